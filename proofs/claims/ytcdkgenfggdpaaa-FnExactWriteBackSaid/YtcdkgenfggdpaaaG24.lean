-- Printed by a program of this session (drive.py, by way of the kit's print). Not trusted: Lean checks it.
import Derived.Test.YtcdkgenfggdpaaaG0
import Derived.Test.YtcdkgenfggdpaaaG6
import Derived.Test.YtcdkgenfggdpaaaG7
import Derived.Test.YtcdkgenfggdpaaaG9
import Derived.Test.YtcdkgenfggdpaaaG10
import Derived.Test.YtcdkgenfggdpaaaG23
namespace Go.Proofs.Ytcdkgenfggdpaaa.G
open Go.RowKit Go.Proofs.YtcdkgenfggdpaaaW.PrintWords Go.Proofs.YtcdkgenfggdpaaaW.PrintLast Go.Proofs.YtcdkgenfggdpaaaW.PrintMore
attribute [local go_sem] max2_int min2_int max_two min_two max_three min_three max_four min_four   -- for this text's walks alone
set_option linter.unusedVariables false
set_option linter.unusedSimpArgs false

/-! ### laws_FnExactWriteBack: function 11 -/
mutual
def laws_FnExactWriteBack.j0 : Nat → Bool → Bool → Bool → List ByteArray → List (S76) → List ByteArray → Int → List ByteArray → List (S72) → List ByteArray → Int → List ByteArray → List (S72) → List ByteArray → Int → List ByteArray → List (S72) → List ByteArray → Int → Option (Bool)
 | 0, _, _, _, _, _, _, _, _, _, _, _, _, _, _, _, _, _, _, _ => none
 | k + 1, x5, x8, x40, x1062000, x1062001, x1062002, x1062003, x1085000, x1085001, x1085002, x1085003, x1096000, x1096001, x1096002, x1096003, x1108000, x1108001, x1108002, x1108003 => if x40 = true then (some false) else ((laws_toStore.f k x1062000 x1062001 x1062002 x1062003).bind fun bt1109 => ((laws_eqStore.f k x1096000 x1096001 x1096002 x1096003 bt1109.1 bt1109.2.1 bt1109.2.2.1 bt1109.2.2.2).bind fun t1119 => (if t1119 = true then ((laws_markStore.f k x1096000 x1096001 x1096002 x1096003 1).bind fun bt1120 => (if bt1120.1 < 0 then (laws_FnExactWriteBack.j1 k x5 true x1062000 x1062001 x1062002 x1062003 x1085000 x1085001 x1085002 x1085003 x1108000 x1108001 x1108002 x1108003) else ((laws_eqStore.f k x1108000 x1108001 x1108002 x1108003 x1085000 x1085001 x1085002 x1085003).bind fun t1124 => (if t1124 = true then (laws_FnExactWriteBack.j1 k x5 (x8 != x5) x1062000 x1062001 x1062002 x1062003 x1085000 x1085001 x1085002 x1085003 x1108000 x1108001 x1108002 x1108003) else (laws_FnExactWriteBack.j1 k x5 true x1062000 x1062001 x1062002 x1062003 x1085000 x1085001 x1085002 x1085003 x1108000 x1108001 x1108002 x1108003))))) else (some false))))
def laws_FnExactWriteBack.j1 : Nat → Bool → Bool → List ByteArray → List (S76) → List ByteArray → Int → List ByteArray → List (S72) → List ByteArray → Int → List ByteArray → List (S72) → List ByteArray → Int → Option (Bool)
 | 0, _, _, _, _, _, _, _, _, _, _, _, _, _, _ => none
 | k + 1, x5, x61, x1062000, x1062001, x1062002, x1062003, x1085000, x1085001, x1085002, x1085003, x1108000, x1108001, x1108002, x1108003 => if x61 = true then (some false) else ((laws_markStore.f k x1108000 x1108001 x1108002 x1108003 1).bind fun bt1125 => ((laws_heldStore.f k bt1125.2.1 bt1125.2.2.1 bt1125.2.2.2 x1108003 1).bind fun t1129 => (if t1129 < 0 then (some false) else (if t1129 = bt1125.1 then ((laws_toStore.f k x1062000 x1062001 x1062002 x1062003).bind fun bt1130 => ((impl_WriteBack.f k bt1130.1 bt1130.2.1 bt1130.2.2.1 bt1130.2.2.2).bind fun bt1140 => ((laws_eqStore.f k bt1140.1 bt1140.2.1 bt1140.2.2.1 bt1140.2.2.2.1 x1085000 x1085001 x1085002 x1085003).bind fun t1152 => (if t1152 = true then (laws_FnExactWriteBack.j2 k bt1125.1 (bt1140.2.2.2.2 != x5) bt1125.2.1 bt1125.2.2.1 bt1125.2.2.2 x1108003) else (laws_FnExactWriteBack.j2 k bt1125.1 true bt1125.2.1 bt1125.2.2.1 bt1125.2.2.2 x1108003))))) else (some false)))))
def laws_FnExactWriteBack.j2 : Nat → Int → Bool → List ByteArray → List (S72) → List ByteArray → Int → Option (Bool)
 | 0, _, _, _, _, _, _ => none
 | k + 1, x10, x87, x1108000, x1108001, x1108002, x1108003 => if x87 = true then (some false) else ((laws_heldStore.f k x1108000 x1108001 x1108002 x1108003 1).bind fun t1153 => (if t1153 < 0 then (some false) else (if t1153 = x10 then (some true) else (some false))))
end
def laws_FnExactWriteBack.f (k : Nat) (l0_0 : List ByteArray) (l0_1 : List (S76)) (l0_2 : List ByteArray) (a0_3 : Int) : Option (Bool) := (laws_szStore.f k l0_0 l0_1 l0_2 a0_3 1048576).bind fun t1062 => (if t1062 < 0 then (some true) else ((laws_toStore.f k l0_0 l0_1 l0_2 a0_3).bind fun bt1063 => ((spec_WriteBack.f k bt1063.1 bt1063.2.1 bt1063.2.2.1 bt1063.2.2.2).bind fun bt1073 => ((laws_toStore.f k l0_0 l0_1 l0_2 a0_3).bind fun bt1085 => ((impl_WriteBack.f k bt1085.1 bt1085.2.1 bt1085.2.2.1 bt1085.2.2.2).bind fun bt1096 => ((laws_eqStore.f k bt1096.1 bt1096.2.1 bt1096.2.2.1 bt1096.2.2.2.1 bt1073.1 bt1073.2.1 bt1073.2.2.1 bt1073.2.2.2.1).bind fun t1108 => (if t1108 = true then (laws_FnExactWriteBack.j0 k bt1073.2.2.2.2 bt1096.2.2.2.2 (bt1096.2.2.2.2 != bt1073.2.2.2.2) l0_0 l0_1 l0_2 a0_3 bt1073.1 bt1073.2.1 bt1073.2.2.1 bt1073.2.2.2.1 bt1085.1 bt1085.2.1 bt1085.2.2.1 bt1085.2.2.2 bt1096.1 bt1096.2.1 bt1096.2.2.1 bt1096.2.2.2.1) else (laws_FnExactWriteBack.j0 k bt1073.2.2.2.2 bt1096.2.2.2.2 true l0_0 l0_1 l0_2 a0_3 bt1073.1 bt1073.2.1 bt1073.2.2.1 bt1073.2.2.2.1 bt1085.1 bt1085.2.1 bt1085.2.2.1 bt1085.2.2.2 bt1096.1 bt1096.2.1 bt1096.2.2.1 bt1096.2.2.2.1))))))))
theorem laws_FnExactWriteBack.mono_l : ∀ k, (∀ y0 y1 y2 y3 y4 y5 y6 y7 y8 y9 y10 y11 y12 y13 y14 y15 y16 y17 y18, LeO (laws_FnExactWriteBack.j0 k y0 y1 y2 y3 y4 y5 y6 y7 y8 y9 y10 y11 y12 y13 y14 y15 y16 y17 y18) (laws_FnExactWriteBack.j0 (k + 1) y0 y1 y2 y3 y4 y5 y6 y7 y8 y9 y10 y11 y12 y13 y14 y15 y16 y17 y18)) ∧ (∀ y0 y1 y2 y3 y4 y5 y6 y7 y8 y9 y10 y11 y12 y13, LeO (laws_FnExactWriteBack.j1 k y0 y1 y2 y3 y4 y5 y6 y7 y8 y9 y10 y11 y12 y13) (laws_FnExactWriteBack.j1 (k + 1) y0 y1 y2 y3 y4 y5 y6 y7 y8 y9 y10 y11 y12 y13)) ∧ (∀ y0 y1 y2 y3 y4 y5, LeO (laws_FnExactWriteBack.j2 k y0 y1 y2 y3 y4 y5) (laws_FnExactWriteBack.j2 (k + 1) y0 y1 y2 y3 y4 y5))
 | 0 => ⟨fun _ _ _ _ _ _ _ _ _ _ _ _ _ _ _ _ _ _ _ r h => by simp [laws_FnExactWriteBack.j0] at h, fun _ _ _ _ _ _ _ _ _ _ _ _ _ _ r h => by simp [laws_FnExactWriteBack.j1] at h, fun _ _ _ _ _ _ r h => by simp [laws_FnExactWriteBack.j2] at h⟩
 | k + 1 => by
  obtain ⟨ih0, ih1, ih2⟩ := laws_FnExactWriteBack.mono_l k
  refine ⟨?_, ?_, ?_⟩
  ·
   intro y0 y1 y2 y3 y4 y5 y6 y7 y8 y9 y10 y11 y12 y13 y14 y15 y16 y17 y18
   unfold laws_FnExactWriteBack.j0
   repeat' first
   | (with_reducible exact ih0 _ _ _ _ _ _ _ _ _ _ _ _ _ _ _ _ _ _ _)
   | (with_reducible exact ih1 _ _ _ _ _ _ _ _ _ _ _ _ _ _)
   | (with_reducible exact ih2 _ _ _ _ _ _)
   | (with_reducible exact impl_WriteBack.mono _ _ _ _ _)
   | (with_reducible exact laws_eqStore.mono _ _ _ _ _ _ _ _ _)
   | (with_reducible exact laws_heldStore.mono _ _ _ _ _ _)
   | (with_reducible exact laws_markStore.mono _ _ _ _ _ _)
   | (with_reducible exact laws_szStore.mono _ _ _ _ _ _)
   | (with_reducible exact laws_toStore.mono _ _ _ _ _)
   | (with_reducible exact spec_WriteBack.mono _ _ _ _ _)
   | (with_reducible exact LeO.refl _)
   | (with_reducible exact LeO.none _)
   | (with_reducible refine LeO.ite ?_ ?_)
   | (with_reducible refine LeO.bind ?_ (fun _ => ?_))
   | exact ih0 _ _ _ _ _ _ _ _ _ _ _ _ _ _ _ _ _ _ _
   | exact ih1 _ _ _ _ _ _ _ _ _ _ _ _ _ _
   | exact ih2 _ _ _ _ _ _
   | exact impl_WriteBack.mono _ _ _ _ _
   | exact laws_eqStore.mono _ _ _ _ _ _ _ _ _
   | exact laws_heldStore.mono _ _ _ _ _ _
   | exact laws_markStore.mono _ _ _ _ _ _
   | exact laws_szStore.mono _ _ _ _ _ _
   | exact laws_toStore.mono _ _ _ _ _
   | exact spec_WriteBack.mono _ _ _ _ _
   | exact LeO.none _
   | refine LeO.ite ?_ ?_
   | refine LeO.bind ?_ (fun _ => ?_)
  ·
   intro y0 y1 y2 y3 y4 y5 y6 y7 y8 y9 y10 y11 y12 y13
   unfold laws_FnExactWriteBack.j1
   repeat' first
   | (with_reducible exact ih0 _ _ _ _ _ _ _ _ _ _ _ _ _ _ _ _ _ _ _)
   | (with_reducible exact ih1 _ _ _ _ _ _ _ _ _ _ _ _ _ _)
   | (with_reducible exact ih2 _ _ _ _ _ _)
   | (with_reducible exact impl_WriteBack.mono _ _ _ _ _)
   | (with_reducible exact laws_eqStore.mono _ _ _ _ _ _ _ _ _)
   | (with_reducible exact laws_heldStore.mono _ _ _ _ _ _)
   | (with_reducible exact laws_markStore.mono _ _ _ _ _ _)
   | (with_reducible exact laws_szStore.mono _ _ _ _ _ _)
   | (with_reducible exact laws_toStore.mono _ _ _ _ _)
   | (with_reducible exact spec_WriteBack.mono _ _ _ _ _)
   | (with_reducible exact LeO.refl _)
   | (with_reducible exact LeO.none _)
   | (with_reducible refine LeO.ite ?_ ?_)
   | (with_reducible refine LeO.bind ?_ (fun _ => ?_))
   | exact ih0 _ _ _ _ _ _ _ _ _ _ _ _ _ _ _ _ _ _ _
   | exact ih1 _ _ _ _ _ _ _ _ _ _ _ _ _ _
   | exact ih2 _ _ _ _ _ _
   | exact impl_WriteBack.mono _ _ _ _ _
   | exact laws_eqStore.mono _ _ _ _ _ _ _ _ _
   | exact laws_heldStore.mono _ _ _ _ _ _
   | exact laws_markStore.mono _ _ _ _ _ _
   | exact laws_szStore.mono _ _ _ _ _ _
   | exact laws_toStore.mono _ _ _ _ _
   | exact spec_WriteBack.mono _ _ _ _ _
   | exact LeO.none _
   | refine LeO.ite ?_ ?_
   | refine LeO.bind ?_ (fun _ => ?_)
  ·
   intro y0 y1 y2 y3 y4 y5
   unfold laws_FnExactWriteBack.j2
   repeat' first
   | (with_reducible exact ih0 _ _ _ _ _ _ _ _ _ _ _ _ _ _ _ _ _ _ _)
   | (with_reducible exact ih1 _ _ _ _ _ _ _ _ _ _ _ _ _ _)
   | (with_reducible exact ih2 _ _ _ _ _ _)
   | (with_reducible exact impl_WriteBack.mono _ _ _ _ _)
   | (with_reducible exact laws_eqStore.mono _ _ _ _ _ _ _ _ _)
   | (with_reducible exact laws_heldStore.mono _ _ _ _ _ _)
   | (with_reducible exact laws_markStore.mono _ _ _ _ _ _)
   | (with_reducible exact laws_szStore.mono _ _ _ _ _ _)
   | (with_reducible exact laws_toStore.mono _ _ _ _ _)
   | (with_reducible exact spec_WriteBack.mono _ _ _ _ _)
   | (with_reducible exact LeO.refl _)
   | (with_reducible exact LeO.none _)
   | (with_reducible refine LeO.ite ?_ ?_)
   | (with_reducible refine LeO.bind ?_ (fun _ => ?_))
   | exact ih0 _ _ _ _ _ _ _ _ _ _ _ _ _ _ _ _ _ _ _
   | exact ih1 _ _ _ _ _ _ _ _ _ _ _ _ _ _
   | exact ih2 _ _ _ _ _ _
   | exact impl_WriteBack.mono _ _ _ _ _
   | exact laws_eqStore.mono _ _ _ _ _ _ _ _ _
   | exact laws_heldStore.mono _ _ _ _ _ _
   | exact laws_markStore.mono _ _ _ _ _ _
   | exact laws_szStore.mono _ _ _ _ _ _
   | exact laws_toStore.mono _ _ _ _ _
   | exact spec_WriteBack.mono _ _ _ _ _
   | exact LeO.none _
   | refine LeO.ite ?_ ?_
   | refine LeO.bind ?_ (fun _ => ?_)
theorem laws_FnExactWriteBack.mono : ∀ a0 a1 a2 a3 k, LeO (laws_FnExactWriteBack.f k a0 a1 a2 a3) (laws_FnExactWriteBack.f (k + 1) a0 a1 a2 a3) := by
 intro a0 a1 a2 a3 k
 obtain ⟨ih0, ih1, ih2⟩ := laws_FnExactWriteBack.mono_l k
 unfold laws_FnExactWriteBack.f
 repeat' first
   | (with_reducible exact ih0 _ _ _ _ _ _ _ _ _ _ _ _ _ _ _ _ _ _ _)
   | (with_reducible exact ih1 _ _ _ _ _ _ _ _ _ _ _ _ _ _)
   | (with_reducible exact ih2 _ _ _ _ _ _)
   | (with_reducible exact impl_WriteBack.mono _ _ _ _ _)
   | (with_reducible exact laws_eqStore.mono _ _ _ _ _ _ _ _ _)
   | (with_reducible exact laws_heldStore.mono _ _ _ _ _ _)
   | (with_reducible exact laws_markStore.mono _ _ _ _ _ _)
   | (with_reducible exact laws_szStore.mono _ _ _ _ _ _)
   | (with_reducible exact laws_toStore.mono _ _ _ _ _)
   | (with_reducible exact spec_WriteBack.mono _ _ _ _ _)
   | (with_reducible exact LeO.refl _)
   | (with_reducible exact LeO.none _)
   | (with_reducible refine LeO.ite ?_ ?_)
   | (with_reducible refine LeO.bind ?_ (fun _ => ?_))
   | exact ih0 _ _ _ _ _ _ _ _ _ _ _ _ _ _ _ _ _ _ _
   | exact ih1 _ _ _ _ _ _ _ _ _ _ _ _ _ _
   | exact ih2 _ _ _ _ _ _
   | exact impl_WriteBack.mono _ _ _ _ _
   | exact laws_eqStore.mono _ _ _ _ _ _ _ _ _
   | exact laws_heldStore.mono _ _ _ _ _ _
   | exact laws_markStore.mono _ _ _ _ _ _
   | exact laws_szStore.mono _ _ _ _ _ _
   | exact laws_toStore.mono _ _ _ _ _
   | exact spec_WriteBack.mono _ _ _ _ _
   | exact LeO.none _
   | refine LeO.ite ?_ ?_
   | refine LeO.bind ?_ (fun _ => ?_)
set_option maxHeartbeats 8000000 in
set_option maxRecDepth 100000 in
theorem laws_FnExactWriteBack.calls (k : Nat) (A0_0 : Option Addr) (c0_0 : Nat) (l0_0 : List ByteArray) (A0_1 : Option Addr) (c0_1 : Nat) (l0_1 : List (S76)) (A0_2 : Option Addr) (c0_2 : Nat) (l0_2 : List ByteArray) (a0_3 : Int) (r : Bool) (w : World) (hr0_0 : Kd.C Kd.string w A0_0 l0_0.length l0_0) (hc0_0 : l0_0.length ≤ c0_0) (hr0_1 : Kd.C k76 w A0_1 l0_1.length l0_1) (hc0_1 : l0_1.length ≤ c0_1) (hr0_2 : Kd.C Kd.string w A0_2 l0_2.length l0_2) (hc0_2 : l0_2.length ≤ c0_2) (h : laws_FnExactWriteBack.f k l0_0 l0_1 l0_2 a0_3 = some r) :
  Calls Try.prog 11 #[.agg #[.slice A0_0 l0_0.length c0_0, .slice A0_1 l0_1.length c0_1, .slice A0_2 l0_2.length c0_2, .int .i64 a0_3]] w fun e w' => e = .returned (.bool r) ∧ Below w.heap.size w w' := by
 have hu38 := Try.underlying38
 have hu44 := Try.underlying44
 have HR0_0 := Aside0.mk hr0_0
 have HC0_0 := Aside0.mk hc0_0
 clear hr0_0 hc0_0
 have HR0_1 := Aside0.mk hr0_1
 have HC0_1 := Aside0.mk hc0_1
 clear hr0_1 hc0_1
 have HR0_2 := Aside0.mk hr0_2
 have HC0_2 := Aside0.mk hc0_2
 clear hr0_2 hc0_2
 have HB := Aside0.mk (Below.refl w.heap.size w)
 have H : ((laws_szStore.f k l0_0 l0_1 l0_2 a0_3 1048576).bind fun t1062 => (if t1062 < 0 then (some true) else ((laws_toStore.f k l0_0 l0_1 l0_2 a0_3).bind fun bt1063 => ((spec_WriteBack.f k bt1063.1 bt1063.2.1 bt1063.2.2.1 bt1063.2.2.2).bind fun bt1073 => ((laws_toStore.f k l0_0 l0_1 l0_2 a0_3).bind fun bt1085 => ((impl_WriteBack.f k bt1085.1 bt1085.2.1 bt1085.2.2.1 bt1085.2.2.2).bind fun bt1096 => ((laws_eqStore.f k bt1096.1 bt1096.2.1 bt1096.2.2.1 bt1096.2.2.2.1 bt1073.1 bt1073.2.1 bt1073.2.2.1 bt1073.2.2.2.1).bind fun t1108 => (if t1108 = true then (laws_FnExactWriteBack.j0 k bt1073.2.2.2.2 bt1096.2.2.2.2 (bt1096.2.2.2.2 != bt1073.2.2.2.2) l0_0 l0_1 l0_2 a0_3 bt1073.1 bt1073.2.1 bt1073.2.2.1 bt1073.2.2.2.1 bt1085.1 bt1085.2.1 bt1085.2.2.1 bt1085.2.2.2 bt1096.1 bt1096.2.1 bt1096.2.2.1 bt1096.2.2.2.1) else (laws_FnExactWriteBack.j0 k bt1073.2.2.2.2 bt1096.2.2.2.2 true l0_0 l0_1 l0_2 a0_3 bt1073.1 bt1073.2.1 bt1073.2.2.1 bt1073.2.2.2.1 bt1085.1 bt1085.2.1 bt1085.2.2.1 bt1085.2.2.2 bt1096.1 bt1096.2.1 bt1096.2.2.1 bt1096.2.2.2.1))))))))) = some r := h
 clear h
 replace H := Option.bind_eq_some_iff.mp H
 obtain ⟨t1062, A20, H⟩ := H
 replace H : (if t1062 < 0 then (some true) else ((laws_toStore.f k l0_0 l0_1 l0_2 a0_3).bind fun bt1063 => ((spec_WriteBack.f k bt1063.1 bt1063.2.1 bt1063.2.2.1 bt1063.2.2.2).bind fun bt1073 => ((laws_toStore.f k l0_0 l0_1 l0_2 a0_3).bind fun bt1085 => ((impl_WriteBack.f k bt1085.1 bt1085.2.1 bt1085.2.2.1 bt1085.2.2.2).bind fun bt1096 => ((laws_eqStore.f k bt1096.1 bt1096.2.1 bt1096.2.2.1 bt1096.2.2.2.1 bt1073.1 bt1073.2.1 bt1073.2.2.1 bt1073.2.2.2.1).bind fun t1108 => (if t1108 = true then (laws_FnExactWriteBack.j0 k bt1073.2.2.2.2 bt1096.2.2.2.2 (bt1096.2.2.2.2 != bt1073.2.2.2.2) l0_0 l0_1 l0_2 a0_3 bt1073.1 bt1073.2.1 bt1073.2.2.1 bt1073.2.2.2.1 bt1085.1 bt1085.2.1 bt1085.2.2.1 bt1085.2.2.2 bt1096.1 bt1096.2.1 bt1096.2.2.1 bt1096.2.2.2.1) else (laws_FnExactWriteBack.j0 k bt1073.2.2.2.2 bt1096.2.2.2.2 true l0_0 l0_1 l0_2 a0_3 bt1073.1 bt1073.2.1 bt1073.2.2.1 bt1073.2.2.2.1 bt1085.1 bt1085.2.1 bt1085.2.2.1 bt1085.2.2.2 bt1096.1 bt1096.2.1 bt1096.2.2.1 bt1096.2.2.2.1)))))))) = some r := H
 have A2 := Aside0.mk A20
 clear A20
 by_cases c3 : t1062 < 0
 ·
  rw [if_pos c3] at H
  have c3b0 : decide (t1062 < 0) = true := decide_eq_true c3
  clear c3
  obtain rfl := Option.some.inj H
  go_enter Try.func11, Try.ntmps11
  go_wp2_with (first | ((with_reducible refine gate_dst (N := 1) rfl ?_); refine box_event ?hg (N := 1) ?hd (cs := #[.slice A0_0 l0_0.length c0_0, .slice A0_1 l0_1.length c0_1, .slice A0_2 l0_2.length c0_2, .int .i64 a0_3]) (t := 38) ?hr ?_; (case hd => rfl); (case hg => rfl); (case hr => first | (go_simp; done) | (go_simp; rfl)); intro gb1061 hg w4 hbox hb; have BK1061 := Aside0.mk (hbox); have GW1061 := Aside0.mk ((by rw [hg]; exact (below_size (bs HB)) : w.heap.size ≤ gb1061)); have GE1061 := Aside0.mk ((by rw [hg]; exact (below_size (bs HB)) : w.heap.size ≤ gb1061)); replace HB := Aside0.mk (below_step (bs HB) hb); clear hb hbox hg; obtain ⟨hcz5_0, hcz5_1, hcz5_2, hcz5_3⟩ := cz4 BK1061; obtain ⟨hfz5_0, hfz5_1, hfz5_2, hfz5_3⟩ := fz4 BK1061) | ((with_reducible refine gate_callee (f := 25) rfl ?_); refine gL (some 16) rfl rfl Try.func25 (by kernel_rfl) rfl #[.agg #[.slice A0_0 l0_0.length c0_0, .slice A0_1 l0_1.length c0_1, .slice A0_2 l0_2.length c0_2, .int .i64 a0_3], .int .i64 1048576] rfl ?_; (with_reducible refine (laws_szStore.calls k _ _ l0_0 _ _ l0_1 _ _ l0_2 a0_3 1048576 t1062 _ ?side1 ?side2 ?side3 ?side4 ?side5 ?side6 A2.out).mono ?_); (case side1 => exact cb HR0_0 HB); (case side2 => exact HC0_0.out); (case side3 => exact cb HR0_1 HB); (case side4 => exact HC0_1.out); (case side5 => exact cb HR0_2 HB); (case side6 => exact HC0_2.out); rintro e w6 ⟨rfl, hb⟩; refine ⟨_, rfl, ?_⟩; replace BK1061 := nb BK1061 hb; replace HB := Aside0.mk (below_step (bs1 HB GE1061) hb); (try clear hb); (try clear hb2); (try clear hk); (try clear hi)))
  go_ret
  exact ⟨by first | rfl | (simp [errW_none, errW_some] <;> rfl) | (simp [*, errW_none, errW_some] <;> rfl), bs1 HB GE1061⟩
 ·
  rw [if_neg c3] at H
  have c3b0 : decide (t1062 < 0) = false := decide_eq_false c3
  clear c3
  replace H := Option.bind_eq_some_iff.mp H
  obtain ⟨⟨t1063, t1066, t1069, t1072⟩, A70, H⟩ := H
  replace H : ((spec_WriteBack.f k t1063 t1066 t1069 t1072).bind fun bt1073 => ((laws_toStore.f k l0_0 l0_1 l0_2 a0_3).bind fun bt1085 => ((impl_WriteBack.f k bt1085.1 bt1085.2.1 bt1085.2.2.1 bt1085.2.2.2).bind fun bt1096 => ((laws_eqStore.f k bt1096.1 bt1096.2.1 bt1096.2.2.1 bt1096.2.2.2.1 bt1073.1 bt1073.2.1 bt1073.2.2.1 bt1073.2.2.2.1).bind fun t1108 => (if t1108 = true then (laws_FnExactWriteBack.j0 k bt1073.2.2.2.2 bt1096.2.2.2.2 (bt1096.2.2.2.2 != bt1073.2.2.2.2) l0_0 l0_1 l0_2 a0_3 bt1073.1 bt1073.2.1 bt1073.2.2.1 bt1073.2.2.2.1 bt1085.1 bt1085.2.1 bt1085.2.2.1 bt1085.2.2.2 bt1096.1 bt1096.2.1 bt1096.2.2.1 bt1096.2.2.2.1) else (laws_FnExactWriteBack.j0 k bt1073.2.2.2.2 bt1096.2.2.2.2 true l0_0 l0_1 l0_2 a0_3 bt1073.1 bt1073.2.1 bt1073.2.2.1 bt1073.2.2.2.1 bt1085.1 bt1085.2.1 bt1085.2.2.1 bt1085.2.2.2 bt1096.1 bt1096.2.1 bt1096.2.2.1 bt1096.2.2.2.1)))))) = some r := H
  have A7 := Aside0.mk A70
  clear A70
  replace H := Option.bind_eq_some_iff.mp H
  obtain ⟨⟨t1073, t1076, t1079, t1082, t1083⟩, A80, H⟩ := H
  replace H : ((laws_toStore.f k l0_0 l0_1 l0_2 a0_3).bind fun bt1085 => ((impl_WriteBack.f k bt1085.1 bt1085.2.1 bt1085.2.2.1 bt1085.2.2.2).bind fun bt1096 => ((laws_eqStore.f k bt1096.1 bt1096.2.1 bt1096.2.2.1 bt1096.2.2.2.1 t1073 t1076 t1079 t1082).bind fun t1108 => (if t1108 = true then (laws_FnExactWriteBack.j0 k t1083 bt1096.2.2.2.2 (bt1096.2.2.2.2 != t1083) l0_0 l0_1 l0_2 a0_3 t1073 t1076 t1079 t1082 bt1085.1 bt1085.2.1 bt1085.2.2.1 bt1085.2.2.2 bt1096.1 bt1096.2.1 bt1096.2.2.1 bt1096.2.2.2.1) else (laws_FnExactWriteBack.j0 k t1083 bt1096.2.2.2.2 true l0_0 l0_1 l0_2 a0_3 t1073 t1076 t1079 t1082 bt1085.1 bt1085.2.1 bt1085.2.2.1 bt1085.2.2.2 bt1096.1 bt1096.2.1 bt1096.2.2.1 bt1096.2.2.2.1))))) = some r := H
  have A8 := Aside0.mk A80
  clear A80
  replace H := Option.bind_eq_some_iff.mp H
  obtain ⟨⟨t1085, t1088, t1091, t1094⟩, A90, H⟩ := H
  replace H : ((impl_WriteBack.f k t1085 t1088 t1091 t1094).bind fun bt1096 => ((laws_eqStore.f k bt1096.1 bt1096.2.1 bt1096.2.2.1 bt1096.2.2.2.1 t1073 t1076 t1079 t1082).bind fun t1108 => (if t1108 = true then (laws_FnExactWriteBack.j0 k t1083 bt1096.2.2.2.2 (bt1096.2.2.2.2 != t1083) l0_0 l0_1 l0_2 a0_3 t1073 t1076 t1079 t1082 t1085 t1088 t1091 t1094 bt1096.1 bt1096.2.1 bt1096.2.2.1 bt1096.2.2.2.1) else (laws_FnExactWriteBack.j0 k t1083 bt1096.2.2.2.2 true l0_0 l0_1 l0_2 a0_3 t1073 t1076 t1079 t1082 t1085 t1088 t1091 t1094 bt1096.1 bt1096.2.1 bt1096.2.2.1 bt1096.2.2.2.1)))) = some r := H
  have A9 := Aside0.mk A90
  clear A90
  replace H := Option.bind_eq_some_iff.mp H
  obtain ⟨⟨t1096, t1099, t1102, t1105, t1106⟩, A100, H⟩ := H
  replace H : ((laws_eqStore.f k t1096 t1099 t1102 t1105 t1073 t1076 t1079 t1082).bind fun t1108 => (if t1108 = true then (laws_FnExactWriteBack.j0 k t1083 t1106 (t1106 != t1083) l0_0 l0_1 l0_2 a0_3 t1073 t1076 t1079 t1082 t1085 t1088 t1091 t1094 t1096 t1099 t1102 t1105) else (laws_FnExactWriteBack.j0 k t1083 t1106 true l0_0 l0_1 l0_2 a0_3 t1073 t1076 t1079 t1082 t1085 t1088 t1091 t1094 t1096 t1099 t1102 t1105))) = some r := H
  have A10 := Aside0.mk A100
  clear A100
  have HC11 := Aside0.mk H
  clear H
  go_enter Try.func11, Try.ntmps11
  go_upto_region 8 with (first | ((with_reducible refine gate_dst (N := 1) rfl ?_); refine box_event ?hg (N := 1) ?hd (cs := #[.slice A0_0 l0_0.length c0_0, .slice A0_1 l0_1.length c0_1, .slice A0_2 l0_2.length c0_2, .int .i64 a0_3]) (t := 38) ?hr ?_; (case hd => rfl); (case hg => rfl); (case hr => first | (go_simp; done) | (go_simp; rfl)); intro gb1061 hg w12 hbox hb; have BK1061 := Aside0.mk (hbox); have GW1061 := Aside0.mk ((by rw [hg]; exact (below_size (bs HB)) : w.heap.size ≤ gb1061)); have GE1061 := Aside0.mk ((by rw [hg]; exact (below_size (bs HB)) : w.heap.size ≤ gb1061)); replace HB := Aside0.mk (below_step (bs HB) hb); clear hb hbox hg; obtain ⟨hcz13_0, hcz13_1, hcz13_2, hcz13_3⟩ := cz4 BK1061; obtain ⟨hfz13_0, hfz13_1, hfz13_2, hfz13_3⟩ := fz4 BK1061) | ((with_reducible refine gate_callee (f := 25) rfl ?_); refine gL (some 16) rfl rfl Try.func25 (by kernel_rfl) rfl #[.agg #[.slice A0_0 l0_0.length c0_0, .slice A0_1 l0_1.length c0_1, .slice A0_2 l0_2.length c0_2, .int .i64 a0_3], .int .i64 1048576] rfl ?_; (with_reducible refine (laws_szStore.calls k _ _ l0_0 _ _ l0_1 _ _ l0_2 a0_3 1048576 t1062 _ ?side1 ?side2 ?side3 ?side4 ?side5 ?side6 A2.out).mono ?_); (case side1 => exact cb HR0_0 HB); (case side2 => exact HC0_0.out); (case side3 => exact cb HR0_1 HB); (case side4 => exact HC0_1.out); (case side5 => exact cb HR0_2 HB); (case side6 => exact HC0_2.out); rintro e w14 ⟨rfl, hb⟩; refine ⟨_, rfl, ?_⟩; replace BK1061 := nb BK1061 hb; replace HB := Aside0.mk (below_step (bs1 HB GE1061) hb); (try clear hb); (try clear hb2); (try clear hk); (try clear hi); obtain ⟨hcz15_0, hcz15_1, hcz15_2, hcz15_3⟩ := cz4 BK1061; obtain ⟨hfz15_0, hfz15_1, hfz15_2, hfz15_3⟩ := fz4 BK1061) | ((with_reducible refine gate_callee (f := 27) rfl ?_); refine gL (some 21) rfl rfl Try.func27 (by kernel_rfl) rfl #[.agg #[.slice A0_0 l0_0.length c0_0, .slice A0_1 l0_1.length c0_1, .slice A0_2 l0_2.length c0_2, .int .i64 a0_3]] rfl ?_; (with_reducible refine (laws_toStore.calls k _ _ l0_0 _ _ l0_1 _ _ l0_2 a0_3 t1063 t1066 t1069 t1072 _ ?side1 ?side2 ?side3 ?side4 ?side5 ?side6 A7.out).mono ?_); (case side1 => exact cb HR0_0 HB); (case side2 => exact HC0_0.out); (case side3 => exact cb HR0_1 HB); (case side4 => exact HC0_1.out); (case side5 => exact cb HR0_2 HB); (case side6 => exact HC0_2.out); rintro e w16 ⟨v1064, v1067, v1070, rfl, ho0, ho1, ho2, hb⟩; refine ⟨_, rfl, ?_⟩; have HO1065 := Aside0.mk (Kd.R_lower ho0 (below_size (bs1 HB GE1061))); have HO1068 := Aside0.mk (Kd.R_lower ho1 (below_size (bs1 HB GE1061))); have HO1071 := Aside0.mk (Kd.R_lower ho2 (below_size (bs1 HB GE1061))); replace BK1061 := nb BK1061 hb; replace HB := Aside0.mk (below_step (bs1 HB GE1061) hb); (try clear hb); (try clear hb2); (try clear hk); (try clear hi); (try clear ho0); (try clear ho1); (try clear ho2); obtain ⟨Ao17, co17, eo17⟩ := Kd.R_slice HO1065.out; subst eo17; obtain ⟨Ao18, co18, eo18⟩ := Kd.R_slice HO1068.out; subst eo18; obtain ⟨Ao19, co19, eo19⟩ := Kd.R_slice HO1071.out; subst eo19) | ((with_reducible refine gate_callee (f := 45) rfl ?_); refine gL (some 22) rfl rfl Try.func45 (by kernel_rfl) rfl #[.agg #[.slice Ao17 t1063.length co17, .slice Ao18 t1066.length co18, .slice Ao19 t1069.length co19, .int .i64 t1072]] rfl ?_; (with_reducible refine (spec_WriteBack.calls k _ _ t1063 _ _ t1066 _ _ t1069 t1072 t1073 t1076 t1079 t1082 t1083 _ ?side1 ?side2 ?side3 ?side4 ?side5 ?side6 A8.out).mono ?_); (case side1 => exact rc0 HO1065); (case side2 => exact (Kd.R_reads' HO1065.out).2.1); (case side3 => exact rc0 HO1068); (case side4 => exact (Kd.R_reads' HO1068.out).2.1); (case side5 => exact rc0 HO1071); (case side6 => exact (Kd.R_reads' HO1071.out).2.1); rintro e w20 ⟨v1074, v1077, v1080, rfl, ho0, ho1, ho2, hb⟩; refine ⟨_, rfl, ?_⟩; have HO1075 := Aside0.mk (Kd.V_lower (Kd.V_mono (ok' := fun k_ => some k_ ≠ (v1080 : Value).ownBlock ∧ some k_ ≠ (.slice Ao17 t1063.length co17 : Value).ownBlock ∧ some k_ ≠ (.slice Ao18 t1066.length co18 : Value).ownBlock ∧ some k_ ≠ (.slice Ao19 t1069.length co19 : Value).ownBlock ∧ k_ ≠ gb1061) ho0 (fun k_ hk_ => ⟨hk_.2, (Kd.fresh' (Kd.R_lt (rr HO1065.out)) k_ hk_.1), (Kd.fresh' (Kd.R_lt (rr HO1068.out)) k_ hk_.1), (Kd.fresh' (Kd.R_lt (rr HO1071.out)) k_ hk_.1), (Kd.freshB (bk BK1061) k_ hk_.1)⟩)) (below_size (bs1 HB GE1061))); have HO1078 := Aside0.mk (Kd.V_lower (Kd.V_mono (ok' := fun k_ => some k_ ≠ (v1080 : Value).ownBlock ∧ some k_ ≠ (.slice Ao17 t1063.length co17 : Value).ownBlock ∧ some k_ ≠ (.slice Ao18 t1066.length co18 : Value).ownBlock ∧ some k_ ≠ (.slice Ao19 t1069.length co19 : Value).ownBlock ∧ k_ ≠ gb1061) ho1 (fun k_ hk_ => ⟨hk_.2, (Kd.fresh' (Kd.R_lt (rr HO1065.out)) k_ hk_.1), (Kd.fresh' (Kd.R_lt (rr HO1068.out)) k_ hk_.1), (Kd.fresh' (Kd.R_lt (rr HO1071.out)) k_ hk_.1), (Kd.freshB (bk BK1061) k_ hk_.1)⟩)) (below_size (bs1 HB GE1061))); replace HO1068 := nr HO1068 hb; have HO1081 := Aside0.mk (Kd.R_lower (Kd.R_new' (Kd.R_new' (Kd.R_mono (ok' := fun k_ => True) ho2 (fun _ hk_ => trivial)) (Kd.R_lt (rr HO1065.out))) (Kd.R_lt (rr HO1071.out))) (below_size (bs1 HB GE1061))); replace HO1065 := Aside0.mk (Kd.R_elder' (rr HO1065.out) (Kd.R_base ho2) hb); replace HO1071 := Aside0.mk (Kd.R_elder' (rr HO1071.out) (Kd.R_base ho2) hb); replace BK1061 := nb BK1061 hb; replace HB := Aside0.mk (below_step (bs1 HB GE1061) hb); (try clear hb); (try clear hb2); (try clear hk); (try clear hi); (try clear ho0); (try clear ho1); (try clear ho2)) | ((with_reducible refine gate_dst (N := 4) rfl ?_); refine box_event ?hg (N := 4) ?hd (cs := #[.slice none 0 0, .slice none 0 0, .slice none 0 0, .int .i64 0]) (t := 44) ?hr ?_; (case hd => rfl); (case hg => rfl); (case hr => first | (go_simp; done) | (go_simp; rfl)); intro gb1084 hg w21 hbox hb; replace HO1065 := nr HO1065 hb; replace HO1068 := nr HO1068 hb; replace HO1071 := nr HO1071 hb; replace HO1075 := Aside0.mk (Kd.V_below (Kd.V_elderB (by (with_reducible repeat (first | apply Kd.V_alloc | apply Kd.V_drewN | apply Kd.V_drew)); exact HO1075.out) gb1084 (Nat.le_of_eq hg.symm)) hb); replace HO1078 := Aside0.mk (Kd.V_below (Kd.V_elderB (by (with_reducible repeat (first | apply Kd.V_alloc | apply Kd.V_drewN | apply Kd.V_drew)); exact HO1078.out) gb1084 (Nat.le_of_eq hg.symm)) hb); replace HO1081 := nr HO1081 hb; have BK1084 := Aside0.mk (hbox); have GW1084 := Aside0.mk ((by rw [hg]; exact (below_size (bs1 HB GE1061)) : w.heap.size ≤ gb1084)); have GE1084 := Aside0.mk ((by rw [hg]; exact (below_size (bs1 HB GE1061)) : w.heap.size ≤ gb1084)); replace HB := Aside0.mk (below_step (bs1 HB GE1061) hb); have NB1061_1084 := Aside0.mk ((bn BK1061 hg : gb1061 ≠ gb1084)); have NB1084_1061 := Aside0.mk ((bm BK1061 hg : gb1084 ≠ gb1061)); replace BK1061 := nb BK1061 hb; clear hb hbox hg; obtain ⟨Ao22, co22, eo22⟩ := Kd.V_slice HO1075.out; subst eo22; have hnb23 := NB1084_1061.out; have hnc23 := NB1061_1084.out; obtain ⟨hcz24_0, hcz24_1, hcz24_2, hcz24_3⟩ := cz4 BK1084; obtain ⟨hfz24_0, hfz24_1, hfz24_2, hfz24_3⟩ := fz4 BK1084; obtain ⟨Ao25, co25, eo25⟩ := Kd.V_slice HO1078.out; subst eo25; obtain ⟨Ao26, co26, eo26⟩ := Kd.R_slice HO1081.out; subst eo26; obtain ⟨hcz27_0, hcz27_1, hcz27_2, hcz27_3⟩ := cz4 BK1061; obtain ⟨hfz27_0, hfz27_1, hfz27_2, hfz27_3⟩ := fz4 BK1061) | ((with_reducible refine gate_callee (f := 27) rfl ?_); refine gL (some 26) rfl rfl Try.func27 (by kernel_rfl) rfl #[.agg #[.slice A0_0 l0_0.length c0_0, .slice A0_1 l0_1.length c0_1, .slice A0_2 l0_2.length c0_2, .int .i64 a0_3]] rfl ?_; (with_reducible refine (laws_toStore.calls k _ _ l0_0 _ _ l0_1 _ _ l0_2 a0_3 t1085 t1088 t1091 t1094 _ ?side1 ?side2 ?side3 ?side4 ?side5 ?side6 A9.out).mono ?_); (case side1 => exact Kd.C_below HR0_0.out (bs2 HB GE1061 GE1084)); (case side2 => exact HC0_0.out); (case side3 => exact Kd.C_below HR0_1.out (bs2 HB GE1061 GE1084)); (case side4 => exact HC0_1.out); (case side5 => exact Kd.C_below HR0_2.out (bs2 HB GE1061 GE1084)); (case side6 => exact HC0_2.out); rintro e w28 ⟨v1086, v1089, v1092, rfl, ho0, ho1, ho2, hb⟩; refine ⟨_, rfl, ?_⟩; replace HO1075 := Aside0.mk (Kd.V_mono (Kd.V_told (Kd.V_told (Kd.V_told (Kd.V_old (by (with_reducible repeat (first | apply Kd.V_alloc | apply Kd.V_drewN | apply Kd.V_drew)); exact (Kd.V_mono (Kd.V_far (p := ⟨gb1084, 3, none⟩) (Kd.V_far (p := ⟨gb1084, 2, none⟩) (Kd.V_far (p := ⟨gb1084, 1, none⟩) (Kd.V_far (p := ⟨gb1084, 0, none⟩) (Kd.V_mono HO1075.out (fun k_ hk => (⟨hk, hk.2⟩ : _ ∧ k_ ≠ gb1084))) (fun _ hk => hk.2) (.slice Ao22 t1073.length co22)) (fun _ hk => hk.2) (.slice Ao25 t1076.length co25)) (fun _ hk => hk.2) (.slice Ao26 t1079.length co26)) (fun _ hk => hk.2) (.int .i64 t1082)) (fun _ h_ => h_.1))) hb) (Kd.R_base ho0)) (Kd.R_base ho1)) (Kd.R_base ho2)) (fun _ h_ => h_.1)); replace HO1078 := Aside0.mk (Kd.V_mono (Kd.V_told (Kd.V_told (Kd.V_told (Kd.V_old (by (with_reducible repeat (first | apply Kd.V_alloc | apply Kd.V_drewN | apply Kd.V_drew)); exact (Kd.V_mono (Kd.V_far (p := ⟨gb1084, 3, none⟩) (Kd.V_far (p := ⟨gb1084, 2, none⟩) (Kd.V_far (p := ⟨gb1084, 1, none⟩) (Kd.V_far (p := ⟨gb1084, 0, none⟩) (Kd.V_mono HO1078.out (fun k_ hk => (⟨hk, hk.2⟩ : _ ∧ k_ ≠ gb1084))) (fun _ hk => hk.2) (.slice Ao22 t1073.length co22)) (fun _ hk => hk.2) (.slice Ao25 t1076.length co25)) (fun _ hk => hk.2) (.slice Ao26 t1079.length co26)) (fun _ hk => hk.2) (.int .i64 t1082)) (fun _ h_ => h_.1))) hb) (Kd.R_base ho0)) (Kd.R_base ho1)) (Kd.R_base ho2)) (fun _ h_ => h_.1)); have HO1087 := Aside0.mk (Kd.R_lower (Kd.R_new' (Kd.R_new' (Kd.R_new' ho0 (Kd.R_lt (rf HO1065 BK1084))) (Kd.R_lt (rf HO1071 BK1084))) (Kd.R_lt (rf HO1081 BK1084))) (below_size (bs2 HB GE1061 GE1084))); have HO1090 := Aside0.mk (Kd.R_lower (Kd.R_new' ho1 (Kd.R_lt (rf HO1068 BK1084))) (below_size (bs2 HB GE1061 GE1084))); replace HO1068 := Aside0.mk (Kd.R_elder' (rf HO1068 BK1084) (Kd.R_base ho1) hb); have HO1093 := Aside0.mk (Kd.R_lower (Kd.R_new' (Kd.R_new' (Kd.R_new' ho2 (Kd.R_lt (rf HO1065 BK1084))) (Kd.R_lt (rf HO1071 BK1084))) (Kd.R_lt (rf HO1081 BK1084))) (below_size (bs2 HB GE1061 GE1084))); replace HO1065 := Aside0.mk (Kd.R_mono (Kd.R_told (Kd.R_told (Kd.R_old (rf HO1065 BK1084) hb) (Kd.R_base ho0)) (Kd.R_base ho2)) (fun _ h_ => h_.1)); replace HO1071 := Aside0.mk (Kd.R_mono (Kd.R_told (Kd.R_told (Kd.R_old (rf HO1071 BK1084) hb) (Kd.R_base ho0)) (Kd.R_base ho2)) (fun _ h_ => h_.1)); replace HO1081 := Aside0.mk (Kd.R_mono (Kd.R_told (Kd.R_told (Kd.R_old (rf HO1081 BK1084) hb) (Kd.R_base ho0)) (Kd.R_base ho2)) (fun _ h_ => h_.1)); replace BK1061 := Aside0.mk (blk_below (bf BK1061 NB1061_1084) hb); replace BK1084 := Aside0.mk (blk_below (g := gb1084) (o := .cells #[.slice Ao22 t1073.length co22, .slice Ao25 t1076.length co25, .slice Ao26 t1079.length co26, .int .i64 t1082] 44 (0, 0)) (by (with_reducible repeat (first | refine blk_drewN ?_ _ | refine blk_drew ?_ | refine blk_alloc ?_ _)); refine blk_put (cs := #[.slice Ao22 t1073.length co22, .slice Ao25 t1076.length co25, .slice Ao26 t1079.length co26, .int .i64 0]) ?_ 3 _ rfl; (with_reducible repeat (first | refine blk_drewN ?_ _ | refine blk_drew ?_ | refine blk_alloc ?_ _)); refine blk_put (cs := #[.slice Ao22 t1073.length co22, .slice Ao25 t1076.length co25, .slice none 0 0, .int .i64 0]) ?_ 2 _ rfl; (with_reducible repeat (first | refine blk_drewN ?_ _ | refine blk_drew ?_ | refine blk_alloc ?_ _)); refine blk_put (cs := #[.slice Ao22 t1073.length co22, .slice none 0 0, .slice none 0 0, .int .i64 0]) ?_ 1 _ rfl; (with_reducible repeat (first | refine blk_drewN ?_ _ | refine blk_drew ?_ | refine blk_alloc ?_ _)); refine blk_put (cs := #[.slice none 0 0, .slice none 0 0, .slice none 0 0, .int .i64 0]) ?_ 0 _ rfl; (with_reducible repeat (first | refine blk_drewN ?_ _ | refine blk_drew ?_ | refine blk_alloc ?_ _)); exact BK1084.out) hb); replace HB := Aside0.mk (below_step (bs2 HB GE1061 GE1084) hb); (try clear hb); (try clear hb2); (try clear hk); (try clear hi); (try clear ho0); (try clear ho1); (try clear ho2)) | ((with_reducible refine gate_dst (N := 6) rfl ?_); refine box_event ?hg (N := 6) ?hd (cs := #[.slice none 0 0, .slice none 0 0, .slice none 0 0, .int .i64 0]) (t := 44) ?hr ?_; (case hd => rfl); (case hg => rfl); (case hr => first | (go_simp; done) | (go_simp; rfl)); intro gb1095 hg w29 hbox hb; replace HO1065 := nr HO1065 hb; replace HO1068 := nr HO1068 hb; replace HO1071 := nr HO1071 hb; replace HO1075 := Aside0.mk (Kd.V_below (Kd.V_elderB (by (with_reducible repeat (first | apply Kd.V_alloc | apply Kd.V_drewN | apply Kd.V_drew)); exact HO1075.out) gb1095 (Nat.le_of_eq hg.symm)) hb); replace HO1078 := Aside0.mk (Kd.V_below (Kd.V_elderB (by (with_reducible repeat (first | apply Kd.V_alloc | apply Kd.V_drewN | apply Kd.V_drew)); exact HO1078.out) gb1095 (Nat.le_of_eq hg.symm)) hb); replace HO1081 := nr HO1081 hb; replace HO1087 := nr HO1087 hb; replace HO1090 := nr HO1090 hb; replace HO1093 := nr HO1093 hb; have BK1095 := Aside0.mk (hbox); have GW1095 := Aside0.mk ((by rw [hg]; exact (below_size (bs2 HB GE1061 GE1084)) : w.heap.size ≤ gb1095)); have GE1095 := Aside0.mk ((by rw [hg]; exact (below_size (bs2 HB GE1061 GE1084)) : w.heap.size ≤ gb1095)); replace HB := Aside0.mk (below_step (bs2 HB GE1061 GE1084) hb); have NB1061_1095 := Aside0.mk ((bn BK1061 hg : gb1061 ≠ gb1095)); have NB1095_1061 := Aside0.mk ((bm BK1061 hg : gb1095 ≠ gb1061)); replace BK1061 := nb BK1061 hb; have NB1084_1095 := Aside0.mk ((bn BK1084 hg : gb1084 ≠ gb1095)); have NB1095_1084 := Aside0.mk ((bm BK1084 hg : gb1095 ≠ gb1084)); replace BK1084 := nb BK1084 hb; clear hb hbox hg; obtain ⟨Ao30, co30, eo30⟩ := Kd.R_slice HO1087.out; subst eo30; have hnb31 := NB1095_1061.out; have hnc31 := NB1061_1095.out; have hnb32 := NB1095_1084.out; have hnc32 := NB1084_1095.out; obtain ⟨hcz33_0, hcz33_1, hcz33_2, hcz33_3⟩ := cz4 BK1095; obtain ⟨hfz33_0, hfz33_1, hfz33_2, hfz33_3⟩ := fz4 BK1095; obtain ⟨Ao34, co34, eo34⟩ := Kd.R_slice HO1090.out; subst eo34; obtain ⟨Ao35, co35, eo35⟩ := Kd.R_slice HO1093.out; subst eo35) | ((with_reducible refine gate_callee (f := 46) rfl ?_); refine gL (some 29) rfl rfl Try.func46 (by kernel_rfl) rfl #[.agg #[.slice Ao30 t1085.length co30, .slice Ao34 t1088.length co34, .slice Ao35 t1091.length co35, .int .i64 t1094]] rfl ?_; (with_reducible refine (impl_WriteBack.calls k _ _ t1085 _ _ t1088 _ _ t1091 t1094 t1096 t1099 t1102 t1105 t1106 _ ?side1 ?side2 ?side3 ?side4 ?side5 ?side6 A10.out).mono ?_); (case side1 => exact rc HO1087 BK1095); (case side2 => exact (Kd.R_reads' HO1087.out).2.1); (case side3 => exact rc HO1090 BK1095); (case side4 => exact (Kd.R_reads' HO1090.out).2.1); (case side5 => exact rc HO1093 BK1095); (case side6 => exact (Kd.R_reads' HO1093.out).2.1); rintro e w36 ⟨v1097, v1100, v1103, rfl, ho0, ho1, ho2, hb⟩; refine ⟨_, rfl, ?_⟩; replace HO1075 := Aside0.mk (Kd.V_mono (Kd.V_told (Kd.V_told (Kd.V_told (Kd.V_old (by (with_reducible repeat (first | apply Kd.V_alloc | apply Kd.V_drewN | apply Kd.V_drew)); exact (Kd.V_mono (Kd.V_far (p := ⟨gb1095, 3, none⟩) (Kd.V_far (p := ⟨gb1095, 2, none⟩) (Kd.V_far (p := ⟨gb1095, 1, none⟩) (Kd.V_far (p := ⟨gb1095, 0, none⟩) (Kd.V_mono HO1075.out (fun k_ hk => (⟨hk, hk.2⟩ : _ ∧ k_ ≠ gb1095))) (fun _ hk => hk.2) (.slice Ao30 t1085.length co30)) (fun _ hk => hk.2) (.slice Ao34 t1088.length co34)) (fun _ hk => hk.2) (.slice Ao35 t1091.length co35)) (fun _ hk => hk.2) (.int .i64 t1094)) (fun _ h_ => h_.1))) hb) (Kd.R_base ho0)) (Kd.R_base ho1)) (Kd.R_base ho2)) (fun _ h_ => h_.1)); replace HO1078 := Aside0.mk (Kd.V_mono (Kd.V_told (Kd.V_told (Kd.V_told (Kd.V_old (by (with_reducible repeat (first | apply Kd.V_alloc | apply Kd.V_drewN | apply Kd.V_drew)); exact (Kd.V_mono (Kd.V_far (p := ⟨gb1095, 3, none⟩) (Kd.V_far (p := ⟨gb1095, 2, none⟩) (Kd.V_far (p := ⟨gb1095, 1, none⟩) (Kd.V_far (p := ⟨gb1095, 0, none⟩) (Kd.V_mono HO1078.out (fun k_ hk => (⟨hk, hk.2⟩ : _ ∧ k_ ≠ gb1095))) (fun _ hk => hk.2) (.slice Ao30 t1085.length co30)) (fun _ hk => hk.2) (.slice Ao34 t1088.length co34)) (fun _ hk => hk.2) (.slice Ao35 t1091.length co35)) (fun _ hk => hk.2) (.int .i64 t1094)) (fun _ h_ => h_.1))) hb) (Kd.R_base ho0)) (Kd.R_base ho1)) (Kd.R_base ho2)) (fun _ h_ => h_.1)); have HO1098 := Aside0.mk (Kd.R_lower (Kd.R_new' (Kd.R_new' (Kd.R_new' (Kd.R_new' (Kd.R_new' ho0 (Kd.R_lt (rf HO1065 BK1095))) (Kd.R_lt (rf HO1071 BK1095))) (Kd.R_lt (rf HO1081 BK1095))) (Kd.R_lt (rf HO1087 BK1095))) (Kd.R_lt (rf HO1093 BK1095))) (below_size (bs3 HB GE1061 GE1084 GE1095))); have HO1101 := Aside0.mk (Kd.R_lower (Kd.R_new' (Kd.R_new' ho1 (Kd.R_lt (rf HO1068 BK1095))) (Kd.R_lt (rf HO1090 BK1095))) (below_size (bs3 HB GE1061 GE1084 GE1095))); replace HO1068 := Aside0.mk (Kd.R_elder' (rf HO1068 BK1095) (Kd.R_base ho1) hb); replace HO1090 := Aside0.mk (Kd.R_elder' (rf HO1090 BK1095) (Kd.R_base ho1) hb); have HO1104 := Aside0.mk (Kd.R_lower (Kd.R_new' (Kd.R_new' (Kd.R_new' (Kd.R_new' (Kd.R_new' ho2 (Kd.R_lt (rf HO1065 BK1095))) (Kd.R_lt (rf HO1071 BK1095))) (Kd.R_lt (rf HO1081 BK1095))) (Kd.R_lt (rf HO1087 BK1095))) (Kd.R_lt (rf HO1093 BK1095))) (below_size (bs3 HB GE1061 GE1084 GE1095))); replace HO1065 := Aside0.mk (Kd.R_mono (Kd.R_told (Kd.R_told (Kd.R_old (rf HO1065 BK1095) hb) (Kd.R_base ho0)) (Kd.R_base ho2)) (fun _ h_ => h_.1)); replace HO1071 := Aside0.mk (Kd.R_mono (Kd.R_told (Kd.R_told (Kd.R_old (rf HO1071 BK1095) hb) (Kd.R_base ho0)) (Kd.R_base ho2)) (fun _ h_ => h_.1)); replace HO1081 := Aside0.mk (Kd.R_mono (Kd.R_told (Kd.R_told (Kd.R_old (rf HO1081 BK1095) hb) (Kd.R_base ho0)) (Kd.R_base ho2)) (fun _ h_ => h_.1)); replace HO1087 := Aside0.mk (Kd.R_mono (Kd.R_told (Kd.R_told (Kd.R_old (rf HO1087 BK1095) hb) (Kd.R_base ho0)) (Kd.R_base ho2)) (fun _ h_ => h_.1)); replace HO1093 := Aside0.mk (Kd.R_mono (Kd.R_told (Kd.R_told (Kd.R_old (rf HO1093 BK1095) hb) (Kd.R_base ho0)) (Kd.R_base ho2)) (fun _ h_ => h_.1)); replace BK1061 := Aside0.mk (blk_below (bf BK1061 NB1061_1095) hb); replace BK1084 := Aside0.mk (blk_below (bf BK1084 NB1084_1095) hb); replace BK1095 := Aside0.mk (blk_below (g := gb1095) (o := .cells #[.slice Ao30 t1085.length co30, .slice Ao34 t1088.length co34, .slice Ao35 t1091.length co35, .int .i64 t1094] 44 (0, 0)) (by (with_reducible repeat (first | refine blk_drewN ?_ _ | refine blk_drew ?_ | refine blk_alloc ?_ _)); refine blk_put (cs := #[.slice Ao30 t1085.length co30, .slice Ao34 t1088.length co34, .slice Ao35 t1091.length co35, .int .i64 0]) ?_ 3 _ rfl; (with_reducible repeat (first | refine blk_drewN ?_ _ | refine blk_drew ?_ | refine blk_alloc ?_ _)); refine blk_put (cs := #[.slice Ao30 t1085.length co30, .slice Ao34 t1088.length co34, .slice none 0 0, .int .i64 0]) ?_ 2 _ rfl; (with_reducible repeat (first | refine blk_drewN ?_ _ | refine blk_drew ?_ | refine blk_alloc ?_ _)); refine blk_put (cs := #[.slice Ao30 t1085.length co30, .slice none 0 0, .slice none 0 0, .int .i64 0]) ?_ 1 _ rfl; (with_reducible repeat (first | refine blk_drewN ?_ _ | refine blk_drew ?_ | refine blk_alloc ?_ _)); refine blk_put (cs := #[.slice none 0 0, .slice none 0 0, .slice none 0 0, .int .i64 0]) ?_ 0 _ rfl; (with_reducible repeat (first | refine blk_drewN ?_ _ | refine blk_drew ?_ | refine blk_alloc ?_ _)); exact BK1095.out) hb); replace HB := Aside0.mk (below_step (bs3 HB GE1061 GE1084 GE1095) hb); (try clear hb); (try clear hb2); (try clear hk); (try clear hi); (try clear ho0); (try clear ho1); (try clear ho2)) | ((with_reducible refine gate_dst (N := 7) rfl ?_); refine box_event ?hg (N := 7) ?hd (cs := #[.slice none 0 0, .slice none 0 0, .slice none 0 0, .int .i64 0]) (t := 44) ?hr ?_; (case hd => rfl); (case hg => rfl); (case hr => first | (go_simp; done) | (go_simp; rfl)); intro gb1107 hg w37 hbox hb; replace HO1065 := nr HO1065 hb; replace HO1068 := nr HO1068 hb; replace HO1071 := nr HO1071 hb; replace HO1075 := Aside0.mk (Kd.V_below (Kd.V_elderB (by (with_reducible repeat (first | apply Kd.V_alloc | apply Kd.V_drewN | apply Kd.V_drew)); exact HO1075.out) gb1107 (Nat.le_of_eq hg.symm)) hb); replace HO1078 := Aside0.mk (Kd.V_below (Kd.V_elderB (by (with_reducible repeat (first | apply Kd.V_alloc | apply Kd.V_drewN | apply Kd.V_drew)); exact HO1078.out) gb1107 (Nat.le_of_eq hg.symm)) hb); replace HO1081 := nr HO1081 hb; replace HO1087 := nr HO1087 hb; replace HO1090 := nr HO1090 hb; replace HO1093 := nr HO1093 hb; replace HO1098 := nr HO1098 hb; replace HO1101 := nr HO1101 hb; replace HO1104 := nr HO1104 hb; have BK1107 := Aside0.mk (hbox); have GW1107 := Aside0.mk ((by rw [hg]; exact (below_size (bs3 HB GE1061 GE1084 GE1095)) : w.heap.size ≤ gb1107)); have GE1107 := Aside0.mk ((by rw [hg]; exact (below_size (bs3 HB GE1061 GE1084 GE1095)) : w.heap.size ≤ gb1107)); replace HB := Aside0.mk (below_step (bs3 HB GE1061 GE1084 GE1095) hb); have NB1061_1107 := Aside0.mk ((bn BK1061 hg : gb1061 ≠ gb1107)); have NB1107_1061 := Aside0.mk ((bm BK1061 hg : gb1107 ≠ gb1061)); replace BK1061 := nb BK1061 hb; have NB1084_1107 := Aside0.mk ((bn BK1084 hg : gb1084 ≠ gb1107)); have NB1107_1084 := Aside0.mk ((bm BK1084 hg : gb1107 ≠ gb1084)); replace BK1084 := nb BK1084 hb; have NB1095_1107 := Aside0.mk ((bn BK1095 hg : gb1095 ≠ gb1107)); have NB1107_1095 := Aside0.mk ((bm BK1095 hg : gb1107 ≠ gb1095)); replace BK1095 := nb BK1095 hb; clear hb hbox hg; obtain ⟨Ao38, co38, eo38⟩ := Kd.R_slice HO1098.out; subst eo38; have hnb39 := NB1107_1061.out; have hnc39 := NB1061_1107.out; have hnb40 := NB1107_1084.out; have hnc40 := NB1084_1107.out; have hnb41 := NB1107_1095.out; have hnc41 := NB1095_1107.out; obtain ⟨hcz42_0, hcz42_1, hcz42_2, hcz42_3⟩ := cz4 BK1107; obtain ⟨hfz42_0, hfz42_1, hfz42_2, hfz42_3⟩ := fz4 BK1107; obtain ⟨Ao43, co43, eo43⟩ := Kd.R_slice HO1101.out; subst eo43; obtain ⟨Ao44, co44, eo44⟩ := Kd.R_slice HO1104.out; subst eo44))
  (try simp only [Act.put, List.setIfInBounds_toArray, List.set_cons_zero, List.set_cons_succ])
  go_cut [40] (fun v40 wc => ∃ (kq : Nat) (x40_10 : Bool), v40 = .bool x40_10 ∧ Aside0 (laws_FnExactWriteBack.j0 kq t1083 t1106 x40_10 l0_0 l0_1 l0_2 a0_3 t1073 t1076 t1079 t1082 t1085 t1088 t1091 t1094 t1096 t1099 t1102 t1105 = some r) ∧ Aside0 (kq ≤ k) ∧ Aside0 (Kd.V Kd.string 9 wc w.heap.size (fun k_ => some k_ ≠ ((.slice Ao26 t1079.length co26) : Value).ownBlock ∧ some k_ ≠ ((.slice Ao30 t1085.length co30) : Value).ownBlock ∧ some k_ ≠ ((.slice Ao34 t1088.length co34) : Value).ownBlock ∧ some k_ ≠ ((.slice Ao35 t1091.length co35) : Value).ownBlock ∧ some k_ ≠ ((.slice Ao38 t1096.length co38) : Value).ownBlock ∧ some k_ ≠ ((.slice Ao43 t1099.length co43) : Value).ownBlock ∧ some k_ ≠ ((.slice Ao44 t1102.length co44) : Value).ownBlock ∧ k_ ≠ gb1061 ∧ k_ ≠ gb1084 ∧ k_ ≠ gb1095 ∧ k_ ≠ gb1107) (.slice Ao22 t1073.length co22) t1073) ∧ Aside0 (Kd.V k72 72 wc w.heap.size (fun k_ => some k_ ≠ ((.slice Ao26 t1079.length co26) : Value).ownBlock ∧ some k_ ≠ ((.slice Ao30 t1085.length co30) : Value).ownBlock ∧ some k_ ≠ ((.slice Ao34 t1088.length co34) : Value).ownBlock ∧ some k_ ≠ ((.slice Ao35 t1091.length co35) : Value).ownBlock ∧ some k_ ≠ ((.slice Ao38 t1096.length co38) : Value).ownBlock ∧ some k_ ≠ ((.slice Ao43 t1099.length co43) : Value).ownBlock ∧ some k_ ≠ ((.slice Ao44 t1102.length co44) : Value).ownBlock ∧ k_ ≠ gb1061 ∧ k_ ≠ gb1084 ∧ k_ ≠ gb1095 ∧ k_ ≠ gb1107) (.slice Ao25 t1076.length co25) t1076) ∧ Aside0 (Kd.R Kd.string 9 wc w.heap.size (fun k_ => some k_ ≠ ((.slice Ao30 t1085.length co30) : Value).ownBlock ∧ some k_ ≠ ((.slice Ao35 t1091.length co35) : Value).ownBlock ∧ some k_ ≠ ((.slice Ao38 t1096.length co38) : Value).ownBlock ∧ some k_ ≠ ((.slice Ao44 t1102.length co44) : Value).ownBlock) (.slice Ao26 t1079.length co26) t1079) ∧ Aside0 (Kd.R Kd.string 9 wc w.heap.size (fun k_ => some k_ ≠ ((.slice Ao26 t1079.length co26) : Value).ownBlock ∧ some k_ ≠ ((.slice Ao35 t1091.length co35) : Value).ownBlock ∧ some k_ ≠ ((.slice Ao38 t1096.length co38) : Value).ownBlock ∧ some k_ ≠ ((.slice Ao44 t1102.length co44) : Value).ownBlock) (.slice Ao30 t1085.length co30) t1085) ∧ Aside0 (Kd.R k72 72 wc w.heap.size (fun k_ => some k_ ≠ ((.slice Ao43 t1099.length co43) : Value).ownBlock) (.slice Ao34 t1088.length co34) t1088) ∧ Aside0 (Kd.R Kd.string 9 wc w.heap.size (fun k_ => some k_ ≠ ((.slice Ao26 t1079.length co26) : Value).ownBlock ∧ some k_ ≠ ((.slice Ao30 t1085.length co30) : Value).ownBlock ∧ some k_ ≠ ((.slice Ao38 t1096.length co38) : Value).ownBlock ∧ some k_ ≠ ((.slice Ao44 t1102.length co44) : Value).ownBlock) (.slice Ao35 t1091.length co35) t1091) ∧ Aside0 (Kd.R Kd.string 9 wc w.heap.size (fun k_ => some k_ ≠ ((.slice Ao26 t1079.length co26) : Value).ownBlock ∧ some k_ ≠ ((.slice Ao30 t1085.length co30) : Value).ownBlock ∧ some k_ ≠ ((.slice Ao35 t1091.length co35) : Value).ownBlock ∧ some k_ ≠ ((.slice Ao44 t1102.length co44) : Value).ownBlock) (.slice Ao38 t1096.length co38) t1096) ∧ Aside0 (Kd.R k72 72 wc w.heap.size (fun k_ => some k_ ≠ ((.slice Ao34 t1088.length co34) : Value).ownBlock) (.slice Ao43 t1099.length co43) t1099) ∧ Aside0 (Kd.R Kd.string 9 wc w.heap.size (fun k_ => some k_ ≠ ((.slice Ao26 t1079.length co26) : Value).ownBlock ∧ some k_ ≠ ((.slice Ao30 t1085.length co30) : Value).ownBlock ∧ some k_ ≠ ((.slice Ao35 t1091.length co35) : Value).ownBlock ∧ some k_ ≠ ((.slice Ao38 t1096.length co38) : Value).ownBlock) (.slice Ao44 t1102.length co44) t1102) ∧ Aside0 (wc.heap[gb1061]? = some (.cells #[(.slice A0_0 l0_0.length c0_0), (.slice A0_1 l0_1.length c0_1), (.slice A0_2 l0_2.length c0_2), .int .i64 a0_3] 38 (0, 0))) ∧ Aside0 (wc.heap[gb1084]? = some (.cells #[(.slice Ao22 t1073.length co22), (.slice Ao25 t1076.length co25), (.slice Ao26 t1079.length co26), .int .i64 t1082] 44 (0, 0))) ∧ Aside0 (wc.heap[gb1095]? = some (.cells #[(.slice Ao30 t1085.length co30), (.slice Ao34 t1088.length co34), (.slice Ao35 t1091.length co35), .int .i64 t1094] 44 (0, 0))) ∧ Aside0 (wc.heap[gb1107]? = some (.cells #[(.slice Ao38 t1096.length co38), (.slice Ao43 t1099.length co43), (.slice Ao44 t1102.length co44), .int .i64 t1105] 44 (0, 0))) ∧ Aside0 (Below w.heap.size w wc))
  case first =>
   have H := HC11.out
   clear HC11
   replace H := Option.bind_eq_some_iff.mp H
   obtain ⟨t1108, A450, H⟩ := H
   replace H : (if t1108 = true then (laws_FnExactWriteBack.j0 k t1083 t1106 (t1106 != t1083) l0_0 l0_1 l0_2 a0_3 t1073 t1076 t1079 t1082 t1085 t1088 t1091 t1094 t1096 t1099 t1102 t1105) else (laws_FnExactWriteBack.j0 k t1083 t1106 true l0_0 l0_1 l0_2 a0_3 t1073 t1076 t1079 t1082 t1085 t1088 t1091 t1094 t1096 t1099 t1102 t1105)) = some r := H
   have A45 := Aside0.mk A450
   clear A450
   by_cases c46 : t1108 = true
   ·
    subst c46
    rw [if_pos rfl] at H
    have H' := Aside0.mk H
    clear H
    have hnb47 := NB1107_1061.out
    have hnc47 := NB1061_1107.out
    have hnb48 := NB1107_1084.out
    have hnc48 := NB1084_1107.out
    have hnb49 := NB1107_1095.out
    have hnc49 := NB1095_1107.out
    obtain ⟨hcz50_0, hcz50_1, hcz50_2, hcz50_3⟩ := cz4 BK1107
    obtain ⟨hfz50_0, hfz50_1, hfz50_2, hfz50_3⟩ := fz4 BK1107
    have hnb51 := NB1084_1061.out
    have hnc51 := NB1061_1084.out
    have hnb52 := NB1084_1095.out
    have hnc52 := NB1095_1084.out
    obtain ⟨hcz53_0, hcz53_1, hcz53_2, hcz53_3⟩ := cz4 BK1084
    obtain ⟨hfz53_0, hfz53_1, hfz53_2, hfz53_3⟩ := fz4 BK1084
    go_wp2_with (first | ((with_reducible refine gate_callee (f := 29) rfl ?_); refine gL (some 34) rfl rfl Try.func29 (by kernel_rfl) rfl #[.agg #[.slice Ao38 t1096.length co38, .slice Ao43 t1099.length co43, .slice Ao44 t1102.length co44, .int .i64 t1105], .agg #[.slice Ao22 t1073.length co22, .slice Ao25 t1076.length co25, .slice Ao26 t1079.length co26, .int .i64 t1082]] rfl ?_; (with_reducible refine (laws_eqStore.calls k _ _ t1096 _ _ t1099 _ _ t1102 t1105 _ _ t1073 _ _ t1076 _ _ t1079 t1082 true _ ?side1 ?side2 ?side3 ?side4 ?side5 ?side6 ?side7 ?side8 ?side9 ?side10 ?side11 ?side12 A45.out).mono ?_); (case side1 => exact rc HO1098 BK1107); (case side2 => exact (Kd.R_reads' HO1098.out).2.1); (case side3 => exact rc HO1101 BK1107); (case side4 => exact (Kd.R_reads' HO1101.out).2.1); (case side5 => exact rc HO1104 BK1107); (case side6 => exact (Kd.R_reads' HO1104.out).2.1); (case side7 => refine (Kd.V_reads' (e := 9) (base := w.heap.size) (ok := fun k_ => ((((((((((some k_ ≠ (.slice Ao26 t1079.length co26 : Value).ownBlock ∧ (some k_ ≠ (.slice Ao17 t1063.length co17 : Value).ownBlock ∧ (some k_ ≠ (.slice Ao18 t1066.length co18 : Value).ownBlock ∧ (some k_ ≠ (.slice Ao19 t1069.length co19 : Value).ownBlock ∧ k_ ≠ gb1061)))) ∧ k_ ≠ gb1084) ∧ some k_ ≠ (.slice Ao30 t1085.length co30 : Value).ownBlock) ∧ some k_ ≠ (.slice Ao34 t1088.length co34 : Value).ownBlock) ∧ some k_ ≠ (.slice Ao35 t1091.length co35 : Value).ownBlock) ∧ k_ ≠ gb1095) ∧ some k_ ≠ (.slice Ao38 t1096.length co38 : Value).ownBlock) ∧ some k_ ≠ (.slice Ao43 t1099.length co43 : Value).ownBlock) ∧ some k_ ≠ (.slice Ao44 t1102.length co44 : Value).ownBlock) ∧ k_ ≠ gb1107)) (n := t1073.length) (c := co22) ?_).2.2; exact (by (with_reducible repeat (first | apply Kd.V_alloc | apply Kd.V_drewN | apply Kd.V_drew)); exact (Kd.V_mono (Kd.V_far (p := ⟨gb1107, 3, none⟩) (Kd.V_far (p := ⟨gb1107, 2, none⟩) (Kd.V_far (p := ⟨gb1107, 1, none⟩) (Kd.V_far (p := ⟨gb1107, 0, none⟩) (Kd.V_mono HO1075.out (fun k_ hk => (⟨hk, hk.2⟩ : _ ∧ k_ ≠ gb1107))) (fun _ hk => hk.2) (.slice Ao38 t1096.length co38)) (fun _ hk => hk.2) (.slice Ao43 t1099.length co43)) (fun _ hk => hk.2) (.slice Ao44 t1102.length co44)) (fun _ hk => hk.2) (.int .i64 t1105)) (fun _ h_ => h_.1)))); (case side8 => exact (Kd.V_reads' HO1075.out).2.1); (case side9 => refine (Kd.V_reads' (e := 72) (base := w.heap.size) (ok := fun k_ => ((((((((((some k_ ≠ (.slice Ao26 t1079.length co26 : Value).ownBlock ∧ (some k_ ≠ (.slice Ao17 t1063.length co17 : Value).ownBlock ∧ (some k_ ≠ (.slice Ao18 t1066.length co18 : Value).ownBlock ∧ (some k_ ≠ (.slice Ao19 t1069.length co19 : Value).ownBlock ∧ k_ ≠ gb1061)))) ∧ k_ ≠ gb1084) ∧ some k_ ≠ (.slice Ao30 t1085.length co30 : Value).ownBlock) ∧ some k_ ≠ (.slice Ao34 t1088.length co34 : Value).ownBlock) ∧ some k_ ≠ (.slice Ao35 t1091.length co35 : Value).ownBlock) ∧ k_ ≠ gb1095) ∧ some k_ ≠ (.slice Ao38 t1096.length co38 : Value).ownBlock) ∧ some k_ ≠ (.slice Ao43 t1099.length co43 : Value).ownBlock) ∧ some k_ ≠ (.slice Ao44 t1102.length co44 : Value).ownBlock) ∧ k_ ≠ gb1107)) (n := t1076.length) (c := co25) ?_).2.2; exact (by (with_reducible repeat (first | apply Kd.V_alloc | apply Kd.V_drewN | apply Kd.V_drew)); exact (Kd.V_mono (Kd.V_far (p := ⟨gb1107, 3, none⟩) (Kd.V_far (p := ⟨gb1107, 2, none⟩) (Kd.V_far (p := ⟨gb1107, 1, none⟩) (Kd.V_far (p := ⟨gb1107, 0, none⟩) (Kd.V_mono HO1078.out (fun k_ hk => (⟨hk, hk.2⟩ : _ ∧ k_ ≠ gb1107))) (fun _ hk => hk.2) (.slice Ao38 t1096.length co38)) (fun _ hk => hk.2) (.slice Ao43 t1099.length co43)) (fun _ hk => hk.2) (.slice Ao44 t1102.length co44)) (fun _ hk => hk.2) (.int .i64 t1105)) (fun _ h_ => h_.1)))); (case side10 => exact (Kd.V_reads' HO1078.out).2.1); (case side11 => exact rc HO1081 BK1107); (case side12 => exact (Kd.R_reads' HO1081.out).2.1); rintro e w54 ⟨rfl, hb⟩; refine ⟨_, rfl, ?_⟩; replace HO1065 := nf HO1065 BK1107 hb; replace HO1068 := nf HO1068 BK1107 hb; replace HO1071 := nf HO1071 BK1107 hb; replace HO1075 := Aside0.mk (Kd.V_below (by (with_reducible repeat (first | apply Kd.V_alloc | apply Kd.V_drewN | apply Kd.V_drew)); exact (Kd.V_mono (Kd.V_far (p := ⟨gb1107, 3, none⟩) (Kd.V_far (p := ⟨gb1107, 2, none⟩) (Kd.V_far (p := ⟨gb1107, 1, none⟩) (Kd.V_far (p := ⟨gb1107, 0, none⟩) (Kd.V_mono HO1075.out (fun k_ hk => (⟨hk, hk.2⟩ : _ ∧ k_ ≠ gb1107))) (fun _ hk => hk.2) (.slice Ao38 t1096.length co38)) (fun _ hk => hk.2) (.slice Ao43 t1099.length co43)) (fun _ hk => hk.2) (.slice Ao44 t1102.length co44)) (fun _ hk => hk.2) (.int .i64 t1105)) (fun _ h_ => h_.1))) hb); replace HO1078 := Aside0.mk (Kd.V_below (by (with_reducible repeat (first | apply Kd.V_alloc | apply Kd.V_drewN | apply Kd.V_drew)); exact (Kd.V_mono (Kd.V_far (p := ⟨gb1107, 3, none⟩) (Kd.V_far (p := ⟨gb1107, 2, none⟩) (Kd.V_far (p := ⟨gb1107, 1, none⟩) (Kd.V_far (p := ⟨gb1107, 0, none⟩) (Kd.V_mono HO1078.out (fun k_ hk => (⟨hk, hk.2⟩ : _ ∧ k_ ≠ gb1107))) (fun _ hk => hk.2) (.slice Ao38 t1096.length co38)) (fun _ hk => hk.2) (.slice Ao43 t1099.length co43)) (fun _ hk => hk.2) (.slice Ao44 t1102.length co44)) (fun _ hk => hk.2) (.int .i64 t1105)) (fun _ h_ => h_.1))) hb); replace HO1081 := nf HO1081 BK1107 hb; replace HO1087 := nf HO1087 BK1107 hb; replace HO1090 := nf HO1090 BK1107 hb; replace HO1093 := nf HO1093 BK1107 hb; replace HO1098 := nf HO1098 BK1107 hb; replace HO1101 := nf HO1101 BK1107 hb; replace HO1104 := nf HO1104 BK1107 hb; replace BK1061 := Aside0.mk (blk_below (bf BK1061 NB1061_1107) hb); replace BK1084 := Aside0.mk (blk_below (bf BK1084 NB1084_1107) hb); replace BK1095 := Aside0.mk (blk_below (bf BK1095 NB1095_1107) hb); replace BK1107 := Aside0.mk (blk_below (g := gb1107) (o := .cells #[.slice Ao38 t1096.length co38, .slice Ao43 t1099.length co43, .slice Ao44 t1102.length co44, .int .i64 t1105] 44 (0, 0)) (by (with_reducible repeat (first | refine blk_drewN ?_ _ | refine blk_drew ?_ | refine blk_alloc ?_ _)); refine blk_put (cs := #[.slice Ao38 t1096.length co38, .slice Ao43 t1099.length co43, .slice Ao44 t1102.length co44, .int .i64 0]) ?_ 3 _ rfl; (with_reducible repeat (first | refine blk_drewN ?_ _ | refine blk_drew ?_ | refine blk_alloc ?_ _)); refine blk_put (cs := #[.slice Ao38 t1096.length co38, .slice Ao43 t1099.length co43, .slice none 0 0, .int .i64 0]) ?_ 2 _ rfl; (with_reducible repeat (first | refine blk_drewN ?_ _ | refine blk_drew ?_ | refine blk_alloc ?_ _)); refine blk_put (cs := #[.slice Ao38 t1096.length co38, .slice none 0 0, .slice none 0 0, .int .i64 0]) ?_ 1 _ rfl; (with_reducible repeat (first | refine blk_drewN ?_ _ | refine blk_drew ?_ | refine blk_alloc ?_ _)); refine blk_put (cs := #[.slice none 0 0, .slice none 0 0, .slice none 0 0, .int .i64 0]) ?_ 0 _ rfl; (with_reducible repeat (first | refine blk_drewN ?_ _ | refine blk_drew ?_ | refine blk_alloc ?_ _)); exact BK1107.out) hb); replace HB := Aside0.mk (below_step (bs4 HB GE1061 GE1084 GE1095 GE1107) hb); (try clear hb); (try clear hb2); (try clear hk); (try clear hi)))
    go_meet
    case rel => exact ⟨_, ((t1106 != t1083)), (by first | rfl | (simp; done) | (simp [*]; done)), H', ⟨by first | omega | exact Nat.le_refl _⟩, ⟨by (with_reducible repeat (first | apply Kd.V_alloc | apply Kd.V_drewN | apply Kd.V_drew)); exact Kd.V_mono HO1075.out (fun _ hk => ⟨hk.1.1.1.1.1.1.1.1.1.1, ⟨hk.1.1.1.1.1.1.1.2, ⟨hk.1.1.1.1.1.1.2, ⟨hk.1.1.1.1.1.2, ⟨hk.1.1.1.2, ⟨hk.1.1.2, ⟨hk.1.2, ⟨hk.1.1.1.1.1.1.1.1.1.2.2.2.2, ⟨hk.1.1.1.1.1.1.1.1.2, ⟨hk.1.1.1.1.2, hk.2⟩⟩⟩⟩⟩⟩⟩⟩⟩⟩)⟩, ⟨by (with_reducible repeat (first | apply Kd.V_alloc | apply Kd.V_drewN | apply Kd.V_drew)); exact Kd.V_mono HO1078.out (fun _ hk => ⟨hk.1.1.1.1.1.1.1.1.1.1, ⟨hk.1.1.1.1.1.1.1.2, ⟨hk.1.1.1.1.1.1.2, ⟨hk.1.1.1.1.1.2, ⟨hk.1.1.1.2, ⟨hk.1.1.2, ⟨hk.1.2, ⟨hk.1.1.1.1.1.1.1.1.1.2.2.2.2, ⟨hk.1.1.1.1.1.1.1.1.2, ⟨hk.1.1.1.1.2, hk.2⟩⟩⟩⟩⟩⟩⟩⟩⟩⟩)⟩, rm HO1081 (fun _ hk => ⟨hk.1.1.1.2, ⟨hk.1.1.2, ⟨hk.1.2, hk.2⟩⟩⟩), rm HO1087 (fun _ hk => ⟨hk.1.1.2, ⟨hk.1.1.1.1.1, ⟨hk.1.2, hk.2⟩⟩⟩), rm HO1090 (fun _ hk => hk.2), rm HO1093 (fun _ hk => ⟨hk.1.1.2, ⟨hk.1.1.1.1.1, ⟨hk.1.2, hk.2⟩⟩⟩), rm HO1098 (fun _ hk => ⟨hk.1.1.2, ⟨hk.1.2, ⟨hk.2, hk.1.1.1.1.1⟩⟩⟩), rm HO1101 (fun _ hk => hk.2), rm HO1104 (fun _ hk => ⟨hk.1.1.2, ⟨hk.1.2, ⟨hk.2, hk.1.1.1.1.1⟩⟩⟩), ⟨bk BK1061⟩, ⟨bk BK1084⟩, ⟨bk BK1095⟩, ⟨bk BK1107⟩, ⟨bs4 HB GE1061 GE1084 GE1095 GE1107⟩⟩
   ·
    replace c46 := Bool.eq_false_iff.mpr c46
    subst c46
    rw [if_neg (show ¬ (false = true) by decide)] at H
    have H' := Aside0.mk H
    clear H
    have hnb55 := NB1107_1061.out
    have hnc55 := NB1061_1107.out
    have hnb56 := NB1107_1084.out
    have hnc56 := NB1084_1107.out
    have hnb57 := NB1107_1095.out
    have hnc57 := NB1095_1107.out
    obtain ⟨hcz58_0, hcz58_1, hcz58_2, hcz58_3⟩ := cz4 BK1107
    obtain ⟨hfz58_0, hfz58_1, hfz58_2, hfz58_3⟩ := fz4 BK1107
    have hnb59 := NB1084_1061.out
    have hnc59 := NB1061_1084.out
    have hnb60 := NB1084_1095.out
    have hnc60 := NB1095_1084.out
    obtain ⟨hcz61_0, hcz61_1, hcz61_2, hcz61_3⟩ := cz4 BK1084
    obtain ⟨hfz61_0, hfz61_1, hfz61_2, hfz61_3⟩ := fz4 BK1084
    go_wp2_with (first | ((with_reducible refine gate_callee (f := 29) rfl ?_); refine gL (some 34) rfl rfl Try.func29 (by kernel_rfl) rfl #[.agg #[.slice Ao38 t1096.length co38, .slice Ao43 t1099.length co43, .slice Ao44 t1102.length co44, .int .i64 t1105], .agg #[.slice Ao22 t1073.length co22, .slice Ao25 t1076.length co25, .slice Ao26 t1079.length co26, .int .i64 t1082]] rfl ?_; (with_reducible refine (laws_eqStore.calls k _ _ t1096 _ _ t1099 _ _ t1102 t1105 _ _ t1073 _ _ t1076 _ _ t1079 t1082 false _ ?side1 ?side2 ?side3 ?side4 ?side5 ?side6 ?side7 ?side8 ?side9 ?side10 ?side11 ?side12 A45.out).mono ?_); (case side1 => exact rc HO1098 BK1107); (case side2 => exact (Kd.R_reads' HO1098.out).2.1); (case side3 => exact rc HO1101 BK1107); (case side4 => exact (Kd.R_reads' HO1101.out).2.1); (case side5 => exact rc HO1104 BK1107); (case side6 => exact (Kd.R_reads' HO1104.out).2.1); (case side7 => refine (Kd.V_reads' (e := 9) (base := w.heap.size) (ok := fun k_ => ((((((((((some k_ ≠ (.slice Ao26 t1079.length co26 : Value).ownBlock ∧ (some k_ ≠ (.slice Ao17 t1063.length co17 : Value).ownBlock ∧ (some k_ ≠ (.slice Ao18 t1066.length co18 : Value).ownBlock ∧ (some k_ ≠ (.slice Ao19 t1069.length co19 : Value).ownBlock ∧ k_ ≠ gb1061)))) ∧ k_ ≠ gb1084) ∧ some k_ ≠ (.slice Ao30 t1085.length co30 : Value).ownBlock) ∧ some k_ ≠ (.slice Ao34 t1088.length co34 : Value).ownBlock) ∧ some k_ ≠ (.slice Ao35 t1091.length co35 : Value).ownBlock) ∧ k_ ≠ gb1095) ∧ some k_ ≠ (.slice Ao38 t1096.length co38 : Value).ownBlock) ∧ some k_ ≠ (.slice Ao43 t1099.length co43 : Value).ownBlock) ∧ some k_ ≠ (.slice Ao44 t1102.length co44 : Value).ownBlock) ∧ k_ ≠ gb1107)) (n := t1073.length) (c := co22) ?_).2.2; exact (by (with_reducible repeat (first | apply Kd.V_alloc | apply Kd.V_drewN | apply Kd.V_drew)); exact (Kd.V_mono (Kd.V_far (p := ⟨gb1107, 3, none⟩) (Kd.V_far (p := ⟨gb1107, 2, none⟩) (Kd.V_far (p := ⟨gb1107, 1, none⟩) (Kd.V_far (p := ⟨gb1107, 0, none⟩) (Kd.V_mono HO1075.out (fun k_ hk => (⟨hk, hk.2⟩ : _ ∧ k_ ≠ gb1107))) (fun _ hk => hk.2) (.slice Ao38 t1096.length co38)) (fun _ hk => hk.2) (.slice Ao43 t1099.length co43)) (fun _ hk => hk.2) (.slice Ao44 t1102.length co44)) (fun _ hk => hk.2) (.int .i64 t1105)) (fun _ h_ => h_.1)))); (case side8 => exact (Kd.V_reads' HO1075.out).2.1); (case side9 => refine (Kd.V_reads' (e := 72) (base := w.heap.size) (ok := fun k_ => ((((((((((some k_ ≠ (.slice Ao26 t1079.length co26 : Value).ownBlock ∧ (some k_ ≠ (.slice Ao17 t1063.length co17 : Value).ownBlock ∧ (some k_ ≠ (.slice Ao18 t1066.length co18 : Value).ownBlock ∧ (some k_ ≠ (.slice Ao19 t1069.length co19 : Value).ownBlock ∧ k_ ≠ gb1061)))) ∧ k_ ≠ gb1084) ∧ some k_ ≠ (.slice Ao30 t1085.length co30 : Value).ownBlock) ∧ some k_ ≠ (.slice Ao34 t1088.length co34 : Value).ownBlock) ∧ some k_ ≠ (.slice Ao35 t1091.length co35 : Value).ownBlock) ∧ k_ ≠ gb1095) ∧ some k_ ≠ (.slice Ao38 t1096.length co38 : Value).ownBlock) ∧ some k_ ≠ (.slice Ao43 t1099.length co43 : Value).ownBlock) ∧ some k_ ≠ (.slice Ao44 t1102.length co44 : Value).ownBlock) ∧ k_ ≠ gb1107)) (n := t1076.length) (c := co25) ?_).2.2; exact (by (with_reducible repeat (first | apply Kd.V_alloc | apply Kd.V_drewN | apply Kd.V_drew)); exact (Kd.V_mono (Kd.V_far (p := ⟨gb1107, 3, none⟩) (Kd.V_far (p := ⟨gb1107, 2, none⟩) (Kd.V_far (p := ⟨gb1107, 1, none⟩) (Kd.V_far (p := ⟨gb1107, 0, none⟩) (Kd.V_mono HO1078.out (fun k_ hk => (⟨hk, hk.2⟩ : _ ∧ k_ ≠ gb1107))) (fun _ hk => hk.2) (.slice Ao38 t1096.length co38)) (fun _ hk => hk.2) (.slice Ao43 t1099.length co43)) (fun _ hk => hk.2) (.slice Ao44 t1102.length co44)) (fun _ hk => hk.2) (.int .i64 t1105)) (fun _ h_ => h_.1)))); (case side10 => exact (Kd.V_reads' HO1078.out).2.1); (case side11 => exact rc HO1081 BK1107); (case side12 => exact (Kd.R_reads' HO1081.out).2.1); rintro e w62 ⟨rfl, hb⟩; refine ⟨_, rfl, ?_⟩; replace HO1065 := nf HO1065 BK1107 hb; replace HO1068 := nf HO1068 BK1107 hb; replace HO1071 := nf HO1071 BK1107 hb; replace HO1075 := Aside0.mk (Kd.V_below (by (with_reducible repeat (first | apply Kd.V_alloc | apply Kd.V_drewN | apply Kd.V_drew)); exact (Kd.V_mono (Kd.V_far (p := ⟨gb1107, 3, none⟩) (Kd.V_far (p := ⟨gb1107, 2, none⟩) (Kd.V_far (p := ⟨gb1107, 1, none⟩) (Kd.V_far (p := ⟨gb1107, 0, none⟩) (Kd.V_mono HO1075.out (fun k_ hk => (⟨hk, hk.2⟩ : _ ∧ k_ ≠ gb1107))) (fun _ hk => hk.2) (.slice Ao38 t1096.length co38)) (fun _ hk => hk.2) (.slice Ao43 t1099.length co43)) (fun _ hk => hk.2) (.slice Ao44 t1102.length co44)) (fun _ hk => hk.2) (.int .i64 t1105)) (fun _ h_ => h_.1))) hb); replace HO1078 := Aside0.mk (Kd.V_below (by (with_reducible repeat (first | apply Kd.V_alloc | apply Kd.V_drewN | apply Kd.V_drew)); exact (Kd.V_mono (Kd.V_far (p := ⟨gb1107, 3, none⟩) (Kd.V_far (p := ⟨gb1107, 2, none⟩) (Kd.V_far (p := ⟨gb1107, 1, none⟩) (Kd.V_far (p := ⟨gb1107, 0, none⟩) (Kd.V_mono HO1078.out (fun k_ hk => (⟨hk, hk.2⟩ : _ ∧ k_ ≠ gb1107))) (fun _ hk => hk.2) (.slice Ao38 t1096.length co38)) (fun _ hk => hk.2) (.slice Ao43 t1099.length co43)) (fun _ hk => hk.2) (.slice Ao44 t1102.length co44)) (fun _ hk => hk.2) (.int .i64 t1105)) (fun _ h_ => h_.1))) hb); replace HO1081 := nf HO1081 BK1107 hb; replace HO1087 := nf HO1087 BK1107 hb; replace HO1090 := nf HO1090 BK1107 hb; replace HO1093 := nf HO1093 BK1107 hb; replace HO1098 := nf HO1098 BK1107 hb; replace HO1101 := nf HO1101 BK1107 hb; replace HO1104 := nf HO1104 BK1107 hb; replace BK1061 := Aside0.mk (blk_below (bf BK1061 NB1061_1107) hb); replace BK1084 := Aside0.mk (blk_below (bf BK1084 NB1084_1107) hb); replace BK1095 := Aside0.mk (blk_below (bf BK1095 NB1095_1107) hb); replace BK1107 := Aside0.mk (blk_below (g := gb1107) (o := .cells #[.slice Ao38 t1096.length co38, .slice Ao43 t1099.length co43, .slice Ao44 t1102.length co44, .int .i64 t1105] 44 (0, 0)) (by (with_reducible repeat (first | refine blk_drewN ?_ _ | refine blk_drew ?_ | refine blk_alloc ?_ _)); refine blk_put (cs := #[.slice Ao38 t1096.length co38, .slice Ao43 t1099.length co43, .slice Ao44 t1102.length co44, .int .i64 0]) ?_ 3 _ rfl; (with_reducible repeat (first | refine blk_drewN ?_ _ | refine blk_drew ?_ | refine blk_alloc ?_ _)); refine blk_put (cs := #[.slice Ao38 t1096.length co38, .slice Ao43 t1099.length co43, .slice none 0 0, .int .i64 0]) ?_ 2 _ rfl; (with_reducible repeat (first | refine blk_drewN ?_ _ | refine blk_drew ?_ | refine blk_alloc ?_ _)); refine blk_put (cs := #[.slice Ao38 t1096.length co38, .slice none 0 0, .slice none 0 0, .int .i64 0]) ?_ 1 _ rfl; (with_reducible repeat (first | refine blk_drewN ?_ _ | refine blk_drew ?_ | refine blk_alloc ?_ _)); refine blk_put (cs := #[.slice none 0 0, .slice none 0 0, .slice none 0 0, .int .i64 0]) ?_ 0 _ rfl; (with_reducible repeat (first | refine blk_drewN ?_ _ | refine blk_drew ?_ | refine blk_alloc ?_ _)); exact BK1107.out) hb); replace HB := Aside0.mk (below_step (bs4 HB GE1061 GE1084 GE1095 GE1107) hb); (try clear hb); (try clear hb2); (try clear hk); (try clear hi)))
    go_meet
    case rel => exact ⟨_, (true), (by first | rfl | (simp; done) | (simp [*]; done)), H', ⟨by first | omega | exact Nat.le_refl _⟩, ⟨by (with_reducible repeat (first | apply Kd.V_alloc | apply Kd.V_drewN | apply Kd.V_drew)); exact Kd.V_mono HO1075.out (fun _ hk => ⟨hk.1.1.1.1.1.1.1.1.1.1, ⟨hk.1.1.1.1.1.1.1.2, ⟨hk.1.1.1.1.1.1.2, ⟨hk.1.1.1.1.1.2, ⟨hk.1.1.1.2, ⟨hk.1.1.2, ⟨hk.1.2, ⟨hk.1.1.1.1.1.1.1.1.1.2.2.2.2, ⟨hk.1.1.1.1.1.1.1.1.2, ⟨hk.1.1.1.1.2, hk.2⟩⟩⟩⟩⟩⟩⟩⟩⟩⟩)⟩, ⟨by (with_reducible repeat (first | apply Kd.V_alloc | apply Kd.V_drewN | apply Kd.V_drew)); exact Kd.V_mono HO1078.out (fun _ hk => ⟨hk.1.1.1.1.1.1.1.1.1.1, ⟨hk.1.1.1.1.1.1.1.2, ⟨hk.1.1.1.1.1.1.2, ⟨hk.1.1.1.1.1.2, ⟨hk.1.1.1.2, ⟨hk.1.1.2, ⟨hk.1.2, ⟨hk.1.1.1.1.1.1.1.1.1.2.2.2.2, ⟨hk.1.1.1.1.1.1.1.1.2, ⟨hk.1.1.1.1.2, hk.2⟩⟩⟩⟩⟩⟩⟩⟩⟩⟩)⟩, rm HO1081 (fun _ hk => ⟨hk.1.1.1.2, ⟨hk.1.1.2, ⟨hk.1.2, hk.2⟩⟩⟩), rm HO1087 (fun _ hk => ⟨hk.1.1.2, ⟨hk.1.1.1.1.1, ⟨hk.1.2, hk.2⟩⟩⟩), rm HO1090 (fun _ hk => hk.2), rm HO1093 (fun _ hk => ⟨hk.1.1.2, ⟨hk.1.1.1.1.1, ⟨hk.1.2, hk.2⟩⟩⟩), rm HO1098 (fun _ hk => ⟨hk.1.1.2, ⟨hk.1.2, ⟨hk.2, hk.1.1.1.1.1⟩⟩⟩), rm HO1101 (fun _ hk => hk.2), rm HO1104 (fun _ hk => ⟨hk.1.1.2, ⟨hk.1.2, ⟨hk.2, hk.1.1.1.1.1⟩⟩⟩), ⟨bk BK1061⟩, ⟨bk BK1084⟩, ⟨bk BK1095⟩, ⟨bk BK1107⟩, ⟨bs4 HB GE1061 GE1084 GE1095 GE1107⟩⟩
  case rest =>
   clear HC11
   try clear c1
   try clear c2
   try clear p2
   try clear c3
   try clear c3b0
   try clear c4
   try clear c5
   try clear c6
   try clear c11
   try clear c23
   try clear c25
   try clear c27
   try clear c29
   try clear c31
   try clear c32
   try clear c39
   try clear c40
   try clear c41
   try clear c45
   try clear c46
   try clear c47
   try clear c48
   try clear c49
   try clear c51
   try clear c52
   try clear c55
   try clear c56
   try clear c57
   try clear c59
   try clear c60
   try clear hcz13_0 hcz13_1 hcz13_2 hcz13_3
   try clear hcz15_0 hcz15_1 hcz15_2 hcz15_3
   try clear hcz24_0 hcz24_1 hcz24_2 hcz24_3
   try clear hcz27_0 hcz27_1 hcz27_2 hcz27_3
   try clear hcz33_0 hcz33_1 hcz33_2 hcz33_3
   try clear hcz42_0 hcz42_1 hcz42_2 hcz42_3
   try clear hcz50_0 hcz50_1 hcz50_2 hcz50_3
   try clear hcz53_0 hcz53_1 hcz53_2 hcz53_3
   try clear hcz58_0 hcz58_1 hcz58_2 hcz58_3
   try clear hcz5_0 hcz5_1 hcz5_2 hcz5_3
   try clear hcz61_0 hcz61_1 hcz61_2 hcz61_3
   try clear hfz13_0 hfz13_1 hfz13_2 hfz13_3
   try clear hfz15_0 hfz15_1 hfz15_2 hfz15_3
   try clear hfz24_0 hfz24_1 hfz24_2 hfz24_3
   try clear hfz27_0 hfz27_1 hfz27_2 hfz27_3
   try clear hfz33_0 hfz33_1 hfz33_2 hfz33_3
   try clear hfz42_0 hfz42_1 hfz42_2 hfz42_3
   try clear hfz50_0 hfz50_1 hfz50_2 hfz50_3
   try clear hfz53_0 hfz53_1 hfz53_2 hfz53_3
   try clear hfz58_0 hfz58_1 hfz58_2 hfz58_3
   try clear hfz5_0 hfz5_1 hfz5_2 hfz5_3
   try clear hfz61_0 hfz61_1 hfz61_2 hfz61_3
   obtain ⟨kq, x40_10, rfl, HA, HJ10, HO_1085000, HO_1085001, HO_1085002, HO_1096000, HO_1096001, HO_1096002, HO_1108000, HO_1108001, HO_1108002, BK1061, BK1084, BK1095, BK1107, HB⟩ := hcut
   cases kq with
   | zero => exact absurd HA.out (by simp [laws_FnExactWriteBack.j0])
   | succ kj10 =>
    have H := HA.out
    clear HA
    simp only [laws_FnExactWriteBack.j0] at H
    by_cases c63 : x40_10 = true
    ·
     subst c63
     rw [if_pos rfl] at H
     obtain rfl := Option.some.inj H
     go_wp2
     go_ret
     exact ⟨by first | rfl | (simp [errW_none, errW_some] <;> rfl) | (simp [*, errW_none, errW_some] <;> rfl), bs4 HB GE1061 GE1084 GE1095 GE1107⟩
    ·
     replace c63 := Bool.eq_false_iff.mpr c63
     subst c63
     rw [if_neg (show ¬ (false = true) by decide)] at H
     replace H := Option.bind_eq_some_iff.mp H
     obtain ⟨⟨t1109, t1112, t1115, t1118⟩, A640, H⟩ := H
     replace H : ((laws_eqStore.f kj10 t1085 t1088 t1091 t1094 t1109 t1112 t1115 t1118).bind fun t1119 => (if t1119 = true then ((laws_markStore.f kj10 t1085 t1088 t1091 t1094 1).bind fun bt1120 => (if bt1120.1 < 0 then (laws_FnExactWriteBack.j1 kj10 t1083 true l0_0 l0_1 l0_2 a0_3 t1073 t1076 t1079 t1082 t1096 t1099 t1102 t1105) else ((laws_eqStore.f kj10 t1096 t1099 t1102 t1105 t1073 t1076 t1079 t1082).bind fun t1124 => (if t1124 = true then (laws_FnExactWriteBack.j1 kj10 t1083 (t1106 != t1083) l0_0 l0_1 l0_2 a0_3 t1073 t1076 t1079 t1082 t1096 t1099 t1102 t1105) else (laws_FnExactWriteBack.j1 kj10 t1083 true l0_0 l0_1 l0_2 a0_3 t1073 t1076 t1079 t1082 t1096 t1099 t1102 t1105))))) else (some false))) = some r := H
     have A64 := Aside0.mk A640
     clear A640
     replace H := Option.bind_eq_some_iff.mp H
     obtain ⟨t1119, A650, H⟩ := H
     replace H : (if t1119 = true then ((laws_markStore.f kj10 t1085 t1088 t1091 t1094 1).bind fun bt1120 => (if bt1120.1 < 0 then (laws_FnExactWriteBack.j1 kj10 t1083 true l0_0 l0_1 l0_2 a0_3 t1073 t1076 t1079 t1082 t1096 t1099 t1102 t1105) else ((laws_eqStore.f kj10 t1096 t1099 t1102 t1105 t1073 t1076 t1079 t1082).bind fun t1124 => (if t1124 = true then (laws_FnExactWriteBack.j1 kj10 t1083 (t1106 != t1083) l0_0 l0_1 l0_2 a0_3 t1073 t1076 t1079 t1082 t1096 t1099 t1102 t1105) else (laws_FnExactWriteBack.j1 kj10 t1083 true l0_0 l0_1 l0_2 a0_3 t1073 t1076 t1079 t1082 t1096 t1099 t1102 t1105))))) else (some false)) = some r := H
     have A65 := Aside0.mk A650
     clear A650
     by_cases c66 : t1119 = true
     ·
      subst c66
      rw [if_pos rfl] at H
      replace H := Option.bind_eq_some_iff.mp H
      obtain ⟨⟨t1120, t1121, t1122, t1123⟩, A670, H⟩ := H
      replace H : (if t1120 < 0 then (laws_FnExactWriteBack.j1 kj10 t1083 true l0_0 l0_1 l0_2 a0_3 t1073 t1076 t1079 t1082 t1096 t1099 t1102 t1105) else ((laws_eqStore.f kj10 t1096 t1099 t1102 t1105 t1073 t1076 t1079 t1082).bind fun t1124 => (if t1124 = true then (laws_FnExactWriteBack.j1 kj10 t1083 (t1106 != t1083) l0_0 l0_1 l0_2 a0_3 t1073 t1076 t1079 t1082 t1096 t1099 t1102 t1105) else (laws_FnExactWriteBack.j1 kj10 t1083 true l0_0 l0_1 l0_2 a0_3 t1073 t1076 t1079 t1082 t1096 t1099 t1102 t1105)))) = some r := H
      have A67 := Aside0.mk A670
      clear A670
      have HC68 := Aside0.mk H
      clear H
      try go_wp2
      have n0_ := Aside0.mk (Kd.V_drew HO_1085000.out)
      have n1_ := Aside0.mk (Kd.V_drew HO_1085001.out)
      have n2_ := Aside0.mk (Kd.R_drew HO_1085002.out)
      have n3_ := Aside0.mk (Kd.R_drew HO_1096000.out)
      have n4_ := Aside0.mk (Kd.R_drew HO_1096001.out)
      have n5_ := Aside0.mk (Kd.R_drew HO_1096002.out)
      have n6_ := Aside0.mk (Kd.R_drew HO_1108000.out)
      have n7_ := Aside0.mk (Kd.R_drew HO_1108001.out)
      have n8_ := Aside0.mk (Kd.R_drew HO_1108002.out)
      have n9_ := Aside0.mk (blk_drew BK1061.out)
      have n10_ := Aside0.mk (blk_drew BK1084.out)
      have n11_ := Aside0.mk (blk_drew BK1095.out)
      have n12_ := Aside0.mk (blk_drew BK1107.out)
      have n13_ := Aside0.mk (below_drew1 HB.out)
      clear HO_1085000
      clear HO_1085001
      clear HO_1085002
      clear HO_1096000
      clear HO_1096001
      clear HO_1096002
      clear HO_1108000
      clear HO_1108001
      clear HO_1108002
      clear BK1061
      clear BK1084
      clear BK1095
      clear BK1107
      clear HB
      have HO_1085000 := n0_
      have HO_1085001 := n1_
      have HO_1085002 := n2_
      have HO_1096000 := n3_
      have HO_1096001 := n4_
      have HO_1096002 := n5_
      have HO_1108000 := n6_
      have HO_1108001 := n7_
      have HO_1108002 := n8_
      have BK1061 := n9_
      have BK1084 := n10_
      have BK1095 := n11_
      have BK1107 := n12_
      have HB := n13_
      clear n0_ n1_ n2_ n3_ n4_ n5_ n6_ n7_ n8_ n9_ n10_ n11_ n12_ n13_
      refine start_ (n := 5) (S := fun w' => w'.cell? ⟨gb1095, 0, none⟩ = some (.slice Ao30 t1085.length co30) ∧ w'.cell? ⟨gb1095, 1, none⟩ = some (.slice Ao34 t1088.length co34) ∧ w'.cell? ⟨gb1095, 2, none⟩ = some (.slice Ao35 t1091.length co35) ∧ w'.cell? ⟨gb1095, 3, none⟩ = some (.int .i64 t1094) ∧ w'.cell? ⟨gb1061, 0, none⟩ = some (.slice A0_0 l0_0.length c0_0) ∧ w'.cell? ⟨gb1061, 1, none⟩ = some (.slice A0_1 l0_1.length c0_1) ∧ w'.cell? ⟨gb1061, 2, none⟩ = some (.slice A0_2 l0_2.length c0_2) ∧ w'.cell? ⟨gb1061, 3, none⟩ = some (.int .i64 a0_3)) (ds := []) #[false, false, false, false, false] (by kernel_rfl) rfl rfl ⟨(blk_cell BK1095.out 0).trans rfl, (blk_cell BK1095.out 1).trans rfl, (blk_cell BK1095.out 2).trans rfl, (blk_cell BK1095.out 3).trans rfl, (blk_cell BK1061.out 0).trans rfl, (blk_cell BK1061.out 1).trans rfl, (blk_cell BK1061.out 2).trans rfl, (blk_cell BK1061.out 3).trans rfl⟩ (fun hHeld => ?_)
      generalize wc.drew = w69 at HO_1085000 HO_1085001 HO_1085002 HO_1096000 HO_1096001 HO_1096002 HO_1108000 HO_1108001 HO_1108002 BK1061 BK1084 BK1095 BK1107 HB hHeld ⊢
      refine take_ (i := 0) (N := some 41) (v := ?_) (a' := ?_) #[true, false, false, false, false] rfl rfl (by kernel_rfl) (fun _ _ _ h => h) (Or.inl ⟨by rfl, ?_⟩) hHeld ?_ ?_
      rotate_left
      ·
       rintro w' ⟨s0, s1, s2, s3, s4, s5, s6, s7⟩
       go_simp
       with_reducible rfl
      rotate_left
      ·
       simp only [Act.put, List.setIfInBounds_toArray, List.set_cons_zero, List.set_cons_succ, i64_w, i32_w]
       rfl
      refine take_ (i := 1) (N := some 42) (v := ?_) (a' := ?_) #[true, true, false, false, false] rfl rfl (by kernel_rfl) (fun _ _ _ h => h) (Or.inl ⟨by rfl, ?_⟩) hHeld ?_ ?_
      rotate_left
      ·
       rintro w' ⟨s0, s1, s2, s3, s4, s5, s6, s7⟩
       go_simp
       with_reducible rfl
      rotate_left
      ·
       simp only [Act.put, List.setIfInBounds_toArray, List.set_cons_zero, List.set_cons_succ, i64_w, i32_w]
       rfl
      refine one_ (i := 2) (N := some 43) #[true, true, true, false, false] rfl rfl (by kernel_rfl) (by decide) (fun K hK => ?_)
      refine goes_ Try.func27 (by kernel_rfl) rfl #[.agg #[.slice A0_0 l0_0.length c0_0, .slice A0_1 l0_1.length c0_1, .slice A0_2 l0_2.length c0_2, .int .i64 a0_3]] (by rfl) rfl rfl (by (try simp only [List.map_toArray, List.map_cons, List.map_nil]); first | done | rfl | (simp only [List.length_drop, List.length_take]; rfl)) ?_
      with_reducible refine (laws_toStore.calls kj10 _ _ l0_0 _ _ l0_1 _ _ l0_2 a0_3 t1109 t1112 t1115 t1118 _ ?side1 ?side2 ?side3 ?side4 ?side5 ?side6 A64.out).mono ?_
      (case side1 => exact cb HR0_0 HB)
      (case side2 => exact HC0_0.out)
      (case side3 => exact cb HR0_1 HB)
      (case side4 => exact HC0_1.out)
      (case side5 => exact cb HR0_2 HB)
      (case side6 => exact HC0_2.out)
      rintro e w70 ⟨v1110, v1113, v1116, rfl, ho0, ho1, ho2, hb⟩
      refine ⟨_, rfl, ?_⟩
      have n0_ := Aside0.mk (Kd.V_mono (Kd.V_told (Kd.V_told (Kd.V_told (Kd.V_old (by (with_reducible repeat (first | apply Kd.V_alloc | apply Kd.V_drewN | apply Kd.V_drew)); exact HO_1085000.out) hb) (Kd.R_base ho0)) (Kd.R_base ho1)) (Kd.R_base ho2)) (fun _ h_ => h_.1))
      have n1_ := Aside0.mk (Kd.V_mono (Kd.V_told (Kd.V_told (Kd.V_told (Kd.V_old (by (with_reducible repeat (first | apply Kd.V_alloc | apply Kd.V_drewN | apply Kd.V_drew)); exact HO_1085001.out) hb) (Kd.R_base ho0)) (Kd.R_base ho1)) (Kd.R_base ho2)) (fun _ h_ => h_.1))
      have n2_ := Aside0.mk (Kd.R_mono (Kd.R_told (Kd.R_told (Kd.R_old (rr HO_1085002.out) hb) (Kd.R_base ho0)) (Kd.R_base ho2)) (fun _ h_ => h_.1))
      have n3_ := Aside0.mk (Kd.R_mono (Kd.R_told (Kd.R_told (Kd.R_old (rr HO_1096000.out) hb) (Kd.R_base ho0)) (Kd.R_base ho2)) (fun _ h_ => h_.1))
      have n4_ := Aside0.mk (Kd.R_elder' (rr HO_1096001.out) (Kd.R_base ho1) hb)
      have n5_ := Aside0.mk (Kd.R_mono (Kd.R_told (Kd.R_told (Kd.R_old (rr HO_1096002.out) hb) (Kd.R_base ho0)) (Kd.R_base ho2)) (fun _ h_ => h_.1))
      have n6_ := Aside0.mk (Kd.R_mono (Kd.R_told (Kd.R_told (Kd.R_old (rr HO_1108000.out) hb) (Kd.R_base ho0)) (Kd.R_base ho2)) (fun _ h_ => h_.1))
      have n7_ := Aside0.mk (Kd.R_elder' (rr HO_1108001.out) (Kd.R_base ho1) hb)
      have n8_ := Aside0.mk (Kd.R_mono (Kd.R_told (Kd.R_told (Kd.R_old (rr HO_1108002.out) hb) (Kd.R_base ho0)) (Kd.R_base ho2)) (fun _ h_ => h_.1))
      have n9_ := Aside0.mk (Kd.R_lower (Kd.R_new' (Kd.R_new' (Kd.R_new' (Kd.R_new' (Kd.R_new' ho0 (Kd.R_lt (rr HO_1085002.out))) (Kd.R_lt (rr HO_1096000.out))) (Kd.R_lt (rr HO_1096002.out))) (Kd.R_lt (rr HO_1108000.out))) (Kd.R_lt (rr HO_1108002.out))) (below_size (bs4 HB GE1061 GE1084 GE1095 GE1107)))
      have n10_ := Aside0.mk (Kd.R_lower (Kd.R_new' (Kd.R_new' ho1 (Kd.R_lt (rr HO_1096001.out))) (Kd.R_lt (rr HO_1108001.out))) (below_size (bs4 HB GE1061 GE1084 GE1095 GE1107)))
      have n11_ := Aside0.mk (Kd.R_lower (Kd.R_new' (Kd.R_new' (Kd.R_new' (Kd.R_new' (Kd.R_new' ho2 (Kd.R_lt (rr HO_1085002.out))) (Kd.R_lt (rr HO_1096000.out))) (Kd.R_lt (rr HO_1096002.out))) (Kd.R_lt (rr HO_1108000.out))) (Kd.R_lt (rr HO_1108002.out))) (below_size (bs4 HB GE1061 GE1084 GE1095 GE1107)))
      have n12_ := Aside0.mk (bb BK1061 hb)
      have n13_ := Aside0.mk (bb BK1084 hb)
      have n14_ := Aside0.mk (bb BK1095 hb)
      have n15_ := Aside0.mk (bb BK1107 hb)
      have n16_ := Aside0.mk (below_step (bs4 HB GE1061 GE1084 GE1095 GE1107) hb)
      clear HO_1085000
      clear HO_1085001
      clear HO_1085002
      clear HO_1096000
      clear HO_1096001
      clear HO_1096002
      clear HO_1108000
      clear HO_1108001
      clear HO_1108002
      clear BK1061
      clear BK1084
      clear BK1095
      clear BK1107
      clear HB
      have HO_1085000 := n0_
      have HO_1085001 := n1_
      have HO_1085002 := n2_
      have HO_1096000 := n3_
      have HO_1096001 := n4_
      have HO_1096002 := n5_
      have HO_1108000 := n6_
      have HO_1108001 := n7_
      have HO_1108002 := n8_
      have HO1111 := n9_
      have HO1114 := n10_
      have HO1117 := n11_
      have BK1061 := n12_
      have BK1084 := n13_
      have BK1095 := n14_
      have BK1107 := n15_
      have HB := n16_
      clear n0_ n1_ n2_ n3_ n4_ n5_ n6_ n7_ n8_ n9_ n10_ n11_ n12_ n13_ n14_ n15_ n16_
      (try clear hb)
      (try clear hb2)
      (try clear hk)
      (try clear hi)
      (try clear ho0)
      (try clear ho1)
      (try clear ho2)
      obtain ⟨Ao71, co71, eo71⟩ := Kd.R_slice HO1111.out
      (first | subst eo71 | (injection eo71 with f1_ f2_ f3_; have f4_ := f1_.symm; have f5_ := f3_.symm; clear f1_ f2_ f3_; subst f4_; subst f5_))
      obtain ⟨Ao72, co72, eo72⟩ := Kd.R_slice HO1114.out
      (first | subst eo72 | (injection eo72 with f1_ f2_ f3_; have f4_ := f1_.symm; have f5_ := f3_.symm; clear f1_ f2_ f3_; subst f4_; subst f5_))
      obtain ⟨Ao73, co73, eo73⟩ := Kd.R_slice HO1117.out
      (first | subst eo73 | (injection eo73 with f1_ f2_ f3_; have f4_ := f1_.symm; have f5_ := f3_.symm; clear f1_ f2_ f3_; subst f4_; subst f5_))
      refine hK.out _ _ ⟨(blk_cell BK1095.out 0).trans rfl, (blk_cell BK1095.out 1).trans rfl, (blk_cell BK1095.out 2).trans rfl, (blk_cell BK1095.out 3).trans rfl, (blk_cell BK1061.out 0).trans rfl, (blk_cell BK1061.out 1).trans rfl, (blk_cell BK1061.out 2).trans rfl, (blk_cell BK1061.out 3).trans rfl⟩ (fun hHeld => ?_)
      clear hK K
      refine norm_ (a' := ?_) ?_ ?_
      rotate_left
      ·
       show Act.put _ (some 43) _ = _
       simp only [Act.put, List.setIfInBounds_toArray, List.set_cons_zero, List.set_cons_succ, i64_w, i32_w]
       rfl
      refine one_ (i := 3) (N := some 44) #[true, true, true, true, false] rfl rfl (by kernel_rfl) (by decide) (fun K hK => ?_)
      refine goes_ Try.func29 (by kernel_rfl) rfl #[.agg #[.slice Ao30 t1085.length co30, .slice Ao34 t1088.length co34, .slice Ao35 t1091.length co35, .int .i64 t1094], .agg #[.slice Ao71 t1109.length co71, .slice Ao72 t1112.length co72, .slice Ao73 t1115.length co73, .int .i64 t1118]] (by rfl) rfl rfl (by (try simp only [List.map_toArray, List.map_cons, List.map_nil]); first | done | rfl | (simp only [List.length_drop, List.length_take]; rfl)) ?_
      with_reducible refine (laws_eqStore.calls kj10 _ _ t1085 _ _ t1088 _ _ t1091 t1094 _ _ t1109 _ _ t1112 _ _ t1115 t1118 true _ ?side1 ?side2 ?side3 ?side4 ?side5 ?side6 ?side7 ?side8 ?side9 ?side10 ?side11 ?side12 A65.out).mono ?_
      (case side1 => exact rc0 HO_1096000)
      (case side2 => exact (Kd.R_reads' HO_1096000.out).2.1)
      (case side3 => exact rc0 HO_1096001)
      (case side4 => exact (Kd.R_reads' HO_1096001.out).2.1)
      (case side5 => exact rc0 HO_1096002)
      (case side6 => exact (Kd.R_reads' HO_1096002.out).2.1)
      (case side7 => exact rc0 HO1111)
      (case side8 => exact (Kd.R_reads' HO1111.out).2.1)
      (case side9 => exact rc0 HO1114)
      (case side10 => exact (Kd.R_reads' HO1114.out).2.1)
      (case side11 => exact rc0 HO1117)
      (case side12 => exact (Kd.R_reads' HO1117.out).2.1)
      rintro e w74 ⟨rfl, hb⟩
      refine ⟨_, rfl, ?_⟩
      have n0_ := Aside0.mk (Kd.V_below (by (with_reducible repeat (first | apply Kd.V_alloc | apply Kd.V_drewN | apply Kd.V_drew)); exact HO_1085000.out) hb)
      have n1_ := Aside0.mk (Kd.V_below (by (with_reducible repeat (first | apply Kd.V_alloc | apply Kd.V_drewN | apply Kd.V_drew)); exact HO_1085001.out) hb)
      have n2_ := Aside0.mk (Kd.R_below (rr HO_1085002.out) hb)
      have n3_ := Aside0.mk (Kd.R_below (rr HO_1096000.out) hb)
      have n4_ := Aside0.mk (Kd.R_below (rr HO_1096001.out) hb)
      have n5_ := Aside0.mk (Kd.R_below (rr HO_1096002.out) hb)
      have n6_ := Aside0.mk (Kd.R_below (rr HO_1108000.out) hb)
      have n7_ := Aside0.mk (Kd.R_below (rr HO_1108001.out) hb)
      have n8_ := Aside0.mk (Kd.R_below (rr HO_1108002.out) hb)
      have n9_ := Aside0.mk (Kd.R_below (rr HO1111.out) hb)
      have n10_ := Aside0.mk (Kd.R_below (rr HO1114.out) hb)
      have n11_ := Aside0.mk (Kd.R_below (rr HO1117.out) hb)
      have n12_ := Aside0.mk (bb BK1061 hb)
      have n13_ := Aside0.mk (bb BK1084 hb)
      have n14_ := Aside0.mk (bb BK1095 hb)
      have n15_ := Aside0.mk (bb BK1107 hb)
      have n16_ := Aside0.mk (below_step (bs4 HB GE1061 GE1084 GE1095 GE1107) hb)
      clear HO_1085000
      clear HO_1085001
      clear HO_1085002
      clear HO_1096000
      clear HO_1096001
      clear HO_1096002
      clear HO_1108000
      clear HO_1108001
      clear HO_1108002
      clear HO1111
      clear HO1114
      clear HO1117
      clear BK1061
      clear BK1084
      clear BK1095
      clear BK1107
      clear HB
      have HO_1085000 := n0_
      have HO_1085001 := n1_
      have HO_1085002 := n2_
      have HO_1096000 := n3_
      have HO_1096001 := n4_
      have HO_1096002 := n5_
      have HO_1108000 := n6_
      have HO_1108001 := n7_
      have HO_1108002 := n8_
      have HO1111 := n9_
      have HO1114 := n10_
      have HO1117 := n11_
      have BK1061 := n12_
      have BK1084 := n13_
      have BK1095 := n14_
      have BK1107 := n15_
      have HB := n16_
      clear n0_ n1_ n2_ n3_ n4_ n5_ n6_ n7_ n8_ n9_ n10_ n11_ n12_ n13_ n14_ n15_ n16_
      (try clear hb)
      (try clear hb2)
      (try clear hk)
      (try clear hi)
      refine hK.out _ _ ⟨(blk_cell BK1095.out 0).trans rfl, (blk_cell BK1095.out 1).trans rfl, (blk_cell BK1095.out 2).trans rfl, (blk_cell BK1095.out 3).trans rfl, (blk_cell BK1061.out 0).trans rfl, (blk_cell BK1061.out 1).trans rfl, (blk_cell BK1061.out 2).trans rfl, (blk_cell BK1061.out 3).trans rfl⟩ (fun hHeld => ?_)
      clear hK K
      refine norm_ (a' := ?_) ?_ ?_
      rotate_left
      ·
       show Act.put _ (some 44) _ = _
       simp only [Act.put, List.setIfInBounds_toArray, List.set_cons_zero, List.set_cons_succ, i64_w, i32_w]
       rfl
      refine pure_ (i := 4) (N := some 45) (v := ?_) (a' := ?_) #[true, true, true, true, true] rfl rfl (by kernel_rfl) (fun _ _ _ h => h) (Or.inl ⟨by rfl, ?_⟩) ?_ ?_
      rotate_left
      ·
       intro w'
       go_simp
       with_reducible rfl
      rotate_left
      ·
       simp only [Act.put, List.setIfInBounds_toArray, List.set_cons_zero, List.set_cons_succ, i64_w, i32_w]
       rfl
      refine done_ (by kernel_rfl) ?_
      have hnb75 := NB1095_1061.out
      have hnc75 := NB1061_1095.out
      have hnb76 := NB1095_1084.out
      have hnc76 := NB1084_1095.out
      have hnb77 := NB1095_1107.out
      have hnc77 := NB1107_1095.out
      obtain ⟨hcz78_0, hcz78_1, hcz78_2, hcz78_3⟩ := cz4 BK1095
      obtain ⟨hfz78_0, hfz78_1, hfz78_2, hfz78_3⟩ := fz4 BK1095
      go_upto_region 14 with (first | ((with_reducible refine gate_callee (f := 32) rfl ?_); refine gL (some 48) rfl rfl Try.func32 (by kernel_rfl) rfl #[.agg #[.slice Ao30 t1085.length co30, .slice Ao34 t1088.length co34, .slice Ao35 t1091.length co35, .int .i64 t1094], .int .i64 1] rfl ?_; (with_reducible refine (laws_markStore.calls kj10 (fun k_ => some k_ = (.slice Ao30 t1085.length co30 : Value).ownBlock) (.slice Ao30 t1085.length co30) t1085 (fun k_ => some k_ = (.slice Ao34 t1088.length co34 : Value).ownBlock) (.slice Ao34 t1088.length co34) t1088 (fun k_ => some k_ = (.slice Ao35 t1091.length co35 : Value).ownBlock) (.slice Ao35 t1091.length co35) t1091 t1094 1 t1120 t1121 t1122 t1123 w _ ?side1 ?side2 ?side3 ?side4 ?side5 ?side6 A67.out).mono ?_); (case side1 => repeat (first | (with_reducible first | exact HB.out | apply below_alloc | apply pw_below_drewN | apply below_drew1 | refine below_set ?_ GE1061.out | refine below_set ?_ GE1084.out | refine below_set ?_ GE1095.out | refine below_set ?_ GE1107.out) | exact HB.out)); (case side2 => exact Kd.R_tight rfl HO_1096000.out); (case side3 => exact fun k_ e_ => (HO_1096000.out.1 k_ e_.symm).1.1.2.1); (case side4 => exact Kd.R_tight rfl HO_1096001.out); (case side5 => exact Kd.R_tight rfl HO_1096002.out); (case side6 => exact fun k_ e_ => (HO_1096002.out.1 k_ e_.symm).1.1.2.1); rintro e w79 ⟨rfl, hy0, hy1, hy2, hb, hkp⟩; refine ⟨_, rfl, ?_⟩; replace HO_1085000 := Aside0.mk (Kd.V_mono (ok' := fun k_ => some k_ ≠ (.slice Ao26 t1079.length co26 : Value).ownBlock ∧ some k_ ≠ (.slice Ao30 t1085.length co30 : Value).ownBlock ∧ some k_ ≠ (.slice Ao34 t1088.length co34 : Value).ownBlock ∧ some k_ ≠ (.slice Ao35 t1091.length co35 : Value).ownBlock ∧ some k_ ≠ (.slice Ao38 t1096.length co38 : Value).ownBlock ∧ some k_ ≠ (.slice Ao43 t1099.length co43 : Value).ownBlock ∧ some k_ ≠ (.slice Ao44 t1102.length co44 : Value).ownBlock ∧ some k_ ≠ (.slice Ao71 t1109.length co71 : Value).ownBlock ∧ some k_ ≠ (.slice Ao72 t1112.length co72 : Value).ownBlock ∧ some k_ ≠ (.slice Ao73 t1115.length co73 : Value).ownBlock ∧ k_ ≠ gb1061 ∧ k_ ≠ gb1084 ∧ k_ ≠ gb1095 ∧ k_ ≠ gb1107) (Kd.V_keptB (HO_1085000.out) hkp (fun k_ hk_ hs_ => Or.elim hs_ (fun e_ => (hk_.1.1.1.2.1) e_) (fun e_ => Or.elim e_ (fun e_ => (hk_.1.1.1.2.2.1) e_) (fun e_ => (hk_.1.1.1.2.2.2.1) e_)))) (fun k_ hk_ => ⟨hk_.1.1.1.1.1, hk_.1.1.1.1.2.1, hk_.1.1.1.1.2.2.1, hk_.1.1.1.1.2.2.2.1, hk_.1.1.1.1.2.2.2.2.1, hk_.1.1.1.1.2.2.2.2.2.1, hk_.1.1.1.1.2.2.2.2.2.2.1, hk_.1.1.1.2, hk_.1.1.2, hk_.1.2, hk_.1.1.1.1.2.2.2.2.2.2.2.1, hk_.1.1.1.1.2.2.2.2.2.2.2.2.1, hk_.1.1.1.1.2.2.2.2.2.2.2.2.2.1, hk_.1.1.1.1.2.2.2.2.2.2.2.2.2.2⟩)); replace HO_1085001 := Aside0.mk (Kd.V_mono (ok' := fun k_ => some k_ ≠ (.slice Ao26 t1079.length co26 : Value).ownBlock ∧ some k_ ≠ (.slice Ao30 t1085.length co30 : Value).ownBlock ∧ some k_ ≠ (.slice Ao34 t1088.length co34 : Value).ownBlock ∧ some k_ ≠ (.slice Ao35 t1091.length co35 : Value).ownBlock ∧ some k_ ≠ (.slice Ao38 t1096.length co38 : Value).ownBlock ∧ some k_ ≠ (.slice Ao43 t1099.length co43 : Value).ownBlock ∧ some k_ ≠ (.slice Ao44 t1102.length co44 : Value).ownBlock ∧ some k_ ≠ (.slice Ao71 t1109.length co71 : Value).ownBlock ∧ some k_ ≠ (.slice Ao72 t1112.length co72 : Value).ownBlock ∧ some k_ ≠ (.slice Ao73 t1115.length co73 : Value).ownBlock ∧ k_ ≠ gb1061 ∧ k_ ≠ gb1084 ∧ k_ ≠ gb1095 ∧ k_ ≠ gb1107) (Kd.V_keptB (HO_1085001.out) hkp (fun k_ hk_ hs_ => Or.elim hs_ (fun e_ => (hk_.1.1.1.2.1) e_) (fun e_ => Or.elim e_ (fun e_ => (hk_.1.1.1.2.2.1) e_) (fun e_ => (hk_.1.1.1.2.2.2.1) e_)))) (fun k_ hk_ => ⟨hk_.1.1.1.1.1, hk_.1.1.1.1.2.1, hk_.1.1.1.1.2.2.1, hk_.1.1.1.1.2.2.2.1, hk_.1.1.1.1.2.2.2.2.1, hk_.1.1.1.1.2.2.2.2.2.1, hk_.1.1.1.1.2.2.2.2.2.2.1, hk_.1.1.1.2, hk_.1.1.2, hk_.1.2, hk_.1.1.1.1.2.2.2.2.2.2.2.1, hk_.1.1.1.1.2.2.2.2.2.2.2.2.1, hk_.1.1.1.1.2.2.2.2.2.2.2.2.2.1, hk_.1.1.1.1.2.2.2.2.2.2.2.2.2.2⟩)); replace HO_1085002 := Aside0.mk (Kd.R_mono (ok' := fun k_ => some k_ ≠ (.slice Ao30 t1085.length co30 : Value).ownBlock ∧ some k_ ≠ (.slice Ao35 t1091.length co35 : Value).ownBlock ∧ some k_ ≠ (.slice Ao38 t1096.length co38 : Value).ownBlock ∧ some k_ ≠ (.slice Ao44 t1102.length co44 : Value).ownBlock ∧ some k_ ≠ (.slice Ao71 t1109.length co71 : Value).ownBlock ∧ some k_ ≠ (.slice Ao73 t1115.length co73 : Value).ownBlock) (Kd.R_keptB ((Kd.R_apart' HO_1085002.out (Kd.R_typed HO_1096001.out) (by decide))) hkp (fun k_ hk_ hs_ => Or.elim hs_ (fun e_ => (hk_.1.1.1.1) e_) (fun e_ => Or.elim e_ (fun e_ => (hk_.2) e_) (fun e_ => (hk_.1.1.1.2.1) e_)))) (fun k_ hk_ => ⟨hk_.1.1.1.1.1, hk_.1.1.1.1.2.1, hk_.1.1.1.1.2.2.1, hk_.1.1.1.1.2.2.2, hk_.1.1.1.2, hk_.1.1.2⟩)); replace HO_1108000 := Aside0.mk (Kd.R_mono (ok' := fun k_ => some k_ ≠ (.slice Ao26 t1079.length co26 : Value).ownBlock ∧ some k_ ≠ (.slice Ao30 t1085.length co30 : Value).ownBlock ∧ some k_ ≠ (.slice Ao35 t1091.length co35 : Value).ownBlock ∧ some k_ ≠ (.slice Ao44 t1102.length co44 : Value).ownBlock ∧ some k_ ≠ (.slice Ao71 t1109.length co71 : Value).ownBlock ∧ some k_ ≠ (.slice Ao73 t1115.length co73 : Value).ownBlock) (Kd.R_keptB ((Kd.R_apart' HO_1108000.out (Kd.R_typed HO_1096001.out) (by decide))) hkp (fun k_ hk_ hs_ => Or.elim hs_ (fun e_ => (hk_.1.1.1.2.1) e_) (fun e_ => Or.elim e_ (fun e_ => (hk_.2) e_) (fun e_ => (hk_.1.1.1.2.2.1) e_)))) (fun k_ hk_ => ⟨hk_.1.1.1.1.1, hk_.1.1.1.1.2.1, hk_.1.1.1.1.2.2.1, hk_.1.1.1.1.2.2.2, hk_.1.1.1.2, hk_.1.1.2⟩)); replace HO_1108001 := Aside0.mk (Kd.R_mono (ok' := fun k_ => some k_ ≠ (.slice Ao34 t1088.length co34 : Value).ownBlock ∧ some k_ ≠ (.slice Ao72 t1112.length co72 : Value).ownBlock) (Kd.R_keptB ((Kd.R_apart' (Kd.R_apart' HO_1108001.out (Kd.R_typed HO_1096000.out) (by decide)) (Kd.R_typed HO_1096002.out) (by decide))) hkp (fun k_ hk_ hs_ => Or.elim hs_ (fun e_ => (hk_.1.2) e_) (fun e_ => Or.elim e_ (fun e_ => (hk_.1.1.1) e_) (fun e_ => (hk_.2) e_)))) (fun k_ hk_ => ⟨hk_.1.1.1.1, hk_.1.1.1.2⟩)); replace HO_1108002 := Aside0.mk (Kd.R_mono (ok' := fun k_ => some k_ ≠ (.slice Ao26 t1079.length co26 : Value).ownBlock ∧ some k_ ≠ (.slice Ao30 t1085.length co30 : Value).ownBlock ∧ some k_ ≠ (.slice Ao35 t1091.length co35 : Value).ownBlock ∧ some k_ ≠ (.slice Ao38 t1096.length co38 : Value).ownBlock ∧ some k_ ≠ (.slice Ao71 t1109.length co71 : Value).ownBlock ∧ some k_ ≠ (.slice Ao73 t1115.length co73 : Value).ownBlock) (Kd.R_keptB ((Kd.R_apart' HO_1108002.out (Kd.R_typed HO_1096001.out) (by decide))) hkp (fun k_ hk_ hs_ => Or.elim hs_ (fun e_ => (hk_.1.1.1.2.1) e_) (fun e_ => Or.elim e_ (fun e_ => (hk_.2) e_) (fun e_ => (hk_.1.1.1.2.2.1) e_)))) (fun k_ hk_ => ⟨hk_.1.1.1.1.1, hk_.1.1.1.1.2.1, hk_.1.1.1.1.2.2.1, hk_.1.1.1.1.2.2.2, hk_.1.1.1.2, hk_.1.1.2⟩)); replace BK1061 := Aside0.mk (blk_kept (bk BK1061) hkp (fun hs_ => Or.elim hs_ (fun e_ => (fun e_ => (Kd.R_ne HO_1096000.out BK1061.out (by decide)) e_) e_) (fun e_ => Or.elim e_ (fun e_ => (fun e_ => (Kd.R_ne HO_1096001.out BK1061.out (by decide)) e_) e_) (fun e_ => (fun e_ => (Kd.R_ne HO_1096002.out BK1061.out (by decide)) e_) e_)))); replace BK1084 := Aside0.mk (blk_kept (bk BK1084) hkp (fun hs_ => Or.elim hs_ (fun e_ => (fun e_ => (Kd.R_ne HO_1096000.out BK1084.out (by decide)) e_) e_) (fun e_ => Or.elim e_ (fun e_ => (fun e_ => (Kd.R_ne HO_1096001.out BK1084.out (by decide)) e_) e_) (fun e_ => (fun e_ => (Kd.R_ne HO_1096002.out BK1084.out (by decide)) e_) e_)))); replace BK1095 := Aside0.mk (blk_kept (bk BK1095) hkp (fun hs_ => Or.elim hs_ (fun e_ => (fun e_ => (Kd.R_ne HO_1096000.out BK1095.out (by decide)) e_) e_) (fun e_ => Or.elim e_ (fun e_ => (fun e_ => (Kd.R_ne HO_1096001.out BK1095.out (by decide)) e_) e_) (fun e_ => (fun e_ => (Kd.R_ne HO_1096002.out BK1095.out (by decide)) e_) e_)))); replace BK1107 := Aside0.mk (blk_kept (bk BK1107) hkp (fun hs_ => Or.elim hs_ (fun e_ => (fun e_ => (Kd.R_ne HO_1096000.out BK1107.out (by decide)) e_) e_) (fun e_ => Or.elim e_ (fun e_ => (fun e_ => (Kd.R_ne HO_1096001.out BK1107.out (by decide)) e_) e_) (fun e_ => (fun e_ => (Kd.R_ne HO_1096002.out BK1107.out (by decide)) e_) e_)))); replace HO1111 := Aside0.mk (Kd.R_mono (ok' := fun k_ => some k_ ≠ (.slice Ao26 t1079.length co26 : Value).ownBlock ∧ some k_ ≠ (.slice Ao30 t1085.length co30 : Value).ownBlock ∧ some k_ ≠ (.slice Ao35 t1091.length co35 : Value).ownBlock ∧ some k_ ≠ (.slice Ao38 t1096.length co38 : Value).ownBlock ∧ some k_ ≠ (.slice Ao44 t1102.length co44 : Value).ownBlock ∧ some k_ ≠ (.slice Ao73 t1115.length co73 : Value).ownBlock) (Kd.R_keptB ((Kd.R_apart' HO1111.out (Kd.R_typed HO_1096001.out) (by decide))) hkp (fun k_ hk_ hs_ => Or.elim hs_ (fun e_ => (hk_.1.1.1.1.2) e_) (fun e_ => Or.elim e_ (fun e_ => (hk_.2) e_) (fun e_ => (hk_.1.1.1.2) e_)))) (fun k_ hk_ => ⟨hk_.1.1.1.1.1.1.2, hk_.1.1.1.1.1.2, hk_.1.1.1.1.2, hk_.1.1.1.2, hk_.1.1.2, hk_.1.1.1.1.1.1.1⟩)); replace HO1114 := Aside0.mk (Kd.R_mono (ok' := fun k_ => some k_ ≠ (.slice Ao34 t1088.length co34 : Value).ownBlock ∧ some k_ ≠ (.slice Ao43 t1099.length co43 : Value).ownBlock) (Kd.R_keptB ((Kd.R_apart' (Kd.R_apart' HO1114.out (Kd.R_typed HO_1096000.out) (by decide)) (Kd.R_typed HO_1096002.out) (by decide))) hkp (fun k_ hk_ hs_ => Or.elim hs_ (fun e_ => (hk_.1.2) e_) (fun e_ => Or.elim e_ (fun e_ => (hk_.1.1.1.2) e_) (fun e_ => (hk_.2) e_)))) (fun k_ hk_ => ⟨hk_.1.1.1.1.2, hk_.1.1.1.2⟩)); replace HO_1096000 := Aside0.mk (Kd.R_reok rfl hy0 (fun k_ e_ => HO_1096000.out.1 k_ e_)); replace HO_1096002 := Aside0.mk (Kd.R_reok rfl hy2 (fun k_ e_ => HO_1096002.out.1 k_ e_)); replace HO1117 := Aside0.mk (Kd.R_mono (ok' := fun k_ => some k_ ≠ (.slice Ao26 t1079.length co26 : Value).ownBlock ∧ some k_ ≠ (.slice Ao30 t1085.length co30 : Value).ownBlock ∧ some k_ ≠ (.slice Ao35 t1091.length co35 : Value).ownBlock ∧ some k_ ≠ (.slice Ao38 t1096.length co38 : Value).ownBlock ∧ some k_ ≠ (.slice Ao44 t1102.length co44 : Value).ownBlock ∧ some k_ ≠ (.slice Ao71 t1109.length co71 : Value).ownBlock) (Kd.R_keptB ((Kd.R_apart' HO1117.out (Kd.R_typed HO_1096001.out) (by decide))) hkp (fun k_ hk_ hs_ => Or.elim hs_ (fun e_ => (hk_.1.1.1.1.2) e_) (fun e_ => Or.elim e_ (fun e_ => (hk_.2) e_) (fun e_ => (hk_.1.1.1.2) e_)))) (fun k_ hk_ => ⟨hk_.1.1.1.1.1.1.2, hk_.1.1.1.1.1.2, hk_.1.1.1.1.2, hk_.1.1.1.2, hk_.1.1.2, hk_.1.1.1.1.1.1.1⟩)); replace HO_1096001 := Aside0.mk (Kd.R_reok rfl hy1 (fun k_ e_ => HO_1096001.out.1 k_ e_)); replace HB := Aside0.mk (hb); (try clear hb); (try clear hkp); (try clear hy0); (try clear hy1); (try clear hy2)))
      (try simp only [Act.put, List.setIfInBounds_toArray, List.set_cons_zero, List.set_cons_succ])
      go_cut [61] (fun v61 wc => ∃ (kq : Nat) (x61_67 : Bool), v61 = .bool x61_67 ∧ Aside0 (laws_FnExactWriteBack.j1 kq t1083 x61_67 l0_0 l0_1 l0_2 a0_3 t1073 t1076 t1079 t1082 t1096 t1099 t1102 t1105 = some r) ∧ Aside0 (kq ≤ kj10) ∧ Aside0 (Kd.V Kd.string 9 wc w.heap.size (fun k_ => some k_ ≠ ((.slice Ao26 t1079.length co26) : Value).ownBlock ∧ some k_ ≠ ((.slice Ao30 t1085.length co30) : Value).ownBlock ∧ some k_ ≠ ((.slice Ao34 t1088.length co34) : Value).ownBlock ∧ some k_ ≠ ((.slice Ao35 t1091.length co35) : Value).ownBlock ∧ some k_ ≠ ((.slice Ao38 t1096.length co38) : Value).ownBlock ∧ some k_ ≠ ((.slice Ao43 t1099.length co43) : Value).ownBlock ∧ some k_ ≠ ((.slice Ao44 t1102.length co44) : Value).ownBlock ∧ k_ ≠ gb1061 ∧ k_ ≠ gb1084 ∧ k_ ≠ gb1095 ∧ k_ ≠ gb1107) (.slice Ao22 t1073.length co22) t1073) ∧ Aside0 (Kd.V k72 72 wc w.heap.size (fun k_ => some k_ ≠ ((.slice Ao26 t1079.length co26) : Value).ownBlock ∧ some k_ ≠ ((.slice Ao30 t1085.length co30) : Value).ownBlock ∧ some k_ ≠ ((.slice Ao34 t1088.length co34) : Value).ownBlock ∧ some k_ ≠ ((.slice Ao35 t1091.length co35) : Value).ownBlock ∧ some k_ ≠ ((.slice Ao38 t1096.length co38) : Value).ownBlock ∧ some k_ ≠ ((.slice Ao43 t1099.length co43) : Value).ownBlock ∧ some k_ ≠ ((.slice Ao44 t1102.length co44) : Value).ownBlock ∧ k_ ≠ gb1061 ∧ k_ ≠ gb1084 ∧ k_ ≠ gb1095 ∧ k_ ≠ gb1107) (.slice Ao25 t1076.length co25) t1076) ∧ Aside0 (Kd.R Kd.string 9 wc w.heap.size (fun k_ => some k_ ≠ ((.slice Ao30 t1085.length co30) : Value).ownBlock ∧ some k_ ≠ ((.slice Ao35 t1091.length co35) : Value).ownBlock ∧ some k_ ≠ ((.slice Ao38 t1096.length co38) : Value).ownBlock ∧ some k_ ≠ ((.slice Ao44 t1102.length co44) : Value).ownBlock) (.slice Ao26 t1079.length co26) t1079) ∧ Aside0 (Kd.R Kd.string 9 wc w.heap.size (fun k_ => some k_ ≠ ((.slice Ao26 t1079.length co26) : Value).ownBlock ∧ some k_ ≠ ((.slice Ao35 t1091.length co35) : Value).ownBlock ∧ some k_ ≠ ((.slice Ao38 t1096.length co38) : Value).ownBlock ∧ some k_ ≠ ((.slice Ao44 t1102.length co44) : Value).ownBlock) (.slice Ao30 t1085.length co30) t1121) ∧ Aside0 (Kd.R k72 72 wc w.heap.size (fun k_ => some k_ ≠ ((.slice Ao43 t1099.length co43) : Value).ownBlock) (.slice Ao34 t1088.length co34) t1122) ∧ Aside0 (Kd.R Kd.string 9 wc w.heap.size (fun k_ => some k_ ≠ ((.slice Ao26 t1079.length co26) : Value).ownBlock ∧ some k_ ≠ ((.slice Ao30 t1085.length co30) : Value).ownBlock ∧ some k_ ≠ ((.slice Ao38 t1096.length co38) : Value).ownBlock ∧ some k_ ≠ ((.slice Ao44 t1102.length co44) : Value).ownBlock) (.slice Ao35 t1091.length co35) t1123) ∧ Aside0 (Kd.R Kd.string 9 wc w.heap.size (fun k_ => some k_ ≠ ((.slice Ao26 t1079.length co26) : Value).ownBlock ∧ some k_ ≠ ((.slice Ao30 t1085.length co30) : Value).ownBlock ∧ some k_ ≠ ((.slice Ao35 t1091.length co35) : Value).ownBlock ∧ some k_ ≠ ((.slice Ao44 t1102.length co44) : Value).ownBlock) (.slice Ao38 t1096.length co38) t1096) ∧ Aside0 (Kd.R k72 72 wc w.heap.size (fun k_ => some k_ ≠ ((.slice Ao34 t1088.length co34) : Value).ownBlock) (.slice Ao43 t1099.length co43) t1099) ∧ Aside0 (Kd.R Kd.string 9 wc w.heap.size (fun k_ => some k_ ≠ ((.slice Ao26 t1079.length co26) : Value).ownBlock ∧ some k_ ≠ ((.slice Ao30 t1085.length co30) : Value).ownBlock ∧ some k_ ≠ ((.slice Ao35 t1091.length co35) : Value).ownBlock ∧ some k_ ≠ ((.slice Ao38 t1096.length co38) : Value).ownBlock) (.slice Ao44 t1102.length co44) t1102) ∧ Aside0 (wc.heap[gb1061]? = some (.cells #[(.slice A0_0 l0_0.length c0_0), (.slice A0_1 l0_1.length c0_1), (.slice A0_2 l0_2.length c0_2), .int .i64 a0_3] 38 (0, 0))) ∧ Aside0 (wc.heap[gb1084]? = some (.cells #[(.slice Ao22 t1073.length co22), (.slice Ao25 t1076.length co25), (.slice Ao26 t1079.length co26), .int .i64 t1082] 44 (0, 0))) ∧ Aside0 (wc.heap[gb1095]? = some (.cells #[(.slice Ao30 t1085.length co30), (.slice Ao34 t1088.length co34), (.slice Ao35 t1091.length co35), .int .i64 t1094] 44 (0, 0))) ∧ Aside0 (wc.heap[gb1107]? = some (.cells #[(.slice Ao38 t1096.length co38), (.slice Ao43 t1099.length co43), (.slice Ao44 t1102.length co44), .int .i64 t1105] 44 (0, 0))) ∧ Aside0 (Below w.heap.size w wc))
      case first =>
       have H := HC68.out
       clear HC68
       by_cases c80 : t1120 < 0
       ·
        rw [if_pos c80] at H
        have c80b0 : decide (t1120 < 0) = true := decide_eq_true c80
        clear c80
        (first | rw [c80b0] | (simp only [i64_w, i32_w]; rw [c80b0]) | (simp only [c80b2, Bool.not_false, Bool.not_true]) | skip)
        have H' := Aside0.mk H
        clear H
        go_wp2
        go_meet
        case rel => exact ⟨_, (true), (by first | rfl | (simp; done) | (simp [*]; done)), H', ⟨by have := HJ10.out; first | omega | exact Nat.le_refl _⟩, ⟨by (with_reducible repeat (first | apply Kd.V_alloc | apply Kd.V_drewN | apply Kd.V_drew)); exact Kd.V_mono HO_1085000.out (fun _ hk => ⟨hk.1, ⟨hk.2.1, ⟨hk.2.2.1, ⟨hk.2.2.2.1, ⟨hk.2.2.2.2.1, ⟨hk.2.2.2.2.2.1, ⟨hk.2.2.2.2.2.2.1, ⟨hk.2.2.2.2.2.2.2.2.2.2.1, ⟨hk.2.2.2.2.2.2.2.2.2.2.2.1, ⟨hk.2.2.2.2.2.2.2.2.2.2.2.2.1, hk.2.2.2.2.2.2.2.2.2.2.2.2.2⟩⟩⟩⟩⟩⟩⟩⟩⟩⟩)⟩, ⟨by (with_reducible repeat (first | apply Kd.V_alloc | apply Kd.V_drewN | apply Kd.V_drew)); exact Kd.V_mono HO_1085001.out (fun _ hk => ⟨hk.1, ⟨hk.2.1, ⟨hk.2.2.1, ⟨hk.2.2.2.1, ⟨hk.2.2.2.2.1, ⟨hk.2.2.2.2.2.1, ⟨hk.2.2.2.2.2.2.1, ⟨hk.2.2.2.2.2.2.2.2.2.2.1, ⟨hk.2.2.2.2.2.2.2.2.2.2.2.1, ⟨hk.2.2.2.2.2.2.2.2.2.2.2.2.1, hk.2.2.2.2.2.2.2.2.2.2.2.2.2⟩⟩⟩⟩⟩⟩⟩⟩⟩⟩)⟩, rm HO_1085002 (fun _ hk => ⟨hk.1, ⟨hk.2.1, ⟨hk.2.2.1, hk.2.2.2.1⟩⟩⟩), rm HO_1096000 (fun _ hk => ⟨hk.1.1.1, ⟨hk.1.1.2.1, ⟨hk.1.1.2.2.1, hk.1.1.2.2.2⟩⟩⟩), rm HO_1096001 (fun _ hk => hk.1), rm HO_1096002 (fun _ hk => ⟨hk.1.1.1, ⟨hk.1.1.2.1, ⟨hk.1.1.2.2.1, hk.1.1.2.2.2⟩⟩⟩), rm HO_1108000 (fun _ hk => ⟨hk.1, ⟨hk.2.1, ⟨hk.2.2.1, hk.2.2.2.1⟩⟩⟩), rm HO_1108001 (fun _ hk => hk.1), rm HO_1108002 (fun _ hk => ⟨hk.1, ⟨hk.2.1, ⟨hk.2.2.1, hk.2.2.2.1⟩⟩⟩), ⟨bk BK1061⟩, ⟨bk BK1084⟩, ⟨bk BK1095⟩, ⟨bk BK1107⟩, ⟨bs4 HB GE1061 GE1084 GE1095 GE1107⟩⟩
       ·
        rw [if_neg c80] at H
        have c80b0 : decide (t1120 < 0) = false := decide_eq_false c80
        clear c80
        (first | rw [c80b0] | (simp only [i64_w, i32_w]; rw [c80b0]) | (simp only [c80b2, Bool.not_false, Bool.not_true]) | skip)
        replace H := Option.bind_eq_some_iff.mp H
        obtain ⟨t1124, A810, H⟩ := H
        replace H : (if t1124 = true then (laws_FnExactWriteBack.j1 kj10 t1083 (t1106 != t1083) l0_0 l0_1 l0_2 a0_3 t1073 t1076 t1079 t1082 t1096 t1099 t1102 t1105) else (laws_FnExactWriteBack.j1 kj10 t1083 true l0_0 l0_1 l0_2 a0_3 t1073 t1076 t1079 t1082 t1096 t1099 t1102 t1105)) = some r := H
        have A81 := Aside0.mk A810
        clear A810
        by_cases c82 : t1124 = true
        ·
         subst c82
         rw [if_pos rfl] at H
         have H' := Aside0.mk H
         clear H
         have hnb83 := NB1107_1061.out
         have hnc83 := NB1061_1107.out
         have hnb84 := NB1107_1084.out
         have hnc84 := NB1084_1107.out
         have hnb85 := NB1107_1095.out
         have hnc85 := NB1095_1107.out
         obtain ⟨hcz86_0, hcz86_1, hcz86_2, hcz86_3⟩ := cz4 BK1107
         obtain ⟨hfz86_0, hfz86_1, hfz86_2, hfz86_3⟩ := fz4 BK1107
         have hnb87 := NB1084_1061.out
         have hnc87 := NB1061_1084.out
         have hnb88 := NB1084_1095.out
         have hnc88 := NB1095_1084.out
         obtain ⟨hcz89_0, hcz89_1, hcz89_2, hcz89_3⟩ := cz4 BK1084
         obtain ⟨hfz89_0, hfz89_1, hfz89_2, hfz89_3⟩ := fz4 BK1084
         go_wp2_with (first | (go_at_call 29; (with_reducible refine (laws_eqStore.calls kj10 _ _ t1096 _ _ t1099 _ _ t1102 t1105 _ _ t1073 _ _ t1076 _ _ t1079 t1082 true _ ?side1 ?side2 ?side3 ?side4 ?side5 ?side6 ?side7 ?side8 ?side9 ?side10 ?side11 ?side12 A81.out).mono ?_); (case side1 => exact rc0 HO_1108000); (case side2 => exact (Kd.R_reads' HO_1108000.out).2.1); (case side3 => exact rc0 HO_1108001); (case side4 => exact (Kd.R_reads' HO_1108001.out).2.1); (case side5 => exact rc0 HO_1108002); (case side6 => exact (Kd.R_reads' HO_1108002.out).2.1); (case side7 => repeat (first | exact (Kd.V_reads' HO_1085000.out).2.2 | (with_reducible refine Kd.C_alloc ?_ _) | (with_reducible refine Kd.C_drewN ?_ _) | (with_reducible refine Kd.C_drew ?_))); (case side8 => exact (Kd.V_reads' HO_1085000.out).2.1); (case side9 => repeat (first | exact (Kd.V_reads' HO_1085001.out).2.2 | (with_reducible refine Kd.C_alloc ?_ _) | (with_reducible refine Kd.C_drewN ?_ _) | (with_reducible refine Kd.C_drew ?_))); (case side10 => exact (Kd.V_reads' HO_1085001.out).2.1); (case side11 => exact rc0 HO_1085002); (case side12 => exact (Kd.R_reads' HO_1085002.out).2.1); rintro e w90 ⟨rfl, hb⟩; replace HO_1085000 := Aside0.mk (Kd.V_below (by (with_reducible repeat (first | apply Kd.V_alloc | apply Kd.V_drewN | apply Kd.V_drew)); exact HO_1085000.out) hb); replace HO_1085001 := Aside0.mk (Kd.V_below (by (with_reducible repeat (first | apply Kd.V_alloc | apply Kd.V_drewN | apply Kd.V_drew)); exact HO_1085001.out) hb); replace HO_1085002 := nr HO_1085002 hb; replace HO_1096000 := nr HO_1096000 hb; replace HO_1096001 := nr HO_1096001 hb; replace HO_1096002 := nr HO_1096002 hb; replace HO_1108000 := nr HO_1108000 hb; replace HO_1108001 := nr HO_1108001 hb; replace HO_1108002 := nr HO_1108002 hb; replace HO1111 := nr HO1111 hb; replace HO1114 := nr HO1114 hb; replace HO1117 := nr HO1117 hb; replace BK1061 := nb BK1061 hb; replace BK1084 := nb BK1084 hb; replace BK1095 := nb BK1095 hb; replace BK1107 := nb BK1107 hb; replace HB := Aside0.mk (below_step (bs4 HB GE1061 GE1084 GE1095 GE1107) hb); (try clear hb); (try clear hb2); (try clear hk); (try clear hi)))
         go_meet
         case rel => exact ⟨_, ((t1106 != t1083)), (by first | rfl | (simp; done) | (simp [*]; done)), H', ⟨by have := HJ10.out; first | omega | exact Nat.le_refl _⟩, ⟨by (with_reducible repeat (first | apply Kd.V_alloc | apply Kd.V_drewN | apply Kd.V_drew)); exact Kd.V_mono HO_1085000.out (fun _ hk => ⟨hk.1, ⟨hk.2.1, ⟨hk.2.2.1, ⟨hk.2.2.2.1, ⟨hk.2.2.2.2.1, ⟨hk.2.2.2.2.2.1, ⟨hk.2.2.2.2.2.2.1, ⟨hk.2.2.2.2.2.2.2.2.2.2.1, ⟨hk.2.2.2.2.2.2.2.2.2.2.2.1, ⟨hk.2.2.2.2.2.2.2.2.2.2.2.2.1, hk.2.2.2.2.2.2.2.2.2.2.2.2.2⟩⟩⟩⟩⟩⟩⟩⟩⟩⟩)⟩, ⟨by (with_reducible repeat (first | apply Kd.V_alloc | apply Kd.V_drewN | apply Kd.V_drew)); exact Kd.V_mono HO_1085001.out (fun _ hk => ⟨hk.1, ⟨hk.2.1, ⟨hk.2.2.1, ⟨hk.2.2.2.1, ⟨hk.2.2.2.2.1, ⟨hk.2.2.2.2.2.1, ⟨hk.2.2.2.2.2.2.1, ⟨hk.2.2.2.2.2.2.2.2.2.2.1, ⟨hk.2.2.2.2.2.2.2.2.2.2.2.1, ⟨hk.2.2.2.2.2.2.2.2.2.2.2.2.1, hk.2.2.2.2.2.2.2.2.2.2.2.2.2⟩⟩⟩⟩⟩⟩⟩⟩⟩⟩)⟩, rm HO_1085002 (fun _ hk => ⟨hk.1, ⟨hk.2.1, ⟨hk.2.2.1, hk.2.2.2.1⟩⟩⟩), rm HO_1096000 (fun _ hk => ⟨hk.1.1.1, ⟨hk.1.1.2.1, ⟨hk.1.1.2.2.1, hk.1.1.2.2.2⟩⟩⟩), rm HO_1096001 (fun _ hk => hk.1), rm HO_1096002 (fun _ hk => ⟨hk.1.1.1, ⟨hk.1.1.2.1, ⟨hk.1.1.2.2.1, hk.1.1.2.2.2⟩⟩⟩), rm HO_1108000 (fun _ hk => ⟨hk.1, ⟨hk.2.1, ⟨hk.2.2.1, hk.2.2.2.1⟩⟩⟩), rm HO_1108001 (fun _ hk => hk.1), rm HO_1108002 (fun _ hk => ⟨hk.1, ⟨hk.2.1, ⟨hk.2.2.1, hk.2.2.2.1⟩⟩⟩), ⟨bk BK1061⟩, ⟨bk BK1084⟩, ⟨bk BK1095⟩, ⟨bk BK1107⟩, ⟨bs4 HB GE1061 GE1084 GE1095 GE1107⟩⟩
        ·
         replace c82 := Bool.eq_false_iff.mpr c82
         subst c82
         rw [if_neg (show ¬ (false = true) by decide)] at H
         have H' := Aside0.mk H
         clear H
         have hnb91 := NB1107_1061.out
         have hnc91 := NB1061_1107.out
         have hnb92 := NB1107_1084.out
         have hnc92 := NB1084_1107.out
         have hnb93 := NB1107_1095.out
         have hnc93 := NB1095_1107.out
         obtain ⟨hcz94_0, hcz94_1, hcz94_2, hcz94_3⟩ := cz4 BK1107
         obtain ⟨hfz94_0, hfz94_1, hfz94_2, hfz94_3⟩ := fz4 BK1107
         have hnb95 := NB1084_1061.out
         have hnc95 := NB1061_1084.out
         have hnb96 := NB1084_1095.out
         have hnc96 := NB1095_1084.out
         obtain ⟨hcz97_0, hcz97_1, hcz97_2, hcz97_3⟩ := cz4 BK1084
         obtain ⟨hfz97_0, hfz97_1, hfz97_2, hfz97_3⟩ := fz4 BK1084
         go_wp2_with (first | (go_at_call 29; (with_reducible refine (laws_eqStore.calls kj10 _ _ t1096 _ _ t1099 _ _ t1102 t1105 _ _ t1073 _ _ t1076 _ _ t1079 t1082 false _ ?side1 ?side2 ?side3 ?side4 ?side5 ?side6 ?side7 ?side8 ?side9 ?side10 ?side11 ?side12 A81.out).mono ?_); (case side1 => exact rc0 HO_1108000); (case side2 => exact (Kd.R_reads' HO_1108000.out).2.1); (case side3 => exact rc0 HO_1108001); (case side4 => exact (Kd.R_reads' HO_1108001.out).2.1); (case side5 => exact rc0 HO_1108002); (case side6 => exact (Kd.R_reads' HO_1108002.out).2.1); (case side7 => repeat (first | exact (Kd.V_reads' HO_1085000.out).2.2 | (with_reducible refine Kd.C_alloc ?_ _) | (with_reducible refine Kd.C_drewN ?_ _) | (with_reducible refine Kd.C_drew ?_))); (case side8 => exact (Kd.V_reads' HO_1085000.out).2.1); (case side9 => repeat (first | exact (Kd.V_reads' HO_1085001.out).2.2 | (with_reducible refine Kd.C_alloc ?_ _) | (with_reducible refine Kd.C_drewN ?_ _) | (with_reducible refine Kd.C_drew ?_))); (case side10 => exact (Kd.V_reads' HO_1085001.out).2.1); (case side11 => exact rc0 HO_1085002); (case side12 => exact (Kd.R_reads' HO_1085002.out).2.1); rintro e w98 ⟨rfl, hb⟩; replace HO_1085000 := Aside0.mk (Kd.V_below (by (with_reducible repeat (first | apply Kd.V_alloc | apply Kd.V_drewN | apply Kd.V_drew)); exact HO_1085000.out) hb); replace HO_1085001 := Aside0.mk (Kd.V_below (by (with_reducible repeat (first | apply Kd.V_alloc | apply Kd.V_drewN | apply Kd.V_drew)); exact HO_1085001.out) hb); replace HO_1085002 := nr HO_1085002 hb; replace HO_1096000 := nr HO_1096000 hb; replace HO_1096001 := nr HO_1096001 hb; replace HO_1096002 := nr HO_1096002 hb; replace HO_1108000 := nr HO_1108000 hb; replace HO_1108001 := nr HO_1108001 hb; replace HO_1108002 := nr HO_1108002 hb; replace HO1111 := nr HO1111 hb; replace HO1114 := nr HO1114 hb; replace HO1117 := nr HO1117 hb; replace BK1061 := nb BK1061 hb; replace BK1084 := nb BK1084 hb; replace BK1095 := nb BK1095 hb; replace BK1107 := nb BK1107 hb; replace HB := Aside0.mk (below_step (bs4 HB GE1061 GE1084 GE1095 GE1107) hb); (try clear hb); (try clear hb2); (try clear hk); (try clear hi)))
         go_meet
         case rel => exact ⟨_, (true), (by first | rfl | (simp; done) | (simp [*]; done)), H', ⟨by have := HJ10.out; first | omega | exact Nat.le_refl _⟩, ⟨by (with_reducible repeat (first | apply Kd.V_alloc | apply Kd.V_drewN | apply Kd.V_drew)); exact Kd.V_mono HO_1085000.out (fun _ hk => ⟨hk.1, ⟨hk.2.1, ⟨hk.2.2.1, ⟨hk.2.2.2.1, ⟨hk.2.2.2.2.1, ⟨hk.2.2.2.2.2.1, ⟨hk.2.2.2.2.2.2.1, ⟨hk.2.2.2.2.2.2.2.2.2.2.1, ⟨hk.2.2.2.2.2.2.2.2.2.2.2.1, ⟨hk.2.2.2.2.2.2.2.2.2.2.2.2.1, hk.2.2.2.2.2.2.2.2.2.2.2.2.2⟩⟩⟩⟩⟩⟩⟩⟩⟩⟩)⟩, ⟨by (with_reducible repeat (first | apply Kd.V_alloc | apply Kd.V_drewN | apply Kd.V_drew)); exact Kd.V_mono HO_1085001.out (fun _ hk => ⟨hk.1, ⟨hk.2.1, ⟨hk.2.2.1, ⟨hk.2.2.2.1, ⟨hk.2.2.2.2.1, ⟨hk.2.2.2.2.2.1, ⟨hk.2.2.2.2.2.2.1, ⟨hk.2.2.2.2.2.2.2.2.2.2.1, ⟨hk.2.2.2.2.2.2.2.2.2.2.2.1, ⟨hk.2.2.2.2.2.2.2.2.2.2.2.2.1, hk.2.2.2.2.2.2.2.2.2.2.2.2.2⟩⟩⟩⟩⟩⟩⟩⟩⟩⟩)⟩, rm HO_1085002 (fun _ hk => ⟨hk.1, ⟨hk.2.1, ⟨hk.2.2.1, hk.2.2.2.1⟩⟩⟩), rm HO_1096000 (fun _ hk => ⟨hk.1.1.1, ⟨hk.1.1.2.1, ⟨hk.1.1.2.2.1, hk.1.1.2.2.2⟩⟩⟩), rm HO_1096001 (fun _ hk => hk.1), rm HO_1096002 (fun _ hk => ⟨hk.1.1.1, ⟨hk.1.1.2.1, ⟨hk.1.1.2.2.1, hk.1.1.2.2.2⟩⟩⟩), rm HO_1108000 (fun _ hk => ⟨hk.1, ⟨hk.2.1, ⟨hk.2.2.1, hk.2.2.2.1⟩⟩⟩), rm HO_1108001 (fun _ hk => hk.1), rm HO_1108002 (fun _ hk => ⟨hk.1, ⟨hk.2.1, ⟨hk.2.2.1, hk.2.2.2.1⟩⟩⟩), ⟨bk BK1061⟩, ⟨bk BK1084⟩, ⟨bk BK1095⟩, ⟨bk BK1107⟩, ⟨bs4 HB GE1061 GE1084 GE1095 GE1107⟩⟩
      case rest =>
       clear HC68
       try clear c1
       try clear c2
       try clear p2
       try clear c3
       try clear c3b0
       try clear c4
       try clear c5
       try clear c6
       try clear c7
       try clear c8
       try clear c9
       try clear c11
       try clear c23
       try clear c25
       try clear c27
       try clear c29
       try clear c31
       try clear c32
       try clear c39
       try clear c40
       try clear c41
       try clear c45
       try clear c46
       try clear c47
       try clear c48
       try clear c49
       try clear c51
       try clear c52
       try clear c55
       try clear c56
       try clear c57
       try clear c59
       try clear c60
       try clear c63
       try clear c66
       try clear c75
       try clear c76
       try clear c77
       try clear c80
       try clear c80b0
       try clear c82
       try clear c83
       try clear c84
       try clear c85
       try clear c87
       try clear c88
       try clear c91
       try clear c92
       try clear c93
       try clear c95
       try clear c96
       try clear hcz13_0 hcz13_1 hcz13_2 hcz13_3
       try clear hcz15_0 hcz15_1 hcz15_2 hcz15_3
       try clear hcz24_0 hcz24_1 hcz24_2 hcz24_3
       try clear hcz27_0 hcz27_1 hcz27_2 hcz27_3
       try clear hcz33_0 hcz33_1 hcz33_2 hcz33_3
       try clear hcz42_0 hcz42_1 hcz42_2 hcz42_3
       try clear hcz50_0 hcz50_1 hcz50_2 hcz50_3
       try clear hcz53_0 hcz53_1 hcz53_2 hcz53_3
       try clear hcz58_0 hcz58_1 hcz58_2 hcz58_3
       try clear hcz5_0 hcz5_1 hcz5_2 hcz5_3
       try clear hcz61_0 hcz61_1 hcz61_2 hcz61_3
       try clear hcz78_0 hcz78_1 hcz78_2 hcz78_3
       try clear hcz86_0 hcz86_1 hcz86_2 hcz86_3
       try clear hcz89_0 hcz89_1 hcz89_2 hcz89_3
       try clear hcz94_0 hcz94_1 hcz94_2 hcz94_3
       try clear hcz97_0 hcz97_1 hcz97_2 hcz97_3
       try clear hfz13_0 hfz13_1 hfz13_2 hfz13_3
       try clear hfz15_0 hfz15_1 hfz15_2 hfz15_3
       try clear hfz24_0 hfz24_1 hfz24_2 hfz24_3
       try clear hfz27_0 hfz27_1 hfz27_2 hfz27_3
       try clear hfz33_0 hfz33_1 hfz33_2 hfz33_3
       try clear hfz42_0 hfz42_1 hfz42_2 hfz42_3
       try clear hfz50_0 hfz50_1 hfz50_2 hfz50_3
       try clear hfz53_0 hfz53_1 hfz53_2 hfz53_3
       try clear hfz58_0 hfz58_1 hfz58_2 hfz58_3
       try clear hfz5_0 hfz5_1 hfz5_2 hfz5_3
       try clear hfz61_0 hfz61_1 hfz61_2 hfz61_3
       try clear hfz78_0 hfz78_1 hfz78_2 hfz78_3
       try clear hfz86_0 hfz86_1 hfz86_2 hfz86_3
       try clear hfz89_0 hfz89_1 hfz89_2 hfz89_3
       try clear hfz94_0 hfz94_1 hfz94_2 hfz94_3
       try clear hfz97_0 hfz97_1 hfz97_2 hfz97_3
       try clear p2
       obtain ⟨kq, x61_67, rfl, HA, HJ67, HO_1085000, HO_1085001, HO_1085002, HO_1096000, HO_1096001, HO_1096002, HO_1108000, HO_1108001, HO_1108002, BK1061, BK1084, BK1095, BK1107, HB⟩ := hcut
       have hl1096000_67 := (Kd.R_reads' HO_1096000.out).1
       rw [hl1096000_67] at HO_1096000
       (try simp only [hl1096000_67])
       (try simp only [hl1096000_67] at BK1061)
       (try simp only [hl1096000_67] at BK1084)
       (try simp only [hl1096000_67] at BK1095)
       (try simp only [hl1096000_67] at BK1107)
       (try simp only [hl1096000_67] at HO_1085000)
       (try simp only [hl1096000_67] at HO_1085001)
       (try simp only [hl1096000_67] at HO_1085002)
       (try simp only [hl1096000_67] at HO_1096001)
       (try simp only [hl1096000_67] at HO_1096002)
       (try simp only [hl1096000_67] at HO_1108000)
       (try simp only [hl1096000_67] at HO_1108001)
       (try simp only [hl1096000_67] at HO_1108002)
       have hl1096001_67 := (Kd.R_reads' HO_1096001.out).1
       rw [hl1096001_67] at HO_1096001
       (try simp only [hl1096001_67])
       (try simp only [hl1096001_67] at BK1061)
       (try simp only [hl1096001_67] at BK1084)
       (try simp only [hl1096001_67] at BK1095)
       (try simp only [hl1096001_67] at BK1107)
       (try simp only [hl1096001_67] at HO_1085000)
       (try simp only [hl1096001_67] at HO_1085001)
       (try simp only [hl1096001_67] at HO_1085002)
       (try simp only [hl1096001_67] at HO_1096000)
       (try simp only [hl1096001_67] at HO_1096002)
       (try simp only [hl1096001_67] at HO_1108000)
       (try simp only [hl1096001_67] at HO_1108001)
       (try simp only [hl1096001_67] at HO_1108002)
       have hl1096002_67 := (Kd.R_reads' HO_1096002.out).1
       rw [hl1096002_67] at HO_1096002
       (try simp only [hl1096002_67])
       (try simp only [hl1096002_67] at BK1061)
       (try simp only [hl1096002_67] at BK1084)
       (try simp only [hl1096002_67] at BK1095)
       (try simp only [hl1096002_67] at BK1107)
       (try simp only [hl1096002_67] at HO_1085000)
       (try simp only [hl1096002_67] at HO_1085001)
       (try simp only [hl1096002_67] at HO_1085002)
       (try simp only [hl1096002_67] at HO_1096000)
       (try simp only [hl1096002_67] at HO_1096001)
       (try simp only [hl1096002_67] at HO_1108000)
       (try simp only [hl1096002_67] at HO_1108001)
       (try simp only [hl1096002_67] at HO_1108002)
       cases kq with
       | zero => exact absurd HA.out (by simp [laws_FnExactWriteBack.j1])
       | succ kj67 =>
        have H := HA.out
        clear HA
        simp only [laws_FnExactWriteBack.j1] at H
        by_cases c99 : x61_67 = true
        ·
         subst c99
         rw [if_pos rfl] at H
         obtain rfl := Option.some.inj H
         go_wp2
         go_ret
         exact ⟨by first | rfl | (simp [errW_none, errW_some] <;> rfl) | (simp [*, errW_none, errW_some] <;> rfl), bs4 HB GE1061 GE1084 GE1095 GE1107⟩
        ·
         replace c99 := Bool.eq_false_iff.mpr c99
         subst c99
         rw [if_neg (show ¬ (false = true) by decide)] at H
         replace H := Option.bind_eq_some_iff.mp H
         obtain ⟨⟨t1125, t1126, t1127, t1128⟩, A1000, H⟩ := H
         replace H : ((laws_heldStore.f kj67 t1126 t1127 t1128 t1105 1).bind fun t1129 => (if t1129 < 0 then (some false) else (if t1129 = t1125 then ((laws_toStore.f kj67 l0_0 l0_1 l0_2 a0_3).bind fun bt1130 => ((impl_WriteBack.f kj67 bt1130.1 bt1130.2.1 bt1130.2.2.1 bt1130.2.2.2).bind fun bt1140 => ((laws_eqStore.f kj67 bt1140.1 bt1140.2.1 bt1140.2.2.1 bt1140.2.2.2.1 t1073 t1076 t1079 t1082).bind fun t1152 => (if t1152 = true then (laws_FnExactWriteBack.j2 kj67 t1125 (bt1140.2.2.2.2 != t1083) t1126 t1127 t1128 t1105) else (laws_FnExactWriteBack.j2 kj67 t1125 true t1126 t1127 t1128 t1105))))) else (some false)))) = some r := H
         have A100 := Aside0.mk A1000
         clear A1000
         replace H := Option.bind_eq_some_iff.mp H
         obtain ⟨t1129, A1010, H⟩ := H
         replace H : (if t1129 < 0 then (some false) else (if t1129 = t1125 then ((laws_toStore.f kj67 l0_0 l0_1 l0_2 a0_3).bind fun bt1130 => ((impl_WriteBack.f kj67 bt1130.1 bt1130.2.1 bt1130.2.2.1 bt1130.2.2.2).bind fun bt1140 => ((laws_eqStore.f kj67 bt1140.1 bt1140.2.1 bt1140.2.2.1 bt1140.2.2.2.1 t1073 t1076 t1079 t1082).bind fun t1152 => (if t1152 = true then (laws_FnExactWriteBack.j2 kj67 t1125 (bt1140.2.2.2.2 != t1083) t1126 t1127 t1128 t1105) else (laws_FnExactWriteBack.j2 kj67 t1125 true t1126 t1127 t1128 t1105))))) else (some false))) = some r := H
         have A101 := Aside0.mk A1010
         clear A1010
         by_cases c102 : t1129 < 0
         ·
          rw [if_pos c102] at H
          have c102b0 : decide (t1129 < 0) = true := decide_eq_true c102
          clear c102
          obtain rfl := Option.some.inj H
          have hnb103 := NB1107_1061.out
          have hnc103 := NB1061_1107.out
          have hnb104 := NB1107_1084.out
          have hnc104 := NB1084_1107.out
          have hnb105 := NB1107_1095.out
          have hnc105 := NB1095_1107.out
          obtain ⟨hcz106_0, hcz106_1, hcz106_2, hcz106_3⟩ := cz4 BK1107
          obtain ⟨hfz106_0, hfz106_1, hfz106_2, hfz106_3⟩ := fz4 BK1107
          go_wp2_with (first | ((with_reducible refine gate_callee (f := 32) rfl ?_); refine gL (some 64) rfl rfl Try.func32 (by kernel_rfl) rfl #[.agg #[.slice Ao38 t1096.length co38, .slice Ao43 t1099.length co43, .slice Ao44 t1102.length co44, .int .i64 t1105], .int .i64 1] rfl ?_; (with_reducible refine (laws_markStore.calls kj67 (fun k_ => some k_ = (.slice Ao38 t1096.length co38 : Value).ownBlock) (.slice Ao38 t1096.length co38) t1096 (fun k_ => some k_ = (.slice Ao43 t1099.length co43 : Value).ownBlock) (.slice Ao43 t1099.length co43) t1099 (fun k_ => some k_ = (.slice Ao44 t1102.length co44 : Value).ownBlock) (.slice Ao44 t1102.length co44) t1102 t1105 1 t1125 t1126 t1127 t1128 w _ ?side1 ?side2 ?side3 ?side4 ?side5 ?side6 A100.out).mono ?_); (case side1 => repeat (first | (with_reducible first | exact HB.out | apply below_alloc | apply pw_below_drewN | apply below_drew1 | refine below_set ?_ GE1061.out | refine below_set ?_ GE1084.out | refine below_set ?_ GE1095.out | refine below_set ?_ GE1107.out) | exact HB.out)); (case side2 => exact Kd.R_tight rfl HO_1108000.out); (case side3 => exact fun k_ e_ => (HO_1108000.out.1 k_ e_.symm).2.2.2); (case side4 => exact Kd.R_tight rfl HO_1108001.out); (case side5 => exact Kd.R_tight rfl HO_1108002.out); (case side6 => exact fun k_ e_ => (HO_1108002.out.1 k_ e_.symm).2.2.2); rintro e w107 ⟨rfl, hy0, hy1, hy2, hb, hkp⟩; refine ⟨_, rfl, ?_⟩; replace HO_1085000 := Aside0.mk (Kd.V_mono (ok' := fun k_ => some k_ ≠ (.slice Ao26 t1079.length co26 : Value).ownBlock ∧ some k_ ≠ (.slice Ao30 t1121.length co30 : Value).ownBlock ∧ some k_ ≠ (.slice Ao34 t1122.length co34 : Value).ownBlock ∧ some k_ ≠ (.slice Ao35 t1123.length co35 : Value).ownBlock ∧ some k_ ≠ (.slice Ao38 t1096.length co38 : Value).ownBlock ∧ some k_ ≠ (.slice Ao43 t1099.length co43 : Value).ownBlock ∧ some k_ ≠ (.slice Ao44 t1102.length co44 : Value).ownBlock ∧ k_ ≠ gb1061 ∧ k_ ≠ gb1084 ∧ k_ ≠ gb1095 ∧ k_ ≠ gb1107) (Kd.V_keptB (HO_1085000.out) hkp (fun k_ hk_ hs_ => Or.elim hs_ (fun e_ => (hk_.2.2.2.2.1) e_) (fun e_ => Or.elim e_ (fun e_ => (hk_.2.2.2.2.2.1) e_) (fun e_ => (hk_.2.2.2.2.2.2.1) e_)))) (fun k_ hk_ => ⟨hk_.1.1, hk_.1.2.1, hk_.1.2.2.1, hk_.1.2.2.2.1, hk_.1.2.2.2.2.1, hk_.1.2.2.2.2.2.1, hk_.1.2.2.2.2.2.2.1, hk_.1.2.2.2.2.2.2.2.1, hk_.1.2.2.2.2.2.2.2.2.1, hk_.1.2.2.2.2.2.2.2.2.2.1, hk_.1.2.2.2.2.2.2.2.2.2.2⟩)); replace HO_1085001 := Aside0.mk (Kd.V_mono (ok' := fun k_ => some k_ ≠ (.slice Ao26 t1079.length co26 : Value).ownBlock ∧ some k_ ≠ (.slice Ao30 t1121.length co30 : Value).ownBlock ∧ some k_ ≠ (.slice Ao34 t1122.length co34 : Value).ownBlock ∧ some k_ ≠ (.slice Ao35 t1123.length co35 : Value).ownBlock ∧ some k_ ≠ (.slice Ao38 t1096.length co38 : Value).ownBlock ∧ some k_ ≠ (.slice Ao43 t1099.length co43 : Value).ownBlock ∧ some k_ ≠ (.slice Ao44 t1102.length co44 : Value).ownBlock ∧ k_ ≠ gb1061 ∧ k_ ≠ gb1084 ∧ k_ ≠ gb1095 ∧ k_ ≠ gb1107) (Kd.V_keptB (HO_1085001.out) hkp (fun k_ hk_ hs_ => Or.elim hs_ (fun e_ => (hk_.2.2.2.2.1) e_) (fun e_ => Or.elim e_ (fun e_ => (hk_.2.2.2.2.2.1) e_) (fun e_ => (hk_.2.2.2.2.2.2.1) e_)))) (fun k_ hk_ => ⟨hk_.1.1, hk_.1.2.1, hk_.1.2.2.1, hk_.1.2.2.2.1, hk_.1.2.2.2.2.1, hk_.1.2.2.2.2.2.1, hk_.1.2.2.2.2.2.2.1, hk_.1.2.2.2.2.2.2.2.1, hk_.1.2.2.2.2.2.2.2.2.1, hk_.1.2.2.2.2.2.2.2.2.2.1, hk_.1.2.2.2.2.2.2.2.2.2.2⟩)); replace HO_1085002 := Aside0.mk (Kd.R_mono (ok' := fun k_ => some k_ ≠ (.slice Ao30 t1121.length co30 : Value).ownBlock ∧ some k_ ≠ (.slice Ao35 t1123.length co35 : Value).ownBlock ∧ some k_ ≠ (.slice Ao38 t1096.length co38 : Value).ownBlock ∧ some k_ ≠ (.slice Ao44 t1102.length co44 : Value).ownBlock) (Kd.R_keptB ((Kd.R_apart' HO_1085002.out (Kd.R_typed HO_1108001.out) (by decide))) hkp (fun k_ hk_ hs_ => Or.elim hs_ (fun e_ => (hk_.1.2.2.1) e_) (fun e_ => Or.elim e_ (fun e_ => (hk_.2) e_) (fun e_ => (hk_.1.2.2.2) e_)))) (fun k_ hk_ => ⟨hk_.1.1.1, hk_.1.1.2.1, hk_.1.1.2.2.1, hk_.1.1.2.2.2⟩)); replace HO_1096000 := Aside0.mk (Kd.R_mono (ok' := fun k_ => some k_ ≠ (.slice Ao26 t1079.length co26 : Value).ownBlock ∧ some k_ ≠ (.slice Ao35 t1123.length co35 : Value).ownBlock ∧ some k_ ≠ (.slice Ao38 t1096.length co38 : Value).ownBlock ∧ some k_ ≠ (.slice Ao44 t1102.length co44 : Value).ownBlock) (Kd.R_keptB ((Kd.R_apart' HO_1096000.out (Kd.R_typed HO_1108001.out) (by decide))) hkp (fun k_ hk_ hs_ => Or.elim hs_ (fun e_ => (hk_.1.2.2.1) e_) (fun e_ => Or.elim e_ (fun e_ => (hk_.2) e_) (fun e_ => (hk_.1.2.2.2) e_)))) (fun k_ hk_ => ⟨hk_.1.1.1, hk_.1.1.2.1, hk_.1.1.2.2.1, hk_.1.1.2.2.2⟩)); replace HO_1096001 := Aside0.mk (Kd.R_mono (ok' := fun k_ => some k_ ≠ (.slice Ao43 t1099.length co43 : Value).ownBlock) (Kd.R_keptB ((Kd.R_apart' (Kd.R_apart' HO_1096001.out (Kd.R_typed HO_1108000.out) (by decide)) (Kd.R_typed HO_1108002.out) (by decide))) hkp (fun k_ hk_ hs_ => Or.elim hs_ (fun e_ => (hk_.1.2) e_) (fun e_ => Or.elim e_ (fun e_ => (hk_.1.1) e_) (fun e_ => (hk_.2) e_)))) (fun k_ hk_ => hk_.1.1.1)); replace HO_1096002 := Aside0.mk (Kd.R_mono (ok' := fun k_ => some k_ ≠ (.slice Ao26 t1079.length co26 : Value).ownBlock ∧ some k_ ≠ (.slice Ao30 t1121.length co30 : Value).ownBlock ∧ some k_ ≠ (.slice Ao38 t1096.length co38 : Value).ownBlock ∧ some k_ ≠ (.slice Ao44 t1102.length co44 : Value).ownBlock) (Kd.R_keptB ((Kd.R_apart' HO_1096002.out (Kd.R_typed HO_1108001.out) (by decide))) hkp (fun k_ hk_ hs_ => Or.elim hs_ (fun e_ => (hk_.1.2.2.1) e_) (fun e_ => Or.elim e_ (fun e_ => (hk_.2) e_) (fun e_ => (hk_.1.2.2.2) e_)))) (fun k_ hk_ => ⟨hk_.1.1.1, hk_.1.1.2.1, hk_.1.1.2.2.1, hk_.1.1.2.2.2⟩)); replace BK1061 := Aside0.mk (blk_kept (bk BK1061) hkp (fun hs_ => Or.elim hs_ (fun e_ => (fun e_ => (Kd.R_ne HO_1108000.out BK1061.out (by decide)) e_) e_) (fun e_ => Or.elim e_ (fun e_ => (fun e_ => (Kd.R_ne HO_1108001.out BK1061.out (by decide)) e_) e_) (fun e_ => (fun e_ => (Kd.R_ne HO_1108002.out BK1061.out (by decide)) e_) e_)))); replace BK1084 := Aside0.mk (blk_kept (bk BK1084) hkp (fun hs_ => Or.elim hs_ (fun e_ => (fun e_ => (Kd.R_ne HO_1108000.out BK1084.out (by decide)) e_) e_) (fun e_ => Or.elim e_ (fun e_ => (fun e_ => (Kd.R_ne HO_1108001.out BK1084.out (by decide)) e_) e_) (fun e_ => (fun e_ => (Kd.R_ne HO_1108002.out BK1084.out (by decide)) e_) e_)))); replace BK1095 := Aside0.mk (blk_kept (bk BK1095) hkp (fun hs_ => Or.elim hs_ (fun e_ => (fun e_ => (Kd.R_ne HO_1108000.out BK1095.out (by decide)) e_) e_) (fun e_ => Or.elim e_ (fun e_ => (fun e_ => (Kd.R_ne HO_1108001.out BK1095.out (by decide)) e_) e_) (fun e_ => (fun e_ => (Kd.R_ne HO_1108002.out BK1095.out (by decide)) e_) e_)))); replace BK1107 := Aside0.mk (blk_kept (bk BK1107) hkp (fun hs_ => Or.elim hs_ (fun e_ => (fun e_ => (Kd.R_ne HO_1108000.out BK1107.out (by decide)) e_) e_) (fun e_ => Or.elim e_ (fun e_ => (fun e_ => (Kd.R_ne HO_1108001.out BK1107.out (by decide)) e_) e_) (fun e_ => (fun e_ => (Kd.R_ne HO_1108002.out BK1107.out (by decide)) e_) e_)))); replace HO_1108000 := Aside0.mk (Kd.R_reok rfl hy0 (fun k_ e_ => HO_1108000.out.1 k_ e_)); replace HO_1108001 := Aside0.mk (Kd.R_reok rfl hy1 (fun k_ e_ => HO_1108001.out.1 k_ e_)); replace HO_1108002 := Aside0.mk (Kd.R_reok rfl hy2 (fun k_ e_ => HO_1108002.out.1 k_ e_)); replace HB := Aside0.mk (hb); (try clear hb); (try clear hkp); (try clear hy0); (try clear hy1); (try clear hy2); obtain ⟨hcz108_0, hcz108_1, hcz108_2, hcz108_3⟩ := cz4 BK1107; obtain ⟨hfz108_0, hfz108_1, hfz108_2, hfz108_3⟩ := fz4 BK1107) | ((with_reducible refine gate_callee (f := 33) rfl ?_); refine goesL_ (some 67) rfl rfl Try.func33 (by kernel_rfl) rfl #[.agg #[.slice Ao38 t1126.length co38, .slice Ao43 t1127.length co43, .slice Ao44 t1128.length co44, .int .i64 t1105], .int .i64 1] rfl (by (try simp only [List.map_toArray, List.map_cons, List.map_nil]); first | done | (rw [show t1126.length = t1096.length from (Kd.R_reads' HO_1108000.out).1.symm, show t1127.length = t1099.length from (Kd.R_reads' HO_1108001.out).1.symm, show t1128.length = t1102.length from (Kd.R_reads' HO_1108002.out).1.symm] <;> rfl) | rfl | (simp only [List.length_drop, List.length_take]; rfl)) ?_; (with_reducible refine (laws_heldStore.calls kj67 _ _ t1126 _ _ t1127 _ _ t1128 t1105 1 t1129 _ ?side1 ?side2 ?side3 ?side4 ?side5 ?side6 A101.out).mono ?_); (case side1 => exact rc0 HO_1108000); (case side2 => rw [show t1126.length = t1096.length from (Kd.R_reads' HO_1108000.out).1.symm]; exact (Kd.R_reads' HO_1108000.out).2.1); (case side3 => exact rc0 HO_1108001); (case side4 => rw [show t1127.length = t1099.length from (Kd.R_reads' HO_1108001.out).1.symm]; exact (Kd.R_reads' HO_1108001.out).2.1); (case side5 => exact rc0 HO_1108002); (case side6 => rw [show t1128.length = t1102.length from (Kd.R_reads' HO_1108002.out).1.symm]; exact (Kd.R_reads' HO_1108002.out).2.1); rintro e w109 ⟨rfl, hb⟩; refine ⟨_, rfl, ?_⟩; replace HO_1085000 := Aside0.mk (Kd.V_below (by (with_reducible repeat (first | apply Kd.V_alloc | apply Kd.V_drewN | apply Kd.V_drew)); exact HO_1085000.out) hb); replace HO_1085001 := Aside0.mk (Kd.V_below (by (with_reducible repeat (first | apply Kd.V_alloc | apply Kd.V_drewN | apply Kd.V_drew)); exact HO_1085001.out) hb); replace HO_1085002 := nr HO_1085002 hb; replace HO_1096000 := nr HO_1096000 hb; replace HO_1096001 := nr HO_1096001 hb; replace HO_1096002 := nr HO_1096002 hb; replace HO_1108000 := nr HO_1108000 hb; replace HO_1108001 := nr HO_1108001 hb; replace HO_1108002 := nr HO_1108002 hb; replace BK1061 := nb BK1061 hb; replace BK1084 := nb BK1084 hb; replace BK1095 := nb BK1095 hb; replace BK1107 := nb BK1107 hb; replace HB := Aside0.mk (below_step (bs4 HB GE1061 GE1084 GE1095 GE1107) hb); (try clear hb); (try clear hb2); (try clear hk); (try clear hi)))
          go_ret
          exact ⟨by first | rfl | (simp [errW_none, errW_some] <;> rfl) | (simp [*, errW_none, errW_some] <;> rfl), bs4 HB GE1061 GE1084 GE1095 GE1107⟩
         ·
          rw [if_neg c102] at H
          have c102b0 : decide (t1129 < 0) = false := decide_eq_false c102
          clear c102
          by_cases c110 : t1129 = t1125
          ·
           rw [if_pos c110] at H
           have c110b0 : (t1129 == t1125) = true := beq_iff_eq.mpr c110
           have c110b1 : (t1129 != t1125) = false := bne_eq_false_iff_eq.mpr c110
           clear c110
           replace H := Option.bind_eq_some_iff.mp H
           obtain ⟨⟨t1130, t1133, t1136, t1139⟩, A1110, H⟩ := H
           replace H : ((impl_WriteBack.f kj67 t1130 t1133 t1136 t1139).bind fun bt1140 => ((laws_eqStore.f kj67 bt1140.1 bt1140.2.1 bt1140.2.2.1 bt1140.2.2.2.1 t1073 t1076 t1079 t1082).bind fun t1152 => (if t1152 = true then (laws_FnExactWriteBack.j2 kj67 t1125 (bt1140.2.2.2.2 != t1083) t1126 t1127 t1128 t1105) else (laws_FnExactWriteBack.j2 kj67 t1125 true t1126 t1127 t1128 t1105)))) = some r := H
           have A111 := Aside0.mk A1110
           clear A1110
           replace H := Option.bind_eq_some_iff.mp H
           obtain ⟨⟨t1140, t1143, t1146, t1149, t1150⟩, A1120, H⟩ := H
           replace H : ((laws_eqStore.f kj67 t1140 t1143 t1146 t1149 t1073 t1076 t1079 t1082).bind fun t1152 => (if t1152 = true then (laws_FnExactWriteBack.j2 kj67 t1125 (t1150 != t1083) t1126 t1127 t1128 t1105) else (laws_FnExactWriteBack.j2 kj67 t1125 true t1126 t1127 t1128 t1105))) = some r := H
           have A112 := Aside0.mk A1120
           clear A1120
           have HC113 := Aside0.mk H
           clear H
           have hnb114 := NB1107_1061.out
           have hnc114 := NB1061_1107.out
           have hnb115 := NB1107_1084.out
           have hnc115 := NB1084_1107.out
           have hnb116 := NB1107_1095.out
           have hnc116 := NB1095_1107.out
           obtain ⟨hcz117_0, hcz117_1, hcz117_2, hcz117_3⟩ := cz4 BK1107
           obtain ⟨hfz117_0, hfz117_1, hfz117_2, hfz117_3⟩ := fz4 BK1107
           go_upto_region 25 with (first | ((with_reducible refine gate_callee (f := 32) rfl ?_); refine gL (some 64) rfl rfl Try.func32 (by kernel_rfl) rfl #[.agg #[.slice Ao38 t1096.length co38, .slice Ao43 t1099.length co43, .slice Ao44 t1102.length co44, .int .i64 t1105], .int .i64 1] rfl ?_; (with_reducible refine (laws_markStore.calls kj67 (fun k_ => some k_ = (.slice Ao38 t1096.length co38 : Value).ownBlock) (.slice Ao38 t1096.length co38) t1096 (fun k_ => some k_ = (.slice Ao43 t1099.length co43 : Value).ownBlock) (.slice Ao43 t1099.length co43) t1099 (fun k_ => some k_ = (.slice Ao44 t1102.length co44 : Value).ownBlock) (.slice Ao44 t1102.length co44) t1102 t1105 1 t1125 t1126 t1127 t1128 w _ ?side1 ?side2 ?side3 ?side4 ?side5 ?side6 A100.out).mono ?_); (case side1 => repeat (first | (with_reducible first | exact HB.out | apply below_alloc | apply pw_below_drewN | apply below_drew1 | refine below_set ?_ GE1061.out | refine below_set ?_ GE1084.out | refine below_set ?_ GE1095.out | refine below_set ?_ GE1107.out) | exact HB.out)); (case side2 => exact Kd.R_tight rfl HO_1108000.out); (case side3 => exact fun k_ e_ => (HO_1108000.out.1 k_ e_.symm).2.2.2); (case side4 => exact Kd.R_tight rfl HO_1108001.out); (case side5 => exact Kd.R_tight rfl HO_1108002.out); (case side6 => exact fun k_ e_ => (HO_1108002.out.1 k_ e_.symm).2.2.2); rintro e w118 ⟨rfl, hy0, hy1, hy2, hb, hkp⟩; refine ⟨_, rfl, ?_⟩; replace HO_1085000 := Aside0.mk (Kd.V_mono (ok' := fun k_ => some k_ ≠ (.slice Ao26 t1079.length co26 : Value).ownBlock ∧ some k_ ≠ (.slice Ao30 t1121.length co30 : Value).ownBlock ∧ some k_ ≠ (.slice Ao34 t1122.length co34 : Value).ownBlock ∧ some k_ ≠ (.slice Ao35 t1123.length co35 : Value).ownBlock ∧ some k_ ≠ (.slice Ao38 t1096.length co38 : Value).ownBlock ∧ some k_ ≠ (.slice Ao43 t1099.length co43 : Value).ownBlock ∧ some k_ ≠ (.slice Ao44 t1102.length co44 : Value).ownBlock ∧ k_ ≠ gb1061 ∧ k_ ≠ gb1084 ∧ k_ ≠ gb1095 ∧ k_ ≠ gb1107) (Kd.V_keptB (HO_1085000.out) hkp (fun k_ hk_ hs_ => Or.elim hs_ (fun e_ => (hk_.2.2.2.2.1) e_) (fun e_ => Or.elim e_ (fun e_ => (hk_.2.2.2.2.2.1) e_) (fun e_ => (hk_.2.2.2.2.2.2.1) e_)))) (fun k_ hk_ => ⟨hk_.1.1, hk_.1.2.1, hk_.1.2.2.1, hk_.1.2.2.2.1, hk_.1.2.2.2.2.1, hk_.1.2.2.2.2.2.1, hk_.1.2.2.2.2.2.2.1, hk_.1.2.2.2.2.2.2.2.1, hk_.1.2.2.2.2.2.2.2.2.1, hk_.1.2.2.2.2.2.2.2.2.2.1, hk_.1.2.2.2.2.2.2.2.2.2.2⟩)); replace HO_1085001 := Aside0.mk (Kd.V_mono (ok' := fun k_ => some k_ ≠ (.slice Ao26 t1079.length co26 : Value).ownBlock ∧ some k_ ≠ (.slice Ao30 t1121.length co30 : Value).ownBlock ∧ some k_ ≠ (.slice Ao34 t1122.length co34 : Value).ownBlock ∧ some k_ ≠ (.slice Ao35 t1123.length co35 : Value).ownBlock ∧ some k_ ≠ (.slice Ao38 t1096.length co38 : Value).ownBlock ∧ some k_ ≠ (.slice Ao43 t1099.length co43 : Value).ownBlock ∧ some k_ ≠ (.slice Ao44 t1102.length co44 : Value).ownBlock ∧ k_ ≠ gb1061 ∧ k_ ≠ gb1084 ∧ k_ ≠ gb1095 ∧ k_ ≠ gb1107) (Kd.V_keptB (HO_1085001.out) hkp (fun k_ hk_ hs_ => Or.elim hs_ (fun e_ => (hk_.2.2.2.2.1) e_) (fun e_ => Or.elim e_ (fun e_ => (hk_.2.2.2.2.2.1) e_) (fun e_ => (hk_.2.2.2.2.2.2.1) e_)))) (fun k_ hk_ => ⟨hk_.1.1, hk_.1.2.1, hk_.1.2.2.1, hk_.1.2.2.2.1, hk_.1.2.2.2.2.1, hk_.1.2.2.2.2.2.1, hk_.1.2.2.2.2.2.2.1, hk_.1.2.2.2.2.2.2.2.1, hk_.1.2.2.2.2.2.2.2.2.1, hk_.1.2.2.2.2.2.2.2.2.2.1, hk_.1.2.2.2.2.2.2.2.2.2.2⟩)); replace HO_1085002 := Aside0.mk (Kd.R_mono (ok' := fun k_ => some k_ ≠ (.slice Ao30 t1121.length co30 : Value).ownBlock ∧ some k_ ≠ (.slice Ao35 t1123.length co35 : Value).ownBlock ∧ some k_ ≠ (.slice Ao38 t1096.length co38 : Value).ownBlock ∧ some k_ ≠ (.slice Ao44 t1102.length co44 : Value).ownBlock) (Kd.R_keptB ((Kd.R_apart' HO_1085002.out (Kd.R_typed HO_1108001.out) (by decide))) hkp (fun k_ hk_ hs_ => Or.elim hs_ (fun e_ => (hk_.1.2.2.1) e_) (fun e_ => Or.elim e_ (fun e_ => (hk_.2) e_) (fun e_ => (hk_.1.2.2.2) e_)))) (fun k_ hk_ => ⟨hk_.1.1.1, hk_.1.1.2.1, hk_.1.1.2.2.1, hk_.1.1.2.2.2⟩)); replace HO_1096000 := Aside0.mk (Kd.R_mono (ok' := fun k_ => some k_ ≠ (.slice Ao26 t1079.length co26 : Value).ownBlock ∧ some k_ ≠ (.slice Ao35 t1123.length co35 : Value).ownBlock ∧ some k_ ≠ (.slice Ao38 t1096.length co38 : Value).ownBlock ∧ some k_ ≠ (.slice Ao44 t1102.length co44 : Value).ownBlock) (Kd.R_keptB ((Kd.R_apart' HO_1096000.out (Kd.R_typed HO_1108001.out) (by decide))) hkp (fun k_ hk_ hs_ => Or.elim hs_ (fun e_ => (hk_.1.2.2.1) e_) (fun e_ => Or.elim e_ (fun e_ => (hk_.2) e_) (fun e_ => (hk_.1.2.2.2) e_)))) (fun k_ hk_ => ⟨hk_.1.1.1, hk_.1.1.2.1, hk_.1.1.2.2.1, hk_.1.1.2.2.2⟩)); replace HO_1096001 := Aside0.mk (Kd.R_mono (ok' := fun k_ => some k_ ≠ (.slice Ao43 t1099.length co43 : Value).ownBlock) (Kd.R_keptB ((Kd.R_apart' (Kd.R_apart' HO_1096001.out (Kd.R_typed HO_1108000.out) (by decide)) (Kd.R_typed HO_1108002.out) (by decide))) hkp (fun k_ hk_ hs_ => Or.elim hs_ (fun e_ => (hk_.1.2) e_) (fun e_ => Or.elim e_ (fun e_ => (hk_.1.1) e_) (fun e_ => (hk_.2) e_)))) (fun k_ hk_ => hk_.1.1.1)); replace HO_1096002 := Aside0.mk (Kd.R_mono (ok' := fun k_ => some k_ ≠ (.slice Ao26 t1079.length co26 : Value).ownBlock ∧ some k_ ≠ (.slice Ao30 t1121.length co30 : Value).ownBlock ∧ some k_ ≠ (.slice Ao38 t1096.length co38 : Value).ownBlock ∧ some k_ ≠ (.slice Ao44 t1102.length co44 : Value).ownBlock) (Kd.R_keptB ((Kd.R_apart' HO_1096002.out (Kd.R_typed HO_1108001.out) (by decide))) hkp (fun k_ hk_ hs_ => Or.elim hs_ (fun e_ => (hk_.1.2.2.1) e_) (fun e_ => Or.elim e_ (fun e_ => (hk_.2) e_) (fun e_ => (hk_.1.2.2.2) e_)))) (fun k_ hk_ => ⟨hk_.1.1.1, hk_.1.1.2.1, hk_.1.1.2.2.1, hk_.1.1.2.2.2⟩)); replace BK1061 := Aside0.mk (blk_kept (bk BK1061) hkp (fun hs_ => Or.elim hs_ (fun e_ => (fun e_ => (Kd.R_ne HO_1108000.out BK1061.out (by decide)) e_) e_) (fun e_ => Or.elim e_ (fun e_ => (fun e_ => (Kd.R_ne HO_1108001.out BK1061.out (by decide)) e_) e_) (fun e_ => (fun e_ => (Kd.R_ne HO_1108002.out BK1061.out (by decide)) e_) e_)))); replace BK1084 := Aside0.mk (blk_kept (bk BK1084) hkp (fun hs_ => Or.elim hs_ (fun e_ => (fun e_ => (Kd.R_ne HO_1108000.out BK1084.out (by decide)) e_) e_) (fun e_ => Or.elim e_ (fun e_ => (fun e_ => (Kd.R_ne HO_1108001.out BK1084.out (by decide)) e_) e_) (fun e_ => (fun e_ => (Kd.R_ne HO_1108002.out BK1084.out (by decide)) e_) e_)))); replace BK1095 := Aside0.mk (blk_kept (bk BK1095) hkp (fun hs_ => Or.elim hs_ (fun e_ => (fun e_ => (Kd.R_ne HO_1108000.out BK1095.out (by decide)) e_) e_) (fun e_ => Or.elim e_ (fun e_ => (fun e_ => (Kd.R_ne HO_1108001.out BK1095.out (by decide)) e_) e_) (fun e_ => (fun e_ => (Kd.R_ne HO_1108002.out BK1095.out (by decide)) e_) e_)))); replace BK1107 := Aside0.mk (blk_kept (bk BK1107) hkp (fun hs_ => Or.elim hs_ (fun e_ => (fun e_ => (Kd.R_ne HO_1108000.out BK1107.out (by decide)) e_) e_) (fun e_ => Or.elim e_ (fun e_ => (fun e_ => (Kd.R_ne HO_1108001.out BK1107.out (by decide)) e_) e_) (fun e_ => (fun e_ => (Kd.R_ne HO_1108002.out BK1107.out (by decide)) e_) e_)))); replace HO_1108000 := Aside0.mk (Kd.R_reok rfl hy0 (fun k_ e_ => HO_1108000.out.1 k_ e_)); replace HO_1108001 := Aside0.mk (Kd.R_reok rfl hy1 (fun k_ e_ => HO_1108001.out.1 k_ e_)); replace HO_1108002 := Aside0.mk (Kd.R_reok rfl hy2 (fun k_ e_ => HO_1108002.out.1 k_ e_)); replace HB := Aside0.mk (hb); (try clear hb); (try clear hkp); (try clear hy0); (try clear hy1); (try clear hy2); obtain ⟨hcz119_0, hcz119_1, hcz119_2, hcz119_3⟩ := cz4 BK1107; obtain ⟨hfz119_0, hfz119_1, hfz119_2, hfz119_3⟩ := fz4 BK1107) | ((with_reducible refine gate_callee (f := 33) rfl ?_); refine goesL_ (some 67) rfl rfl Try.func33 (by kernel_rfl) rfl #[.agg #[.slice Ao38 t1126.length co38, .slice Ao43 t1127.length co43, .slice Ao44 t1128.length co44, .int .i64 t1105], .int .i64 1] rfl (by (try simp only [List.map_toArray, List.map_cons, List.map_nil]); first | done | (rw [show t1126.length = t1096.length from (Kd.R_reads' HO_1108000.out).1.symm, show t1127.length = t1099.length from (Kd.R_reads' HO_1108001.out).1.symm, show t1128.length = t1102.length from (Kd.R_reads' HO_1108002.out).1.symm] <;> rfl) | rfl | (simp only [List.length_drop, List.length_take]; rfl)) ?_; (with_reducible refine (laws_heldStore.calls kj67 _ _ t1126 _ _ t1127 _ _ t1128 t1105 1 t1129 _ ?side1 ?side2 ?side3 ?side4 ?side5 ?side6 A101.out).mono ?_); (case side1 => exact rc0 HO_1108000); (case side2 => rw [show t1126.length = t1096.length from (Kd.R_reads' HO_1108000.out).1.symm]; exact (Kd.R_reads' HO_1108000.out).2.1); (case side3 => exact rc0 HO_1108001); (case side4 => rw [show t1127.length = t1099.length from (Kd.R_reads' HO_1108001.out).1.symm]; exact (Kd.R_reads' HO_1108001.out).2.1); (case side5 => exact rc0 HO_1108002); (case side6 => rw [show t1128.length = t1102.length from (Kd.R_reads' HO_1108002.out).1.symm]; exact (Kd.R_reads' HO_1108002.out).2.1); rintro e w120 ⟨rfl, hb⟩; refine ⟨_, rfl, ?_⟩; replace HO_1085000 := Aside0.mk (Kd.V_below (by (with_reducible repeat (first | apply Kd.V_alloc | apply Kd.V_drewN | apply Kd.V_drew)); exact HO_1085000.out) hb); replace HO_1085001 := Aside0.mk (Kd.V_below (by (with_reducible repeat (first | apply Kd.V_alloc | apply Kd.V_drewN | apply Kd.V_drew)); exact HO_1085001.out) hb); replace HO_1085002 := nr HO_1085002 hb; replace HO_1096000 := nr HO_1096000 hb; replace HO_1096001 := nr HO_1096001 hb; replace HO_1096002 := nr HO_1096002 hb; replace HO_1108000 := nr HO_1108000 hb; replace HO_1108001 := nr HO_1108001 hb; replace HO_1108002 := nr HO_1108002 hb; replace BK1061 := nb BK1061 hb; replace BK1084 := nb BK1084 hb; replace BK1095 := nb BK1095 hb; replace BK1107 := nb BK1107 hb; replace HB := Aside0.mk (below_step (bs4 HB GE1061 GE1084 GE1095 GE1107) hb); (try clear hb); (try clear hb2); (try clear hk); (try clear hi); have hnb121 := NB1061_1084.out; have hnc121 := NB1084_1061.out; have hnb122 := NB1061_1095.out; have hnc122 := NB1095_1061.out; obtain ⟨hcz123_0, hcz123_1, hcz123_2, hcz123_3⟩ := cz4 BK1061; obtain ⟨hfz123_0, hfz123_1, hfz123_2, hfz123_3⟩ := fz4 BK1061) | ((with_reducible refine gate_callee (f := 27) rfl ?_); refine gL (some 75) rfl rfl Try.func27 (by kernel_rfl) rfl #[.agg #[.slice A0_0 l0_0.length c0_0, .slice A0_1 l0_1.length c0_1, .slice A0_2 l0_2.length c0_2, .int .i64 a0_3]] rfl ?_; (with_reducible refine (laws_toStore.calls kj67 _ _ l0_0 _ _ l0_1 _ _ l0_2 a0_3 t1130 t1133 t1136 t1139 _ ?side1 ?side2 ?side3 ?side4 ?side5 ?side6 A111.out).mono ?_); (case side1 => exact cb HR0_0 HB); (case side2 => exact HC0_0.out); (case side3 => exact cb HR0_1 HB); (case side4 => exact HC0_1.out); (case side5 => exact cb HR0_2 HB); (case side6 => exact HC0_2.out); rintro e w124 ⟨v1131, v1134, v1137, rfl, ho0, ho1, ho2, hb⟩; refine ⟨_, rfl, ?_⟩; replace HO_1085000 := Aside0.mk (Kd.V_mono (Kd.V_told (Kd.V_told (Kd.V_told (Kd.V_old (by (with_reducible repeat (first | apply Kd.V_alloc | apply Kd.V_drewN | apply Kd.V_drew)); exact HO_1085000.out) hb) (Kd.R_base ho0)) (Kd.R_base ho1)) (Kd.R_base ho2)) (fun _ h_ => h_.1)); replace HO_1085001 := Aside0.mk (Kd.V_mono (Kd.V_told (Kd.V_told (Kd.V_told (Kd.V_old (by (with_reducible repeat (first | apply Kd.V_alloc | apply Kd.V_drewN | apply Kd.V_drew)); exact HO_1085001.out) hb) (Kd.R_base ho0)) (Kd.R_base ho1)) (Kd.R_base ho2)) (fun _ h_ => h_.1)); have HO1132 := Aside0.mk (Kd.R_lower (Kd.R_new' (Kd.R_new' (Kd.R_new' (Kd.R_new' (Kd.R_new' ho0 (Kd.R_lt (rr HO_1085002.out))) (Kd.R_lt (rr HO_1096000.out))) (Kd.R_lt (rr HO_1096002.out))) (Kd.R_lt (rr HO_1108000.out))) (Kd.R_lt (rr HO_1108002.out))) (below_size (bs4 HB GE1061 GE1084 GE1095 GE1107))); have HO1135 := Aside0.mk (Kd.R_lower (Kd.R_new' (Kd.R_new' ho1 (Kd.R_lt (rr HO_1096001.out))) (Kd.R_lt (rr HO_1108001.out))) (below_size (bs4 HB GE1061 GE1084 GE1095 GE1107))); replace HO_1096001 := Aside0.mk (Kd.R_elder' (rr HO_1096001.out) (Kd.R_base ho1) hb); replace HO_1108001 := Aside0.mk (Kd.R_elder' (rr HO_1108001.out) (Kd.R_base ho1) hb); have HO1138 := Aside0.mk (Kd.R_lower (Kd.R_new' (Kd.R_new' (Kd.R_new' (Kd.R_new' (Kd.R_new' ho2 (Kd.R_lt (rr HO_1085002.out))) (Kd.R_lt (rr HO_1096000.out))) (Kd.R_lt (rr HO_1096002.out))) (Kd.R_lt (rr HO_1108000.out))) (Kd.R_lt (rr HO_1108002.out))) (below_size (bs4 HB GE1061 GE1084 GE1095 GE1107))); replace HO_1085002 := Aside0.mk (Kd.R_mono (Kd.R_told (Kd.R_told (Kd.R_old (rr HO_1085002.out) hb) (Kd.R_base ho0)) (Kd.R_base ho2)) (fun _ h_ => h_.1)); replace HO_1096000 := Aside0.mk (Kd.R_mono (Kd.R_told (Kd.R_told (Kd.R_old (rr HO_1096000.out) hb) (Kd.R_base ho0)) (Kd.R_base ho2)) (fun _ h_ => h_.1)); replace HO_1096002 := Aside0.mk (Kd.R_mono (Kd.R_told (Kd.R_told (Kd.R_old (rr HO_1096002.out) hb) (Kd.R_base ho0)) (Kd.R_base ho2)) (fun _ h_ => h_.1)); replace HO_1108000 := Aside0.mk (Kd.R_mono (Kd.R_told (Kd.R_told (Kd.R_old (rr HO_1108000.out) hb) (Kd.R_base ho0)) (Kd.R_base ho2)) (fun _ h_ => h_.1)); replace HO_1108002 := Aside0.mk (Kd.R_mono (Kd.R_told (Kd.R_told (Kd.R_old (rr HO_1108002.out) hb) (Kd.R_base ho0)) (Kd.R_base ho2)) (fun _ h_ => h_.1)); replace BK1061 := nb BK1061 hb; replace BK1084 := nb BK1084 hb; replace BK1095 := nb BK1095 hb; replace BK1107 := nb BK1107 hb; replace HB := Aside0.mk (below_step (bs4 HB GE1061 GE1084 GE1095 GE1107) hb); (try clear hb); (try clear hb2); (try clear hk); (try clear hi); (try clear ho0); (try clear ho1); (try clear ho2); obtain ⟨Ao125, co125, eo125⟩ := Kd.R_slice HO1132.out; subst eo125; obtain ⟨Ao126, co126, eo126⟩ := Kd.R_slice HO1135.out; subst eo126; obtain ⟨Ao127, co127, eo127⟩ := Kd.R_slice HO1138.out; subst eo127) | ((with_reducible refine gate_callee (f := 46) rfl ?_); refine gL (some 76) rfl rfl Try.func46 (by kernel_rfl) rfl #[.agg #[.slice Ao125 t1130.length co125, .slice Ao126 t1133.length co126, .slice Ao127 t1136.length co127, .int .i64 t1139]] rfl ?_; (with_reducible refine (impl_WriteBack.calls kj67 _ _ t1130 _ _ t1133 _ _ t1136 t1139 t1140 t1143 t1146 t1149 t1150 _ ?side1 ?side2 ?side3 ?side4 ?side5 ?side6 A112.out).mono ?_); (case side1 => exact rc0 HO1132); (case side2 => exact (Kd.R_reads' HO1132.out).2.1); (case side3 => exact rc0 HO1135); (case side4 => exact (Kd.R_reads' HO1135.out).2.1); (case side5 => exact rc0 HO1138); (case side6 => exact (Kd.R_reads' HO1138.out).2.1); rintro e w128 ⟨v1141, v1144, v1147, rfl, ho0, ho1, ho2, hb⟩; refine ⟨_, rfl, ?_⟩; replace HO_1085000 := Aside0.mk (Kd.V_mono (Kd.V_told (Kd.V_told (Kd.V_told (Kd.V_old (by (with_reducible repeat (first | apply Kd.V_alloc | apply Kd.V_drewN | apply Kd.V_drew)); exact HO_1085000.out) hb) (Kd.R_base ho0)) (Kd.R_base ho1)) (Kd.R_base ho2)) (fun _ h_ => h_.1)); replace HO_1085001 := Aside0.mk (Kd.V_mono (Kd.V_told (Kd.V_told (Kd.V_told (Kd.V_old (by (with_reducible repeat (first | apply Kd.V_alloc | apply Kd.V_drewN | apply Kd.V_drew)); exact HO_1085001.out) hb) (Kd.R_base ho0)) (Kd.R_base ho1)) (Kd.R_base ho2)) (fun _ h_ => h_.1)); have HO1142 := Aside0.mk (Kd.R_lower (Kd.R_new' (Kd.R_new' (Kd.R_new' (Kd.R_new' (Kd.R_new' (Kd.R_new' (Kd.R_new' ho0 (Kd.R_lt (rr HO_1085002.out))) (Kd.R_lt (rr HO_1096000.out))) (Kd.R_lt (rr HO_1096002.out))) (Kd.R_lt (rr HO_1108000.out))) (Kd.R_lt (rr HO_1108002.out))) (Kd.R_lt (rr HO1132.out))) (Kd.R_lt (rr HO1138.out))) (below_size (bs4 HB GE1061 GE1084 GE1095 GE1107))); have HO1145 := Aside0.mk (Kd.R_lower (Kd.R_new' (Kd.R_new' (Kd.R_new' ho1 (Kd.R_lt (rr HO_1096001.out))) (Kd.R_lt (rr HO_1108001.out))) (Kd.R_lt (rr HO1135.out))) (below_size (bs4 HB GE1061 GE1084 GE1095 GE1107))); replace HO_1096001 := Aside0.mk (Kd.R_elder' (rr HO_1096001.out) (Kd.R_base ho1) hb); replace HO_1108001 := Aside0.mk (Kd.R_elder' (rr HO_1108001.out) (Kd.R_base ho1) hb); replace HO1135 := Aside0.mk (Kd.R_elder' (rr HO1135.out) (Kd.R_base ho1) hb); have HO1148 := Aside0.mk (Kd.R_lower (Kd.R_new' (Kd.R_new' (Kd.R_new' (Kd.R_new' (Kd.R_new' (Kd.R_new' (Kd.R_new' ho2 (Kd.R_lt (rr HO_1085002.out))) (Kd.R_lt (rr HO_1096000.out))) (Kd.R_lt (rr HO_1096002.out))) (Kd.R_lt (rr HO_1108000.out))) (Kd.R_lt (rr HO_1108002.out))) (Kd.R_lt (rr HO1132.out))) (Kd.R_lt (rr HO1138.out))) (below_size (bs4 HB GE1061 GE1084 GE1095 GE1107))); replace HO_1085002 := Aside0.mk (Kd.R_mono (Kd.R_told (Kd.R_told (Kd.R_old (rr HO_1085002.out) hb) (Kd.R_base ho0)) (Kd.R_base ho2)) (fun _ h_ => h_.1)); replace HO_1096000 := Aside0.mk (Kd.R_mono (Kd.R_told (Kd.R_told (Kd.R_old (rr HO_1096000.out) hb) (Kd.R_base ho0)) (Kd.R_base ho2)) (fun _ h_ => h_.1)); replace HO_1096002 := Aside0.mk (Kd.R_mono (Kd.R_told (Kd.R_told (Kd.R_old (rr HO_1096002.out) hb) (Kd.R_base ho0)) (Kd.R_base ho2)) (fun _ h_ => h_.1)); replace HO_1108000 := Aside0.mk (Kd.R_mono (Kd.R_told (Kd.R_told (Kd.R_old (rr HO_1108000.out) hb) (Kd.R_base ho0)) (Kd.R_base ho2)) (fun _ h_ => h_.1)); replace HO_1108002 := Aside0.mk (Kd.R_mono (Kd.R_told (Kd.R_told (Kd.R_old (rr HO_1108002.out) hb) (Kd.R_base ho0)) (Kd.R_base ho2)) (fun _ h_ => h_.1)); replace HO1132 := Aside0.mk (Kd.R_mono (Kd.R_told (Kd.R_told (Kd.R_old (rr HO1132.out) hb) (Kd.R_base ho0)) (Kd.R_base ho2)) (fun _ h_ => h_.1)); replace HO1138 := Aside0.mk (Kd.R_mono (Kd.R_told (Kd.R_told (Kd.R_old (rr HO1138.out) hb) (Kd.R_base ho0)) (Kd.R_base ho2)) (fun _ h_ => h_.1)); replace BK1061 := nb BK1061 hb; replace BK1084 := nb BK1084 hb; replace BK1095 := nb BK1095 hb; replace BK1107 := nb BK1107 hb; replace HB := Aside0.mk (below_step (bs4 HB GE1061 GE1084 GE1095 GE1107) hb); (try clear hb); (try clear hb2); (try clear hk); (try clear hi); (try clear ho0); (try clear ho1); (try clear ho2)) | ((with_reducible refine gate_dst (N := 12) rfl ?_); refine box_event ?hg (N := 12) ?hd (cs := #[.slice none 0 0, .slice none 0 0, .slice none 0 0, .int .i64 0]) (t := 44) ?hr ?_; (case hd => rfl); (case hg => rfl); (case hr => first | (go_simp; done) | (go_simp; rfl)); intro gb1151 hg w129 hbox hb; replace HO_1085000 := Aside0.mk (Kd.V_below (Kd.V_elderB (by (with_reducible repeat (first | apply Kd.V_alloc | apply Kd.V_drewN | apply Kd.V_drew)); exact HO_1085000.out) gb1151 (Nat.le_of_eq hg.symm)) hb); replace HO_1085001 := Aside0.mk (Kd.V_below (Kd.V_elderB (by (with_reducible repeat (first | apply Kd.V_alloc | apply Kd.V_drewN | apply Kd.V_drew)); exact HO_1085001.out) gb1151 (Nat.le_of_eq hg.symm)) hb); replace HO_1085002 := nr HO_1085002 hb; replace HO_1096000 := nr HO_1096000 hb; replace HO_1096001 := nr HO_1096001 hb; replace HO_1096002 := nr HO_1096002 hb; replace HO_1108000 := nr HO_1108000 hb; replace HO_1108001 := nr HO_1108001 hb; replace HO_1108002 := nr HO_1108002 hb; replace HO1132 := nr HO1132 hb; replace HO1135 := nr HO1135 hb; replace HO1138 := nr HO1138 hb; replace HO1142 := nr HO1142 hb; replace HO1145 := nr HO1145 hb; replace HO1148 := nr HO1148 hb; have BK1151 := Aside0.mk (hbox); have GW1151 := Aside0.mk ((by rw [hg]; exact (below_size (bs4 HB GE1061 GE1084 GE1095 GE1107)) : w.heap.size ≤ gb1151)); have GE1151 := Aside0.mk ((by rw [hg]; exact (below_size (bs4 HB GE1061 GE1084 GE1095 GE1107)) : w.heap.size ≤ gb1151)); replace HB := Aside0.mk (below_step (bs4 HB GE1061 GE1084 GE1095 GE1107) hb); have NB1061_1151 := Aside0.mk ((bn BK1061 hg : gb1061 ≠ gb1151)); have NB1151_1061 := Aside0.mk ((bm BK1061 hg : gb1151 ≠ gb1061)); replace BK1061 := nb BK1061 hb; have NB1084_1151 := Aside0.mk ((bn BK1084 hg : gb1084 ≠ gb1151)); have NB1151_1084 := Aside0.mk ((bm BK1084 hg : gb1151 ≠ gb1084)); replace BK1084 := nb BK1084 hb; have NB1095_1151 := Aside0.mk ((bn BK1095 hg : gb1095 ≠ gb1151)); have NB1151_1095 := Aside0.mk ((bm BK1095 hg : gb1151 ≠ gb1095)); replace BK1095 := nb BK1095 hb; have NB1107_1151 := Aside0.mk ((bn BK1107 hg : gb1107 ≠ gb1151)); have NB1151_1107 := Aside0.mk ((bm BK1107 hg : gb1151 ≠ gb1107)); replace BK1107 := nb BK1107 hb; clear hb hbox hg; obtain ⟨Ao130, co130, eo130⟩ := Kd.R_slice HO1142.out; subst eo130; have hnb131 := NB1151_1061.out; have hnc131 := NB1061_1151.out; have hnb132 := NB1151_1084.out; have hnc132 := NB1084_1151.out; have hnb133 := NB1151_1095.out; have hnc133 := NB1095_1151.out; have hnb134 := NB1151_1107.out; have hnc134 := NB1107_1151.out; obtain ⟨hcz135_0, hcz135_1, hcz135_2, hcz135_3⟩ := cz4 BK1151; obtain ⟨hfz135_0, hfz135_1, hfz135_2, hfz135_3⟩ := fz4 BK1151; obtain ⟨Ao136, co136, eo136⟩ := Kd.R_slice HO1145.out; subst eo136; obtain ⟨Ao137, co137, eo137⟩ := Kd.R_slice HO1148.out; subst eo137))
           (try simp only [Act.put, List.setIfInBounds_toArray, List.set_cons_zero, List.set_cons_succ])
           go_cut [87] (fun v87 wc => ∃ (kq : Nat) (x87_112 : Bool), v87 = .bool x87_112 ∧ Aside0 (laws_FnExactWriteBack.j2 kq t1125 x87_112 t1126 t1127 t1128 t1105 = some r) ∧ Aside0 (kq ≤ kj67) ∧ Aside0 (Kd.V Kd.string 9 wc w.heap.size (fun k_ => some k_ ≠ ((.slice Ao26 t1079.length co26) : Value).ownBlock ∧ some k_ ≠ ((.slice Ao30 t1121.length co30) : Value).ownBlock ∧ some k_ ≠ ((.slice Ao34 t1122.length co34) : Value).ownBlock ∧ some k_ ≠ ((.slice Ao35 t1123.length co35) : Value).ownBlock ∧ some k_ ≠ ((.slice Ao38 t1096.length co38) : Value).ownBlock ∧ some k_ ≠ ((.slice Ao43 t1099.length co43) : Value).ownBlock ∧ some k_ ≠ ((.slice Ao44 t1102.length co44) : Value).ownBlock ∧ some k_ ≠ ((.slice Ao130 t1140.length co130) : Value).ownBlock ∧ some k_ ≠ ((.slice Ao136 t1143.length co136) : Value).ownBlock ∧ some k_ ≠ ((.slice Ao137 t1146.length co137) : Value).ownBlock ∧ k_ ≠ gb1061 ∧ k_ ≠ gb1084 ∧ k_ ≠ gb1095 ∧ k_ ≠ gb1107 ∧ k_ ≠ gb1151) (.slice Ao22 t1073.length co22) t1073) ∧ Aside0 (Kd.V k72 72 wc w.heap.size (fun k_ => some k_ ≠ ((.slice Ao26 t1079.length co26) : Value).ownBlock ∧ some k_ ≠ ((.slice Ao30 t1121.length co30) : Value).ownBlock ∧ some k_ ≠ ((.slice Ao34 t1122.length co34) : Value).ownBlock ∧ some k_ ≠ ((.slice Ao35 t1123.length co35) : Value).ownBlock ∧ some k_ ≠ ((.slice Ao38 t1096.length co38) : Value).ownBlock ∧ some k_ ≠ ((.slice Ao43 t1099.length co43) : Value).ownBlock ∧ some k_ ≠ ((.slice Ao44 t1102.length co44) : Value).ownBlock ∧ some k_ ≠ ((.slice Ao130 t1140.length co130) : Value).ownBlock ∧ some k_ ≠ ((.slice Ao136 t1143.length co136) : Value).ownBlock ∧ some k_ ≠ ((.slice Ao137 t1146.length co137) : Value).ownBlock ∧ k_ ≠ gb1061 ∧ k_ ≠ gb1084 ∧ k_ ≠ gb1095 ∧ k_ ≠ gb1107 ∧ k_ ≠ gb1151) (.slice Ao25 t1076.length co25) t1076) ∧ Aside0 (Kd.R Kd.string 9 wc w.heap.size (fun k_ => some k_ ≠ ((.slice Ao30 t1121.length co30) : Value).ownBlock ∧ some k_ ≠ ((.slice Ao35 t1123.length co35) : Value).ownBlock ∧ some k_ ≠ ((.slice Ao38 t1096.length co38) : Value).ownBlock ∧ some k_ ≠ ((.slice Ao44 t1102.length co44) : Value).ownBlock ∧ some k_ ≠ ((.slice Ao130 t1140.length co130) : Value).ownBlock ∧ some k_ ≠ ((.slice Ao137 t1146.length co137) : Value).ownBlock) (.slice Ao26 t1079.length co26) t1079) ∧ Aside0 (Kd.R Kd.string 9 wc w.heap.size (fun k_ => some k_ ≠ ((.slice Ao26 t1079.length co26) : Value).ownBlock ∧ some k_ ≠ ((.slice Ao35 t1123.length co35) : Value).ownBlock ∧ some k_ ≠ ((.slice Ao38 t1096.length co38) : Value).ownBlock ∧ some k_ ≠ ((.slice Ao44 t1102.length co44) : Value).ownBlock ∧ some k_ ≠ ((.slice Ao130 t1140.length co130) : Value).ownBlock ∧ some k_ ≠ ((.slice Ao137 t1146.length co137) : Value).ownBlock) (.slice Ao30 t1121.length co30) t1121) ∧ Aside0 (Kd.R k72 72 wc w.heap.size (fun k_ => some k_ ≠ ((.slice Ao43 t1099.length co43) : Value).ownBlock ∧ some k_ ≠ ((.slice Ao136 t1143.length co136) : Value).ownBlock) (.slice Ao34 t1122.length co34) t1122) ∧ Aside0 (Kd.R Kd.string 9 wc w.heap.size (fun k_ => some k_ ≠ ((.slice Ao26 t1079.length co26) : Value).ownBlock ∧ some k_ ≠ ((.slice Ao30 t1121.length co30) : Value).ownBlock ∧ some k_ ≠ ((.slice Ao38 t1096.length co38) : Value).ownBlock ∧ some k_ ≠ ((.slice Ao44 t1102.length co44) : Value).ownBlock ∧ some k_ ≠ ((.slice Ao130 t1140.length co130) : Value).ownBlock ∧ some k_ ≠ ((.slice Ao137 t1146.length co137) : Value).ownBlock) (.slice Ao35 t1123.length co35) t1123) ∧ Aside0 (Kd.R Kd.string 9 wc w.heap.size (fun k_ => some k_ ≠ ((.slice Ao26 t1079.length co26) : Value).ownBlock ∧ some k_ ≠ ((.slice Ao30 t1121.length co30) : Value).ownBlock ∧ some k_ ≠ ((.slice Ao35 t1123.length co35) : Value).ownBlock ∧ some k_ ≠ ((.slice Ao44 t1102.length co44) : Value).ownBlock ∧ some k_ ≠ ((.slice Ao130 t1140.length co130) : Value).ownBlock ∧ some k_ ≠ ((.slice Ao137 t1146.length co137) : Value).ownBlock) (.slice Ao38 t1096.length co38) t1126) ∧ Aside0 (Kd.R k72 72 wc w.heap.size (fun k_ => some k_ ≠ ((.slice Ao34 t1122.length co34) : Value).ownBlock ∧ some k_ ≠ ((.slice Ao136 t1143.length co136) : Value).ownBlock) (.slice Ao43 t1099.length co43) t1127) ∧ Aside0 (Kd.R Kd.string 9 wc w.heap.size (fun k_ => some k_ ≠ ((.slice Ao26 t1079.length co26) : Value).ownBlock ∧ some k_ ≠ ((.slice Ao30 t1121.length co30) : Value).ownBlock ∧ some k_ ≠ ((.slice Ao35 t1123.length co35) : Value).ownBlock ∧ some k_ ≠ ((.slice Ao38 t1096.length co38) : Value).ownBlock ∧ some k_ ≠ ((.slice Ao130 t1140.length co130) : Value).ownBlock ∧ some k_ ≠ ((.slice Ao137 t1146.length co137) : Value).ownBlock) (.slice Ao44 t1102.length co44) t1128) ∧ Aside0 (Kd.R Kd.string 9 wc w.heap.size (fun k_ => some k_ ≠ ((.slice Ao26 t1079.length co26) : Value).ownBlock ∧ some k_ ≠ ((.slice Ao30 t1121.length co30) : Value).ownBlock ∧ some k_ ≠ ((.slice Ao35 t1123.length co35) : Value).ownBlock ∧ some k_ ≠ ((.slice Ao38 t1096.length co38) : Value).ownBlock ∧ some k_ ≠ ((.slice Ao44 t1102.length co44) : Value).ownBlock ∧ some k_ ≠ ((.slice Ao137 t1146.length co137) : Value).ownBlock) (.slice Ao130 t1140.length co130) t1140) ∧ Aside0 (Kd.R k72 72 wc w.heap.size (fun k_ => some k_ ≠ ((.slice Ao34 t1122.length co34) : Value).ownBlock ∧ some k_ ≠ ((.slice Ao43 t1099.length co43) : Value).ownBlock) (.slice Ao136 t1143.length co136) t1143) ∧ Aside0 (Kd.R Kd.string 9 wc w.heap.size (fun k_ => some k_ ≠ ((.slice Ao26 t1079.length co26) : Value).ownBlock ∧ some k_ ≠ ((.slice Ao30 t1121.length co30) : Value).ownBlock ∧ some k_ ≠ ((.slice Ao35 t1123.length co35) : Value).ownBlock ∧ some k_ ≠ ((.slice Ao38 t1096.length co38) : Value).ownBlock ∧ some k_ ≠ ((.slice Ao44 t1102.length co44) : Value).ownBlock ∧ some k_ ≠ ((.slice Ao130 t1140.length co130) : Value).ownBlock) (.slice Ao137 t1146.length co137) t1146) ∧ Aside0 (wc.heap[gb1061]? = some (.cells #[(.slice A0_0 l0_0.length c0_0), (.slice A0_1 l0_1.length c0_1), (.slice A0_2 l0_2.length c0_2), .int .i64 a0_3] 38 (0, 0))) ∧ Aside0 (wc.heap[gb1084]? = some (.cells #[(.slice Ao22 t1073.length co22), (.slice Ao25 t1076.length co25), (.slice Ao26 t1079.length co26), .int .i64 t1082] 44 (0, 0))) ∧ Aside0 (wc.heap[gb1095]? = some (.cells #[(.slice Ao30 t1121.length co30), (.slice Ao34 t1122.length co34), (.slice Ao35 t1123.length co35), .int .i64 t1094] 44 (0, 0))) ∧ Aside0 (wc.heap[gb1107]? = some (.cells #[(.slice Ao38 t1096.length co38), (.slice Ao43 t1099.length co43), (.slice Ao44 t1102.length co44), .int .i64 t1105] 44 (0, 0))) ∧ Aside0 (wc.heap[gb1151]? = some (.cells #[(.slice Ao130 t1140.length co130), (.slice Ao136 t1143.length co136), (.slice Ao137 t1146.length co137), .int .i64 t1149] 44 (0, 0))) ∧ Aside0 (Below w.heap.size w wc))
           case first =>
            have H := HC113.out
            clear HC113
            replace H := Option.bind_eq_some_iff.mp H
            obtain ⟨t1152, A1380, H⟩ := H
            replace H : (if t1152 = true then (laws_FnExactWriteBack.j2 kj67 t1125 (t1150 != t1083) t1126 t1127 t1128 t1105) else (laws_FnExactWriteBack.j2 kj67 t1125 true t1126 t1127 t1128 t1105)) = some r := H
            have A138 := Aside0.mk A1380
            clear A1380
            by_cases c139 : t1152 = true
            ·
             subst c139
             rw [if_pos rfl] at H
             have H' := Aside0.mk H
             clear H
             have hnb140 := NB1151_1061.out
             have hnc140 := NB1061_1151.out
             have hnb141 := NB1151_1084.out
             have hnc141 := NB1084_1151.out
             have hnb142 := NB1151_1095.out
             have hnc142 := NB1095_1151.out
             have hnb143 := NB1151_1107.out
             have hnc143 := NB1107_1151.out
             obtain ⟨hcz144_0, hcz144_1, hcz144_2, hcz144_3⟩ := cz4 BK1151
             obtain ⟨hfz144_0, hfz144_1, hfz144_2, hfz144_3⟩ := fz4 BK1151
             have hnb145 := NB1084_1061.out
             have hnc145 := NB1061_1084.out
             have hnb146 := NB1084_1095.out
             have hnc146 := NB1095_1084.out
             have hnb147 := NB1084_1107.out
             have hnc147 := NB1107_1084.out
             obtain ⟨hcz148_0, hcz148_1, hcz148_2, hcz148_3⟩ := cz4 BK1084
             obtain ⟨hfz148_0, hfz148_1, hfz148_2, hfz148_3⟩ := fz4 BK1084
             go_wp2_with (first | ((with_reducible refine gate_callee (f := 29) rfl ?_); refine gL (some 81) rfl rfl Try.func29 (by kernel_rfl) rfl #[.agg #[.slice Ao130 t1140.length co130, .slice Ao136 t1143.length co136, .slice Ao137 t1146.length co137, .int .i64 t1149], .agg #[.slice Ao22 t1073.length co22, .slice Ao25 t1076.length co25, .slice Ao26 t1079.length co26, .int .i64 t1082]] rfl ?_; (with_reducible refine (laws_eqStore.calls kj67 _ _ t1140 _ _ t1143 _ _ t1146 t1149 _ _ t1073 _ _ t1076 _ _ t1079 t1082 true _ ?side1 ?side2 ?side3 ?side4 ?side5 ?side6 ?side7 ?side8 ?side9 ?side10 ?side11 ?side12 A138.out).mono ?_); (case side1 => exact rc HO1142 BK1151); (case side2 => exact (Kd.R_reads' HO1142.out).2.1); (case side3 => exact rc HO1145 BK1151); (case side4 => exact (Kd.R_reads' HO1145.out).2.1); (case side5 => exact rc HO1148 BK1151); (case side6 => exact (Kd.R_reads' HO1148.out).2.1); (case side7 => refine (Kd.V_reads' (e := 9) (base := w.heap.size) (ok := fun k_ => ((((((((some k_ ≠ (.slice Ao26 t1079.length co26 : Value).ownBlock ∧ (some k_ ≠ (.slice Ao30 t1121.length co30 : Value).ownBlock ∧ (some k_ ≠ (.slice Ao34 t1122.length co34 : Value).ownBlock ∧ (some k_ ≠ (.slice Ao35 t1123.length co35 : Value).ownBlock ∧ (some k_ ≠ (.slice Ao38 t1096.length co38 : Value).ownBlock ∧ (some k_ ≠ (.slice Ao43 t1099.length co43 : Value).ownBlock ∧ (some k_ ≠ (.slice Ao44 t1102.length co44 : Value).ownBlock ∧ (k_ ≠ gb1061 ∧ (k_ ≠ gb1084 ∧ (k_ ≠ gb1095 ∧ k_ ≠ gb1107)))))))))) ∧ some k_ ≠ (.slice Ao125 t1130.length co125 : Value).ownBlock) ∧ some k_ ≠ (.slice Ao126 t1133.length co126 : Value).ownBlock) ∧ some k_ ≠ (.slice Ao127 t1136.length co127 : Value).ownBlock) ∧ some k_ ≠ (.slice Ao130 t1140.length co130 : Value).ownBlock) ∧ some k_ ≠ (.slice Ao136 t1143.length co136 : Value).ownBlock) ∧ some k_ ≠ (.slice Ao137 t1146.length co137 : Value).ownBlock) ∧ k_ ≠ gb1151)) (n := t1073.length) (c := co22) ?_).2.2; exact (by (with_reducible repeat (first | apply Kd.V_alloc | apply Kd.V_drewN | apply Kd.V_drew)); exact (Kd.V_mono (Kd.V_far (p := ⟨gb1151, 3, none⟩) (Kd.V_far (p := ⟨gb1151, 2, none⟩) (Kd.V_far (p := ⟨gb1151, 1, none⟩) (Kd.V_far (p := ⟨gb1151, 0, none⟩) (Kd.V_mono HO_1085000.out (fun k_ hk => (⟨hk, hk.2⟩ : _ ∧ k_ ≠ gb1151))) (fun _ hk => hk.2) (.slice Ao130 t1140.length co130)) (fun _ hk => hk.2) (.slice Ao136 t1143.length co136)) (fun _ hk => hk.2) (.slice Ao137 t1146.length co137)) (fun _ hk => hk.2) (.int .i64 t1149)) (fun _ h_ => h_.1)))); (case side8 => exact (Kd.V_reads' HO_1085000.out).2.1); (case side9 => refine (Kd.V_reads' (e := 72) (base := w.heap.size) (ok := fun k_ => ((((((((some k_ ≠ (.slice Ao26 t1079.length co26 : Value).ownBlock ∧ (some k_ ≠ (.slice Ao30 t1121.length co30 : Value).ownBlock ∧ (some k_ ≠ (.slice Ao34 t1122.length co34 : Value).ownBlock ∧ (some k_ ≠ (.slice Ao35 t1123.length co35 : Value).ownBlock ∧ (some k_ ≠ (.slice Ao38 t1096.length co38 : Value).ownBlock ∧ (some k_ ≠ (.slice Ao43 t1099.length co43 : Value).ownBlock ∧ (some k_ ≠ (.slice Ao44 t1102.length co44 : Value).ownBlock ∧ (k_ ≠ gb1061 ∧ (k_ ≠ gb1084 ∧ (k_ ≠ gb1095 ∧ k_ ≠ gb1107)))))))))) ∧ some k_ ≠ (.slice Ao125 t1130.length co125 : Value).ownBlock) ∧ some k_ ≠ (.slice Ao126 t1133.length co126 : Value).ownBlock) ∧ some k_ ≠ (.slice Ao127 t1136.length co127 : Value).ownBlock) ∧ some k_ ≠ (.slice Ao130 t1140.length co130 : Value).ownBlock) ∧ some k_ ≠ (.slice Ao136 t1143.length co136 : Value).ownBlock) ∧ some k_ ≠ (.slice Ao137 t1146.length co137 : Value).ownBlock) ∧ k_ ≠ gb1151)) (n := t1076.length) (c := co25) ?_).2.2; exact (by (with_reducible repeat (first | apply Kd.V_alloc | apply Kd.V_drewN | apply Kd.V_drew)); exact (Kd.V_mono (Kd.V_far (p := ⟨gb1151, 3, none⟩) (Kd.V_far (p := ⟨gb1151, 2, none⟩) (Kd.V_far (p := ⟨gb1151, 1, none⟩) (Kd.V_far (p := ⟨gb1151, 0, none⟩) (Kd.V_mono HO_1085001.out (fun k_ hk => (⟨hk, hk.2⟩ : _ ∧ k_ ≠ gb1151))) (fun _ hk => hk.2) (.slice Ao130 t1140.length co130)) (fun _ hk => hk.2) (.slice Ao136 t1143.length co136)) (fun _ hk => hk.2) (.slice Ao137 t1146.length co137)) (fun _ hk => hk.2) (.int .i64 t1149)) (fun _ h_ => h_.1)))); (case side10 => exact (Kd.V_reads' HO_1085001.out).2.1); (case side11 => exact rc HO_1085002 BK1151); (case side12 => exact (Kd.R_reads' HO_1085002.out).2.1); rintro e w149 ⟨rfl, hb⟩; refine ⟨_, rfl, ?_⟩; replace HO_1085000 := Aside0.mk (Kd.V_below (by (with_reducible repeat (first | apply Kd.V_alloc | apply Kd.V_drewN | apply Kd.V_drew)); exact (Kd.V_mono (Kd.V_far (p := ⟨gb1151, 3, none⟩) (Kd.V_far (p := ⟨gb1151, 2, none⟩) (Kd.V_far (p := ⟨gb1151, 1, none⟩) (Kd.V_far (p := ⟨gb1151, 0, none⟩) (Kd.V_mono HO_1085000.out (fun k_ hk => (⟨hk, hk.2⟩ : _ ∧ k_ ≠ gb1151))) (fun _ hk => hk.2) (.slice Ao130 t1140.length co130)) (fun _ hk => hk.2) (.slice Ao136 t1143.length co136)) (fun _ hk => hk.2) (.slice Ao137 t1146.length co137)) (fun _ hk => hk.2) (.int .i64 t1149)) (fun _ h_ => h_.1))) hb); replace HO_1085001 := Aside0.mk (Kd.V_below (by (with_reducible repeat (first | apply Kd.V_alloc | apply Kd.V_drewN | apply Kd.V_drew)); exact (Kd.V_mono (Kd.V_far (p := ⟨gb1151, 3, none⟩) (Kd.V_far (p := ⟨gb1151, 2, none⟩) (Kd.V_far (p := ⟨gb1151, 1, none⟩) (Kd.V_far (p := ⟨gb1151, 0, none⟩) (Kd.V_mono HO_1085001.out (fun k_ hk => (⟨hk, hk.2⟩ : _ ∧ k_ ≠ gb1151))) (fun _ hk => hk.2) (.slice Ao130 t1140.length co130)) (fun _ hk => hk.2) (.slice Ao136 t1143.length co136)) (fun _ hk => hk.2) (.slice Ao137 t1146.length co137)) (fun _ hk => hk.2) (.int .i64 t1149)) (fun _ h_ => h_.1))) hb); replace HO_1085002 := nf HO_1085002 BK1151 hb; replace HO_1096000 := nf HO_1096000 BK1151 hb; replace HO_1096001 := nf HO_1096001 BK1151 hb; replace HO_1096002 := nf HO_1096002 BK1151 hb; replace HO_1108000 := nf HO_1108000 BK1151 hb; replace HO_1108001 := nf HO_1108001 BK1151 hb; replace HO_1108002 := nf HO_1108002 BK1151 hb; replace HO1132 := nf HO1132 BK1151 hb; replace HO1135 := nf HO1135 BK1151 hb; replace HO1138 := nf HO1138 BK1151 hb; replace HO1142 := nf HO1142 BK1151 hb; replace HO1145 := nf HO1145 BK1151 hb; replace HO1148 := nf HO1148 BK1151 hb; replace BK1061 := Aside0.mk (blk_below (bf BK1061 NB1061_1151) hb); replace BK1084 := Aside0.mk (blk_below (bf BK1084 NB1084_1151) hb); replace BK1095 := Aside0.mk (blk_below (bf BK1095 NB1095_1151) hb); replace BK1107 := Aside0.mk (blk_below (bf BK1107 NB1107_1151) hb); replace BK1151 := Aside0.mk (blk_below (g := gb1151) (o := .cells #[.slice Ao130 t1140.length co130, .slice Ao136 t1143.length co136, .slice Ao137 t1146.length co137, .int .i64 t1149] 44 (0, 0)) (by (with_reducible repeat (first | refine blk_drewN ?_ _ | refine blk_drew ?_ | refine blk_alloc ?_ _)); refine blk_put (cs := #[.slice Ao130 t1140.length co130, .slice Ao136 t1143.length co136, .slice Ao137 t1146.length co137, .int .i64 0]) ?_ 3 _ rfl; (with_reducible repeat (first | refine blk_drewN ?_ _ | refine blk_drew ?_ | refine blk_alloc ?_ _)); refine blk_put (cs := #[.slice Ao130 t1140.length co130, .slice Ao136 t1143.length co136, .slice none 0 0, .int .i64 0]) ?_ 2 _ rfl; (with_reducible repeat (first | refine blk_drewN ?_ _ | refine blk_drew ?_ | refine blk_alloc ?_ _)); refine blk_put (cs := #[.slice Ao130 t1140.length co130, .slice none 0 0, .slice none 0 0, .int .i64 0]) ?_ 1 _ rfl; (with_reducible repeat (first | refine blk_drewN ?_ _ | refine blk_drew ?_ | refine blk_alloc ?_ _)); refine blk_put (cs := #[.slice none 0 0, .slice none 0 0, .slice none 0 0, .int .i64 0]) ?_ 0 _ rfl; (with_reducible repeat (first | refine blk_drewN ?_ _ | refine blk_drew ?_ | refine blk_alloc ?_ _)); exact BK1151.out) hb); replace HB := Aside0.mk (below_step (bs5 HB GE1061 GE1084 GE1095 GE1107 GE1151) hb); (try clear hb); (try clear hb2); (try clear hk); (try clear hi)))
             go_meet
             case rel => exact ⟨_, ((t1150 != t1083)), (by first | rfl | (simp; done) | (simp [*]; done)), H', ⟨by have := HJ10.out; have := HJ67.out; first | omega | exact Nat.le_refl _⟩, ⟨by (try simp only [hl1096000_67]); (try simp only [hl1096001_67]); (try simp only [hl1096002_67]); (with_reducible repeat (first | apply Kd.V_alloc | apply Kd.V_drewN | apply Kd.V_drew)); exact Kd.V_mono HO_1085000.out (fun _ hk => ⟨hk.1.1.1.1.1.1.1.1, ⟨hk.1.1.1.1.1.1.1.2.1, ⟨hk.1.1.1.1.1.1.1.2.2.1, ⟨hk.1.1.1.1.1.1.1.2.2.2.1, ⟨hk.1.1.1.1.1.1.1.2.2.2.2.1, ⟨hk.1.1.1.1.1.1.1.2.2.2.2.2.1, ⟨hk.1.1.1.1.1.1.1.2.2.2.2.2.2.1, ⟨hk.1.1.1.2, ⟨hk.1.1.2, ⟨hk.1.2, ⟨hk.1.1.1.1.1.1.1.2.2.2.2.2.2.2.1, ⟨hk.1.1.1.1.1.1.1.2.2.2.2.2.2.2.2.1, ⟨hk.1.1.1.1.1.1.1.2.2.2.2.2.2.2.2.2.1, ⟨hk.1.1.1.1.1.1.1.2.2.2.2.2.2.2.2.2.2, hk.2⟩⟩⟩⟩⟩⟩⟩⟩⟩⟩⟩⟩⟩⟩)⟩, ⟨by (try simp only [hl1096000_67]); (try simp only [hl1096001_67]); (try simp only [hl1096002_67]); (with_reducible repeat (first | apply Kd.V_alloc | apply Kd.V_drewN | apply Kd.V_drew)); exact Kd.V_mono HO_1085001.out (fun _ hk => ⟨hk.1.1.1.1.1.1.1.1, ⟨hk.1.1.1.1.1.1.1.2.1, ⟨hk.1.1.1.1.1.1.1.2.2.1, ⟨hk.1.1.1.1.1.1.1.2.2.2.1, ⟨hk.1.1.1.1.1.1.1.2.2.2.2.1, ⟨hk.1.1.1.1.1.1.1.2.2.2.2.2.1, ⟨hk.1.1.1.1.1.1.1.2.2.2.2.2.2.1, ⟨hk.1.1.1.2, ⟨hk.1.1.2, ⟨hk.1.2, ⟨hk.1.1.1.1.1.1.1.2.2.2.2.2.2.2.1, ⟨hk.1.1.1.1.1.1.1.2.2.2.2.2.2.2.2.1, ⟨hk.1.1.1.1.1.1.1.2.2.2.2.2.2.2.2.2.1, ⟨hk.1.1.1.1.1.1.1.2.2.2.2.2.2.2.2.2.2, hk.2⟩⟩⟩⟩⟩⟩⟩⟩⟩⟩⟩⟩⟩⟩)⟩, ⟨by (try simp only [hl1096000_67]); (try simp only [hl1096001_67]); (try simp only [hl1096002_67]); (with_reducible repeat (first | apply Kd.R_alloc | apply Kd.R_drewN | apply Kd.R_drew)); exact Kd.R_mono HO_1085002.out (fun _ hk => ⟨hk.1.1.1.1.1, ⟨hk.1.1.1.1.2.1, ⟨hk.1.1.1.1.2.2.1, ⟨hk.1.1.1.1.2.2.2, ⟨hk.1.2, hk.2⟩⟩⟩⟩⟩)⟩, ⟨by (try simp only [hl1096000_67]); (try simp only [hl1096001_67]); (try simp only [hl1096002_67]); (with_reducible repeat (first | apply Kd.R_alloc | apply Kd.R_drewN | apply Kd.R_drew)); exact Kd.R_mono HO_1096000.out (fun _ hk => ⟨hk.1.1.1.1.1, ⟨hk.1.1.1.1.2.1, ⟨hk.1.1.1.1.2.2.1, ⟨hk.1.1.1.1.2.2.2, ⟨hk.1.2, hk.2⟩⟩⟩⟩⟩)⟩, ⟨by (try simp only [hl1096000_67]); (try simp only [hl1096001_67]); (try simp only [hl1096002_67]); (with_reducible repeat (first | apply Kd.R_alloc | apply Kd.R_drewN | apply Kd.R_drew)); exact Kd.R_mono HO_1096001.out (fun _ hk => ⟨hk.1.1, hk.2⟩)⟩, ⟨by (try simp only [hl1096000_67]); (try simp only [hl1096001_67]); (try simp only [hl1096002_67]); (with_reducible repeat (first | apply Kd.R_alloc | apply Kd.R_drewN | apply Kd.R_drew)); exact Kd.R_mono HO_1096002.out (fun _ hk => ⟨hk.1.1.1.1.1, ⟨hk.1.1.1.1.2.1, ⟨hk.1.1.1.1.2.2.1, ⟨hk.1.1.1.1.2.2.2, ⟨hk.1.2, hk.2⟩⟩⟩⟩⟩)⟩, ⟨by (try simp only [hl1096000_67]); (try simp only [hl1096001_67]); (try simp only [hl1096002_67]); (with_reducible repeat (first | apply Kd.R_alloc | apply Kd.R_drewN | apply Kd.R_drew)); exact Kd.R_mono HO_1108000.out (fun _ hk => ⟨hk.1.1.1.1.1, ⟨hk.1.1.1.1.2.1, ⟨hk.1.1.1.1.2.2.1, ⟨hk.1.1.1.1.2.2.2, ⟨hk.1.2, hk.2⟩⟩⟩⟩⟩)⟩, ⟨by (try simp only [hl1096000_67]); (try simp only [hl1096001_67]); (try simp only [hl1096002_67]); (with_reducible repeat (first | apply Kd.R_alloc | apply Kd.R_drewN | apply Kd.R_drew)); exact Kd.R_mono HO_1108001.out (fun _ hk => ⟨hk.1.1, hk.2⟩)⟩, ⟨by (try simp only [hl1096000_67]); (try simp only [hl1096001_67]); (try simp only [hl1096002_67]); (with_reducible repeat (first | apply Kd.R_alloc | apply Kd.R_drewN | apply Kd.R_drew)); exact Kd.R_mono HO_1108002.out (fun _ hk => ⟨hk.1.1.1.1.1, ⟨hk.1.1.1.1.2.1, ⟨hk.1.1.1.1.2.2.1, ⟨hk.1.1.1.1.2.2.2, ⟨hk.1.2, hk.2⟩⟩⟩⟩⟩)⟩, ⟨by (try simp only [hl1096000_67]); (try simp only [hl1096001_67]); (try simp only [hl1096002_67]); (with_reducible repeat (first | apply Kd.R_alloc | apply Kd.R_drewN | apply Kd.R_drew)); exact Kd.R_mono HO1142.out (fun _ hk => ⟨hk.1.1.1.1.1.1.2, ⟨hk.1.1.1.1.1.2, ⟨hk.1.1.1.1.2, ⟨hk.1.1.1.2, ⟨hk.1.1.2, hk.1.1.1.1.1.1.1⟩⟩⟩⟩⟩)⟩, ⟨by (try simp only [hl1096000_67]); (try simp only [hl1096001_67]); (try simp only [hl1096002_67]); (with_reducible repeat (first | apply Kd.R_alloc | apply Kd.R_drewN | apply Kd.R_drew)); exact Kd.R_mono HO1145.out (fun _ hk => ⟨hk.1.1.2, hk.1.2⟩)⟩, ⟨by (try simp only [hl1096000_67]); (try simp only [hl1096001_67]); (try simp only [hl1096002_67]); (with_reducible repeat (first | apply Kd.R_alloc | apply Kd.R_drewN | apply Kd.R_drew)); exact Kd.R_mono HO1148.out (fun _ hk => ⟨hk.1.1.1.1.1.1.2, ⟨hk.1.1.1.1.1.2, ⟨hk.1.1.1.1.2, ⟨hk.1.1.1.2, ⟨hk.1.1.2, hk.1.1.1.1.1.1.1⟩⟩⟩⟩⟩)⟩, ⟨by (try simp only [hl1096000_67]); (try simp only [hl1096001_67]); (try simp only [hl1096002_67]); (with_reducible repeat (first | refine blk_drewN ?_ _ | refine blk_drew ?_ | refine blk_alloc ?_ _)); exact BK1061.out⟩, ⟨by (try simp only [hl1096000_67]); (try simp only [hl1096001_67]); (try simp only [hl1096002_67]); (with_reducible repeat (first | refine blk_drewN ?_ _ | refine blk_drew ?_ | refine blk_alloc ?_ _)); exact BK1084.out⟩, ⟨by (try simp only [hl1096000_67]); (try simp only [hl1096001_67]); (try simp only [hl1096002_67]); (with_reducible repeat (first | refine blk_drewN ?_ _ | refine blk_drew ?_ | refine blk_alloc ?_ _)); exact BK1095.out⟩, ⟨by (try simp only [hl1096000_67]); (try simp only [hl1096001_67]); (try simp only [hl1096002_67]); (with_reducible repeat (first | refine blk_drewN ?_ _ | refine blk_drew ?_ | refine blk_alloc ?_ _)); exact BK1107.out⟩, ⟨by (try simp only [hl1096000_67]); (try simp only [hl1096001_67]); (try simp only [hl1096002_67]); (with_reducible repeat (first | refine blk_drewN ?_ _ | refine blk_drew ?_ | refine blk_alloc ?_ _)); exact BK1151.out⟩, ⟨bs5 HB GE1061 GE1084 GE1095 GE1107 GE1151⟩⟩
            ·
             replace c139 := Bool.eq_false_iff.mpr c139
             subst c139
             rw [if_neg (show ¬ (false = true) by decide)] at H
             have H' := Aside0.mk H
             clear H
             have hnb150 := NB1151_1061.out
             have hnc150 := NB1061_1151.out
             have hnb151 := NB1151_1084.out
             have hnc151 := NB1084_1151.out
             have hnb152 := NB1151_1095.out
             have hnc152 := NB1095_1151.out
             have hnb153 := NB1151_1107.out
             have hnc153 := NB1107_1151.out
             obtain ⟨hcz154_0, hcz154_1, hcz154_2, hcz154_3⟩ := cz4 BK1151
             obtain ⟨hfz154_0, hfz154_1, hfz154_2, hfz154_3⟩ := fz4 BK1151
             have hnb155 := NB1084_1061.out
             have hnc155 := NB1061_1084.out
             have hnb156 := NB1084_1095.out
             have hnc156 := NB1095_1084.out
             have hnb157 := NB1084_1107.out
             have hnc157 := NB1107_1084.out
             obtain ⟨hcz158_0, hcz158_1, hcz158_2, hcz158_3⟩ := cz4 BK1084
             obtain ⟨hfz158_0, hfz158_1, hfz158_2, hfz158_3⟩ := fz4 BK1084
             go_wp2_with (first | ((with_reducible refine gate_callee (f := 29) rfl ?_); refine gL (some 81) rfl rfl Try.func29 (by kernel_rfl) rfl #[.agg #[.slice Ao130 t1140.length co130, .slice Ao136 t1143.length co136, .slice Ao137 t1146.length co137, .int .i64 t1149], .agg #[.slice Ao22 t1073.length co22, .slice Ao25 t1076.length co25, .slice Ao26 t1079.length co26, .int .i64 t1082]] rfl ?_; (with_reducible refine (laws_eqStore.calls kj67 _ _ t1140 _ _ t1143 _ _ t1146 t1149 _ _ t1073 _ _ t1076 _ _ t1079 t1082 false _ ?side1 ?side2 ?side3 ?side4 ?side5 ?side6 ?side7 ?side8 ?side9 ?side10 ?side11 ?side12 A138.out).mono ?_); (case side1 => exact rc HO1142 BK1151); (case side2 => exact (Kd.R_reads' HO1142.out).2.1); (case side3 => exact rc HO1145 BK1151); (case side4 => exact (Kd.R_reads' HO1145.out).2.1); (case side5 => exact rc HO1148 BK1151); (case side6 => exact (Kd.R_reads' HO1148.out).2.1); (case side7 => refine (Kd.V_reads' (e := 9) (base := w.heap.size) (ok := fun k_ => ((((((((some k_ ≠ (.slice Ao26 t1079.length co26 : Value).ownBlock ∧ (some k_ ≠ (.slice Ao30 t1121.length co30 : Value).ownBlock ∧ (some k_ ≠ (.slice Ao34 t1122.length co34 : Value).ownBlock ∧ (some k_ ≠ (.slice Ao35 t1123.length co35 : Value).ownBlock ∧ (some k_ ≠ (.slice Ao38 t1096.length co38 : Value).ownBlock ∧ (some k_ ≠ (.slice Ao43 t1099.length co43 : Value).ownBlock ∧ (some k_ ≠ (.slice Ao44 t1102.length co44 : Value).ownBlock ∧ (k_ ≠ gb1061 ∧ (k_ ≠ gb1084 ∧ (k_ ≠ gb1095 ∧ k_ ≠ gb1107)))))))))) ∧ some k_ ≠ (.slice Ao125 t1130.length co125 : Value).ownBlock) ∧ some k_ ≠ (.slice Ao126 t1133.length co126 : Value).ownBlock) ∧ some k_ ≠ (.slice Ao127 t1136.length co127 : Value).ownBlock) ∧ some k_ ≠ (.slice Ao130 t1140.length co130 : Value).ownBlock) ∧ some k_ ≠ (.slice Ao136 t1143.length co136 : Value).ownBlock) ∧ some k_ ≠ (.slice Ao137 t1146.length co137 : Value).ownBlock) ∧ k_ ≠ gb1151)) (n := t1073.length) (c := co22) ?_).2.2; exact (by (with_reducible repeat (first | apply Kd.V_alloc | apply Kd.V_drewN | apply Kd.V_drew)); exact (Kd.V_mono (Kd.V_far (p := ⟨gb1151, 3, none⟩) (Kd.V_far (p := ⟨gb1151, 2, none⟩) (Kd.V_far (p := ⟨gb1151, 1, none⟩) (Kd.V_far (p := ⟨gb1151, 0, none⟩) (Kd.V_mono HO_1085000.out (fun k_ hk => (⟨hk, hk.2⟩ : _ ∧ k_ ≠ gb1151))) (fun _ hk => hk.2) (.slice Ao130 t1140.length co130)) (fun _ hk => hk.2) (.slice Ao136 t1143.length co136)) (fun _ hk => hk.2) (.slice Ao137 t1146.length co137)) (fun _ hk => hk.2) (.int .i64 t1149)) (fun _ h_ => h_.1)))); (case side8 => exact (Kd.V_reads' HO_1085000.out).2.1); (case side9 => refine (Kd.V_reads' (e := 72) (base := w.heap.size) (ok := fun k_ => ((((((((some k_ ≠ (.slice Ao26 t1079.length co26 : Value).ownBlock ∧ (some k_ ≠ (.slice Ao30 t1121.length co30 : Value).ownBlock ∧ (some k_ ≠ (.slice Ao34 t1122.length co34 : Value).ownBlock ∧ (some k_ ≠ (.slice Ao35 t1123.length co35 : Value).ownBlock ∧ (some k_ ≠ (.slice Ao38 t1096.length co38 : Value).ownBlock ∧ (some k_ ≠ (.slice Ao43 t1099.length co43 : Value).ownBlock ∧ (some k_ ≠ (.slice Ao44 t1102.length co44 : Value).ownBlock ∧ (k_ ≠ gb1061 ∧ (k_ ≠ gb1084 ∧ (k_ ≠ gb1095 ∧ k_ ≠ gb1107)))))))))) ∧ some k_ ≠ (.slice Ao125 t1130.length co125 : Value).ownBlock) ∧ some k_ ≠ (.slice Ao126 t1133.length co126 : Value).ownBlock) ∧ some k_ ≠ (.slice Ao127 t1136.length co127 : Value).ownBlock) ∧ some k_ ≠ (.slice Ao130 t1140.length co130 : Value).ownBlock) ∧ some k_ ≠ (.slice Ao136 t1143.length co136 : Value).ownBlock) ∧ some k_ ≠ (.slice Ao137 t1146.length co137 : Value).ownBlock) ∧ k_ ≠ gb1151)) (n := t1076.length) (c := co25) ?_).2.2; exact (by (with_reducible repeat (first | apply Kd.V_alloc | apply Kd.V_drewN | apply Kd.V_drew)); exact (Kd.V_mono (Kd.V_far (p := ⟨gb1151, 3, none⟩) (Kd.V_far (p := ⟨gb1151, 2, none⟩) (Kd.V_far (p := ⟨gb1151, 1, none⟩) (Kd.V_far (p := ⟨gb1151, 0, none⟩) (Kd.V_mono HO_1085001.out (fun k_ hk => (⟨hk, hk.2⟩ : _ ∧ k_ ≠ gb1151))) (fun _ hk => hk.2) (.slice Ao130 t1140.length co130)) (fun _ hk => hk.2) (.slice Ao136 t1143.length co136)) (fun _ hk => hk.2) (.slice Ao137 t1146.length co137)) (fun _ hk => hk.2) (.int .i64 t1149)) (fun _ h_ => h_.1)))); (case side10 => exact (Kd.V_reads' HO_1085001.out).2.1); (case side11 => exact rc HO_1085002 BK1151); (case side12 => exact (Kd.R_reads' HO_1085002.out).2.1); rintro e w159 ⟨rfl, hb⟩; refine ⟨_, rfl, ?_⟩; replace HO_1085000 := Aside0.mk (Kd.V_below (by (with_reducible repeat (first | apply Kd.V_alloc | apply Kd.V_drewN | apply Kd.V_drew)); exact (Kd.V_mono (Kd.V_far (p := ⟨gb1151, 3, none⟩) (Kd.V_far (p := ⟨gb1151, 2, none⟩) (Kd.V_far (p := ⟨gb1151, 1, none⟩) (Kd.V_far (p := ⟨gb1151, 0, none⟩) (Kd.V_mono HO_1085000.out (fun k_ hk => (⟨hk, hk.2⟩ : _ ∧ k_ ≠ gb1151))) (fun _ hk => hk.2) (.slice Ao130 t1140.length co130)) (fun _ hk => hk.2) (.slice Ao136 t1143.length co136)) (fun _ hk => hk.2) (.slice Ao137 t1146.length co137)) (fun _ hk => hk.2) (.int .i64 t1149)) (fun _ h_ => h_.1))) hb); replace HO_1085001 := Aside0.mk (Kd.V_below (by (with_reducible repeat (first | apply Kd.V_alloc | apply Kd.V_drewN | apply Kd.V_drew)); exact (Kd.V_mono (Kd.V_far (p := ⟨gb1151, 3, none⟩) (Kd.V_far (p := ⟨gb1151, 2, none⟩) (Kd.V_far (p := ⟨gb1151, 1, none⟩) (Kd.V_far (p := ⟨gb1151, 0, none⟩) (Kd.V_mono HO_1085001.out (fun k_ hk => (⟨hk, hk.2⟩ : _ ∧ k_ ≠ gb1151))) (fun _ hk => hk.2) (.slice Ao130 t1140.length co130)) (fun _ hk => hk.2) (.slice Ao136 t1143.length co136)) (fun _ hk => hk.2) (.slice Ao137 t1146.length co137)) (fun _ hk => hk.2) (.int .i64 t1149)) (fun _ h_ => h_.1))) hb); replace HO_1085002 := nf HO_1085002 BK1151 hb; replace HO_1096000 := nf HO_1096000 BK1151 hb; replace HO_1096001 := nf HO_1096001 BK1151 hb; replace HO_1096002 := nf HO_1096002 BK1151 hb; replace HO_1108000 := nf HO_1108000 BK1151 hb; replace HO_1108001 := nf HO_1108001 BK1151 hb; replace HO_1108002 := nf HO_1108002 BK1151 hb; replace HO1132 := nf HO1132 BK1151 hb; replace HO1135 := nf HO1135 BK1151 hb; replace HO1138 := nf HO1138 BK1151 hb; replace HO1142 := nf HO1142 BK1151 hb; replace HO1145 := nf HO1145 BK1151 hb; replace HO1148 := nf HO1148 BK1151 hb; replace BK1061 := Aside0.mk (blk_below (bf BK1061 NB1061_1151) hb); replace BK1084 := Aside0.mk (blk_below (bf BK1084 NB1084_1151) hb); replace BK1095 := Aside0.mk (blk_below (bf BK1095 NB1095_1151) hb); replace BK1107 := Aside0.mk (blk_below (bf BK1107 NB1107_1151) hb); replace BK1151 := Aside0.mk (blk_below (g := gb1151) (o := .cells #[.slice Ao130 t1140.length co130, .slice Ao136 t1143.length co136, .slice Ao137 t1146.length co137, .int .i64 t1149] 44 (0, 0)) (by (with_reducible repeat (first | refine blk_drewN ?_ _ | refine blk_drew ?_ | refine blk_alloc ?_ _)); refine blk_put (cs := #[.slice Ao130 t1140.length co130, .slice Ao136 t1143.length co136, .slice Ao137 t1146.length co137, .int .i64 0]) ?_ 3 _ rfl; (with_reducible repeat (first | refine blk_drewN ?_ _ | refine blk_drew ?_ | refine blk_alloc ?_ _)); refine blk_put (cs := #[.slice Ao130 t1140.length co130, .slice Ao136 t1143.length co136, .slice none 0 0, .int .i64 0]) ?_ 2 _ rfl; (with_reducible repeat (first | refine blk_drewN ?_ _ | refine blk_drew ?_ | refine blk_alloc ?_ _)); refine blk_put (cs := #[.slice Ao130 t1140.length co130, .slice none 0 0, .slice none 0 0, .int .i64 0]) ?_ 1 _ rfl; (with_reducible repeat (first | refine blk_drewN ?_ _ | refine blk_drew ?_ | refine blk_alloc ?_ _)); refine blk_put (cs := #[.slice none 0 0, .slice none 0 0, .slice none 0 0, .int .i64 0]) ?_ 0 _ rfl; (with_reducible repeat (first | refine blk_drewN ?_ _ | refine blk_drew ?_ | refine blk_alloc ?_ _)); exact BK1151.out) hb); replace HB := Aside0.mk (below_step (bs5 HB GE1061 GE1084 GE1095 GE1107 GE1151) hb); (try clear hb); (try clear hb2); (try clear hk); (try clear hi)))
             go_meet
             case rel => exact ⟨_, (true), (by first | rfl | (simp; done) | (simp [*]; done)), H', ⟨by have := HJ10.out; have := HJ67.out; first | omega | exact Nat.le_refl _⟩, ⟨by (try simp only [hl1096000_67]); (try simp only [hl1096001_67]); (try simp only [hl1096002_67]); (with_reducible repeat (first | apply Kd.V_alloc | apply Kd.V_drewN | apply Kd.V_drew)); exact Kd.V_mono HO_1085000.out (fun _ hk => ⟨hk.1.1.1.1.1.1.1.1, ⟨hk.1.1.1.1.1.1.1.2.1, ⟨hk.1.1.1.1.1.1.1.2.2.1, ⟨hk.1.1.1.1.1.1.1.2.2.2.1, ⟨hk.1.1.1.1.1.1.1.2.2.2.2.1, ⟨hk.1.1.1.1.1.1.1.2.2.2.2.2.1, ⟨hk.1.1.1.1.1.1.1.2.2.2.2.2.2.1, ⟨hk.1.1.1.2, ⟨hk.1.1.2, ⟨hk.1.2, ⟨hk.1.1.1.1.1.1.1.2.2.2.2.2.2.2.1, ⟨hk.1.1.1.1.1.1.1.2.2.2.2.2.2.2.2.1, ⟨hk.1.1.1.1.1.1.1.2.2.2.2.2.2.2.2.2.1, ⟨hk.1.1.1.1.1.1.1.2.2.2.2.2.2.2.2.2.2, hk.2⟩⟩⟩⟩⟩⟩⟩⟩⟩⟩⟩⟩⟩⟩)⟩, ⟨by (try simp only [hl1096000_67]); (try simp only [hl1096001_67]); (try simp only [hl1096002_67]); (with_reducible repeat (first | apply Kd.V_alloc | apply Kd.V_drewN | apply Kd.V_drew)); exact Kd.V_mono HO_1085001.out (fun _ hk => ⟨hk.1.1.1.1.1.1.1.1, ⟨hk.1.1.1.1.1.1.1.2.1, ⟨hk.1.1.1.1.1.1.1.2.2.1, ⟨hk.1.1.1.1.1.1.1.2.2.2.1, ⟨hk.1.1.1.1.1.1.1.2.2.2.2.1, ⟨hk.1.1.1.1.1.1.1.2.2.2.2.2.1, ⟨hk.1.1.1.1.1.1.1.2.2.2.2.2.2.1, ⟨hk.1.1.1.2, ⟨hk.1.1.2, ⟨hk.1.2, ⟨hk.1.1.1.1.1.1.1.2.2.2.2.2.2.2.1, ⟨hk.1.1.1.1.1.1.1.2.2.2.2.2.2.2.2.1, ⟨hk.1.1.1.1.1.1.1.2.2.2.2.2.2.2.2.2.1, ⟨hk.1.1.1.1.1.1.1.2.2.2.2.2.2.2.2.2.2, hk.2⟩⟩⟩⟩⟩⟩⟩⟩⟩⟩⟩⟩⟩⟩)⟩, ⟨by (try simp only [hl1096000_67]); (try simp only [hl1096001_67]); (try simp only [hl1096002_67]); (with_reducible repeat (first | apply Kd.R_alloc | apply Kd.R_drewN | apply Kd.R_drew)); exact Kd.R_mono HO_1085002.out (fun _ hk => ⟨hk.1.1.1.1.1, ⟨hk.1.1.1.1.2.1, ⟨hk.1.1.1.1.2.2.1, ⟨hk.1.1.1.1.2.2.2, ⟨hk.1.2, hk.2⟩⟩⟩⟩⟩)⟩, ⟨by (try simp only [hl1096000_67]); (try simp only [hl1096001_67]); (try simp only [hl1096002_67]); (with_reducible repeat (first | apply Kd.R_alloc | apply Kd.R_drewN | apply Kd.R_drew)); exact Kd.R_mono HO_1096000.out (fun _ hk => ⟨hk.1.1.1.1.1, ⟨hk.1.1.1.1.2.1, ⟨hk.1.1.1.1.2.2.1, ⟨hk.1.1.1.1.2.2.2, ⟨hk.1.2, hk.2⟩⟩⟩⟩⟩)⟩, ⟨by (try simp only [hl1096000_67]); (try simp only [hl1096001_67]); (try simp only [hl1096002_67]); (with_reducible repeat (first | apply Kd.R_alloc | apply Kd.R_drewN | apply Kd.R_drew)); exact Kd.R_mono HO_1096001.out (fun _ hk => ⟨hk.1.1, hk.2⟩)⟩, ⟨by (try simp only [hl1096000_67]); (try simp only [hl1096001_67]); (try simp only [hl1096002_67]); (with_reducible repeat (first | apply Kd.R_alloc | apply Kd.R_drewN | apply Kd.R_drew)); exact Kd.R_mono HO_1096002.out (fun _ hk => ⟨hk.1.1.1.1.1, ⟨hk.1.1.1.1.2.1, ⟨hk.1.1.1.1.2.2.1, ⟨hk.1.1.1.1.2.2.2, ⟨hk.1.2, hk.2⟩⟩⟩⟩⟩)⟩, ⟨by (try simp only [hl1096000_67]); (try simp only [hl1096001_67]); (try simp only [hl1096002_67]); (with_reducible repeat (first | apply Kd.R_alloc | apply Kd.R_drewN | apply Kd.R_drew)); exact Kd.R_mono HO_1108000.out (fun _ hk => ⟨hk.1.1.1.1.1, ⟨hk.1.1.1.1.2.1, ⟨hk.1.1.1.1.2.2.1, ⟨hk.1.1.1.1.2.2.2, ⟨hk.1.2, hk.2⟩⟩⟩⟩⟩)⟩, ⟨by (try simp only [hl1096000_67]); (try simp only [hl1096001_67]); (try simp only [hl1096002_67]); (with_reducible repeat (first | apply Kd.R_alloc | apply Kd.R_drewN | apply Kd.R_drew)); exact Kd.R_mono HO_1108001.out (fun _ hk => ⟨hk.1.1, hk.2⟩)⟩, ⟨by (try simp only [hl1096000_67]); (try simp only [hl1096001_67]); (try simp only [hl1096002_67]); (with_reducible repeat (first | apply Kd.R_alloc | apply Kd.R_drewN | apply Kd.R_drew)); exact Kd.R_mono HO_1108002.out (fun _ hk => ⟨hk.1.1.1.1.1, ⟨hk.1.1.1.1.2.1, ⟨hk.1.1.1.1.2.2.1, ⟨hk.1.1.1.1.2.2.2, ⟨hk.1.2, hk.2⟩⟩⟩⟩⟩)⟩, ⟨by (try simp only [hl1096000_67]); (try simp only [hl1096001_67]); (try simp only [hl1096002_67]); (with_reducible repeat (first | apply Kd.R_alloc | apply Kd.R_drewN | apply Kd.R_drew)); exact Kd.R_mono HO1142.out (fun _ hk => ⟨hk.1.1.1.1.1.1.2, ⟨hk.1.1.1.1.1.2, ⟨hk.1.1.1.1.2, ⟨hk.1.1.1.2, ⟨hk.1.1.2, hk.1.1.1.1.1.1.1⟩⟩⟩⟩⟩)⟩, ⟨by (try simp only [hl1096000_67]); (try simp only [hl1096001_67]); (try simp only [hl1096002_67]); (with_reducible repeat (first | apply Kd.R_alloc | apply Kd.R_drewN | apply Kd.R_drew)); exact Kd.R_mono HO1145.out (fun _ hk => ⟨hk.1.1.2, hk.1.2⟩)⟩, ⟨by (try simp only [hl1096000_67]); (try simp only [hl1096001_67]); (try simp only [hl1096002_67]); (with_reducible repeat (first | apply Kd.R_alloc | apply Kd.R_drewN | apply Kd.R_drew)); exact Kd.R_mono HO1148.out (fun _ hk => ⟨hk.1.1.1.1.1.1.2, ⟨hk.1.1.1.1.1.2, ⟨hk.1.1.1.1.2, ⟨hk.1.1.1.2, ⟨hk.1.1.2, hk.1.1.1.1.1.1.1⟩⟩⟩⟩⟩)⟩, ⟨by (try simp only [hl1096000_67]); (try simp only [hl1096001_67]); (try simp only [hl1096002_67]); (with_reducible repeat (first | refine blk_drewN ?_ _ | refine blk_drew ?_ | refine blk_alloc ?_ _)); exact BK1061.out⟩, ⟨by (try simp only [hl1096000_67]); (try simp only [hl1096001_67]); (try simp only [hl1096002_67]); (with_reducible repeat (first | refine blk_drewN ?_ _ | refine blk_drew ?_ | refine blk_alloc ?_ _)); exact BK1084.out⟩, ⟨by (try simp only [hl1096000_67]); (try simp only [hl1096001_67]); (try simp only [hl1096002_67]); (with_reducible repeat (first | refine blk_drewN ?_ _ | refine blk_drew ?_ | refine blk_alloc ?_ _)); exact BK1095.out⟩, ⟨by (try simp only [hl1096000_67]); (try simp only [hl1096001_67]); (try simp only [hl1096002_67]); (with_reducible repeat (first | refine blk_drewN ?_ _ | refine blk_drew ?_ | refine blk_alloc ?_ _)); exact BK1107.out⟩, ⟨by (try simp only [hl1096000_67]); (try simp only [hl1096001_67]); (try simp only [hl1096002_67]); (with_reducible repeat (first | refine blk_drewN ?_ _ | refine blk_drew ?_ | refine blk_alloc ?_ _)); exact BK1151.out⟩, ⟨bs5 HB GE1061 GE1084 GE1095 GE1107 GE1151⟩⟩
           case rest =>
            clear HC113
            try clear c1
            try clear c2
            try clear p2
            try clear c3
            try clear c3b0
            try clear c4
            try clear c5
            try clear c6
            try clear c7
            try clear c8
            try clear c9
            try clear c10
            try clear c11
            try clear c12
            try clear c13
            try clear c14
            try clear c15
            try clear c23
            try clear c25
            try clear c27
            try clear c29
            try clear c31
            try clear c32
            try clear c33
            try clear c39
            try clear c40
            try clear c41
            try clear c45
            try clear c46
            try clear c47
            try clear c48
            try clear c49
            try clear c51
            try clear c52
            try clear c55
            try clear c56
            try clear c57
            try clear c59
            try clear c60
            try clear c63
            try clear c66
            try clear c75
            try clear c76
            try clear c77
            try clear c80
            try clear c80b0
            try clear c82
            try clear c83
            try clear c84
            try clear c85
            try clear c87
            try clear c88
            try clear c91
            try clear c92
            try clear c93
            try clear c95
            try clear c96
            try clear c99
            try clear c102
            try clear c102b0
            try clear c103
            try clear c104
            try clear c105
            try clear c110
            try clear c110b0
            try clear c110b1
            try clear c114
            try clear c115
            try clear c116
            try clear c121
            try clear c122
            try clear c131
            try clear c132
            try clear c133
            try clear c134
            try clear c139
            try clear c140
            try clear c141
            try clear c142
            try clear c143
            try clear c145
            try clear c146
            try clear c147
            try clear c150
            try clear c151
            try clear c152
            try clear c153
            try clear c155
            try clear c156
            try clear c157
            try clear hcz106_0 hcz106_1 hcz106_2 hcz106_3
            try clear hcz108_0 hcz108_1 hcz108_2 hcz108_3
            try clear hcz117_0 hcz117_1 hcz117_2 hcz117_3
            try clear hcz119_0 hcz119_1 hcz119_2 hcz119_3
            try clear hcz123_0 hcz123_1 hcz123_2 hcz123_3
            try clear hcz135_0 hcz135_1 hcz135_2 hcz135_3
            try clear hcz13_0 hcz13_1 hcz13_2 hcz13_3
            try clear hcz144_0 hcz144_1 hcz144_2 hcz144_3
            try clear hcz148_0 hcz148_1 hcz148_2 hcz148_3
            try clear hcz154_0 hcz154_1 hcz154_2 hcz154_3
            try clear hcz158_0 hcz158_1 hcz158_2 hcz158_3
            try clear hcz15_0 hcz15_1 hcz15_2 hcz15_3
            try clear hcz24_0 hcz24_1 hcz24_2 hcz24_3
            try clear hcz27_0 hcz27_1 hcz27_2 hcz27_3
            try clear hcz33_0 hcz33_1 hcz33_2 hcz33_3
            try clear hcz42_0 hcz42_1 hcz42_2 hcz42_3
            try clear hcz50_0 hcz50_1 hcz50_2 hcz50_3
            try clear hcz53_0 hcz53_1 hcz53_2 hcz53_3
            try clear hcz58_0 hcz58_1 hcz58_2 hcz58_3
            try clear hcz5_0 hcz5_1 hcz5_2 hcz5_3
            try clear hcz61_0 hcz61_1 hcz61_2 hcz61_3
            try clear hcz78_0 hcz78_1 hcz78_2 hcz78_3
            try clear hcz86_0 hcz86_1 hcz86_2 hcz86_3
            try clear hcz89_0 hcz89_1 hcz89_2 hcz89_3
            try clear hcz94_0 hcz94_1 hcz94_2 hcz94_3
            try clear hcz97_0 hcz97_1 hcz97_2 hcz97_3
            try clear hfz106_0 hfz106_1 hfz106_2 hfz106_3
            try clear hfz108_0 hfz108_1 hfz108_2 hfz108_3
            try clear hfz117_0 hfz117_1 hfz117_2 hfz117_3
            try clear hfz119_0 hfz119_1 hfz119_2 hfz119_3
            try clear hfz123_0 hfz123_1 hfz123_2 hfz123_3
            try clear hfz135_0 hfz135_1 hfz135_2 hfz135_3
            try clear hfz13_0 hfz13_1 hfz13_2 hfz13_3
            try clear hfz144_0 hfz144_1 hfz144_2 hfz144_3
            try clear hfz148_0 hfz148_1 hfz148_2 hfz148_3
            try clear hfz154_0 hfz154_1 hfz154_2 hfz154_3
            try clear hfz158_0 hfz158_1 hfz158_2 hfz158_3
            try clear hfz15_0 hfz15_1 hfz15_2 hfz15_3
            try clear hfz24_0 hfz24_1 hfz24_2 hfz24_3
            try clear hfz27_0 hfz27_1 hfz27_2 hfz27_3
            try clear hfz33_0 hfz33_1 hfz33_2 hfz33_3
            try clear hfz42_0 hfz42_1 hfz42_2 hfz42_3
            try clear hfz50_0 hfz50_1 hfz50_2 hfz50_3
            try clear hfz53_0 hfz53_1 hfz53_2 hfz53_3
            try clear hfz58_0 hfz58_1 hfz58_2 hfz58_3
            try clear hfz5_0 hfz5_1 hfz5_2 hfz5_3
            try clear hfz61_0 hfz61_1 hfz61_2 hfz61_3
            try clear hfz78_0 hfz78_1 hfz78_2 hfz78_3
            try clear hfz86_0 hfz86_1 hfz86_2 hfz86_3
            try clear hfz89_0 hfz89_1 hfz89_2 hfz89_3
            try clear hfz94_0 hfz94_1 hfz94_2 hfz94_3
            try clear hfz97_0 hfz97_1 hfz97_2 hfz97_3
            try clear p2
            obtain ⟨kq, x87_112, rfl, HA, HJ112, HO_1085000, HO_1085001, HO_1085002, HO_1096000, HO_1096001, HO_1096002, HO_1108000, HO_1108001, HO_1108002, HO_1152000, HO_1152001, HO_1152002, BK1061, BK1084, BK1095, BK1107, BK1151, HB⟩ := hcut
            have hl1108000_112 := (Kd.R_reads' HO_1108000.out).1
            rw [hl1108000_112] at HO_1108000
            (try simp only [hl1108000_112])
            (try simp only [hl1108000_112] at BK1061)
            (try simp only [hl1108000_112] at BK1084)
            (try simp only [hl1108000_112] at BK1095)
            (try simp only [hl1108000_112] at BK1107)
            (try simp only [hl1108000_112] at BK1151)
            (try simp only [hl1108000_112] at HO_1085000)
            (try simp only [hl1108000_112] at HO_1085001)
            (try simp only [hl1108000_112] at HO_1085002)
            (try simp only [hl1108000_112] at HO_1096000)
            (try simp only [hl1108000_112] at HO_1096001)
            (try simp only [hl1108000_112] at HO_1096002)
            (try simp only [hl1108000_112] at HO_1108001)
            (try simp only [hl1108000_112] at HO_1108002)
            (try simp only [hl1108000_112] at HO_1152000)
            (try simp only [hl1108000_112] at HO_1152001)
            (try simp only [hl1108000_112] at HO_1152002)
            have hl1108001_112 := (Kd.R_reads' HO_1108001.out).1
            rw [hl1108001_112] at HO_1108001
            (try simp only [hl1108001_112])
            (try simp only [hl1108001_112] at BK1061)
            (try simp only [hl1108001_112] at BK1084)
            (try simp only [hl1108001_112] at BK1095)
            (try simp only [hl1108001_112] at BK1107)
            (try simp only [hl1108001_112] at BK1151)
            (try simp only [hl1108001_112] at HO_1085000)
            (try simp only [hl1108001_112] at HO_1085001)
            (try simp only [hl1108001_112] at HO_1085002)
            (try simp only [hl1108001_112] at HO_1096000)
            (try simp only [hl1108001_112] at HO_1096001)
            (try simp only [hl1108001_112] at HO_1096002)
            (try simp only [hl1108001_112] at HO_1108000)
            (try simp only [hl1108001_112] at HO_1108002)
            (try simp only [hl1108001_112] at HO_1152000)
            (try simp only [hl1108001_112] at HO_1152001)
            (try simp only [hl1108001_112] at HO_1152002)
            have hl1108002_112 := (Kd.R_reads' HO_1108002.out).1
            rw [hl1108002_112] at HO_1108002
            (try simp only [hl1108002_112])
            (try simp only [hl1108002_112] at BK1061)
            (try simp only [hl1108002_112] at BK1084)
            (try simp only [hl1108002_112] at BK1095)
            (try simp only [hl1108002_112] at BK1107)
            (try simp only [hl1108002_112] at BK1151)
            (try simp only [hl1108002_112] at HO_1085000)
            (try simp only [hl1108002_112] at HO_1085001)
            (try simp only [hl1108002_112] at HO_1085002)
            (try simp only [hl1108002_112] at HO_1096000)
            (try simp only [hl1108002_112] at HO_1096001)
            (try simp only [hl1108002_112] at HO_1096002)
            (try simp only [hl1108002_112] at HO_1108000)
            (try simp only [hl1108002_112] at HO_1108001)
            (try simp only [hl1108002_112] at HO_1152000)
            (try simp only [hl1108002_112] at HO_1152001)
            (try simp only [hl1108002_112] at HO_1152002)
            cases kq with
            | zero => exact absurd HA.out (by simp [laws_FnExactWriteBack.j2])
            | succ kj112 =>
             have H := HA.out
             clear HA
             simp only [laws_FnExactWriteBack.j2] at H
             by_cases c160 : x87_112 = true
             ·
              subst c160
              rw [if_pos rfl] at H
              obtain rfl := Option.some.inj H
              go_wp2
              go_ret
              exact ⟨by first | rfl | (simp [errW_none, errW_some] <;> rfl) | (simp [*, errW_none, errW_some] <;> rfl), bs5 HB GE1061 GE1084 GE1095 GE1107 GE1151⟩
             ·
              replace c160 := Bool.eq_false_iff.mpr c160
              subst c160
              rw [if_neg (show ¬ (false = true) by decide)] at H
              replace H := Option.bind_eq_some_iff.mp H
              obtain ⟨t1153, A1610, H⟩ := H
              replace H : (if t1153 < 0 then (some false) else (if t1153 = t1125 then (some true) else (some false))) = some r := H
              have A161 := Aside0.mk A1610
              clear A1610
              by_cases c162 : t1153 < 0
              ·
               rw [if_pos c162] at H
               have c162b0 : decide (t1153 < 0) = true := decide_eq_true c162
               clear c162
               obtain rfl := Option.some.inj H
               have hnb163 := NB1107_1061.out
               have hnc163 := NB1061_1107.out
               have hnb164 := NB1107_1084.out
               have hnc164 := NB1084_1107.out
               have hnb165 := NB1107_1095.out
               have hnc165 := NB1095_1107.out
               have hnb166 := NB1107_1151.out
               have hnc166 := NB1151_1107.out
               obtain ⟨hcz167_0, hcz167_1, hcz167_2, hcz167_3⟩ := cz4 BK1107
               obtain ⟨hfz167_0, hfz167_1, hfz167_2, hfz167_3⟩ := fz4 BK1107
               go_wp2_with (first | ((with_reducible refine gate_callee (f := 33) rfl ?_); refine gL (some 90) rfl rfl Try.func33 (by kernel_rfl) rfl #[.agg #[.slice Ao38 t1126.length co38, .slice Ao43 t1127.length co43, .slice Ao44 t1128.length co44, .int .i64 t1105], .int .i64 1] rfl ?_; (with_reducible refine (laws_heldStore.calls kj112 _ _ t1126 _ _ t1127 _ _ t1128 t1105 1 t1153 _ ?side1 ?side2 ?side3 ?side4 ?side5 ?side6 A161.out).mono ?_); (case side1 => exact rc0 HO_1108000); (case side2 => exact (Kd.R_reads' HO_1108000.out).2.1); (case side3 => exact rc0 HO_1108001); (case side4 => exact (Kd.R_reads' HO_1108001.out).2.1); (case side5 => exact rc0 HO_1108002); (case side6 => exact (Kd.R_reads' HO_1108002.out).2.1); rintro e w168 ⟨rfl, hb⟩; refine ⟨_, rfl, ?_⟩; replace HO_1085000 := Aside0.mk (Kd.V_below (by (with_reducible repeat (first | apply Kd.V_alloc | apply Kd.V_drewN | apply Kd.V_drew)); exact HO_1085000.out) hb); replace HO_1085001 := Aside0.mk (Kd.V_below (by (with_reducible repeat (first | apply Kd.V_alloc | apply Kd.V_drewN | apply Kd.V_drew)); exact HO_1085001.out) hb); replace HO_1085002 := nr HO_1085002 hb; replace HO_1096000 := nr HO_1096000 hb; replace HO_1096001 := nr HO_1096001 hb; replace HO_1096002 := nr HO_1096002 hb; replace HO_1108000 := nr HO_1108000 hb; replace HO_1108001 := nr HO_1108001 hb; replace HO_1108002 := nr HO_1108002 hb; replace HO_1152000 := nr HO_1152000 hb; replace HO_1152001 := nr HO_1152001 hb; replace HO_1152002 := nr HO_1152002 hb; replace BK1061 := nb BK1061 hb; replace BK1084 := nb BK1084 hb; replace BK1095 := nb BK1095 hb; replace BK1107 := nb BK1107 hb; replace BK1151 := nb BK1151 hb; replace HB := Aside0.mk (below_step (bs5 HB GE1061 GE1084 GE1095 GE1107 GE1151) hb); (try clear hb); (try clear hb2); (try clear hk); (try clear hi)))
               go_ret
               exact ⟨by first | rfl | (simp [errW_none, errW_some] <;> rfl) | (simp [*, errW_none, errW_some] <;> rfl), bs5 HB GE1061 GE1084 GE1095 GE1107 GE1151⟩
              ·
               rw [if_neg c162] at H
               have c162b0 : decide (t1153 < 0) = false := decide_eq_false c162
               clear c162
               by_cases c169 : t1153 = t1125
               ·
                rw [if_pos c169] at H
                have c169b0 : (t1153 == t1125) = true := beq_iff_eq.mpr c169
                have c169b1 : (t1153 != t1125) = false := bne_eq_false_iff_eq.mpr c169
                clear c169
                obtain rfl := Option.some.inj H
                have hnb170 := NB1107_1061.out
                have hnc170 := NB1061_1107.out
                have hnb171 := NB1107_1084.out
                have hnc171 := NB1084_1107.out
                have hnb172 := NB1107_1095.out
                have hnc172 := NB1095_1107.out
                have hnb173 := NB1107_1151.out
                have hnc173 := NB1151_1107.out
                obtain ⟨hcz174_0, hcz174_1, hcz174_2, hcz174_3⟩ := cz4 BK1107
                obtain ⟨hfz174_0, hfz174_1, hfz174_2, hfz174_3⟩ := fz4 BK1107
                go_wp2_with (first | ((with_reducible refine gate_callee (f := 33) rfl ?_); refine gL (some 90) rfl rfl Try.func33 (by kernel_rfl) rfl #[.agg #[.slice Ao38 t1126.length co38, .slice Ao43 t1127.length co43, .slice Ao44 t1128.length co44, .int .i64 t1105], .int .i64 1] rfl ?_; (with_reducible refine (laws_heldStore.calls kj112 _ _ t1126 _ _ t1127 _ _ t1128 t1105 1 t1153 _ ?side1 ?side2 ?side3 ?side4 ?side5 ?side6 A161.out).mono ?_); (case side1 => exact rc0 HO_1108000); (case side2 => exact (Kd.R_reads' HO_1108000.out).2.1); (case side3 => exact rc0 HO_1108001); (case side4 => exact (Kd.R_reads' HO_1108001.out).2.1); (case side5 => exact rc0 HO_1108002); (case side6 => exact (Kd.R_reads' HO_1108002.out).2.1); rintro e w175 ⟨rfl, hb⟩; refine ⟨_, rfl, ?_⟩; replace HO_1085000 := Aside0.mk (Kd.V_below (by (with_reducible repeat (first | apply Kd.V_alloc | apply Kd.V_drewN | apply Kd.V_drew)); exact HO_1085000.out) hb); replace HO_1085001 := Aside0.mk (Kd.V_below (by (with_reducible repeat (first | apply Kd.V_alloc | apply Kd.V_drewN | apply Kd.V_drew)); exact HO_1085001.out) hb); replace HO_1085002 := nr HO_1085002 hb; replace HO_1096000 := nr HO_1096000 hb; replace HO_1096001 := nr HO_1096001 hb; replace HO_1096002 := nr HO_1096002 hb; replace HO_1108000 := nr HO_1108000 hb; replace HO_1108001 := nr HO_1108001 hb; replace HO_1108002 := nr HO_1108002 hb; replace HO_1152000 := nr HO_1152000 hb; replace HO_1152001 := nr HO_1152001 hb; replace HO_1152002 := nr HO_1152002 hb; replace BK1061 := nb BK1061 hb; replace BK1084 := nb BK1084 hb; replace BK1095 := nb BK1095 hb; replace BK1107 := nb BK1107 hb; replace BK1151 := nb BK1151 hb; replace HB := Aside0.mk (below_step (bs5 HB GE1061 GE1084 GE1095 GE1107 GE1151) hb); (try clear hb); (try clear hb2); (try clear hk); (try clear hi)))
                go_ret
                exact ⟨by first | rfl | (simp [errW_none, errW_some] <;> rfl) | (simp [*, errW_none, errW_some] <;> rfl), bs5 HB GE1061 GE1084 GE1095 GE1107 GE1151⟩
               ·
                rw [if_neg c169] at H
                have c169b0 : (t1153 == t1125) = false := beq_eq_false_iff_ne.mpr c169
                have c169b1 : (t1153 != t1125) = true := bne_iff_ne.mpr c169
                obtain rfl := Option.some.inj H
                have hnb176 := NB1107_1061.out
                have hnc176 := NB1061_1107.out
                have hnb177 := NB1107_1084.out
                have hnc177 := NB1084_1107.out
                have hnb178 := NB1107_1095.out
                have hnc178 := NB1095_1107.out
                have hnb179 := NB1107_1151.out
                have hnc179 := NB1151_1107.out
                obtain ⟨hcz180_0, hcz180_1, hcz180_2, hcz180_3⟩ := cz4 BK1107
                obtain ⟨hfz180_0, hfz180_1, hfz180_2, hfz180_3⟩ := fz4 BK1107
                go_wp2_with (first | ((with_reducible refine gate_callee (f := 33) rfl ?_); refine gL (some 90) rfl rfl Try.func33 (by kernel_rfl) rfl #[.agg #[.slice Ao38 t1126.length co38, .slice Ao43 t1127.length co43, .slice Ao44 t1128.length co44, .int .i64 t1105], .int .i64 1] rfl ?_; (with_reducible refine (laws_heldStore.calls kj112 _ _ t1126 _ _ t1127 _ _ t1128 t1105 1 t1153 _ ?side1 ?side2 ?side3 ?side4 ?side5 ?side6 A161.out).mono ?_); (case side1 => exact rc0 HO_1108000); (case side2 => exact (Kd.R_reads' HO_1108000.out).2.1); (case side3 => exact rc0 HO_1108001); (case side4 => exact (Kd.R_reads' HO_1108001.out).2.1); (case side5 => exact rc0 HO_1108002); (case side6 => exact (Kd.R_reads' HO_1108002.out).2.1); rintro e w181 ⟨rfl, hb⟩; refine ⟨_, rfl, ?_⟩; replace HO_1085000 := Aside0.mk (Kd.V_below (by (with_reducible repeat (first | apply Kd.V_alloc | apply Kd.V_drewN | apply Kd.V_drew)); exact HO_1085000.out) hb); replace HO_1085001 := Aside0.mk (Kd.V_below (by (with_reducible repeat (first | apply Kd.V_alloc | apply Kd.V_drewN | apply Kd.V_drew)); exact HO_1085001.out) hb); replace HO_1085002 := nr HO_1085002 hb; replace HO_1096000 := nr HO_1096000 hb; replace HO_1096001 := nr HO_1096001 hb; replace HO_1096002 := nr HO_1096002 hb; replace HO_1108000 := nr HO_1108000 hb; replace HO_1108001 := nr HO_1108001 hb; replace HO_1108002 := nr HO_1108002 hb; replace HO_1152000 := nr HO_1152000 hb; replace HO_1152001 := nr HO_1152001 hb; replace HO_1152002 := nr HO_1152002 hb; replace BK1061 := nb BK1061 hb; replace BK1084 := nb BK1084 hb; replace BK1095 := nb BK1095 hb; replace BK1107 := nb BK1107 hb; replace BK1151 := nb BK1151 hb; replace HB := Aside0.mk (below_step (bs5 HB GE1061 GE1084 GE1095 GE1107 GE1151) hb); (try clear hb); (try clear hb2); (try clear hk); (try clear hi)))
                go_ret
                exact ⟨by first | rfl | (simp [errW_none, errW_some] <;> rfl) | (simp [*, errW_none, errW_some] <;> rfl), bs5 HB GE1061 GE1084 GE1095 GE1107 GE1151⟩
          ·
           rw [if_neg c110] at H
           have c110b0 : (t1129 == t1125) = false := beq_eq_false_iff_ne.mpr c110
           have c110b1 : (t1129 != t1125) = true := bne_iff_ne.mpr c110
           obtain rfl := Option.some.inj H
           have hnb182 := NB1107_1061.out
           have hnc182 := NB1061_1107.out
           have hnb183 := NB1107_1084.out
           have hnc183 := NB1084_1107.out
           have hnb184 := NB1107_1095.out
           have hnc184 := NB1095_1107.out
           obtain ⟨hcz185_0, hcz185_1, hcz185_2, hcz185_3⟩ := cz4 BK1107
           obtain ⟨hfz185_0, hfz185_1, hfz185_2, hfz185_3⟩ := fz4 BK1107
           go_wp2_with (first | ((with_reducible refine gate_callee (f := 32) rfl ?_); refine gL (some 64) rfl rfl Try.func32 (by kernel_rfl) rfl #[.agg #[.slice Ao38 t1096.length co38, .slice Ao43 t1099.length co43, .slice Ao44 t1102.length co44, .int .i64 t1105], .int .i64 1] rfl ?_; (with_reducible refine (laws_markStore.calls kj67 (fun k_ => some k_ = (.slice Ao38 t1096.length co38 : Value).ownBlock) (.slice Ao38 t1096.length co38) t1096 (fun k_ => some k_ = (.slice Ao43 t1099.length co43 : Value).ownBlock) (.slice Ao43 t1099.length co43) t1099 (fun k_ => some k_ = (.slice Ao44 t1102.length co44 : Value).ownBlock) (.slice Ao44 t1102.length co44) t1102 t1105 1 t1125 t1126 t1127 t1128 w _ ?side1 ?side2 ?side3 ?side4 ?side5 ?side6 A100.out).mono ?_); (case side1 => repeat (first | (with_reducible first | exact HB.out | apply below_alloc | apply pw_below_drewN | apply below_drew1 | refine below_set ?_ GE1061.out | refine below_set ?_ GE1084.out | refine below_set ?_ GE1095.out | refine below_set ?_ GE1107.out) | exact HB.out)); (case side2 => exact Kd.R_tight rfl HO_1108000.out); (case side3 => exact fun k_ e_ => (HO_1108000.out.1 k_ e_.symm).2.2.2); (case side4 => exact Kd.R_tight rfl HO_1108001.out); (case side5 => exact Kd.R_tight rfl HO_1108002.out); (case side6 => exact fun k_ e_ => (HO_1108002.out.1 k_ e_.symm).2.2.2); rintro e w186 ⟨rfl, hy0, hy1, hy2, hb, hkp⟩; refine ⟨_, rfl, ?_⟩; replace HO_1085000 := Aside0.mk (Kd.V_mono (ok' := fun k_ => some k_ ≠ (.slice Ao26 t1079.length co26 : Value).ownBlock ∧ some k_ ≠ (.slice Ao30 t1121.length co30 : Value).ownBlock ∧ some k_ ≠ (.slice Ao34 t1122.length co34 : Value).ownBlock ∧ some k_ ≠ (.slice Ao35 t1123.length co35 : Value).ownBlock ∧ some k_ ≠ (.slice Ao38 t1096.length co38 : Value).ownBlock ∧ some k_ ≠ (.slice Ao43 t1099.length co43 : Value).ownBlock ∧ some k_ ≠ (.slice Ao44 t1102.length co44 : Value).ownBlock ∧ k_ ≠ gb1061 ∧ k_ ≠ gb1084 ∧ k_ ≠ gb1095 ∧ k_ ≠ gb1107) (Kd.V_keptB (HO_1085000.out) hkp (fun k_ hk_ hs_ => Or.elim hs_ (fun e_ => (hk_.2.2.2.2.1) e_) (fun e_ => Or.elim e_ (fun e_ => (hk_.2.2.2.2.2.1) e_) (fun e_ => (hk_.2.2.2.2.2.2.1) e_)))) (fun k_ hk_ => ⟨hk_.1.1, hk_.1.2.1, hk_.1.2.2.1, hk_.1.2.2.2.1, hk_.1.2.2.2.2.1, hk_.1.2.2.2.2.2.1, hk_.1.2.2.2.2.2.2.1, hk_.1.2.2.2.2.2.2.2.1, hk_.1.2.2.2.2.2.2.2.2.1, hk_.1.2.2.2.2.2.2.2.2.2.1, hk_.1.2.2.2.2.2.2.2.2.2.2⟩)); replace HO_1085001 := Aside0.mk (Kd.V_mono (ok' := fun k_ => some k_ ≠ (.slice Ao26 t1079.length co26 : Value).ownBlock ∧ some k_ ≠ (.slice Ao30 t1121.length co30 : Value).ownBlock ∧ some k_ ≠ (.slice Ao34 t1122.length co34 : Value).ownBlock ∧ some k_ ≠ (.slice Ao35 t1123.length co35 : Value).ownBlock ∧ some k_ ≠ (.slice Ao38 t1096.length co38 : Value).ownBlock ∧ some k_ ≠ (.slice Ao43 t1099.length co43 : Value).ownBlock ∧ some k_ ≠ (.slice Ao44 t1102.length co44 : Value).ownBlock ∧ k_ ≠ gb1061 ∧ k_ ≠ gb1084 ∧ k_ ≠ gb1095 ∧ k_ ≠ gb1107) (Kd.V_keptB (HO_1085001.out) hkp (fun k_ hk_ hs_ => Or.elim hs_ (fun e_ => (hk_.2.2.2.2.1) e_) (fun e_ => Or.elim e_ (fun e_ => (hk_.2.2.2.2.2.1) e_) (fun e_ => (hk_.2.2.2.2.2.2.1) e_)))) (fun k_ hk_ => ⟨hk_.1.1, hk_.1.2.1, hk_.1.2.2.1, hk_.1.2.2.2.1, hk_.1.2.2.2.2.1, hk_.1.2.2.2.2.2.1, hk_.1.2.2.2.2.2.2.1, hk_.1.2.2.2.2.2.2.2.1, hk_.1.2.2.2.2.2.2.2.2.1, hk_.1.2.2.2.2.2.2.2.2.2.1, hk_.1.2.2.2.2.2.2.2.2.2.2⟩)); replace HO_1085002 := Aside0.mk (Kd.R_mono (ok' := fun k_ => some k_ ≠ (.slice Ao30 t1121.length co30 : Value).ownBlock ∧ some k_ ≠ (.slice Ao35 t1123.length co35 : Value).ownBlock ∧ some k_ ≠ (.slice Ao38 t1096.length co38 : Value).ownBlock ∧ some k_ ≠ (.slice Ao44 t1102.length co44 : Value).ownBlock) (Kd.R_keptB ((Kd.R_apart' HO_1085002.out (Kd.R_typed HO_1108001.out) (by decide))) hkp (fun k_ hk_ hs_ => Or.elim hs_ (fun e_ => (hk_.1.2.2.1) e_) (fun e_ => Or.elim e_ (fun e_ => (hk_.2) e_) (fun e_ => (hk_.1.2.2.2) e_)))) (fun k_ hk_ => ⟨hk_.1.1.1, hk_.1.1.2.1, hk_.1.1.2.2.1, hk_.1.1.2.2.2⟩)); replace HO_1096000 := Aside0.mk (Kd.R_mono (ok' := fun k_ => some k_ ≠ (.slice Ao26 t1079.length co26 : Value).ownBlock ∧ some k_ ≠ (.slice Ao35 t1123.length co35 : Value).ownBlock ∧ some k_ ≠ (.slice Ao38 t1096.length co38 : Value).ownBlock ∧ some k_ ≠ (.slice Ao44 t1102.length co44 : Value).ownBlock) (Kd.R_keptB ((Kd.R_apart' HO_1096000.out (Kd.R_typed HO_1108001.out) (by decide))) hkp (fun k_ hk_ hs_ => Or.elim hs_ (fun e_ => (hk_.1.2.2.1) e_) (fun e_ => Or.elim e_ (fun e_ => (hk_.2) e_) (fun e_ => (hk_.1.2.2.2) e_)))) (fun k_ hk_ => ⟨hk_.1.1.1, hk_.1.1.2.1, hk_.1.1.2.2.1, hk_.1.1.2.2.2⟩)); replace HO_1096001 := Aside0.mk (Kd.R_mono (ok' := fun k_ => some k_ ≠ (.slice Ao43 t1099.length co43 : Value).ownBlock) (Kd.R_keptB ((Kd.R_apart' (Kd.R_apart' HO_1096001.out (Kd.R_typed HO_1108000.out) (by decide)) (Kd.R_typed HO_1108002.out) (by decide))) hkp (fun k_ hk_ hs_ => Or.elim hs_ (fun e_ => (hk_.1.2) e_) (fun e_ => Or.elim e_ (fun e_ => (hk_.1.1) e_) (fun e_ => (hk_.2) e_)))) (fun k_ hk_ => hk_.1.1.1)); replace HO_1096002 := Aside0.mk (Kd.R_mono (ok' := fun k_ => some k_ ≠ (.slice Ao26 t1079.length co26 : Value).ownBlock ∧ some k_ ≠ (.slice Ao30 t1121.length co30 : Value).ownBlock ∧ some k_ ≠ (.slice Ao38 t1096.length co38 : Value).ownBlock ∧ some k_ ≠ (.slice Ao44 t1102.length co44 : Value).ownBlock) (Kd.R_keptB ((Kd.R_apart' HO_1096002.out (Kd.R_typed HO_1108001.out) (by decide))) hkp (fun k_ hk_ hs_ => Or.elim hs_ (fun e_ => (hk_.1.2.2.1) e_) (fun e_ => Or.elim e_ (fun e_ => (hk_.2) e_) (fun e_ => (hk_.1.2.2.2) e_)))) (fun k_ hk_ => ⟨hk_.1.1.1, hk_.1.1.2.1, hk_.1.1.2.2.1, hk_.1.1.2.2.2⟩)); replace BK1061 := Aside0.mk (blk_kept (bk BK1061) hkp (fun hs_ => Or.elim hs_ (fun e_ => (fun e_ => (Kd.R_ne HO_1108000.out BK1061.out (by decide)) e_) e_) (fun e_ => Or.elim e_ (fun e_ => (fun e_ => (Kd.R_ne HO_1108001.out BK1061.out (by decide)) e_) e_) (fun e_ => (fun e_ => (Kd.R_ne HO_1108002.out BK1061.out (by decide)) e_) e_)))); replace BK1084 := Aside0.mk (blk_kept (bk BK1084) hkp (fun hs_ => Or.elim hs_ (fun e_ => (fun e_ => (Kd.R_ne HO_1108000.out BK1084.out (by decide)) e_) e_) (fun e_ => Or.elim e_ (fun e_ => (fun e_ => (Kd.R_ne HO_1108001.out BK1084.out (by decide)) e_) e_) (fun e_ => (fun e_ => (Kd.R_ne HO_1108002.out BK1084.out (by decide)) e_) e_)))); replace BK1095 := Aside0.mk (blk_kept (bk BK1095) hkp (fun hs_ => Or.elim hs_ (fun e_ => (fun e_ => (Kd.R_ne HO_1108000.out BK1095.out (by decide)) e_) e_) (fun e_ => Or.elim e_ (fun e_ => (fun e_ => (Kd.R_ne HO_1108001.out BK1095.out (by decide)) e_) e_) (fun e_ => (fun e_ => (Kd.R_ne HO_1108002.out BK1095.out (by decide)) e_) e_)))); replace BK1107 := Aside0.mk (blk_kept (bk BK1107) hkp (fun hs_ => Or.elim hs_ (fun e_ => (fun e_ => (Kd.R_ne HO_1108000.out BK1107.out (by decide)) e_) e_) (fun e_ => Or.elim e_ (fun e_ => (fun e_ => (Kd.R_ne HO_1108001.out BK1107.out (by decide)) e_) e_) (fun e_ => (fun e_ => (Kd.R_ne HO_1108002.out BK1107.out (by decide)) e_) e_)))); replace HO_1108000 := Aside0.mk (Kd.R_reok rfl hy0 (fun k_ e_ => HO_1108000.out.1 k_ e_)); replace HO_1108001 := Aside0.mk (Kd.R_reok rfl hy1 (fun k_ e_ => HO_1108001.out.1 k_ e_)); replace HO_1108002 := Aside0.mk (Kd.R_reok rfl hy2 (fun k_ e_ => HO_1108002.out.1 k_ e_)); replace HB := Aside0.mk (hb); (try clear hb); (try clear hkp); (try clear hy0); (try clear hy1); (try clear hy2); obtain ⟨hcz187_0, hcz187_1, hcz187_2, hcz187_3⟩ := cz4 BK1107; obtain ⟨hfz187_0, hfz187_1, hfz187_2, hfz187_3⟩ := fz4 BK1107) | ((with_reducible refine gate_callee (f := 33) rfl ?_); refine goesL_ (some 67) rfl rfl Try.func33 (by kernel_rfl) rfl #[.agg #[.slice Ao38 t1126.length co38, .slice Ao43 t1127.length co43, .slice Ao44 t1128.length co44, .int .i64 t1105], .int .i64 1] rfl (by (try simp only [List.map_toArray, List.map_cons, List.map_nil]); first | done | (rw [show t1126.length = t1096.length from (Kd.R_reads' HO_1108000.out).1.symm, show t1127.length = t1099.length from (Kd.R_reads' HO_1108001.out).1.symm, show t1128.length = t1102.length from (Kd.R_reads' HO_1108002.out).1.symm] <;> rfl) | rfl | (simp only [List.length_drop, List.length_take]; rfl)) ?_; (with_reducible refine (laws_heldStore.calls kj67 _ _ t1126 _ _ t1127 _ _ t1128 t1105 1 t1129 _ ?side1 ?side2 ?side3 ?side4 ?side5 ?side6 A101.out).mono ?_); (case side1 => exact rc0 HO_1108000); (case side2 => rw [show t1126.length = t1096.length from (Kd.R_reads' HO_1108000.out).1.symm]; exact (Kd.R_reads' HO_1108000.out).2.1); (case side3 => exact rc0 HO_1108001); (case side4 => rw [show t1127.length = t1099.length from (Kd.R_reads' HO_1108001.out).1.symm]; exact (Kd.R_reads' HO_1108001.out).2.1); (case side5 => exact rc0 HO_1108002); (case side6 => rw [show t1128.length = t1102.length from (Kd.R_reads' HO_1108002.out).1.symm]; exact (Kd.R_reads' HO_1108002.out).2.1); rintro e w188 ⟨rfl, hb⟩; refine ⟨_, rfl, ?_⟩; replace HO_1085000 := Aside0.mk (Kd.V_below (by (with_reducible repeat (first | apply Kd.V_alloc | apply Kd.V_drewN | apply Kd.V_drew)); exact HO_1085000.out) hb); replace HO_1085001 := Aside0.mk (Kd.V_below (by (with_reducible repeat (first | apply Kd.V_alloc | apply Kd.V_drewN | apply Kd.V_drew)); exact HO_1085001.out) hb); replace HO_1085002 := nr HO_1085002 hb; replace HO_1096000 := nr HO_1096000 hb; replace HO_1096001 := nr HO_1096001 hb; replace HO_1096002 := nr HO_1096002 hb; replace HO_1108000 := nr HO_1108000 hb; replace HO_1108001 := nr HO_1108001 hb; replace HO_1108002 := nr HO_1108002 hb; replace BK1061 := nb BK1061 hb; replace BK1084 := nb BK1084 hb; replace BK1095 := nb BK1095 hb; replace BK1107 := nb BK1107 hb; replace HB := Aside0.mk (below_step (bs4 HB GE1061 GE1084 GE1095 GE1107) hb); (try clear hb); (try clear hb2); (try clear hk); (try clear hi)))
           go_ret
           exact ⟨by first | rfl | (simp [errW_none, errW_some] <;> rfl) | (simp [*, errW_none, errW_some] <;> rfl), bs4 HB GE1061 GE1084 GE1095 GE1107⟩
     ·
      replace c66 := Bool.eq_false_iff.mpr c66
      subst c66
      rw [if_neg (show ¬ (false = true) by decide)] at H
      obtain rfl := Option.some.inj H
      try go_wp2
      have n0_ := Aside0.mk (Kd.V_drew HO_1085000.out)
      have n1_ := Aside0.mk (Kd.V_drew HO_1085001.out)
      have n2_ := Aside0.mk (Kd.R_drew HO_1085002.out)
      have n3_ := Aside0.mk (Kd.R_drew HO_1096000.out)
      have n4_ := Aside0.mk (Kd.R_drew HO_1096001.out)
      have n5_ := Aside0.mk (Kd.R_drew HO_1096002.out)
      have n6_ := Aside0.mk (Kd.R_drew HO_1108000.out)
      have n7_ := Aside0.mk (Kd.R_drew HO_1108001.out)
      have n8_ := Aside0.mk (Kd.R_drew HO_1108002.out)
      have n9_ := Aside0.mk (blk_drew BK1061.out)
      have n10_ := Aside0.mk (blk_drew BK1084.out)
      have n11_ := Aside0.mk (blk_drew BK1095.out)
      have n12_ := Aside0.mk (blk_drew BK1107.out)
      have n13_ := Aside0.mk (below_drew1 HB.out)
      clear HO_1085000
      clear HO_1085001
      clear HO_1085002
      clear HO_1096000
      clear HO_1096001
      clear HO_1096002
      clear HO_1108000
      clear HO_1108001
      clear HO_1108002
      clear BK1061
      clear BK1084
      clear BK1095
      clear BK1107
      clear HB
      have HO_1085000 := n0_
      have HO_1085001 := n1_
      have HO_1085002 := n2_
      have HO_1096000 := n3_
      have HO_1096001 := n4_
      have HO_1096002 := n5_
      have HO_1108000 := n6_
      have HO_1108001 := n7_
      have HO_1108002 := n8_
      have BK1061 := n9_
      have BK1084 := n10_
      have BK1095 := n11_
      have BK1107 := n12_
      have HB := n13_
      clear n0_ n1_ n2_ n3_ n4_ n5_ n6_ n7_ n8_ n9_ n10_ n11_ n12_ n13_
      refine start_ (n := 5) (S := fun w' => w'.cell? ⟨gb1095, 0, none⟩ = some (.slice Ao30 t1085.length co30) ∧ w'.cell? ⟨gb1095, 1, none⟩ = some (.slice Ao34 t1088.length co34) ∧ w'.cell? ⟨gb1095, 2, none⟩ = some (.slice Ao35 t1091.length co35) ∧ w'.cell? ⟨gb1095, 3, none⟩ = some (.int .i64 t1094) ∧ w'.cell? ⟨gb1061, 0, none⟩ = some (.slice A0_0 l0_0.length c0_0) ∧ w'.cell? ⟨gb1061, 1, none⟩ = some (.slice A0_1 l0_1.length c0_1) ∧ w'.cell? ⟨gb1061, 2, none⟩ = some (.slice A0_2 l0_2.length c0_2) ∧ w'.cell? ⟨gb1061, 3, none⟩ = some (.int .i64 a0_3)) (ds := []) #[false, false, false, false, false] (by kernel_rfl) rfl rfl ⟨(blk_cell BK1095.out 0).trans rfl, (blk_cell BK1095.out 1).trans rfl, (blk_cell BK1095.out 2).trans rfl, (blk_cell BK1095.out 3).trans rfl, (blk_cell BK1061.out 0).trans rfl, (blk_cell BK1061.out 1).trans rfl, (blk_cell BK1061.out 2).trans rfl, (blk_cell BK1061.out 3).trans rfl⟩ (fun hHeld => ?_)
      generalize wc.drew = w189 at HO_1085000 HO_1085001 HO_1085002 HO_1096000 HO_1096001 HO_1096002 HO_1108000 HO_1108001 HO_1108002 BK1061 BK1084 BK1095 BK1107 HB hHeld ⊢
      refine take_ (i := 0) (N := some 41) (v := ?_) (a' := ?_) #[true, false, false, false, false] rfl rfl (by kernel_rfl) (fun _ _ _ h => h) (Or.inl ⟨by rfl, ?_⟩) hHeld ?_ ?_
      rotate_left
      ·
       rintro w' ⟨s0, s1, s2, s3, s4, s5, s6, s7⟩
       go_simp
       with_reducible rfl
      rotate_left
      ·
       simp only [Act.put, List.setIfInBounds_toArray, List.set_cons_zero, List.set_cons_succ, i64_w, i32_w]
       rfl
      refine take_ (i := 1) (N := some 42) (v := ?_) (a' := ?_) #[true, true, false, false, false] rfl rfl (by kernel_rfl) (fun _ _ _ h => h) (Or.inl ⟨by rfl, ?_⟩) hHeld ?_ ?_
      rotate_left
      ·
       rintro w' ⟨s0, s1, s2, s3, s4, s5, s6, s7⟩
       go_simp
       with_reducible rfl
      rotate_left
      ·
       simp only [Act.put, List.setIfInBounds_toArray, List.set_cons_zero, List.set_cons_succ, i64_w, i32_w]
       rfl
      refine one_ (i := 2) (N := some 43) #[true, true, true, false, false] rfl rfl (by kernel_rfl) (by decide) (fun K hK => ?_)
      refine goes_ Try.func27 (by kernel_rfl) rfl #[.agg #[.slice A0_0 l0_0.length c0_0, .slice A0_1 l0_1.length c0_1, .slice A0_2 l0_2.length c0_2, .int .i64 a0_3]] (by rfl) rfl rfl (by (try simp only [List.map_toArray, List.map_cons, List.map_nil]); first | done | rfl | (simp only [List.length_drop, List.length_take]; rfl)) ?_
      with_reducible refine (laws_toStore.calls kj10 _ _ l0_0 _ _ l0_1 _ _ l0_2 a0_3 t1109 t1112 t1115 t1118 _ ?side1 ?side2 ?side3 ?side4 ?side5 ?side6 A64.out).mono ?_
      (case side1 => exact cb HR0_0 HB)
      (case side2 => exact HC0_0.out)
      (case side3 => exact cb HR0_1 HB)
      (case side4 => exact HC0_1.out)
      (case side5 => exact cb HR0_2 HB)
      (case side6 => exact HC0_2.out)
      rintro e w190 ⟨v1110, v1113, v1116, rfl, ho0, ho1, ho2, hb⟩
      refine ⟨_, rfl, ?_⟩
      have n0_ := Aside0.mk (Kd.V_mono (Kd.V_told (Kd.V_told (Kd.V_told (Kd.V_old (by (with_reducible repeat (first | apply Kd.V_alloc | apply Kd.V_drewN | apply Kd.V_drew)); exact HO_1085000.out) hb) (Kd.R_base ho0)) (Kd.R_base ho1)) (Kd.R_base ho2)) (fun _ h_ => h_.1))
      have n1_ := Aside0.mk (Kd.V_mono (Kd.V_told (Kd.V_told (Kd.V_told (Kd.V_old (by (with_reducible repeat (first | apply Kd.V_alloc | apply Kd.V_drewN | apply Kd.V_drew)); exact HO_1085001.out) hb) (Kd.R_base ho0)) (Kd.R_base ho1)) (Kd.R_base ho2)) (fun _ h_ => h_.1))
      have n2_ := Aside0.mk (Kd.R_mono (Kd.R_told (Kd.R_told (Kd.R_old (rr HO_1085002.out) hb) (Kd.R_base ho0)) (Kd.R_base ho2)) (fun _ h_ => h_.1))
      have n3_ := Aside0.mk (Kd.R_mono (Kd.R_told (Kd.R_told (Kd.R_old (rr HO_1096000.out) hb) (Kd.R_base ho0)) (Kd.R_base ho2)) (fun _ h_ => h_.1))
      have n4_ := Aside0.mk (Kd.R_elder' (rr HO_1096001.out) (Kd.R_base ho1) hb)
      have n5_ := Aside0.mk (Kd.R_mono (Kd.R_told (Kd.R_told (Kd.R_old (rr HO_1096002.out) hb) (Kd.R_base ho0)) (Kd.R_base ho2)) (fun _ h_ => h_.1))
      have n6_ := Aside0.mk (Kd.R_mono (Kd.R_told (Kd.R_told (Kd.R_old (rr HO_1108000.out) hb) (Kd.R_base ho0)) (Kd.R_base ho2)) (fun _ h_ => h_.1))
      have n7_ := Aside0.mk (Kd.R_elder' (rr HO_1108001.out) (Kd.R_base ho1) hb)
      have n8_ := Aside0.mk (Kd.R_mono (Kd.R_told (Kd.R_told (Kd.R_old (rr HO_1108002.out) hb) (Kd.R_base ho0)) (Kd.R_base ho2)) (fun _ h_ => h_.1))
      have n9_ := Aside0.mk (Kd.R_lower (Kd.R_new' (Kd.R_new' (Kd.R_new' (Kd.R_new' (Kd.R_new' ho0 (Kd.R_lt (rr HO_1085002.out))) (Kd.R_lt (rr HO_1096000.out))) (Kd.R_lt (rr HO_1096002.out))) (Kd.R_lt (rr HO_1108000.out))) (Kd.R_lt (rr HO_1108002.out))) (below_size (bs4 HB GE1061 GE1084 GE1095 GE1107)))
      have n10_ := Aside0.mk (Kd.R_lower (Kd.R_new' (Kd.R_new' ho1 (Kd.R_lt (rr HO_1096001.out))) (Kd.R_lt (rr HO_1108001.out))) (below_size (bs4 HB GE1061 GE1084 GE1095 GE1107)))
      have n11_ := Aside0.mk (Kd.R_lower (Kd.R_new' (Kd.R_new' (Kd.R_new' (Kd.R_new' (Kd.R_new' ho2 (Kd.R_lt (rr HO_1085002.out))) (Kd.R_lt (rr HO_1096000.out))) (Kd.R_lt (rr HO_1096002.out))) (Kd.R_lt (rr HO_1108000.out))) (Kd.R_lt (rr HO_1108002.out))) (below_size (bs4 HB GE1061 GE1084 GE1095 GE1107)))
      have n12_ := Aside0.mk (bb BK1061 hb)
      have n13_ := Aside0.mk (bb BK1084 hb)
      have n14_ := Aside0.mk (bb BK1095 hb)
      have n15_ := Aside0.mk (bb BK1107 hb)
      have n16_ := Aside0.mk (below_step (bs4 HB GE1061 GE1084 GE1095 GE1107) hb)
      clear HO_1085000
      clear HO_1085001
      clear HO_1085002
      clear HO_1096000
      clear HO_1096001
      clear HO_1096002
      clear HO_1108000
      clear HO_1108001
      clear HO_1108002
      clear BK1061
      clear BK1084
      clear BK1095
      clear BK1107
      clear HB
      have HO_1085000 := n0_
      have HO_1085001 := n1_
      have HO_1085002 := n2_
      have HO_1096000 := n3_
      have HO_1096001 := n4_
      have HO_1096002 := n5_
      have HO_1108000 := n6_
      have HO_1108001 := n7_
      have HO_1108002 := n8_
      have HO1111 := n9_
      have HO1114 := n10_
      have HO1117 := n11_
      have BK1061 := n12_
      have BK1084 := n13_
      have BK1095 := n14_
      have BK1107 := n15_
      have HB := n16_
      clear n0_ n1_ n2_ n3_ n4_ n5_ n6_ n7_ n8_ n9_ n10_ n11_ n12_ n13_ n14_ n15_ n16_
      (try clear hb)
      (try clear hb2)
      (try clear hk)
      (try clear hi)
      (try clear ho0)
      (try clear ho1)
      (try clear ho2)
      obtain ⟨Ao191, co191, eo191⟩ := Kd.R_slice HO1111.out
      (first | subst eo191 | (injection eo191 with f1_ f2_ f3_; have f4_ := f1_.symm; have f5_ := f3_.symm; clear f1_ f2_ f3_; subst f4_; subst f5_))
      obtain ⟨Ao192, co192, eo192⟩ := Kd.R_slice HO1114.out
      (first | subst eo192 | (injection eo192 with f1_ f2_ f3_; have f4_ := f1_.symm; have f5_ := f3_.symm; clear f1_ f2_ f3_; subst f4_; subst f5_))
      obtain ⟨Ao193, co193, eo193⟩ := Kd.R_slice HO1117.out
      (first | subst eo193 | (injection eo193 with f1_ f2_ f3_; have f4_ := f1_.symm; have f5_ := f3_.symm; clear f1_ f2_ f3_; subst f4_; subst f5_))
      refine hK.out _ _ ⟨(blk_cell BK1095.out 0).trans rfl, (blk_cell BK1095.out 1).trans rfl, (blk_cell BK1095.out 2).trans rfl, (blk_cell BK1095.out 3).trans rfl, (blk_cell BK1061.out 0).trans rfl, (blk_cell BK1061.out 1).trans rfl, (blk_cell BK1061.out 2).trans rfl, (blk_cell BK1061.out 3).trans rfl⟩ (fun hHeld => ?_)
      clear hK K
      refine norm_ (a' := ?_) ?_ ?_
      rotate_left
      ·
       show Act.put _ (some 43) _ = _
       simp only [Act.put, List.setIfInBounds_toArray, List.set_cons_zero, List.set_cons_succ, i64_w, i32_w]
       rfl
      refine one_ (i := 3) (N := some 44) #[true, true, true, true, false] rfl rfl (by kernel_rfl) (by decide) (fun K hK => ?_)
      refine goes_ Try.func29 (by kernel_rfl) rfl #[.agg #[.slice Ao30 t1085.length co30, .slice Ao34 t1088.length co34, .slice Ao35 t1091.length co35, .int .i64 t1094], .agg #[.slice Ao191 t1109.length co191, .slice Ao192 t1112.length co192, .slice Ao193 t1115.length co193, .int .i64 t1118]] (by rfl) rfl rfl (by (try simp only [List.map_toArray, List.map_cons, List.map_nil]); first | done | rfl | (simp only [List.length_drop, List.length_take]; rfl)) ?_
      with_reducible refine (laws_eqStore.calls kj10 _ _ t1085 _ _ t1088 _ _ t1091 t1094 _ _ t1109 _ _ t1112 _ _ t1115 t1118 false _ ?side1 ?side2 ?side3 ?side4 ?side5 ?side6 ?side7 ?side8 ?side9 ?side10 ?side11 ?side12 A65.out).mono ?_
      (case side1 => exact rc0 HO_1096000)
      (case side2 => exact (Kd.R_reads' HO_1096000.out).2.1)
      (case side3 => exact rc0 HO_1096001)
      (case side4 => exact (Kd.R_reads' HO_1096001.out).2.1)
      (case side5 => exact rc0 HO_1096002)
      (case side6 => exact (Kd.R_reads' HO_1096002.out).2.1)
      (case side7 => exact rc0 HO1111)
      (case side8 => exact (Kd.R_reads' HO1111.out).2.1)
      (case side9 => exact rc0 HO1114)
      (case side10 => exact (Kd.R_reads' HO1114.out).2.1)
      (case side11 => exact rc0 HO1117)
      (case side12 => exact (Kd.R_reads' HO1117.out).2.1)
      rintro e w194 ⟨rfl, hb⟩
      refine ⟨_, rfl, ?_⟩
      have n0_ := Aside0.mk (Kd.V_below (by (with_reducible repeat (first | apply Kd.V_alloc | apply Kd.V_drewN | apply Kd.V_drew)); exact HO_1085000.out) hb)
      have n1_ := Aside0.mk (Kd.V_below (by (with_reducible repeat (first | apply Kd.V_alloc | apply Kd.V_drewN | apply Kd.V_drew)); exact HO_1085001.out) hb)
      have n2_ := Aside0.mk (Kd.R_below (rr HO_1085002.out) hb)
      have n3_ := Aside0.mk (Kd.R_below (rr HO_1096000.out) hb)
      have n4_ := Aside0.mk (Kd.R_below (rr HO_1096001.out) hb)
      have n5_ := Aside0.mk (Kd.R_below (rr HO_1096002.out) hb)
      have n6_ := Aside0.mk (Kd.R_below (rr HO_1108000.out) hb)
      have n7_ := Aside0.mk (Kd.R_below (rr HO_1108001.out) hb)
      have n8_ := Aside0.mk (Kd.R_below (rr HO_1108002.out) hb)
      have n9_ := Aside0.mk (Kd.R_below (rr HO1111.out) hb)
      have n10_ := Aside0.mk (Kd.R_below (rr HO1114.out) hb)
      have n11_ := Aside0.mk (Kd.R_below (rr HO1117.out) hb)
      have n12_ := Aside0.mk (bb BK1061 hb)
      have n13_ := Aside0.mk (bb BK1084 hb)
      have n14_ := Aside0.mk (bb BK1095 hb)
      have n15_ := Aside0.mk (bb BK1107 hb)
      have n16_ := Aside0.mk (below_step (bs4 HB GE1061 GE1084 GE1095 GE1107) hb)
      clear HO_1085000
      clear HO_1085001
      clear HO_1085002
      clear HO_1096000
      clear HO_1096001
      clear HO_1096002
      clear HO_1108000
      clear HO_1108001
      clear HO_1108002
      clear HO1111
      clear HO1114
      clear HO1117
      clear BK1061
      clear BK1084
      clear BK1095
      clear BK1107
      clear HB
      have HO_1085000 := n0_
      have HO_1085001 := n1_
      have HO_1085002 := n2_
      have HO_1096000 := n3_
      have HO_1096001 := n4_
      have HO_1096002 := n5_
      have HO_1108000 := n6_
      have HO_1108001 := n7_
      have HO_1108002 := n8_
      have HO1111 := n9_
      have HO1114 := n10_
      have HO1117 := n11_
      have BK1061 := n12_
      have BK1084 := n13_
      have BK1095 := n14_
      have BK1107 := n15_
      have HB := n16_
      clear n0_ n1_ n2_ n3_ n4_ n5_ n6_ n7_ n8_ n9_ n10_ n11_ n12_ n13_ n14_ n15_ n16_
      (try clear hb)
      (try clear hb2)
      (try clear hk)
      (try clear hi)
      refine hK.out _ _ ⟨(blk_cell BK1095.out 0).trans rfl, (blk_cell BK1095.out 1).trans rfl, (blk_cell BK1095.out 2).trans rfl, (blk_cell BK1095.out 3).trans rfl, (blk_cell BK1061.out 0).trans rfl, (blk_cell BK1061.out 1).trans rfl, (blk_cell BK1061.out 2).trans rfl, (blk_cell BK1061.out 3).trans rfl⟩ (fun hHeld => ?_)
      clear hK K
      refine norm_ (a' := ?_) ?_ ?_
      rotate_left
      ·
       show Act.put _ (some 44) _ = _
       simp only [Act.put, List.setIfInBounds_toArray, List.set_cons_zero, List.set_cons_succ, i64_w, i32_w]
       rfl
      refine pure_ (i := 4) (N := some 45) (v := ?_) (a' := ?_) #[true, true, true, true, true] rfl rfl (by kernel_rfl) (fun _ _ _ h => h) (Or.inl ⟨by rfl, ?_⟩) ?_ ?_
      rotate_left
      ·
       intro w'
       go_simp
       with_reducible rfl
      rotate_left
      ·
       simp only [Act.put, List.setIfInBounds_toArray, List.set_cons_zero, List.set_cons_succ, i64_w, i32_w]
       rfl
      refine done_ (by kernel_rfl) ?_
      try go_wp2
      go_ret
      exact ⟨by first | rfl | (simp [errW_none, errW_some] <;> rfl) | (simp [*, errW_none, errW_some] <;> rfl), bs4 HB GE1061 GE1084 GE1095 GE1107⟩

/-- THE ONE PURE STATEMENT of laws_FnExactWriteBack. -/
def laws_FnExactWriteBack.Pure : Prop := ∀ (l0_0 : List ByteArray) (l0_1 : List (S76)) (l0_2 : List ByteArray) (a0_3 : Int), ok38 (⟨(⟨l0_0, l0_1⟩ : S36), l0_2, a0_3⟩ : S38) → ∃ k, laws_FnExactWriteBack.f k l0_0 l0_1 l0_2 a0_3 = some true

end Go.Proofs.Ytcdkgenfggdpaaa.G
