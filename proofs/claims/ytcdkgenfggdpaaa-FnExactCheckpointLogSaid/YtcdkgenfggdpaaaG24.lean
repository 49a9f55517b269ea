-- Printed by a program of this session (drive.py, by way of the kit's print). Not trusted: Lean checks it.
import Derived.Test.YtcdkgenfggdpaaaG0
import Derived.Test.YtcdkgenfggdpaaaG6
import Derived.Test.YtcdkgenfggdpaaaG7
import Derived.Test.YtcdkgenfggdpaaaG9
import Derived.Test.YtcdkgenfggdpaaaG10
import Derived.Test.YtcdkgenfggdpaaaG23
namespace Go.Proofs.Ytcdkgenfggdpaaa.G
open Go.RowKit Go.Proofs.YtcdkgenfggdpaaaW.PrintWords Go.Proofs.YtcdkgenfggdpaaaW.PrintLast Go.Proofs.YtcdkgenfggdpaaaW.PrintMore
attribute [local go_sem] max2_int min2_int max_two min_two max_three min_three max_four min_four   -- for this text's walks alone
set_option linter.unusedVariables false
set_option linter.unusedSimpArgs false

/-! ### laws_FnExactCheckpointLog: function 12 -/
mutual
def laws_FnExactCheckpointLog.j0 : Nat → Bool → Bool → Bool → List ByteArray → List (S76) → List ByteArray → Int → List ByteArray → List (S72) → List ByteArray → Int → List ByteArray → List (S72) → List ByteArray → Int → List ByteArray → List (S72) → List ByteArray → Int → Option (Bool)
 | 0, _, _, _, _, _, _, _, _, _, _, _, _, _, _, _, _, _, _, _ => none
 | k + 1, x5, x8, x40, x1118000, x1118001, x1118002, x1118003, x1141000, x1141001, x1141002, x1141003, x1152000, x1152001, x1152002, x1152003, x1164000, x1164001, x1164002, x1164003 => if x40 = true then (some false) else ((laws_toStore.f k x1118000 x1118001 x1118002 x1118003).bind fun bt1165 => ((laws_eqStore.f k x1152000 x1152001 x1152002 x1152003 bt1165.1 bt1165.2.1 bt1165.2.2.1 bt1165.2.2.2).bind fun t1175 => (if t1175 = true then ((laws_markStore.f k x1152000 x1152001 x1152002 x1152003 1).bind fun bt1176 => (if bt1176.1 < 0 then (laws_FnExactCheckpointLog.j1 k x5 true x1118000 x1118001 x1118002 x1118003 x1141000 x1141001 x1141002 x1141003 x1164000 x1164001 x1164002 x1164003) else ((laws_eqStore.f k x1164000 x1164001 x1164002 x1164003 x1141000 x1141001 x1141002 x1141003).bind fun t1180 => (if t1180 = true then (laws_FnExactCheckpointLog.j1 k x5 (x8 != x5) x1118000 x1118001 x1118002 x1118003 x1141000 x1141001 x1141002 x1141003 x1164000 x1164001 x1164002 x1164003) else (laws_FnExactCheckpointLog.j1 k x5 true x1118000 x1118001 x1118002 x1118003 x1141000 x1141001 x1141002 x1141003 x1164000 x1164001 x1164002 x1164003))))) else (some false))))
def laws_FnExactCheckpointLog.j1 : Nat → Bool → Bool → List ByteArray → List (S76) → List ByteArray → Int → List ByteArray → List (S72) → List ByteArray → Int → List ByteArray → List (S72) → List ByteArray → Int → Option (Bool)
 | 0, _, _, _, _, _, _, _, _, _, _, _, _, _, _ => none
 | k + 1, x5, x61, x1118000, x1118001, x1118002, x1118003, x1141000, x1141001, x1141002, x1141003, x1164000, x1164001, x1164002, x1164003 => if x61 = true then (some false) else ((laws_markStore.f k x1164000 x1164001 x1164002 x1164003 1).bind fun bt1181 => ((laws_heldStore.f k bt1181.2.1 bt1181.2.2.1 bt1181.2.2.2 x1164003 1).bind fun t1185 => (if t1185 < 0 then (some false) else (if t1185 = bt1181.1 then ((laws_toStore.f k x1118000 x1118001 x1118002 x1118003).bind fun bt1186 => ((impl_CheckpointLog.f k bt1186.1 bt1186.2.1 bt1186.2.2.1 bt1186.2.2.2).bind fun bt1196 => ((laws_eqStore.f k bt1196.1 bt1196.2.1 bt1196.2.2.1 bt1196.2.2.2.1 x1141000 x1141001 x1141002 x1141003).bind fun t1208 => (if t1208 = true then (laws_FnExactCheckpointLog.j2 k bt1181.1 (bt1196.2.2.2.2 != x5) bt1181.2.1 bt1181.2.2.1 bt1181.2.2.2 x1164003) else (laws_FnExactCheckpointLog.j2 k bt1181.1 true bt1181.2.1 bt1181.2.2.1 bt1181.2.2.2 x1164003))))) else (some false)))))
def laws_FnExactCheckpointLog.j2 : Nat → Int → Bool → List ByteArray → List (S72) → List ByteArray → Int → Option (Bool)
 | 0, _, _, _, _, _, _ => none
 | k + 1, x10, x87, x1164000, x1164001, x1164002, x1164003 => if x87 = true then (some false) else ((laws_heldStore.f k x1164000 x1164001 x1164002 x1164003 1).bind fun t1209 => (if t1209 < 0 then (some false) else (if t1209 = x10 then (some true) else (some false))))
end
def laws_FnExactCheckpointLog.f (k : Nat) (l0_0 : List ByteArray) (l0_1 : List (S76)) (l0_2 : List ByteArray) (a0_3 : Int) : Option (Bool) := (laws_szStore.f k l0_0 l0_1 l0_2 a0_3 1048576).bind fun t1118 => (if t1118 < 0 then (some true) else ((laws_toStore.f k l0_0 l0_1 l0_2 a0_3).bind fun bt1119 => ((spec_CheckpointLog.f k bt1119.1 bt1119.2.1 bt1119.2.2.1 bt1119.2.2.2).bind fun bt1129 => ((laws_toStore.f k l0_0 l0_1 l0_2 a0_3).bind fun bt1141 => ((impl_CheckpointLog.f k bt1141.1 bt1141.2.1 bt1141.2.2.1 bt1141.2.2.2).bind fun bt1152 => ((laws_eqStore.f k bt1152.1 bt1152.2.1 bt1152.2.2.1 bt1152.2.2.2.1 bt1129.1 bt1129.2.1 bt1129.2.2.1 bt1129.2.2.2.1).bind fun t1164 => (if t1164 = true then (laws_FnExactCheckpointLog.j0 k bt1129.2.2.2.2 bt1152.2.2.2.2 (bt1152.2.2.2.2 != bt1129.2.2.2.2) l0_0 l0_1 l0_2 a0_3 bt1129.1 bt1129.2.1 bt1129.2.2.1 bt1129.2.2.2.1 bt1141.1 bt1141.2.1 bt1141.2.2.1 bt1141.2.2.2 bt1152.1 bt1152.2.1 bt1152.2.2.1 bt1152.2.2.2.1) else (laws_FnExactCheckpointLog.j0 k bt1129.2.2.2.2 bt1152.2.2.2.2 true l0_0 l0_1 l0_2 a0_3 bt1129.1 bt1129.2.1 bt1129.2.2.1 bt1129.2.2.2.1 bt1141.1 bt1141.2.1 bt1141.2.2.1 bt1141.2.2.2 bt1152.1 bt1152.2.1 bt1152.2.2.1 bt1152.2.2.2.1))))))))
theorem laws_FnExactCheckpointLog.mono_l : ∀ k, (∀ y0 y1 y2 y3 y4 y5 y6 y7 y8 y9 y10 y11 y12 y13 y14 y15 y16 y17 y18, LeO (laws_FnExactCheckpointLog.j0 k y0 y1 y2 y3 y4 y5 y6 y7 y8 y9 y10 y11 y12 y13 y14 y15 y16 y17 y18) (laws_FnExactCheckpointLog.j0 (k + 1) y0 y1 y2 y3 y4 y5 y6 y7 y8 y9 y10 y11 y12 y13 y14 y15 y16 y17 y18)) ∧ (∀ y0 y1 y2 y3 y4 y5 y6 y7 y8 y9 y10 y11 y12 y13, LeO (laws_FnExactCheckpointLog.j1 k y0 y1 y2 y3 y4 y5 y6 y7 y8 y9 y10 y11 y12 y13) (laws_FnExactCheckpointLog.j1 (k + 1) y0 y1 y2 y3 y4 y5 y6 y7 y8 y9 y10 y11 y12 y13)) ∧ (∀ y0 y1 y2 y3 y4 y5, LeO (laws_FnExactCheckpointLog.j2 k y0 y1 y2 y3 y4 y5) (laws_FnExactCheckpointLog.j2 (k + 1) y0 y1 y2 y3 y4 y5))
 | 0 => ⟨fun _ _ _ _ _ _ _ _ _ _ _ _ _ _ _ _ _ _ _ r h => by simp [laws_FnExactCheckpointLog.j0] at h, fun _ _ _ _ _ _ _ _ _ _ _ _ _ _ r h => by simp [laws_FnExactCheckpointLog.j1] at h, fun _ _ _ _ _ _ r h => by simp [laws_FnExactCheckpointLog.j2] at h⟩
 | k + 1 => by
  obtain ⟨ih0, ih1, ih2⟩ := laws_FnExactCheckpointLog.mono_l k
  refine ⟨?_, ?_, ?_⟩
  ·
   intro y0 y1 y2 y3 y4 y5 y6 y7 y8 y9 y10 y11 y12 y13 y14 y15 y16 y17 y18
   unfold laws_FnExactCheckpointLog.j0
   repeat' first
   | (with_reducible exact ih0 _ _ _ _ _ _ _ _ _ _ _ _ _ _ _ _ _ _ _)
   | (with_reducible exact ih1 _ _ _ _ _ _ _ _ _ _ _ _ _ _)
   | (with_reducible exact ih2 _ _ _ _ _ _)
   | (with_reducible exact impl_CheckpointLog.mono _ _ _ _ _)
   | (with_reducible exact laws_eqStore.mono _ _ _ _ _ _ _ _ _)
   | (with_reducible exact laws_heldStore.mono _ _ _ _ _ _)
   | (with_reducible exact laws_markStore.mono _ _ _ _ _ _)
   | (with_reducible exact laws_szStore.mono _ _ _ _ _ _)
   | (with_reducible exact laws_toStore.mono _ _ _ _ _)
   | (with_reducible exact spec_CheckpointLog.mono _ _ _ _ _)
   | (with_reducible exact LeO.refl _)
   | (with_reducible exact LeO.none _)
   | (with_reducible refine LeO.ite ?_ ?_)
   | (with_reducible refine LeO.bind ?_ (fun _ => ?_))
   | exact ih0 _ _ _ _ _ _ _ _ _ _ _ _ _ _ _ _ _ _ _
   | exact ih1 _ _ _ _ _ _ _ _ _ _ _ _ _ _
   | exact ih2 _ _ _ _ _ _
   | exact impl_CheckpointLog.mono _ _ _ _ _
   | exact laws_eqStore.mono _ _ _ _ _ _ _ _ _
   | exact laws_heldStore.mono _ _ _ _ _ _
   | exact laws_markStore.mono _ _ _ _ _ _
   | exact laws_szStore.mono _ _ _ _ _ _
   | exact laws_toStore.mono _ _ _ _ _
   | exact spec_CheckpointLog.mono _ _ _ _ _
   | exact LeO.none _
   | refine LeO.ite ?_ ?_
   | refine LeO.bind ?_ (fun _ => ?_)
  ·
   intro y0 y1 y2 y3 y4 y5 y6 y7 y8 y9 y10 y11 y12 y13
   unfold laws_FnExactCheckpointLog.j1
   repeat' first
   | (with_reducible exact ih0 _ _ _ _ _ _ _ _ _ _ _ _ _ _ _ _ _ _ _)
   | (with_reducible exact ih1 _ _ _ _ _ _ _ _ _ _ _ _ _ _)
   | (with_reducible exact ih2 _ _ _ _ _ _)
   | (with_reducible exact impl_CheckpointLog.mono _ _ _ _ _)
   | (with_reducible exact laws_eqStore.mono _ _ _ _ _ _ _ _ _)
   | (with_reducible exact laws_heldStore.mono _ _ _ _ _ _)
   | (with_reducible exact laws_markStore.mono _ _ _ _ _ _)
   | (with_reducible exact laws_szStore.mono _ _ _ _ _ _)
   | (with_reducible exact laws_toStore.mono _ _ _ _ _)
   | (with_reducible exact spec_CheckpointLog.mono _ _ _ _ _)
   | (with_reducible exact LeO.refl _)
   | (with_reducible exact LeO.none _)
   | (with_reducible refine LeO.ite ?_ ?_)
   | (with_reducible refine LeO.bind ?_ (fun _ => ?_))
   | exact ih0 _ _ _ _ _ _ _ _ _ _ _ _ _ _ _ _ _ _ _
   | exact ih1 _ _ _ _ _ _ _ _ _ _ _ _ _ _
   | exact ih2 _ _ _ _ _ _
   | exact impl_CheckpointLog.mono _ _ _ _ _
   | exact laws_eqStore.mono _ _ _ _ _ _ _ _ _
   | exact laws_heldStore.mono _ _ _ _ _ _
   | exact laws_markStore.mono _ _ _ _ _ _
   | exact laws_szStore.mono _ _ _ _ _ _
   | exact laws_toStore.mono _ _ _ _ _
   | exact spec_CheckpointLog.mono _ _ _ _ _
   | exact LeO.none _
   | refine LeO.ite ?_ ?_
   | refine LeO.bind ?_ (fun _ => ?_)
  ·
   intro y0 y1 y2 y3 y4 y5
   unfold laws_FnExactCheckpointLog.j2
   repeat' first
   | (with_reducible exact ih0 _ _ _ _ _ _ _ _ _ _ _ _ _ _ _ _ _ _ _)
   | (with_reducible exact ih1 _ _ _ _ _ _ _ _ _ _ _ _ _ _)
   | (with_reducible exact ih2 _ _ _ _ _ _)
   | (with_reducible exact impl_CheckpointLog.mono _ _ _ _ _)
   | (with_reducible exact laws_eqStore.mono _ _ _ _ _ _ _ _ _)
   | (with_reducible exact laws_heldStore.mono _ _ _ _ _ _)
   | (with_reducible exact laws_markStore.mono _ _ _ _ _ _)
   | (with_reducible exact laws_szStore.mono _ _ _ _ _ _)
   | (with_reducible exact laws_toStore.mono _ _ _ _ _)
   | (with_reducible exact spec_CheckpointLog.mono _ _ _ _ _)
   | (with_reducible exact LeO.refl _)
   | (with_reducible exact LeO.none _)
   | (with_reducible refine LeO.ite ?_ ?_)
   | (with_reducible refine LeO.bind ?_ (fun _ => ?_))
   | exact ih0 _ _ _ _ _ _ _ _ _ _ _ _ _ _ _ _ _ _ _
   | exact ih1 _ _ _ _ _ _ _ _ _ _ _ _ _ _
   | exact ih2 _ _ _ _ _ _
   | exact impl_CheckpointLog.mono _ _ _ _ _
   | exact laws_eqStore.mono _ _ _ _ _ _ _ _ _
   | exact laws_heldStore.mono _ _ _ _ _ _
   | exact laws_markStore.mono _ _ _ _ _ _
   | exact laws_szStore.mono _ _ _ _ _ _
   | exact laws_toStore.mono _ _ _ _ _
   | exact spec_CheckpointLog.mono _ _ _ _ _
   | exact LeO.none _
   | refine LeO.ite ?_ ?_
   | refine LeO.bind ?_ (fun _ => ?_)
theorem laws_FnExactCheckpointLog.mono : ∀ a0 a1 a2 a3 k, LeO (laws_FnExactCheckpointLog.f k a0 a1 a2 a3) (laws_FnExactCheckpointLog.f (k + 1) a0 a1 a2 a3) := by
 intro a0 a1 a2 a3 k
 obtain ⟨ih0, ih1, ih2⟩ := laws_FnExactCheckpointLog.mono_l k
 unfold laws_FnExactCheckpointLog.f
 repeat' first
   | (with_reducible exact ih0 _ _ _ _ _ _ _ _ _ _ _ _ _ _ _ _ _ _ _)
   | (with_reducible exact ih1 _ _ _ _ _ _ _ _ _ _ _ _ _ _)
   | (with_reducible exact ih2 _ _ _ _ _ _)
   | (with_reducible exact impl_CheckpointLog.mono _ _ _ _ _)
   | (with_reducible exact laws_eqStore.mono _ _ _ _ _ _ _ _ _)
   | (with_reducible exact laws_heldStore.mono _ _ _ _ _ _)
   | (with_reducible exact laws_markStore.mono _ _ _ _ _ _)
   | (with_reducible exact laws_szStore.mono _ _ _ _ _ _)
   | (with_reducible exact laws_toStore.mono _ _ _ _ _)
   | (with_reducible exact spec_CheckpointLog.mono _ _ _ _ _)
   | (with_reducible exact LeO.refl _)
   | (with_reducible exact LeO.none _)
   | (with_reducible refine LeO.ite ?_ ?_)
   | (with_reducible refine LeO.bind ?_ (fun _ => ?_))
   | exact ih0 _ _ _ _ _ _ _ _ _ _ _ _ _ _ _ _ _ _ _
   | exact ih1 _ _ _ _ _ _ _ _ _ _ _ _ _ _
   | exact ih2 _ _ _ _ _ _
   | exact impl_CheckpointLog.mono _ _ _ _ _
   | exact laws_eqStore.mono _ _ _ _ _ _ _ _ _
   | exact laws_heldStore.mono _ _ _ _ _ _
   | exact laws_markStore.mono _ _ _ _ _ _
   | exact laws_szStore.mono _ _ _ _ _ _
   | exact laws_toStore.mono _ _ _ _ _
   | exact spec_CheckpointLog.mono _ _ _ _ _
   | exact LeO.none _
   | refine LeO.ite ?_ ?_
   | refine LeO.bind ?_ (fun _ => ?_)
set_option maxHeartbeats 8000000 in
set_option maxRecDepth 100000 in
theorem laws_FnExactCheckpointLog.calls (k : Nat) (A0_0 : Option Addr) (c0_0 : Nat) (l0_0 : List ByteArray) (A0_1 : Option Addr) (c0_1 : Nat) (l0_1 : List (S76)) (A0_2 : Option Addr) (c0_2 : Nat) (l0_2 : List ByteArray) (a0_3 : Int) (r : Bool) (w : World) (hr0_0 : Kd.C Kd.string w A0_0 l0_0.length l0_0) (hc0_0 : l0_0.length ≤ c0_0) (hr0_1 : Kd.C k76 w A0_1 l0_1.length l0_1) (hc0_1 : l0_1.length ≤ c0_1) (hr0_2 : Kd.C Kd.string w A0_2 l0_2.length l0_2) (hc0_2 : l0_2.length ≤ c0_2) (h : laws_FnExactCheckpointLog.f k l0_0 l0_1 l0_2 a0_3 = some r) :
  Calls Try.prog 12 #[.agg #[.slice A0_0 l0_0.length c0_0, .slice A0_1 l0_1.length c0_1, .slice A0_2 l0_2.length c0_2, .int .i64 a0_3]] w fun e w' => e = .returned (.bool r) ∧ Below w.heap.size w w' := by
 have hu38 := Try.underlying38
 have hu44 := Try.underlying44
 have HR0_0 := Aside0.mk hr0_0
 have HC0_0 := Aside0.mk hc0_0
 clear hr0_0 hc0_0
 have HR0_1 := Aside0.mk hr0_1
 have HC0_1 := Aside0.mk hc0_1
 clear hr0_1 hc0_1
 have HR0_2 := Aside0.mk hr0_2
 have HC0_2 := Aside0.mk hc0_2
 clear hr0_2 hc0_2
 have HB := Aside0.mk (Below.refl w.heap.size w)
 have H : ((laws_szStore.f k l0_0 l0_1 l0_2 a0_3 1048576).bind fun t1118 => (if t1118 < 0 then (some true) else ((laws_toStore.f k l0_0 l0_1 l0_2 a0_3).bind fun bt1119 => ((spec_CheckpointLog.f k bt1119.1 bt1119.2.1 bt1119.2.2.1 bt1119.2.2.2).bind fun bt1129 => ((laws_toStore.f k l0_0 l0_1 l0_2 a0_3).bind fun bt1141 => ((impl_CheckpointLog.f k bt1141.1 bt1141.2.1 bt1141.2.2.1 bt1141.2.2.2).bind fun bt1152 => ((laws_eqStore.f k bt1152.1 bt1152.2.1 bt1152.2.2.1 bt1152.2.2.2.1 bt1129.1 bt1129.2.1 bt1129.2.2.1 bt1129.2.2.2.1).bind fun t1164 => (if t1164 = true then (laws_FnExactCheckpointLog.j0 k bt1129.2.2.2.2 bt1152.2.2.2.2 (bt1152.2.2.2.2 != bt1129.2.2.2.2) l0_0 l0_1 l0_2 a0_3 bt1129.1 bt1129.2.1 bt1129.2.2.1 bt1129.2.2.2.1 bt1141.1 bt1141.2.1 bt1141.2.2.1 bt1141.2.2.2 bt1152.1 bt1152.2.1 bt1152.2.2.1 bt1152.2.2.2.1) else (laws_FnExactCheckpointLog.j0 k bt1129.2.2.2.2 bt1152.2.2.2.2 true l0_0 l0_1 l0_2 a0_3 bt1129.1 bt1129.2.1 bt1129.2.2.1 bt1129.2.2.2.1 bt1141.1 bt1141.2.1 bt1141.2.2.1 bt1141.2.2.2 bt1152.1 bt1152.2.1 bt1152.2.2.1 bt1152.2.2.2.1))))))))) = some r := h
 clear h
 replace H := Option.bind_eq_some_iff.mp H
 obtain ⟨t1118, A20, H⟩ := H
 replace H : (if t1118 < 0 then (some true) else ((laws_toStore.f k l0_0 l0_1 l0_2 a0_3).bind fun bt1119 => ((spec_CheckpointLog.f k bt1119.1 bt1119.2.1 bt1119.2.2.1 bt1119.2.2.2).bind fun bt1129 => ((laws_toStore.f k l0_0 l0_1 l0_2 a0_3).bind fun bt1141 => ((impl_CheckpointLog.f k bt1141.1 bt1141.2.1 bt1141.2.2.1 bt1141.2.2.2).bind fun bt1152 => ((laws_eqStore.f k bt1152.1 bt1152.2.1 bt1152.2.2.1 bt1152.2.2.2.1 bt1129.1 bt1129.2.1 bt1129.2.2.1 bt1129.2.2.2.1).bind fun t1164 => (if t1164 = true then (laws_FnExactCheckpointLog.j0 k bt1129.2.2.2.2 bt1152.2.2.2.2 (bt1152.2.2.2.2 != bt1129.2.2.2.2) l0_0 l0_1 l0_2 a0_3 bt1129.1 bt1129.2.1 bt1129.2.2.1 bt1129.2.2.2.1 bt1141.1 bt1141.2.1 bt1141.2.2.1 bt1141.2.2.2 bt1152.1 bt1152.2.1 bt1152.2.2.1 bt1152.2.2.2.1) else (laws_FnExactCheckpointLog.j0 k bt1129.2.2.2.2 bt1152.2.2.2.2 true l0_0 l0_1 l0_2 a0_3 bt1129.1 bt1129.2.1 bt1129.2.2.1 bt1129.2.2.2.1 bt1141.1 bt1141.2.1 bt1141.2.2.1 bt1141.2.2.2 bt1152.1 bt1152.2.1 bt1152.2.2.1 bt1152.2.2.2.1)))))))) = some r := H
 have A2 := Aside0.mk A20
 clear A20
 by_cases c3 : t1118 < 0
 ·
  rw [if_pos c3] at H
  have c3b0 : decide (t1118 < 0) = true := decide_eq_true c3
  clear c3
  obtain rfl := Option.some.inj H
  go_enter Try.func12, Try.ntmps12
  go_wp2_with (first | ((with_reducible refine gate_dst (N := 1) rfl ?_); refine box_event ?hg (N := 1) ?hd (cs := #[.slice A0_0 l0_0.length c0_0, .slice A0_1 l0_1.length c0_1, .slice A0_2 l0_2.length c0_2, .int .i64 a0_3]) (t := 38) ?hr ?_; (case hd => rfl); (case hg => rfl); (case hr => first | (go_simp; done) | (go_simp; rfl)); intro gb1117 hg w4 hbox hb; have BK1117 := Aside0.mk (hbox); have GW1117 := Aside0.mk ((by rw [hg]; exact (below_size (bs HB)) : w.heap.size ≤ gb1117)); have GE1117 := Aside0.mk ((by rw [hg]; exact (below_size (bs HB)) : w.heap.size ≤ gb1117)); replace HB := Aside0.mk (below_step (bs HB) hb); clear hb hbox hg; obtain ⟨hcz5_0, hcz5_1, hcz5_2, hcz5_3⟩ := cz4 BK1117; obtain ⟨hfz5_0, hfz5_1, hfz5_2, hfz5_3⟩ := fz4 BK1117) | ((with_reducible refine gate_callee (f := 25) rfl ?_); refine gL (some 16) rfl rfl Try.func25 (by kernel_rfl) rfl #[.agg #[.slice A0_0 l0_0.length c0_0, .slice A0_1 l0_1.length c0_1, .slice A0_2 l0_2.length c0_2, .int .i64 a0_3], .int .i64 1048576] rfl ?_; (with_reducible refine (laws_szStore.calls k _ _ l0_0 _ _ l0_1 _ _ l0_2 a0_3 1048576 t1118 _ ?side1 ?side2 ?side3 ?side4 ?side5 ?side6 A2.out).mono ?_); (case side1 => exact cb HR0_0 HB); (case side2 => exact HC0_0.out); (case side3 => exact cb HR0_1 HB); (case side4 => exact HC0_1.out); (case side5 => exact cb HR0_2 HB); (case side6 => exact HC0_2.out); rintro e w6 ⟨rfl, hb⟩; refine ⟨_, rfl, ?_⟩; replace BK1117 := nb BK1117 hb; replace HB := Aside0.mk (below_step (bs1 HB GE1117) hb); (try clear hb); (try clear hb2); (try clear hk); (try clear hi)))
  go_ret
  exact ⟨by first | rfl | (simp [errW_none, errW_some] <;> rfl) | (simp [*, errW_none, errW_some] <;> rfl), bs1 HB GE1117⟩
 ·
  rw [if_neg c3] at H
  have c3b0 : decide (t1118 < 0) = false := decide_eq_false c3
  clear c3
  replace H := Option.bind_eq_some_iff.mp H
  obtain ⟨⟨t1119, t1122, t1125, t1128⟩, A70, H⟩ := H
  replace H : ((spec_CheckpointLog.f k t1119 t1122 t1125 t1128).bind fun bt1129 => ((laws_toStore.f k l0_0 l0_1 l0_2 a0_3).bind fun bt1141 => ((impl_CheckpointLog.f k bt1141.1 bt1141.2.1 bt1141.2.2.1 bt1141.2.2.2).bind fun bt1152 => ((laws_eqStore.f k bt1152.1 bt1152.2.1 bt1152.2.2.1 bt1152.2.2.2.1 bt1129.1 bt1129.2.1 bt1129.2.2.1 bt1129.2.2.2.1).bind fun t1164 => (if t1164 = true then (laws_FnExactCheckpointLog.j0 k bt1129.2.2.2.2 bt1152.2.2.2.2 (bt1152.2.2.2.2 != bt1129.2.2.2.2) l0_0 l0_1 l0_2 a0_3 bt1129.1 bt1129.2.1 bt1129.2.2.1 bt1129.2.2.2.1 bt1141.1 bt1141.2.1 bt1141.2.2.1 bt1141.2.2.2 bt1152.1 bt1152.2.1 bt1152.2.2.1 bt1152.2.2.2.1) else (laws_FnExactCheckpointLog.j0 k bt1129.2.2.2.2 bt1152.2.2.2.2 true l0_0 l0_1 l0_2 a0_3 bt1129.1 bt1129.2.1 bt1129.2.2.1 bt1129.2.2.2.1 bt1141.1 bt1141.2.1 bt1141.2.2.1 bt1141.2.2.2 bt1152.1 bt1152.2.1 bt1152.2.2.1 bt1152.2.2.2.1)))))) = some r := H
  have A7 := Aside0.mk A70
  clear A70
  replace H := Option.bind_eq_some_iff.mp H
  obtain ⟨⟨t1129, t1132, t1135, t1138, t1139⟩, A80, H⟩ := H
  replace H : ((laws_toStore.f k l0_0 l0_1 l0_2 a0_3).bind fun bt1141 => ((impl_CheckpointLog.f k bt1141.1 bt1141.2.1 bt1141.2.2.1 bt1141.2.2.2).bind fun bt1152 => ((laws_eqStore.f k bt1152.1 bt1152.2.1 bt1152.2.2.1 bt1152.2.2.2.1 t1129 t1132 t1135 t1138).bind fun t1164 => (if t1164 = true then (laws_FnExactCheckpointLog.j0 k t1139 bt1152.2.2.2.2 (bt1152.2.2.2.2 != t1139) l0_0 l0_1 l0_2 a0_3 t1129 t1132 t1135 t1138 bt1141.1 bt1141.2.1 bt1141.2.2.1 bt1141.2.2.2 bt1152.1 bt1152.2.1 bt1152.2.2.1 bt1152.2.2.2.1) else (laws_FnExactCheckpointLog.j0 k t1139 bt1152.2.2.2.2 true l0_0 l0_1 l0_2 a0_3 t1129 t1132 t1135 t1138 bt1141.1 bt1141.2.1 bt1141.2.2.1 bt1141.2.2.2 bt1152.1 bt1152.2.1 bt1152.2.2.1 bt1152.2.2.2.1))))) = some r := H
  have A8 := Aside0.mk A80
  clear A80
  replace H := Option.bind_eq_some_iff.mp H
  obtain ⟨⟨t1141, t1144, t1147, t1150⟩, A90, H⟩ := H
  replace H : ((impl_CheckpointLog.f k t1141 t1144 t1147 t1150).bind fun bt1152 => ((laws_eqStore.f k bt1152.1 bt1152.2.1 bt1152.2.2.1 bt1152.2.2.2.1 t1129 t1132 t1135 t1138).bind fun t1164 => (if t1164 = true then (laws_FnExactCheckpointLog.j0 k t1139 bt1152.2.2.2.2 (bt1152.2.2.2.2 != t1139) l0_0 l0_1 l0_2 a0_3 t1129 t1132 t1135 t1138 t1141 t1144 t1147 t1150 bt1152.1 bt1152.2.1 bt1152.2.2.1 bt1152.2.2.2.1) else (laws_FnExactCheckpointLog.j0 k t1139 bt1152.2.2.2.2 true l0_0 l0_1 l0_2 a0_3 t1129 t1132 t1135 t1138 t1141 t1144 t1147 t1150 bt1152.1 bt1152.2.1 bt1152.2.2.1 bt1152.2.2.2.1)))) = some r := H
  have A9 := Aside0.mk A90
  clear A90
  replace H := Option.bind_eq_some_iff.mp H
  obtain ⟨⟨t1152, t1155, t1158, t1161, t1162⟩, A100, H⟩ := H
  replace H : ((laws_eqStore.f k t1152 t1155 t1158 t1161 t1129 t1132 t1135 t1138).bind fun t1164 => (if t1164 = true then (laws_FnExactCheckpointLog.j0 k t1139 t1162 (t1162 != t1139) l0_0 l0_1 l0_2 a0_3 t1129 t1132 t1135 t1138 t1141 t1144 t1147 t1150 t1152 t1155 t1158 t1161) else (laws_FnExactCheckpointLog.j0 k t1139 t1162 true l0_0 l0_1 l0_2 a0_3 t1129 t1132 t1135 t1138 t1141 t1144 t1147 t1150 t1152 t1155 t1158 t1161))) = some r := H
  have A10 := Aside0.mk A100
  clear A100
  have HC11 := Aside0.mk H
  clear H
  go_enter Try.func12, Try.ntmps12
  go_upto_region 8 with (first | ((with_reducible refine gate_dst (N := 1) rfl ?_); refine box_event ?hg (N := 1) ?hd (cs := #[.slice A0_0 l0_0.length c0_0, .slice A0_1 l0_1.length c0_1, .slice A0_2 l0_2.length c0_2, .int .i64 a0_3]) (t := 38) ?hr ?_; (case hd => rfl); (case hg => rfl); (case hr => first | (go_simp; done) | (go_simp; rfl)); intro gb1117 hg w12 hbox hb; have BK1117 := Aside0.mk (hbox); have GW1117 := Aside0.mk ((by rw [hg]; exact (below_size (bs HB)) : w.heap.size ≤ gb1117)); have GE1117 := Aside0.mk ((by rw [hg]; exact (below_size (bs HB)) : w.heap.size ≤ gb1117)); replace HB := Aside0.mk (below_step (bs HB) hb); clear hb hbox hg; obtain ⟨hcz13_0, hcz13_1, hcz13_2, hcz13_3⟩ := cz4 BK1117; obtain ⟨hfz13_0, hfz13_1, hfz13_2, hfz13_3⟩ := fz4 BK1117) | ((with_reducible refine gate_callee (f := 25) rfl ?_); refine gL (some 16) rfl rfl Try.func25 (by kernel_rfl) rfl #[.agg #[.slice A0_0 l0_0.length c0_0, .slice A0_1 l0_1.length c0_1, .slice A0_2 l0_2.length c0_2, .int .i64 a0_3], .int .i64 1048576] rfl ?_; (with_reducible refine (laws_szStore.calls k _ _ l0_0 _ _ l0_1 _ _ l0_2 a0_3 1048576 t1118 _ ?side1 ?side2 ?side3 ?side4 ?side5 ?side6 A2.out).mono ?_); (case side1 => exact cb HR0_0 HB); (case side2 => exact HC0_0.out); (case side3 => exact cb HR0_1 HB); (case side4 => exact HC0_1.out); (case side5 => exact cb HR0_2 HB); (case side6 => exact HC0_2.out); rintro e w14 ⟨rfl, hb⟩; refine ⟨_, rfl, ?_⟩; replace BK1117 := nb BK1117 hb; replace HB := Aside0.mk (below_step (bs1 HB GE1117) hb); (try clear hb); (try clear hb2); (try clear hk); (try clear hi); obtain ⟨hcz15_0, hcz15_1, hcz15_2, hcz15_3⟩ := cz4 BK1117; obtain ⟨hfz15_0, hfz15_1, hfz15_2, hfz15_3⟩ := fz4 BK1117) | ((with_reducible refine gate_callee (f := 27) rfl ?_); refine gL (some 21) rfl rfl Try.func27 (by kernel_rfl) rfl #[.agg #[.slice A0_0 l0_0.length c0_0, .slice A0_1 l0_1.length c0_1, .slice A0_2 l0_2.length c0_2, .int .i64 a0_3]] rfl ?_; (with_reducible refine (laws_toStore.calls k _ _ l0_0 _ _ l0_1 _ _ l0_2 a0_3 t1119 t1122 t1125 t1128 _ ?side1 ?side2 ?side3 ?side4 ?side5 ?side6 A7.out).mono ?_); (case side1 => exact cb HR0_0 HB); (case side2 => exact HC0_0.out); (case side3 => exact cb HR0_1 HB); (case side4 => exact HC0_1.out); (case side5 => exact cb HR0_2 HB); (case side6 => exact HC0_2.out); rintro e w16 ⟨v1120, v1123, v1126, rfl, ho0, ho1, ho2, hb⟩; refine ⟨_, rfl, ?_⟩; have HO1121 := Aside0.mk (Kd.R_lower ho0 (below_size (bs1 HB GE1117))); have HO1124 := Aside0.mk (Kd.R_lower ho1 (below_size (bs1 HB GE1117))); have HO1127 := Aside0.mk (Kd.R_lower ho2 (below_size (bs1 HB GE1117))); replace BK1117 := nb BK1117 hb; replace HB := Aside0.mk (below_step (bs1 HB GE1117) hb); (try clear hb); (try clear hb2); (try clear hk); (try clear hi); (try clear ho0); (try clear ho1); (try clear ho2); obtain ⟨Ao17, co17, eo17⟩ := Kd.R_slice HO1121.out; subst eo17; obtain ⟨Ao18, co18, eo18⟩ := Kd.R_slice HO1124.out; subst eo18; obtain ⟨Ao19, co19, eo19⟩ := Kd.R_slice HO1127.out; subst eo19) | ((with_reducible refine gate_callee (f := 47) rfl ?_); refine gL (some 22) rfl rfl Try.func47 (by kernel_rfl) rfl #[.agg #[.slice Ao17 t1119.length co17, .slice Ao18 t1122.length co18, .slice Ao19 t1125.length co19, .int .i64 t1128]] rfl ?_; (with_reducible refine (spec_CheckpointLog.calls k _ _ t1119 _ _ t1122 _ _ t1125 t1128 t1129 t1132 t1135 t1138 t1139 _ ?side1 ?side2 ?side3 ?side4 ?side5 ?side6 A8.out).mono ?_); (case side1 => exact rc0 HO1121); (case side2 => exact (Kd.R_reads' HO1121.out).2.1); (case side3 => exact rc0 HO1124); (case side4 => exact (Kd.R_reads' HO1124.out).2.1); (case side5 => exact rc0 HO1127); (case side6 => exact (Kd.R_reads' HO1127.out).2.1); rintro e w20 ⟨v1130, v1133, v1136, rfl, ho0, ho1, ho2, hb⟩; refine ⟨_, rfl, ?_⟩; have HO1131 := Aside0.mk (Kd.R_lower (Kd.R_new' (Kd.R_new' ho0 (Kd.R_lt (rr HO1121.out))) (Kd.R_lt (rr HO1127.out))) (below_size (bs1 HB GE1117))); have HO1134 := Aside0.mk (Kd.R_lower (Kd.R_new' ho1 (Kd.R_lt (rr HO1124.out))) (below_size (bs1 HB GE1117))); replace HO1124 := Aside0.mk (Kd.R_elder' (rr HO1124.out) (Kd.R_base ho1) hb); have HO1137 := Aside0.mk (Kd.R_lower (Kd.R_new' (Kd.R_new' ho2 (Kd.R_lt (rr HO1121.out))) (Kd.R_lt (rr HO1127.out))) (below_size (bs1 HB GE1117))); replace HO1121 := Aside0.mk (Kd.R_mono (Kd.R_told (Kd.R_told (Kd.R_old (rr HO1121.out) hb) (Kd.R_base ho0)) (Kd.R_base ho2)) (fun _ h_ => h_.1)); replace HO1127 := Aside0.mk (Kd.R_mono (Kd.R_told (Kd.R_told (Kd.R_old (rr HO1127.out) hb) (Kd.R_base ho0)) (Kd.R_base ho2)) (fun _ h_ => h_.1)); replace BK1117 := nb BK1117 hb; replace HB := Aside0.mk (below_step (bs1 HB GE1117) hb); (try clear hb); (try clear hb2); (try clear hk); (try clear hi); (try clear ho0); (try clear ho1); (try clear ho2)) | ((with_reducible refine gate_dst (N := 4) rfl ?_); refine box_event ?hg (N := 4) ?hd (cs := #[.slice none 0 0, .slice none 0 0, .slice none 0 0, .int .i64 0]) (t := 44) ?hr ?_; (case hd => rfl); (case hg => rfl); (case hr => first | (go_simp; done) | (go_simp; rfl)); intro gb1140 hg w21 hbox hb; replace HO1121 := nr HO1121 hb; replace HO1124 := nr HO1124 hb; replace HO1127 := nr HO1127 hb; replace HO1131 := nr HO1131 hb; replace HO1134 := nr HO1134 hb; replace HO1137 := nr HO1137 hb; have BK1140 := Aside0.mk (hbox); have GW1140 := Aside0.mk ((by rw [hg]; exact (below_size (bs1 HB GE1117)) : w.heap.size ≤ gb1140)); have GE1140 := Aside0.mk ((by rw [hg]; exact (below_size (bs1 HB GE1117)) : w.heap.size ≤ gb1140)); replace HB := Aside0.mk (below_step (bs1 HB GE1117) hb); have NB1117_1140 := Aside0.mk ((bn BK1117 hg : gb1117 ≠ gb1140)); have NB1140_1117 := Aside0.mk ((bm BK1117 hg : gb1140 ≠ gb1117)); replace BK1117 := nb BK1117 hb; clear hb hbox hg; obtain ⟨Ao22, co22, eo22⟩ := Kd.R_slice HO1131.out; subst eo22; have hnb23 := NB1140_1117.out; have hnc23 := NB1117_1140.out; obtain ⟨hcz24_0, hcz24_1, hcz24_2, hcz24_3⟩ := cz4 BK1140; obtain ⟨hfz24_0, hfz24_1, hfz24_2, hfz24_3⟩ := fz4 BK1140; obtain ⟨Ao25, co25, eo25⟩ := Kd.R_slice HO1134.out; subst eo25; obtain ⟨Ao26, co26, eo26⟩ := Kd.R_slice HO1137.out; subst eo26; obtain ⟨hcz27_0, hcz27_1, hcz27_2, hcz27_3⟩ := cz4 BK1117; obtain ⟨hfz27_0, hfz27_1, hfz27_2, hfz27_3⟩ := fz4 BK1117) | ((with_reducible refine gate_callee (f := 27) rfl ?_); refine gL (some 26) rfl rfl Try.func27 (by kernel_rfl) rfl #[.agg #[.slice A0_0 l0_0.length c0_0, .slice A0_1 l0_1.length c0_1, .slice A0_2 l0_2.length c0_2, .int .i64 a0_3]] rfl ?_; (with_reducible refine (laws_toStore.calls k _ _ l0_0 _ _ l0_1 _ _ l0_2 a0_3 t1141 t1144 t1147 t1150 _ ?side1 ?side2 ?side3 ?side4 ?side5 ?side6 A9.out).mono ?_); (case side1 => exact Kd.C_below HR0_0.out (bs2 HB GE1117 GE1140)); (case side2 => exact HC0_0.out); (case side3 => exact Kd.C_below HR0_1.out (bs2 HB GE1117 GE1140)); (case side4 => exact HC0_1.out); (case side5 => exact Kd.C_below HR0_2.out (bs2 HB GE1117 GE1140)); (case side6 => exact HC0_2.out); rintro e w28 ⟨v1142, v1145, v1148, rfl, ho0, ho1, ho2, hb⟩; refine ⟨_, rfl, ?_⟩; have HO1143 := Aside0.mk (Kd.R_lower (Kd.R_new' (Kd.R_new' (Kd.R_new' (Kd.R_new' ho0 (Kd.R_lt (rf HO1121 BK1140))) (Kd.R_lt (rf HO1127 BK1140))) (Kd.R_lt (rf HO1131 BK1140))) (Kd.R_lt (rf HO1137 BK1140))) (below_size (bs2 HB GE1117 GE1140))); have HO1146 := Aside0.mk (Kd.R_lower (Kd.R_new' (Kd.R_new' ho1 (Kd.R_lt (rf HO1124 BK1140))) (Kd.R_lt (rf HO1134 BK1140))) (below_size (bs2 HB GE1117 GE1140))); replace HO1124 := Aside0.mk (Kd.R_elder' (rf HO1124 BK1140) (Kd.R_base ho1) hb); replace HO1134 := Aside0.mk (Kd.R_elder' (rf HO1134 BK1140) (Kd.R_base ho1) hb); have HO1149 := Aside0.mk (Kd.R_lower (Kd.R_new' (Kd.R_new' (Kd.R_new' (Kd.R_new' ho2 (Kd.R_lt (rf HO1121 BK1140))) (Kd.R_lt (rf HO1127 BK1140))) (Kd.R_lt (rf HO1131 BK1140))) (Kd.R_lt (rf HO1137 BK1140))) (below_size (bs2 HB GE1117 GE1140))); replace HO1121 := Aside0.mk (Kd.R_mono (Kd.R_told (Kd.R_told (Kd.R_old (rf HO1121 BK1140) hb) (Kd.R_base ho0)) (Kd.R_base ho2)) (fun _ h_ => h_.1)); replace HO1127 := Aside0.mk (Kd.R_mono (Kd.R_told (Kd.R_told (Kd.R_old (rf HO1127 BK1140) hb) (Kd.R_base ho0)) (Kd.R_base ho2)) (fun _ h_ => h_.1)); replace HO1131 := Aside0.mk (Kd.R_mono (Kd.R_told (Kd.R_told (Kd.R_old (rf HO1131 BK1140) hb) (Kd.R_base ho0)) (Kd.R_base ho2)) (fun _ h_ => h_.1)); replace HO1137 := Aside0.mk (Kd.R_mono (Kd.R_told (Kd.R_told (Kd.R_old (rf HO1137 BK1140) hb) (Kd.R_base ho0)) (Kd.R_base ho2)) (fun _ h_ => h_.1)); replace BK1117 := Aside0.mk (blk_below (bf BK1117 NB1117_1140) hb); replace BK1140 := Aside0.mk (blk_below (g := gb1140) (o := .cells #[.slice Ao22 t1129.length co22, .slice Ao25 t1132.length co25, .slice Ao26 t1135.length co26, .int .i64 t1138] 44 (0, 0)) (by (with_reducible repeat (first | refine blk_drewN ?_ _ | refine blk_drew ?_ | refine blk_alloc ?_ _)); refine blk_put (cs := #[.slice Ao22 t1129.length co22, .slice Ao25 t1132.length co25, .slice Ao26 t1135.length co26, .int .i64 0]) ?_ 3 _ rfl; (with_reducible repeat (first | refine blk_drewN ?_ _ | refine blk_drew ?_ | refine blk_alloc ?_ _)); refine blk_put (cs := #[.slice Ao22 t1129.length co22, .slice Ao25 t1132.length co25, .slice none 0 0, .int .i64 0]) ?_ 2 _ rfl; (with_reducible repeat (first | refine blk_drewN ?_ _ | refine blk_drew ?_ | refine blk_alloc ?_ _)); refine blk_put (cs := #[.slice Ao22 t1129.length co22, .slice none 0 0, .slice none 0 0, .int .i64 0]) ?_ 1 _ rfl; (with_reducible repeat (first | refine blk_drewN ?_ _ | refine blk_drew ?_ | refine blk_alloc ?_ _)); refine blk_put (cs := #[.slice none 0 0, .slice none 0 0, .slice none 0 0, .int .i64 0]) ?_ 0 _ rfl; (with_reducible repeat (first | refine blk_drewN ?_ _ | refine blk_drew ?_ | refine blk_alloc ?_ _)); exact BK1140.out) hb); replace HB := Aside0.mk (below_step (bs2 HB GE1117 GE1140) hb); (try clear hb); (try clear hb2); (try clear hk); (try clear hi); (try clear ho0); (try clear ho1); (try clear ho2)) | ((with_reducible refine gate_dst (N := 6) rfl ?_); refine box_event ?hg (N := 6) ?hd (cs := #[.slice none 0 0, .slice none 0 0, .slice none 0 0, .int .i64 0]) (t := 44) ?hr ?_; (case hd => rfl); (case hg => rfl); (case hr => first | (go_simp; done) | (go_simp; rfl)); intro gb1151 hg w29 hbox hb; replace HO1121 := nr HO1121 hb; replace HO1124 := nr HO1124 hb; replace HO1127 := nr HO1127 hb; replace HO1131 := nr HO1131 hb; replace HO1134 := nr HO1134 hb; replace HO1137 := nr HO1137 hb; replace HO1143 := nr HO1143 hb; replace HO1146 := nr HO1146 hb; replace HO1149 := nr HO1149 hb; have BK1151 := Aside0.mk (hbox); have GW1151 := Aside0.mk ((by rw [hg]; exact (below_size (bs2 HB GE1117 GE1140)) : w.heap.size ≤ gb1151)); have GE1151 := Aside0.mk ((by rw [hg]; exact (below_size (bs2 HB GE1117 GE1140)) : w.heap.size ≤ gb1151)); replace HB := Aside0.mk (below_step (bs2 HB GE1117 GE1140) hb); have NB1117_1151 := Aside0.mk ((bn BK1117 hg : gb1117 ≠ gb1151)); have NB1151_1117 := Aside0.mk ((bm BK1117 hg : gb1151 ≠ gb1117)); replace BK1117 := nb BK1117 hb; have NB1140_1151 := Aside0.mk ((bn BK1140 hg : gb1140 ≠ gb1151)); have NB1151_1140 := Aside0.mk ((bm BK1140 hg : gb1151 ≠ gb1140)); replace BK1140 := nb BK1140 hb; clear hb hbox hg; obtain ⟨Ao30, co30, eo30⟩ := Kd.R_slice HO1143.out; subst eo30; have hnb31 := NB1151_1117.out; have hnc31 := NB1117_1151.out; have hnb32 := NB1151_1140.out; have hnc32 := NB1140_1151.out; obtain ⟨hcz33_0, hcz33_1, hcz33_2, hcz33_3⟩ := cz4 BK1151; obtain ⟨hfz33_0, hfz33_1, hfz33_2, hfz33_3⟩ := fz4 BK1151; obtain ⟨Ao34, co34, eo34⟩ := Kd.R_slice HO1146.out; subst eo34; obtain ⟨Ao35, co35, eo35⟩ := Kd.R_slice HO1149.out; subst eo35) | ((with_reducible refine gate_callee (f := 48) rfl ?_); refine gL (some 29) rfl rfl Try.func48 (by kernel_rfl) rfl #[.agg #[.slice Ao30 t1141.length co30, .slice Ao34 t1144.length co34, .slice Ao35 t1147.length co35, .int .i64 t1150]] rfl ?_; (with_reducible refine (impl_CheckpointLog.calls k _ _ t1141 _ _ t1144 _ _ t1147 t1150 t1152 t1155 t1158 t1161 t1162 _ ?side1 ?side2 ?side3 ?side4 ?side5 ?side6 A10.out).mono ?_); (case side1 => exact rc HO1143 BK1151); (case side2 => exact (Kd.R_reads' HO1143.out).2.1); (case side3 => exact rc HO1146 BK1151); (case side4 => exact (Kd.R_reads' HO1146.out).2.1); (case side5 => exact rc HO1149 BK1151); (case side6 => exact (Kd.R_reads' HO1149.out).2.1); rintro e w36 ⟨v1153, v1156, v1159, rfl, ho0, ho1, ho2, hb⟩; refine ⟨_, rfl, ?_⟩; have HO1154 := Aside0.mk (Kd.R_lower (Kd.R_new' (Kd.R_new' (Kd.R_new' (Kd.R_new' (Kd.R_new' (Kd.R_new' ho0 (Kd.R_lt (rf HO1121 BK1151))) (Kd.R_lt (rf HO1127 BK1151))) (Kd.R_lt (rf HO1131 BK1151))) (Kd.R_lt (rf HO1137 BK1151))) (Kd.R_lt (rf HO1143 BK1151))) (Kd.R_lt (rf HO1149 BK1151))) (below_size (bs3 HB GE1117 GE1140 GE1151))); have HO1157 := Aside0.mk (Kd.R_lower (Kd.R_new' (Kd.R_new' (Kd.R_new' ho1 (Kd.R_lt (rf HO1124 BK1151))) (Kd.R_lt (rf HO1134 BK1151))) (Kd.R_lt (rf HO1146 BK1151))) (below_size (bs3 HB GE1117 GE1140 GE1151))); replace HO1124 := Aside0.mk (Kd.R_elder' (rf HO1124 BK1151) (Kd.R_base ho1) hb); replace HO1134 := Aside0.mk (Kd.R_elder' (rf HO1134 BK1151) (Kd.R_base ho1) hb); replace HO1146 := Aside0.mk (Kd.R_elder' (rf HO1146 BK1151) (Kd.R_base ho1) hb); have HO1160 := Aside0.mk (Kd.R_lower (Kd.R_new' (Kd.R_new' (Kd.R_new' (Kd.R_new' (Kd.R_new' (Kd.R_new' ho2 (Kd.R_lt (rf HO1121 BK1151))) (Kd.R_lt (rf HO1127 BK1151))) (Kd.R_lt (rf HO1131 BK1151))) (Kd.R_lt (rf HO1137 BK1151))) (Kd.R_lt (rf HO1143 BK1151))) (Kd.R_lt (rf HO1149 BK1151))) (below_size (bs3 HB GE1117 GE1140 GE1151))); replace HO1121 := Aside0.mk (Kd.R_mono (Kd.R_told (Kd.R_told (Kd.R_old (rf HO1121 BK1151) hb) (Kd.R_base ho0)) (Kd.R_base ho2)) (fun _ h_ => h_.1)); replace HO1127 := Aside0.mk (Kd.R_mono (Kd.R_told (Kd.R_told (Kd.R_old (rf HO1127 BK1151) hb) (Kd.R_base ho0)) (Kd.R_base ho2)) (fun _ h_ => h_.1)); replace HO1131 := Aside0.mk (Kd.R_mono (Kd.R_told (Kd.R_told (Kd.R_old (rf HO1131 BK1151) hb) (Kd.R_base ho0)) (Kd.R_base ho2)) (fun _ h_ => h_.1)); replace HO1137 := Aside0.mk (Kd.R_mono (Kd.R_told (Kd.R_told (Kd.R_old (rf HO1137 BK1151) hb) (Kd.R_base ho0)) (Kd.R_base ho2)) (fun _ h_ => h_.1)); replace HO1143 := Aside0.mk (Kd.R_mono (Kd.R_told (Kd.R_told (Kd.R_old (rf HO1143 BK1151) hb) (Kd.R_base ho0)) (Kd.R_base ho2)) (fun _ h_ => h_.1)); replace HO1149 := Aside0.mk (Kd.R_mono (Kd.R_told (Kd.R_told (Kd.R_old (rf HO1149 BK1151) hb) (Kd.R_base ho0)) (Kd.R_base ho2)) (fun _ h_ => h_.1)); replace BK1117 := Aside0.mk (blk_below (bf BK1117 NB1117_1151) hb); replace BK1140 := Aside0.mk (blk_below (bf BK1140 NB1140_1151) hb); replace BK1151 := Aside0.mk (blk_below (g := gb1151) (o := .cells #[.slice Ao30 t1141.length co30, .slice Ao34 t1144.length co34, .slice Ao35 t1147.length co35, .int .i64 t1150] 44 (0, 0)) (by (with_reducible repeat (first | refine blk_drewN ?_ _ | refine blk_drew ?_ | refine blk_alloc ?_ _)); refine blk_put (cs := #[.slice Ao30 t1141.length co30, .slice Ao34 t1144.length co34, .slice Ao35 t1147.length co35, .int .i64 0]) ?_ 3 _ rfl; (with_reducible repeat (first | refine blk_drewN ?_ _ | refine blk_drew ?_ | refine blk_alloc ?_ _)); refine blk_put (cs := #[.slice Ao30 t1141.length co30, .slice Ao34 t1144.length co34, .slice none 0 0, .int .i64 0]) ?_ 2 _ rfl; (with_reducible repeat (first | refine blk_drewN ?_ _ | refine blk_drew ?_ | refine blk_alloc ?_ _)); refine blk_put (cs := #[.slice Ao30 t1141.length co30, .slice none 0 0, .slice none 0 0, .int .i64 0]) ?_ 1 _ rfl; (with_reducible repeat (first | refine blk_drewN ?_ _ | refine blk_drew ?_ | refine blk_alloc ?_ _)); refine blk_put (cs := #[.slice none 0 0, .slice none 0 0, .slice none 0 0, .int .i64 0]) ?_ 0 _ rfl; (with_reducible repeat (first | refine blk_drewN ?_ _ | refine blk_drew ?_ | refine blk_alloc ?_ _)); exact BK1151.out) hb); replace HB := Aside0.mk (below_step (bs3 HB GE1117 GE1140 GE1151) hb); (try clear hb); (try clear hb2); (try clear hk); (try clear hi); (try clear ho0); (try clear ho1); (try clear ho2)) | ((with_reducible refine gate_dst (N := 7) rfl ?_); refine box_event ?hg (N := 7) ?hd (cs := #[.slice none 0 0, .slice none 0 0, .slice none 0 0, .int .i64 0]) (t := 44) ?hr ?_; (case hd => rfl); (case hg => rfl); (case hr => first | (go_simp; done) | (go_simp; rfl)); intro gb1163 hg w37 hbox hb; replace HO1121 := nr HO1121 hb; replace HO1124 := nr HO1124 hb; replace HO1127 := nr HO1127 hb; replace HO1131 := nr HO1131 hb; replace HO1134 := nr HO1134 hb; replace HO1137 := nr HO1137 hb; replace HO1143 := nr HO1143 hb; replace HO1146 := nr HO1146 hb; replace HO1149 := nr HO1149 hb; replace HO1154 := nr HO1154 hb; replace HO1157 := nr HO1157 hb; replace HO1160 := nr HO1160 hb; have BK1163 := Aside0.mk (hbox); have GW1163 := Aside0.mk ((by rw [hg]; exact (below_size (bs3 HB GE1117 GE1140 GE1151)) : w.heap.size ≤ gb1163)); have GE1163 := Aside0.mk ((by rw [hg]; exact (below_size (bs3 HB GE1117 GE1140 GE1151)) : w.heap.size ≤ gb1163)); replace HB := Aside0.mk (below_step (bs3 HB GE1117 GE1140 GE1151) hb); have NB1117_1163 := Aside0.mk ((bn BK1117 hg : gb1117 ≠ gb1163)); have NB1163_1117 := Aside0.mk ((bm BK1117 hg : gb1163 ≠ gb1117)); replace BK1117 := nb BK1117 hb; have NB1140_1163 := Aside0.mk ((bn BK1140 hg : gb1140 ≠ gb1163)); have NB1163_1140 := Aside0.mk ((bm BK1140 hg : gb1163 ≠ gb1140)); replace BK1140 := nb BK1140 hb; have NB1151_1163 := Aside0.mk ((bn BK1151 hg : gb1151 ≠ gb1163)); have NB1163_1151 := Aside0.mk ((bm BK1151 hg : gb1163 ≠ gb1151)); replace BK1151 := nb BK1151 hb; clear hb hbox hg; obtain ⟨Ao38, co38, eo38⟩ := Kd.R_slice HO1154.out; subst eo38; have hnb39 := NB1163_1117.out; have hnc39 := NB1117_1163.out; have hnb40 := NB1163_1140.out; have hnc40 := NB1140_1163.out; have hnb41 := NB1163_1151.out; have hnc41 := NB1151_1163.out; obtain ⟨hcz42_0, hcz42_1, hcz42_2, hcz42_3⟩ := cz4 BK1163; obtain ⟨hfz42_0, hfz42_1, hfz42_2, hfz42_3⟩ := fz4 BK1163; obtain ⟨Ao43, co43, eo43⟩ := Kd.R_slice HO1157.out; subst eo43; obtain ⟨Ao44, co44, eo44⟩ := Kd.R_slice HO1160.out; subst eo44))
  (try simp only [Act.put, List.setIfInBounds_toArray, List.set_cons_zero, List.set_cons_succ])
  go_cut [40] (fun v40 wc => ∃ (kq : Nat) (x40_10 : Bool), v40 = .bool x40_10 ∧ Aside0 (laws_FnExactCheckpointLog.j0 kq t1139 t1162 x40_10 l0_0 l0_1 l0_2 a0_3 t1129 t1132 t1135 t1138 t1141 t1144 t1147 t1150 t1152 t1155 t1158 t1161 = some r) ∧ Aside0 (kq ≤ k) ∧ Aside0 (Kd.R Kd.string 9 wc w.heap.size (fun k_ => some k_ ≠ ((.slice Ao26 t1135.length co26) : Value).ownBlock ∧ some k_ ≠ ((.slice Ao30 t1141.length co30) : Value).ownBlock ∧ some k_ ≠ ((.slice Ao35 t1147.length co35) : Value).ownBlock ∧ some k_ ≠ ((.slice Ao38 t1152.length co38) : Value).ownBlock ∧ some k_ ≠ ((.slice Ao44 t1158.length co44) : Value).ownBlock) (.slice Ao22 t1129.length co22) t1129) ∧ Aside0 (Kd.R k72 72 wc w.heap.size (fun k_ => some k_ ≠ ((.slice Ao34 t1144.length co34) : Value).ownBlock ∧ some k_ ≠ ((.slice Ao43 t1155.length co43) : Value).ownBlock) (.slice Ao25 t1132.length co25) t1132) ∧ Aside0 (Kd.R Kd.string 9 wc w.heap.size (fun k_ => some k_ ≠ ((.slice Ao22 t1129.length co22) : Value).ownBlock ∧ some k_ ≠ ((.slice Ao30 t1141.length co30) : Value).ownBlock ∧ some k_ ≠ ((.slice Ao35 t1147.length co35) : Value).ownBlock ∧ some k_ ≠ ((.slice Ao38 t1152.length co38) : Value).ownBlock ∧ some k_ ≠ ((.slice Ao44 t1158.length co44) : Value).ownBlock) (.slice Ao26 t1135.length co26) t1135) ∧ Aside0 (Kd.R Kd.string 9 wc w.heap.size (fun k_ => some k_ ≠ ((.slice Ao22 t1129.length co22) : Value).ownBlock ∧ some k_ ≠ ((.slice Ao26 t1135.length co26) : Value).ownBlock ∧ some k_ ≠ ((.slice Ao35 t1147.length co35) : Value).ownBlock ∧ some k_ ≠ ((.slice Ao38 t1152.length co38) : Value).ownBlock ∧ some k_ ≠ ((.slice Ao44 t1158.length co44) : Value).ownBlock) (.slice Ao30 t1141.length co30) t1141) ∧ Aside0 (Kd.R k72 72 wc w.heap.size (fun k_ => some k_ ≠ ((.slice Ao25 t1132.length co25) : Value).ownBlock ∧ some k_ ≠ ((.slice Ao43 t1155.length co43) : Value).ownBlock) (.slice Ao34 t1144.length co34) t1144) ∧ Aside0 (Kd.R Kd.string 9 wc w.heap.size (fun k_ => some k_ ≠ ((.slice Ao22 t1129.length co22) : Value).ownBlock ∧ some k_ ≠ ((.slice Ao26 t1135.length co26) : Value).ownBlock ∧ some k_ ≠ ((.slice Ao30 t1141.length co30) : Value).ownBlock ∧ some k_ ≠ ((.slice Ao38 t1152.length co38) : Value).ownBlock ∧ some k_ ≠ ((.slice Ao44 t1158.length co44) : Value).ownBlock) (.slice Ao35 t1147.length co35) t1147) ∧ Aside0 (Kd.R Kd.string 9 wc w.heap.size (fun k_ => some k_ ≠ ((.slice Ao22 t1129.length co22) : Value).ownBlock ∧ some k_ ≠ ((.slice Ao26 t1135.length co26) : Value).ownBlock ∧ some k_ ≠ ((.slice Ao30 t1141.length co30) : Value).ownBlock ∧ some k_ ≠ ((.slice Ao35 t1147.length co35) : Value).ownBlock ∧ some k_ ≠ ((.slice Ao44 t1158.length co44) : Value).ownBlock) (.slice Ao38 t1152.length co38) t1152) ∧ Aside0 (Kd.R k72 72 wc w.heap.size (fun k_ => some k_ ≠ ((.slice Ao25 t1132.length co25) : Value).ownBlock ∧ some k_ ≠ ((.slice Ao34 t1144.length co34) : Value).ownBlock) (.slice Ao43 t1155.length co43) t1155) ∧ Aside0 (Kd.R Kd.string 9 wc w.heap.size (fun k_ => some k_ ≠ ((.slice Ao22 t1129.length co22) : Value).ownBlock ∧ some k_ ≠ ((.slice Ao26 t1135.length co26) : Value).ownBlock ∧ some k_ ≠ ((.slice Ao30 t1141.length co30) : Value).ownBlock ∧ some k_ ≠ ((.slice Ao35 t1147.length co35) : Value).ownBlock ∧ some k_ ≠ ((.slice Ao38 t1152.length co38) : Value).ownBlock) (.slice Ao44 t1158.length co44) t1158) ∧ Aside0 (wc.heap[gb1117]? = some (.cells #[(.slice A0_0 l0_0.length c0_0), (.slice A0_1 l0_1.length c0_1), (.slice A0_2 l0_2.length c0_2), .int .i64 a0_3] 38 (0, 0))) ∧ Aside0 (wc.heap[gb1140]? = some (.cells #[(.slice Ao22 t1129.length co22), (.slice Ao25 t1132.length co25), (.slice Ao26 t1135.length co26), .int .i64 t1138] 44 (0, 0))) ∧ Aside0 (wc.heap[gb1151]? = some (.cells #[(.slice Ao30 t1141.length co30), (.slice Ao34 t1144.length co34), (.slice Ao35 t1147.length co35), .int .i64 t1150] 44 (0, 0))) ∧ Aside0 (wc.heap[gb1163]? = some (.cells #[(.slice Ao38 t1152.length co38), (.slice Ao43 t1155.length co43), (.slice Ao44 t1158.length co44), .int .i64 t1161] 44 (0, 0))) ∧ Aside0 (Below w.heap.size w wc))
  case first =>
   have H := HC11.out
   clear HC11
   replace H := Option.bind_eq_some_iff.mp H
   obtain ⟨t1164, A450, H⟩ := H
   replace H : (if t1164 = true then (laws_FnExactCheckpointLog.j0 k t1139 t1162 (t1162 != t1139) l0_0 l0_1 l0_2 a0_3 t1129 t1132 t1135 t1138 t1141 t1144 t1147 t1150 t1152 t1155 t1158 t1161) else (laws_FnExactCheckpointLog.j0 k t1139 t1162 true l0_0 l0_1 l0_2 a0_3 t1129 t1132 t1135 t1138 t1141 t1144 t1147 t1150 t1152 t1155 t1158 t1161)) = some r := H
   have A45 := Aside0.mk A450
   clear A450
   by_cases c46 : t1164 = true
   ·
    subst c46
    rw [if_pos rfl] at H
    have H' := Aside0.mk H
    clear H
    have hnb47 := NB1163_1117.out
    have hnc47 := NB1117_1163.out
    have hnb48 := NB1163_1140.out
    have hnc48 := NB1140_1163.out
    have hnb49 := NB1163_1151.out
    have hnc49 := NB1151_1163.out
    obtain ⟨hcz50_0, hcz50_1, hcz50_2, hcz50_3⟩ := cz4 BK1163
    obtain ⟨hfz50_0, hfz50_1, hfz50_2, hfz50_3⟩ := fz4 BK1163
    have hnb51 := NB1140_1117.out
    have hnc51 := NB1117_1140.out
    have hnb52 := NB1140_1151.out
    have hnc52 := NB1151_1140.out
    obtain ⟨hcz53_0, hcz53_1, hcz53_2, hcz53_3⟩ := cz4 BK1140
    obtain ⟨hfz53_0, hfz53_1, hfz53_2, hfz53_3⟩ := fz4 BK1140
    go_wp2_with (first | ((with_reducible refine gate_callee (f := 29) rfl ?_); refine gL (some 34) rfl rfl Try.func29 (by kernel_rfl) rfl #[.agg #[.slice Ao38 t1152.length co38, .slice Ao43 t1155.length co43, .slice Ao44 t1158.length co44, .int .i64 t1161], .agg #[.slice Ao22 t1129.length co22, .slice Ao25 t1132.length co25, .slice Ao26 t1135.length co26, .int .i64 t1138]] rfl ?_; (with_reducible refine (laws_eqStore.calls k _ _ t1152 _ _ t1155 _ _ t1158 t1161 _ _ t1129 _ _ t1132 _ _ t1135 t1138 true _ ?side1 ?side2 ?side3 ?side4 ?side5 ?side6 ?side7 ?side8 ?side9 ?side10 ?side11 ?side12 A45.out).mono ?_); (case side1 => exact rc HO1154 BK1163); (case side2 => exact (Kd.R_reads' HO1154.out).2.1); (case side3 => exact rc HO1157 BK1163); (case side4 => exact (Kd.R_reads' HO1157.out).2.1); (case side5 => exact rc HO1160 BK1163); (case side6 => exact (Kd.R_reads' HO1160.out).2.1); (case side7 => exact rc HO1131 BK1163); (case side8 => exact (Kd.R_reads' HO1131.out).2.1); (case side9 => exact rc HO1134 BK1163); (case side10 => exact (Kd.R_reads' HO1134.out).2.1); (case side11 => exact rc HO1137 BK1163); (case side12 => exact (Kd.R_reads' HO1137.out).2.1); rintro e w54 ⟨rfl, hb⟩; refine ⟨_, rfl, ?_⟩; replace HO1121 := nf HO1121 BK1163 hb; replace HO1124 := nf HO1124 BK1163 hb; replace HO1127 := nf HO1127 BK1163 hb; replace HO1131 := nf HO1131 BK1163 hb; replace HO1134 := nf HO1134 BK1163 hb; replace HO1137 := nf HO1137 BK1163 hb; replace HO1143 := nf HO1143 BK1163 hb; replace HO1146 := nf HO1146 BK1163 hb; replace HO1149 := nf HO1149 BK1163 hb; replace HO1154 := nf HO1154 BK1163 hb; replace HO1157 := nf HO1157 BK1163 hb; replace HO1160 := nf HO1160 BK1163 hb; replace BK1117 := Aside0.mk (blk_below (bf BK1117 NB1117_1163) hb); replace BK1140 := Aside0.mk (blk_below (bf BK1140 NB1140_1163) hb); replace BK1151 := Aside0.mk (blk_below (bf BK1151 NB1151_1163) hb); replace BK1163 := Aside0.mk (blk_below (g := gb1163) (o := .cells #[.slice Ao38 t1152.length co38, .slice Ao43 t1155.length co43, .slice Ao44 t1158.length co44, .int .i64 t1161] 44 (0, 0)) (by (with_reducible repeat (first | refine blk_drewN ?_ _ | refine blk_drew ?_ | refine blk_alloc ?_ _)); refine blk_put (cs := #[.slice Ao38 t1152.length co38, .slice Ao43 t1155.length co43, .slice Ao44 t1158.length co44, .int .i64 0]) ?_ 3 _ rfl; (with_reducible repeat (first | refine blk_drewN ?_ _ | refine blk_drew ?_ | refine blk_alloc ?_ _)); refine blk_put (cs := #[.slice Ao38 t1152.length co38, .slice Ao43 t1155.length co43, .slice none 0 0, .int .i64 0]) ?_ 2 _ rfl; (with_reducible repeat (first | refine blk_drewN ?_ _ | refine blk_drew ?_ | refine blk_alloc ?_ _)); refine blk_put (cs := #[.slice Ao38 t1152.length co38, .slice none 0 0, .slice none 0 0, .int .i64 0]) ?_ 1 _ rfl; (with_reducible repeat (first | refine blk_drewN ?_ _ | refine blk_drew ?_ | refine blk_alloc ?_ _)); refine blk_put (cs := #[.slice none 0 0, .slice none 0 0, .slice none 0 0, .int .i64 0]) ?_ 0 _ rfl; (with_reducible repeat (first | refine blk_drewN ?_ _ | refine blk_drew ?_ | refine blk_alloc ?_ _)); exact BK1163.out) hb); replace HB := Aside0.mk (below_step (bs4 HB GE1117 GE1140 GE1151 GE1163) hb); (try clear hb); (try clear hb2); (try clear hk); (try clear hi)))
    go_meet
    case rel => exact ⟨_, ((t1162 != t1139)), (by first | rfl | (simp; done) | (simp [*]; done)), H', ⟨by first | omega | exact Nat.le_refl _⟩, rm HO1131 (fun _ hk => ⟨hk.1.1.1.1.1.1, ⟨hk.1.1.1.2, ⟨hk.1.1.2, ⟨hk.1.2, hk.2⟩⟩⟩⟩), rm HO1134 (fun _ hk => ⟨hk.1.2, hk.2⟩), rm HO1137 (fun _ hk => ⟨hk.1.1.1.1.1.1, ⟨hk.1.1.1.2, ⟨hk.1.1.2, ⟨hk.1.2, hk.2⟩⟩⟩⟩), rm HO1143 (fun _ hk => ⟨hk.1.1.1.2, ⟨hk.1.1.2, ⟨hk.1.1.1.1.1.1, ⟨hk.1.2, hk.2⟩⟩⟩⟩), rm HO1146 (fun _ hk => ⟨hk.1.2, hk.2⟩), rm HO1149 (fun _ hk => ⟨hk.1.1.1.2, ⟨hk.1.1.2, ⟨hk.1.1.1.1.1.1, ⟨hk.1.2, hk.2⟩⟩⟩⟩), rm HO1154 (fun _ hk => ⟨hk.1.1.1.2, ⟨hk.1.1.2, ⟨hk.1.2, ⟨hk.2, hk.1.1.1.1.1.1⟩⟩⟩⟩), rm HO1157 (fun _ hk => ⟨hk.1.2, hk.2⟩), rm HO1160 (fun _ hk => ⟨hk.1.1.1.2, ⟨hk.1.1.2, ⟨hk.1.2, ⟨hk.2, hk.1.1.1.1.1.1⟩⟩⟩⟩), ⟨bk BK1117⟩, ⟨bk BK1140⟩, ⟨bk BK1151⟩, ⟨bk BK1163⟩, ⟨bs4 HB GE1117 GE1140 GE1151 GE1163⟩⟩
   ·
    replace c46 := Bool.eq_false_iff.mpr c46
    subst c46
    rw [if_neg (show ¬ (false = true) by decide)] at H
    have H' := Aside0.mk H
    clear H
    have hnb55 := NB1163_1117.out
    have hnc55 := NB1117_1163.out
    have hnb56 := NB1163_1140.out
    have hnc56 := NB1140_1163.out
    have hnb57 := NB1163_1151.out
    have hnc57 := NB1151_1163.out
    obtain ⟨hcz58_0, hcz58_1, hcz58_2, hcz58_3⟩ := cz4 BK1163
    obtain ⟨hfz58_0, hfz58_1, hfz58_2, hfz58_3⟩ := fz4 BK1163
    have hnb59 := NB1140_1117.out
    have hnc59 := NB1117_1140.out
    have hnb60 := NB1140_1151.out
    have hnc60 := NB1151_1140.out
    obtain ⟨hcz61_0, hcz61_1, hcz61_2, hcz61_3⟩ := cz4 BK1140
    obtain ⟨hfz61_0, hfz61_1, hfz61_2, hfz61_3⟩ := fz4 BK1140
    go_wp2_with (first | ((with_reducible refine gate_callee (f := 29) rfl ?_); refine gL (some 34) rfl rfl Try.func29 (by kernel_rfl) rfl #[.agg #[.slice Ao38 t1152.length co38, .slice Ao43 t1155.length co43, .slice Ao44 t1158.length co44, .int .i64 t1161], .agg #[.slice Ao22 t1129.length co22, .slice Ao25 t1132.length co25, .slice Ao26 t1135.length co26, .int .i64 t1138]] rfl ?_; (with_reducible refine (laws_eqStore.calls k _ _ t1152 _ _ t1155 _ _ t1158 t1161 _ _ t1129 _ _ t1132 _ _ t1135 t1138 false _ ?side1 ?side2 ?side3 ?side4 ?side5 ?side6 ?side7 ?side8 ?side9 ?side10 ?side11 ?side12 A45.out).mono ?_); (case side1 => exact rc HO1154 BK1163); (case side2 => exact (Kd.R_reads' HO1154.out).2.1); (case side3 => exact rc HO1157 BK1163); (case side4 => exact (Kd.R_reads' HO1157.out).2.1); (case side5 => exact rc HO1160 BK1163); (case side6 => exact (Kd.R_reads' HO1160.out).2.1); (case side7 => exact rc HO1131 BK1163); (case side8 => exact (Kd.R_reads' HO1131.out).2.1); (case side9 => exact rc HO1134 BK1163); (case side10 => exact (Kd.R_reads' HO1134.out).2.1); (case side11 => exact rc HO1137 BK1163); (case side12 => exact (Kd.R_reads' HO1137.out).2.1); rintro e w62 ⟨rfl, hb⟩; refine ⟨_, rfl, ?_⟩; replace HO1121 := nf HO1121 BK1163 hb; replace HO1124 := nf HO1124 BK1163 hb; replace HO1127 := nf HO1127 BK1163 hb; replace HO1131 := nf HO1131 BK1163 hb; replace HO1134 := nf HO1134 BK1163 hb; replace HO1137 := nf HO1137 BK1163 hb; replace HO1143 := nf HO1143 BK1163 hb; replace HO1146 := nf HO1146 BK1163 hb; replace HO1149 := nf HO1149 BK1163 hb; replace HO1154 := nf HO1154 BK1163 hb; replace HO1157 := nf HO1157 BK1163 hb; replace HO1160 := nf HO1160 BK1163 hb; replace BK1117 := Aside0.mk (blk_below (bf BK1117 NB1117_1163) hb); replace BK1140 := Aside0.mk (blk_below (bf BK1140 NB1140_1163) hb); replace BK1151 := Aside0.mk (blk_below (bf BK1151 NB1151_1163) hb); replace BK1163 := Aside0.mk (blk_below (g := gb1163) (o := .cells #[.slice Ao38 t1152.length co38, .slice Ao43 t1155.length co43, .slice Ao44 t1158.length co44, .int .i64 t1161] 44 (0, 0)) (by (with_reducible repeat (first | refine blk_drewN ?_ _ | refine blk_drew ?_ | refine blk_alloc ?_ _)); refine blk_put (cs := #[.slice Ao38 t1152.length co38, .slice Ao43 t1155.length co43, .slice Ao44 t1158.length co44, .int .i64 0]) ?_ 3 _ rfl; (with_reducible repeat (first | refine blk_drewN ?_ _ | refine blk_drew ?_ | refine blk_alloc ?_ _)); refine blk_put (cs := #[.slice Ao38 t1152.length co38, .slice Ao43 t1155.length co43, .slice none 0 0, .int .i64 0]) ?_ 2 _ rfl; (with_reducible repeat (first | refine blk_drewN ?_ _ | refine blk_drew ?_ | refine blk_alloc ?_ _)); refine blk_put (cs := #[.slice Ao38 t1152.length co38, .slice none 0 0, .slice none 0 0, .int .i64 0]) ?_ 1 _ rfl; (with_reducible repeat (first | refine blk_drewN ?_ _ | refine blk_drew ?_ | refine blk_alloc ?_ _)); refine blk_put (cs := #[.slice none 0 0, .slice none 0 0, .slice none 0 0, .int .i64 0]) ?_ 0 _ rfl; (with_reducible repeat (first | refine blk_drewN ?_ _ | refine blk_drew ?_ | refine blk_alloc ?_ _)); exact BK1163.out) hb); replace HB := Aside0.mk (below_step (bs4 HB GE1117 GE1140 GE1151 GE1163) hb); (try clear hb); (try clear hb2); (try clear hk); (try clear hi)))
    go_meet
    case rel => exact ⟨_, (true), (by first | rfl | (simp; done) | (simp [*]; done)), H', ⟨by first | omega | exact Nat.le_refl _⟩, rm HO1131 (fun _ hk => ⟨hk.1.1.1.1.1.1, ⟨hk.1.1.1.2, ⟨hk.1.1.2, ⟨hk.1.2, hk.2⟩⟩⟩⟩), rm HO1134 (fun _ hk => ⟨hk.1.2, hk.2⟩), rm HO1137 (fun _ hk => ⟨hk.1.1.1.1.1.1, ⟨hk.1.1.1.2, ⟨hk.1.1.2, ⟨hk.1.2, hk.2⟩⟩⟩⟩), rm HO1143 (fun _ hk => ⟨hk.1.1.1.2, ⟨hk.1.1.2, ⟨hk.1.1.1.1.1.1, ⟨hk.1.2, hk.2⟩⟩⟩⟩), rm HO1146 (fun _ hk => ⟨hk.1.2, hk.2⟩), rm HO1149 (fun _ hk => ⟨hk.1.1.1.2, ⟨hk.1.1.2, ⟨hk.1.1.1.1.1.1, ⟨hk.1.2, hk.2⟩⟩⟩⟩), rm HO1154 (fun _ hk => ⟨hk.1.1.1.2, ⟨hk.1.1.2, ⟨hk.1.2, ⟨hk.2, hk.1.1.1.1.1.1⟩⟩⟩⟩), rm HO1157 (fun _ hk => ⟨hk.1.2, hk.2⟩), rm HO1160 (fun _ hk => ⟨hk.1.1.1.2, ⟨hk.1.1.2, ⟨hk.1.2, ⟨hk.2, hk.1.1.1.1.1.1⟩⟩⟩⟩), ⟨bk BK1117⟩, ⟨bk BK1140⟩, ⟨bk BK1151⟩, ⟨bk BK1163⟩, ⟨bs4 HB GE1117 GE1140 GE1151 GE1163⟩⟩
  case rest =>
   clear HC11
   try clear c1
   try clear c2
   try clear p2
   try clear c3
   try clear c3b0
   try clear c4
   try clear c5
   try clear c6
   try clear c12
   try clear c23
   try clear c25
   try clear c27
   try clear c29
   try clear c31
   try clear c32
   try clear c39
   try clear c40
   try clear c41
   try clear c46
   try clear c47
   try clear c48
   try clear c49
   try clear c51
   try clear c52
   try clear c55
   try clear c56
   try clear c57
   try clear c59
   try clear c60
   try clear hcz13_0 hcz13_1 hcz13_2 hcz13_3
   try clear hcz15_0 hcz15_1 hcz15_2 hcz15_3
   try clear hcz24_0 hcz24_1 hcz24_2 hcz24_3
   try clear hcz27_0 hcz27_1 hcz27_2 hcz27_3
   try clear hcz33_0 hcz33_1 hcz33_2 hcz33_3
   try clear hcz42_0 hcz42_1 hcz42_2 hcz42_3
   try clear hcz50_0 hcz50_1 hcz50_2 hcz50_3
   try clear hcz53_0 hcz53_1 hcz53_2 hcz53_3
   try clear hcz58_0 hcz58_1 hcz58_2 hcz58_3
   try clear hcz5_0 hcz5_1 hcz5_2 hcz5_3
   try clear hcz61_0 hcz61_1 hcz61_2 hcz61_3
   try clear hfz13_0 hfz13_1 hfz13_2 hfz13_3
   try clear hfz15_0 hfz15_1 hfz15_2 hfz15_3
   try clear hfz24_0 hfz24_1 hfz24_2 hfz24_3
   try clear hfz27_0 hfz27_1 hfz27_2 hfz27_3
   try clear hfz33_0 hfz33_1 hfz33_2 hfz33_3
   try clear hfz42_0 hfz42_1 hfz42_2 hfz42_3
   try clear hfz50_0 hfz50_1 hfz50_2 hfz50_3
   try clear hfz53_0 hfz53_1 hfz53_2 hfz53_3
   try clear hfz58_0 hfz58_1 hfz58_2 hfz58_3
   try clear hfz5_0 hfz5_1 hfz5_2 hfz5_3
   try clear hfz61_0 hfz61_1 hfz61_2 hfz61_3
   obtain ⟨kq, x40_10, rfl, HA, HJ10, HO_1141000, HO_1141001, HO_1141002, HO_1152000, HO_1152001, HO_1152002, HO_1164000, HO_1164001, HO_1164002, BK1117, BK1140, BK1151, BK1163, HB⟩ := hcut
   cases kq with
   | zero => exact absurd HA.out (by simp [laws_FnExactCheckpointLog.j0])
   | succ kj10 =>
    have H := HA.out
    clear HA
    simp only [laws_FnExactCheckpointLog.j0] at H
    by_cases c63 : x40_10 = true
    ·
     subst c63
     rw [if_pos rfl] at H
     obtain rfl := Option.some.inj H
     go_wp2
     go_ret
     exact ⟨by first | rfl | (simp [errW_none, errW_some] <;> rfl) | (simp [*, errW_none, errW_some] <;> rfl), bs4 HB GE1117 GE1140 GE1151 GE1163⟩
    ·
     replace c63 := Bool.eq_false_iff.mpr c63
     subst c63
     rw [if_neg (show ¬ (false = true) by decide)] at H
     replace H := Option.bind_eq_some_iff.mp H
     obtain ⟨⟨t1165, t1168, t1171, t1174⟩, A640, H⟩ := H
     replace H : ((laws_eqStore.f kj10 t1141 t1144 t1147 t1150 t1165 t1168 t1171 t1174).bind fun t1175 => (if t1175 = true then ((laws_markStore.f kj10 t1141 t1144 t1147 t1150 1).bind fun bt1176 => (if bt1176.1 < 0 then (laws_FnExactCheckpointLog.j1 kj10 t1139 true l0_0 l0_1 l0_2 a0_3 t1129 t1132 t1135 t1138 t1152 t1155 t1158 t1161) else ((laws_eqStore.f kj10 t1152 t1155 t1158 t1161 t1129 t1132 t1135 t1138).bind fun t1180 => (if t1180 = true then (laws_FnExactCheckpointLog.j1 kj10 t1139 (t1162 != t1139) l0_0 l0_1 l0_2 a0_3 t1129 t1132 t1135 t1138 t1152 t1155 t1158 t1161) else (laws_FnExactCheckpointLog.j1 kj10 t1139 true l0_0 l0_1 l0_2 a0_3 t1129 t1132 t1135 t1138 t1152 t1155 t1158 t1161))))) else (some false))) = some r := H
     have A64 := Aside0.mk A640
     clear A640
     replace H := Option.bind_eq_some_iff.mp H
     obtain ⟨t1175, A650, H⟩ := H
     replace H : (if t1175 = true then ((laws_markStore.f kj10 t1141 t1144 t1147 t1150 1).bind fun bt1176 => (if bt1176.1 < 0 then (laws_FnExactCheckpointLog.j1 kj10 t1139 true l0_0 l0_1 l0_2 a0_3 t1129 t1132 t1135 t1138 t1152 t1155 t1158 t1161) else ((laws_eqStore.f kj10 t1152 t1155 t1158 t1161 t1129 t1132 t1135 t1138).bind fun t1180 => (if t1180 = true then (laws_FnExactCheckpointLog.j1 kj10 t1139 (t1162 != t1139) l0_0 l0_1 l0_2 a0_3 t1129 t1132 t1135 t1138 t1152 t1155 t1158 t1161) else (laws_FnExactCheckpointLog.j1 kj10 t1139 true l0_0 l0_1 l0_2 a0_3 t1129 t1132 t1135 t1138 t1152 t1155 t1158 t1161))))) else (some false)) = some r := H
     have A65 := Aside0.mk A650
     clear A650
     by_cases c66 : t1175 = true
     ·
      subst c66
      rw [if_pos rfl] at H
      replace H := Option.bind_eq_some_iff.mp H
      obtain ⟨⟨t1176, t1177, t1178, t1179⟩, A670, H⟩ := H
      replace H : (if t1176 < 0 then (laws_FnExactCheckpointLog.j1 kj10 t1139 true l0_0 l0_1 l0_2 a0_3 t1129 t1132 t1135 t1138 t1152 t1155 t1158 t1161) else ((laws_eqStore.f kj10 t1152 t1155 t1158 t1161 t1129 t1132 t1135 t1138).bind fun t1180 => (if t1180 = true then (laws_FnExactCheckpointLog.j1 kj10 t1139 (t1162 != t1139) l0_0 l0_1 l0_2 a0_3 t1129 t1132 t1135 t1138 t1152 t1155 t1158 t1161) else (laws_FnExactCheckpointLog.j1 kj10 t1139 true l0_0 l0_1 l0_2 a0_3 t1129 t1132 t1135 t1138 t1152 t1155 t1158 t1161)))) = some r := H
      have A67 := Aside0.mk A670
      clear A670
      have HC68 := Aside0.mk H
      clear H
      try go_wp2
      have n0_ := Aside0.mk (Kd.R_drew HO_1141000.out)
      have n1_ := Aside0.mk (Kd.R_drew HO_1141001.out)
      have n2_ := Aside0.mk (Kd.R_drew HO_1141002.out)
      have n3_ := Aside0.mk (Kd.R_drew HO_1152000.out)
      have n4_ := Aside0.mk (Kd.R_drew HO_1152001.out)
      have n5_ := Aside0.mk (Kd.R_drew HO_1152002.out)
      have n6_ := Aside0.mk (Kd.R_drew HO_1164000.out)
      have n7_ := Aside0.mk (Kd.R_drew HO_1164001.out)
      have n8_ := Aside0.mk (Kd.R_drew HO_1164002.out)
      have n9_ := Aside0.mk (blk_drew BK1117.out)
      have n10_ := Aside0.mk (blk_drew BK1140.out)
      have n11_ := Aside0.mk (blk_drew BK1151.out)
      have n12_ := Aside0.mk (blk_drew BK1163.out)
      have n13_ := Aside0.mk (below_drew1 HB.out)
      clear HO_1141000
      clear HO_1141001
      clear HO_1141002
      clear HO_1152000
      clear HO_1152001
      clear HO_1152002
      clear HO_1164000
      clear HO_1164001
      clear HO_1164002
      clear BK1117
      clear BK1140
      clear BK1151
      clear BK1163
      clear HB
      have HO_1141000 := n0_
      have HO_1141001 := n1_
      have HO_1141002 := n2_
      have HO_1152000 := n3_
      have HO_1152001 := n4_
      have HO_1152002 := n5_
      have HO_1164000 := n6_
      have HO_1164001 := n7_
      have HO_1164002 := n8_
      have BK1117 := n9_
      have BK1140 := n10_
      have BK1151 := n11_
      have BK1163 := n12_
      have HB := n13_
      clear n0_ n1_ n2_ n3_ n4_ n5_ n6_ n7_ n8_ n9_ n10_ n11_ n12_ n13_
      refine start_ (n := 5) (S := fun w' => w'.cell? ⟨gb1151, 0, none⟩ = some (.slice Ao30 t1141.length co30) ∧ w'.cell? ⟨gb1151, 1, none⟩ = some (.slice Ao34 t1144.length co34) ∧ w'.cell? ⟨gb1151, 2, none⟩ = some (.slice Ao35 t1147.length co35) ∧ w'.cell? ⟨gb1151, 3, none⟩ = some (.int .i64 t1150) ∧ w'.cell? ⟨gb1117, 0, none⟩ = some (.slice A0_0 l0_0.length c0_0) ∧ w'.cell? ⟨gb1117, 1, none⟩ = some (.slice A0_1 l0_1.length c0_1) ∧ w'.cell? ⟨gb1117, 2, none⟩ = some (.slice A0_2 l0_2.length c0_2) ∧ w'.cell? ⟨gb1117, 3, none⟩ = some (.int .i64 a0_3)) (ds := []) #[false, false, false, false, false] (by kernel_rfl) rfl rfl ⟨(blk_cell BK1151.out 0).trans rfl, (blk_cell BK1151.out 1).trans rfl, (blk_cell BK1151.out 2).trans rfl, (blk_cell BK1151.out 3).trans rfl, (blk_cell BK1117.out 0).trans rfl, (blk_cell BK1117.out 1).trans rfl, (blk_cell BK1117.out 2).trans rfl, (blk_cell BK1117.out 3).trans rfl⟩ (fun hHeld => ?_)
      generalize wc.drew = w69 at HO_1141000 HO_1141001 HO_1141002 HO_1152000 HO_1152001 HO_1152002 HO_1164000 HO_1164001 HO_1164002 BK1117 BK1140 BK1151 BK1163 HB hHeld ⊢
      refine take_ (i := 0) (N := some 41) (v := ?_) (a' := ?_) #[true, false, false, false, false] rfl rfl (by kernel_rfl) (fun _ _ _ h => h) (Or.inl ⟨by rfl, ?_⟩) hHeld ?_ ?_
      rotate_left
      ·
       rintro w' ⟨s0, s1, s2, s3, s4, s5, s6, s7⟩
       go_simp
       with_reducible rfl
      rotate_left
      ·
       simp only [Act.put, List.setIfInBounds_toArray, List.set_cons_zero, List.set_cons_succ, i64_w, i32_w]
       rfl
      refine take_ (i := 1) (N := some 42) (v := ?_) (a' := ?_) #[true, true, false, false, false] rfl rfl (by kernel_rfl) (fun _ _ _ h => h) (Or.inl ⟨by rfl, ?_⟩) hHeld ?_ ?_
      rotate_left
      ·
       rintro w' ⟨s0, s1, s2, s3, s4, s5, s6, s7⟩
       go_simp
       with_reducible rfl
      rotate_left
      ·
       simp only [Act.put, List.setIfInBounds_toArray, List.set_cons_zero, List.set_cons_succ, i64_w, i32_w]
       rfl
      refine one_ (i := 2) (N := some 43) #[true, true, true, false, false] rfl rfl (by kernel_rfl) (by decide) (fun K hK => ?_)
      refine goes_ Try.func27 (by kernel_rfl) rfl #[.agg #[.slice A0_0 l0_0.length c0_0, .slice A0_1 l0_1.length c0_1, .slice A0_2 l0_2.length c0_2, .int .i64 a0_3]] (by rfl) rfl rfl (by (try simp only [List.map_toArray, List.map_cons, List.map_nil]); first | done | rfl | (simp only [List.length_drop, List.length_take]; rfl)) ?_
      with_reducible refine (laws_toStore.calls kj10 _ _ l0_0 _ _ l0_1 _ _ l0_2 a0_3 t1165 t1168 t1171 t1174 _ ?side1 ?side2 ?side3 ?side4 ?side5 ?side6 A64.out).mono ?_
      (case side1 => exact cb HR0_0 HB)
      (case side2 => exact HC0_0.out)
      (case side3 => exact cb HR0_1 HB)
      (case side4 => exact HC0_1.out)
      (case side5 => exact cb HR0_2 HB)
      (case side6 => exact HC0_2.out)
      rintro e w70 ⟨v1166, v1169, v1172, rfl, ho0, ho1, ho2, hb⟩
      refine ⟨_, rfl, ?_⟩
      have n0_ := Aside0.mk (Kd.R_mono (Kd.R_told (Kd.R_told (Kd.R_old (rr HO_1141000.out) hb) (Kd.R_base ho0)) (Kd.R_base ho2)) (fun _ h_ => h_.1))
      have n1_ := Aside0.mk (Kd.R_elder' (rr HO_1141001.out) (Kd.R_base ho1) hb)
      have n2_ := Aside0.mk (Kd.R_mono (Kd.R_told (Kd.R_told (Kd.R_old (rr HO_1141002.out) hb) (Kd.R_base ho0)) (Kd.R_base ho2)) (fun _ h_ => h_.1))
      have n3_ := Aside0.mk (Kd.R_mono (Kd.R_told (Kd.R_told (Kd.R_old (rr HO_1152000.out) hb) (Kd.R_base ho0)) (Kd.R_base ho2)) (fun _ h_ => h_.1))
      have n4_ := Aside0.mk (Kd.R_elder' (rr HO_1152001.out) (Kd.R_base ho1) hb)
      have n5_ := Aside0.mk (Kd.R_mono (Kd.R_told (Kd.R_told (Kd.R_old (rr HO_1152002.out) hb) (Kd.R_base ho0)) (Kd.R_base ho2)) (fun _ h_ => h_.1))
      have n6_ := Aside0.mk (Kd.R_mono (Kd.R_told (Kd.R_told (Kd.R_old (rr HO_1164000.out) hb) (Kd.R_base ho0)) (Kd.R_base ho2)) (fun _ h_ => h_.1))
      have n7_ := Aside0.mk (Kd.R_elder' (rr HO_1164001.out) (Kd.R_base ho1) hb)
      have n8_ := Aside0.mk (Kd.R_mono (Kd.R_told (Kd.R_told (Kd.R_old (rr HO_1164002.out) hb) (Kd.R_base ho0)) (Kd.R_base ho2)) (fun _ h_ => h_.1))
      have n9_ := Aside0.mk (Kd.R_lower (Kd.R_new' (Kd.R_new' (Kd.R_new' (Kd.R_new' (Kd.R_new' (Kd.R_new' ho0 (Kd.R_lt (rr HO_1141000.out))) (Kd.R_lt (rr HO_1141002.out))) (Kd.R_lt (rr HO_1152000.out))) (Kd.R_lt (rr HO_1152002.out))) (Kd.R_lt (rr HO_1164000.out))) (Kd.R_lt (rr HO_1164002.out))) (below_size (bs4 HB GE1117 GE1140 GE1151 GE1163)))
      have n10_ := Aside0.mk (Kd.R_lower (Kd.R_new' (Kd.R_new' (Kd.R_new' ho1 (Kd.R_lt (rr HO_1141001.out))) (Kd.R_lt (rr HO_1152001.out))) (Kd.R_lt (rr HO_1164001.out))) (below_size (bs4 HB GE1117 GE1140 GE1151 GE1163)))
      have n11_ := Aside0.mk (Kd.R_lower (Kd.R_new' (Kd.R_new' (Kd.R_new' (Kd.R_new' (Kd.R_new' (Kd.R_new' ho2 (Kd.R_lt (rr HO_1141000.out))) (Kd.R_lt (rr HO_1141002.out))) (Kd.R_lt (rr HO_1152000.out))) (Kd.R_lt (rr HO_1152002.out))) (Kd.R_lt (rr HO_1164000.out))) (Kd.R_lt (rr HO_1164002.out))) (below_size (bs4 HB GE1117 GE1140 GE1151 GE1163)))
      have n12_ := Aside0.mk (bb BK1117 hb)
      have n13_ := Aside0.mk (bb BK1140 hb)
      have n14_ := Aside0.mk (bb BK1151 hb)
      have n15_ := Aside0.mk (bb BK1163 hb)
      have n16_ := Aside0.mk (below_step (bs4 HB GE1117 GE1140 GE1151 GE1163) hb)
      clear HO_1141000
      clear HO_1141001
      clear HO_1141002
      clear HO_1152000
      clear HO_1152001
      clear HO_1152002
      clear HO_1164000
      clear HO_1164001
      clear HO_1164002
      clear BK1117
      clear BK1140
      clear BK1151
      clear BK1163
      clear HB
      have HO_1141000 := n0_
      have HO_1141001 := n1_
      have HO_1141002 := n2_
      have HO_1152000 := n3_
      have HO_1152001 := n4_
      have HO_1152002 := n5_
      have HO_1164000 := n6_
      have HO_1164001 := n7_
      have HO_1164002 := n8_
      have HO1167 := n9_
      have HO1170 := n10_
      have HO1173 := n11_
      have BK1117 := n12_
      have BK1140 := n13_
      have BK1151 := n14_
      have BK1163 := n15_
      have HB := n16_
      clear n0_ n1_ n2_ n3_ n4_ n5_ n6_ n7_ n8_ n9_ n10_ n11_ n12_ n13_ n14_ n15_ n16_
      (try clear hb)
      (try clear hb2)
      (try clear hk)
      (try clear hi)
      (try clear ho0)
      (try clear ho1)
      (try clear ho2)
      obtain ⟨Ao71, co71, eo71⟩ := Kd.R_slice HO1167.out
      (first | subst eo71 | (injection eo71 with f1_ f2_ f3_; have f4_ := f1_.symm; have f5_ := f3_.symm; clear f1_ f2_ f3_; subst f4_; subst f5_))
      obtain ⟨Ao72, co72, eo72⟩ := Kd.R_slice HO1170.out
      (first | subst eo72 | (injection eo72 with f1_ f2_ f3_; have f4_ := f1_.symm; have f5_ := f3_.symm; clear f1_ f2_ f3_; subst f4_; subst f5_))
      obtain ⟨Ao73, co73, eo73⟩ := Kd.R_slice HO1173.out
      (first | subst eo73 | (injection eo73 with f1_ f2_ f3_; have f4_ := f1_.symm; have f5_ := f3_.symm; clear f1_ f2_ f3_; subst f4_; subst f5_))
      refine hK.out _ _ ⟨(blk_cell BK1151.out 0).trans rfl, (blk_cell BK1151.out 1).trans rfl, (blk_cell BK1151.out 2).trans rfl, (blk_cell BK1151.out 3).trans rfl, (blk_cell BK1117.out 0).trans rfl, (blk_cell BK1117.out 1).trans rfl, (blk_cell BK1117.out 2).trans rfl, (blk_cell BK1117.out 3).trans rfl⟩ (fun hHeld => ?_)
      clear hK K
      refine norm_ (a' := ?_) ?_ ?_
      rotate_left
      ·
       show Act.put _ (some 43) _ = _
       simp only [Act.put, List.setIfInBounds_toArray, List.set_cons_zero, List.set_cons_succ, i64_w, i32_w]
       rfl
      refine one_ (i := 3) (N := some 44) #[true, true, true, true, false] rfl rfl (by kernel_rfl) (by decide) (fun K hK => ?_)
      refine goes_ Try.func29 (by kernel_rfl) rfl #[.agg #[.slice Ao30 t1141.length co30, .slice Ao34 t1144.length co34, .slice Ao35 t1147.length co35, .int .i64 t1150], .agg #[.slice Ao71 t1165.length co71, .slice Ao72 t1168.length co72, .slice Ao73 t1171.length co73, .int .i64 t1174]] (by rfl) rfl rfl (by (try simp only [List.map_toArray, List.map_cons, List.map_nil]); first | done | rfl | (simp only [List.length_drop, List.length_take]; rfl)) ?_
      with_reducible refine (laws_eqStore.calls kj10 _ _ t1141 _ _ t1144 _ _ t1147 t1150 _ _ t1165 _ _ t1168 _ _ t1171 t1174 true _ ?side1 ?side2 ?side3 ?side4 ?side5 ?side6 ?side7 ?side8 ?side9 ?side10 ?side11 ?side12 A65.out).mono ?_
      (case side1 => exact rc0 HO_1152000)
      (case side2 => exact (Kd.R_reads' HO_1152000.out).2.1)
      (case side3 => exact rc0 HO_1152001)
      (case side4 => exact (Kd.R_reads' HO_1152001.out).2.1)
      (case side5 => exact rc0 HO_1152002)
      (case side6 => exact (Kd.R_reads' HO_1152002.out).2.1)
      (case side7 => exact rc0 HO1167)
      (case side8 => exact (Kd.R_reads' HO1167.out).2.1)
      (case side9 => exact rc0 HO1170)
      (case side10 => exact (Kd.R_reads' HO1170.out).2.1)
      (case side11 => exact rc0 HO1173)
      (case side12 => exact (Kd.R_reads' HO1173.out).2.1)
      rintro e w74 ⟨rfl, hb⟩
      refine ⟨_, rfl, ?_⟩
      have n0_ := Aside0.mk (Kd.R_below (rr HO_1141000.out) hb)
      have n1_ := Aside0.mk (Kd.R_below (rr HO_1141001.out) hb)
      have n2_ := Aside0.mk (Kd.R_below (rr HO_1141002.out) hb)
      have n3_ := Aside0.mk (Kd.R_below (rr HO_1152000.out) hb)
      have n4_ := Aside0.mk (Kd.R_below (rr HO_1152001.out) hb)
      have n5_ := Aside0.mk (Kd.R_below (rr HO_1152002.out) hb)
      have n6_ := Aside0.mk (Kd.R_below (rr HO_1164000.out) hb)
      have n7_ := Aside0.mk (Kd.R_below (rr HO_1164001.out) hb)
      have n8_ := Aside0.mk (Kd.R_below (rr HO_1164002.out) hb)
      have n9_ := Aside0.mk (Kd.R_below (rr HO1167.out) hb)
      have n10_ := Aside0.mk (Kd.R_below (rr HO1170.out) hb)
      have n11_ := Aside0.mk (Kd.R_below (rr HO1173.out) hb)
      have n12_ := Aside0.mk (bb BK1117 hb)
      have n13_ := Aside0.mk (bb BK1140 hb)
      have n14_ := Aside0.mk (bb BK1151 hb)
      have n15_ := Aside0.mk (bb BK1163 hb)
      have n16_ := Aside0.mk (below_step (bs4 HB GE1117 GE1140 GE1151 GE1163) hb)
      clear HO_1141000
      clear HO_1141001
      clear HO_1141002
      clear HO_1152000
      clear HO_1152001
      clear HO_1152002
      clear HO_1164000
      clear HO_1164001
      clear HO_1164002
      clear HO1167
      clear HO1170
      clear HO1173
      clear BK1117
      clear BK1140
      clear BK1151
      clear BK1163
      clear HB
      have HO_1141000 := n0_
      have HO_1141001 := n1_
      have HO_1141002 := n2_
      have HO_1152000 := n3_
      have HO_1152001 := n4_
      have HO_1152002 := n5_
      have HO_1164000 := n6_
      have HO_1164001 := n7_
      have HO_1164002 := n8_
      have HO1167 := n9_
      have HO1170 := n10_
      have HO1173 := n11_
      have BK1117 := n12_
      have BK1140 := n13_
      have BK1151 := n14_
      have BK1163 := n15_
      have HB := n16_
      clear n0_ n1_ n2_ n3_ n4_ n5_ n6_ n7_ n8_ n9_ n10_ n11_ n12_ n13_ n14_ n15_ n16_
      (try clear hb)
      (try clear hb2)
      (try clear hk)
      (try clear hi)
      refine hK.out _ _ ⟨(blk_cell BK1151.out 0).trans rfl, (blk_cell BK1151.out 1).trans rfl, (blk_cell BK1151.out 2).trans rfl, (blk_cell BK1151.out 3).trans rfl, (blk_cell BK1117.out 0).trans rfl, (blk_cell BK1117.out 1).trans rfl, (blk_cell BK1117.out 2).trans rfl, (blk_cell BK1117.out 3).trans rfl⟩ (fun hHeld => ?_)
      clear hK K
      refine norm_ (a' := ?_) ?_ ?_
      rotate_left
      ·
       show Act.put _ (some 44) _ = _
       simp only [Act.put, List.setIfInBounds_toArray, List.set_cons_zero, List.set_cons_succ, i64_w, i32_w]
       rfl
      refine pure_ (i := 4) (N := some 45) (v := ?_) (a' := ?_) #[true, true, true, true, true] rfl rfl (by kernel_rfl) (fun _ _ _ h => h) (Or.inl ⟨by rfl, ?_⟩) ?_ ?_
      rotate_left
      ·
       intro w'
       go_simp
       with_reducible rfl
      rotate_left
      ·
       simp only [Act.put, List.setIfInBounds_toArray, List.set_cons_zero, List.set_cons_succ, i64_w, i32_w]
       rfl
      refine done_ (by kernel_rfl) ?_
      have hnb75 := NB1151_1117.out
      have hnc75 := NB1117_1151.out
      have hnb76 := NB1151_1140.out
      have hnc76 := NB1140_1151.out
      have hnb77 := NB1151_1163.out
      have hnc77 := NB1163_1151.out
      obtain ⟨hcz78_0, hcz78_1, hcz78_2, hcz78_3⟩ := cz4 BK1151
      obtain ⟨hfz78_0, hfz78_1, hfz78_2, hfz78_3⟩ := fz4 BK1151
      go_upto_region 14 with (first | ((with_reducible refine gate_callee (f := 32) rfl ?_); refine gL (some 48) rfl rfl Try.func32 (by kernel_rfl) rfl #[.agg #[.slice Ao30 t1141.length co30, .slice Ao34 t1144.length co34, .slice Ao35 t1147.length co35, .int .i64 t1150], .int .i64 1] rfl ?_; (with_reducible refine (laws_markStore.calls kj10 (fun k_ => some k_ = (.slice Ao30 t1141.length co30 : Value).ownBlock) (.slice Ao30 t1141.length co30) t1141 (fun k_ => some k_ = (.slice Ao34 t1144.length co34 : Value).ownBlock) (.slice Ao34 t1144.length co34) t1144 (fun k_ => some k_ = (.slice Ao35 t1147.length co35 : Value).ownBlock) (.slice Ao35 t1147.length co35) t1147 t1150 1 t1176 t1177 t1178 t1179 w _ ?side1 ?side2 ?side3 ?side4 ?side5 ?side6 A67.out).mono ?_); (case side1 => repeat (first | (with_reducible first | exact HB.out | apply below_alloc | apply pw_below_drewN | apply below_drew1 | refine below_set ?_ GE1117.out | refine below_set ?_ GE1140.out | refine below_set ?_ GE1151.out | refine below_set ?_ GE1163.out) | exact HB.out)); (case side2 => exact Kd.R_tight rfl HO_1152000.out); (case side3 => exact fun k_ e_ => (HO_1152000.out.1 k_ e_.symm).1.1.2.2.1); (case side4 => exact Kd.R_tight rfl HO_1152001.out); (case side5 => exact Kd.R_tight rfl HO_1152002.out); (case side6 => exact fun k_ e_ => (HO_1152002.out.1 k_ e_.symm).1.1.2.2.1); rintro e w79 ⟨rfl, hy0, hy1, hy2, hb, hkp⟩; refine ⟨_, rfl, ?_⟩; replace HO_1141000 := Aside0.mk (Kd.R_mono (ok' := fun k_ => some k_ ≠ (.slice Ao26 t1135.length co26 : Value).ownBlock ∧ some k_ ≠ (.slice Ao30 t1141.length co30 : Value).ownBlock ∧ some k_ ≠ (.slice Ao35 t1147.length co35 : Value).ownBlock ∧ some k_ ≠ (.slice Ao38 t1152.length co38 : Value).ownBlock ∧ some k_ ≠ (.slice Ao44 t1158.length co44 : Value).ownBlock ∧ some k_ ≠ (.slice Ao71 t1165.length co71 : Value).ownBlock ∧ some k_ ≠ (.slice Ao73 t1171.length co73 : Value).ownBlock) (Kd.R_keptB ((Kd.R_apart' HO_1141000.out (Kd.R_typed HO_1152001.out) (by decide))) hkp (fun k_ hk_ hs_ => Or.elim hs_ (fun e_ => (hk_.1.1.1.2.1) e_) (fun e_ => Or.elim e_ (fun e_ => (hk_.2) e_) (fun e_ => (hk_.1.1.1.2.2.1) e_)))) (fun k_ hk_ => ⟨hk_.1.1.1.1.1, hk_.1.1.1.1.2.1, hk_.1.1.1.1.2.2.1, hk_.1.1.1.1.2.2.2.1, hk_.1.1.1.1.2.2.2.2, hk_.1.1.1.2, hk_.1.1.2⟩)); replace HO_1141001 := Aside0.mk (Kd.R_mono (ok' := fun k_ => some k_ ≠ (.slice Ao34 t1144.length co34 : Value).ownBlock ∧ some k_ ≠ (.slice Ao43 t1155.length co43 : Value).ownBlock ∧ some k_ ≠ (.slice Ao72 t1168.length co72 : Value).ownBlock) (Kd.R_keptB ((Kd.R_apart' (Kd.R_apart' HO_1141001.out (Kd.R_typed HO_1152000.out) (by decide)) (Kd.R_typed HO_1152002.out) (by decide))) hkp (fun k_ hk_ hs_ => Or.elim hs_ (fun e_ => (hk_.1.2) e_) (fun e_ => Or.elim e_ (fun e_ => (hk_.1.1.1.1) e_) (fun e_ => (hk_.2) e_)))) (fun k_ hk_ => ⟨hk_.1.1.1.1.1, hk_.1.1.1.1.2, hk_.1.1.1.2⟩)); replace HO_1141002 := Aside0.mk (Kd.R_mono (ok' := fun k_ => some k_ ≠ (.slice Ao22 t1129.length co22 : Value).ownBlock ∧ some k_ ≠ (.slice Ao30 t1141.length co30 : Value).ownBlock ∧ some k_ ≠ (.slice Ao35 t1147.length co35 : Value).ownBlock ∧ some k_ ≠ (.slice Ao38 t1152.length co38 : Value).ownBlock ∧ some k_ ≠ (.slice Ao44 t1158.length co44 : Value).ownBlock ∧ some k_ ≠ (.slice Ao71 t1165.length co71 : Value).ownBlock ∧ some k_ ≠ (.slice Ao73 t1171.length co73 : Value).ownBlock) (Kd.R_keptB ((Kd.R_apart' HO_1141002.out (Kd.R_typed HO_1152001.out) (by decide))) hkp (fun k_ hk_ hs_ => Or.elim hs_ (fun e_ => (hk_.1.1.1.2.1) e_) (fun e_ => Or.elim e_ (fun e_ => (hk_.2) e_) (fun e_ => (hk_.1.1.1.2.2.1) e_)))) (fun k_ hk_ => ⟨hk_.1.1.1.1.1, hk_.1.1.1.1.2.1, hk_.1.1.1.1.2.2.1, hk_.1.1.1.1.2.2.2.1, hk_.1.1.1.1.2.2.2.2, hk_.1.1.1.2, hk_.1.1.2⟩)); replace HO_1164000 := Aside0.mk (Kd.R_mono (ok' := fun k_ => some k_ ≠ (.slice Ao22 t1129.length co22 : Value).ownBlock ∧ some k_ ≠ (.slice Ao26 t1135.length co26 : Value).ownBlock ∧ some k_ ≠ (.slice Ao30 t1141.length co30 : Value).ownBlock ∧ some k_ ≠ (.slice Ao35 t1147.length co35 : Value).ownBlock ∧ some k_ ≠ (.slice Ao44 t1158.length co44 : Value).ownBlock ∧ some k_ ≠ (.slice Ao71 t1165.length co71 : Value).ownBlock ∧ some k_ ≠ (.slice Ao73 t1171.length co73 : Value).ownBlock) (Kd.R_keptB ((Kd.R_apart' HO_1164000.out (Kd.R_typed HO_1152001.out) (by decide))) hkp (fun k_ hk_ hs_ => Or.elim hs_ (fun e_ => (hk_.1.1.1.2.2.1) e_) (fun e_ => Or.elim e_ (fun e_ => (hk_.2) e_) (fun e_ => (hk_.1.1.1.2.2.2.1) e_)))) (fun k_ hk_ => ⟨hk_.1.1.1.1.1, hk_.1.1.1.1.2.1, hk_.1.1.1.1.2.2.1, hk_.1.1.1.1.2.2.2.1, hk_.1.1.1.1.2.2.2.2, hk_.1.1.1.2, hk_.1.1.2⟩)); replace HO_1164001 := Aside0.mk (Kd.R_mono (ok' := fun k_ => some k_ ≠ (.slice Ao25 t1132.length co25 : Value).ownBlock ∧ some k_ ≠ (.slice Ao34 t1144.length co34 : Value).ownBlock ∧ some k_ ≠ (.slice Ao72 t1168.length co72 : Value).ownBlock) (Kd.R_keptB ((Kd.R_apart' (Kd.R_apart' HO_1164001.out (Kd.R_typed HO_1152000.out) (by decide)) (Kd.R_typed HO_1152002.out) (by decide))) hkp (fun k_ hk_ hs_ => Or.elim hs_ (fun e_ => (hk_.1.2) e_) (fun e_ => Or.elim e_ (fun e_ => (hk_.1.1.1.2) e_) (fun e_ => (hk_.2) e_)))) (fun k_ hk_ => ⟨hk_.1.1.1.1.1, hk_.1.1.1.1.2, hk_.1.1.1.2⟩)); replace HO_1164002 := Aside0.mk (Kd.R_mono (ok' := fun k_ => some k_ ≠ (.slice Ao22 t1129.length co22 : Value).ownBlock ∧ some k_ ≠ (.slice Ao26 t1135.length co26 : Value).ownBlock ∧ some k_ ≠ (.slice Ao30 t1141.length co30 : Value).ownBlock ∧ some k_ ≠ (.slice Ao35 t1147.length co35 : Value).ownBlock ∧ some k_ ≠ (.slice Ao38 t1152.length co38 : Value).ownBlock ∧ some k_ ≠ (.slice Ao71 t1165.length co71 : Value).ownBlock ∧ some k_ ≠ (.slice Ao73 t1171.length co73 : Value).ownBlock) (Kd.R_keptB ((Kd.R_apart' HO_1164002.out (Kd.R_typed HO_1152001.out) (by decide))) hkp (fun k_ hk_ hs_ => Or.elim hs_ (fun e_ => (hk_.1.1.1.2.2.1) e_) (fun e_ => Or.elim e_ (fun e_ => (hk_.2) e_) (fun e_ => (hk_.1.1.1.2.2.2.1) e_)))) (fun k_ hk_ => ⟨hk_.1.1.1.1.1, hk_.1.1.1.1.2.1, hk_.1.1.1.1.2.2.1, hk_.1.1.1.1.2.2.2.1, hk_.1.1.1.1.2.2.2.2, hk_.1.1.1.2, hk_.1.1.2⟩)); replace BK1117 := Aside0.mk (blk_kept (bk BK1117) hkp (fun hs_ => Or.elim hs_ (fun e_ => (fun e_ => (Kd.R_ne HO_1152000.out BK1117.out (by decide)) e_) e_) (fun e_ => Or.elim e_ (fun e_ => (fun e_ => (Kd.R_ne HO_1152001.out BK1117.out (by decide)) e_) e_) (fun e_ => (fun e_ => (Kd.R_ne HO_1152002.out BK1117.out (by decide)) e_) e_)))); replace BK1140 := Aside0.mk (blk_kept (bk BK1140) hkp (fun hs_ => Or.elim hs_ (fun e_ => (fun e_ => (Kd.R_ne HO_1152000.out BK1140.out (by decide)) e_) e_) (fun e_ => Or.elim e_ (fun e_ => (fun e_ => (Kd.R_ne HO_1152001.out BK1140.out (by decide)) e_) e_) (fun e_ => (fun e_ => (Kd.R_ne HO_1152002.out BK1140.out (by decide)) e_) e_)))); replace BK1151 := Aside0.mk (blk_kept (bk BK1151) hkp (fun hs_ => Or.elim hs_ (fun e_ => (fun e_ => (Kd.R_ne HO_1152000.out BK1151.out (by decide)) e_) e_) (fun e_ => Or.elim e_ (fun e_ => (fun e_ => (Kd.R_ne HO_1152001.out BK1151.out (by decide)) e_) e_) (fun e_ => (fun e_ => (Kd.R_ne HO_1152002.out BK1151.out (by decide)) e_) e_)))); replace BK1163 := Aside0.mk (blk_kept (bk BK1163) hkp (fun hs_ => Or.elim hs_ (fun e_ => (fun e_ => (Kd.R_ne HO_1152000.out BK1163.out (by decide)) e_) e_) (fun e_ => Or.elim e_ (fun e_ => (fun e_ => (Kd.R_ne HO_1152001.out BK1163.out (by decide)) e_) e_) (fun e_ => (fun e_ => (Kd.R_ne HO_1152002.out BK1163.out (by decide)) e_) e_)))); replace HO1167 := Aside0.mk (Kd.R_mono (ok' := fun k_ => some k_ ≠ (.slice Ao22 t1129.length co22 : Value).ownBlock ∧ some k_ ≠ (.slice Ao26 t1135.length co26 : Value).ownBlock ∧ some k_ ≠ (.slice Ao30 t1141.length co30 : Value).ownBlock ∧ some k_ ≠ (.slice Ao35 t1147.length co35 : Value).ownBlock ∧ some k_ ≠ (.slice Ao38 t1152.length co38 : Value).ownBlock ∧ some k_ ≠ (.slice Ao44 t1158.length co44 : Value).ownBlock ∧ some k_ ≠ (.slice Ao73 t1171.length co73 : Value).ownBlock) (Kd.R_keptB ((Kd.R_apart' HO1167.out (Kd.R_typed HO_1152001.out) (by decide))) hkp (fun k_ hk_ hs_ => Or.elim hs_ (fun e_ => (hk_.1.1.1.1.2) e_) (fun e_ => Or.elim e_ (fun e_ => (hk_.2) e_) (fun e_ => (hk_.1.1.1.2) e_)))) (fun k_ hk_ => ⟨hk_.1.1.1.1.1.1.1.2, hk_.1.1.1.1.1.1.2, hk_.1.1.1.1.1.2, hk_.1.1.1.1.2, hk_.1.1.1.2, hk_.1.1.2, hk_.1.1.1.1.1.1.1.1⟩)); replace HO1170 := Aside0.mk (Kd.R_mono (ok' := fun k_ => some k_ ≠ (.slice Ao25 t1132.length co25 : Value).ownBlock ∧ some k_ ≠ (.slice Ao34 t1144.length co34 : Value).ownBlock ∧ some k_ ≠ (.slice Ao43 t1155.length co43 : Value).ownBlock) (Kd.R_keptB ((Kd.R_apart' (Kd.R_apart' HO1170.out (Kd.R_typed HO_1152000.out) (by decide)) (Kd.R_typed HO_1152002.out) (by decide))) hkp (fun k_ hk_ hs_ => Or.elim hs_ (fun e_ => (hk_.1.2) e_) (fun e_ => Or.elim e_ (fun e_ => (hk_.1.1.1.2) e_) (fun e_ => (hk_.2) e_)))) (fun k_ hk_ => ⟨hk_.1.1.1.1.1.2, hk_.1.1.1.1.2, hk_.1.1.1.2⟩)); replace HO_1152000 := Aside0.mk (Kd.R_reok rfl hy0 (fun k_ e_ => HO_1152000.out.1 k_ e_)); replace HO_1152002 := Aside0.mk (Kd.R_reok rfl hy2 (fun k_ e_ => HO_1152002.out.1 k_ e_)); replace HO1173 := Aside0.mk (Kd.R_mono (ok' := fun k_ => some k_ ≠ (.slice Ao22 t1129.length co22 : Value).ownBlock ∧ some k_ ≠ (.slice Ao26 t1135.length co26 : Value).ownBlock ∧ some k_ ≠ (.slice Ao30 t1141.length co30 : Value).ownBlock ∧ some k_ ≠ (.slice Ao35 t1147.length co35 : Value).ownBlock ∧ some k_ ≠ (.slice Ao38 t1152.length co38 : Value).ownBlock ∧ some k_ ≠ (.slice Ao44 t1158.length co44 : Value).ownBlock ∧ some k_ ≠ (.slice Ao71 t1165.length co71 : Value).ownBlock) (Kd.R_keptB ((Kd.R_apart' HO1173.out (Kd.R_typed HO_1152001.out) (by decide))) hkp (fun k_ hk_ hs_ => Or.elim hs_ (fun e_ => (hk_.1.1.1.1.2) e_) (fun e_ => Or.elim e_ (fun e_ => (hk_.2) e_) (fun e_ => (hk_.1.1.1.2) e_)))) (fun k_ hk_ => ⟨hk_.1.1.1.1.1.1.1.2, hk_.1.1.1.1.1.1.2, hk_.1.1.1.1.1.2, hk_.1.1.1.1.2, hk_.1.1.1.2, hk_.1.1.2, hk_.1.1.1.1.1.1.1.1⟩)); replace HO_1152001 := Aside0.mk (Kd.R_reok rfl hy1 (fun k_ e_ => HO_1152001.out.1 k_ e_)); replace HB := Aside0.mk (hb); (try clear hb); (try clear hkp); (try clear hy0); (try clear hy1); (try clear hy2)))
      (try simp only [Act.put, List.setIfInBounds_toArray, List.set_cons_zero, List.set_cons_succ])
      go_cut [61] (fun v61 wc => ∃ (kq : Nat) (x61_67 : Bool), v61 = .bool x61_67 ∧ Aside0 (laws_FnExactCheckpointLog.j1 kq t1139 x61_67 l0_0 l0_1 l0_2 a0_3 t1129 t1132 t1135 t1138 t1152 t1155 t1158 t1161 = some r) ∧ Aside0 (kq ≤ kj10) ∧ Aside0 (Kd.R Kd.string 9 wc w.heap.size (fun k_ => some k_ ≠ ((.slice Ao26 t1135.length co26) : Value).ownBlock ∧ some k_ ≠ ((.slice Ao30 t1141.length co30) : Value).ownBlock ∧ some k_ ≠ ((.slice Ao35 t1147.length co35) : Value).ownBlock ∧ some k_ ≠ ((.slice Ao38 t1152.length co38) : Value).ownBlock ∧ some k_ ≠ ((.slice Ao44 t1158.length co44) : Value).ownBlock) (.slice Ao22 t1129.length co22) t1129) ∧ Aside0 (Kd.R k72 72 wc w.heap.size (fun k_ => some k_ ≠ ((.slice Ao34 t1144.length co34) : Value).ownBlock ∧ some k_ ≠ ((.slice Ao43 t1155.length co43) : Value).ownBlock) (.slice Ao25 t1132.length co25) t1132) ∧ Aside0 (Kd.R Kd.string 9 wc w.heap.size (fun k_ => some k_ ≠ ((.slice Ao22 t1129.length co22) : Value).ownBlock ∧ some k_ ≠ ((.slice Ao30 t1141.length co30) : Value).ownBlock ∧ some k_ ≠ ((.slice Ao35 t1147.length co35) : Value).ownBlock ∧ some k_ ≠ ((.slice Ao38 t1152.length co38) : Value).ownBlock ∧ some k_ ≠ ((.slice Ao44 t1158.length co44) : Value).ownBlock) (.slice Ao26 t1135.length co26) t1135) ∧ Aside0 (Kd.R Kd.string 9 wc w.heap.size (fun k_ => some k_ ≠ ((.slice Ao22 t1129.length co22) : Value).ownBlock ∧ some k_ ≠ ((.slice Ao26 t1135.length co26) : Value).ownBlock ∧ some k_ ≠ ((.slice Ao35 t1147.length co35) : Value).ownBlock ∧ some k_ ≠ ((.slice Ao38 t1152.length co38) : Value).ownBlock ∧ some k_ ≠ ((.slice Ao44 t1158.length co44) : Value).ownBlock) (.slice Ao30 t1141.length co30) t1177) ∧ Aside0 (Kd.R k72 72 wc w.heap.size (fun k_ => some k_ ≠ ((.slice Ao25 t1132.length co25) : Value).ownBlock ∧ some k_ ≠ ((.slice Ao43 t1155.length co43) : Value).ownBlock) (.slice Ao34 t1144.length co34) t1178) ∧ Aside0 (Kd.R Kd.string 9 wc w.heap.size (fun k_ => some k_ ≠ ((.slice Ao22 t1129.length co22) : Value).ownBlock ∧ some k_ ≠ ((.slice Ao26 t1135.length co26) : Value).ownBlock ∧ some k_ ≠ ((.slice Ao30 t1141.length co30) : Value).ownBlock ∧ some k_ ≠ ((.slice Ao38 t1152.length co38) : Value).ownBlock ∧ some k_ ≠ ((.slice Ao44 t1158.length co44) : Value).ownBlock) (.slice Ao35 t1147.length co35) t1179) ∧ Aside0 (Kd.R Kd.string 9 wc w.heap.size (fun k_ => some k_ ≠ ((.slice Ao22 t1129.length co22) : Value).ownBlock ∧ some k_ ≠ ((.slice Ao26 t1135.length co26) : Value).ownBlock ∧ some k_ ≠ ((.slice Ao30 t1141.length co30) : Value).ownBlock ∧ some k_ ≠ ((.slice Ao35 t1147.length co35) : Value).ownBlock ∧ some k_ ≠ ((.slice Ao44 t1158.length co44) : Value).ownBlock) (.slice Ao38 t1152.length co38) t1152) ∧ Aside0 (Kd.R k72 72 wc w.heap.size (fun k_ => some k_ ≠ ((.slice Ao25 t1132.length co25) : Value).ownBlock ∧ some k_ ≠ ((.slice Ao34 t1144.length co34) : Value).ownBlock) (.slice Ao43 t1155.length co43) t1155) ∧ Aside0 (Kd.R Kd.string 9 wc w.heap.size (fun k_ => some k_ ≠ ((.slice Ao22 t1129.length co22) : Value).ownBlock ∧ some k_ ≠ ((.slice Ao26 t1135.length co26) : Value).ownBlock ∧ some k_ ≠ ((.slice Ao30 t1141.length co30) : Value).ownBlock ∧ some k_ ≠ ((.slice Ao35 t1147.length co35) : Value).ownBlock ∧ some k_ ≠ ((.slice Ao38 t1152.length co38) : Value).ownBlock) (.slice Ao44 t1158.length co44) t1158) ∧ Aside0 (wc.heap[gb1117]? = some (.cells #[(.slice A0_0 l0_0.length c0_0), (.slice A0_1 l0_1.length c0_1), (.slice A0_2 l0_2.length c0_2), .int .i64 a0_3] 38 (0, 0))) ∧ Aside0 (wc.heap[gb1140]? = some (.cells #[(.slice Ao22 t1129.length co22), (.slice Ao25 t1132.length co25), (.slice Ao26 t1135.length co26), .int .i64 t1138] 44 (0, 0))) ∧ Aside0 (wc.heap[gb1151]? = some (.cells #[(.slice Ao30 t1141.length co30), (.slice Ao34 t1144.length co34), (.slice Ao35 t1147.length co35), .int .i64 t1150] 44 (0, 0))) ∧ Aside0 (wc.heap[gb1163]? = some (.cells #[(.slice Ao38 t1152.length co38), (.slice Ao43 t1155.length co43), (.slice Ao44 t1158.length co44), .int .i64 t1161] 44 (0, 0))) ∧ Aside0 (Below w.heap.size w wc))
      case first =>
       have H := HC68.out
       clear HC68
       by_cases c80 : t1176 < 0
       ·
        rw [if_pos c80] at H
        have c80b0 : decide (t1176 < 0) = true := decide_eq_true c80
        clear c80
        (first | rw [c80b0] | (simp only [i64_w, i32_w]; rw [c80b0]) | (simp only [c80b2, Bool.not_false, Bool.not_true]) | skip)
        have H' := Aside0.mk H
        clear H
        go_wp2
        go_meet
        case rel => exact ⟨_, (true), (by first | rfl | (simp; done) | (simp [*]; done)), H', ⟨by have := HJ10.out; first | omega | exact Nat.le_refl _⟩, rm HO_1141000 (fun _ hk => ⟨hk.1, ⟨hk.2.1, ⟨hk.2.2.1, ⟨hk.2.2.2.1, hk.2.2.2.2.1⟩⟩⟩⟩), rm HO_1141001 (fun _ hk => ⟨hk.1, hk.2.1⟩), rm HO_1141002 (fun _ hk => ⟨hk.1, ⟨hk.2.1, ⟨hk.2.2.1, ⟨hk.2.2.2.1, hk.2.2.2.2.1⟩⟩⟩⟩), rm HO_1152000 (fun _ hk => ⟨hk.1.1.1, ⟨hk.1.1.2.1, ⟨hk.1.1.2.2.1, ⟨hk.1.1.2.2.2.1, hk.1.1.2.2.2.2⟩⟩⟩⟩), rm HO_1152001 (fun _ hk => ⟨hk.1.1, hk.1.2⟩), rm HO_1152002 (fun _ hk => ⟨hk.1.1.1, ⟨hk.1.1.2.1, ⟨hk.1.1.2.2.1, ⟨hk.1.1.2.2.2.1, hk.1.1.2.2.2.2⟩⟩⟩⟩), rm HO_1164000 (fun _ hk => ⟨hk.1, ⟨hk.2.1, ⟨hk.2.2.1, ⟨hk.2.2.2.1, hk.2.2.2.2.1⟩⟩⟩⟩), rm HO_1164001 (fun _ hk => ⟨hk.1, hk.2.1⟩), rm HO_1164002 (fun _ hk => ⟨hk.1, ⟨hk.2.1, ⟨hk.2.2.1, ⟨hk.2.2.2.1, hk.2.2.2.2.1⟩⟩⟩⟩), ⟨bk BK1117⟩, ⟨bk BK1140⟩, ⟨bk BK1151⟩, ⟨bk BK1163⟩, ⟨bs4 HB GE1117 GE1140 GE1151 GE1163⟩⟩
       ·
        rw [if_neg c80] at H
        have c80b0 : decide (t1176 < 0) = false := decide_eq_false c80
        clear c80
        (first | rw [c80b0] | (simp only [i64_w, i32_w]; rw [c80b0]) | (simp only [c80b2, Bool.not_false, Bool.not_true]) | skip)
        replace H := Option.bind_eq_some_iff.mp H
        obtain ⟨t1180, A810, H⟩ := H
        replace H : (if t1180 = true then (laws_FnExactCheckpointLog.j1 kj10 t1139 (t1162 != t1139) l0_0 l0_1 l0_2 a0_3 t1129 t1132 t1135 t1138 t1152 t1155 t1158 t1161) else (laws_FnExactCheckpointLog.j1 kj10 t1139 true l0_0 l0_1 l0_2 a0_3 t1129 t1132 t1135 t1138 t1152 t1155 t1158 t1161)) = some r := H
        have A81 := Aside0.mk A810
        clear A810
        by_cases c82 : t1180 = true
        ·
         subst c82
         rw [if_pos rfl] at H
         have H' := Aside0.mk H
         clear H
         have hnb83 := NB1163_1117.out
         have hnc83 := NB1117_1163.out
         have hnb84 := NB1163_1140.out
         have hnc84 := NB1140_1163.out
         have hnb85 := NB1163_1151.out
         have hnc85 := NB1151_1163.out
         obtain ⟨hcz86_0, hcz86_1, hcz86_2, hcz86_3⟩ := cz4 BK1163
         obtain ⟨hfz86_0, hfz86_1, hfz86_2, hfz86_3⟩ := fz4 BK1163
         have hnb87 := NB1140_1117.out
         have hnc87 := NB1117_1140.out
         have hnb88 := NB1140_1151.out
         have hnc88 := NB1151_1140.out
         obtain ⟨hcz89_0, hcz89_1, hcz89_2, hcz89_3⟩ := cz4 BK1140
         obtain ⟨hfz89_0, hfz89_1, hfz89_2, hfz89_3⟩ := fz4 BK1140
         go_wp2_with (first | (go_at_call 29; (with_reducible refine (laws_eqStore.calls kj10 _ _ t1152 _ _ t1155 _ _ t1158 t1161 _ _ t1129 _ _ t1132 _ _ t1135 t1138 true _ ?side1 ?side2 ?side3 ?side4 ?side5 ?side6 ?side7 ?side8 ?side9 ?side10 ?side11 ?side12 A81.out).mono ?_); (case side1 => exact rc0 HO_1164000); (case side2 => exact (Kd.R_reads' HO_1164000.out).2.1); (case side3 => exact rc0 HO_1164001); (case side4 => exact (Kd.R_reads' HO_1164001.out).2.1); (case side5 => exact rc0 HO_1164002); (case side6 => exact (Kd.R_reads' HO_1164002.out).2.1); (case side7 => exact rc0 HO_1141000); (case side8 => exact (Kd.R_reads' HO_1141000.out).2.1); (case side9 => exact rc0 HO_1141001); (case side10 => exact (Kd.R_reads' HO_1141001.out).2.1); (case side11 => exact rc0 HO_1141002); (case side12 => exact (Kd.R_reads' HO_1141002.out).2.1); rintro e w90 ⟨rfl, hb⟩; replace HO_1141000 := nr HO_1141000 hb; replace HO_1141001 := nr HO_1141001 hb; replace HO_1141002 := nr HO_1141002 hb; replace HO_1152000 := nr HO_1152000 hb; replace HO_1152001 := nr HO_1152001 hb; replace HO_1152002 := nr HO_1152002 hb; replace HO_1164000 := nr HO_1164000 hb; replace HO_1164001 := nr HO_1164001 hb; replace HO_1164002 := nr HO_1164002 hb; replace HO1167 := nr HO1167 hb; replace HO1170 := nr HO1170 hb; replace HO1173 := nr HO1173 hb; replace BK1117 := nb BK1117 hb; replace BK1140 := nb BK1140 hb; replace BK1151 := nb BK1151 hb; replace BK1163 := nb BK1163 hb; replace HB := Aside0.mk (below_step (bs4 HB GE1117 GE1140 GE1151 GE1163) hb); (try clear hb); (try clear hb2); (try clear hk); (try clear hi)))
         go_meet
         case rel => exact ⟨_, ((t1162 != t1139)), (by first | rfl | (simp; done) | (simp [*]; done)), H', ⟨by have := HJ10.out; first | omega | exact Nat.le_refl _⟩, rm HO_1141000 (fun _ hk => ⟨hk.1, ⟨hk.2.1, ⟨hk.2.2.1, ⟨hk.2.2.2.1, hk.2.2.2.2.1⟩⟩⟩⟩), rm HO_1141001 (fun _ hk => ⟨hk.1, hk.2.1⟩), rm HO_1141002 (fun _ hk => ⟨hk.1, ⟨hk.2.1, ⟨hk.2.2.1, ⟨hk.2.2.2.1, hk.2.2.2.2.1⟩⟩⟩⟩), rm HO_1152000 (fun _ hk => ⟨hk.1.1.1, ⟨hk.1.1.2.1, ⟨hk.1.1.2.2.1, ⟨hk.1.1.2.2.2.1, hk.1.1.2.2.2.2⟩⟩⟩⟩), rm HO_1152001 (fun _ hk => ⟨hk.1.1, hk.1.2⟩), rm HO_1152002 (fun _ hk => ⟨hk.1.1.1, ⟨hk.1.1.2.1, ⟨hk.1.1.2.2.1, ⟨hk.1.1.2.2.2.1, hk.1.1.2.2.2.2⟩⟩⟩⟩), rm HO_1164000 (fun _ hk => ⟨hk.1, ⟨hk.2.1, ⟨hk.2.2.1, ⟨hk.2.2.2.1, hk.2.2.2.2.1⟩⟩⟩⟩), rm HO_1164001 (fun _ hk => ⟨hk.1, hk.2.1⟩), rm HO_1164002 (fun _ hk => ⟨hk.1, ⟨hk.2.1, ⟨hk.2.2.1, ⟨hk.2.2.2.1, hk.2.2.2.2.1⟩⟩⟩⟩), ⟨bk BK1117⟩, ⟨bk BK1140⟩, ⟨bk BK1151⟩, ⟨bk BK1163⟩, ⟨bs4 HB GE1117 GE1140 GE1151 GE1163⟩⟩
        ·
         replace c82 := Bool.eq_false_iff.mpr c82
         subst c82
         rw [if_neg (show ¬ (false = true) by decide)] at H
         have H' := Aside0.mk H
         clear H
         have hnb91 := NB1163_1117.out
         have hnc91 := NB1117_1163.out
         have hnb92 := NB1163_1140.out
         have hnc92 := NB1140_1163.out
         have hnb93 := NB1163_1151.out
         have hnc93 := NB1151_1163.out
         obtain ⟨hcz94_0, hcz94_1, hcz94_2, hcz94_3⟩ := cz4 BK1163
         obtain ⟨hfz94_0, hfz94_1, hfz94_2, hfz94_3⟩ := fz4 BK1163
         have hnb95 := NB1140_1117.out
         have hnc95 := NB1117_1140.out
         have hnb96 := NB1140_1151.out
         have hnc96 := NB1151_1140.out
         obtain ⟨hcz97_0, hcz97_1, hcz97_2, hcz97_3⟩ := cz4 BK1140
         obtain ⟨hfz97_0, hfz97_1, hfz97_2, hfz97_3⟩ := fz4 BK1140
         go_wp2_with (first | (go_at_call 29; (with_reducible refine (laws_eqStore.calls kj10 _ _ t1152 _ _ t1155 _ _ t1158 t1161 _ _ t1129 _ _ t1132 _ _ t1135 t1138 false _ ?side1 ?side2 ?side3 ?side4 ?side5 ?side6 ?side7 ?side8 ?side9 ?side10 ?side11 ?side12 A81.out).mono ?_); (case side1 => exact rc0 HO_1164000); (case side2 => exact (Kd.R_reads' HO_1164000.out).2.1); (case side3 => exact rc0 HO_1164001); (case side4 => exact (Kd.R_reads' HO_1164001.out).2.1); (case side5 => exact rc0 HO_1164002); (case side6 => exact (Kd.R_reads' HO_1164002.out).2.1); (case side7 => exact rc0 HO_1141000); (case side8 => exact (Kd.R_reads' HO_1141000.out).2.1); (case side9 => exact rc0 HO_1141001); (case side10 => exact (Kd.R_reads' HO_1141001.out).2.1); (case side11 => exact rc0 HO_1141002); (case side12 => exact (Kd.R_reads' HO_1141002.out).2.1); rintro e w98 ⟨rfl, hb⟩; replace HO_1141000 := nr HO_1141000 hb; replace HO_1141001 := nr HO_1141001 hb; replace HO_1141002 := nr HO_1141002 hb; replace HO_1152000 := nr HO_1152000 hb; replace HO_1152001 := nr HO_1152001 hb; replace HO_1152002 := nr HO_1152002 hb; replace HO_1164000 := nr HO_1164000 hb; replace HO_1164001 := nr HO_1164001 hb; replace HO_1164002 := nr HO_1164002 hb; replace HO1167 := nr HO1167 hb; replace HO1170 := nr HO1170 hb; replace HO1173 := nr HO1173 hb; replace BK1117 := nb BK1117 hb; replace BK1140 := nb BK1140 hb; replace BK1151 := nb BK1151 hb; replace BK1163 := nb BK1163 hb; replace HB := Aside0.mk (below_step (bs4 HB GE1117 GE1140 GE1151 GE1163) hb); (try clear hb); (try clear hb2); (try clear hk); (try clear hi)))
         go_meet
         case rel => exact ⟨_, (true), (by first | rfl | (simp; done) | (simp [*]; done)), H', ⟨by have := HJ10.out; first | omega | exact Nat.le_refl _⟩, rm HO_1141000 (fun _ hk => ⟨hk.1, ⟨hk.2.1, ⟨hk.2.2.1, ⟨hk.2.2.2.1, hk.2.2.2.2.1⟩⟩⟩⟩), rm HO_1141001 (fun _ hk => ⟨hk.1, hk.2.1⟩), rm HO_1141002 (fun _ hk => ⟨hk.1, ⟨hk.2.1, ⟨hk.2.2.1, ⟨hk.2.2.2.1, hk.2.2.2.2.1⟩⟩⟩⟩), rm HO_1152000 (fun _ hk => ⟨hk.1.1.1, ⟨hk.1.1.2.1, ⟨hk.1.1.2.2.1, ⟨hk.1.1.2.2.2.1, hk.1.1.2.2.2.2⟩⟩⟩⟩), rm HO_1152001 (fun _ hk => ⟨hk.1.1, hk.1.2⟩), rm HO_1152002 (fun _ hk => ⟨hk.1.1.1, ⟨hk.1.1.2.1, ⟨hk.1.1.2.2.1, ⟨hk.1.1.2.2.2.1, hk.1.1.2.2.2.2⟩⟩⟩⟩), rm HO_1164000 (fun _ hk => ⟨hk.1, ⟨hk.2.1, ⟨hk.2.2.1, ⟨hk.2.2.2.1, hk.2.2.2.2.1⟩⟩⟩⟩), rm HO_1164001 (fun _ hk => ⟨hk.1, hk.2.1⟩), rm HO_1164002 (fun _ hk => ⟨hk.1, ⟨hk.2.1, ⟨hk.2.2.1, ⟨hk.2.2.2.1, hk.2.2.2.2.1⟩⟩⟩⟩), ⟨bk BK1117⟩, ⟨bk BK1140⟩, ⟨bk BK1151⟩, ⟨bk BK1163⟩, ⟨bs4 HB GE1117 GE1140 GE1151 GE1163⟩⟩
      case rest =>
       clear HC68
       try clear c1
       try clear c2
       try clear p2
       try clear c3
       try clear c3b0
       try clear c4
       try clear c5
       try clear c6
       try clear c7
       try clear c8
       try clear c9
       try clear c12
       try clear c23
       try clear c25
       try clear c27
       try clear c29
       try clear c31
       try clear c32
       try clear c39
       try clear c40
       try clear c41
       try clear c46
       try clear c47
       try clear c48
       try clear c49
       try clear c51
       try clear c52
       try clear c55
       try clear c56
       try clear c57
       try clear c59
       try clear c60
       try clear c63
       try clear c66
       try clear c75
       try clear c76
       try clear c77
       try clear c80
       try clear c80b0
       try clear c82
       try clear c83
       try clear c84
       try clear c85
       try clear c87
       try clear c88
       try clear c91
       try clear c92
       try clear c93
       try clear c95
       try clear c96
       try clear hcz13_0 hcz13_1 hcz13_2 hcz13_3
       try clear hcz15_0 hcz15_1 hcz15_2 hcz15_3
       try clear hcz24_0 hcz24_1 hcz24_2 hcz24_3
       try clear hcz27_0 hcz27_1 hcz27_2 hcz27_3
       try clear hcz33_0 hcz33_1 hcz33_2 hcz33_3
       try clear hcz42_0 hcz42_1 hcz42_2 hcz42_3
       try clear hcz50_0 hcz50_1 hcz50_2 hcz50_3
       try clear hcz53_0 hcz53_1 hcz53_2 hcz53_3
       try clear hcz58_0 hcz58_1 hcz58_2 hcz58_3
       try clear hcz5_0 hcz5_1 hcz5_2 hcz5_3
       try clear hcz61_0 hcz61_1 hcz61_2 hcz61_3
       try clear hcz78_0 hcz78_1 hcz78_2 hcz78_3
       try clear hcz86_0 hcz86_1 hcz86_2 hcz86_3
       try clear hcz89_0 hcz89_1 hcz89_2 hcz89_3
       try clear hcz94_0 hcz94_1 hcz94_2 hcz94_3
       try clear hcz97_0 hcz97_1 hcz97_2 hcz97_3
       try clear hfz13_0 hfz13_1 hfz13_2 hfz13_3
       try clear hfz15_0 hfz15_1 hfz15_2 hfz15_3
       try clear hfz24_0 hfz24_1 hfz24_2 hfz24_3
       try clear hfz27_0 hfz27_1 hfz27_2 hfz27_3
       try clear hfz33_0 hfz33_1 hfz33_2 hfz33_3
       try clear hfz42_0 hfz42_1 hfz42_2 hfz42_3
       try clear hfz50_0 hfz50_1 hfz50_2 hfz50_3
       try clear hfz53_0 hfz53_1 hfz53_2 hfz53_3
       try clear hfz58_0 hfz58_1 hfz58_2 hfz58_3
       try clear hfz5_0 hfz5_1 hfz5_2 hfz5_3
       try clear hfz61_0 hfz61_1 hfz61_2 hfz61_3
       try clear hfz78_0 hfz78_1 hfz78_2 hfz78_3
       try clear hfz86_0 hfz86_1 hfz86_2 hfz86_3
       try clear hfz89_0 hfz89_1 hfz89_2 hfz89_3
       try clear hfz94_0 hfz94_1 hfz94_2 hfz94_3
       try clear hfz97_0 hfz97_1 hfz97_2 hfz97_3
       try clear p2
       obtain ⟨kq, x61_67, rfl, HA, HJ67, HO_1141000, HO_1141001, HO_1141002, HO_1152000, HO_1152001, HO_1152002, HO_1164000, HO_1164001, HO_1164002, BK1117, BK1140, BK1151, BK1163, HB⟩ := hcut
       have hl1152000_67 := (Kd.R_reads' HO_1152000.out).1
       rw [hl1152000_67] at HO_1152000
       (try simp only [hl1152000_67])
       (try simp only [hl1152000_67] at BK1117)
       (try simp only [hl1152000_67] at BK1140)
       (try simp only [hl1152000_67] at BK1151)
       (try simp only [hl1152000_67] at BK1163)
       (try simp only [hl1152000_67] at HO_1141000)
       (try simp only [hl1152000_67] at HO_1141001)
       (try simp only [hl1152000_67] at HO_1141002)
       (try simp only [hl1152000_67] at HO_1152001)
       (try simp only [hl1152000_67] at HO_1152002)
       (try simp only [hl1152000_67] at HO_1164000)
       (try simp only [hl1152000_67] at HO_1164001)
       (try simp only [hl1152000_67] at HO_1164002)
       have hl1152001_67 := (Kd.R_reads' HO_1152001.out).1
       rw [hl1152001_67] at HO_1152001
       (try simp only [hl1152001_67])
       (try simp only [hl1152001_67] at BK1117)
       (try simp only [hl1152001_67] at BK1140)
       (try simp only [hl1152001_67] at BK1151)
       (try simp only [hl1152001_67] at BK1163)
       (try simp only [hl1152001_67] at HO_1141000)
       (try simp only [hl1152001_67] at HO_1141001)
       (try simp only [hl1152001_67] at HO_1141002)
       (try simp only [hl1152001_67] at HO_1152000)
       (try simp only [hl1152001_67] at HO_1152002)
       (try simp only [hl1152001_67] at HO_1164000)
       (try simp only [hl1152001_67] at HO_1164001)
       (try simp only [hl1152001_67] at HO_1164002)
       have hl1152002_67 := (Kd.R_reads' HO_1152002.out).1
       rw [hl1152002_67] at HO_1152002
       (try simp only [hl1152002_67])
       (try simp only [hl1152002_67] at BK1117)
       (try simp only [hl1152002_67] at BK1140)
       (try simp only [hl1152002_67] at BK1151)
       (try simp only [hl1152002_67] at BK1163)
       (try simp only [hl1152002_67] at HO_1141000)
       (try simp only [hl1152002_67] at HO_1141001)
       (try simp only [hl1152002_67] at HO_1141002)
       (try simp only [hl1152002_67] at HO_1152000)
       (try simp only [hl1152002_67] at HO_1152001)
       (try simp only [hl1152002_67] at HO_1164000)
       (try simp only [hl1152002_67] at HO_1164001)
       (try simp only [hl1152002_67] at HO_1164002)
       cases kq with
       | zero => exact absurd HA.out (by simp [laws_FnExactCheckpointLog.j1])
       | succ kj67 =>
        have H := HA.out
        clear HA
        simp only [laws_FnExactCheckpointLog.j1] at H
        by_cases c99 : x61_67 = true
        ·
         subst c99
         rw [if_pos rfl] at H
         obtain rfl := Option.some.inj H
         go_wp2
         go_ret
         exact ⟨by first | rfl | (simp [errW_none, errW_some] <;> rfl) | (simp [*, errW_none, errW_some] <;> rfl), bs4 HB GE1117 GE1140 GE1151 GE1163⟩
        ·
         replace c99 := Bool.eq_false_iff.mpr c99
         subst c99
         rw [if_neg (show ¬ (false = true) by decide)] at H
         replace H := Option.bind_eq_some_iff.mp H
         obtain ⟨⟨t1181, t1182, t1183, t1184⟩, A1000, H⟩ := H
         replace H : ((laws_heldStore.f kj67 t1182 t1183 t1184 t1161 1).bind fun t1185 => (if t1185 < 0 then (some false) else (if t1185 = t1181 then ((laws_toStore.f kj67 l0_0 l0_1 l0_2 a0_3).bind fun bt1186 => ((impl_CheckpointLog.f kj67 bt1186.1 bt1186.2.1 bt1186.2.2.1 bt1186.2.2.2).bind fun bt1196 => ((laws_eqStore.f kj67 bt1196.1 bt1196.2.1 bt1196.2.2.1 bt1196.2.2.2.1 t1129 t1132 t1135 t1138).bind fun t1208 => (if t1208 = true then (laws_FnExactCheckpointLog.j2 kj67 t1181 (bt1196.2.2.2.2 != t1139) t1182 t1183 t1184 t1161) else (laws_FnExactCheckpointLog.j2 kj67 t1181 true t1182 t1183 t1184 t1161))))) else (some false)))) = some r := H
         have A100 := Aside0.mk A1000
         clear A1000
         replace H := Option.bind_eq_some_iff.mp H
         obtain ⟨t1185, A1010, H⟩ := H
         replace H : (if t1185 < 0 then (some false) else (if t1185 = t1181 then ((laws_toStore.f kj67 l0_0 l0_1 l0_2 a0_3).bind fun bt1186 => ((impl_CheckpointLog.f kj67 bt1186.1 bt1186.2.1 bt1186.2.2.1 bt1186.2.2.2).bind fun bt1196 => ((laws_eqStore.f kj67 bt1196.1 bt1196.2.1 bt1196.2.2.1 bt1196.2.2.2.1 t1129 t1132 t1135 t1138).bind fun t1208 => (if t1208 = true then (laws_FnExactCheckpointLog.j2 kj67 t1181 (bt1196.2.2.2.2 != t1139) t1182 t1183 t1184 t1161) else (laws_FnExactCheckpointLog.j2 kj67 t1181 true t1182 t1183 t1184 t1161))))) else (some false))) = some r := H
         have A101 := Aside0.mk A1010
         clear A1010
         by_cases c102 : t1185 < 0
         ·
          rw [if_pos c102] at H
          have c102b0 : decide (t1185 < 0) = true := decide_eq_true c102
          clear c102
          obtain rfl := Option.some.inj H
          have hnb103 := NB1163_1117.out
          have hnc103 := NB1117_1163.out
          have hnb104 := NB1163_1140.out
          have hnc104 := NB1140_1163.out
          have hnb105 := NB1163_1151.out
          have hnc105 := NB1151_1163.out
          obtain ⟨hcz106_0, hcz106_1, hcz106_2, hcz106_3⟩ := cz4 BK1163
          obtain ⟨hfz106_0, hfz106_1, hfz106_2, hfz106_3⟩ := fz4 BK1163
          go_wp2_with (first | ((with_reducible refine gate_callee (f := 32) rfl ?_); refine gL (some 64) rfl rfl Try.func32 (by kernel_rfl) rfl #[.agg #[.slice Ao38 t1152.length co38, .slice Ao43 t1155.length co43, .slice Ao44 t1158.length co44, .int .i64 t1161], .int .i64 1] rfl ?_; (with_reducible refine (laws_markStore.calls kj67 (fun k_ => some k_ = (.slice Ao38 t1152.length co38 : Value).ownBlock) (.slice Ao38 t1152.length co38) t1152 (fun k_ => some k_ = (.slice Ao43 t1155.length co43 : Value).ownBlock) (.slice Ao43 t1155.length co43) t1155 (fun k_ => some k_ = (.slice Ao44 t1158.length co44 : Value).ownBlock) (.slice Ao44 t1158.length co44) t1158 t1161 1 t1181 t1182 t1183 t1184 w _ ?side1 ?side2 ?side3 ?side4 ?side5 ?side6 A100.out).mono ?_); (case side1 => repeat (first | (with_reducible first | exact HB.out | apply below_alloc | apply pw_below_drewN | apply below_drew1 | refine below_set ?_ GE1117.out | refine below_set ?_ GE1140.out | refine below_set ?_ GE1151.out | refine below_set ?_ GE1163.out) | exact HB.out)); (case side2 => exact Kd.R_tight rfl HO_1164000.out); (case side3 => exact fun k_ e_ => (HO_1164000.out.1 k_ e_.symm).2.2.2.2); (case side4 => exact Kd.R_tight rfl HO_1164001.out); (case side5 => exact Kd.R_tight rfl HO_1164002.out); (case side6 => exact fun k_ e_ => (HO_1164002.out.1 k_ e_.symm).2.2.2.2); rintro e w107 ⟨rfl, hy0, hy1, hy2, hb, hkp⟩; refine ⟨_, rfl, ?_⟩; replace HO_1141000 := Aside0.mk (Kd.R_mono (ok' := fun k_ => some k_ ≠ (.slice Ao26 t1135.length co26 : Value).ownBlock ∧ some k_ ≠ (.slice Ao30 t1177.length co30 : Value).ownBlock ∧ some k_ ≠ (.slice Ao35 t1179.length co35 : Value).ownBlock ∧ some k_ ≠ (.slice Ao38 t1152.length co38 : Value).ownBlock ∧ some k_ ≠ (.slice Ao44 t1158.length co44 : Value).ownBlock) (Kd.R_keptB ((Kd.R_apart' HO_1141000.out (Kd.R_typed HO_1164001.out) (by decide))) hkp (fun k_ hk_ hs_ => Or.elim hs_ (fun e_ => (hk_.1.2.2.2.1) e_) (fun e_ => Or.elim e_ (fun e_ => (hk_.2) e_) (fun e_ => (hk_.1.2.2.2.2) e_)))) (fun k_ hk_ => ⟨hk_.1.1.1, hk_.1.1.2.1, hk_.1.1.2.2.1, hk_.1.1.2.2.2.1, hk_.1.1.2.2.2.2⟩)); replace HO_1141001 := Aside0.mk (Kd.R_mono (ok' := fun k_ => some k_ ≠ (.slice Ao34 t1178.length co34 : Value).ownBlock ∧ some k_ ≠ (.slice Ao43 t1155.length co43 : Value).ownBlock) (Kd.R_keptB ((Kd.R_apart' (Kd.R_apart' HO_1141001.out (Kd.R_typed HO_1164000.out) (by decide)) (Kd.R_typed HO_1164002.out) (by decide))) hkp (fun k_ hk_ hs_ => Or.elim hs_ (fun e_ => (hk_.1.2) e_) (fun e_ => Or.elim e_ (fun e_ => (hk_.1.1.2) e_) (fun e_ => (hk_.2) e_)))) (fun k_ hk_ => ⟨hk_.1.1.1.1, hk_.1.1.1.2⟩)); replace HO_1141002 := Aside0.mk (Kd.R_mono (ok' := fun k_ => some k_ ≠ (.slice Ao22 t1129.length co22 : Value).ownBlock ∧ some k_ ≠ (.slice Ao30 t1177.length co30 : Value).ownBlock ∧ some k_ ≠ (.slice Ao35 t1179.length co35 : Value).ownBlock ∧ some k_ ≠ (.slice Ao38 t1152.length co38 : Value).ownBlock ∧ some k_ ≠ (.slice Ao44 t1158.length co44 : Value).ownBlock) (Kd.R_keptB ((Kd.R_apart' HO_1141002.out (Kd.R_typed HO_1164001.out) (by decide))) hkp (fun k_ hk_ hs_ => Or.elim hs_ (fun e_ => (hk_.1.2.2.2.1) e_) (fun e_ => Or.elim e_ (fun e_ => (hk_.2) e_) (fun e_ => (hk_.1.2.2.2.2) e_)))) (fun k_ hk_ => ⟨hk_.1.1.1, hk_.1.1.2.1, hk_.1.1.2.2.1, hk_.1.1.2.2.2.1, hk_.1.1.2.2.2.2⟩)); replace HO_1152000 := Aside0.mk (Kd.R_mono (ok' := fun k_ => some k_ ≠ (.slice Ao22 t1129.length co22 : Value).ownBlock ∧ some k_ ≠ (.slice Ao26 t1135.length co26 : Value).ownBlock ∧ some k_ ≠ (.slice Ao35 t1179.length co35 : Value).ownBlock ∧ some k_ ≠ (.slice Ao38 t1152.length co38 : Value).ownBlock ∧ some k_ ≠ (.slice Ao44 t1158.length co44 : Value).ownBlock) (Kd.R_keptB ((Kd.R_apart' HO_1152000.out (Kd.R_typed HO_1164001.out) (by decide))) hkp (fun k_ hk_ hs_ => Or.elim hs_ (fun e_ => (hk_.1.2.2.2.1) e_) (fun e_ => Or.elim e_ (fun e_ => (hk_.2) e_) (fun e_ => (hk_.1.2.2.2.2) e_)))) (fun k_ hk_ => ⟨hk_.1.1.1, hk_.1.1.2.1, hk_.1.1.2.2.1, hk_.1.1.2.2.2.1, hk_.1.1.2.2.2.2⟩)); replace HO_1152001 := Aside0.mk (Kd.R_mono (ok' := fun k_ => some k_ ≠ (.slice Ao25 t1132.length co25 : Value).ownBlock ∧ some k_ ≠ (.slice Ao43 t1155.length co43 : Value).ownBlock) (Kd.R_keptB ((Kd.R_apart' (Kd.R_apart' HO_1152001.out (Kd.R_typed HO_1164000.out) (by decide)) (Kd.R_typed HO_1164002.out) (by decide))) hkp (fun k_ hk_ hs_ => Or.elim hs_ (fun e_ => (hk_.1.2) e_) (fun e_ => Or.elim e_ (fun e_ => (hk_.1.1.2) e_) (fun e_ => (hk_.2) e_)))) (fun k_ hk_ => ⟨hk_.1.1.1.1, hk_.1.1.1.2⟩)); replace HO_1152002 := Aside0.mk (Kd.R_mono (ok' := fun k_ => some k_ ≠ (.slice Ao22 t1129.length co22 : Value).ownBlock ∧ some k_ ≠ (.slice Ao26 t1135.length co26 : Value).ownBlock ∧ some k_ ≠ (.slice Ao30 t1177.length co30 : Value).ownBlock ∧ some k_ ≠ (.slice Ao38 t1152.length co38 : Value).ownBlock ∧ some k_ ≠ (.slice Ao44 t1158.length co44 : Value).ownBlock) (Kd.R_keptB ((Kd.R_apart' HO_1152002.out (Kd.R_typed HO_1164001.out) (by decide))) hkp (fun k_ hk_ hs_ => Or.elim hs_ (fun e_ => (hk_.1.2.2.2.1) e_) (fun e_ => Or.elim e_ (fun e_ => (hk_.2) e_) (fun e_ => (hk_.1.2.2.2.2) e_)))) (fun k_ hk_ => ⟨hk_.1.1.1, hk_.1.1.2.1, hk_.1.1.2.2.1, hk_.1.1.2.2.2.1, hk_.1.1.2.2.2.2⟩)); replace BK1117 := Aside0.mk (blk_kept (bk BK1117) hkp (fun hs_ => Or.elim hs_ (fun e_ => (fun e_ => (Kd.R_ne HO_1164000.out BK1117.out (by decide)) e_) e_) (fun e_ => Or.elim e_ (fun e_ => (fun e_ => (Kd.R_ne HO_1164001.out BK1117.out (by decide)) e_) e_) (fun e_ => (fun e_ => (Kd.R_ne HO_1164002.out BK1117.out (by decide)) e_) e_)))); replace BK1140 := Aside0.mk (blk_kept (bk BK1140) hkp (fun hs_ => Or.elim hs_ (fun e_ => (fun e_ => (Kd.R_ne HO_1164000.out BK1140.out (by decide)) e_) e_) (fun e_ => Or.elim e_ (fun e_ => (fun e_ => (Kd.R_ne HO_1164001.out BK1140.out (by decide)) e_) e_) (fun e_ => (fun e_ => (Kd.R_ne HO_1164002.out BK1140.out (by decide)) e_) e_)))); replace BK1151 := Aside0.mk (blk_kept (bk BK1151) hkp (fun hs_ => Or.elim hs_ (fun e_ => (fun e_ => (Kd.R_ne HO_1164000.out BK1151.out (by decide)) e_) e_) (fun e_ => Or.elim e_ (fun e_ => (fun e_ => (Kd.R_ne HO_1164001.out BK1151.out (by decide)) e_) e_) (fun e_ => (fun e_ => (Kd.R_ne HO_1164002.out BK1151.out (by decide)) e_) e_)))); replace BK1163 := Aside0.mk (blk_kept (bk BK1163) hkp (fun hs_ => Or.elim hs_ (fun e_ => (fun e_ => (Kd.R_ne HO_1164000.out BK1163.out (by decide)) e_) e_) (fun e_ => Or.elim e_ (fun e_ => (fun e_ => (Kd.R_ne HO_1164001.out BK1163.out (by decide)) e_) e_) (fun e_ => (fun e_ => (Kd.R_ne HO_1164002.out BK1163.out (by decide)) e_) e_)))); replace HO_1164000 := Aside0.mk (Kd.R_reok rfl hy0 (fun k_ e_ => HO_1164000.out.1 k_ e_)); replace HO_1164001 := Aside0.mk (Kd.R_reok rfl hy1 (fun k_ e_ => HO_1164001.out.1 k_ e_)); replace HO_1164002 := Aside0.mk (Kd.R_reok rfl hy2 (fun k_ e_ => HO_1164002.out.1 k_ e_)); replace HB := Aside0.mk (hb); (try clear hb); (try clear hkp); (try clear hy0); (try clear hy1); (try clear hy2); obtain ⟨hcz108_0, hcz108_1, hcz108_2, hcz108_3⟩ := cz4 BK1163; obtain ⟨hfz108_0, hfz108_1, hfz108_2, hfz108_3⟩ := fz4 BK1163) | ((with_reducible refine gate_callee (f := 33) rfl ?_); refine goesL_ (some 67) rfl rfl Try.func33 (by kernel_rfl) rfl #[.agg #[.slice Ao38 t1182.length co38, .slice Ao43 t1183.length co43, .slice Ao44 t1184.length co44, .int .i64 t1161], .int .i64 1] rfl (by (try simp only [List.map_toArray, List.map_cons, List.map_nil]); first | done | (rw [show t1182.length = t1152.length from (Kd.R_reads' HO_1164000.out).1.symm, show t1183.length = t1155.length from (Kd.R_reads' HO_1164001.out).1.symm, show t1184.length = t1158.length from (Kd.R_reads' HO_1164002.out).1.symm] <;> rfl) | rfl | (simp only [List.length_drop, List.length_take]; rfl)) ?_; (with_reducible refine (laws_heldStore.calls kj67 _ _ t1182 _ _ t1183 _ _ t1184 t1161 1 t1185 _ ?side1 ?side2 ?side3 ?side4 ?side5 ?side6 A101.out).mono ?_); (case side1 => exact rc0 HO_1164000); (case side2 => rw [show t1182.length = t1152.length from (Kd.R_reads' HO_1164000.out).1.symm]; exact (Kd.R_reads' HO_1164000.out).2.1); (case side3 => exact rc0 HO_1164001); (case side4 => rw [show t1183.length = t1155.length from (Kd.R_reads' HO_1164001.out).1.symm]; exact (Kd.R_reads' HO_1164001.out).2.1); (case side5 => exact rc0 HO_1164002); (case side6 => rw [show t1184.length = t1158.length from (Kd.R_reads' HO_1164002.out).1.symm]; exact (Kd.R_reads' HO_1164002.out).2.1); rintro e w109 ⟨rfl, hb⟩; refine ⟨_, rfl, ?_⟩; replace HO_1141000 := nr HO_1141000 hb; replace HO_1141001 := nr HO_1141001 hb; replace HO_1141002 := nr HO_1141002 hb; replace HO_1152000 := nr HO_1152000 hb; replace HO_1152001 := nr HO_1152001 hb; replace HO_1152002 := nr HO_1152002 hb; replace HO_1164000 := nr HO_1164000 hb; replace HO_1164001 := nr HO_1164001 hb; replace HO_1164002 := nr HO_1164002 hb; replace BK1117 := nb BK1117 hb; replace BK1140 := nb BK1140 hb; replace BK1151 := nb BK1151 hb; replace BK1163 := nb BK1163 hb; replace HB := Aside0.mk (below_step (bs4 HB GE1117 GE1140 GE1151 GE1163) hb); (try clear hb); (try clear hb2); (try clear hk); (try clear hi)))
          go_ret
          exact ⟨by first | rfl | (simp [errW_none, errW_some] <;> rfl) | (simp [*, errW_none, errW_some] <;> rfl), bs4 HB GE1117 GE1140 GE1151 GE1163⟩
         ·
          rw [if_neg c102] at H
          have c102b0 : decide (t1185 < 0) = false := decide_eq_false c102
          clear c102
          by_cases c110 : t1185 = t1181
          ·
           rw [if_pos c110] at H
           have c110b0 : (t1185 == t1181) = true := beq_iff_eq.mpr c110
           have c110b1 : (t1185 != t1181) = false := bne_eq_false_iff_eq.mpr c110
           clear c110
           replace H := Option.bind_eq_some_iff.mp H
           obtain ⟨⟨t1186, t1189, t1192, t1195⟩, A1110, H⟩ := H
           replace H : ((impl_CheckpointLog.f kj67 t1186 t1189 t1192 t1195).bind fun bt1196 => ((laws_eqStore.f kj67 bt1196.1 bt1196.2.1 bt1196.2.2.1 bt1196.2.2.2.1 t1129 t1132 t1135 t1138).bind fun t1208 => (if t1208 = true then (laws_FnExactCheckpointLog.j2 kj67 t1181 (bt1196.2.2.2.2 != t1139) t1182 t1183 t1184 t1161) else (laws_FnExactCheckpointLog.j2 kj67 t1181 true t1182 t1183 t1184 t1161)))) = some r := H
           have A111 := Aside0.mk A1110
           clear A1110
           replace H := Option.bind_eq_some_iff.mp H
           obtain ⟨⟨t1196, t1199, t1202, t1205, t1206⟩, A1120, H⟩ := H
           replace H : ((laws_eqStore.f kj67 t1196 t1199 t1202 t1205 t1129 t1132 t1135 t1138).bind fun t1208 => (if t1208 = true then (laws_FnExactCheckpointLog.j2 kj67 t1181 (t1206 != t1139) t1182 t1183 t1184 t1161) else (laws_FnExactCheckpointLog.j2 kj67 t1181 true t1182 t1183 t1184 t1161))) = some r := H
           have A112 := Aside0.mk A1120
           clear A1120
           have HC113 := Aside0.mk H
           clear H
           have hnb114 := NB1163_1117.out
           have hnc114 := NB1117_1163.out
           have hnb115 := NB1163_1140.out
           have hnc115 := NB1140_1163.out
           have hnb116 := NB1163_1151.out
           have hnc116 := NB1151_1163.out
           obtain ⟨hcz117_0, hcz117_1, hcz117_2, hcz117_3⟩ := cz4 BK1163
           obtain ⟨hfz117_0, hfz117_1, hfz117_2, hfz117_3⟩ := fz4 BK1163
           go_upto_region 25 with (first | ((with_reducible refine gate_callee (f := 32) rfl ?_); refine gL (some 64) rfl rfl Try.func32 (by kernel_rfl) rfl #[.agg #[.slice Ao38 t1152.length co38, .slice Ao43 t1155.length co43, .slice Ao44 t1158.length co44, .int .i64 t1161], .int .i64 1] rfl ?_; (with_reducible refine (laws_markStore.calls kj67 (fun k_ => some k_ = (.slice Ao38 t1152.length co38 : Value).ownBlock) (.slice Ao38 t1152.length co38) t1152 (fun k_ => some k_ = (.slice Ao43 t1155.length co43 : Value).ownBlock) (.slice Ao43 t1155.length co43) t1155 (fun k_ => some k_ = (.slice Ao44 t1158.length co44 : Value).ownBlock) (.slice Ao44 t1158.length co44) t1158 t1161 1 t1181 t1182 t1183 t1184 w _ ?side1 ?side2 ?side3 ?side4 ?side5 ?side6 A100.out).mono ?_); (case side1 => repeat (first | (with_reducible first | exact HB.out | apply below_alloc | apply pw_below_drewN | apply below_drew1 | refine below_set ?_ GE1117.out | refine below_set ?_ GE1140.out | refine below_set ?_ GE1151.out | refine below_set ?_ GE1163.out) | exact HB.out)); (case side2 => exact Kd.R_tight rfl HO_1164000.out); (case side3 => exact fun k_ e_ => (HO_1164000.out.1 k_ e_.symm).2.2.2.2); (case side4 => exact Kd.R_tight rfl HO_1164001.out); (case side5 => exact Kd.R_tight rfl HO_1164002.out); (case side6 => exact fun k_ e_ => (HO_1164002.out.1 k_ e_.symm).2.2.2.2); rintro e w118 ⟨rfl, hy0, hy1, hy2, hb, hkp⟩; refine ⟨_, rfl, ?_⟩; replace HO_1141000 := Aside0.mk (Kd.R_mono (ok' := fun k_ => some k_ ≠ (.slice Ao26 t1135.length co26 : Value).ownBlock ∧ some k_ ≠ (.slice Ao30 t1177.length co30 : Value).ownBlock ∧ some k_ ≠ (.slice Ao35 t1179.length co35 : Value).ownBlock ∧ some k_ ≠ (.slice Ao38 t1152.length co38 : Value).ownBlock ∧ some k_ ≠ (.slice Ao44 t1158.length co44 : Value).ownBlock) (Kd.R_keptB ((Kd.R_apart' HO_1141000.out (Kd.R_typed HO_1164001.out) (by decide))) hkp (fun k_ hk_ hs_ => Or.elim hs_ (fun e_ => (hk_.1.2.2.2.1) e_) (fun e_ => Or.elim e_ (fun e_ => (hk_.2) e_) (fun e_ => (hk_.1.2.2.2.2) e_)))) (fun k_ hk_ => ⟨hk_.1.1.1, hk_.1.1.2.1, hk_.1.1.2.2.1, hk_.1.1.2.2.2.1, hk_.1.1.2.2.2.2⟩)); replace HO_1141001 := Aside0.mk (Kd.R_mono (ok' := fun k_ => some k_ ≠ (.slice Ao34 t1178.length co34 : Value).ownBlock ∧ some k_ ≠ (.slice Ao43 t1155.length co43 : Value).ownBlock) (Kd.R_keptB ((Kd.R_apart' (Kd.R_apart' HO_1141001.out (Kd.R_typed HO_1164000.out) (by decide)) (Kd.R_typed HO_1164002.out) (by decide))) hkp (fun k_ hk_ hs_ => Or.elim hs_ (fun e_ => (hk_.1.2) e_) (fun e_ => Or.elim e_ (fun e_ => (hk_.1.1.2) e_) (fun e_ => (hk_.2) e_)))) (fun k_ hk_ => ⟨hk_.1.1.1.1, hk_.1.1.1.2⟩)); replace HO_1141002 := Aside0.mk (Kd.R_mono (ok' := fun k_ => some k_ ≠ (.slice Ao22 t1129.length co22 : Value).ownBlock ∧ some k_ ≠ (.slice Ao30 t1177.length co30 : Value).ownBlock ∧ some k_ ≠ (.slice Ao35 t1179.length co35 : Value).ownBlock ∧ some k_ ≠ (.slice Ao38 t1152.length co38 : Value).ownBlock ∧ some k_ ≠ (.slice Ao44 t1158.length co44 : Value).ownBlock) (Kd.R_keptB ((Kd.R_apart' HO_1141002.out (Kd.R_typed HO_1164001.out) (by decide))) hkp (fun k_ hk_ hs_ => Or.elim hs_ (fun e_ => (hk_.1.2.2.2.1) e_) (fun e_ => Or.elim e_ (fun e_ => (hk_.2) e_) (fun e_ => (hk_.1.2.2.2.2) e_)))) (fun k_ hk_ => ⟨hk_.1.1.1, hk_.1.1.2.1, hk_.1.1.2.2.1, hk_.1.1.2.2.2.1, hk_.1.1.2.2.2.2⟩)); replace HO_1152000 := Aside0.mk (Kd.R_mono (ok' := fun k_ => some k_ ≠ (.slice Ao22 t1129.length co22 : Value).ownBlock ∧ some k_ ≠ (.slice Ao26 t1135.length co26 : Value).ownBlock ∧ some k_ ≠ (.slice Ao35 t1179.length co35 : Value).ownBlock ∧ some k_ ≠ (.slice Ao38 t1152.length co38 : Value).ownBlock ∧ some k_ ≠ (.slice Ao44 t1158.length co44 : Value).ownBlock) (Kd.R_keptB ((Kd.R_apart' HO_1152000.out (Kd.R_typed HO_1164001.out) (by decide))) hkp (fun k_ hk_ hs_ => Or.elim hs_ (fun e_ => (hk_.1.2.2.2.1) e_) (fun e_ => Or.elim e_ (fun e_ => (hk_.2) e_) (fun e_ => (hk_.1.2.2.2.2) e_)))) (fun k_ hk_ => ⟨hk_.1.1.1, hk_.1.1.2.1, hk_.1.1.2.2.1, hk_.1.1.2.2.2.1, hk_.1.1.2.2.2.2⟩)); replace HO_1152001 := Aside0.mk (Kd.R_mono (ok' := fun k_ => some k_ ≠ (.slice Ao25 t1132.length co25 : Value).ownBlock ∧ some k_ ≠ (.slice Ao43 t1155.length co43 : Value).ownBlock) (Kd.R_keptB ((Kd.R_apart' (Kd.R_apart' HO_1152001.out (Kd.R_typed HO_1164000.out) (by decide)) (Kd.R_typed HO_1164002.out) (by decide))) hkp (fun k_ hk_ hs_ => Or.elim hs_ (fun e_ => (hk_.1.2) e_) (fun e_ => Or.elim e_ (fun e_ => (hk_.1.1.2) e_) (fun e_ => (hk_.2) e_)))) (fun k_ hk_ => ⟨hk_.1.1.1.1, hk_.1.1.1.2⟩)); replace HO_1152002 := Aside0.mk (Kd.R_mono (ok' := fun k_ => some k_ ≠ (.slice Ao22 t1129.length co22 : Value).ownBlock ∧ some k_ ≠ (.slice Ao26 t1135.length co26 : Value).ownBlock ∧ some k_ ≠ (.slice Ao30 t1177.length co30 : Value).ownBlock ∧ some k_ ≠ (.slice Ao38 t1152.length co38 : Value).ownBlock ∧ some k_ ≠ (.slice Ao44 t1158.length co44 : Value).ownBlock) (Kd.R_keptB ((Kd.R_apart' HO_1152002.out (Kd.R_typed HO_1164001.out) (by decide))) hkp (fun k_ hk_ hs_ => Or.elim hs_ (fun e_ => (hk_.1.2.2.2.1) e_) (fun e_ => Or.elim e_ (fun e_ => (hk_.2) e_) (fun e_ => (hk_.1.2.2.2.2) e_)))) (fun k_ hk_ => ⟨hk_.1.1.1, hk_.1.1.2.1, hk_.1.1.2.2.1, hk_.1.1.2.2.2.1, hk_.1.1.2.2.2.2⟩)); replace BK1117 := Aside0.mk (blk_kept (bk BK1117) hkp (fun hs_ => Or.elim hs_ (fun e_ => (fun e_ => (Kd.R_ne HO_1164000.out BK1117.out (by decide)) e_) e_) (fun e_ => Or.elim e_ (fun e_ => (fun e_ => (Kd.R_ne HO_1164001.out BK1117.out (by decide)) e_) e_) (fun e_ => (fun e_ => (Kd.R_ne HO_1164002.out BK1117.out (by decide)) e_) e_)))); replace BK1140 := Aside0.mk (blk_kept (bk BK1140) hkp (fun hs_ => Or.elim hs_ (fun e_ => (fun e_ => (Kd.R_ne HO_1164000.out BK1140.out (by decide)) e_) e_) (fun e_ => Or.elim e_ (fun e_ => (fun e_ => (Kd.R_ne HO_1164001.out BK1140.out (by decide)) e_) e_) (fun e_ => (fun e_ => (Kd.R_ne HO_1164002.out BK1140.out (by decide)) e_) e_)))); replace BK1151 := Aside0.mk (blk_kept (bk BK1151) hkp (fun hs_ => Or.elim hs_ (fun e_ => (fun e_ => (Kd.R_ne HO_1164000.out BK1151.out (by decide)) e_) e_) (fun e_ => Or.elim e_ (fun e_ => (fun e_ => (Kd.R_ne HO_1164001.out BK1151.out (by decide)) e_) e_) (fun e_ => (fun e_ => (Kd.R_ne HO_1164002.out BK1151.out (by decide)) e_) e_)))); replace BK1163 := Aside0.mk (blk_kept (bk BK1163) hkp (fun hs_ => Or.elim hs_ (fun e_ => (fun e_ => (Kd.R_ne HO_1164000.out BK1163.out (by decide)) e_) e_) (fun e_ => Or.elim e_ (fun e_ => (fun e_ => (Kd.R_ne HO_1164001.out BK1163.out (by decide)) e_) e_) (fun e_ => (fun e_ => (Kd.R_ne HO_1164002.out BK1163.out (by decide)) e_) e_)))); replace HO_1164000 := Aside0.mk (Kd.R_reok rfl hy0 (fun k_ e_ => HO_1164000.out.1 k_ e_)); replace HO_1164001 := Aside0.mk (Kd.R_reok rfl hy1 (fun k_ e_ => HO_1164001.out.1 k_ e_)); replace HO_1164002 := Aside0.mk (Kd.R_reok rfl hy2 (fun k_ e_ => HO_1164002.out.1 k_ e_)); replace HB := Aside0.mk (hb); (try clear hb); (try clear hkp); (try clear hy0); (try clear hy1); (try clear hy2); obtain ⟨hcz119_0, hcz119_1, hcz119_2, hcz119_3⟩ := cz4 BK1163; obtain ⟨hfz119_0, hfz119_1, hfz119_2, hfz119_3⟩ := fz4 BK1163) | ((with_reducible refine gate_callee (f := 33) rfl ?_); refine goesL_ (some 67) rfl rfl Try.func33 (by kernel_rfl) rfl #[.agg #[.slice Ao38 t1182.length co38, .slice Ao43 t1183.length co43, .slice Ao44 t1184.length co44, .int .i64 t1161], .int .i64 1] rfl (by (try simp only [List.map_toArray, List.map_cons, List.map_nil]); first | done | (rw [show t1182.length = t1152.length from (Kd.R_reads' HO_1164000.out).1.symm, show t1183.length = t1155.length from (Kd.R_reads' HO_1164001.out).1.symm, show t1184.length = t1158.length from (Kd.R_reads' HO_1164002.out).1.symm] <;> rfl) | rfl | (simp only [List.length_drop, List.length_take]; rfl)) ?_; (with_reducible refine (laws_heldStore.calls kj67 _ _ t1182 _ _ t1183 _ _ t1184 t1161 1 t1185 _ ?side1 ?side2 ?side3 ?side4 ?side5 ?side6 A101.out).mono ?_); (case side1 => exact rc0 HO_1164000); (case side2 => rw [show t1182.length = t1152.length from (Kd.R_reads' HO_1164000.out).1.symm]; exact (Kd.R_reads' HO_1164000.out).2.1); (case side3 => exact rc0 HO_1164001); (case side4 => rw [show t1183.length = t1155.length from (Kd.R_reads' HO_1164001.out).1.symm]; exact (Kd.R_reads' HO_1164001.out).2.1); (case side5 => exact rc0 HO_1164002); (case side6 => rw [show t1184.length = t1158.length from (Kd.R_reads' HO_1164002.out).1.symm]; exact (Kd.R_reads' HO_1164002.out).2.1); rintro e w120 ⟨rfl, hb⟩; refine ⟨_, rfl, ?_⟩; replace HO_1141000 := nr HO_1141000 hb; replace HO_1141001 := nr HO_1141001 hb; replace HO_1141002 := nr HO_1141002 hb; replace HO_1152000 := nr HO_1152000 hb; replace HO_1152001 := nr HO_1152001 hb; replace HO_1152002 := nr HO_1152002 hb; replace HO_1164000 := nr HO_1164000 hb; replace HO_1164001 := nr HO_1164001 hb; replace HO_1164002 := nr HO_1164002 hb; replace BK1117 := nb BK1117 hb; replace BK1140 := nb BK1140 hb; replace BK1151 := nb BK1151 hb; replace BK1163 := nb BK1163 hb; replace HB := Aside0.mk (below_step (bs4 HB GE1117 GE1140 GE1151 GE1163) hb); (try clear hb); (try clear hb2); (try clear hk); (try clear hi); have hnb121 := NB1117_1140.out; have hnc121 := NB1140_1117.out; have hnb122 := NB1117_1151.out; have hnc122 := NB1151_1117.out; obtain ⟨hcz123_0, hcz123_1, hcz123_2, hcz123_3⟩ := cz4 BK1117; obtain ⟨hfz123_0, hfz123_1, hfz123_2, hfz123_3⟩ := fz4 BK1117) | ((with_reducible refine gate_callee (f := 27) rfl ?_); refine gL (some 75) rfl rfl Try.func27 (by kernel_rfl) rfl #[.agg #[.slice A0_0 l0_0.length c0_0, .slice A0_1 l0_1.length c0_1, .slice A0_2 l0_2.length c0_2, .int .i64 a0_3]] rfl ?_; (with_reducible refine (laws_toStore.calls kj67 _ _ l0_0 _ _ l0_1 _ _ l0_2 a0_3 t1186 t1189 t1192 t1195 _ ?side1 ?side2 ?side3 ?side4 ?side5 ?side6 A111.out).mono ?_); (case side1 => exact cb HR0_0 HB); (case side2 => exact HC0_0.out); (case side3 => exact cb HR0_1 HB); (case side4 => exact HC0_1.out); (case side5 => exact cb HR0_2 HB); (case side6 => exact HC0_2.out); rintro e w124 ⟨v1187, v1190, v1193, rfl, ho0, ho1, ho2, hb⟩; refine ⟨_, rfl, ?_⟩; have HO1188 := Aside0.mk (Kd.R_lower (Kd.R_new' (Kd.R_new' (Kd.R_new' (Kd.R_new' (Kd.R_new' (Kd.R_new' ho0 (Kd.R_lt (rr HO_1141000.out))) (Kd.R_lt (rr HO_1141002.out))) (Kd.R_lt (rr HO_1152000.out))) (Kd.R_lt (rr HO_1152002.out))) (Kd.R_lt (rr HO_1164000.out))) (Kd.R_lt (rr HO_1164002.out))) (below_size (bs4 HB GE1117 GE1140 GE1151 GE1163))); have HO1191 := Aside0.mk (Kd.R_lower (Kd.R_new' (Kd.R_new' (Kd.R_new' ho1 (Kd.R_lt (rr HO_1141001.out))) (Kd.R_lt (rr HO_1152001.out))) (Kd.R_lt (rr HO_1164001.out))) (below_size (bs4 HB GE1117 GE1140 GE1151 GE1163))); replace HO_1141001 := Aside0.mk (Kd.R_elder' (rr HO_1141001.out) (Kd.R_base ho1) hb); replace HO_1152001 := Aside0.mk (Kd.R_elder' (rr HO_1152001.out) (Kd.R_base ho1) hb); replace HO_1164001 := Aside0.mk (Kd.R_elder' (rr HO_1164001.out) (Kd.R_base ho1) hb); have HO1194 := Aside0.mk (Kd.R_lower (Kd.R_new' (Kd.R_new' (Kd.R_new' (Kd.R_new' (Kd.R_new' (Kd.R_new' ho2 (Kd.R_lt (rr HO_1141000.out))) (Kd.R_lt (rr HO_1141002.out))) (Kd.R_lt (rr HO_1152000.out))) (Kd.R_lt (rr HO_1152002.out))) (Kd.R_lt (rr HO_1164000.out))) (Kd.R_lt (rr HO_1164002.out))) (below_size (bs4 HB GE1117 GE1140 GE1151 GE1163))); replace HO_1141000 := Aside0.mk (Kd.R_mono (Kd.R_told (Kd.R_told (Kd.R_old (rr HO_1141000.out) hb) (Kd.R_base ho0)) (Kd.R_base ho2)) (fun _ h_ => h_.1)); replace HO_1141002 := Aside0.mk (Kd.R_mono (Kd.R_told (Kd.R_told (Kd.R_old (rr HO_1141002.out) hb) (Kd.R_base ho0)) (Kd.R_base ho2)) (fun _ h_ => h_.1)); replace HO_1152000 := Aside0.mk (Kd.R_mono (Kd.R_told (Kd.R_told (Kd.R_old (rr HO_1152000.out) hb) (Kd.R_base ho0)) (Kd.R_base ho2)) (fun _ h_ => h_.1)); replace HO_1152002 := Aside0.mk (Kd.R_mono (Kd.R_told (Kd.R_told (Kd.R_old (rr HO_1152002.out) hb) (Kd.R_base ho0)) (Kd.R_base ho2)) (fun _ h_ => h_.1)); replace HO_1164000 := Aside0.mk (Kd.R_mono (Kd.R_told (Kd.R_told (Kd.R_old (rr HO_1164000.out) hb) (Kd.R_base ho0)) (Kd.R_base ho2)) (fun _ h_ => h_.1)); replace HO_1164002 := Aside0.mk (Kd.R_mono (Kd.R_told (Kd.R_told (Kd.R_old (rr HO_1164002.out) hb) (Kd.R_base ho0)) (Kd.R_base ho2)) (fun _ h_ => h_.1)); replace BK1117 := nb BK1117 hb; replace BK1140 := nb BK1140 hb; replace BK1151 := nb BK1151 hb; replace BK1163 := nb BK1163 hb; replace HB := Aside0.mk (below_step (bs4 HB GE1117 GE1140 GE1151 GE1163) hb); (try clear hb); (try clear hb2); (try clear hk); (try clear hi); (try clear ho0); (try clear ho1); (try clear ho2); obtain ⟨Ao125, co125, eo125⟩ := Kd.R_slice HO1188.out; subst eo125; obtain ⟨Ao126, co126, eo126⟩ := Kd.R_slice HO1191.out; subst eo126; obtain ⟨Ao127, co127, eo127⟩ := Kd.R_slice HO1194.out; subst eo127) | ((with_reducible refine gate_callee (f := 48) rfl ?_); refine gL (some 76) rfl rfl Try.func48 (by kernel_rfl) rfl #[.agg #[.slice Ao125 t1186.length co125, .slice Ao126 t1189.length co126, .slice Ao127 t1192.length co127, .int .i64 t1195]] rfl ?_; (with_reducible refine (impl_CheckpointLog.calls kj67 _ _ t1186 _ _ t1189 _ _ t1192 t1195 t1196 t1199 t1202 t1205 t1206 _ ?side1 ?side2 ?side3 ?side4 ?side5 ?side6 A112.out).mono ?_); (case side1 => exact rc0 HO1188); (case side2 => exact (Kd.R_reads' HO1188.out).2.1); (case side3 => exact rc0 HO1191); (case side4 => exact (Kd.R_reads' HO1191.out).2.1); (case side5 => exact rc0 HO1194); (case side6 => exact (Kd.R_reads' HO1194.out).2.1); rintro e w128 ⟨v1197, v1200, v1203, rfl, ho0, ho1, ho2, hb⟩; refine ⟨_, rfl, ?_⟩; have HO1198 := Aside0.mk (Kd.R_lower (Kd.R_new' (Kd.R_new' (Kd.R_new' (Kd.R_new' (Kd.R_new' (Kd.R_new' (Kd.R_new' (Kd.R_new' ho0 (Kd.R_lt (rr HO_1141000.out))) (Kd.R_lt (rr HO_1141002.out))) (Kd.R_lt (rr HO_1152000.out))) (Kd.R_lt (rr HO_1152002.out))) (Kd.R_lt (rr HO_1164000.out))) (Kd.R_lt (rr HO_1164002.out))) (Kd.R_lt (rr HO1188.out))) (Kd.R_lt (rr HO1194.out))) (below_size (bs4 HB GE1117 GE1140 GE1151 GE1163))); have HO1201 := Aside0.mk (Kd.R_lower (Kd.R_new' (Kd.R_new' (Kd.R_new' (Kd.R_new' ho1 (Kd.R_lt (rr HO_1141001.out))) (Kd.R_lt (rr HO_1152001.out))) (Kd.R_lt (rr HO_1164001.out))) (Kd.R_lt (rr HO1191.out))) (below_size (bs4 HB GE1117 GE1140 GE1151 GE1163))); replace HO_1141001 := Aside0.mk (Kd.R_elder' (rr HO_1141001.out) (Kd.R_base ho1) hb); replace HO_1152001 := Aside0.mk (Kd.R_elder' (rr HO_1152001.out) (Kd.R_base ho1) hb); replace HO_1164001 := Aside0.mk (Kd.R_elder' (rr HO_1164001.out) (Kd.R_base ho1) hb); replace HO1191 := Aside0.mk (Kd.R_elder' (rr HO1191.out) (Kd.R_base ho1) hb); have HO1204 := Aside0.mk (Kd.R_lower (Kd.R_new' (Kd.R_new' (Kd.R_new' (Kd.R_new' (Kd.R_new' (Kd.R_new' (Kd.R_new' (Kd.R_new' ho2 (Kd.R_lt (rr HO_1141000.out))) (Kd.R_lt (rr HO_1141002.out))) (Kd.R_lt (rr HO_1152000.out))) (Kd.R_lt (rr HO_1152002.out))) (Kd.R_lt (rr HO_1164000.out))) (Kd.R_lt (rr HO_1164002.out))) (Kd.R_lt (rr HO1188.out))) (Kd.R_lt (rr HO1194.out))) (below_size (bs4 HB GE1117 GE1140 GE1151 GE1163))); replace HO_1141000 := Aside0.mk (Kd.R_mono (Kd.R_told (Kd.R_told (Kd.R_old (rr HO_1141000.out) hb) (Kd.R_base ho0)) (Kd.R_base ho2)) (fun _ h_ => h_.1)); replace HO_1141002 := Aside0.mk (Kd.R_mono (Kd.R_told (Kd.R_told (Kd.R_old (rr HO_1141002.out) hb) (Kd.R_base ho0)) (Kd.R_base ho2)) (fun _ h_ => h_.1)); replace HO_1152000 := Aside0.mk (Kd.R_mono (Kd.R_told (Kd.R_told (Kd.R_old (rr HO_1152000.out) hb) (Kd.R_base ho0)) (Kd.R_base ho2)) (fun _ h_ => h_.1)); replace HO_1152002 := Aside0.mk (Kd.R_mono (Kd.R_told (Kd.R_told (Kd.R_old (rr HO_1152002.out) hb) (Kd.R_base ho0)) (Kd.R_base ho2)) (fun _ h_ => h_.1)); replace HO_1164000 := Aside0.mk (Kd.R_mono (Kd.R_told (Kd.R_told (Kd.R_old (rr HO_1164000.out) hb) (Kd.R_base ho0)) (Kd.R_base ho2)) (fun _ h_ => h_.1)); replace HO_1164002 := Aside0.mk (Kd.R_mono (Kd.R_told (Kd.R_told (Kd.R_old (rr HO_1164002.out) hb) (Kd.R_base ho0)) (Kd.R_base ho2)) (fun _ h_ => h_.1)); replace HO1188 := Aside0.mk (Kd.R_mono (Kd.R_told (Kd.R_told (Kd.R_old (rr HO1188.out) hb) (Kd.R_base ho0)) (Kd.R_base ho2)) (fun _ h_ => h_.1)); replace HO1194 := Aside0.mk (Kd.R_mono (Kd.R_told (Kd.R_told (Kd.R_old (rr HO1194.out) hb) (Kd.R_base ho0)) (Kd.R_base ho2)) (fun _ h_ => h_.1)); replace BK1117 := nb BK1117 hb; replace BK1140 := nb BK1140 hb; replace BK1151 := nb BK1151 hb; replace BK1163 := nb BK1163 hb; replace HB := Aside0.mk (below_step (bs4 HB GE1117 GE1140 GE1151 GE1163) hb); (try clear hb); (try clear hb2); (try clear hk); (try clear hi); (try clear ho0); (try clear ho1); (try clear ho2)) | ((with_reducible refine gate_dst (N := 12) rfl ?_); refine box_event ?hg (N := 12) ?hd (cs := #[.slice none 0 0, .slice none 0 0, .slice none 0 0, .int .i64 0]) (t := 44) ?hr ?_; (case hd => rfl); (case hg => rfl); (case hr => first | (go_simp; done) | (go_simp; rfl)); intro gb1207 hg w129 hbox hb; replace HO_1141000 := nr HO_1141000 hb; replace HO_1141001 := nr HO_1141001 hb; replace HO_1141002 := nr HO_1141002 hb; replace HO_1152000 := nr HO_1152000 hb; replace HO_1152001 := nr HO_1152001 hb; replace HO_1152002 := nr HO_1152002 hb; replace HO_1164000 := nr HO_1164000 hb; replace HO_1164001 := nr HO_1164001 hb; replace HO_1164002 := nr HO_1164002 hb; replace HO1188 := nr HO1188 hb; replace HO1191 := nr HO1191 hb; replace HO1194 := nr HO1194 hb; replace HO1198 := nr HO1198 hb; replace HO1201 := nr HO1201 hb; replace HO1204 := nr HO1204 hb; have BK1207 := Aside0.mk (hbox); have GW1207 := Aside0.mk ((by rw [hg]; exact (below_size (bs4 HB GE1117 GE1140 GE1151 GE1163)) : w.heap.size ≤ gb1207)); have GE1207 := Aside0.mk ((by rw [hg]; exact (below_size (bs4 HB GE1117 GE1140 GE1151 GE1163)) : w.heap.size ≤ gb1207)); replace HB := Aside0.mk (below_step (bs4 HB GE1117 GE1140 GE1151 GE1163) hb); have NB1117_1207 := Aside0.mk ((bn BK1117 hg : gb1117 ≠ gb1207)); have NB1207_1117 := Aside0.mk ((bm BK1117 hg : gb1207 ≠ gb1117)); replace BK1117 := nb BK1117 hb; have NB1140_1207 := Aside0.mk ((bn BK1140 hg : gb1140 ≠ gb1207)); have NB1207_1140 := Aside0.mk ((bm BK1140 hg : gb1207 ≠ gb1140)); replace BK1140 := nb BK1140 hb; have NB1151_1207 := Aside0.mk ((bn BK1151 hg : gb1151 ≠ gb1207)); have NB1207_1151 := Aside0.mk ((bm BK1151 hg : gb1207 ≠ gb1151)); replace BK1151 := nb BK1151 hb; have NB1163_1207 := Aside0.mk ((bn BK1163 hg : gb1163 ≠ gb1207)); have NB1207_1163 := Aside0.mk ((bm BK1163 hg : gb1207 ≠ gb1163)); replace BK1163 := nb BK1163 hb; clear hb hbox hg; obtain ⟨Ao130, co130, eo130⟩ := Kd.R_slice HO1198.out; subst eo130; have hnb131 := NB1207_1117.out; have hnc131 := NB1117_1207.out; have hnb132 := NB1207_1140.out; have hnc132 := NB1140_1207.out; have hnb133 := NB1207_1151.out; have hnc133 := NB1151_1207.out; have hnb134 := NB1207_1163.out; have hnc134 := NB1163_1207.out; obtain ⟨hcz135_0, hcz135_1, hcz135_2, hcz135_3⟩ := cz4 BK1207; obtain ⟨hfz135_0, hfz135_1, hfz135_2, hfz135_3⟩ := fz4 BK1207; obtain ⟨Ao136, co136, eo136⟩ := Kd.R_slice HO1201.out; subst eo136; obtain ⟨Ao137, co137, eo137⟩ := Kd.R_slice HO1204.out; subst eo137))
           (try simp only [Act.put, List.setIfInBounds_toArray, List.set_cons_zero, List.set_cons_succ])
           go_cut [87] (fun v87 wc => ∃ (kq : Nat) (x87_112 : Bool), v87 = .bool x87_112 ∧ Aside0 (laws_FnExactCheckpointLog.j2 kq t1181 x87_112 t1182 t1183 t1184 t1161 = some r) ∧ Aside0 (kq ≤ kj67) ∧ Aside0 (Kd.R Kd.string 9 wc w.heap.size (fun k_ => some k_ ≠ ((.slice Ao26 t1135.length co26) : Value).ownBlock ∧ some k_ ≠ ((.slice Ao30 t1177.length co30) : Value).ownBlock ∧ some k_ ≠ ((.slice Ao35 t1179.length co35) : Value).ownBlock ∧ some k_ ≠ ((.slice Ao38 t1152.length co38) : Value).ownBlock ∧ some k_ ≠ ((.slice Ao44 t1158.length co44) : Value).ownBlock ∧ some k_ ≠ ((.slice Ao130 t1196.length co130) : Value).ownBlock ∧ some k_ ≠ ((.slice Ao137 t1202.length co137) : Value).ownBlock) (.slice Ao22 t1129.length co22) t1129) ∧ Aside0 (Kd.R k72 72 wc w.heap.size (fun k_ => some k_ ≠ ((.slice Ao34 t1178.length co34) : Value).ownBlock ∧ some k_ ≠ ((.slice Ao43 t1155.length co43) : Value).ownBlock ∧ some k_ ≠ ((.slice Ao136 t1199.length co136) : Value).ownBlock) (.slice Ao25 t1132.length co25) t1132) ∧ Aside0 (Kd.R Kd.string 9 wc w.heap.size (fun k_ => some k_ ≠ ((.slice Ao22 t1129.length co22) : Value).ownBlock ∧ some k_ ≠ ((.slice Ao30 t1177.length co30) : Value).ownBlock ∧ some k_ ≠ ((.slice Ao35 t1179.length co35) : Value).ownBlock ∧ some k_ ≠ ((.slice Ao38 t1152.length co38) : Value).ownBlock ∧ some k_ ≠ ((.slice Ao44 t1158.length co44) : Value).ownBlock ∧ some k_ ≠ ((.slice Ao130 t1196.length co130) : Value).ownBlock ∧ some k_ ≠ ((.slice Ao137 t1202.length co137) : Value).ownBlock) (.slice Ao26 t1135.length co26) t1135) ∧ Aside0 (Kd.R Kd.string 9 wc w.heap.size (fun k_ => some k_ ≠ ((.slice Ao22 t1129.length co22) : Value).ownBlock ∧ some k_ ≠ ((.slice Ao26 t1135.length co26) : Value).ownBlock ∧ some k_ ≠ ((.slice Ao35 t1179.length co35) : Value).ownBlock ∧ some k_ ≠ ((.slice Ao38 t1152.length co38) : Value).ownBlock ∧ some k_ ≠ ((.slice Ao44 t1158.length co44) : Value).ownBlock ∧ some k_ ≠ ((.slice Ao130 t1196.length co130) : Value).ownBlock ∧ some k_ ≠ ((.slice Ao137 t1202.length co137) : Value).ownBlock) (.slice Ao30 t1177.length co30) t1177) ∧ Aside0 (Kd.R k72 72 wc w.heap.size (fun k_ => some k_ ≠ ((.slice Ao25 t1132.length co25) : Value).ownBlock ∧ some k_ ≠ ((.slice Ao43 t1155.length co43) : Value).ownBlock ∧ some k_ ≠ ((.slice Ao136 t1199.length co136) : Value).ownBlock) (.slice Ao34 t1178.length co34) t1178) ∧ Aside0 (Kd.R Kd.string 9 wc w.heap.size (fun k_ => some k_ ≠ ((.slice Ao22 t1129.length co22) : Value).ownBlock ∧ some k_ ≠ ((.slice Ao26 t1135.length co26) : Value).ownBlock ∧ some k_ ≠ ((.slice Ao30 t1177.length co30) : Value).ownBlock ∧ some k_ ≠ ((.slice Ao38 t1152.length co38) : Value).ownBlock ∧ some k_ ≠ ((.slice Ao44 t1158.length co44) : Value).ownBlock ∧ some k_ ≠ ((.slice Ao130 t1196.length co130) : Value).ownBlock ∧ some k_ ≠ ((.slice Ao137 t1202.length co137) : Value).ownBlock) (.slice Ao35 t1179.length co35) t1179) ∧ Aside0 (Kd.R Kd.string 9 wc w.heap.size (fun k_ => some k_ ≠ ((.slice Ao22 t1129.length co22) : Value).ownBlock ∧ some k_ ≠ ((.slice Ao26 t1135.length co26) : Value).ownBlock ∧ some k_ ≠ ((.slice Ao30 t1177.length co30) : Value).ownBlock ∧ some k_ ≠ ((.slice Ao35 t1179.length co35) : Value).ownBlock ∧ some k_ ≠ ((.slice Ao44 t1158.length co44) : Value).ownBlock ∧ some k_ ≠ ((.slice Ao130 t1196.length co130) : Value).ownBlock ∧ some k_ ≠ ((.slice Ao137 t1202.length co137) : Value).ownBlock) (.slice Ao38 t1152.length co38) t1182) ∧ Aside0 (Kd.R k72 72 wc w.heap.size (fun k_ => some k_ ≠ ((.slice Ao25 t1132.length co25) : Value).ownBlock ∧ some k_ ≠ ((.slice Ao34 t1178.length co34) : Value).ownBlock ∧ some k_ ≠ ((.slice Ao136 t1199.length co136) : Value).ownBlock) (.slice Ao43 t1155.length co43) t1183) ∧ Aside0 (Kd.R Kd.string 9 wc w.heap.size (fun k_ => some k_ ≠ ((.slice Ao22 t1129.length co22) : Value).ownBlock ∧ some k_ ≠ ((.slice Ao26 t1135.length co26) : Value).ownBlock ∧ some k_ ≠ ((.slice Ao30 t1177.length co30) : Value).ownBlock ∧ some k_ ≠ ((.slice Ao35 t1179.length co35) : Value).ownBlock ∧ some k_ ≠ ((.slice Ao38 t1152.length co38) : Value).ownBlock ∧ some k_ ≠ ((.slice Ao130 t1196.length co130) : Value).ownBlock ∧ some k_ ≠ ((.slice Ao137 t1202.length co137) : Value).ownBlock) (.slice Ao44 t1158.length co44) t1184) ∧ Aside0 (Kd.R Kd.string 9 wc w.heap.size (fun k_ => some k_ ≠ ((.slice Ao22 t1129.length co22) : Value).ownBlock ∧ some k_ ≠ ((.slice Ao26 t1135.length co26) : Value).ownBlock ∧ some k_ ≠ ((.slice Ao30 t1177.length co30) : Value).ownBlock ∧ some k_ ≠ ((.slice Ao35 t1179.length co35) : Value).ownBlock ∧ some k_ ≠ ((.slice Ao38 t1152.length co38) : Value).ownBlock ∧ some k_ ≠ ((.slice Ao44 t1158.length co44) : Value).ownBlock ∧ some k_ ≠ ((.slice Ao137 t1202.length co137) : Value).ownBlock) (.slice Ao130 t1196.length co130) t1196) ∧ Aside0 (Kd.R k72 72 wc w.heap.size (fun k_ => some k_ ≠ ((.slice Ao25 t1132.length co25) : Value).ownBlock ∧ some k_ ≠ ((.slice Ao34 t1178.length co34) : Value).ownBlock ∧ some k_ ≠ ((.slice Ao43 t1155.length co43) : Value).ownBlock) (.slice Ao136 t1199.length co136) t1199) ∧ Aside0 (Kd.R Kd.string 9 wc w.heap.size (fun k_ => some k_ ≠ ((.slice Ao22 t1129.length co22) : Value).ownBlock ∧ some k_ ≠ ((.slice Ao26 t1135.length co26) : Value).ownBlock ∧ some k_ ≠ ((.slice Ao30 t1177.length co30) : Value).ownBlock ∧ some k_ ≠ ((.slice Ao35 t1179.length co35) : Value).ownBlock ∧ some k_ ≠ ((.slice Ao38 t1152.length co38) : Value).ownBlock ∧ some k_ ≠ ((.slice Ao44 t1158.length co44) : Value).ownBlock ∧ some k_ ≠ ((.slice Ao130 t1196.length co130) : Value).ownBlock) (.slice Ao137 t1202.length co137) t1202) ∧ Aside0 (wc.heap[gb1117]? = some (.cells #[(.slice A0_0 l0_0.length c0_0), (.slice A0_1 l0_1.length c0_1), (.slice A0_2 l0_2.length c0_2), .int .i64 a0_3] 38 (0, 0))) ∧ Aside0 (wc.heap[gb1140]? = some (.cells #[(.slice Ao22 t1129.length co22), (.slice Ao25 t1132.length co25), (.slice Ao26 t1135.length co26), .int .i64 t1138] 44 (0, 0))) ∧ Aside0 (wc.heap[gb1151]? = some (.cells #[(.slice Ao30 t1177.length co30), (.slice Ao34 t1178.length co34), (.slice Ao35 t1179.length co35), .int .i64 t1150] 44 (0, 0))) ∧ Aside0 (wc.heap[gb1163]? = some (.cells #[(.slice Ao38 t1152.length co38), (.slice Ao43 t1155.length co43), (.slice Ao44 t1158.length co44), .int .i64 t1161] 44 (0, 0))) ∧ Aside0 (wc.heap[gb1207]? = some (.cells #[(.slice Ao130 t1196.length co130), (.slice Ao136 t1199.length co136), (.slice Ao137 t1202.length co137), .int .i64 t1205] 44 (0, 0))) ∧ Aside0 (Below w.heap.size w wc))
           case first =>
            have H := HC113.out
            clear HC113
            replace H := Option.bind_eq_some_iff.mp H
            obtain ⟨t1208, A1380, H⟩ := H
            replace H : (if t1208 = true then (laws_FnExactCheckpointLog.j2 kj67 t1181 (t1206 != t1139) t1182 t1183 t1184 t1161) else (laws_FnExactCheckpointLog.j2 kj67 t1181 true t1182 t1183 t1184 t1161)) = some r := H
            have A138 := Aside0.mk A1380
            clear A1380
            by_cases c139 : t1208 = true
            ·
             subst c139
             rw [if_pos rfl] at H
             have H' := Aside0.mk H
             clear H
             have hnb140 := NB1207_1117.out
             have hnc140 := NB1117_1207.out
             have hnb141 := NB1207_1140.out
             have hnc141 := NB1140_1207.out
             have hnb142 := NB1207_1151.out
             have hnc142 := NB1151_1207.out
             have hnb143 := NB1207_1163.out
             have hnc143 := NB1163_1207.out
             obtain ⟨hcz144_0, hcz144_1, hcz144_2, hcz144_3⟩ := cz4 BK1207
             obtain ⟨hfz144_0, hfz144_1, hfz144_2, hfz144_3⟩ := fz4 BK1207
             have hnb145 := NB1140_1117.out
             have hnc145 := NB1117_1140.out
             have hnb146 := NB1140_1151.out
             have hnc146 := NB1151_1140.out
             have hnb147 := NB1140_1163.out
             have hnc147 := NB1163_1140.out
             obtain ⟨hcz148_0, hcz148_1, hcz148_2, hcz148_3⟩ := cz4 BK1140
             obtain ⟨hfz148_0, hfz148_1, hfz148_2, hfz148_3⟩ := fz4 BK1140
             go_wp2_with (first | ((with_reducible refine gate_callee (f := 29) rfl ?_); refine gL (some 81) rfl rfl Try.func29 (by kernel_rfl) rfl #[.agg #[.slice Ao130 t1196.length co130, .slice Ao136 t1199.length co136, .slice Ao137 t1202.length co137, .int .i64 t1205], .agg #[.slice Ao22 t1129.length co22, .slice Ao25 t1132.length co25, .slice Ao26 t1135.length co26, .int .i64 t1138]] rfl ?_; (with_reducible refine (laws_eqStore.calls kj67 _ _ t1196 _ _ t1199 _ _ t1202 t1205 _ _ t1129 _ _ t1132 _ _ t1135 t1138 true _ ?side1 ?side2 ?side3 ?side4 ?side5 ?side6 ?side7 ?side8 ?side9 ?side10 ?side11 ?side12 A138.out).mono ?_); (case side1 => exact rc HO1198 BK1207); (case side2 => exact (Kd.R_reads' HO1198.out).2.1); (case side3 => exact rc HO1201 BK1207); (case side4 => exact (Kd.R_reads' HO1201.out).2.1); (case side5 => exact rc HO1204 BK1207); (case side6 => exact (Kd.R_reads' HO1204.out).2.1); (case side7 => exact rc HO_1141000 BK1207); (case side8 => exact (Kd.R_reads' HO_1141000.out).2.1); (case side9 => exact rc HO_1141001 BK1207); (case side10 => exact (Kd.R_reads' HO_1141001.out).2.1); (case side11 => exact rc HO_1141002 BK1207); (case side12 => exact (Kd.R_reads' HO_1141002.out).2.1); rintro e w149 ⟨rfl, hb⟩; refine ⟨_, rfl, ?_⟩; replace HO_1141000 := nf HO_1141000 BK1207 hb; replace HO_1141001 := nf HO_1141001 BK1207 hb; replace HO_1141002 := nf HO_1141002 BK1207 hb; replace HO_1152000 := nf HO_1152000 BK1207 hb; replace HO_1152001 := nf HO_1152001 BK1207 hb; replace HO_1152002 := nf HO_1152002 BK1207 hb; replace HO_1164000 := nf HO_1164000 BK1207 hb; replace HO_1164001 := nf HO_1164001 BK1207 hb; replace HO_1164002 := nf HO_1164002 BK1207 hb; replace HO1188 := nf HO1188 BK1207 hb; replace HO1191 := nf HO1191 BK1207 hb; replace HO1194 := nf HO1194 BK1207 hb; replace HO1198 := nf HO1198 BK1207 hb; replace HO1201 := nf HO1201 BK1207 hb; replace HO1204 := nf HO1204 BK1207 hb; replace BK1117 := Aside0.mk (blk_below (bf BK1117 NB1117_1207) hb); replace BK1140 := Aside0.mk (blk_below (bf BK1140 NB1140_1207) hb); replace BK1151 := Aside0.mk (blk_below (bf BK1151 NB1151_1207) hb); replace BK1163 := Aside0.mk (blk_below (bf BK1163 NB1163_1207) hb); replace BK1207 := Aside0.mk (blk_below (g := gb1207) (o := .cells #[.slice Ao130 t1196.length co130, .slice Ao136 t1199.length co136, .slice Ao137 t1202.length co137, .int .i64 t1205] 44 (0, 0)) (by (with_reducible repeat (first | refine blk_drewN ?_ _ | refine blk_drew ?_ | refine blk_alloc ?_ _)); refine blk_put (cs := #[.slice Ao130 t1196.length co130, .slice Ao136 t1199.length co136, .slice Ao137 t1202.length co137, .int .i64 0]) ?_ 3 _ rfl; (with_reducible repeat (first | refine blk_drewN ?_ _ | refine blk_drew ?_ | refine blk_alloc ?_ _)); refine blk_put (cs := #[.slice Ao130 t1196.length co130, .slice Ao136 t1199.length co136, .slice none 0 0, .int .i64 0]) ?_ 2 _ rfl; (with_reducible repeat (first | refine blk_drewN ?_ _ | refine blk_drew ?_ | refine blk_alloc ?_ _)); refine blk_put (cs := #[.slice Ao130 t1196.length co130, .slice none 0 0, .slice none 0 0, .int .i64 0]) ?_ 1 _ rfl; (with_reducible repeat (first | refine blk_drewN ?_ _ | refine blk_drew ?_ | refine blk_alloc ?_ _)); refine blk_put (cs := #[.slice none 0 0, .slice none 0 0, .slice none 0 0, .int .i64 0]) ?_ 0 _ rfl; (with_reducible repeat (first | refine blk_drewN ?_ _ | refine blk_drew ?_ | refine blk_alloc ?_ _)); exact BK1207.out) hb); replace HB := Aside0.mk (below_step (bs5 HB GE1117 GE1140 GE1151 GE1163 GE1207) hb); (try clear hb); (try clear hb2); (try clear hk); (try clear hi)))
             go_meet
             case rel => exact ⟨_, ((t1206 != t1139)), (by first | rfl | (simp; done) | (simp [*]; done)), H', ⟨by have := HJ10.out; have := HJ67.out; first | omega | exact Nat.le_refl _⟩, ⟨by (try simp only [hl1152000_67]); (try simp only [hl1152001_67]); (try simp only [hl1152002_67]); (with_reducible repeat (first | apply Kd.R_alloc | apply Kd.R_drewN | apply Kd.R_drew)); exact Kd.R_mono HO_1141000.out (fun _ hk => ⟨hk.1.1.1.1.1, ⟨hk.1.1.1.1.2.1, ⟨hk.1.1.1.1.2.2.1, ⟨hk.1.1.1.1.2.2.2.1, ⟨hk.1.1.1.1.2.2.2.2, ⟨hk.1.2, hk.2⟩⟩⟩⟩⟩⟩)⟩, ⟨by (try simp only [hl1152000_67]); (try simp only [hl1152001_67]); (try simp only [hl1152002_67]); (with_reducible repeat (first | apply Kd.R_alloc | apply Kd.R_drewN | apply Kd.R_drew)); exact Kd.R_mono HO_1141001.out (fun _ hk => ⟨hk.1.1.1, ⟨hk.1.1.2, hk.2⟩⟩)⟩, ⟨by (try simp only [hl1152000_67]); (try simp only [hl1152001_67]); (try simp only [hl1152002_67]); (with_reducible repeat (first | apply Kd.R_alloc | apply Kd.R_drewN | apply Kd.R_drew)); exact Kd.R_mono HO_1141002.out (fun _ hk => ⟨hk.1.1.1.1.1, ⟨hk.1.1.1.1.2.1, ⟨hk.1.1.1.1.2.2.1, ⟨hk.1.1.1.1.2.2.2.1, ⟨hk.1.1.1.1.2.2.2.2, ⟨hk.1.2, hk.2⟩⟩⟩⟩⟩⟩)⟩, ⟨by (try simp only [hl1152000_67]); (try simp only [hl1152001_67]); (try simp only [hl1152002_67]); (with_reducible repeat (first | apply Kd.R_alloc | apply Kd.R_drewN | apply Kd.R_drew)); exact Kd.R_mono HO_1152000.out (fun _ hk => ⟨hk.1.1.1.1.1, ⟨hk.1.1.1.1.2.1, ⟨hk.1.1.1.1.2.2.1, ⟨hk.1.1.1.1.2.2.2.1, ⟨hk.1.1.1.1.2.2.2.2, ⟨hk.1.2, hk.2⟩⟩⟩⟩⟩⟩)⟩, ⟨by (try simp only [hl1152000_67]); (try simp only [hl1152001_67]); (try simp only [hl1152002_67]); (with_reducible repeat (first | apply Kd.R_alloc | apply Kd.R_drewN | apply Kd.R_drew)); exact Kd.R_mono HO_1152001.out (fun _ hk => ⟨hk.1.1.1, ⟨hk.1.1.2, hk.2⟩⟩)⟩, ⟨by (try simp only [hl1152000_67]); (try simp only [hl1152001_67]); (try simp only [hl1152002_67]); (with_reducible repeat (first | apply Kd.R_alloc | apply Kd.R_drewN | apply Kd.R_drew)); exact Kd.R_mono HO_1152002.out (fun _ hk => ⟨hk.1.1.1.1.1, ⟨hk.1.1.1.1.2.1, ⟨hk.1.1.1.1.2.2.1, ⟨hk.1.1.1.1.2.2.2.1, ⟨hk.1.1.1.1.2.2.2.2, ⟨hk.1.2, hk.2⟩⟩⟩⟩⟩⟩)⟩, ⟨by (try simp only [hl1152000_67]); (try simp only [hl1152001_67]); (try simp only [hl1152002_67]); (with_reducible repeat (first | apply Kd.R_alloc | apply Kd.R_drewN | apply Kd.R_drew)); exact Kd.R_mono HO_1164000.out (fun _ hk => ⟨hk.1.1.1.1.1, ⟨hk.1.1.1.1.2.1, ⟨hk.1.1.1.1.2.2.1, ⟨hk.1.1.1.1.2.2.2.1, ⟨hk.1.1.1.1.2.2.2.2, ⟨hk.1.2, hk.2⟩⟩⟩⟩⟩⟩)⟩, ⟨by (try simp only [hl1152000_67]); (try simp only [hl1152001_67]); (try simp only [hl1152002_67]); (with_reducible repeat (first | apply Kd.R_alloc | apply Kd.R_drewN | apply Kd.R_drew)); exact Kd.R_mono HO_1164001.out (fun _ hk => ⟨hk.1.1.1, ⟨hk.1.1.2, hk.2⟩⟩)⟩, ⟨by (try simp only [hl1152000_67]); (try simp only [hl1152001_67]); (try simp only [hl1152002_67]); (with_reducible repeat (first | apply Kd.R_alloc | apply Kd.R_drewN | apply Kd.R_drew)); exact Kd.R_mono HO_1164002.out (fun _ hk => ⟨hk.1.1.1.1.1, ⟨hk.1.1.1.1.2.1, ⟨hk.1.1.1.1.2.2.1, ⟨hk.1.1.1.1.2.2.2.1, ⟨hk.1.1.1.1.2.2.2.2, ⟨hk.1.2, hk.2⟩⟩⟩⟩⟩⟩)⟩, ⟨by (try simp only [hl1152000_67]); (try simp only [hl1152001_67]); (try simp only [hl1152002_67]); (with_reducible repeat (first | apply Kd.R_alloc | apply Kd.R_drewN | apply Kd.R_drew)); exact Kd.R_mono HO1198.out (fun _ hk => ⟨hk.1.1.1.1.1.1.1.2, ⟨hk.1.1.1.1.1.1.2, ⟨hk.1.1.1.1.1.2, ⟨hk.1.1.1.1.2, ⟨hk.1.1.1.2, ⟨hk.1.1.2, hk.1.1.1.1.1.1.1.1⟩⟩⟩⟩⟩⟩)⟩, ⟨by (try simp only [hl1152000_67]); (try simp only [hl1152001_67]); (try simp only [hl1152002_67]); (with_reducible repeat (first | apply Kd.R_alloc | apply Kd.R_drewN | apply Kd.R_drew)); exact Kd.R_mono HO1201.out (fun _ hk => ⟨hk.1.1.1.2, ⟨hk.1.1.2, hk.1.2⟩⟩)⟩, ⟨by (try simp only [hl1152000_67]); (try simp only [hl1152001_67]); (try simp only [hl1152002_67]); (with_reducible repeat (first | apply Kd.R_alloc | apply Kd.R_drewN | apply Kd.R_drew)); exact Kd.R_mono HO1204.out (fun _ hk => ⟨hk.1.1.1.1.1.1.1.2, ⟨hk.1.1.1.1.1.1.2, ⟨hk.1.1.1.1.1.2, ⟨hk.1.1.1.1.2, ⟨hk.1.1.1.2, ⟨hk.1.1.2, hk.1.1.1.1.1.1.1.1⟩⟩⟩⟩⟩⟩)⟩, ⟨by (try simp only [hl1152000_67]); (try simp only [hl1152001_67]); (try simp only [hl1152002_67]); (with_reducible repeat (first | refine blk_drewN ?_ _ | refine blk_drew ?_ | refine blk_alloc ?_ _)); exact BK1117.out⟩, ⟨by (try simp only [hl1152000_67]); (try simp only [hl1152001_67]); (try simp only [hl1152002_67]); (with_reducible repeat (first | refine blk_drewN ?_ _ | refine blk_drew ?_ | refine blk_alloc ?_ _)); exact BK1140.out⟩, ⟨by (try simp only [hl1152000_67]); (try simp only [hl1152001_67]); (try simp only [hl1152002_67]); (with_reducible repeat (first | refine blk_drewN ?_ _ | refine blk_drew ?_ | refine blk_alloc ?_ _)); exact BK1151.out⟩, ⟨by (try simp only [hl1152000_67]); (try simp only [hl1152001_67]); (try simp only [hl1152002_67]); (with_reducible repeat (first | refine blk_drewN ?_ _ | refine blk_drew ?_ | refine blk_alloc ?_ _)); exact BK1163.out⟩, ⟨by (try simp only [hl1152000_67]); (try simp only [hl1152001_67]); (try simp only [hl1152002_67]); (with_reducible repeat (first | refine blk_drewN ?_ _ | refine blk_drew ?_ | refine blk_alloc ?_ _)); exact BK1207.out⟩, ⟨bs5 HB GE1117 GE1140 GE1151 GE1163 GE1207⟩⟩
            ·
             replace c139 := Bool.eq_false_iff.mpr c139
             subst c139
             rw [if_neg (show ¬ (false = true) by decide)] at H
             have H' := Aside0.mk H
             clear H
             have hnb150 := NB1207_1117.out
             have hnc150 := NB1117_1207.out
             have hnb151 := NB1207_1140.out
             have hnc151 := NB1140_1207.out
             have hnb152 := NB1207_1151.out
             have hnc152 := NB1151_1207.out
             have hnb153 := NB1207_1163.out
             have hnc153 := NB1163_1207.out
             obtain ⟨hcz154_0, hcz154_1, hcz154_2, hcz154_3⟩ := cz4 BK1207
             obtain ⟨hfz154_0, hfz154_1, hfz154_2, hfz154_3⟩ := fz4 BK1207
             have hnb155 := NB1140_1117.out
             have hnc155 := NB1117_1140.out
             have hnb156 := NB1140_1151.out
             have hnc156 := NB1151_1140.out
             have hnb157 := NB1140_1163.out
             have hnc157 := NB1163_1140.out
             obtain ⟨hcz158_0, hcz158_1, hcz158_2, hcz158_3⟩ := cz4 BK1140
             obtain ⟨hfz158_0, hfz158_1, hfz158_2, hfz158_3⟩ := fz4 BK1140
             go_wp2_with (first | ((with_reducible refine gate_callee (f := 29) rfl ?_); refine gL (some 81) rfl rfl Try.func29 (by kernel_rfl) rfl #[.agg #[.slice Ao130 t1196.length co130, .slice Ao136 t1199.length co136, .slice Ao137 t1202.length co137, .int .i64 t1205], .agg #[.slice Ao22 t1129.length co22, .slice Ao25 t1132.length co25, .slice Ao26 t1135.length co26, .int .i64 t1138]] rfl ?_; (with_reducible refine (laws_eqStore.calls kj67 _ _ t1196 _ _ t1199 _ _ t1202 t1205 _ _ t1129 _ _ t1132 _ _ t1135 t1138 false _ ?side1 ?side2 ?side3 ?side4 ?side5 ?side6 ?side7 ?side8 ?side9 ?side10 ?side11 ?side12 A138.out).mono ?_); (case side1 => exact rc HO1198 BK1207); (case side2 => exact (Kd.R_reads' HO1198.out).2.1); (case side3 => exact rc HO1201 BK1207); (case side4 => exact (Kd.R_reads' HO1201.out).2.1); (case side5 => exact rc HO1204 BK1207); (case side6 => exact (Kd.R_reads' HO1204.out).2.1); (case side7 => exact rc HO_1141000 BK1207); (case side8 => exact (Kd.R_reads' HO_1141000.out).2.1); (case side9 => exact rc HO_1141001 BK1207); (case side10 => exact (Kd.R_reads' HO_1141001.out).2.1); (case side11 => exact rc HO_1141002 BK1207); (case side12 => exact (Kd.R_reads' HO_1141002.out).2.1); rintro e w159 ⟨rfl, hb⟩; refine ⟨_, rfl, ?_⟩; replace HO_1141000 := nf HO_1141000 BK1207 hb; replace HO_1141001 := nf HO_1141001 BK1207 hb; replace HO_1141002 := nf HO_1141002 BK1207 hb; replace HO_1152000 := nf HO_1152000 BK1207 hb; replace HO_1152001 := nf HO_1152001 BK1207 hb; replace HO_1152002 := nf HO_1152002 BK1207 hb; replace HO_1164000 := nf HO_1164000 BK1207 hb; replace HO_1164001 := nf HO_1164001 BK1207 hb; replace HO_1164002 := nf HO_1164002 BK1207 hb; replace HO1188 := nf HO1188 BK1207 hb; replace HO1191 := nf HO1191 BK1207 hb; replace HO1194 := nf HO1194 BK1207 hb; replace HO1198 := nf HO1198 BK1207 hb; replace HO1201 := nf HO1201 BK1207 hb; replace HO1204 := nf HO1204 BK1207 hb; replace BK1117 := Aside0.mk (blk_below (bf BK1117 NB1117_1207) hb); replace BK1140 := Aside0.mk (blk_below (bf BK1140 NB1140_1207) hb); replace BK1151 := Aside0.mk (blk_below (bf BK1151 NB1151_1207) hb); replace BK1163 := Aside0.mk (blk_below (bf BK1163 NB1163_1207) hb); replace BK1207 := Aside0.mk (blk_below (g := gb1207) (o := .cells #[.slice Ao130 t1196.length co130, .slice Ao136 t1199.length co136, .slice Ao137 t1202.length co137, .int .i64 t1205] 44 (0, 0)) (by (with_reducible repeat (first | refine blk_drewN ?_ _ | refine blk_drew ?_ | refine blk_alloc ?_ _)); refine blk_put (cs := #[.slice Ao130 t1196.length co130, .slice Ao136 t1199.length co136, .slice Ao137 t1202.length co137, .int .i64 0]) ?_ 3 _ rfl; (with_reducible repeat (first | refine blk_drewN ?_ _ | refine blk_drew ?_ | refine blk_alloc ?_ _)); refine blk_put (cs := #[.slice Ao130 t1196.length co130, .slice Ao136 t1199.length co136, .slice none 0 0, .int .i64 0]) ?_ 2 _ rfl; (with_reducible repeat (first | refine blk_drewN ?_ _ | refine blk_drew ?_ | refine blk_alloc ?_ _)); refine blk_put (cs := #[.slice Ao130 t1196.length co130, .slice none 0 0, .slice none 0 0, .int .i64 0]) ?_ 1 _ rfl; (with_reducible repeat (first | refine blk_drewN ?_ _ | refine blk_drew ?_ | refine blk_alloc ?_ _)); refine blk_put (cs := #[.slice none 0 0, .slice none 0 0, .slice none 0 0, .int .i64 0]) ?_ 0 _ rfl; (with_reducible repeat (first | refine blk_drewN ?_ _ | refine blk_drew ?_ | refine blk_alloc ?_ _)); exact BK1207.out) hb); replace HB := Aside0.mk (below_step (bs5 HB GE1117 GE1140 GE1151 GE1163 GE1207) hb); (try clear hb); (try clear hb2); (try clear hk); (try clear hi)))
             go_meet
             case rel => exact ⟨_, (true), (by first | rfl | (simp; done) | (simp [*]; done)), H', ⟨by have := HJ10.out; have := HJ67.out; first | omega | exact Nat.le_refl _⟩, ⟨by (try simp only [hl1152000_67]); (try simp only [hl1152001_67]); (try simp only [hl1152002_67]); (with_reducible repeat (first | apply Kd.R_alloc | apply Kd.R_drewN | apply Kd.R_drew)); exact Kd.R_mono HO_1141000.out (fun _ hk => ⟨hk.1.1.1.1.1, ⟨hk.1.1.1.1.2.1, ⟨hk.1.1.1.1.2.2.1, ⟨hk.1.1.1.1.2.2.2.1, ⟨hk.1.1.1.1.2.2.2.2, ⟨hk.1.2, hk.2⟩⟩⟩⟩⟩⟩)⟩, ⟨by (try simp only [hl1152000_67]); (try simp only [hl1152001_67]); (try simp only [hl1152002_67]); (with_reducible repeat (first | apply Kd.R_alloc | apply Kd.R_drewN | apply Kd.R_drew)); exact Kd.R_mono HO_1141001.out (fun _ hk => ⟨hk.1.1.1, ⟨hk.1.1.2, hk.2⟩⟩)⟩, ⟨by (try simp only [hl1152000_67]); (try simp only [hl1152001_67]); (try simp only [hl1152002_67]); (with_reducible repeat (first | apply Kd.R_alloc | apply Kd.R_drewN | apply Kd.R_drew)); exact Kd.R_mono HO_1141002.out (fun _ hk => ⟨hk.1.1.1.1.1, ⟨hk.1.1.1.1.2.1, ⟨hk.1.1.1.1.2.2.1, ⟨hk.1.1.1.1.2.2.2.1, ⟨hk.1.1.1.1.2.2.2.2, ⟨hk.1.2, hk.2⟩⟩⟩⟩⟩⟩)⟩, ⟨by (try simp only [hl1152000_67]); (try simp only [hl1152001_67]); (try simp only [hl1152002_67]); (with_reducible repeat (first | apply Kd.R_alloc | apply Kd.R_drewN | apply Kd.R_drew)); exact Kd.R_mono HO_1152000.out (fun _ hk => ⟨hk.1.1.1.1.1, ⟨hk.1.1.1.1.2.1, ⟨hk.1.1.1.1.2.2.1, ⟨hk.1.1.1.1.2.2.2.1, ⟨hk.1.1.1.1.2.2.2.2, ⟨hk.1.2, hk.2⟩⟩⟩⟩⟩⟩)⟩, ⟨by (try simp only [hl1152000_67]); (try simp only [hl1152001_67]); (try simp only [hl1152002_67]); (with_reducible repeat (first | apply Kd.R_alloc | apply Kd.R_drewN | apply Kd.R_drew)); exact Kd.R_mono HO_1152001.out (fun _ hk => ⟨hk.1.1.1, ⟨hk.1.1.2, hk.2⟩⟩)⟩, ⟨by (try simp only [hl1152000_67]); (try simp only [hl1152001_67]); (try simp only [hl1152002_67]); (with_reducible repeat (first | apply Kd.R_alloc | apply Kd.R_drewN | apply Kd.R_drew)); exact Kd.R_mono HO_1152002.out (fun _ hk => ⟨hk.1.1.1.1.1, ⟨hk.1.1.1.1.2.1, ⟨hk.1.1.1.1.2.2.1, ⟨hk.1.1.1.1.2.2.2.1, ⟨hk.1.1.1.1.2.2.2.2, ⟨hk.1.2, hk.2⟩⟩⟩⟩⟩⟩)⟩, ⟨by (try simp only [hl1152000_67]); (try simp only [hl1152001_67]); (try simp only [hl1152002_67]); (with_reducible repeat (first | apply Kd.R_alloc | apply Kd.R_drewN | apply Kd.R_drew)); exact Kd.R_mono HO_1164000.out (fun _ hk => ⟨hk.1.1.1.1.1, ⟨hk.1.1.1.1.2.1, ⟨hk.1.1.1.1.2.2.1, ⟨hk.1.1.1.1.2.2.2.1, ⟨hk.1.1.1.1.2.2.2.2, ⟨hk.1.2, hk.2⟩⟩⟩⟩⟩⟩)⟩, ⟨by (try simp only [hl1152000_67]); (try simp only [hl1152001_67]); (try simp only [hl1152002_67]); (with_reducible repeat (first | apply Kd.R_alloc | apply Kd.R_drewN | apply Kd.R_drew)); exact Kd.R_mono HO_1164001.out (fun _ hk => ⟨hk.1.1.1, ⟨hk.1.1.2, hk.2⟩⟩)⟩, ⟨by (try simp only [hl1152000_67]); (try simp only [hl1152001_67]); (try simp only [hl1152002_67]); (with_reducible repeat (first | apply Kd.R_alloc | apply Kd.R_drewN | apply Kd.R_drew)); exact Kd.R_mono HO_1164002.out (fun _ hk => ⟨hk.1.1.1.1.1, ⟨hk.1.1.1.1.2.1, ⟨hk.1.1.1.1.2.2.1, ⟨hk.1.1.1.1.2.2.2.1, ⟨hk.1.1.1.1.2.2.2.2, ⟨hk.1.2, hk.2⟩⟩⟩⟩⟩⟩)⟩, ⟨by (try simp only [hl1152000_67]); (try simp only [hl1152001_67]); (try simp only [hl1152002_67]); (with_reducible repeat (first | apply Kd.R_alloc | apply Kd.R_drewN | apply Kd.R_drew)); exact Kd.R_mono HO1198.out (fun _ hk => ⟨hk.1.1.1.1.1.1.1.2, ⟨hk.1.1.1.1.1.1.2, ⟨hk.1.1.1.1.1.2, ⟨hk.1.1.1.1.2, ⟨hk.1.1.1.2, ⟨hk.1.1.2, hk.1.1.1.1.1.1.1.1⟩⟩⟩⟩⟩⟩)⟩, ⟨by (try simp only [hl1152000_67]); (try simp only [hl1152001_67]); (try simp only [hl1152002_67]); (with_reducible repeat (first | apply Kd.R_alloc | apply Kd.R_drewN | apply Kd.R_drew)); exact Kd.R_mono HO1201.out (fun _ hk => ⟨hk.1.1.1.2, ⟨hk.1.1.2, hk.1.2⟩⟩)⟩, ⟨by (try simp only [hl1152000_67]); (try simp only [hl1152001_67]); (try simp only [hl1152002_67]); (with_reducible repeat (first | apply Kd.R_alloc | apply Kd.R_drewN | apply Kd.R_drew)); exact Kd.R_mono HO1204.out (fun _ hk => ⟨hk.1.1.1.1.1.1.1.2, ⟨hk.1.1.1.1.1.1.2, ⟨hk.1.1.1.1.1.2, ⟨hk.1.1.1.1.2, ⟨hk.1.1.1.2, ⟨hk.1.1.2, hk.1.1.1.1.1.1.1.1⟩⟩⟩⟩⟩⟩)⟩, ⟨by (try simp only [hl1152000_67]); (try simp only [hl1152001_67]); (try simp only [hl1152002_67]); (with_reducible repeat (first | refine blk_drewN ?_ _ | refine blk_drew ?_ | refine blk_alloc ?_ _)); exact BK1117.out⟩, ⟨by (try simp only [hl1152000_67]); (try simp only [hl1152001_67]); (try simp only [hl1152002_67]); (with_reducible repeat (first | refine blk_drewN ?_ _ | refine blk_drew ?_ | refine blk_alloc ?_ _)); exact BK1140.out⟩, ⟨by (try simp only [hl1152000_67]); (try simp only [hl1152001_67]); (try simp only [hl1152002_67]); (with_reducible repeat (first | refine blk_drewN ?_ _ | refine blk_drew ?_ | refine blk_alloc ?_ _)); exact BK1151.out⟩, ⟨by (try simp only [hl1152000_67]); (try simp only [hl1152001_67]); (try simp only [hl1152002_67]); (with_reducible repeat (first | refine blk_drewN ?_ _ | refine blk_drew ?_ | refine blk_alloc ?_ _)); exact BK1163.out⟩, ⟨by (try simp only [hl1152000_67]); (try simp only [hl1152001_67]); (try simp only [hl1152002_67]); (with_reducible repeat (first | refine blk_drewN ?_ _ | refine blk_drew ?_ | refine blk_alloc ?_ _)); exact BK1207.out⟩, ⟨bs5 HB GE1117 GE1140 GE1151 GE1163 GE1207⟩⟩
           case rest =>
            clear HC113
            try clear c1
            try clear c2
            try clear p2
            try clear c3
            try clear c3b0
            try clear c4
            try clear c5
            try clear c6
            try clear c7
            try clear c8
            try clear c9
            try clear c10
            try clear c11
            try clear c12
            try clear c13
            try clear c14
            try clear c15
            try clear c23
            try clear c25
            try clear c27
            try clear c29
            try clear c31
            try clear c32
            try clear c33
            try clear c39
            try clear c40
            try clear c41
            try clear c46
            try clear c47
            try clear c48
            try clear c49
            try clear c51
            try clear c52
            try clear c55
            try clear c56
            try clear c57
            try clear c59
            try clear c60
            try clear c63
            try clear c66
            try clear c75
            try clear c76
            try clear c77
            try clear c80
            try clear c80b0
            try clear c82
            try clear c83
            try clear c84
            try clear c85
            try clear c87
            try clear c88
            try clear c91
            try clear c92
            try clear c93
            try clear c95
            try clear c96
            try clear c99
            try clear c102
            try clear c102b0
            try clear c103
            try clear c104
            try clear c105
            try clear c110
            try clear c110b0
            try clear c110b1
            try clear c114
            try clear c115
            try clear c116
            try clear c121
            try clear c122
            try clear c131
            try clear c132
            try clear c133
            try clear c134
            try clear c139
            try clear c140
            try clear c141
            try clear c142
            try clear c143
            try clear c145
            try clear c146
            try clear c147
            try clear c150
            try clear c151
            try clear c152
            try clear c153
            try clear c155
            try clear c156
            try clear c157
            try clear hcz106_0 hcz106_1 hcz106_2 hcz106_3
            try clear hcz108_0 hcz108_1 hcz108_2 hcz108_3
            try clear hcz117_0 hcz117_1 hcz117_2 hcz117_3
            try clear hcz119_0 hcz119_1 hcz119_2 hcz119_3
            try clear hcz123_0 hcz123_1 hcz123_2 hcz123_3
            try clear hcz135_0 hcz135_1 hcz135_2 hcz135_3
            try clear hcz13_0 hcz13_1 hcz13_2 hcz13_3
            try clear hcz144_0 hcz144_1 hcz144_2 hcz144_3
            try clear hcz148_0 hcz148_1 hcz148_2 hcz148_3
            try clear hcz154_0 hcz154_1 hcz154_2 hcz154_3
            try clear hcz158_0 hcz158_1 hcz158_2 hcz158_3
            try clear hcz15_0 hcz15_1 hcz15_2 hcz15_3
            try clear hcz24_0 hcz24_1 hcz24_2 hcz24_3
            try clear hcz27_0 hcz27_1 hcz27_2 hcz27_3
            try clear hcz33_0 hcz33_1 hcz33_2 hcz33_3
            try clear hcz42_0 hcz42_1 hcz42_2 hcz42_3
            try clear hcz50_0 hcz50_1 hcz50_2 hcz50_3
            try clear hcz53_0 hcz53_1 hcz53_2 hcz53_3
            try clear hcz58_0 hcz58_1 hcz58_2 hcz58_3
            try clear hcz5_0 hcz5_1 hcz5_2 hcz5_3
            try clear hcz61_0 hcz61_1 hcz61_2 hcz61_3
            try clear hcz78_0 hcz78_1 hcz78_2 hcz78_3
            try clear hcz86_0 hcz86_1 hcz86_2 hcz86_3
            try clear hcz89_0 hcz89_1 hcz89_2 hcz89_3
            try clear hcz94_0 hcz94_1 hcz94_2 hcz94_3
            try clear hcz97_0 hcz97_1 hcz97_2 hcz97_3
            try clear hfz106_0 hfz106_1 hfz106_2 hfz106_3
            try clear hfz108_0 hfz108_1 hfz108_2 hfz108_3
            try clear hfz117_0 hfz117_1 hfz117_2 hfz117_3
            try clear hfz119_0 hfz119_1 hfz119_2 hfz119_3
            try clear hfz123_0 hfz123_1 hfz123_2 hfz123_3
            try clear hfz135_0 hfz135_1 hfz135_2 hfz135_3
            try clear hfz13_0 hfz13_1 hfz13_2 hfz13_3
            try clear hfz144_0 hfz144_1 hfz144_2 hfz144_3
            try clear hfz148_0 hfz148_1 hfz148_2 hfz148_3
            try clear hfz154_0 hfz154_1 hfz154_2 hfz154_3
            try clear hfz158_0 hfz158_1 hfz158_2 hfz158_3
            try clear hfz15_0 hfz15_1 hfz15_2 hfz15_3
            try clear hfz24_0 hfz24_1 hfz24_2 hfz24_3
            try clear hfz27_0 hfz27_1 hfz27_2 hfz27_3
            try clear hfz33_0 hfz33_1 hfz33_2 hfz33_3
            try clear hfz42_0 hfz42_1 hfz42_2 hfz42_3
            try clear hfz50_0 hfz50_1 hfz50_2 hfz50_3
            try clear hfz53_0 hfz53_1 hfz53_2 hfz53_3
            try clear hfz58_0 hfz58_1 hfz58_2 hfz58_3
            try clear hfz5_0 hfz5_1 hfz5_2 hfz5_3
            try clear hfz61_0 hfz61_1 hfz61_2 hfz61_3
            try clear hfz78_0 hfz78_1 hfz78_2 hfz78_3
            try clear hfz86_0 hfz86_1 hfz86_2 hfz86_3
            try clear hfz89_0 hfz89_1 hfz89_2 hfz89_3
            try clear hfz94_0 hfz94_1 hfz94_2 hfz94_3
            try clear hfz97_0 hfz97_1 hfz97_2 hfz97_3
            try clear p2
            obtain ⟨kq, x87_112, rfl, HA, HJ112, HO_1141000, HO_1141001, HO_1141002, HO_1152000, HO_1152001, HO_1152002, HO_1164000, HO_1164001, HO_1164002, HO_1208000, HO_1208001, HO_1208002, BK1117, BK1140, BK1151, BK1163, BK1207, HB⟩ := hcut
            have hl1164000_112 := (Kd.R_reads' HO_1164000.out).1
            rw [hl1164000_112] at HO_1164000
            (try simp only [hl1164000_112])
            (try simp only [hl1164000_112] at BK1117)
            (try simp only [hl1164000_112] at BK1140)
            (try simp only [hl1164000_112] at BK1151)
            (try simp only [hl1164000_112] at BK1163)
            (try simp only [hl1164000_112] at BK1207)
            (try simp only [hl1164000_112] at HO_1141000)
            (try simp only [hl1164000_112] at HO_1141001)
            (try simp only [hl1164000_112] at HO_1141002)
            (try simp only [hl1164000_112] at HO_1152000)
            (try simp only [hl1164000_112] at HO_1152001)
            (try simp only [hl1164000_112] at HO_1152002)
            (try simp only [hl1164000_112] at HO_1164001)
            (try simp only [hl1164000_112] at HO_1164002)
            (try simp only [hl1164000_112] at HO_1208000)
            (try simp only [hl1164000_112] at HO_1208001)
            (try simp only [hl1164000_112] at HO_1208002)
            have hl1164001_112 := (Kd.R_reads' HO_1164001.out).1
            rw [hl1164001_112] at HO_1164001
            (try simp only [hl1164001_112])
            (try simp only [hl1164001_112] at BK1117)
            (try simp only [hl1164001_112] at BK1140)
            (try simp only [hl1164001_112] at BK1151)
            (try simp only [hl1164001_112] at BK1163)
            (try simp only [hl1164001_112] at BK1207)
            (try simp only [hl1164001_112] at HO_1141000)
            (try simp only [hl1164001_112] at HO_1141001)
            (try simp only [hl1164001_112] at HO_1141002)
            (try simp only [hl1164001_112] at HO_1152000)
            (try simp only [hl1164001_112] at HO_1152001)
            (try simp only [hl1164001_112] at HO_1152002)
            (try simp only [hl1164001_112] at HO_1164000)
            (try simp only [hl1164001_112] at HO_1164002)
            (try simp only [hl1164001_112] at HO_1208000)
            (try simp only [hl1164001_112] at HO_1208001)
            (try simp only [hl1164001_112] at HO_1208002)
            have hl1164002_112 := (Kd.R_reads' HO_1164002.out).1
            rw [hl1164002_112] at HO_1164002
            (try simp only [hl1164002_112])
            (try simp only [hl1164002_112] at BK1117)
            (try simp only [hl1164002_112] at BK1140)
            (try simp only [hl1164002_112] at BK1151)
            (try simp only [hl1164002_112] at BK1163)
            (try simp only [hl1164002_112] at BK1207)
            (try simp only [hl1164002_112] at HO_1141000)
            (try simp only [hl1164002_112] at HO_1141001)
            (try simp only [hl1164002_112] at HO_1141002)
            (try simp only [hl1164002_112] at HO_1152000)
            (try simp only [hl1164002_112] at HO_1152001)
            (try simp only [hl1164002_112] at HO_1152002)
            (try simp only [hl1164002_112] at HO_1164000)
            (try simp only [hl1164002_112] at HO_1164001)
            (try simp only [hl1164002_112] at HO_1208000)
            (try simp only [hl1164002_112] at HO_1208001)
            (try simp only [hl1164002_112] at HO_1208002)
            cases kq with
            | zero => exact absurd HA.out (by simp [laws_FnExactCheckpointLog.j2])
            | succ kj112 =>
             have H := HA.out
             clear HA
             simp only [laws_FnExactCheckpointLog.j2] at H
             by_cases c160 : x87_112 = true
             ·
              subst c160
              rw [if_pos rfl] at H
              obtain rfl := Option.some.inj H
              go_wp2
              go_ret
              exact ⟨by first | rfl | (simp [errW_none, errW_some] <;> rfl) | (simp [*, errW_none, errW_some] <;> rfl), bs5 HB GE1117 GE1140 GE1151 GE1163 GE1207⟩
             ·
              replace c160 := Bool.eq_false_iff.mpr c160
              subst c160
              rw [if_neg (show ¬ (false = true) by decide)] at H
              replace H := Option.bind_eq_some_iff.mp H
              obtain ⟨t1209, A1610, H⟩ := H
              replace H : (if t1209 < 0 then (some false) else (if t1209 = t1181 then (some true) else (some false))) = some r := H
              have A161 := Aside0.mk A1610
              clear A1610
              by_cases c162 : t1209 < 0
              ·
               rw [if_pos c162] at H
               have c162b0 : decide (t1209 < 0) = true := decide_eq_true c162
               clear c162
               obtain rfl := Option.some.inj H
               have hnb163 := NB1163_1117.out
               have hnc163 := NB1117_1163.out
               have hnb164 := NB1163_1140.out
               have hnc164 := NB1140_1163.out
               have hnb165 := NB1163_1151.out
               have hnc165 := NB1151_1163.out
               have hnb166 := NB1163_1207.out
               have hnc166 := NB1207_1163.out
               obtain ⟨hcz167_0, hcz167_1, hcz167_2, hcz167_3⟩ := cz4 BK1163
               obtain ⟨hfz167_0, hfz167_1, hfz167_2, hfz167_3⟩ := fz4 BK1163
               go_wp2_with (first | ((with_reducible refine gate_callee (f := 33) rfl ?_); refine gL (some 90) rfl rfl Try.func33 (by kernel_rfl) rfl #[.agg #[.slice Ao38 t1182.length co38, .slice Ao43 t1183.length co43, .slice Ao44 t1184.length co44, .int .i64 t1161], .int .i64 1] rfl ?_; (with_reducible refine (laws_heldStore.calls kj112 _ _ t1182 _ _ t1183 _ _ t1184 t1161 1 t1209 _ ?side1 ?side2 ?side3 ?side4 ?side5 ?side6 A161.out).mono ?_); (case side1 => exact rc0 HO_1164000); (case side2 => exact (Kd.R_reads' HO_1164000.out).2.1); (case side3 => exact rc0 HO_1164001); (case side4 => exact (Kd.R_reads' HO_1164001.out).2.1); (case side5 => exact rc0 HO_1164002); (case side6 => exact (Kd.R_reads' HO_1164002.out).2.1); rintro e w168 ⟨rfl, hb⟩; refine ⟨_, rfl, ?_⟩; replace HO_1141000 := nr HO_1141000 hb; replace HO_1141001 := nr HO_1141001 hb; replace HO_1141002 := nr HO_1141002 hb; replace HO_1152000 := nr HO_1152000 hb; replace HO_1152001 := nr HO_1152001 hb; replace HO_1152002 := nr HO_1152002 hb; replace HO_1164000 := nr HO_1164000 hb; replace HO_1164001 := nr HO_1164001 hb; replace HO_1164002 := nr HO_1164002 hb; replace HO_1208000 := nr HO_1208000 hb; replace HO_1208001 := nr HO_1208001 hb; replace HO_1208002 := nr HO_1208002 hb; replace BK1117 := nb BK1117 hb; replace BK1140 := nb BK1140 hb; replace BK1151 := nb BK1151 hb; replace BK1163 := nb BK1163 hb; replace BK1207 := nb BK1207 hb; replace HB := Aside0.mk (below_step (bs5 HB GE1117 GE1140 GE1151 GE1163 GE1207) hb); (try clear hb); (try clear hb2); (try clear hk); (try clear hi)))
               go_ret
               exact ⟨by first | rfl | (simp [errW_none, errW_some] <;> rfl) | (simp [*, errW_none, errW_some] <;> rfl), bs5 HB GE1117 GE1140 GE1151 GE1163 GE1207⟩
              ·
               rw [if_neg c162] at H
               have c162b0 : decide (t1209 < 0) = false := decide_eq_false c162
               clear c162
               by_cases c169 : t1209 = t1181
               ·
                rw [if_pos c169] at H
                have c169b0 : (t1209 == t1181) = true := beq_iff_eq.mpr c169
                have c169b1 : (t1209 != t1181) = false := bne_eq_false_iff_eq.mpr c169
                clear c169
                obtain rfl := Option.some.inj H
                have hnb170 := NB1163_1117.out
                have hnc170 := NB1117_1163.out
                have hnb171 := NB1163_1140.out
                have hnc171 := NB1140_1163.out
                have hnb172 := NB1163_1151.out
                have hnc172 := NB1151_1163.out
                have hnb173 := NB1163_1207.out
                have hnc173 := NB1207_1163.out
                obtain ⟨hcz174_0, hcz174_1, hcz174_2, hcz174_3⟩ := cz4 BK1163
                obtain ⟨hfz174_0, hfz174_1, hfz174_2, hfz174_3⟩ := fz4 BK1163
                go_wp2_with (first | ((with_reducible refine gate_callee (f := 33) rfl ?_); refine gL (some 90) rfl rfl Try.func33 (by kernel_rfl) rfl #[.agg #[.slice Ao38 t1182.length co38, .slice Ao43 t1183.length co43, .slice Ao44 t1184.length co44, .int .i64 t1161], .int .i64 1] rfl ?_; (with_reducible refine (laws_heldStore.calls kj112 _ _ t1182 _ _ t1183 _ _ t1184 t1161 1 t1209 _ ?side1 ?side2 ?side3 ?side4 ?side5 ?side6 A161.out).mono ?_); (case side1 => exact rc0 HO_1164000); (case side2 => exact (Kd.R_reads' HO_1164000.out).2.1); (case side3 => exact rc0 HO_1164001); (case side4 => exact (Kd.R_reads' HO_1164001.out).2.1); (case side5 => exact rc0 HO_1164002); (case side6 => exact (Kd.R_reads' HO_1164002.out).2.1); rintro e w175 ⟨rfl, hb⟩; refine ⟨_, rfl, ?_⟩; replace HO_1141000 := nr HO_1141000 hb; replace HO_1141001 := nr HO_1141001 hb; replace HO_1141002 := nr HO_1141002 hb; replace HO_1152000 := nr HO_1152000 hb; replace HO_1152001 := nr HO_1152001 hb; replace HO_1152002 := nr HO_1152002 hb; replace HO_1164000 := nr HO_1164000 hb; replace HO_1164001 := nr HO_1164001 hb; replace HO_1164002 := nr HO_1164002 hb; replace HO_1208000 := nr HO_1208000 hb; replace HO_1208001 := nr HO_1208001 hb; replace HO_1208002 := nr HO_1208002 hb; replace BK1117 := nb BK1117 hb; replace BK1140 := nb BK1140 hb; replace BK1151 := nb BK1151 hb; replace BK1163 := nb BK1163 hb; replace BK1207 := nb BK1207 hb; replace HB := Aside0.mk (below_step (bs5 HB GE1117 GE1140 GE1151 GE1163 GE1207) hb); (try clear hb); (try clear hb2); (try clear hk); (try clear hi)))
                go_ret
                exact ⟨by first | rfl | (simp [errW_none, errW_some] <;> rfl) | (simp [*, errW_none, errW_some] <;> rfl), bs5 HB GE1117 GE1140 GE1151 GE1163 GE1207⟩
               ·
                rw [if_neg c169] at H
                have c169b0 : (t1209 == t1181) = false := beq_eq_false_iff_ne.mpr c169
                have c169b1 : (t1209 != t1181) = true := bne_iff_ne.mpr c169
                obtain rfl := Option.some.inj H
                have hnb176 := NB1163_1117.out
                have hnc176 := NB1117_1163.out
                have hnb177 := NB1163_1140.out
                have hnc177 := NB1140_1163.out
                have hnb178 := NB1163_1151.out
                have hnc178 := NB1151_1163.out
                have hnb179 := NB1163_1207.out
                have hnc179 := NB1207_1163.out
                obtain ⟨hcz180_0, hcz180_1, hcz180_2, hcz180_3⟩ := cz4 BK1163
                obtain ⟨hfz180_0, hfz180_1, hfz180_2, hfz180_3⟩ := fz4 BK1163
                go_wp2_with (first | ((with_reducible refine gate_callee (f := 33) rfl ?_); refine gL (some 90) rfl rfl Try.func33 (by kernel_rfl) rfl #[.agg #[.slice Ao38 t1182.length co38, .slice Ao43 t1183.length co43, .slice Ao44 t1184.length co44, .int .i64 t1161], .int .i64 1] rfl ?_; (with_reducible refine (laws_heldStore.calls kj112 _ _ t1182 _ _ t1183 _ _ t1184 t1161 1 t1209 _ ?side1 ?side2 ?side3 ?side4 ?side5 ?side6 A161.out).mono ?_); (case side1 => exact rc0 HO_1164000); (case side2 => exact (Kd.R_reads' HO_1164000.out).2.1); (case side3 => exact rc0 HO_1164001); (case side4 => exact (Kd.R_reads' HO_1164001.out).2.1); (case side5 => exact rc0 HO_1164002); (case side6 => exact (Kd.R_reads' HO_1164002.out).2.1); rintro e w181 ⟨rfl, hb⟩; refine ⟨_, rfl, ?_⟩; replace HO_1141000 := nr HO_1141000 hb; replace HO_1141001 := nr HO_1141001 hb; replace HO_1141002 := nr HO_1141002 hb; replace HO_1152000 := nr HO_1152000 hb; replace HO_1152001 := nr HO_1152001 hb; replace HO_1152002 := nr HO_1152002 hb; replace HO_1164000 := nr HO_1164000 hb; replace HO_1164001 := nr HO_1164001 hb; replace HO_1164002 := nr HO_1164002 hb; replace HO_1208000 := nr HO_1208000 hb; replace HO_1208001 := nr HO_1208001 hb; replace HO_1208002 := nr HO_1208002 hb; replace BK1117 := nb BK1117 hb; replace BK1140 := nb BK1140 hb; replace BK1151 := nb BK1151 hb; replace BK1163 := nb BK1163 hb; replace BK1207 := nb BK1207 hb; replace HB := Aside0.mk (below_step (bs5 HB GE1117 GE1140 GE1151 GE1163 GE1207) hb); (try clear hb); (try clear hb2); (try clear hk); (try clear hi)))
                go_ret
                exact ⟨by first | rfl | (simp [errW_none, errW_some] <;> rfl) | (simp [*, errW_none, errW_some] <;> rfl), bs5 HB GE1117 GE1140 GE1151 GE1163 GE1207⟩
          ·
           rw [if_neg c110] at H
           have c110b0 : (t1185 == t1181) = false := beq_eq_false_iff_ne.mpr c110
           have c110b1 : (t1185 != t1181) = true := bne_iff_ne.mpr c110
           obtain rfl := Option.some.inj H
           have hnb182 := NB1163_1117.out
           have hnc182 := NB1117_1163.out
           have hnb183 := NB1163_1140.out
           have hnc183 := NB1140_1163.out
           have hnb184 := NB1163_1151.out
           have hnc184 := NB1151_1163.out
           obtain ⟨hcz185_0, hcz185_1, hcz185_2, hcz185_3⟩ := cz4 BK1163
           obtain ⟨hfz185_0, hfz185_1, hfz185_2, hfz185_3⟩ := fz4 BK1163
           go_wp2_with (first | ((with_reducible refine gate_callee (f := 32) rfl ?_); refine gL (some 64) rfl rfl Try.func32 (by kernel_rfl) rfl #[.agg #[.slice Ao38 t1152.length co38, .slice Ao43 t1155.length co43, .slice Ao44 t1158.length co44, .int .i64 t1161], .int .i64 1] rfl ?_; (with_reducible refine (laws_markStore.calls kj67 (fun k_ => some k_ = (.slice Ao38 t1152.length co38 : Value).ownBlock) (.slice Ao38 t1152.length co38) t1152 (fun k_ => some k_ = (.slice Ao43 t1155.length co43 : Value).ownBlock) (.slice Ao43 t1155.length co43) t1155 (fun k_ => some k_ = (.slice Ao44 t1158.length co44 : Value).ownBlock) (.slice Ao44 t1158.length co44) t1158 t1161 1 t1181 t1182 t1183 t1184 w _ ?side1 ?side2 ?side3 ?side4 ?side5 ?side6 A100.out).mono ?_); (case side1 => repeat (first | (with_reducible first | exact HB.out | apply below_alloc | apply pw_below_drewN | apply below_drew1 | refine below_set ?_ GE1117.out | refine below_set ?_ GE1140.out | refine below_set ?_ GE1151.out | refine below_set ?_ GE1163.out) | exact HB.out)); (case side2 => exact Kd.R_tight rfl HO_1164000.out); (case side3 => exact fun k_ e_ => (HO_1164000.out.1 k_ e_.symm).2.2.2.2); (case side4 => exact Kd.R_tight rfl HO_1164001.out); (case side5 => exact Kd.R_tight rfl HO_1164002.out); (case side6 => exact fun k_ e_ => (HO_1164002.out.1 k_ e_.symm).2.2.2.2); rintro e w186 ⟨rfl, hy0, hy1, hy2, hb, hkp⟩; refine ⟨_, rfl, ?_⟩; replace HO_1141000 := Aside0.mk (Kd.R_mono (ok' := fun k_ => some k_ ≠ (.slice Ao26 t1135.length co26 : Value).ownBlock ∧ some k_ ≠ (.slice Ao30 t1177.length co30 : Value).ownBlock ∧ some k_ ≠ (.slice Ao35 t1179.length co35 : Value).ownBlock ∧ some k_ ≠ (.slice Ao38 t1152.length co38 : Value).ownBlock ∧ some k_ ≠ (.slice Ao44 t1158.length co44 : Value).ownBlock) (Kd.R_keptB ((Kd.R_apart' HO_1141000.out (Kd.R_typed HO_1164001.out) (by decide))) hkp (fun k_ hk_ hs_ => Or.elim hs_ (fun e_ => (hk_.1.2.2.2.1) e_) (fun e_ => Or.elim e_ (fun e_ => (hk_.2) e_) (fun e_ => (hk_.1.2.2.2.2) e_)))) (fun k_ hk_ => ⟨hk_.1.1.1, hk_.1.1.2.1, hk_.1.1.2.2.1, hk_.1.1.2.2.2.1, hk_.1.1.2.2.2.2⟩)); replace HO_1141001 := Aside0.mk (Kd.R_mono (ok' := fun k_ => some k_ ≠ (.slice Ao34 t1178.length co34 : Value).ownBlock ∧ some k_ ≠ (.slice Ao43 t1155.length co43 : Value).ownBlock) (Kd.R_keptB ((Kd.R_apart' (Kd.R_apart' HO_1141001.out (Kd.R_typed HO_1164000.out) (by decide)) (Kd.R_typed HO_1164002.out) (by decide))) hkp (fun k_ hk_ hs_ => Or.elim hs_ (fun e_ => (hk_.1.2) e_) (fun e_ => Or.elim e_ (fun e_ => (hk_.1.1.2) e_) (fun e_ => (hk_.2) e_)))) (fun k_ hk_ => ⟨hk_.1.1.1.1, hk_.1.1.1.2⟩)); replace HO_1141002 := Aside0.mk (Kd.R_mono (ok' := fun k_ => some k_ ≠ (.slice Ao22 t1129.length co22 : Value).ownBlock ∧ some k_ ≠ (.slice Ao30 t1177.length co30 : Value).ownBlock ∧ some k_ ≠ (.slice Ao35 t1179.length co35 : Value).ownBlock ∧ some k_ ≠ (.slice Ao38 t1152.length co38 : Value).ownBlock ∧ some k_ ≠ (.slice Ao44 t1158.length co44 : Value).ownBlock) (Kd.R_keptB ((Kd.R_apart' HO_1141002.out (Kd.R_typed HO_1164001.out) (by decide))) hkp (fun k_ hk_ hs_ => Or.elim hs_ (fun e_ => (hk_.1.2.2.2.1) e_) (fun e_ => Or.elim e_ (fun e_ => (hk_.2) e_) (fun e_ => (hk_.1.2.2.2.2) e_)))) (fun k_ hk_ => ⟨hk_.1.1.1, hk_.1.1.2.1, hk_.1.1.2.2.1, hk_.1.1.2.2.2.1, hk_.1.1.2.2.2.2⟩)); replace HO_1152000 := Aside0.mk (Kd.R_mono (ok' := fun k_ => some k_ ≠ (.slice Ao22 t1129.length co22 : Value).ownBlock ∧ some k_ ≠ (.slice Ao26 t1135.length co26 : Value).ownBlock ∧ some k_ ≠ (.slice Ao35 t1179.length co35 : Value).ownBlock ∧ some k_ ≠ (.slice Ao38 t1152.length co38 : Value).ownBlock ∧ some k_ ≠ (.slice Ao44 t1158.length co44 : Value).ownBlock) (Kd.R_keptB ((Kd.R_apart' HO_1152000.out (Kd.R_typed HO_1164001.out) (by decide))) hkp (fun k_ hk_ hs_ => Or.elim hs_ (fun e_ => (hk_.1.2.2.2.1) e_) (fun e_ => Or.elim e_ (fun e_ => (hk_.2) e_) (fun e_ => (hk_.1.2.2.2.2) e_)))) (fun k_ hk_ => ⟨hk_.1.1.1, hk_.1.1.2.1, hk_.1.1.2.2.1, hk_.1.1.2.2.2.1, hk_.1.1.2.2.2.2⟩)); replace HO_1152001 := Aside0.mk (Kd.R_mono (ok' := fun k_ => some k_ ≠ (.slice Ao25 t1132.length co25 : Value).ownBlock ∧ some k_ ≠ (.slice Ao43 t1155.length co43 : Value).ownBlock) (Kd.R_keptB ((Kd.R_apart' (Kd.R_apart' HO_1152001.out (Kd.R_typed HO_1164000.out) (by decide)) (Kd.R_typed HO_1164002.out) (by decide))) hkp (fun k_ hk_ hs_ => Or.elim hs_ (fun e_ => (hk_.1.2) e_) (fun e_ => Or.elim e_ (fun e_ => (hk_.1.1.2) e_) (fun e_ => (hk_.2) e_)))) (fun k_ hk_ => ⟨hk_.1.1.1.1, hk_.1.1.1.2⟩)); replace HO_1152002 := Aside0.mk (Kd.R_mono (ok' := fun k_ => some k_ ≠ (.slice Ao22 t1129.length co22 : Value).ownBlock ∧ some k_ ≠ (.slice Ao26 t1135.length co26 : Value).ownBlock ∧ some k_ ≠ (.slice Ao30 t1177.length co30 : Value).ownBlock ∧ some k_ ≠ (.slice Ao38 t1152.length co38 : Value).ownBlock ∧ some k_ ≠ (.slice Ao44 t1158.length co44 : Value).ownBlock) (Kd.R_keptB ((Kd.R_apart' HO_1152002.out (Kd.R_typed HO_1164001.out) (by decide))) hkp (fun k_ hk_ hs_ => Or.elim hs_ (fun e_ => (hk_.1.2.2.2.1) e_) (fun e_ => Or.elim e_ (fun e_ => (hk_.2) e_) (fun e_ => (hk_.1.2.2.2.2) e_)))) (fun k_ hk_ => ⟨hk_.1.1.1, hk_.1.1.2.1, hk_.1.1.2.2.1, hk_.1.1.2.2.2.1, hk_.1.1.2.2.2.2⟩)); replace BK1117 := Aside0.mk (blk_kept (bk BK1117) hkp (fun hs_ => Or.elim hs_ (fun e_ => (fun e_ => (Kd.R_ne HO_1164000.out BK1117.out (by decide)) e_) e_) (fun e_ => Or.elim e_ (fun e_ => (fun e_ => (Kd.R_ne HO_1164001.out BK1117.out (by decide)) e_) e_) (fun e_ => (fun e_ => (Kd.R_ne HO_1164002.out BK1117.out (by decide)) e_) e_)))); replace BK1140 := Aside0.mk (blk_kept (bk BK1140) hkp (fun hs_ => Or.elim hs_ (fun e_ => (fun e_ => (Kd.R_ne HO_1164000.out BK1140.out (by decide)) e_) e_) (fun e_ => Or.elim e_ (fun e_ => (fun e_ => (Kd.R_ne HO_1164001.out BK1140.out (by decide)) e_) e_) (fun e_ => (fun e_ => (Kd.R_ne HO_1164002.out BK1140.out (by decide)) e_) e_)))); replace BK1151 := Aside0.mk (blk_kept (bk BK1151) hkp (fun hs_ => Or.elim hs_ (fun e_ => (fun e_ => (Kd.R_ne HO_1164000.out BK1151.out (by decide)) e_) e_) (fun e_ => Or.elim e_ (fun e_ => (fun e_ => (Kd.R_ne HO_1164001.out BK1151.out (by decide)) e_) e_) (fun e_ => (fun e_ => (Kd.R_ne HO_1164002.out BK1151.out (by decide)) e_) e_)))); replace BK1163 := Aside0.mk (blk_kept (bk BK1163) hkp (fun hs_ => Or.elim hs_ (fun e_ => (fun e_ => (Kd.R_ne HO_1164000.out BK1163.out (by decide)) e_) e_) (fun e_ => Or.elim e_ (fun e_ => (fun e_ => (Kd.R_ne HO_1164001.out BK1163.out (by decide)) e_) e_) (fun e_ => (fun e_ => (Kd.R_ne HO_1164002.out BK1163.out (by decide)) e_) e_)))); replace HO_1164000 := Aside0.mk (Kd.R_reok rfl hy0 (fun k_ e_ => HO_1164000.out.1 k_ e_)); replace HO_1164001 := Aside0.mk (Kd.R_reok rfl hy1 (fun k_ e_ => HO_1164001.out.1 k_ e_)); replace HO_1164002 := Aside0.mk (Kd.R_reok rfl hy2 (fun k_ e_ => HO_1164002.out.1 k_ e_)); replace HB := Aside0.mk (hb); (try clear hb); (try clear hkp); (try clear hy0); (try clear hy1); (try clear hy2); obtain ⟨hcz187_0, hcz187_1, hcz187_2, hcz187_3⟩ := cz4 BK1163; obtain ⟨hfz187_0, hfz187_1, hfz187_2, hfz187_3⟩ := fz4 BK1163) | ((with_reducible refine gate_callee (f := 33) rfl ?_); refine goesL_ (some 67) rfl rfl Try.func33 (by kernel_rfl) rfl #[.agg #[.slice Ao38 t1182.length co38, .slice Ao43 t1183.length co43, .slice Ao44 t1184.length co44, .int .i64 t1161], .int .i64 1] rfl (by (try simp only [List.map_toArray, List.map_cons, List.map_nil]); first | done | (rw [show t1182.length = t1152.length from (Kd.R_reads' HO_1164000.out).1.symm, show t1183.length = t1155.length from (Kd.R_reads' HO_1164001.out).1.symm, show t1184.length = t1158.length from (Kd.R_reads' HO_1164002.out).1.symm] <;> rfl) | rfl | (simp only [List.length_drop, List.length_take]; rfl)) ?_; (with_reducible refine (laws_heldStore.calls kj67 _ _ t1182 _ _ t1183 _ _ t1184 t1161 1 t1185 _ ?side1 ?side2 ?side3 ?side4 ?side5 ?side6 A101.out).mono ?_); (case side1 => exact rc0 HO_1164000); (case side2 => rw [show t1182.length = t1152.length from (Kd.R_reads' HO_1164000.out).1.symm]; exact (Kd.R_reads' HO_1164000.out).2.1); (case side3 => exact rc0 HO_1164001); (case side4 => rw [show t1183.length = t1155.length from (Kd.R_reads' HO_1164001.out).1.symm]; exact (Kd.R_reads' HO_1164001.out).2.1); (case side5 => exact rc0 HO_1164002); (case side6 => rw [show t1184.length = t1158.length from (Kd.R_reads' HO_1164002.out).1.symm]; exact (Kd.R_reads' HO_1164002.out).2.1); rintro e w188 ⟨rfl, hb⟩; refine ⟨_, rfl, ?_⟩; replace HO_1141000 := nr HO_1141000 hb; replace HO_1141001 := nr HO_1141001 hb; replace HO_1141002 := nr HO_1141002 hb; replace HO_1152000 := nr HO_1152000 hb; replace HO_1152001 := nr HO_1152001 hb; replace HO_1152002 := nr HO_1152002 hb; replace HO_1164000 := nr HO_1164000 hb; replace HO_1164001 := nr HO_1164001 hb; replace HO_1164002 := nr HO_1164002 hb; replace BK1117 := nb BK1117 hb; replace BK1140 := nb BK1140 hb; replace BK1151 := nb BK1151 hb; replace BK1163 := nb BK1163 hb; replace HB := Aside0.mk (below_step (bs4 HB GE1117 GE1140 GE1151 GE1163) hb); (try clear hb); (try clear hb2); (try clear hk); (try clear hi)))
           go_ret
           exact ⟨by first | rfl | (simp [errW_none, errW_some] <;> rfl) | (simp [*, errW_none, errW_some] <;> rfl), bs4 HB GE1117 GE1140 GE1151 GE1163⟩
     ·
      replace c66 := Bool.eq_false_iff.mpr c66
      subst c66
      rw [if_neg (show ¬ (false = true) by decide)] at H
      obtain rfl := Option.some.inj H
      try go_wp2
      have n0_ := Aside0.mk (Kd.R_drew HO_1141000.out)
      have n1_ := Aside0.mk (Kd.R_drew HO_1141001.out)
      have n2_ := Aside0.mk (Kd.R_drew HO_1141002.out)
      have n3_ := Aside0.mk (Kd.R_drew HO_1152000.out)
      have n4_ := Aside0.mk (Kd.R_drew HO_1152001.out)
      have n5_ := Aside0.mk (Kd.R_drew HO_1152002.out)
      have n6_ := Aside0.mk (Kd.R_drew HO_1164000.out)
      have n7_ := Aside0.mk (Kd.R_drew HO_1164001.out)
      have n8_ := Aside0.mk (Kd.R_drew HO_1164002.out)
      have n9_ := Aside0.mk (blk_drew BK1117.out)
      have n10_ := Aside0.mk (blk_drew BK1140.out)
      have n11_ := Aside0.mk (blk_drew BK1151.out)
      have n12_ := Aside0.mk (blk_drew BK1163.out)
      have n13_ := Aside0.mk (below_drew1 HB.out)
      clear HO_1141000
      clear HO_1141001
      clear HO_1141002
      clear HO_1152000
      clear HO_1152001
      clear HO_1152002
      clear HO_1164000
      clear HO_1164001
      clear HO_1164002
      clear BK1117
      clear BK1140
      clear BK1151
      clear BK1163
      clear HB
      have HO_1141000 := n0_
      have HO_1141001 := n1_
      have HO_1141002 := n2_
      have HO_1152000 := n3_
      have HO_1152001 := n4_
      have HO_1152002 := n5_
      have HO_1164000 := n6_
      have HO_1164001 := n7_
      have HO_1164002 := n8_
      have BK1117 := n9_
      have BK1140 := n10_
      have BK1151 := n11_
      have BK1163 := n12_
      have HB := n13_
      clear n0_ n1_ n2_ n3_ n4_ n5_ n6_ n7_ n8_ n9_ n10_ n11_ n12_ n13_
      refine start_ (n := 5) (S := fun w' => w'.cell? ⟨gb1151, 0, none⟩ = some (.slice Ao30 t1141.length co30) ∧ w'.cell? ⟨gb1151, 1, none⟩ = some (.slice Ao34 t1144.length co34) ∧ w'.cell? ⟨gb1151, 2, none⟩ = some (.slice Ao35 t1147.length co35) ∧ w'.cell? ⟨gb1151, 3, none⟩ = some (.int .i64 t1150) ∧ w'.cell? ⟨gb1117, 0, none⟩ = some (.slice A0_0 l0_0.length c0_0) ∧ w'.cell? ⟨gb1117, 1, none⟩ = some (.slice A0_1 l0_1.length c0_1) ∧ w'.cell? ⟨gb1117, 2, none⟩ = some (.slice A0_2 l0_2.length c0_2) ∧ w'.cell? ⟨gb1117, 3, none⟩ = some (.int .i64 a0_3)) (ds := []) #[false, false, false, false, false] (by kernel_rfl) rfl rfl ⟨(blk_cell BK1151.out 0).trans rfl, (blk_cell BK1151.out 1).trans rfl, (blk_cell BK1151.out 2).trans rfl, (blk_cell BK1151.out 3).trans rfl, (blk_cell BK1117.out 0).trans rfl, (blk_cell BK1117.out 1).trans rfl, (blk_cell BK1117.out 2).trans rfl, (blk_cell BK1117.out 3).trans rfl⟩ (fun hHeld => ?_)
      generalize wc.drew = w189 at HO_1141000 HO_1141001 HO_1141002 HO_1152000 HO_1152001 HO_1152002 HO_1164000 HO_1164001 HO_1164002 BK1117 BK1140 BK1151 BK1163 HB hHeld ⊢
      refine take_ (i := 0) (N := some 41) (v := ?_) (a' := ?_) #[true, false, false, false, false] rfl rfl (by kernel_rfl) (fun _ _ _ h => h) (Or.inl ⟨by rfl, ?_⟩) hHeld ?_ ?_
      rotate_left
      ·
       rintro w' ⟨s0, s1, s2, s3, s4, s5, s6, s7⟩
       go_simp
       with_reducible rfl
      rotate_left
      ·
       simp only [Act.put, List.setIfInBounds_toArray, List.set_cons_zero, List.set_cons_succ, i64_w, i32_w]
       rfl
      refine take_ (i := 1) (N := some 42) (v := ?_) (a' := ?_) #[true, true, false, false, false] rfl rfl (by kernel_rfl) (fun _ _ _ h => h) (Or.inl ⟨by rfl, ?_⟩) hHeld ?_ ?_
      rotate_left
      ·
       rintro w' ⟨s0, s1, s2, s3, s4, s5, s6, s7⟩
       go_simp
       with_reducible rfl
      rotate_left
      ·
       simp only [Act.put, List.setIfInBounds_toArray, List.set_cons_zero, List.set_cons_succ, i64_w, i32_w]
       rfl
      refine one_ (i := 2) (N := some 43) #[true, true, true, false, false] rfl rfl (by kernel_rfl) (by decide) (fun K hK => ?_)
      refine goes_ Try.func27 (by kernel_rfl) rfl #[.agg #[.slice A0_0 l0_0.length c0_0, .slice A0_1 l0_1.length c0_1, .slice A0_2 l0_2.length c0_2, .int .i64 a0_3]] (by rfl) rfl rfl (by (try simp only [List.map_toArray, List.map_cons, List.map_nil]); first | done | rfl | (simp only [List.length_drop, List.length_take]; rfl)) ?_
      with_reducible refine (laws_toStore.calls kj10 _ _ l0_0 _ _ l0_1 _ _ l0_2 a0_3 t1165 t1168 t1171 t1174 _ ?side1 ?side2 ?side3 ?side4 ?side5 ?side6 A64.out).mono ?_
      (case side1 => exact cb HR0_0 HB)
      (case side2 => exact HC0_0.out)
      (case side3 => exact cb HR0_1 HB)
      (case side4 => exact HC0_1.out)
      (case side5 => exact cb HR0_2 HB)
      (case side6 => exact HC0_2.out)
      rintro e w190 ⟨v1166, v1169, v1172, rfl, ho0, ho1, ho2, hb⟩
      refine ⟨_, rfl, ?_⟩
      have n0_ := Aside0.mk (Kd.R_mono (Kd.R_told (Kd.R_told (Kd.R_old (rr HO_1141000.out) hb) (Kd.R_base ho0)) (Kd.R_base ho2)) (fun _ h_ => h_.1))
      have n1_ := Aside0.mk (Kd.R_elder' (rr HO_1141001.out) (Kd.R_base ho1) hb)
      have n2_ := Aside0.mk (Kd.R_mono (Kd.R_told (Kd.R_told (Kd.R_old (rr HO_1141002.out) hb) (Kd.R_base ho0)) (Kd.R_base ho2)) (fun _ h_ => h_.1))
      have n3_ := Aside0.mk (Kd.R_mono (Kd.R_told (Kd.R_told (Kd.R_old (rr HO_1152000.out) hb) (Kd.R_base ho0)) (Kd.R_base ho2)) (fun _ h_ => h_.1))
      have n4_ := Aside0.mk (Kd.R_elder' (rr HO_1152001.out) (Kd.R_base ho1) hb)
      have n5_ := Aside0.mk (Kd.R_mono (Kd.R_told (Kd.R_told (Kd.R_old (rr HO_1152002.out) hb) (Kd.R_base ho0)) (Kd.R_base ho2)) (fun _ h_ => h_.1))
      have n6_ := Aside0.mk (Kd.R_mono (Kd.R_told (Kd.R_told (Kd.R_old (rr HO_1164000.out) hb) (Kd.R_base ho0)) (Kd.R_base ho2)) (fun _ h_ => h_.1))
      have n7_ := Aside0.mk (Kd.R_elder' (rr HO_1164001.out) (Kd.R_base ho1) hb)
      have n8_ := Aside0.mk (Kd.R_mono (Kd.R_told (Kd.R_told (Kd.R_old (rr HO_1164002.out) hb) (Kd.R_base ho0)) (Kd.R_base ho2)) (fun _ h_ => h_.1))
      have n9_ := Aside0.mk (Kd.R_lower (Kd.R_new' (Kd.R_new' (Kd.R_new' (Kd.R_new' (Kd.R_new' (Kd.R_new' ho0 (Kd.R_lt (rr HO_1141000.out))) (Kd.R_lt (rr HO_1141002.out))) (Kd.R_lt (rr HO_1152000.out))) (Kd.R_lt (rr HO_1152002.out))) (Kd.R_lt (rr HO_1164000.out))) (Kd.R_lt (rr HO_1164002.out))) (below_size (bs4 HB GE1117 GE1140 GE1151 GE1163)))
      have n10_ := Aside0.mk (Kd.R_lower (Kd.R_new' (Kd.R_new' (Kd.R_new' ho1 (Kd.R_lt (rr HO_1141001.out))) (Kd.R_lt (rr HO_1152001.out))) (Kd.R_lt (rr HO_1164001.out))) (below_size (bs4 HB GE1117 GE1140 GE1151 GE1163)))
      have n11_ := Aside0.mk (Kd.R_lower (Kd.R_new' (Kd.R_new' (Kd.R_new' (Kd.R_new' (Kd.R_new' (Kd.R_new' ho2 (Kd.R_lt (rr HO_1141000.out))) (Kd.R_lt (rr HO_1141002.out))) (Kd.R_lt (rr HO_1152000.out))) (Kd.R_lt (rr HO_1152002.out))) (Kd.R_lt (rr HO_1164000.out))) (Kd.R_lt (rr HO_1164002.out))) (below_size (bs4 HB GE1117 GE1140 GE1151 GE1163)))
      have n12_ := Aside0.mk (bb BK1117 hb)
      have n13_ := Aside0.mk (bb BK1140 hb)
      have n14_ := Aside0.mk (bb BK1151 hb)
      have n15_ := Aside0.mk (bb BK1163 hb)
      have n16_ := Aside0.mk (below_step (bs4 HB GE1117 GE1140 GE1151 GE1163) hb)
      clear HO_1141000
      clear HO_1141001
      clear HO_1141002
      clear HO_1152000
      clear HO_1152001
      clear HO_1152002
      clear HO_1164000
      clear HO_1164001
      clear HO_1164002
      clear BK1117
      clear BK1140
      clear BK1151
      clear BK1163
      clear HB
      have HO_1141000 := n0_
      have HO_1141001 := n1_
      have HO_1141002 := n2_
      have HO_1152000 := n3_
      have HO_1152001 := n4_
      have HO_1152002 := n5_
      have HO_1164000 := n6_
      have HO_1164001 := n7_
      have HO_1164002 := n8_
      have HO1167 := n9_
      have HO1170 := n10_
      have HO1173 := n11_
      have BK1117 := n12_
      have BK1140 := n13_
      have BK1151 := n14_
      have BK1163 := n15_
      have HB := n16_
      clear n0_ n1_ n2_ n3_ n4_ n5_ n6_ n7_ n8_ n9_ n10_ n11_ n12_ n13_ n14_ n15_ n16_
      (try clear hb)
      (try clear hb2)
      (try clear hk)
      (try clear hi)
      (try clear ho0)
      (try clear ho1)
      (try clear ho2)
      obtain ⟨Ao191, co191, eo191⟩ := Kd.R_slice HO1167.out
      (first | subst eo191 | (injection eo191 with f1_ f2_ f3_; have f4_ := f1_.symm; have f5_ := f3_.symm; clear f1_ f2_ f3_; subst f4_; subst f5_))
      obtain ⟨Ao192, co192, eo192⟩ := Kd.R_slice HO1170.out
      (first | subst eo192 | (injection eo192 with f1_ f2_ f3_; have f4_ := f1_.symm; have f5_ := f3_.symm; clear f1_ f2_ f3_; subst f4_; subst f5_))
      obtain ⟨Ao193, co193, eo193⟩ := Kd.R_slice HO1173.out
      (first | subst eo193 | (injection eo193 with f1_ f2_ f3_; have f4_ := f1_.symm; have f5_ := f3_.symm; clear f1_ f2_ f3_; subst f4_; subst f5_))
      refine hK.out _ _ ⟨(blk_cell BK1151.out 0).trans rfl, (blk_cell BK1151.out 1).trans rfl, (blk_cell BK1151.out 2).trans rfl, (blk_cell BK1151.out 3).trans rfl, (blk_cell BK1117.out 0).trans rfl, (blk_cell BK1117.out 1).trans rfl, (blk_cell BK1117.out 2).trans rfl, (blk_cell BK1117.out 3).trans rfl⟩ (fun hHeld => ?_)
      clear hK K
      refine norm_ (a' := ?_) ?_ ?_
      rotate_left
      ·
       show Act.put _ (some 43) _ = _
       simp only [Act.put, List.setIfInBounds_toArray, List.set_cons_zero, List.set_cons_succ, i64_w, i32_w]
       rfl
      refine one_ (i := 3) (N := some 44) #[true, true, true, true, false] rfl rfl (by kernel_rfl) (by decide) (fun K hK => ?_)
      refine goes_ Try.func29 (by kernel_rfl) rfl #[.agg #[.slice Ao30 t1141.length co30, .slice Ao34 t1144.length co34, .slice Ao35 t1147.length co35, .int .i64 t1150], .agg #[.slice Ao191 t1165.length co191, .slice Ao192 t1168.length co192, .slice Ao193 t1171.length co193, .int .i64 t1174]] (by rfl) rfl rfl (by (try simp only [List.map_toArray, List.map_cons, List.map_nil]); first | done | rfl | (simp only [List.length_drop, List.length_take]; rfl)) ?_
      with_reducible refine (laws_eqStore.calls kj10 _ _ t1141 _ _ t1144 _ _ t1147 t1150 _ _ t1165 _ _ t1168 _ _ t1171 t1174 false _ ?side1 ?side2 ?side3 ?side4 ?side5 ?side6 ?side7 ?side8 ?side9 ?side10 ?side11 ?side12 A65.out).mono ?_
      (case side1 => exact rc0 HO_1152000)
      (case side2 => exact (Kd.R_reads' HO_1152000.out).2.1)
      (case side3 => exact rc0 HO_1152001)
      (case side4 => exact (Kd.R_reads' HO_1152001.out).2.1)
      (case side5 => exact rc0 HO_1152002)
      (case side6 => exact (Kd.R_reads' HO_1152002.out).2.1)
      (case side7 => exact rc0 HO1167)
      (case side8 => exact (Kd.R_reads' HO1167.out).2.1)
      (case side9 => exact rc0 HO1170)
      (case side10 => exact (Kd.R_reads' HO1170.out).2.1)
      (case side11 => exact rc0 HO1173)
      (case side12 => exact (Kd.R_reads' HO1173.out).2.1)
      rintro e w194 ⟨rfl, hb⟩
      refine ⟨_, rfl, ?_⟩
      have n0_ := Aside0.mk (Kd.R_below (rr HO_1141000.out) hb)
      have n1_ := Aside0.mk (Kd.R_below (rr HO_1141001.out) hb)
      have n2_ := Aside0.mk (Kd.R_below (rr HO_1141002.out) hb)
      have n3_ := Aside0.mk (Kd.R_below (rr HO_1152000.out) hb)
      have n4_ := Aside0.mk (Kd.R_below (rr HO_1152001.out) hb)
      have n5_ := Aside0.mk (Kd.R_below (rr HO_1152002.out) hb)
      have n6_ := Aside0.mk (Kd.R_below (rr HO_1164000.out) hb)
      have n7_ := Aside0.mk (Kd.R_below (rr HO_1164001.out) hb)
      have n8_ := Aside0.mk (Kd.R_below (rr HO_1164002.out) hb)
      have n9_ := Aside0.mk (Kd.R_below (rr HO1167.out) hb)
      have n10_ := Aside0.mk (Kd.R_below (rr HO1170.out) hb)
      have n11_ := Aside0.mk (Kd.R_below (rr HO1173.out) hb)
      have n12_ := Aside0.mk (bb BK1117 hb)
      have n13_ := Aside0.mk (bb BK1140 hb)
      have n14_ := Aside0.mk (bb BK1151 hb)
      have n15_ := Aside0.mk (bb BK1163 hb)
      have n16_ := Aside0.mk (below_step (bs4 HB GE1117 GE1140 GE1151 GE1163) hb)
      clear HO_1141000
      clear HO_1141001
      clear HO_1141002
      clear HO_1152000
      clear HO_1152001
      clear HO_1152002
      clear HO_1164000
      clear HO_1164001
      clear HO_1164002
      clear HO1167
      clear HO1170
      clear HO1173
      clear BK1117
      clear BK1140
      clear BK1151
      clear BK1163
      clear HB
      have HO_1141000 := n0_
      have HO_1141001 := n1_
      have HO_1141002 := n2_
      have HO_1152000 := n3_
      have HO_1152001 := n4_
      have HO_1152002 := n5_
      have HO_1164000 := n6_
      have HO_1164001 := n7_
      have HO_1164002 := n8_
      have HO1167 := n9_
      have HO1170 := n10_
      have HO1173 := n11_
      have BK1117 := n12_
      have BK1140 := n13_
      have BK1151 := n14_
      have BK1163 := n15_
      have HB := n16_
      clear n0_ n1_ n2_ n3_ n4_ n5_ n6_ n7_ n8_ n9_ n10_ n11_ n12_ n13_ n14_ n15_ n16_
      (try clear hb)
      (try clear hb2)
      (try clear hk)
      (try clear hi)
      refine hK.out _ _ ⟨(blk_cell BK1151.out 0).trans rfl, (blk_cell BK1151.out 1).trans rfl, (blk_cell BK1151.out 2).trans rfl, (blk_cell BK1151.out 3).trans rfl, (blk_cell BK1117.out 0).trans rfl, (blk_cell BK1117.out 1).trans rfl, (blk_cell BK1117.out 2).trans rfl, (blk_cell BK1117.out 3).trans rfl⟩ (fun hHeld => ?_)
      clear hK K
      refine norm_ (a' := ?_) ?_ ?_
      rotate_left
      ·
       show Act.put _ (some 44) _ = _
       simp only [Act.put, List.setIfInBounds_toArray, List.set_cons_zero, List.set_cons_succ, i64_w, i32_w]
       rfl
      refine pure_ (i := 4) (N := some 45) (v := ?_) (a' := ?_) #[true, true, true, true, true] rfl rfl (by kernel_rfl) (fun _ _ _ h => h) (Or.inl ⟨by rfl, ?_⟩) ?_ ?_
      rotate_left
      ·
       intro w'
       go_simp
       with_reducible rfl
      rotate_left
      ·
       simp only [Act.put, List.setIfInBounds_toArray, List.set_cons_zero, List.set_cons_succ, i64_w, i32_w]
       rfl
      refine done_ (by kernel_rfl) ?_
      try go_wp2
      go_ret
      exact ⟨by first | rfl | (simp [errW_none, errW_some] <;> rfl) | (simp [*, errW_none, errW_some] <;> rfl), bs4 HB GE1117 GE1140 GE1151 GE1163⟩

/-- THE ONE PURE STATEMENT of laws_FnExactCheckpointLog. -/
def laws_FnExactCheckpointLog.Pure : Prop := ∀ (l0_0 : List ByteArray) (l0_1 : List (S76)) (l0_2 : List ByteArray) (a0_3 : Int), ok38 (⟨(⟨l0_0, l0_1⟩ : S36), l0_2, a0_3⟩ : S38) → ∃ k, laws_FnExactCheckpointLog.f k l0_0 l0_1 l0_2 a0_3 = some true

end Go.Proofs.Ytcdkgenfggdpaaa.G
