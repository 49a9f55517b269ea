-- Printed by a program of this session (drive.py, by way of the kit's print). Not trusted: Lean checks it.
import Derived.Test.YtcdkgenfggdpaaaG0
import Derived.Test.YtcdkgenfggdpaaaG6
import Derived.Test.YtcdkgenfggdpaaaG7
import Derived.Test.YtcdkgenfggdpaaaG9
import Derived.Test.YtcdkgenfggdpaaaG10
import Derived.Test.YtcdkgenfggdpaaaG25
namespace Go.Proofs.Ytcdkgenfggdpaaa.G
open Go.RowKit Go.Proofs.YtcdkgenfggdpaaaW.PrintWords Go.Proofs.YtcdkgenfggdpaaaW.PrintLast Go.Proofs.YtcdkgenfggdpaaaW.PrintMore
attribute [local go_sem] max2_int min2_int max_two min_two max_three min_three max_four min_four   -- for this text's walks alone
set_option linter.unusedVariables false
set_option linter.unusedSimpArgs false

/-! ### laws_FnExactCrashStore: function 13 -/
mutual
def laws_FnExactCrashStore.j0 : Nat → List Bool → Int → Bool → List Bool → Bool → Bool → List ByteArray → List (S76) → List ByteArray → Int → List ByteArray → List (S72) → List ByteArray → Int → List ByteArray → List (S72) → List ByteArray → Int → List ByteArray → List (S72) → List ByteArray → Int → Option (Bool)
 | 0, _, _, _, _, _, _, _, _, _, _, _, _, _, _, _, _, _, _, _, _, _, _ => none
 | k + 1, x1, x2, x9, x11, x13, x55, x1287000, x1287001, x1287002, x1287003, x1313000, x1313001, x1313002, x1313003, x1324000, x1324001, x1324002, x1324003, x1339000, x1339001, x1339002, x1339003 => if x55 = true then (some false) else ((laws_toStore.f k x1287000 x1287001 x1287002 x1287003).bind fun bt1340 => ((laws_eqStore.f k x1324000 x1324001 x1324002 x1324003 bt1340.1 bt1340.2.1 bt1340.2.2.1 bt1340.2.2.2).bind fun t1350 => (if t1350 = true then ((laws_toBoolS.f k x1).bind fun t1351 => ((laws_eqBoolS.f k x11 t1351).bind fun t1354 => (if t1354 = true then ((laws_markStore.f k x1324000 x1324001 x1324002 x1324003 1).bind fun bt1355 => ((laws_markBoolS.f k x11 bt1355.1).bind fun bt1359 => (if bt1359.1 < 0 then (laws_FnExactCrashStore.j1 k x1 x2 x9 true x1287000 x1287001 x1287002 x1287003 x1313000 x1313001 x1313002 x1313003 x1339000 x1339001 x1339002 x1339003) else ((laws_eqStore.f k x1339000 x1339001 x1339002 x1339003 x1313000 x1313001 x1313002 x1313003).bind fun t1361 => (if t1361 = true then (laws_FnExactCrashStore.j1 k x1 x2 x9 (x13 != x9) x1287000 x1287001 x1287002 x1287003 x1313000 x1313001 x1313002 x1313003 x1339000 x1339001 x1339002 x1339003) else (laws_FnExactCrashStore.j1 k x1 x2 x9 true x1287000 x1287001 x1287002 x1287003 x1313000 x1313001 x1313002 x1313003 x1339000 x1339001 x1339002 x1339003)))))) else (some false)))) else (some false))))
def laws_FnExactCrashStore.j1 : Nat → List Bool → Int → Bool → Bool → List ByteArray → List (S76) → List ByteArray → Int → List ByteArray → List (S72) → List ByteArray → Int → List ByteArray → List (S72) → List ByteArray → Int → Option (Bool)
 | 0, _, _, _, _, _, _, _, _, _, _, _, _, _, _, _, _ => none
 | k + 1, x1, x2, x9, x84, x1287000, x1287001, x1287002, x1287003, x1313000, x1313001, x1313002, x1313003, x1339000, x1339001, x1339002, x1339003 => if x84 = true then (some false) else ((laws_markStore.f k x1339000 x1339001 x1339002 x1339003 1).bind fun bt1362 => ((laws_heldStore.f k bt1362.2.1 bt1362.2.2.1 bt1362.2.2.2 x1339003 1).bind fun t1366 => (if t1366 < 0 then (some false) else (if t1366 = bt1362.1 then ((laws_toStore.f k x1287000 x1287001 x1287002 x1287003).bind fun bt1367 => ((laws_toBoolS.f k x1).bind fun t1377 => ((impl_CrashStore.f k bt1367.1 bt1367.2.1 bt1367.2.2.1 bt1367.2.2.2 t1377 x2).bind fun bt1380 => ((laws_eqStore.f k bt1380.1 bt1380.2.1 bt1380.2.2.1 bt1380.2.2.2.1 x1313000 x1313001 x1313002 x1313003).bind fun t1392 => (if t1392 = true then (laws_FnExactCrashStore.j2 k bt1362.1 (bt1380.2.2.2.2 != x9) bt1362.2.1 bt1362.2.2.1 bt1362.2.2.2 x1339003) else (laws_FnExactCrashStore.j2 k bt1362.1 true bt1362.2.1 bt1362.2.2.1 bt1362.2.2.2 x1339003)))))) else (some false)))))
def laws_FnExactCrashStore.j2 : Nat → Int → Bool → List ByteArray → List (S72) → List ByteArray → Int → Option (Bool)
 | 0, _, _, _, _, _, _ => none
 | k + 1, x15, x113, x1339000, x1339001, x1339002, x1339003 => if x113 = true then (some false) else ((laws_heldStore.f k x1339000 x1339001 x1339002 x1339003 1).bind fun t1393 => (if t1393 < 0 then (some false) else (if t1393 = x15 then (some true) else (some false))))
end
def laws_FnExactCrashStore.f (k : Nat) (l0_0 : List ByteArray) (l0_1 : List (S76)) (l0_2 : List ByteArray) (a0_3 : Int) (l1 : List Bool) (a2 : Int) : Option (Bool) := if (l1.length : Int) > 1048576 then (some true) else ((laws_szStore.f k l0_0 l0_1 l0_2 a0_3 1048576).bind fun t1287 => (if t1287 < 0 then (some true) else ((laws_toStore.f k l0_0 l0_1 l0_2 a0_3).bind fun bt1288 => ((laws_toBoolS.f k l1).bind fun t1298 => ((spec_CrashStore.f k bt1288.1 bt1288.2.1 bt1288.2.2.1 bt1288.2.2.2 t1298 a2).bind fun bt1301 => ((laws_toStore.f k l0_0 l0_1 l0_2 a0_3).bind fun bt1313 => ((laws_toBoolS.f k l1).bind fun t1324 => ((impl_CrashStore.f k bt1313.1 bt1313.2.1 bt1313.2.2.1 bt1313.2.2.2 t1324 a2).bind fun bt1327 => ((laws_eqStore.f k bt1327.1 bt1327.2.1 bt1327.2.2.1 bt1327.2.2.2.1 bt1301.1 bt1301.2.1 bt1301.2.2.1 bt1301.2.2.2.1).bind fun t1339 => (if t1339 = true then (laws_FnExactCrashStore.j0 k l1 a2 bt1301.2.2.2.2 t1324 bt1327.2.2.2.2 (bt1327.2.2.2.2 != bt1301.2.2.2.2) l0_0 l0_1 l0_2 a0_3 bt1301.1 bt1301.2.1 bt1301.2.2.1 bt1301.2.2.2.1 bt1313.1 bt1313.2.1 bt1313.2.2.1 bt1313.2.2.2 bt1327.1 bt1327.2.1 bt1327.2.2.1 bt1327.2.2.2.1) else (laws_FnExactCrashStore.j0 k l1 a2 bt1301.2.2.2.2 t1324 bt1327.2.2.2.2 true l0_0 l0_1 l0_2 a0_3 bt1301.1 bt1301.2.1 bt1301.2.2.1 bt1301.2.2.2.1 bt1313.1 bt1313.2.1 bt1313.2.2.1 bt1313.2.2.2 bt1327.1 bt1327.2.1 bt1327.2.2.1 bt1327.2.2.2.1)))))))))))
theorem laws_FnExactCrashStore.mono_l : ∀ k, (∀ y0 y1 y2 y3 y4 y5 y6 y7 y8 y9 y10 y11 y12 y13 y14 y15 y16 y17 y18 y19 y20 y21, LeO (laws_FnExactCrashStore.j0 k y0 y1 y2 y3 y4 y5 y6 y7 y8 y9 y10 y11 y12 y13 y14 y15 y16 y17 y18 y19 y20 y21) (laws_FnExactCrashStore.j0 (k + 1) y0 y1 y2 y3 y4 y5 y6 y7 y8 y9 y10 y11 y12 y13 y14 y15 y16 y17 y18 y19 y20 y21)) ∧ (∀ y0 y1 y2 y3 y4 y5 y6 y7 y8 y9 y10 y11 y12 y13 y14 y15, LeO (laws_FnExactCrashStore.j1 k y0 y1 y2 y3 y4 y5 y6 y7 y8 y9 y10 y11 y12 y13 y14 y15) (laws_FnExactCrashStore.j1 (k + 1) y0 y1 y2 y3 y4 y5 y6 y7 y8 y9 y10 y11 y12 y13 y14 y15)) ∧ (∀ y0 y1 y2 y3 y4 y5, LeO (laws_FnExactCrashStore.j2 k y0 y1 y2 y3 y4 y5) (laws_FnExactCrashStore.j2 (k + 1) y0 y1 y2 y3 y4 y5))
 | 0 => ⟨fun _ _ _ _ _ _ _ _ _ _ _ _ _ _ _ _ _ _ _ _ _ _ r h => by simp [laws_FnExactCrashStore.j0] at h, fun _ _ _ _ _ _ _ _ _ _ _ _ _ _ _ _ r h => by simp [laws_FnExactCrashStore.j1] at h, fun _ _ _ _ _ _ r h => by simp [laws_FnExactCrashStore.j2] at h⟩
 | k + 1 => by
  obtain ⟨ih0, ih1, ih2⟩ := laws_FnExactCrashStore.mono_l k
  refine ⟨?_, ?_, ?_⟩
  ·
   intro y0 y1 y2 y3 y4 y5 y6 y7 y8 y9 y10 y11 y12 y13 y14 y15 y16 y17 y18 y19 y20 y21
   unfold laws_FnExactCrashStore.j0
   repeat' first
   | (with_reducible exact ih0 _ _ _ _ _ _ _ _ _ _ _ _ _ _ _ _ _ _ _ _ _ _)
   | (with_reducible exact ih1 _ _ _ _ _ _ _ _ _ _ _ _ _ _ _ _)
   | (with_reducible exact ih2 _ _ _ _ _ _)
   | (with_reducible exact impl_CrashStore.mono _ _ _ _ _ _ _)
   | (with_reducible exact laws_eqBoolS.mono _ _ _)
   | (with_reducible exact laws_eqStore.mono _ _ _ _ _ _ _ _ _)
   | (with_reducible exact laws_heldStore.mono _ _ _ _ _ _)
   | (with_reducible exact laws_markBoolS.mono _ _ _)
   | (with_reducible exact laws_markStore.mono _ _ _ _ _ _)
   | (with_reducible exact laws_szStore.mono _ _ _ _ _ _)
   | (with_reducible exact laws_toBoolS.mono _ _)
   | (with_reducible exact laws_toStore.mono _ _ _ _ _)
   | (with_reducible exact spec_CrashStore.mono _ _ _ _ _ _ _)
   | (with_reducible exact LeO.refl _)
   | (with_reducible exact LeO.none _)
   | (with_reducible refine LeO.ite ?_ ?_)
   | (with_reducible refine LeO.bind ?_ (fun _ => ?_))
   | exact ih0 _ _ _ _ _ _ _ _ _ _ _ _ _ _ _ _ _ _ _ _ _ _
   | exact ih1 _ _ _ _ _ _ _ _ _ _ _ _ _ _ _ _
   | exact ih2 _ _ _ _ _ _
   | exact impl_CrashStore.mono _ _ _ _ _ _ _
   | exact laws_eqBoolS.mono _ _ _
   | exact laws_eqStore.mono _ _ _ _ _ _ _ _ _
   | exact laws_heldStore.mono _ _ _ _ _ _
   | exact laws_markBoolS.mono _ _ _
   | exact laws_markStore.mono _ _ _ _ _ _
   | exact laws_szStore.mono _ _ _ _ _ _
   | exact laws_toBoolS.mono _ _
   | exact laws_toStore.mono _ _ _ _ _
   | exact spec_CrashStore.mono _ _ _ _ _ _ _
   | exact LeO.none _
   | refine LeO.ite ?_ ?_
   | refine LeO.bind ?_ (fun _ => ?_)
  ·
   intro y0 y1 y2 y3 y4 y5 y6 y7 y8 y9 y10 y11 y12 y13 y14 y15
   unfold laws_FnExactCrashStore.j1
   repeat' first
   | (with_reducible exact ih0 _ _ _ _ _ _ _ _ _ _ _ _ _ _ _ _ _ _ _ _ _ _)
   | (with_reducible exact ih1 _ _ _ _ _ _ _ _ _ _ _ _ _ _ _ _)
   | (with_reducible exact ih2 _ _ _ _ _ _)
   | (with_reducible exact impl_CrashStore.mono _ _ _ _ _ _ _)
   | (with_reducible exact laws_eqBoolS.mono _ _ _)
   | (with_reducible exact laws_eqStore.mono _ _ _ _ _ _ _ _ _)
   | (with_reducible exact laws_heldStore.mono _ _ _ _ _ _)
   | (with_reducible exact laws_markBoolS.mono _ _ _)
   | (with_reducible exact laws_markStore.mono _ _ _ _ _ _)
   | (with_reducible exact laws_szStore.mono _ _ _ _ _ _)
   | (with_reducible exact laws_toBoolS.mono _ _)
   | (with_reducible exact laws_toStore.mono _ _ _ _ _)
   | (with_reducible exact spec_CrashStore.mono _ _ _ _ _ _ _)
   | (with_reducible exact LeO.refl _)
   | (with_reducible exact LeO.none _)
   | (with_reducible refine LeO.ite ?_ ?_)
   | (with_reducible refine LeO.bind ?_ (fun _ => ?_))
   | exact ih0 _ _ _ _ _ _ _ _ _ _ _ _ _ _ _ _ _ _ _ _ _ _
   | exact ih1 _ _ _ _ _ _ _ _ _ _ _ _ _ _ _ _
   | exact ih2 _ _ _ _ _ _
   | exact impl_CrashStore.mono _ _ _ _ _ _ _
   | exact laws_eqBoolS.mono _ _ _
   | exact laws_eqStore.mono _ _ _ _ _ _ _ _ _
   | exact laws_heldStore.mono _ _ _ _ _ _
   | exact laws_markBoolS.mono _ _ _
   | exact laws_markStore.mono _ _ _ _ _ _
   | exact laws_szStore.mono _ _ _ _ _ _
   | exact laws_toBoolS.mono _ _
   | exact laws_toStore.mono _ _ _ _ _
   | exact spec_CrashStore.mono _ _ _ _ _ _ _
   | exact LeO.none _
   | refine LeO.ite ?_ ?_
   | refine LeO.bind ?_ (fun _ => ?_)
  ·
   intro y0 y1 y2 y3 y4 y5
   unfold laws_FnExactCrashStore.j2
   repeat' first
   | (with_reducible exact ih0 _ _ _ _ _ _ _ _ _ _ _ _ _ _ _ _ _ _ _ _ _ _)
   | (with_reducible exact ih1 _ _ _ _ _ _ _ _ _ _ _ _ _ _ _ _)
   | (with_reducible exact ih2 _ _ _ _ _ _)
   | (with_reducible exact impl_CrashStore.mono _ _ _ _ _ _ _)
   | (with_reducible exact laws_eqBoolS.mono _ _ _)
   | (with_reducible exact laws_eqStore.mono _ _ _ _ _ _ _ _ _)
   | (with_reducible exact laws_heldStore.mono _ _ _ _ _ _)
   | (with_reducible exact laws_markBoolS.mono _ _ _)
   | (with_reducible exact laws_markStore.mono _ _ _ _ _ _)
   | (with_reducible exact laws_szStore.mono _ _ _ _ _ _)
   | (with_reducible exact laws_toBoolS.mono _ _)
   | (with_reducible exact laws_toStore.mono _ _ _ _ _)
   | (with_reducible exact spec_CrashStore.mono _ _ _ _ _ _ _)
   | (with_reducible exact LeO.refl _)
   | (with_reducible exact LeO.none _)
   | (with_reducible refine LeO.ite ?_ ?_)
   | (with_reducible refine LeO.bind ?_ (fun _ => ?_))
   | exact ih0 _ _ _ _ _ _ _ _ _ _ _ _ _ _ _ _ _ _ _ _ _ _
   | exact ih1 _ _ _ _ _ _ _ _ _ _ _ _ _ _ _ _
   | exact ih2 _ _ _ _ _ _
   | exact impl_CrashStore.mono _ _ _ _ _ _ _
   | exact laws_eqBoolS.mono _ _ _
   | exact laws_eqStore.mono _ _ _ _ _ _ _ _ _
   | exact laws_heldStore.mono _ _ _ _ _ _
   | exact laws_markBoolS.mono _ _ _
   | exact laws_markStore.mono _ _ _ _ _ _
   | exact laws_szStore.mono _ _ _ _ _ _
   | exact laws_toBoolS.mono _ _
   | exact laws_toStore.mono _ _ _ _ _
   | exact spec_CrashStore.mono _ _ _ _ _ _ _
   | exact LeO.none _
   | refine LeO.ite ?_ ?_
   | refine LeO.bind ?_ (fun _ => ?_)
theorem laws_FnExactCrashStore.mono : ∀ a0 a1 a2 a3 a4 a5 k, LeO (laws_FnExactCrashStore.f k a0 a1 a2 a3 a4 a5) (laws_FnExactCrashStore.f (k + 1) a0 a1 a2 a3 a4 a5) := by
 intro a0 a1 a2 a3 a4 a5 k
 obtain ⟨ih0, ih1, ih2⟩ := laws_FnExactCrashStore.mono_l k
 unfold laws_FnExactCrashStore.f
 repeat' first
   | (with_reducible exact ih0 _ _ _ _ _ _ _ _ _ _ _ _ _ _ _ _ _ _ _ _ _ _)
   | (with_reducible exact ih1 _ _ _ _ _ _ _ _ _ _ _ _ _ _ _ _)
   | (with_reducible exact ih2 _ _ _ _ _ _)
   | (with_reducible exact impl_CrashStore.mono _ _ _ _ _ _ _)
   | (with_reducible exact laws_eqBoolS.mono _ _ _)
   | (with_reducible exact laws_eqStore.mono _ _ _ _ _ _ _ _ _)
   | (with_reducible exact laws_heldStore.mono _ _ _ _ _ _)
   | (with_reducible exact laws_markBoolS.mono _ _ _)
   | (with_reducible exact laws_markStore.mono _ _ _ _ _ _)
   | (with_reducible exact laws_szStore.mono _ _ _ _ _ _)
   | (with_reducible exact laws_toBoolS.mono _ _)
   | (with_reducible exact laws_toStore.mono _ _ _ _ _)
   | (with_reducible exact spec_CrashStore.mono _ _ _ _ _ _ _)
   | (with_reducible exact LeO.refl _)
   | (with_reducible exact LeO.none _)
   | (with_reducible refine LeO.ite ?_ ?_)
   | (with_reducible refine LeO.bind ?_ (fun _ => ?_))
   | exact ih0 _ _ _ _ _ _ _ _ _ _ _ _ _ _ _ _ _ _ _ _ _ _
   | exact ih1 _ _ _ _ _ _ _ _ _ _ _ _ _ _ _ _
   | exact ih2 _ _ _ _ _ _
   | exact impl_CrashStore.mono _ _ _ _ _ _ _
   | exact laws_eqBoolS.mono _ _ _
   | exact laws_eqStore.mono _ _ _ _ _ _ _ _ _
   | exact laws_heldStore.mono _ _ _ _ _ _
   | exact laws_markBoolS.mono _ _ _
   | exact laws_markStore.mono _ _ _ _ _ _
   | exact laws_szStore.mono _ _ _ _ _ _
   | exact laws_toBoolS.mono _ _
   | exact laws_toStore.mono _ _ _ _ _
   | exact spec_CrashStore.mono _ _ _ _ _ _ _
   | exact LeO.none _
   | refine LeO.ite ?_ ?_
   | refine LeO.bind ?_ (fun _ => ?_)
set_option maxHeartbeats 8000000 in
set_option maxRecDepth 100000 in
theorem laws_FnExactCrashStore.calls (k : Nat) (A0_0 : Option Addr) (c0_0 : Nat) (l0_0 : List ByteArray) (A0_1 : Option Addr) (c0_1 : Nat) (l0_1 : List (S76)) (A0_2 : Option Addr) (c0_2 : Nat) (l0_2 : List ByteArray) (a0_3 : Int) (A1 : Option Addr) (c1 : Nat) (l1 : List Bool) (a2 : Int) (r : Bool) (w : World) (hr0_0 : Kd.C Kd.string w A0_0 l0_0.length l0_0) (hc0_0 : l0_0.length ≤ c0_0) (hr0_1 : Kd.C k76 w A0_1 l0_1.length l0_1) (hc0_1 : l0_1.length ≤ c0_1) (hr0_2 : Kd.C Kd.string w A0_2 l0_2.length l0_2) (hc0_2 : l0_2.length ≤ c0_2) (hr1 : Kd.C Kd.bool w A1 l1.length l1) (hc1 : l1.length ≤ c1) (h : laws_FnExactCrashStore.f k l0_0 l0_1 l0_2 a0_3 l1 a2 = some r) :
  Calls Try.prog 13 #[.agg #[.slice A0_0 l0_0.length c0_0, .slice A0_1 l0_1.length c0_1, .slice A0_2 l0_2.length c0_2, .int .i64 a0_3], .slice A1 l1.length c1, .int .i64 a2] w fun e w' => e = .returned (.bool r) ∧ Below w.heap.size w w' := by
 have hu38 := Try.underlying38
 have hu44 := Try.underlying44
 have HR0_0 := Aside0.mk hr0_0
 have HC0_0 := Aside0.mk hc0_0
 clear hr0_0 hc0_0
 have HR0_1 := Aside0.mk hr0_1
 have HC0_1 := Aside0.mk hc0_1
 clear hr0_1 hc0_1
 have HR0_2 := Aside0.mk hr0_2
 have HC0_2 := Aside0.mk hc0_2
 clear hr0_2 hc0_2
 have HR1 := Aside0.mk hr1
 have HC1 := Aside0.mk hc1
 clear hr1 hc1
 have HB := Aside0.mk (Below.refl w.heap.size w)
 have H : (if (l1.length : Int) > 1048576 then (some true) else ((laws_szStore.f k l0_0 l0_1 l0_2 a0_3 1048576).bind fun t1287 => (if t1287 < 0 then (some true) else ((laws_toStore.f k l0_0 l0_1 l0_2 a0_3).bind fun bt1288 => ((laws_toBoolS.f k l1).bind fun t1298 => ((spec_CrashStore.f k bt1288.1 bt1288.2.1 bt1288.2.2.1 bt1288.2.2.2 t1298 a2).bind fun bt1301 => ((laws_toStore.f k l0_0 l0_1 l0_2 a0_3).bind fun bt1313 => ((laws_toBoolS.f k l1).bind fun t1324 => ((impl_CrashStore.f k bt1313.1 bt1313.2.1 bt1313.2.2.1 bt1313.2.2.2 t1324 a2).bind fun bt1327 => ((laws_eqStore.f k bt1327.1 bt1327.2.1 bt1327.2.2.1 bt1327.2.2.2.1 bt1301.1 bt1301.2.1 bt1301.2.2.1 bt1301.2.2.2.1).bind fun t1339 => (if t1339 = true then (laws_FnExactCrashStore.j0 k l1 a2 bt1301.2.2.2.2 t1324 bt1327.2.2.2.2 (bt1327.2.2.2.2 != bt1301.2.2.2.2) l0_0 l0_1 l0_2 a0_3 bt1301.1 bt1301.2.1 bt1301.2.2.1 bt1301.2.2.2.1 bt1313.1 bt1313.2.1 bt1313.2.2.1 bt1313.2.2.2 bt1327.1 bt1327.2.1 bt1327.2.2.1 bt1327.2.2.2.1) else (laws_FnExactCrashStore.j0 k l1 a2 bt1301.2.2.2.2 t1324 bt1327.2.2.2.2 true l0_0 l0_1 l0_2 a0_3 bt1301.1 bt1301.2.1 bt1301.2.2.1 bt1301.2.2.2.1 bt1313.1 bt1313.2.1 bt1313.2.2.1 bt1313.2.2.2 bt1327.1 bt1327.2.1 bt1327.2.2.1 bt1327.2.2.2.1)))))))))))) = some r := h
 clear h
 by_cases c4 : (l1.length : Int) > 1048576
 ·
  rw [if_pos c4] at H
  have c4b0 : decide (1048576 < (l1.length : Int)) = true := decide_eq_true c4
  have c4b1 : decide (1048576 < l1.length) = true := decide_eq_true (by omega)
  clear c4
  obtain rfl := Option.some.inj H
  go_enter Try.func13, Try.ntmps13
  go_wp2_with (first | ((with_reducible refine gate_dst (N := 3) rfl ?_); refine box_event ?hg (N := 3) ?hd (cs := #[.slice A0_0 l0_0.length c0_0, .slice A0_1 l0_1.length c0_1, .slice A0_2 l0_2.length c0_2, .int .i64 a0_3]) (t := 38) ?hr ?_; (case hd => rfl); (case hg => rfl); (case hr => first | (go_simp; done) | (go_simp; rfl)); intro gb1286 hg w5 hbox hb; have BK1286 := Aside0.mk (hbox); have GW1286 := Aside0.mk ((by rw [hg]; exact (below_size (bs HB)) : w.heap.size ≤ gb1286)); have GE1286 := Aside0.mk ((by rw [hg]; exact (below_size (bs HB)) : w.heap.size ≤ gb1286)); replace HB := Aside0.mk (below_step (bs HB) hb); clear hb hbox hg))
  go_ret
  exact ⟨by first | rfl | (simp [errW_none, errW_some] <;> rfl) | (simp [*, errW_none, errW_some] <;> rfl), bs1 HB GE1286⟩
 ·
  rw [if_neg c4] at H
  have c4b0 : decide (1048576 < (l1.length : Int)) = false := decide_eq_false c4
  have c4b1 : decide (1048576 < l1.length) = false := decide_eq_false (by omega)
  clear c4
  replace H := Option.bind_eq_some_iff.mp H
  obtain ⟨t1287, A60, H⟩ := H
  replace H : (if t1287 < 0 then (some true) else ((laws_toStore.f k l0_0 l0_1 l0_2 a0_3).bind fun bt1288 => ((laws_toBoolS.f k l1).bind fun t1298 => ((spec_CrashStore.f k bt1288.1 bt1288.2.1 bt1288.2.2.1 bt1288.2.2.2 t1298 a2).bind fun bt1301 => ((laws_toStore.f k l0_0 l0_1 l0_2 a0_3).bind fun bt1313 => ((laws_toBoolS.f k l1).bind fun t1324 => ((impl_CrashStore.f k bt1313.1 bt1313.2.1 bt1313.2.2.1 bt1313.2.2.2 t1324 a2).bind fun bt1327 => ((laws_eqStore.f k bt1327.1 bt1327.2.1 bt1327.2.2.1 bt1327.2.2.2.1 bt1301.1 bt1301.2.1 bt1301.2.2.1 bt1301.2.2.2.1).bind fun t1339 => (if t1339 = true then (laws_FnExactCrashStore.j0 k l1 a2 bt1301.2.2.2.2 t1324 bt1327.2.2.2.2 (bt1327.2.2.2.2 != bt1301.2.2.2.2) l0_0 l0_1 l0_2 a0_3 bt1301.1 bt1301.2.1 bt1301.2.2.1 bt1301.2.2.2.1 bt1313.1 bt1313.2.1 bt1313.2.2.1 bt1313.2.2.2 bt1327.1 bt1327.2.1 bt1327.2.2.1 bt1327.2.2.2.1) else (laws_FnExactCrashStore.j0 k l1 a2 bt1301.2.2.2.2 t1324 bt1327.2.2.2.2 true l0_0 l0_1 l0_2 a0_3 bt1301.1 bt1301.2.1 bt1301.2.2.1 bt1301.2.2.2.1 bt1313.1 bt1313.2.1 bt1313.2.2.1 bt1313.2.2.2 bt1327.1 bt1327.2.1 bt1327.2.2.1 bt1327.2.2.2.1)))))))))) = some r := H
  have A6 := Aside0.mk A60
  clear A60
  by_cases c7 : t1287 < 0
  ·
   rw [if_pos c7] at H
   have c7b0 : decide (t1287 < 0) = true := decide_eq_true c7
   clear c7
   obtain rfl := Option.some.inj H
   go_enter Try.func13, Try.ntmps13
   go_wp2_with (first | ((with_reducible refine gate_dst (N := 3) rfl ?_); refine box_event ?hg (N := 3) ?hd (cs := #[.slice A0_0 l0_0.length c0_0, .slice A0_1 l0_1.length c0_1, .slice A0_2 l0_2.length c0_2, .int .i64 a0_3]) (t := 38) ?hr ?_; (case hd => rfl); (case hg => rfl); (case hr => first | (go_simp; done) | (go_simp; rfl)); intro gb1286 hg w8 hbox hb; have BK1286 := Aside0.mk (hbox); have GW1286 := Aside0.mk ((by rw [hg]; exact (below_size (bs HB)) : w.heap.size ≤ gb1286)); have GE1286 := Aside0.mk ((by rw [hg]; exact (below_size (bs HB)) : w.heap.size ≤ gb1286)); replace HB := Aside0.mk (below_step (bs HB) hb); clear hb hbox hg; obtain ⟨hcz9_0, hcz9_1, hcz9_2, hcz9_3⟩ := cz4 BK1286; obtain ⟨hfz9_0, hfz9_1, hfz9_2, hfz9_3⟩ := fz4 BK1286) | ((with_reducible refine gate_callee (f := 25) rfl ?_); refine gL (some 24) rfl rfl Try.func25 (by kernel_rfl) rfl #[.agg #[.slice A0_0 l0_0.length c0_0, .slice A0_1 l0_1.length c0_1, .slice A0_2 l0_2.length c0_2, .int .i64 a0_3], .int .i64 1048576] rfl ?_; (with_reducible refine (laws_szStore.calls k _ _ l0_0 _ _ l0_1 _ _ l0_2 a0_3 1048576 t1287 _ ?side1 ?side2 ?side3 ?side4 ?side5 ?side6 A6.out).mono ?_); (case side1 => exact cb HR0_0 HB); (case side2 => exact HC0_0.out); (case side3 => exact cb HR0_1 HB); (case side4 => exact HC0_1.out); (case side5 => exact cb HR0_2 HB); (case side6 => exact HC0_2.out); rintro e w10 ⟨rfl, hb⟩; refine ⟨_, rfl, ?_⟩; replace BK1286 := nb BK1286 hb; replace HB := Aside0.mk (below_step (bs1 HB GE1286) hb); (try clear hb); (try clear hb2); (try clear hk); (try clear hi)))
   go_ret
   exact ⟨by first | rfl | (simp [errW_none, errW_some] <;> rfl) | (simp [*, errW_none, errW_some] <;> rfl), bs1 HB GE1286⟩
  ·
   rw [if_neg c7] at H
   have c7b0 : decide (t1287 < 0) = false := decide_eq_false c7
   clear c7
   replace H := Option.bind_eq_some_iff.mp H
   obtain ⟨⟨t1288, t1291, t1294, t1297⟩, A110, H⟩ := H
   replace H : ((laws_toBoolS.f k l1).bind fun t1298 => ((spec_CrashStore.f k t1288 t1291 t1294 t1297 t1298 a2).bind fun bt1301 => ((laws_toStore.f k l0_0 l0_1 l0_2 a0_3).bind fun bt1313 => ((laws_toBoolS.f k l1).bind fun t1324 => ((impl_CrashStore.f k bt1313.1 bt1313.2.1 bt1313.2.2.1 bt1313.2.2.2 t1324 a2).bind fun bt1327 => ((laws_eqStore.f k bt1327.1 bt1327.2.1 bt1327.2.2.1 bt1327.2.2.2.1 bt1301.1 bt1301.2.1 bt1301.2.2.1 bt1301.2.2.2.1).bind fun t1339 => (if t1339 = true then (laws_FnExactCrashStore.j0 k l1 a2 bt1301.2.2.2.2 t1324 bt1327.2.2.2.2 (bt1327.2.2.2.2 != bt1301.2.2.2.2) l0_0 l0_1 l0_2 a0_3 bt1301.1 bt1301.2.1 bt1301.2.2.1 bt1301.2.2.2.1 bt1313.1 bt1313.2.1 bt1313.2.2.1 bt1313.2.2.2 bt1327.1 bt1327.2.1 bt1327.2.2.1 bt1327.2.2.2.1) else (laws_FnExactCrashStore.j0 k l1 a2 bt1301.2.2.2.2 t1324 bt1327.2.2.2.2 true l0_0 l0_1 l0_2 a0_3 bt1301.1 bt1301.2.1 bt1301.2.2.1 bt1301.2.2.2.1 bt1313.1 bt1313.2.1 bt1313.2.2.1 bt1313.2.2.2 bt1327.1 bt1327.2.1 bt1327.2.2.1 bt1327.2.2.2.1)))))))) = some r := H
   have A11 := Aside0.mk A110
   clear A110
   replace H := Option.bind_eq_some_iff.mp H
   obtain ⟨t1298, A120, H⟩ := H
   replace H : ((spec_CrashStore.f k t1288 t1291 t1294 t1297 t1298 a2).bind fun bt1301 => ((laws_toStore.f k l0_0 l0_1 l0_2 a0_3).bind fun bt1313 => ((laws_toBoolS.f k l1).bind fun t1324 => ((impl_CrashStore.f k bt1313.1 bt1313.2.1 bt1313.2.2.1 bt1313.2.2.2 t1324 a2).bind fun bt1327 => ((laws_eqStore.f k bt1327.1 bt1327.2.1 bt1327.2.2.1 bt1327.2.2.2.1 bt1301.1 bt1301.2.1 bt1301.2.2.1 bt1301.2.2.2.1).bind fun t1339 => (if t1339 = true then (laws_FnExactCrashStore.j0 k l1 a2 bt1301.2.2.2.2 t1324 bt1327.2.2.2.2 (bt1327.2.2.2.2 != bt1301.2.2.2.2) l0_0 l0_1 l0_2 a0_3 bt1301.1 bt1301.2.1 bt1301.2.2.1 bt1301.2.2.2.1 bt1313.1 bt1313.2.1 bt1313.2.2.1 bt1313.2.2.2 bt1327.1 bt1327.2.1 bt1327.2.2.1 bt1327.2.2.2.1) else (laws_FnExactCrashStore.j0 k l1 a2 bt1301.2.2.2.2 t1324 bt1327.2.2.2.2 true l0_0 l0_1 l0_2 a0_3 bt1301.1 bt1301.2.1 bt1301.2.2.1 bt1301.2.2.2.1 bt1313.1 bt1313.2.1 bt1313.2.2.1 bt1313.2.2.2 bt1327.1 bt1327.2.1 bt1327.2.2.1 bt1327.2.2.2.1))))))) = some r := H
   have A12 := Aside0.mk A120
   clear A120
   replace H := Option.bind_eq_some_iff.mp H
   obtain ⟨⟨t1301, t1304, t1307, t1310, t1311⟩, A130, H⟩ := H
   replace H : ((laws_toStore.f k l0_0 l0_1 l0_2 a0_3).bind fun bt1313 => ((laws_toBoolS.f k l1).bind fun t1324 => ((impl_CrashStore.f k bt1313.1 bt1313.2.1 bt1313.2.2.1 bt1313.2.2.2 t1324 a2).bind fun bt1327 => ((laws_eqStore.f k bt1327.1 bt1327.2.1 bt1327.2.2.1 bt1327.2.2.2.1 t1301 t1304 t1307 t1310).bind fun t1339 => (if t1339 = true then (laws_FnExactCrashStore.j0 k l1 a2 t1311 t1324 bt1327.2.2.2.2 (bt1327.2.2.2.2 != t1311) l0_0 l0_1 l0_2 a0_3 t1301 t1304 t1307 t1310 bt1313.1 bt1313.2.1 bt1313.2.2.1 bt1313.2.2.2 bt1327.1 bt1327.2.1 bt1327.2.2.1 bt1327.2.2.2.1) else (laws_FnExactCrashStore.j0 k l1 a2 t1311 t1324 bt1327.2.2.2.2 true l0_0 l0_1 l0_2 a0_3 t1301 t1304 t1307 t1310 bt1313.1 bt1313.2.1 bt1313.2.2.1 bt1313.2.2.2 bt1327.1 bt1327.2.1 bt1327.2.2.1 bt1327.2.2.2.1)))))) = some r := H
   have A13 := Aside0.mk A130
   clear A130
   replace H := Option.bind_eq_some_iff.mp H
   obtain ⟨⟨t1313, t1316, t1319, t1322⟩, A140, H⟩ := H
   replace H : ((laws_toBoolS.f k l1).bind fun t1324 => ((impl_CrashStore.f k t1313 t1316 t1319 t1322 t1324 a2).bind fun bt1327 => ((laws_eqStore.f k bt1327.1 bt1327.2.1 bt1327.2.2.1 bt1327.2.2.2.1 t1301 t1304 t1307 t1310).bind fun t1339 => (if t1339 = true then (laws_FnExactCrashStore.j0 k l1 a2 t1311 t1324 bt1327.2.2.2.2 (bt1327.2.2.2.2 != t1311) l0_0 l0_1 l0_2 a0_3 t1301 t1304 t1307 t1310 t1313 t1316 t1319 t1322 bt1327.1 bt1327.2.1 bt1327.2.2.1 bt1327.2.2.2.1) else (laws_FnExactCrashStore.j0 k l1 a2 t1311 t1324 bt1327.2.2.2.2 true l0_0 l0_1 l0_2 a0_3 t1301 t1304 t1307 t1310 t1313 t1316 t1319 t1322 bt1327.1 bt1327.2.1 bt1327.2.2.1 bt1327.2.2.2.1))))) = some r := H
   have A14 := Aside0.mk A140
   clear A140
   replace H := Option.bind_eq_some_iff.mp H
   obtain ⟨t1324, A150, H⟩ := H
   replace H : ((impl_CrashStore.f k t1313 t1316 t1319 t1322 t1324 a2).bind fun bt1327 => ((laws_eqStore.f k bt1327.1 bt1327.2.1 bt1327.2.2.1 bt1327.2.2.2.1 t1301 t1304 t1307 t1310).bind fun t1339 => (if t1339 = true then (laws_FnExactCrashStore.j0 k l1 a2 t1311 t1324 bt1327.2.2.2.2 (bt1327.2.2.2.2 != t1311) l0_0 l0_1 l0_2 a0_3 t1301 t1304 t1307 t1310 t1313 t1316 t1319 t1322 bt1327.1 bt1327.2.1 bt1327.2.2.1 bt1327.2.2.2.1) else (laws_FnExactCrashStore.j0 k l1 a2 t1311 t1324 bt1327.2.2.2.2 true l0_0 l0_1 l0_2 a0_3 t1301 t1304 t1307 t1310 t1313 t1316 t1319 t1322 bt1327.1 bt1327.2.1 bt1327.2.2.1 bt1327.2.2.2.1)))) = some r := H
   have A15 := Aside0.mk A150
   clear A150
   replace H := Option.bind_eq_some_iff.mp H
   obtain ⟨⟨t1327, t1330, t1333, t1336, t1337⟩, A160, H⟩ := H
   replace H : ((laws_eqStore.f k t1327 t1330 t1333 t1336 t1301 t1304 t1307 t1310).bind fun t1339 => (if t1339 = true then (laws_FnExactCrashStore.j0 k l1 a2 t1311 t1324 t1337 (t1337 != t1311) l0_0 l0_1 l0_2 a0_3 t1301 t1304 t1307 t1310 t1313 t1316 t1319 t1322 t1327 t1330 t1333 t1336) else (laws_FnExactCrashStore.j0 k l1 a2 t1311 t1324 t1337 true l0_0 l0_1 l0_2 a0_3 t1301 t1304 t1307 t1310 t1313 t1316 t1319 t1322 t1327 t1330 t1333 t1336))) = some r := H
   have A16 := Aside0.mk A160
   clear A160
   have HC17 := Aside0.mk H
   clear H
   go_enter Try.func13, Try.ntmps13
   go_upto_region 11 with (first | ((with_reducible refine gate_dst (N := 3) rfl ?_); refine box_event ?hg (N := 3) ?hd (cs := #[.slice A0_0 l0_0.length c0_0, .slice A0_1 l0_1.length c0_1, .slice A0_2 l0_2.length c0_2, .int .i64 a0_3]) (t := 38) ?hr ?_; (case hd => rfl); (case hg => rfl); (case hr => first | (go_simp; done) | (go_simp; rfl)); intro gb1286 hg w18 hbox hb; have BK1286 := Aside0.mk (hbox); have GW1286 := Aside0.mk ((by rw [hg]; exact (below_size (bs HB)) : w.heap.size ≤ gb1286)); have GE1286 := Aside0.mk ((by rw [hg]; exact (below_size (bs HB)) : w.heap.size ≤ gb1286)); replace HB := Aside0.mk (below_step (bs HB) hb); clear hb hbox hg; obtain ⟨hcz19_0, hcz19_1, hcz19_2, hcz19_3⟩ := cz4 BK1286; obtain ⟨hfz19_0, hfz19_1, hfz19_2, hfz19_3⟩ := fz4 BK1286) | ((with_reducible refine gate_callee (f := 25) rfl ?_); refine gL (some 24) rfl rfl Try.func25 (by kernel_rfl) rfl #[.agg #[.slice A0_0 l0_0.length c0_0, .slice A0_1 l0_1.length c0_1, .slice A0_2 l0_2.length c0_2, .int .i64 a0_3], .int .i64 1048576] rfl ?_; (with_reducible refine (laws_szStore.calls k _ _ l0_0 _ _ l0_1 _ _ l0_2 a0_3 1048576 t1287 _ ?side1 ?side2 ?side3 ?side4 ?side5 ?side6 A6.out).mono ?_); (case side1 => exact cb HR0_0 HB); (case side2 => exact HC0_0.out); (case side3 => exact cb HR0_1 HB); (case side4 => exact HC0_1.out); (case side5 => exact cb HR0_2 HB); (case side6 => exact HC0_2.out); rintro e w20 ⟨rfl, hb⟩; refine ⟨_, rfl, ?_⟩; replace BK1286 := nb BK1286 hb; replace HB := Aside0.mk (below_step (bs1 HB GE1286) hb); (try clear hb); (try clear hb2); (try clear hk); (try clear hi); obtain ⟨hcz21_0, hcz21_1, hcz21_2, hcz21_3⟩ := cz4 BK1286; obtain ⟨hfz21_0, hfz21_1, hfz21_2, hfz21_3⟩ := fz4 BK1286) | ((with_reducible refine gate_callee (f := 27) rfl ?_); refine gL (some 29) rfl rfl Try.func27 (by kernel_rfl) rfl #[.agg #[.slice A0_0 l0_0.length c0_0, .slice A0_1 l0_1.length c0_1, .slice A0_2 l0_2.length c0_2, .int .i64 a0_3]] rfl ?_; (with_reducible refine (laws_toStore.calls k _ _ l0_0 _ _ l0_1 _ _ l0_2 a0_3 t1288 t1291 t1294 t1297 _ ?side1 ?side2 ?side3 ?side4 ?side5 ?side6 A11.out).mono ?_); (case side1 => exact cb HR0_0 HB); (case side2 => exact HC0_0.out); (case side3 => exact cb HR0_1 HB); (case side4 => exact HC0_1.out); (case side5 => exact cb HR0_2 HB); (case side6 => exact HC0_2.out); rintro e w22 ⟨v1289, v1292, v1295, rfl, ho0, ho1, ho2, hb⟩; refine ⟨_, rfl, ?_⟩; have HO1290 := Aside0.mk (Kd.R_lower ho0 (below_size (bs1 HB GE1286))); have HO1293 := Aside0.mk (Kd.R_lower ho1 (below_size (bs1 HB GE1286))); have HO1296 := Aside0.mk (Kd.R_lower ho2 (below_size (bs1 HB GE1286))); replace BK1286 := nb BK1286 hb; replace HB := Aside0.mk (below_step (bs1 HB GE1286) hb); (try clear hb); (try clear hb2); (try clear hk); (try clear hi); (try clear ho0); (try clear ho1); (try clear ho2)) | ((with_reducible refine gate_callee (f := 50) rfl ?_); refine gL (some 31) rfl rfl Try.func50 (by kernel_rfl) rfl #[.slice A1 l1.length c1] rfl ?_; (with_reducible refine (laws_toBoolS.calls k _ _ l1 t1298 _ ?side1 ?side2 A12.out).mono ?_); (case side1 => exact cb HR1 HB); (case side2 => exact HC1.out); rintro e w23 ⟨v1299, rfl, ho0, hb⟩; refine ⟨_, rfl, ?_⟩; replace HO1290 := nr HO1290 hb; replace HO1293 := nr HO1293 hb; replace HO1296 := nr HO1296 hb; have HO1300 := Aside0.mk (Kd.R_lower ho0 (below_size (bs1 HB GE1286))); replace BK1286 := nb BK1286 hb; replace HB := Aside0.mk (below_step (bs1 HB GE1286) hb); (try clear hb); (try clear hb2); (try clear hk); (try clear hi); (try clear ho0); obtain ⟨Ao24, co24, eo24⟩ := Kd.R_slice HO1290.out; subst eo24; obtain ⟨Ao25, co25, eo25⟩ := Kd.R_slice HO1293.out; subst eo25; obtain ⟨Ao26, co26, eo26⟩ := Kd.R_slice HO1296.out; subst eo26; obtain ⟨Ao27, co27, eo27⟩ := Kd.R_slice HO1300.out; subst eo27) | ((with_reducible refine gate_callee (f := 49) rfl ?_); refine gL (some 33) rfl rfl Try.func49 (by kernel_rfl) rfl #[.agg #[.slice Ao24 t1288.length co24, .slice Ao25 t1291.length co25, .slice Ao26 t1294.length co26, .int .i64 t1297], .slice Ao27 t1298.length co27, .int .i64 a2] rfl ?_; (with_reducible refine (spec_CrashStore.calls k _ _ t1288 _ _ t1291 _ _ t1294 t1297 _ _ t1298 a2 t1301 t1304 t1307 t1310 t1311 _ ?side1 ?side2 ?side3 ?side4 ?side5 ?side6 ?side7 ?side8 A13.out).mono ?_); (case side1 => exact rc0 HO1290); (case side2 => exact (Kd.R_reads' HO1290.out).2.1); (case side3 => exact rc0 HO1293); (case side4 => exact (Kd.R_reads' HO1293.out).2.1); (case side5 => exact rc0 HO1296); (case side6 => exact (Kd.R_reads' HO1296.out).2.1); (case side7 => exact rc0 HO1300); (case side8 => exact (Kd.R_reads' HO1300.out).2.1); rintro e w28 ⟨v1302, v1305, v1308, rfl, ho0, ho1, ho2, hb⟩; refine ⟨_, rfl, ?_⟩; replace HO1300 := nr HO1300 hb; have HO1303 := Aside0.mk (Kd.R_lower (Kd.R_new' (Kd.R_new' ho0 (Kd.R_lt (rr HO1290.out))) (Kd.R_lt (rr HO1296.out))) (below_size (bs1 HB GE1286))); have HO1306 := Aside0.mk (Kd.R_lower (Kd.R_new' ho1 (Kd.R_lt (rr HO1293.out))) (below_size (bs1 HB GE1286))); replace HO1293 := Aside0.mk (Kd.R_elder' (rr HO1293.out) (Kd.R_base ho1) hb); have HO1309 := Aside0.mk (Kd.R_lower (Kd.R_new' (Kd.R_new' ho2 (Kd.R_lt (rr HO1290.out))) (Kd.R_lt (rr HO1296.out))) (below_size (bs1 HB GE1286))); replace HO1290 := Aside0.mk (Kd.R_mono (Kd.R_told (Kd.R_told (Kd.R_old (rr HO1290.out) hb) (Kd.R_base ho0)) (Kd.R_base ho2)) (fun _ h_ => h_.1)); replace HO1296 := Aside0.mk (Kd.R_mono (Kd.R_told (Kd.R_told (Kd.R_old (rr HO1296.out) hb) (Kd.R_base ho0)) (Kd.R_base ho2)) (fun _ h_ => h_.1)); replace BK1286 := nb BK1286 hb; replace HB := Aside0.mk (below_step (bs1 HB GE1286) hb); (try clear hb); (try clear hb2); (try clear hk); (try clear hi); (try clear ho0); (try clear ho1); (try clear ho2)) | ((with_reducible refine gate_dst (N := 8) rfl ?_); refine box_event ?hg (N := 8) ?hd (cs := #[.slice none 0 0, .slice none 0 0, .slice none 0 0, .int .i64 0]) (t := 44) ?hr ?_; (case hd => rfl); (case hg => rfl); (case hr => first | (go_simp; done) | (go_simp; rfl)); intro gb1312 hg w29 hbox hb; replace HO1290 := nr HO1290 hb; replace HO1293 := nr HO1293 hb; replace HO1296 := nr HO1296 hb; replace HO1300 := nr HO1300 hb; replace HO1303 := nr HO1303 hb; replace HO1306 := nr HO1306 hb; replace HO1309 := nr HO1309 hb; have BK1312 := Aside0.mk (hbox); have GW1312 := Aside0.mk ((by rw [hg]; exact (below_size (bs1 HB GE1286)) : w.heap.size ≤ gb1312)); have GE1312 := Aside0.mk ((by rw [hg]; exact (below_size (bs1 HB GE1286)) : w.heap.size ≤ gb1312)); replace HB := Aside0.mk (below_step (bs1 HB GE1286) hb); have NB1286_1312 := Aside0.mk ((bn BK1286 hg : gb1286 ≠ gb1312)); have NB1312_1286 := Aside0.mk ((bm BK1286 hg : gb1312 ≠ gb1286)); replace BK1286 := nb BK1286 hb; clear hb hbox hg; obtain ⟨Ao30, co30, eo30⟩ := Kd.R_slice HO1303.out; subst eo30; have hnb31 := NB1312_1286.out; have hnc31 := NB1286_1312.out; obtain ⟨hcz32_0, hcz32_1, hcz32_2, hcz32_3⟩ := cz4 BK1312; obtain ⟨hfz32_0, hfz32_1, hfz32_2, hfz32_3⟩ := fz4 BK1312; obtain ⟨Ao33, co33, eo33⟩ := Kd.R_slice HO1306.out; subst eo33; obtain ⟨Ao34, co34, eo34⟩ := Kd.R_slice HO1309.out; subst eo34; obtain ⟨hcz35_0, hcz35_1, hcz35_2, hcz35_3⟩ := cz4 BK1286; obtain ⟨hfz35_0, hfz35_1, hfz35_2, hfz35_3⟩ := fz4 BK1286) | ((with_reducible refine gate_callee (f := 27) rfl ?_); refine gL (some 37) rfl rfl Try.func27 (by kernel_rfl) rfl #[.agg #[.slice A0_0 l0_0.length c0_0, .slice A0_1 l0_1.length c0_1, .slice A0_2 l0_2.length c0_2, .int .i64 a0_3]] rfl ?_; (with_reducible refine (laws_toStore.calls k _ _ l0_0 _ _ l0_1 _ _ l0_2 a0_3 t1313 t1316 t1319 t1322 _ ?side1 ?side2 ?side3 ?side4 ?side5 ?side6 A14.out).mono ?_); (case side1 => exact Kd.C_below HR0_0.out (bs2 HB GE1286 GE1312)); (case side2 => exact HC0_0.out); (case side3 => exact Kd.C_below HR0_1.out (bs2 HB GE1286 GE1312)); (case side4 => exact HC0_1.out); (case side5 => exact Kd.C_below HR0_2.out (bs2 HB GE1286 GE1312)); (case side6 => exact HC0_2.out); rintro e w36 ⟨v1314, v1317, v1320, rfl, ho0, ho1, ho2, hb⟩; refine ⟨_, rfl, ?_⟩; replace HO1300 := nf HO1300 BK1312 hb; have HO1315 := Aside0.mk (Kd.R_lower (Kd.R_new' (Kd.R_new' (Kd.R_new' (Kd.R_new' ho0 (Kd.R_lt (rf HO1290 BK1312))) (Kd.R_lt (rf HO1296 BK1312))) (Kd.R_lt (rf HO1303 BK1312))) (Kd.R_lt (rf HO1309 BK1312))) (below_size (bs2 HB GE1286 GE1312))); have HO1318 := Aside0.mk (Kd.R_lower (Kd.R_new' (Kd.R_new' ho1 (Kd.R_lt (rf HO1293 BK1312))) (Kd.R_lt (rf HO1306 BK1312))) (below_size (bs2 HB GE1286 GE1312))); replace HO1293 := Aside0.mk (Kd.R_elder' (rf HO1293 BK1312) (Kd.R_base ho1) hb); replace HO1306 := Aside0.mk (Kd.R_elder' (rf HO1306 BK1312) (Kd.R_base ho1) hb); have HO1321 := Aside0.mk (Kd.R_lower (Kd.R_new' (Kd.R_new' (Kd.R_new' (Kd.R_new' ho2 (Kd.R_lt (rf HO1290 BK1312))) (Kd.R_lt (rf HO1296 BK1312))) (Kd.R_lt (rf HO1303 BK1312))) (Kd.R_lt (rf HO1309 BK1312))) (below_size (bs2 HB GE1286 GE1312))); replace HO1290 := Aside0.mk (Kd.R_mono (Kd.R_told (Kd.R_told (Kd.R_old (rf HO1290 BK1312) hb) (Kd.R_base ho0)) (Kd.R_base ho2)) (fun _ h_ => h_.1)); replace HO1296 := Aside0.mk (Kd.R_mono (Kd.R_told (Kd.R_told (Kd.R_old (rf HO1296 BK1312) hb) (Kd.R_base ho0)) (Kd.R_base ho2)) (fun _ h_ => h_.1)); replace HO1303 := Aside0.mk (Kd.R_mono (Kd.R_told (Kd.R_told (Kd.R_old (rf HO1303 BK1312) hb) (Kd.R_base ho0)) (Kd.R_base ho2)) (fun _ h_ => h_.1)); replace HO1309 := Aside0.mk (Kd.R_mono (Kd.R_told (Kd.R_told (Kd.R_old (rf HO1309 BK1312) hb) (Kd.R_base ho0)) (Kd.R_base ho2)) (fun _ h_ => h_.1)); replace BK1286 := Aside0.mk (blk_below (bf BK1286 NB1286_1312) hb); replace BK1312 := Aside0.mk (blk_below (g := gb1312) (o := .cells #[.slice Ao30 t1301.length co30, .slice Ao33 t1304.length co33, .slice Ao34 t1307.length co34, .int .i64 t1310] 44 (0, 0)) (by (with_reducible repeat (first | refine blk_drewN ?_ _ | refine blk_drew ?_ | refine blk_alloc ?_ _)); refine blk_put (cs := #[.slice Ao30 t1301.length co30, .slice Ao33 t1304.length co33, .slice Ao34 t1307.length co34, .int .i64 0]) ?_ 3 _ rfl; (with_reducible repeat (first | refine blk_drewN ?_ _ | refine blk_drew ?_ | refine blk_alloc ?_ _)); refine blk_put (cs := #[.slice Ao30 t1301.length co30, .slice Ao33 t1304.length co33, .slice none 0 0, .int .i64 0]) ?_ 2 _ rfl; (with_reducible repeat (first | refine blk_drewN ?_ _ | refine blk_drew ?_ | refine blk_alloc ?_ _)); refine blk_put (cs := #[.slice Ao30 t1301.length co30, .slice none 0 0, .slice none 0 0, .int .i64 0]) ?_ 1 _ rfl; (with_reducible repeat (first | refine blk_drewN ?_ _ | refine blk_drew ?_ | refine blk_alloc ?_ _)); refine blk_put (cs := #[.slice none 0 0, .slice none 0 0, .slice none 0 0, .int .i64 0]) ?_ 0 _ rfl; (with_reducible repeat (first | refine blk_drewN ?_ _ | refine blk_drew ?_ | refine blk_alloc ?_ _)); exact BK1312.out) hb); replace HB := Aside0.mk (below_step (bs2 HB GE1286 GE1312) hb); (try clear hb); (try clear hb2); (try clear hk); (try clear hi); (try clear ho0); (try clear ho1); (try clear ho2)) | ((with_reducible refine gate_dst (N := 10) rfl ?_); refine box_event ?hg (N := 10) ?hd (cs := #[.slice none 0 0, .slice none 0 0, .slice none 0 0, .int .i64 0]) (t := 44) ?hr ?_; (case hd => rfl); (case hg => rfl); (case hr => first | (go_simp; done) | (go_simp; rfl)); intro gb1323 hg w37 hbox hb; replace HO1290 := nr HO1290 hb; replace HO1293 := nr HO1293 hb; replace HO1296 := nr HO1296 hb; replace HO1300 := nr HO1300 hb; replace HO1303 := nr HO1303 hb; replace HO1306 := nr HO1306 hb; replace HO1309 := nr HO1309 hb; replace HO1315 := nr HO1315 hb; replace HO1318 := nr HO1318 hb; replace HO1321 := nr HO1321 hb; have BK1323 := Aside0.mk (hbox); have GW1323 := Aside0.mk ((by rw [hg]; exact (below_size (bs2 HB GE1286 GE1312)) : w.heap.size ≤ gb1323)); have GE1323 := Aside0.mk ((by rw [hg]; exact (below_size (bs2 HB GE1286 GE1312)) : w.heap.size ≤ gb1323)); replace HB := Aside0.mk (below_step (bs2 HB GE1286 GE1312) hb); have NB1286_1323 := Aside0.mk ((bn BK1286 hg : gb1286 ≠ gb1323)); have NB1323_1286 := Aside0.mk ((bm BK1286 hg : gb1323 ≠ gb1286)); replace BK1286 := nb BK1286 hb; have NB1312_1323 := Aside0.mk ((bn BK1312 hg : gb1312 ≠ gb1323)); have NB1323_1312 := Aside0.mk ((bm BK1312 hg : gb1323 ≠ gb1312)); replace BK1312 := nb BK1312 hb; clear hb hbox hg; obtain ⟨Ao38, co38, eo38⟩ := Kd.R_slice HO1315.out; subst eo38; have hnb39 := NB1323_1286.out; have hnc39 := NB1286_1323.out; have hnb40 := NB1323_1312.out; have hnc40 := NB1312_1323.out; obtain ⟨hcz41_0, hcz41_1, hcz41_2, hcz41_3⟩ := cz4 BK1323; obtain ⟨hfz41_0, hfz41_1, hfz41_2, hfz41_3⟩ := fz4 BK1323; obtain ⟨Ao42, co42, eo42⟩ := Kd.R_slice HO1318.out; subst eo42; obtain ⟨Ao43, co43, eo43⟩ := Kd.R_slice HO1321.out; subst eo43) | ((with_reducible refine gate_callee (f := 50) rfl ?_); refine gL (some 39) rfl rfl Try.func50 (by kernel_rfl) rfl #[.slice A1 l1.length c1] rfl ?_; (with_reducible refine (laws_toBoolS.calls k _ _ l1 t1324 _ ?side1 ?side2 A15.out).mono ?_); (case side1 => exact Kd.C_below HR1.out (bs3 HB GE1286 GE1312 GE1323)); (case side2 => exact HC1.out); rintro e w44 ⟨v1325, rfl, ho0, hb⟩; refine ⟨_, rfl, ?_⟩; replace HO1290 := nf HO1290 BK1323 hb; replace HO1293 := nf HO1293 BK1323 hb; replace HO1296 := nf HO1296 BK1323 hb; replace HO1303 := nf HO1303 BK1323 hb; replace HO1306 := nf HO1306 BK1323 hb; replace HO1309 := nf HO1309 BK1323 hb; replace HO1315 := nf HO1315 BK1323 hb; replace HO1318 := nf HO1318 BK1323 hb; replace HO1321 := nf HO1321 BK1323 hb; have HO1326 := Aside0.mk (Kd.R_lower (Kd.R_new' ho0 (Kd.R_lt (rf HO1300 BK1323))) (below_size (bs3 HB GE1286 GE1312 GE1323))); replace HO1300 := Aside0.mk (Kd.R_elder' (rf HO1300 BK1323) (Kd.R_base ho0) hb); replace BK1286 := Aside0.mk (blk_below (bf BK1286 NB1286_1323) hb); replace BK1312 := Aside0.mk (blk_below (bf BK1312 NB1312_1323) hb); replace BK1323 := Aside0.mk (blk_below (g := gb1323) (o := .cells #[.slice Ao38 t1313.length co38, .slice Ao42 t1316.length co42, .slice Ao43 t1319.length co43, .int .i64 t1322] 44 (0, 0)) (by (with_reducible repeat (first | refine blk_drewN ?_ _ | refine blk_drew ?_ | refine blk_alloc ?_ _)); refine blk_put (cs := #[.slice Ao38 t1313.length co38, .slice Ao42 t1316.length co42, .slice Ao43 t1319.length co43, .int .i64 0]) ?_ 3 _ rfl; (with_reducible repeat (first | refine blk_drewN ?_ _ | refine blk_drew ?_ | refine blk_alloc ?_ _)); refine blk_put (cs := #[.slice Ao38 t1313.length co38, .slice Ao42 t1316.length co42, .slice none 0 0, .int .i64 0]) ?_ 2 _ rfl; (with_reducible repeat (first | refine blk_drewN ?_ _ | refine blk_drew ?_ | refine blk_alloc ?_ _)); refine blk_put (cs := #[.slice Ao38 t1313.length co38, .slice none 0 0, .slice none 0 0, .int .i64 0]) ?_ 1 _ rfl; (with_reducible repeat (first | refine blk_drewN ?_ _ | refine blk_drew ?_ | refine blk_alloc ?_ _)); refine blk_put (cs := #[.slice none 0 0, .slice none 0 0, .slice none 0 0, .int .i64 0]) ?_ 0 _ rfl; (with_reducible repeat (first | refine blk_drewN ?_ _ | refine blk_drew ?_ | refine blk_alloc ?_ _)); exact BK1323.out) hb); replace HB := Aside0.mk (below_step (bs3 HB GE1286 GE1312 GE1323) hb); (try clear hb); (try clear hb2); (try clear hk); (try clear hi); (try clear ho0); obtain ⟨hcz45_0, hcz45_1, hcz45_2, hcz45_3⟩ := cz4 BK1323; obtain ⟨hfz45_0, hfz45_1, hfz45_2, hfz45_3⟩ := fz4 BK1323; obtain ⟨Ao46, co46, eo46⟩ := Kd.R_slice HO1326.out; subst eo46) | ((with_reducible refine gate_callee (f := 51) rfl ?_); refine gL (some 44) rfl rfl Try.func51 (by kernel_rfl) rfl #[.agg #[.slice Ao38 t1313.length co38, .slice Ao42 t1316.length co42, .slice Ao43 t1319.length co43, .int .i64 t1322], .slice Ao46 t1324.length co46, .int .i64 a2] rfl ?_; (with_reducible refine (impl_CrashStore.calls k _ _ t1313 _ _ t1316 _ _ t1319 t1322 _ _ t1324 a2 t1327 t1330 t1333 t1336 t1337 _ ?side1 ?side2 ?side3 ?side4 ?side5 ?side6 ?side7 ?side8 A16.out).mono ?_); (case side1 => exact rc0 HO1315); (case side2 => exact (Kd.R_reads' HO1315.out).2.1); (case side3 => exact rc0 HO1318); (case side4 => exact (Kd.R_reads' HO1318.out).2.1); (case side5 => exact rc0 HO1321); (case side6 => exact (Kd.R_reads' HO1321.out).2.1); (case side7 => exact rc0 HO1326); (case side8 => exact (Kd.R_reads' HO1326.out).2.1); rintro e w47 ⟨v1328, v1331, v1334, rfl, ho0, ho1, ho2, hb⟩; refine ⟨_, rfl, ?_⟩; replace HO1300 := nr HO1300 hb; replace HO1326 := nr HO1326 hb; have HO1329 := Aside0.mk (Kd.R_lower (Kd.R_new' (Kd.R_new' (Kd.R_new' (Kd.R_new' (Kd.R_new' (Kd.R_new' ho0 (Kd.R_lt (rr HO1290.out))) (Kd.R_lt (rr HO1296.out))) (Kd.R_lt (rr HO1303.out))) (Kd.R_lt (rr HO1309.out))) (Kd.R_lt (rr HO1315.out))) (Kd.R_lt (rr HO1321.out))) (below_size (bs3 HB GE1286 GE1312 GE1323))); have HO1332 := Aside0.mk (Kd.R_lower (Kd.R_new' (Kd.R_new' (Kd.R_new' ho1 (Kd.R_lt (rr HO1293.out))) (Kd.R_lt (rr HO1306.out))) (Kd.R_lt (rr HO1318.out))) (below_size (bs3 HB GE1286 GE1312 GE1323))); replace HO1293 := Aside0.mk (Kd.R_elder' (rr HO1293.out) (Kd.R_base ho1) hb); replace HO1306 := Aside0.mk (Kd.R_elder' (rr HO1306.out) (Kd.R_base ho1) hb); replace HO1318 := Aside0.mk (Kd.R_elder' (rr HO1318.out) (Kd.R_base ho1) hb); have HO1335 := Aside0.mk (Kd.R_lower (Kd.R_new' (Kd.R_new' (Kd.R_new' (Kd.R_new' (Kd.R_new' (Kd.R_new' ho2 (Kd.R_lt (rr HO1290.out))) (Kd.R_lt (rr HO1296.out))) (Kd.R_lt (rr HO1303.out))) (Kd.R_lt (rr HO1309.out))) (Kd.R_lt (rr HO1315.out))) (Kd.R_lt (rr HO1321.out))) (below_size (bs3 HB GE1286 GE1312 GE1323))); replace HO1290 := Aside0.mk (Kd.R_mono (Kd.R_told (Kd.R_told (Kd.R_old (rr HO1290.out) hb) (Kd.R_base ho0)) (Kd.R_base ho2)) (fun _ h_ => h_.1)); replace HO1296 := Aside0.mk (Kd.R_mono (Kd.R_told (Kd.R_told (Kd.R_old (rr HO1296.out) hb) (Kd.R_base ho0)) (Kd.R_base ho2)) (fun _ h_ => h_.1)); replace HO1303 := Aside0.mk (Kd.R_mono (Kd.R_told (Kd.R_told (Kd.R_old (rr HO1303.out) hb) (Kd.R_base ho0)) (Kd.R_base ho2)) (fun _ h_ => h_.1)); replace HO1309 := Aside0.mk (Kd.R_mono (Kd.R_told (Kd.R_told (Kd.R_old (rr HO1309.out) hb) (Kd.R_base ho0)) (Kd.R_base ho2)) (fun _ h_ => h_.1)); replace HO1315 := Aside0.mk (Kd.R_mono (Kd.R_told (Kd.R_told (Kd.R_old (rr HO1315.out) hb) (Kd.R_base ho0)) (Kd.R_base ho2)) (fun _ h_ => h_.1)); replace HO1321 := Aside0.mk (Kd.R_mono (Kd.R_told (Kd.R_told (Kd.R_old (rr HO1321.out) hb) (Kd.R_base ho0)) (Kd.R_base ho2)) (fun _ h_ => h_.1)); replace BK1286 := nb BK1286 hb; replace BK1312 := nb BK1312 hb; replace BK1323 := nb BK1323 hb; replace HB := Aside0.mk (below_step (bs3 HB GE1286 GE1312 GE1323) hb); (try clear hb); (try clear hb2); (try clear hk); (try clear hi); (try clear ho0); (try clear ho1); (try clear ho2)) | ((with_reducible refine gate_dst (N := 12) rfl ?_); refine box_event ?hg (N := 12) ?hd (cs := #[.slice none 0 0, .slice none 0 0, .slice none 0 0, .int .i64 0]) (t := 44) ?hr ?_; (case hd => rfl); (case hg => rfl); (case hr => first | (go_simp; done) | (go_simp; rfl)); intro gb1338 hg w48 hbox hb; replace HO1290 := nr HO1290 hb; replace HO1293 := nr HO1293 hb; replace HO1296 := nr HO1296 hb; replace HO1300 := nr HO1300 hb; replace HO1303 := nr HO1303 hb; replace HO1306 := nr HO1306 hb; replace HO1309 := nr HO1309 hb; replace HO1315 := nr HO1315 hb; replace HO1318 := nr HO1318 hb; replace HO1321 := nr HO1321 hb; replace HO1326 := nr HO1326 hb; replace HO1329 := nr HO1329 hb; replace HO1332 := nr HO1332 hb; replace HO1335 := nr HO1335 hb; have BK1338 := Aside0.mk (hbox); have GW1338 := Aside0.mk ((by rw [hg]; exact (below_size (bs3 HB GE1286 GE1312 GE1323)) : w.heap.size ≤ gb1338)); have GE1338 := Aside0.mk ((by rw [hg]; exact (below_size (bs3 HB GE1286 GE1312 GE1323)) : w.heap.size ≤ gb1338)); replace HB := Aside0.mk (below_step (bs3 HB GE1286 GE1312 GE1323) hb); have NB1286_1338 := Aside0.mk ((bn BK1286 hg : gb1286 ≠ gb1338)); have NB1338_1286 := Aside0.mk ((bm BK1286 hg : gb1338 ≠ gb1286)); replace BK1286 := nb BK1286 hb; have NB1312_1338 := Aside0.mk ((bn BK1312 hg : gb1312 ≠ gb1338)); have NB1338_1312 := Aside0.mk ((bm BK1312 hg : gb1338 ≠ gb1312)); replace BK1312 := nb BK1312 hb; have NB1323_1338 := Aside0.mk ((bn BK1323 hg : gb1323 ≠ gb1338)); have NB1338_1323 := Aside0.mk ((bm BK1323 hg : gb1338 ≠ gb1323)); replace BK1323 := nb BK1323 hb; clear hb hbox hg; obtain ⟨Ao49, co49, eo49⟩ := Kd.R_slice HO1329.out; subst eo49; have hnb50 := NB1338_1286.out; have hnc50 := NB1286_1338.out; have hnb51 := NB1338_1312.out; have hnc51 := NB1312_1338.out; have hnb52 := NB1338_1323.out; have hnc52 := NB1323_1338.out; obtain ⟨hcz53_0, hcz53_1, hcz53_2, hcz53_3⟩ := cz4 BK1338; obtain ⟨hfz53_0, hfz53_1, hfz53_2, hfz53_3⟩ := fz4 BK1338; obtain ⟨Ao54, co54, eo54⟩ := Kd.R_slice HO1332.out; subst eo54; obtain ⟨Ao55, co55, eo55⟩ := Kd.R_slice HO1335.out; subst eo55))
   (try simp only [Act.put, List.setIfInBounds_toArray, List.set_cons_zero, List.set_cons_succ])
   go_cut [55] (fun v55 wc => ∃ (kq : Nat) (x55_16 : Bool), v55 = .bool x55_16 ∧ Aside0 (laws_FnExactCrashStore.j0 kq l1 a2 t1311 t1324 t1337 x55_16 l0_0 l0_1 l0_2 a0_3 t1301 t1304 t1307 t1310 t1313 t1316 t1319 t1322 t1327 t1330 t1333 t1336 = some r) ∧ Aside0 (kq ≤ k) ∧ Aside0 (Kd.R Kd.bool 4 wc w.heap.size (fun _ => True) (.slice Ao46 t1324.length co46) t1324) ∧ Aside0 (Kd.R Kd.string 9 wc w.heap.size (fun k_ => some k_ ≠ ((.slice Ao34 t1307.length co34) : Value).ownBlock ∧ some k_ ≠ ((.slice Ao38 t1313.length co38) : Value).ownBlock ∧ some k_ ≠ ((.slice Ao43 t1319.length co43) : Value).ownBlock ∧ some k_ ≠ ((.slice Ao49 t1327.length co49) : Value).ownBlock ∧ some k_ ≠ ((.slice Ao55 t1333.length co55) : Value).ownBlock) (.slice Ao30 t1301.length co30) t1301) ∧ Aside0 (Kd.R k72 72 wc w.heap.size (fun k_ => some k_ ≠ ((.slice Ao42 t1316.length co42) : Value).ownBlock ∧ some k_ ≠ ((.slice Ao54 t1330.length co54) : Value).ownBlock) (.slice Ao33 t1304.length co33) t1304) ∧ Aside0 (Kd.R Kd.string 9 wc w.heap.size (fun k_ => some k_ ≠ ((.slice Ao30 t1301.length co30) : Value).ownBlock ∧ some k_ ≠ ((.slice Ao38 t1313.length co38) : Value).ownBlock ∧ some k_ ≠ ((.slice Ao43 t1319.length co43) : Value).ownBlock ∧ some k_ ≠ ((.slice Ao49 t1327.length co49) : Value).ownBlock ∧ some k_ ≠ ((.slice Ao55 t1333.length co55) : Value).ownBlock) (.slice Ao34 t1307.length co34) t1307) ∧ Aside0 (Kd.R Kd.string 9 wc w.heap.size (fun k_ => some k_ ≠ ((.slice Ao30 t1301.length co30) : Value).ownBlock ∧ some k_ ≠ ((.slice Ao34 t1307.length co34) : Value).ownBlock ∧ some k_ ≠ ((.slice Ao43 t1319.length co43) : Value).ownBlock ∧ some k_ ≠ ((.slice Ao49 t1327.length co49) : Value).ownBlock ∧ some k_ ≠ ((.slice Ao55 t1333.length co55) : Value).ownBlock) (.slice Ao38 t1313.length co38) t1313) ∧ Aside0 (Kd.R k72 72 wc w.heap.size (fun k_ => some k_ ≠ ((.slice Ao33 t1304.length co33) : Value).ownBlock ∧ some k_ ≠ ((.slice Ao54 t1330.length co54) : Value).ownBlock) (.slice Ao42 t1316.length co42) t1316) ∧ Aside0 (Kd.R Kd.string 9 wc w.heap.size (fun k_ => some k_ ≠ ((.slice Ao30 t1301.length co30) : Value).ownBlock ∧ some k_ ≠ ((.slice Ao34 t1307.length co34) : Value).ownBlock ∧ some k_ ≠ ((.slice Ao38 t1313.length co38) : Value).ownBlock ∧ some k_ ≠ ((.slice Ao49 t1327.length co49) : Value).ownBlock ∧ some k_ ≠ ((.slice Ao55 t1333.length co55) : Value).ownBlock) (.slice Ao43 t1319.length co43) t1319) ∧ Aside0 (Kd.R Kd.string 9 wc w.heap.size (fun k_ => some k_ ≠ ((.slice Ao30 t1301.length co30) : Value).ownBlock ∧ some k_ ≠ ((.slice Ao34 t1307.length co34) : Value).ownBlock ∧ some k_ ≠ ((.slice Ao38 t1313.length co38) : Value).ownBlock ∧ some k_ ≠ ((.slice Ao43 t1319.length co43) : Value).ownBlock ∧ some k_ ≠ ((.slice Ao55 t1333.length co55) : Value).ownBlock) (.slice Ao49 t1327.length co49) t1327) ∧ Aside0 (Kd.R k72 72 wc w.heap.size (fun k_ => some k_ ≠ ((.slice Ao33 t1304.length co33) : Value).ownBlock ∧ some k_ ≠ ((.slice Ao42 t1316.length co42) : Value).ownBlock) (.slice Ao54 t1330.length co54) t1330) ∧ Aside0 (Kd.R Kd.string 9 wc w.heap.size (fun k_ => some k_ ≠ ((.slice Ao30 t1301.length co30) : Value).ownBlock ∧ some k_ ≠ ((.slice Ao34 t1307.length co34) : Value).ownBlock ∧ some k_ ≠ ((.slice Ao38 t1313.length co38) : Value).ownBlock ∧ some k_ ≠ ((.slice Ao43 t1319.length co43) : Value).ownBlock ∧ some k_ ≠ ((.slice Ao49 t1327.length co49) : Value).ownBlock) (.slice Ao55 t1333.length co55) t1333) ∧ Aside0 (wc.heap[gb1286]? = some (.cells #[(.slice A0_0 l0_0.length c0_0), (.slice A0_1 l0_1.length c0_1), (.slice A0_2 l0_2.length c0_2), .int .i64 a0_3] 38 (0, 0))) ∧ Aside0 (wc.heap[gb1312]? = some (.cells #[(.slice Ao30 t1301.length co30), (.slice Ao33 t1304.length co33), (.slice Ao34 t1307.length co34), .int .i64 t1310] 44 (0, 0))) ∧ Aside0 (wc.heap[gb1323]? = some (.cells #[(.slice Ao38 t1313.length co38), (.slice Ao42 t1316.length co42), (.slice Ao43 t1319.length co43), .int .i64 t1322] 44 (0, 0))) ∧ Aside0 (wc.heap[gb1338]? = some (.cells #[(.slice Ao49 t1327.length co49), (.slice Ao54 t1330.length co54), (.slice Ao55 t1333.length co55), .int .i64 t1336] 44 (0, 0))) ∧ Aside0 (Below w.heap.size w wc))
   case first =>
    have H := HC17.out
    clear HC17
    replace H := Option.bind_eq_some_iff.mp H
    obtain ⟨t1339, A560, H⟩ := H
    replace H : (if t1339 = true then (laws_FnExactCrashStore.j0 k l1 a2 t1311 t1324 t1337 (t1337 != t1311) l0_0 l0_1 l0_2 a0_3 t1301 t1304 t1307 t1310 t1313 t1316 t1319 t1322 t1327 t1330 t1333 t1336) else (laws_FnExactCrashStore.j0 k l1 a2 t1311 t1324 t1337 true l0_0 l0_1 l0_2 a0_3 t1301 t1304 t1307 t1310 t1313 t1316 t1319 t1322 t1327 t1330 t1333 t1336)) = some r := H
    have A56 := Aside0.mk A560
    clear A560
    by_cases c57 : t1339 = true
    ·
     subst c57
     rw [if_pos rfl] at H
     have H' := Aside0.mk H
     clear H
     have hnb58 := NB1338_1286.out
     have hnc58 := NB1286_1338.out
     have hnb59 := NB1338_1312.out
     have hnc59 := NB1312_1338.out
     have hnb60 := NB1338_1323.out
     have hnc60 := NB1323_1338.out
     obtain ⟨hcz61_0, hcz61_1, hcz61_2, hcz61_3⟩ := cz4 BK1338
     obtain ⟨hfz61_0, hfz61_1, hfz61_2, hfz61_3⟩ := fz4 BK1338
     have hnb62 := NB1312_1286.out
     have hnc62 := NB1286_1312.out
     have hnb63 := NB1312_1323.out
     have hnc63 := NB1323_1312.out
     obtain ⟨hcz64_0, hcz64_1, hcz64_2, hcz64_3⟩ := cz4 BK1312
     obtain ⟨hfz64_0, hfz64_1, hfz64_2, hfz64_3⟩ := fz4 BK1312
     go_wp2_with (first | ((with_reducible refine gate_callee (f := 29) rfl ?_); refine gL (some 49) rfl rfl Try.func29 (by kernel_rfl) rfl #[.agg #[.slice Ao49 t1327.length co49, .slice Ao54 t1330.length co54, .slice Ao55 t1333.length co55, .int .i64 t1336], .agg #[.slice Ao30 t1301.length co30, .slice Ao33 t1304.length co33, .slice Ao34 t1307.length co34, .int .i64 t1310]] rfl ?_; (with_reducible refine (laws_eqStore.calls k _ _ t1327 _ _ t1330 _ _ t1333 t1336 _ _ t1301 _ _ t1304 _ _ t1307 t1310 true _ ?side1 ?side2 ?side3 ?side4 ?side5 ?side6 ?side7 ?side8 ?side9 ?side10 ?side11 ?side12 A56.out).mono ?_); (case side1 => exact rc HO1329 BK1338); (case side2 => exact (Kd.R_reads' HO1329.out).2.1); (case side3 => exact rc HO1332 BK1338); (case side4 => exact (Kd.R_reads' HO1332.out).2.1); (case side5 => exact rc HO1335 BK1338); (case side6 => exact (Kd.R_reads' HO1335.out).2.1); (case side7 => exact rc HO1303 BK1338); (case side8 => exact (Kd.R_reads' HO1303.out).2.1); (case side9 => exact rc HO1306 BK1338); (case side10 => exact (Kd.R_reads' HO1306.out).2.1); (case side11 => exact rc HO1309 BK1338); (case side12 => exact (Kd.R_reads' HO1309.out).2.1); rintro e w65 ⟨rfl, hb⟩; refine ⟨_, rfl, ?_⟩; replace HO1290 := nf HO1290 BK1338 hb; replace HO1293 := nf HO1293 BK1338 hb; replace HO1296 := nf HO1296 BK1338 hb; replace HO1300 := nf HO1300 BK1338 hb; replace HO1303 := nf HO1303 BK1338 hb; replace HO1306 := nf HO1306 BK1338 hb; replace HO1309 := nf HO1309 BK1338 hb; replace HO1315 := nf HO1315 BK1338 hb; replace HO1318 := nf HO1318 BK1338 hb; replace HO1321 := nf HO1321 BK1338 hb; replace HO1326 := nf HO1326 BK1338 hb; replace HO1329 := nf HO1329 BK1338 hb; replace HO1332 := nf HO1332 BK1338 hb; replace HO1335 := nf HO1335 BK1338 hb; replace BK1286 := Aside0.mk (blk_below (bf BK1286 NB1286_1338) hb); replace BK1312 := Aside0.mk (blk_below (bf BK1312 NB1312_1338) hb); replace BK1323 := Aside0.mk (blk_below (bf BK1323 NB1323_1338) hb); replace BK1338 := Aside0.mk (blk_below (g := gb1338) (o := .cells #[.slice Ao49 t1327.length co49, .slice Ao54 t1330.length co54, .slice Ao55 t1333.length co55, .int .i64 t1336] 44 (0, 0)) (by (with_reducible repeat (first | refine blk_drewN ?_ _ | refine blk_drew ?_ | refine blk_alloc ?_ _)); refine blk_put (cs := #[.slice Ao49 t1327.length co49, .slice Ao54 t1330.length co54, .slice Ao55 t1333.length co55, .int .i64 0]) ?_ 3 _ rfl; (with_reducible repeat (first | refine blk_drewN ?_ _ | refine blk_drew ?_ | refine blk_alloc ?_ _)); refine blk_put (cs := #[.slice Ao49 t1327.length co49, .slice Ao54 t1330.length co54, .slice none 0 0, .int .i64 0]) ?_ 2 _ rfl; (with_reducible repeat (first | refine blk_drewN ?_ _ | refine blk_drew ?_ | refine blk_alloc ?_ _)); refine blk_put (cs := #[.slice Ao49 t1327.length co49, .slice none 0 0, .slice none 0 0, .int .i64 0]) ?_ 1 _ rfl; (with_reducible repeat (first | refine blk_drewN ?_ _ | refine blk_drew ?_ | refine blk_alloc ?_ _)); refine blk_put (cs := #[.slice none 0 0, .slice none 0 0, .slice none 0 0, .int .i64 0]) ?_ 0 _ rfl; (with_reducible repeat (first | refine blk_drewN ?_ _ | refine blk_drew ?_ | refine blk_alloc ?_ _)); exact BK1338.out) hb); replace HB := Aside0.mk (below_step (bs4 HB GE1286 GE1312 GE1323 GE1338) hb); (try clear hb); (try clear hb2); (try clear hk); (try clear hi)))
     go_meet
     case rel => exact ⟨_, ((t1337 != t1311)), (by first | rfl | (simp; done) | (simp [*]; done)), H', ⟨by first | omega | exact Nat.le_refl _⟩, rm HO1326 (fun _ hk => trivial), rm HO1303 (fun _ hk => ⟨hk.1.1.1.1.1.1, ⟨hk.1.1.1.2, ⟨hk.1.1.2, ⟨hk.1.2, hk.2⟩⟩⟩⟩), rm HO1306 (fun _ hk => ⟨hk.1.2, hk.2⟩), rm HO1309 (fun _ hk => ⟨hk.1.1.1.1.1.1, ⟨hk.1.1.1.2, ⟨hk.1.1.2, ⟨hk.1.2, hk.2⟩⟩⟩⟩), rm HO1315 (fun _ hk => ⟨hk.1.1.1.2, ⟨hk.1.1.2, ⟨hk.1.1.1.1.1.1, ⟨hk.1.2, hk.2⟩⟩⟩⟩), rm HO1318 (fun _ hk => ⟨hk.1.2, hk.2⟩), rm HO1321 (fun _ hk => ⟨hk.1.1.1.2, ⟨hk.1.1.2, ⟨hk.1.1.1.1.1.1, ⟨hk.1.2, hk.2⟩⟩⟩⟩), rm HO1329 (fun _ hk => ⟨hk.1.1.1.2, ⟨hk.1.1.2, ⟨hk.1.2, ⟨hk.2, hk.1.1.1.1.1.1⟩⟩⟩⟩), rm HO1332 (fun _ hk => ⟨hk.1.2, hk.2⟩), rm HO1335 (fun _ hk => ⟨hk.1.1.1.2, ⟨hk.1.1.2, ⟨hk.1.2, ⟨hk.2, hk.1.1.1.1.1.1⟩⟩⟩⟩), ⟨bk BK1286⟩, ⟨bk BK1312⟩, ⟨bk BK1323⟩, ⟨bk BK1338⟩, ⟨bs4 HB GE1286 GE1312 GE1323 GE1338⟩⟩
    ·
     replace c57 := Bool.eq_false_iff.mpr c57
     subst c57
     rw [if_neg (show ¬ (false = true) by decide)] at H
     have H' := Aside0.mk H
     clear H
     have hnb66 := NB1338_1286.out
     have hnc66 := NB1286_1338.out
     have hnb67 := NB1338_1312.out
     have hnc67 := NB1312_1338.out
     have hnb68 := NB1338_1323.out
     have hnc68 := NB1323_1338.out
     obtain ⟨hcz69_0, hcz69_1, hcz69_2, hcz69_3⟩ := cz4 BK1338
     obtain ⟨hfz69_0, hfz69_1, hfz69_2, hfz69_3⟩ := fz4 BK1338
     have hnb70 := NB1312_1286.out
     have hnc70 := NB1286_1312.out
     have hnb71 := NB1312_1323.out
     have hnc71 := NB1323_1312.out
     obtain ⟨hcz72_0, hcz72_1, hcz72_2, hcz72_3⟩ := cz4 BK1312
     obtain ⟨hfz72_0, hfz72_1, hfz72_2, hfz72_3⟩ := fz4 BK1312
     go_wp2_with (first | ((with_reducible refine gate_callee (f := 29) rfl ?_); refine gL (some 49) rfl rfl Try.func29 (by kernel_rfl) rfl #[.agg #[.slice Ao49 t1327.length co49, .slice Ao54 t1330.length co54, .slice Ao55 t1333.length co55, .int .i64 t1336], .agg #[.slice Ao30 t1301.length co30, .slice Ao33 t1304.length co33, .slice Ao34 t1307.length co34, .int .i64 t1310]] rfl ?_; (with_reducible refine (laws_eqStore.calls k _ _ t1327 _ _ t1330 _ _ t1333 t1336 _ _ t1301 _ _ t1304 _ _ t1307 t1310 false _ ?side1 ?side2 ?side3 ?side4 ?side5 ?side6 ?side7 ?side8 ?side9 ?side10 ?side11 ?side12 A56.out).mono ?_); (case side1 => exact rc HO1329 BK1338); (case side2 => exact (Kd.R_reads' HO1329.out).2.1); (case side3 => exact rc HO1332 BK1338); (case side4 => exact (Kd.R_reads' HO1332.out).2.1); (case side5 => exact rc HO1335 BK1338); (case side6 => exact (Kd.R_reads' HO1335.out).2.1); (case side7 => exact rc HO1303 BK1338); (case side8 => exact (Kd.R_reads' HO1303.out).2.1); (case side9 => exact rc HO1306 BK1338); (case side10 => exact (Kd.R_reads' HO1306.out).2.1); (case side11 => exact rc HO1309 BK1338); (case side12 => exact (Kd.R_reads' HO1309.out).2.1); rintro e w73 ⟨rfl, hb⟩; refine ⟨_, rfl, ?_⟩; replace HO1290 := nf HO1290 BK1338 hb; replace HO1293 := nf HO1293 BK1338 hb; replace HO1296 := nf HO1296 BK1338 hb; replace HO1300 := nf HO1300 BK1338 hb; replace HO1303 := nf HO1303 BK1338 hb; replace HO1306 := nf HO1306 BK1338 hb; replace HO1309 := nf HO1309 BK1338 hb; replace HO1315 := nf HO1315 BK1338 hb; replace HO1318 := nf HO1318 BK1338 hb; replace HO1321 := nf HO1321 BK1338 hb; replace HO1326 := nf HO1326 BK1338 hb; replace HO1329 := nf HO1329 BK1338 hb; replace HO1332 := nf HO1332 BK1338 hb; replace HO1335 := nf HO1335 BK1338 hb; replace BK1286 := Aside0.mk (blk_below (bf BK1286 NB1286_1338) hb); replace BK1312 := Aside0.mk (blk_below (bf BK1312 NB1312_1338) hb); replace BK1323 := Aside0.mk (blk_below (bf BK1323 NB1323_1338) hb); replace BK1338 := Aside0.mk (blk_below (g := gb1338) (o := .cells #[.slice Ao49 t1327.length co49, .slice Ao54 t1330.length co54, .slice Ao55 t1333.length co55, .int .i64 t1336] 44 (0, 0)) (by (with_reducible repeat (first | refine blk_drewN ?_ _ | refine blk_drew ?_ | refine blk_alloc ?_ _)); refine blk_put (cs := #[.slice Ao49 t1327.length co49, .slice Ao54 t1330.length co54, .slice Ao55 t1333.length co55, .int .i64 0]) ?_ 3 _ rfl; (with_reducible repeat (first | refine blk_drewN ?_ _ | refine blk_drew ?_ | refine blk_alloc ?_ _)); refine blk_put (cs := #[.slice Ao49 t1327.length co49, .slice Ao54 t1330.length co54, .slice none 0 0, .int .i64 0]) ?_ 2 _ rfl; (with_reducible repeat (first | refine blk_drewN ?_ _ | refine blk_drew ?_ | refine blk_alloc ?_ _)); refine blk_put (cs := #[.slice Ao49 t1327.length co49, .slice none 0 0, .slice none 0 0, .int .i64 0]) ?_ 1 _ rfl; (with_reducible repeat (first | refine blk_drewN ?_ _ | refine blk_drew ?_ | refine blk_alloc ?_ _)); refine blk_put (cs := #[.slice none 0 0, .slice none 0 0, .slice none 0 0, .int .i64 0]) ?_ 0 _ rfl; (with_reducible repeat (first | refine blk_drewN ?_ _ | refine blk_drew ?_ | refine blk_alloc ?_ _)); exact BK1338.out) hb); replace HB := Aside0.mk (below_step (bs4 HB GE1286 GE1312 GE1323 GE1338) hb); (try clear hb); (try clear hb2); (try clear hk); (try clear hi)))
     go_meet
     case rel => exact ⟨_, (true), (by first | rfl | (simp; done) | (simp [*]; done)), H', ⟨by first | omega | exact Nat.le_refl _⟩, rm HO1326 (fun _ hk => trivial), rm HO1303 (fun _ hk => ⟨hk.1.1.1.1.1.1, ⟨hk.1.1.1.2, ⟨hk.1.1.2, ⟨hk.1.2, hk.2⟩⟩⟩⟩), rm HO1306 (fun _ hk => ⟨hk.1.2, hk.2⟩), rm HO1309 (fun _ hk => ⟨hk.1.1.1.1.1.1, ⟨hk.1.1.1.2, ⟨hk.1.1.2, ⟨hk.1.2, hk.2⟩⟩⟩⟩), rm HO1315 (fun _ hk => ⟨hk.1.1.1.2, ⟨hk.1.1.2, ⟨hk.1.1.1.1.1.1, ⟨hk.1.2, hk.2⟩⟩⟩⟩), rm HO1318 (fun _ hk => ⟨hk.1.2, hk.2⟩), rm HO1321 (fun _ hk => ⟨hk.1.1.1.2, ⟨hk.1.1.2, ⟨hk.1.1.1.1.1.1, ⟨hk.1.2, hk.2⟩⟩⟩⟩), rm HO1329 (fun _ hk => ⟨hk.1.1.1.2, ⟨hk.1.1.2, ⟨hk.1.2, ⟨hk.2, hk.1.1.1.1.1.1⟩⟩⟩⟩), rm HO1332 (fun _ hk => ⟨hk.1.2, hk.2⟩), rm HO1335 (fun _ hk => ⟨hk.1.1.1.2, ⟨hk.1.1.2, ⟨hk.1.2, ⟨hk.2, hk.1.1.1.1.1.1⟩⟩⟩⟩), ⟨bk BK1286⟩, ⟨bk BK1312⟩, ⟨bk BK1323⟩, ⟨bk BK1338⟩, ⟨bs4 HB GE1286 GE1312 GE1323 GE1338⟩⟩
   case rest =>
    clear HC17
    try clear c1
    try clear c2
    try clear p2
    try clear c3
    try clear c4
    try clear c4b0
    try clear c4b1
    try clear c5
    try clear c6
    try clear c7
    try clear c7b0
    try clear c13
    try clear c25
    try clear c27
    try clear c29
    try clear c31
    try clear c39
    try clear c40
    try clear c49
    try clear c50
    try clear c51
    try clear c52
    try clear c57
    try clear c58
    try clear c59
    try clear c60
    try clear c62
    try clear c63
    try clear c66
    try clear c67
    try clear c68
    try clear c70
    try clear c71
    try clear hcz19_0 hcz19_1 hcz19_2 hcz19_3
    try clear hcz21_0 hcz21_1 hcz21_2 hcz21_3
    try clear hcz32_0 hcz32_1 hcz32_2 hcz32_3
    try clear hcz35_0 hcz35_1 hcz35_2 hcz35_3
    try clear hcz41_0 hcz41_1 hcz41_2 hcz41_3
    try clear hcz45_0 hcz45_1 hcz45_2 hcz45_3
    try clear hcz53_0 hcz53_1 hcz53_2 hcz53_3
    try clear hcz61_0 hcz61_1 hcz61_2 hcz61_3
    try clear hcz64_0 hcz64_1 hcz64_2 hcz64_3
    try clear hcz69_0 hcz69_1 hcz69_2 hcz69_3
    try clear hcz72_0 hcz72_1 hcz72_2 hcz72_3
    try clear hcz9_0 hcz9_1 hcz9_2 hcz9_3
    try clear hfz19_0 hfz19_1 hfz19_2 hfz19_3
    try clear hfz21_0 hfz21_1 hfz21_2 hfz21_3
    try clear hfz32_0 hfz32_1 hfz32_2 hfz32_3
    try clear hfz35_0 hfz35_1 hfz35_2 hfz35_3
    try clear hfz41_0 hfz41_1 hfz41_2 hfz41_3
    try clear hfz45_0 hfz45_1 hfz45_2 hfz45_3
    try clear hfz53_0 hfz53_1 hfz53_2 hfz53_3
    try clear hfz61_0 hfz61_1 hfz61_2 hfz61_3
    try clear hfz64_0 hfz64_1 hfz64_2 hfz64_3
    try clear hfz69_0 hfz69_1 hfz69_2 hfz69_3
    try clear hfz72_0 hfz72_1 hfz72_2 hfz72_3
    try clear hfz9_0 hfz9_1 hfz9_2 hfz9_3
    obtain ⟨kq, x55_16, rfl, HA, HJ16, HO_11, HO_1313000, HO_1313001, HO_1313002, HO_1324000, HO_1324001, HO_1324002, HO_1339000, HO_1339001, HO_1339002, BK1286, BK1312, BK1323, BK1338, HB⟩ := hcut
    cases kq with
    | zero => exact absurd HA.out (by simp [laws_FnExactCrashStore.j0])
    | succ kj16 =>
     have H := HA.out
     clear HA
     simp only [laws_FnExactCrashStore.j0] at H
     by_cases c74 : x55_16 = true
     ·
      subst c74
      rw [if_pos rfl] at H
      obtain rfl := Option.some.inj H
      go_wp2
      go_ret
      exact ⟨by first | rfl | (simp [errW_none, errW_some] <;> rfl) | (simp [*, errW_none, errW_some] <;> rfl), bs4 HB GE1286 GE1312 GE1323 GE1338⟩
     ·
      replace c74 := Bool.eq_false_iff.mpr c74
      subst c74
      rw [if_neg (show ¬ (false = true) by decide)] at H
      replace H := Option.bind_eq_some_iff.mp H
      obtain ⟨⟨t1340, t1343, t1346, t1349⟩, A750, H⟩ := H
      replace H : ((laws_eqStore.f kj16 t1313 t1316 t1319 t1322 t1340 t1343 t1346 t1349).bind fun t1350 => (if t1350 = true then ((laws_toBoolS.f kj16 l1).bind fun t1351 => ((laws_eqBoolS.f kj16 t1324 t1351).bind fun t1354 => (if t1354 = true then ((laws_markStore.f kj16 t1313 t1316 t1319 t1322 1).bind fun bt1355 => ((laws_markBoolS.f kj16 t1324 bt1355.1).bind fun bt1359 => (if bt1359.1 < 0 then (laws_FnExactCrashStore.j1 kj16 l1 a2 t1311 true l0_0 l0_1 l0_2 a0_3 t1301 t1304 t1307 t1310 t1327 t1330 t1333 t1336) else ((laws_eqStore.f kj16 t1327 t1330 t1333 t1336 t1301 t1304 t1307 t1310).bind fun t1361 => (if t1361 = true then (laws_FnExactCrashStore.j1 kj16 l1 a2 t1311 (t1337 != t1311) l0_0 l0_1 l0_2 a0_3 t1301 t1304 t1307 t1310 t1327 t1330 t1333 t1336) else (laws_FnExactCrashStore.j1 kj16 l1 a2 t1311 true l0_0 l0_1 l0_2 a0_3 t1301 t1304 t1307 t1310 t1327 t1330 t1333 t1336)))))) else (some false)))) else (some false))) = some r := H
      have A75 := Aside0.mk A750
      clear A750
      replace H := Option.bind_eq_some_iff.mp H
      obtain ⟨t1350, A760, H⟩ := H
      replace H : (if t1350 = true then ((laws_toBoolS.f kj16 l1).bind fun t1351 => ((laws_eqBoolS.f kj16 t1324 t1351).bind fun t1354 => (if t1354 = true then ((laws_markStore.f kj16 t1313 t1316 t1319 t1322 1).bind fun bt1355 => ((laws_markBoolS.f kj16 t1324 bt1355.1).bind fun bt1359 => (if bt1359.1 < 0 then (laws_FnExactCrashStore.j1 kj16 l1 a2 t1311 true l0_0 l0_1 l0_2 a0_3 t1301 t1304 t1307 t1310 t1327 t1330 t1333 t1336) else ((laws_eqStore.f kj16 t1327 t1330 t1333 t1336 t1301 t1304 t1307 t1310).bind fun t1361 => (if t1361 = true then (laws_FnExactCrashStore.j1 kj16 l1 a2 t1311 (t1337 != t1311) l0_0 l0_1 l0_2 a0_3 t1301 t1304 t1307 t1310 t1327 t1330 t1333 t1336) else (laws_FnExactCrashStore.j1 kj16 l1 a2 t1311 true l0_0 l0_1 l0_2 a0_3 t1301 t1304 t1307 t1310 t1327 t1330 t1333 t1336)))))) else (some false)))) else (some false)) = some r := H
      have A76 := Aside0.mk A760
      clear A760
      by_cases c77 : t1350 = true
      ·
       subst c77
       rw [if_pos rfl] at H
       replace H := Option.bind_eq_some_iff.mp H
       obtain ⟨t1351, A780, H⟩ := H
       replace H : ((laws_eqBoolS.f kj16 t1324 t1351).bind fun t1354 => (if t1354 = true then ((laws_markStore.f kj16 t1313 t1316 t1319 t1322 1).bind fun bt1355 => ((laws_markBoolS.f kj16 t1324 bt1355.1).bind fun bt1359 => (if bt1359.1 < 0 then (laws_FnExactCrashStore.j1 kj16 l1 a2 t1311 true l0_0 l0_1 l0_2 a0_3 t1301 t1304 t1307 t1310 t1327 t1330 t1333 t1336) else ((laws_eqStore.f kj16 t1327 t1330 t1333 t1336 t1301 t1304 t1307 t1310).bind fun t1361 => (if t1361 = true then (laws_FnExactCrashStore.j1 kj16 l1 a2 t1311 (t1337 != t1311) l0_0 l0_1 l0_2 a0_3 t1301 t1304 t1307 t1310 t1327 t1330 t1333 t1336) else (laws_FnExactCrashStore.j1 kj16 l1 a2 t1311 true l0_0 l0_1 l0_2 a0_3 t1301 t1304 t1307 t1310 t1327 t1330 t1333 t1336)))))) else (some false))) = some r := H
       have A78 := Aside0.mk A780
       clear A780
       replace H := Option.bind_eq_some_iff.mp H
       obtain ⟨t1354, A790, H⟩ := H
       replace H : (if t1354 = true then ((laws_markStore.f kj16 t1313 t1316 t1319 t1322 1).bind fun bt1355 => ((laws_markBoolS.f kj16 t1324 bt1355.1).bind fun bt1359 => (if bt1359.1 < 0 then (laws_FnExactCrashStore.j1 kj16 l1 a2 t1311 true l0_0 l0_1 l0_2 a0_3 t1301 t1304 t1307 t1310 t1327 t1330 t1333 t1336) else ((laws_eqStore.f kj16 t1327 t1330 t1333 t1336 t1301 t1304 t1307 t1310).bind fun t1361 => (if t1361 = true then (laws_FnExactCrashStore.j1 kj16 l1 a2 t1311 (t1337 != t1311) l0_0 l0_1 l0_2 a0_3 t1301 t1304 t1307 t1310 t1327 t1330 t1333 t1336) else (laws_FnExactCrashStore.j1 kj16 l1 a2 t1311 true l0_0 l0_1 l0_2 a0_3 t1301 t1304 t1307 t1310 t1327 t1330 t1333 t1336)))))) else (some false)) = some r := H
       have A79 := Aside0.mk A790
       clear A790
       by_cases c80 : t1354 = true
       ·
        subst c80
        rw [if_pos rfl] at H
        replace H := Option.bind_eq_some_iff.mp H
        obtain ⟨⟨t1355, t1356, t1357, t1358⟩, A810, H⟩ := H
        replace H : ((laws_markBoolS.f kj16 t1324 t1355).bind fun bt1359 => (if bt1359.1 < 0 then (laws_FnExactCrashStore.j1 kj16 l1 a2 t1311 true l0_0 l0_1 l0_2 a0_3 t1301 t1304 t1307 t1310 t1327 t1330 t1333 t1336) else ((laws_eqStore.f kj16 t1327 t1330 t1333 t1336 t1301 t1304 t1307 t1310).bind fun t1361 => (if t1361 = true then (laws_FnExactCrashStore.j1 kj16 l1 a2 t1311 (t1337 != t1311) l0_0 l0_1 l0_2 a0_3 t1301 t1304 t1307 t1310 t1327 t1330 t1333 t1336) else (laws_FnExactCrashStore.j1 kj16 l1 a2 t1311 true l0_0 l0_1 l0_2 a0_3 t1301 t1304 t1307 t1310 t1327 t1330 t1333 t1336))))) = some r := H
        have A81 := Aside0.mk A810
        clear A810
        replace H := Option.bind_eq_some_iff.mp H
        obtain ⟨⟨t1359, t1360⟩, A820, H⟩ := H
        replace H : (if t1359 < 0 then (laws_FnExactCrashStore.j1 kj16 l1 a2 t1311 true l0_0 l0_1 l0_2 a0_3 t1301 t1304 t1307 t1310 t1327 t1330 t1333 t1336) else ((laws_eqStore.f kj16 t1327 t1330 t1333 t1336 t1301 t1304 t1307 t1310).bind fun t1361 => (if t1361 = true then (laws_FnExactCrashStore.j1 kj16 l1 a2 t1311 (t1337 != t1311) l0_0 l0_1 l0_2 a0_3 t1301 t1304 t1307 t1310 t1327 t1330 t1333 t1336) else (laws_FnExactCrashStore.j1 kj16 l1 a2 t1311 true l0_0 l0_1 l0_2 a0_3 t1301 t1304 t1307 t1310 t1327 t1330 t1333 t1336)))) = some r := H
        have A82 := Aside0.mk A820
        clear A820
        have HC83 := Aside0.mk H
        clear H
        try go_wp2
        have n0_ := Aside0.mk (Kd.R_drew HO_11.out)
        have n1_ := Aside0.mk (Kd.R_drew HO_1313000.out)
        have n2_ := Aside0.mk (Kd.R_drew HO_1313001.out)
        have n3_ := Aside0.mk (Kd.R_drew HO_1313002.out)
        have n4_ := Aside0.mk (Kd.R_drew HO_1324000.out)
        have n5_ := Aside0.mk (Kd.R_drew HO_1324001.out)
        have n6_ := Aside0.mk (Kd.R_drew HO_1324002.out)
        have n7_ := Aside0.mk (Kd.R_drew HO_1339000.out)
        have n8_ := Aside0.mk (Kd.R_drew HO_1339001.out)
        have n9_ := Aside0.mk (Kd.R_drew HO_1339002.out)
        have n10_ := Aside0.mk (blk_drew BK1286.out)
        have n11_ := Aside0.mk (blk_drew BK1312.out)
        have n12_ := Aside0.mk (blk_drew BK1323.out)
        have n13_ := Aside0.mk (blk_drew BK1338.out)
        have n14_ := Aside0.mk (below_drew1 HB.out)
        clear HO_11
        clear HO_1313000
        clear HO_1313001
        clear HO_1313002
        clear HO_1324000
        clear HO_1324001
        clear HO_1324002
        clear HO_1339000
        clear HO_1339001
        clear HO_1339002
        clear BK1286
        clear BK1312
        clear BK1323
        clear BK1338
        clear HB
        have HO_11 := n0_
        have HO_1313000 := n1_
        have HO_1313001 := n2_
        have HO_1313002 := n3_
        have HO_1324000 := n4_
        have HO_1324001 := n5_
        have HO_1324002 := n6_
        have HO_1339000 := n7_
        have HO_1339001 := n8_
        have HO_1339002 := n9_
        have BK1286 := n10_
        have BK1312 := n11_
        have BK1323 := n12_
        have BK1338 := n13_
        have HB := n14_
        clear n0_ n1_ n2_ n3_ n4_ n5_ n6_ n7_ n8_ n9_ n10_ n11_ n12_ n13_ n14_
        refine start_ (n := 5) (S := fun w' => w'.cell? ⟨gb1323, 0, none⟩ = some (.slice Ao38 t1313.length co38) ∧ w'.cell? ⟨gb1323, 1, none⟩ = some (.slice Ao42 t1316.length co42) ∧ w'.cell? ⟨gb1323, 2, none⟩ = some (.slice Ao43 t1319.length co43) ∧ w'.cell? ⟨gb1323, 3, none⟩ = some (.int .i64 t1322) ∧ w'.cell? ⟨gb1286, 0, none⟩ = some (.slice A0_0 l0_0.length c0_0) ∧ w'.cell? ⟨gb1286, 1, none⟩ = some (.slice A0_1 l0_1.length c0_1) ∧ w'.cell? ⟨gb1286, 2, none⟩ = some (.slice A0_2 l0_2.length c0_2) ∧ w'.cell? ⟨gb1286, 3, none⟩ = some (.int .i64 a0_3)) (ds := []) #[false, false, false, false, false] (by kernel_rfl) rfl rfl ⟨(blk_cell BK1323.out 0).trans rfl, (blk_cell BK1323.out 1).trans rfl, (blk_cell BK1323.out 2).trans rfl, (blk_cell BK1323.out 3).trans rfl, (blk_cell BK1286.out 0).trans rfl, (blk_cell BK1286.out 1).trans rfl, (blk_cell BK1286.out 2).trans rfl, (blk_cell BK1286.out 3).trans rfl⟩ (fun hHeld => ?_)
        generalize wc.drew = w84 at HO_11 HO_1313000 HO_1313001 HO_1313002 HO_1324000 HO_1324001 HO_1324002 HO_1339000 HO_1339001 HO_1339002 BK1286 BK1312 BK1323 BK1338 HB hHeld ⊢
        refine take_ (i := 0) (N := some 56) (v := ?_) (a' := ?_) #[true, false, false, false, false] rfl rfl (by kernel_rfl) (fun _ _ _ h => h) (Or.inl ⟨by rfl, ?_⟩) hHeld ?_ ?_
        rotate_left
        ·
         rintro w' ⟨s0, s1, s2, s3, s4, s5, s6, s7⟩
         go_simp
         with_reducible rfl
        rotate_left
        ·
         simp only [Act.put, List.setIfInBounds_toArray, List.set_cons_zero, List.set_cons_succ, i64_w, i32_w]
         rfl
        refine take_ (i := 1) (N := some 57) (v := ?_) (a' := ?_) #[true, true, false, false, false] rfl rfl (by kernel_rfl) (fun _ _ _ h => h) (Or.inl ⟨by rfl, ?_⟩) hHeld ?_ ?_
        rotate_left
        ·
         rintro w' ⟨s0, s1, s2, s3, s4, s5, s6, s7⟩
         go_simp
         with_reducible rfl
        rotate_left
        ·
         simp only [Act.put, List.setIfInBounds_toArray, List.set_cons_zero, List.set_cons_succ, i64_w, i32_w]
         rfl
        refine one_ (i := 2) (N := some 58) #[true, true, true, false, false] rfl rfl (by kernel_rfl) (by decide) (fun K hK => ?_)
        refine goes_ Try.func27 (by kernel_rfl) rfl #[.agg #[.slice A0_0 l0_0.length c0_0, .slice A0_1 l0_1.length c0_1, .slice A0_2 l0_2.length c0_2, .int .i64 a0_3]] (by rfl) rfl rfl (by (try simp only [List.map_toArray, List.map_cons, List.map_nil]); first | done | rfl | (simp only [List.length_drop, List.length_take]; rfl)) ?_
        with_reducible refine (laws_toStore.calls kj16 _ _ l0_0 _ _ l0_1 _ _ l0_2 a0_3 t1340 t1343 t1346 t1349 _ ?side1 ?side2 ?side3 ?side4 ?side5 ?side6 A75.out).mono ?_
        (case side1 => exact cb HR0_0 HB)
        (case side2 => exact HC0_0.out)
        (case side3 => exact cb HR0_1 HB)
        (case side4 => exact HC0_1.out)
        (case side5 => exact cb HR0_2 HB)
        (case side6 => exact HC0_2.out)
        rintro e w85 ⟨v1341, v1344, v1347, rfl, ho0, ho1, ho2, hb⟩
        refine ⟨_, rfl, ?_⟩
        have n0_ := Aside0.mk (Kd.R_below (rr HO_11.out) hb)
        have n1_ := Aside0.mk (Kd.R_mono (Kd.R_told (Kd.R_told (Kd.R_old (rr HO_1313000.out) hb) (Kd.R_base ho0)) (Kd.R_base ho2)) (fun _ h_ => h_.1))
        have n2_ := Aside0.mk (Kd.R_elder' (rr HO_1313001.out) (Kd.R_base ho1) hb)
        have n3_ := Aside0.mk (Kd.R_mono (Kd.R_told (Kd.R_told (Kd.R_old (rr HO_1313002.out) hb) (Kd.R_base ho0)) (Kd.R_base ho2)) (fun _ h_ => h_.1))
        have n4_ := Aside0.mk (Kd.R_mono (Kd.R_told (Kd.R_told (Kd.R_old (rr HO_1324000.out) hb) (Kd.R_base ho0)) (Kd.R_base ho2)) (fun _ h_ => h_.1))
        have n5_ := Aside0.mk (Kd.R_elder' (rr HO_1324001.out) (Kd.R_base ho1) hb)
        have n6_ := Aside0.mk (Kd.R_mono (Kd.R_told (Kd.R_told (Kd.R_old (rr HO_1324002.out) hb) (Kd.R_base ho0)) (Kd.R_base ho2)) (fun _ h_ => h_.1))
        have n7_ := Aside0.mk (Kd.R_mono (Kd.R_told (Kd.R_told (Kd.R_old (rr HO_1339000.out) hb) (Kd.R_base ho0)) (Kd.R_base ho2)) (fun _ h_ => h_.1))
        have n8_ := Aside0.mk (Kd.R_elder' (rr HO_1339001.out) (Kd.R_base ho1) hb)
        have n9_ := Aside0.mk (Kd.R_mono (Kd.R_told (Kd.R_told (Kd.R_old (rr HO_1339002.out) hb) (Kd.R_base ho0)) (Kd.R_base ho2)) (fun _ h_ => h_.1))
        have n10_ := Aside0.mk (Kd.R_lower (Kd.R_new' (Kd.R_new' (Kd.R_new' (Kd.R_new' (Kd.R_new' (Kd.R_new' ho0 (Kd.R_lt (rr HO_1313000.out))) (Kd.R_lt (rr HO_1313002.out))) (Kd.R_lt (rr HO_1324000.out))) (Kd.R_lt (rr HO_1324002.out))) (Kd.R_lt (rr HO_1339000.out))) (Kd.R_lt (rr HO_1339002.out))) (below_size (bs4 HB GE1286 GE1312 GE1323 GE1338)))
        have n11_ := Aside0.mk (Kd.R_lower (Kd.R_new' (Kd.R_new' (Kd.R_new' ho1 (Kd.R_lt (rr HO_1313001.out))) (Kd.R_lt (rr HO_1324001.out))) (Kd.R_lt (rr HO_1339001.out))) (below_size (bs4 HB GE1286 GE1312 GE1323 GE1338)))
        have n12_ := Aside0.mk (Kd.R_lower (Kd.R_new' (Kd.R_new' (Kd.R_new' (Kd.R_new' (Kd.R_new' (Kd.R_new' ho2 (Kd.R_lt (rr HO_1313000.out))) (Kd.R_lt (rr HO_1313002.out))) (Kd.R_lt (rr HO_1324000.out))) (Kd.R_lt (rr HO_1324002.out))) (Kd.R_lt (rr HO_1339000.out))) (Kd.R_lt (rr HO_1339002.out))) (below_size (bs4 HB GE1286 GE1312 GE1323 GE1338)))
        have n13_ := Aside0.mk (bb BK1286 hb)
        have n14_ := Aside0.mk (bb BK1312 hb)
        have n15_ := Aside0.mk (bb BK1323 hb)
        have n16_ := Aside0.mk (bb BK1338 hb)
        have n17_ := Aside0.mk (below_step (bs4 HB GE1286 GE1312 GE1323 GE1338) hb)
        clear HO_11
        clear HO_1313000
        clear HO_1313001
        clear HO_1313002
        clear HO_1324000
        clear HO_1324001
        clear HO_1324002
        clear HO_1339000
        clear HO_1339001
        clear HO_1339002
        clear BK1286
        clear BK1312
        clear BK1323
        clear BK1338
        clear HB
        have HO_11 := n0_
        have HO_1313000 := n1_
        have HO_1313001 := n2_
        have HO_1313002 := n3_
        have HO_1324000 := n4_
        have HO_1324001 := n5_
        have HO_1324002 := n6_
        have HO_1339000 := n7_
        have HO_1339001 := n8_
        have HO_1339002 := n9_
        have HO1342 := n10_
        have HO1345 := n11_
        have HO1348 := n12_
        have BK1286 := n13_
        have BK1312 := n14_
        have BK1323 := n15_
        have BK1338 := n16_
        have HB := n17_
        clear n0_ n1_ n2_ n3_ n4_ n5_ n6_ n7_ n8_ n9_ n10_ n11_ n12_ n13_ n14_ n15_ n16_ n17_
        (try clear hb)
        (try clear hb2)
        (try clear hk)
        (try clear hi)
        (try clear ho0)
        (try clear ho1)
        (try clear ho2)
        obtain ⟨Ao86, co86, eo86⟩ := Kd.R_slice HO1342.out
        (first | subst eo86 | (injection eo86 with f1_ f2_ f3_; have f4_ := f1_.symm; have f5_ := f3_.symm; clear f1_ f2_ f3_; subst f4_; subst f5_))
        obtain ⟨Ao87, co87, eo87⟩ := Kd.R_slice HO1345.out
        (first | subst eo87 | (injection eo87 with f1_ f2_ f3_; have f4_ := f1_.symm; have f5_ := f3_.symm; clear f1_ f2_ f3_; subst f4_; subst f5_))
        obtain ⟨Ao88, co88, eo88⟩ := Kd.R_slice HO1348.out
        (first | subst eo88 | (injection eo88 with f1_ f2_ f3_; have f4_ := f1_.symm; have f5_ := f3_.symm; clear f1_ f2_ f3_; subst f4_; subst f5_))
        refine hK.out _ _ ⟨(blk_cell BK1323.out 0).trans rfl, (blk_cell BK1323.out 1).trans rfl, (blk_cell BK1323.out 2).trans rfl, (blk_cell BK1323.out 3).trans rfl, (blk_cell BK1286.out 0).trans rfl, (blk_cell BK1286.out 1).trans rfl, (blk_cell BK1286.out 2).trans rfl, (blk_cell BK1286.out 3).trans rfl⟩ (fun hHeld => ?_)
        clear hK K
        refine norm_ (a' := ?_) ?_ ?_
        rotate_left
        ·
         show Act.put _ (some 58) _ = _
         simp only [Act.put, List.setIfInBounds_toArray, List.set_cons_zero, List.set_cons_succ, i64_w, i32_w]
         rfl
        refine one_ (i := 3) (N := some 59) #[true, true, true, true, false] rfl rfl (by kernel_rfl) (by decide) (fun K hK => ?_)
        refine goes_ Try.func29 (by kernel_rfl) rfl #[.agg #[.slice Ao38 t1313.length co38, .slice Ao42 t1316.length co42, .slice Ao43 t1319.length co43, .int .i64 t1322], .agg #[.slice Ao86 t1340.length co86, .slice Ao87 t1343.length co87, .slice Ao88 t1346.length co88, .int .i64 t1349]] (by rfl) rfl rfl (by (try simp only [List.map_toArray, List.map_cons, List.map_nil]); first | done | rfl | (simp only [List.length_drop, List.length_take]; rfl)) ?_
        with_reducible refine (laws_eqStore.calls kj16 _ _ t1313 _ _ t1316 _ _ t1319 t1322 _ _ t1340 _ _ t1343 _ _ t1346 t1349 true _ ?side1 ?side2 ?side3 ?side4 ?side5 ?side6 ?side7 ?side8 ?side9 ?side10 ?side11 ?side12 A76.out).mono ?_
        (case side1 => exact rc0 HO_1324000)
        (case side2 => exact (Kd.R_reads' HO_1324000.out).2.1)
        (case side3 => exact rc0 HO_1324001)
        (case side4 => exact (Kd.R_reads' HO_1324001.out).2.1)
        (case side5 => exact rc0 HO_1324002)
        (case side6 => exact (Kd.R_reads' HO_1324002.out).2.1)
        (case side7 => exact rc0 HO1342)
        (case side8 => exact (Kd.R_reads' HO1342.out).2.1)
        (case side9 => exact rc0 HO1345)
        (case side10 => exact (Kd.R_reads' HO1345.out).2.1)
        (case side11 => exact rc0 HO1348)
        (case side12 => exact (Kd.R_reads' HO1348.out).2.1)
        rintro e w89 ⟨rfl, hb⟩
        refine ⟨_, rfl, ?_⟩
        have n0_ := Aside0.mk (Kd.R_below (rr HO_11.out) hb)
        have n1_ := Aside0.mk (Kd.R_below (rr HO_1313000.out) hb)
        have n2_ := Aside0.mk (Kd.R_below (rr HO_1313001.out) hb)
        have n3_ := Aside0.mk (Kd.R_below (rr HO_1313002.out) hb)
        have n4_ := Aside0.mk (Kd.R_below (rr HO_1324000.out) hb)
        have n5_ := Aside0.mk (Kd.R_below (rr HO_1324001.out) hb)
        have n6_ := Aside0.mk (Kd.R_below (rr HO_1324002.out) hb)
        have n7_ := Aside0.mk (Kd.R_below (rr HO_1339000.out) hb)
        have n8_ := Aside0.mk (Kd.R_below (rr HO_1339001.out) hb)
        have n9_ := Aside0.mk (Kd.R_below (rr HO_1339002.out) hb)
        have n10_ := Aside0.mk (Kd.R_below (rr HO1342.out) hb)
        have n11_ := Aside0.mk (Kd.R_below (rr HO1345.out) hb)
        have n12_ := Aside0.mk (Kd.R_below (rr HO1348.out) hb)
        have n13_ := Aside0.mk (bb BK1286 hb)
        have n14_ := Aside0.mk (bb BK1312 hb)
        have n15_ := Aside0.mk (bb BK1323 hb)
        have n16_ := Aside0.mk (bb BK1338 hb)
        have n17_ := Aside0.mk (below_step (bs4 HB GE1286 GE1312 GE1323 GE1338) hb)
        clear HO_11
        clear HO_1313000
        clear HO_1313001
        clear HO_1313002
        clear HO_1324000
        clear HO_1324001
        clear HO_1324002
        clear HO_1339000
        clear HO_1339001
        clear HO_1339002
        clear HO1342
        clear HO1345
        clear HO1348
        clear BK1286
        clear BK1312
        clear BK1323
        clear BK1338
        clear HB
        have HO_11 := n0_
        have HO_1313000 := n1_
        have HO_1313001 := n2_
        have HO_1313002 := n3_
        have HO_1324000 := n4_
        have HO_1324001 := n5_
        have HO_1324002 := n6_
        have HO_1339000 := n7_
        have HO_1339001 := n8_
        have HO_1339002 := n9_
        have HO1342 := n10_
        have HO1345 := n11_
        have HO1348 := n12_
        have BK1286 := n13_
        have BK1312 := n14_
        have BK1323 := n15_
        have BK1338 := n16_
        have HB := n17_
        clear n0_ n1_ n2_ n3_ n4_ n5_ n6_ n7_ n8_ n9_ n10_ n11_ n12_ n13_ n14_ n15_ n16_ n17_
        (try clear hb)
        (try clear hb2)
        (try clear hk)
        (try clear hi)
        refine hK.out _ _ ⟨(blk_cell BK1323.out 0).trans rfl, (blk_cell BK1323.out 1).trans rfl, (blk_cell BK1323.out 2).trans rfl, (blk_cell BK1323.out 3).trans rfl, (blk_cell BK1286.out 0).trans rfl, (blk_cell BK1286.out 1).trans rfl, (blk_cell BK1286.out 2).trans rfl, (blk_cell BK1286.out 3).trans rfl⟩ (fun hHeld => ?_)
        clear hK K
        refine norm_ (a' := ?_) ?_ ?_
        rotate_left
        ·
         show Act.put _ (some 59) _ = _
         simp only [Act.put, List.setIfInBounds_toArray, List.set_cons_zero, List.set_cons_succ, i64_w, i32_w]
         rfl
        refine pure_ (i := 4) (N := some 60) (v := ?_) (a' := ?_) #[true, true, true, true, true] rfl rfl (by kernel_rfl) (fun _ _ _ h => h) (Or.inl ⟨by rfl, ?_⟩) ?_ ?_
        rotate_left
        ·
         intro w'
         go_simp
         with_reducible rfl
        rotate_left
        ·
         simp only [Act.put, List.setIfInBounds_toArray, List.set_cons_zero, List.set_cons_succ, i64_w, i32_w]
         rfl
        refine done_ (by kernel_rfl) ?_
        go_upto_region 20 with (first | ((with_reducible refine gate_callee (f := 50) rfl ?_); refine gL (some 63) rfl rfl Try.func50 (by kernel_rfl) rfl #[.slice A1 l1.length c1] rfl ?_; (with_reducible refine (laws_toBoolS.calls kj16 _ _ l1 t1351 _ ?side1 ?side2 A78.out).mono ?_); (case side1 => exact cb HR1 HB); (case side2 => exact HC1.out); rintro e w90 ⟨v1352, rfl, ho0, hb⟩; refine ⟨_, rfl, ?_⟩; replace HO_1313000 := nr HO_1313000 hb; replace HO_1313001 := nr HO_1313001 hb; replace HO_1313002 := nr HO_1313002 hb; replace HO_1324000 := nr HO_1324000 hb; replace HO_1324001 := nr HO_1324001 hb; replace HO_1324002 := nr HO_1324002 hb; replace HO_1339000 := nr HO_1339000 hb; replace HO_1339001 := nr HO_1339001 hb; replace HO_1339002 := nr HO_1339002 hb; replace HO1342 := nr HO1342 hb; replace HO1345 := nr HO1345 hb; replace HO1348 := nr HO1348 hb; have HO1353 := Aside0.mk (Kd.R_lower (Kd.R_new' ho0 (Kd.R_lt (rr HO_11.out))) (below_size (bs4 HB GE1286 GE1312 GE1323 GE1338))); replace HO_11 := Aside0.mk (Kd.R_elder' (rr HO_11.out) (Kd.R_base ho0) hb); replace BK1286 := nb BK1286 hb; replace BK1312 := nb BK1312 hb; replace BK1323 := nb BK1323 hb; replace BK1338 := nb BK1338 hb; replace HB := Aside0.mk (below_step (bs4 HB GE1286 GE1312 GE1323 GE1338) hb); (try clear hb); (try clear hb2); (try clear hk); (try clear hi); (try clear ho0); obtain ⟨Ao91, co91, eo91⟩ := Kd.R_slice HO1353.out; subst eo91) | ((with_reducible refine gate_callee (f := 52) rfl ?_); refine gL (some 64) rfl rfl Try.func52 (by kernel_rfl) rfl #[.slice Ao46 t1324.length co46, .slice Ao91 t1351.length co91] rfl ?_; (with_reducible refine (laws_eqBoolS.calls kj16 _ _ t1324 _ _ t1351 true _ ?side1 ?side2 ?side3 ?side4 A79.out).mono ?_); (case side1 => exact rc0 HO_11); (case side2 => exact (Kd.R_reads' HO_11.out).2.1); (case side3 => exact rc0 HO1353); (case side4 => exact (Kd.R_reads' HO1353.out).2.1); rintro e w' ⟨rfl, ⟨nd, rfl⟩⟩; refine ⟨_, rfl, ?_⟩; have hnb92 := NB1323_1286.out; have hnc92 := NB1286_1323.out; have hnb93 := NB1323_1312.out; have hnc93 := NB1312_1323.out; have hnb94 := NB1323_1338.out; have hnc94 := NB1338_1323.out; obtain ⟨hcz95_0, hcz95_1, hcz95_2, hcz95_3⟩ := cz4 BK1323; obtain ⟨hfz95_0, hfz95_1, hfz95_2, hfz95_3⟩ := fz4 BK1323) | ((with_reducible refine gate_callee (f := 32) rfl ?_); refine gL (some 68) rfl rfl Try.func32 (by kernel_rfl) rfl #[.agg #[.slice Ao38 t1313.length co38, .slice Ao42 t1316.length co42, .slice Ao43 t1319.length co43, .int .i64 t1322], .int .i64 1] rfl ?_; (with_reducible refine (laws_markStore.calls kj16 (fun k_ => some k_ = (.slice Ao38 t1313.length co38 : Value).ownBlock) (.slice Ao38 t1313.length co38) t1313 (fun k_ => some k_ = (.slice Ao42 t1316.length co42 : Value).ownBlock) (.slice Ao42 t1316.length co42) t1316 (fun k_ => some k_ = (.slice Ao43 t1319.length co43 : Value).ownBlock) (.slice Ao43 t1319.length co43) t1319 t1322 1 t1355 t1356 t1357 t1358 w _ ?side1 ?side2 ?side3 ?side4 ?side5 ?side6 A81.out).mono ?_); (case side1 => repeat (first | (with_reducible first | exact HB.out | apply below_alloc | apply pw_below_drewN | apply below_drew1 | refine below_set ?_ GE1286.out | refine below_set ?_ GE1312.out | refine below_set ?_ GE1323.out | refine below_set ?_ GE1338.out) | exact HB.out)); (case side2 => exact Kd.R_tight rfl HO_1324000.out); (case side3 => exact fun k_ e_ => (HO_1324000.out.1 k_ e_.symm).1.1.2.2.1); (case side4 => exact Kd.R_tight rfl HO_1324001.out); (case side5 => exact Kd.R_tight rfl HO_1324002.out); (case side6 => exact fun k_ e_ => (HO_1324002.out.1 k_ e_.symm).1.1.2.2.1); rintro e w96 ⟨rfl, hy0, hy1, hy2, hb, hkp⟩; refine ⟨_, rfl, ?_⟩; replace HO_11 := Aside0.mk (Kd.R_mono (ok' := fun k_ => some k_ ≠ (.slice Ao91 t1351.length co91 : Value).ownBlock) (Kd.R_keptB ((Kd.R_apart' (Kd.R_apart' (Kd.R_apart' HO_11.out (Kd.R_typed HO_1324000.out) (by decide)) (Kd.R_typed HO_1324001.out) (by decide)) (Kd.R_typed HO_1324002.out) (by decide))) hkp (fun k_ hk_ hs_ => Or.elim hs_ (fun e_ => (hk_.1.1.2) e_) (fun e_ => Or.elim e_ (fun e_ => (hk_.1.2) e_) (fun e_ => (hk_.2) e_)))) (fun k_ hk_ => hk_.1.1.1.1.2)); replace HO_1313000 := Aside0.mk (Kd.R_mono (ok' := fun k_ => some k_ ≠ (.slice Ao34 t1307.length co34 : Value).ownBlock ∧ some k_ ≠ (.slice Ao38 t1313.length co38 : Value).ownBlock ∧ some k_ ≠ (.slice Ao43 t1319.length co43 : Value).ownBlock ∧ some k_ ≠ (.slice Ao49 t1327.length co49 : Value).ownBlock ∧ some k_ ≠ (.slice Ao55 t1333.length co55 : Value).ownBlock ∧ some k_ ≠ (.slice Ao86 t1340.length co86 : Value).ownBlock ∧ some k_ ≠ (.slice Ao88 t1346.length co88 : Value).ownBlock) (Kd.R_keptB ((Kd.R_apart' HO_1313000.out (Kd.R_typed HO_1324001.out) (by decide))) hkp (fun k_ hk_ hs_ => Or.elim hs_ (fun e_ => (hk_.1.1.1.2.1) e_) (fun e_ => Or.elim e_ (fun e_ => (hk_.2) e_) (fun e_ => (hk_.1.1.1.2.2.1) e_)))) (fun k_ hk_ => ⟨hk_.1.1.1.1.1, hk_.1.1.1.1.2.1, hk_.1.1.1.1.2.2.1, hk_.1.1.1.1.2.2.2.1, hk_.1.1.1.1.2.2.2.2, hk_.1.1.1.2, hk_.1.1.2⟩)); replace HO_1313001 := Aside0.mk (Kd.R_mono (ok' := fun k_ => some k_ ≠ (.slice Ao42 t1316.length co42 : Value).ownBlock ∧ some k_ ≠ (.slice Ao54 t1330.length co54 : Value).ownBlock ∧ some k_ ≠ (.slice Ao87 t1343.length co87 : Value).ownBlock) (Kd.R_keptB ((Kd.R_apart' (Kd.R_apart' HO_1313001.out (Kd.R_typed HO_1324000.out) (by decide)) (Kd.R_typed HO_1324002.out) (by decide))) hkp (fun k_ hk_ hs_ => Or.elim hs_ (fun e_ => (hk_.1.2) e_) (fun e_ => Or.elim e_ (fun e_ => (hk_.1.1.1.1) e_) (fun e_ => (hk_.2) e_)))) (fun k_ hk_ => ⟨hk_.1.1.1.1.1, hk_.1.1.1.1.2, hk_.1.1.1.2⟩)); replace HO_1313002 := Aside0.mk (Kd.R_mono (ok' := fun k_ => some k_ ≠ (.slice Ao30 t1301.length co30 : Value).ownBlock ∧ some k_ ≠ (.slice Ao38 t1313.length co38 : Value).ownBlock ∧ some k_ ≠ (.slice Ao43 t1319.length co43 : Value).ownBlock ∧ some k_ ≠ (.slice Ao49 t1327.length co49 : Value).ownBlock ∧ some k_ ≠ (.slice Ao55 t1333.length co55 : Value).ownBlock ∧ some k_ ≠ (.slice Ao86 t1340.length co86 : Value).ownBlock ∧ some k_ ≠ (.slice Ao88 t1346.length co88 : Value).ownBlock) (Kd.R_keptB ((Kd.R_apart' HO_1313002.out (Kd.R_typed HO_1324001.out) (by decide))) hkp (fun k_ hk_ hs_ => Or.elim hs_ (fun e_ => (hk_.1.1.1.2.1) e_) (fun e_ => Or.elim e_ (fun e_ => (hk_.2) e_) (fun e_ => (hk_.1.1.1.2.2.1) e_)))) (fun k_ hk_ => ⟨hk_.1.1.1.1.1, hk_.1.1.1.1.2.1, hk_.1.1.1.1.2.2.1, hk_.1.1.1.1.2.2.2.1, hk_.1.1.1.1.2.2.2.2, hk_.1.1.1.2, hk_.1.1.2⟩)); replace HO_1339000 := Aside0.mk (Kd.R_mono (ok' := fun k_ => some k_ ≠ (.slice Ao30 t1301.length co30 : Value).ownBlock ∧ some k_ ≠ (.slice Ao34 t1307.length co34 : Value).ownBlock ∧ some k_ ≠ (.slice Ao38 t1313.length co38 : Value).ownBlock ∧ some k_ ≠ (.slice Ao43 t1319.length co43 : Value).ownBlock ∧ some k_ ≠ (.slice Ao55 t1333.length co55 : Value).ownBlock ∧ some k_ ≠ (.slice Ao86 t1340.length co86 : Value).ownBlock ∧ some k_ ≠ (.slice Ao88 t1346.length co88 : Value).ownBlock) (Kd.R_keptB ((Kd.R_apart' HO_1339000.out (Kd.R_typed HO_1324001.out) (by decide))) hkp (fun k_ hk_ hs_ => Or.elim hs_ (fun e_ => (hk_.1.1.1.2.2.1) e_) (fun e_ => Or.elim e_ (fun e_ => (hk_.2) e_) (fun e_ => (hk_.1.1.1.2.2.2.1) e_)))) (fun k_ hk_ => ⟨hk_.1.1.1.1.1, hk_.1.1.1.1.2.1, hk_.1.1.1.1.2.2.1, hk_.1.1.1.1.2.2.2.1, hk_.1.1.1.1.2.2.2.2, hk_.1.1.1.2, hk_.1.1.2⟩)); replace HO_1339001 := Aside0.mk (Kd.R_mono (ok' := fun k_ => some k_ ≠ (.slice Ao33 t1304.length co33 : Value).ownBlock ∧ some k_ ≠ (.slice Ao42 t1316.length co42 : Value).ownBlock ∧ some k_ ≠ (.slice Ao87 t1343.length co87 : Value).ownBlock) (Kd.R_keptB ((Kd.R_apart' (Kd.R_apart' HO_1339001.out (Kd.R_typed HO_1324000.out) (by decide)) (Kd.R_typed HO_1324002.out) (by decide))) hkp (fun k_ hk_ hs_ => Or.elim hs_ (fun e_ => (hk_.1.2) e_) (fun e_ => Or.elim e_ (fun e_ => (hk_.1.1.1.2) e_) (fun e_ => (hk_.2) e_)))) (fun k_ hk_ => ⟨hk_.1.1.1.1.1, hk_.1.1.1.1.2, hk_.1.1.1.2⟩)); replace HO_1339002 := Aside0.mk (Kd.R_mono (ok' := fun k_ => some k_ ≠ (.slice Ao30 t1301.length co30 : Value).ownBlock ∧ some k_ ≠ (.slice Ao34 t1307.length co34 : Value).ownBlock ∧ some k_ ≠ (.slice Ao38 t1313.length co38 : Value).ownBlock ∧ some k_ ≠ (.slice Ao43 t1319.length co43 : Value).ownBlock ∧ some k_ ≠ (.slice Ao49 t1327.length co49 : Value).ownBlock ∧ some k_ ≠ (.slice Ao86 t1340.length co86 : Value).ownBlock ∧ some k_ ≠ (.slice Ao88 t1346.length co88 : Value).ownBlock) (Kd.R_keptB ((Kd.R_apart' HO_1339002.out (Kd.R_typed HO_1324001.out) (by decide))) hkp (fun k_ hk_ hs_ => Or.elim hs_ (fun e_ => (hk_.1.1.1.2.2.1) e_) (fun e_ => Or.elim e_ (fun e_ => (hk_.2) e_) (fun e_ => (hk_.1.1.1.2.2.2.1) e_)))) (fun k_ hk_ => ⟨hk_.1.1.1.1.1, hk_.1.1.1.1.2.1, hk_.1.1.1.1.2.2.1, hk_.1.1.1.1.2.2.2.1, hk_.1.1.1.1.2.2.2.2, hk_.1.1.1.2, hk_.1.1.2⟩)); replace BK1286 := Aside0.mk (blk_kept (bk BK1286) hkp (fun hs_ => Or.elim hs_ (fun e_ => (fun e_ => (Kd.R_ne HO_1324000.out BK1286.out (by decide)) e_) e_) (fun e_ => Or.elim e_ (fun e_ => (fun e_ => (Kd.R_ne HO_1324001.out BK1286.out (by decide)) e_) e_) (fun e_ => (fun e_ => (Kd.R_ne HO_1324002.out BK1286.out (by decide)) e_) e_)))); replace BK1312 := Aside0.mk (blk_kept (bk BK1312) hkp (fun hs_ => Or.elim hs_ (fun e_ => (fun e_ => (Kd.R_ne HO_1324000.out BK1312.out (by decide)) e_) e_) (fun e_ => Or.elim e_ (fun e_ => (fun e_ => (Kd.R_ne HO_1324001.out BK1312.out (by decide)) e_) e_) (fun e_ => (fun e_ => (Kd.R_ne HO_1324002.out BK1312.out (by decide)) e_) e_)))); replace BK1323 := Aside0.mk (blk_kept (bk BK1323) hkp (fun hs_ => Or.elim hs_ (fun e_ => (fun e_ => (Kd.R_ne HO_1324000.out BK1323.out (by decide)) e_) e_) (fun e_ => Or.elim e_ (fun e_ => (fun e_ => (Kd.R_ne HO_1324001.out BK1323.out (by decide)) e_) e_) (fun e_ => (fun e_ => (Kd.R_ne HO_1324002.out BK1323.out (by decide)) e_) e_)))); replace BK1338 := Aside0.mk (blk_kept (bk BK1338) hkp (fun hs_ => Or.elim hs_ (fun e_ => (fun e_ => (Kd.R_ne HO_1324000.out BK1338.out (by decide)) e_) e_) (fun e_ => Or.elim e_ (fun e_ => (fun e_ => (Kd.R_ne HO_1324001.out BK1338.out (by decide)) e_) e_) (fun e_ => (fun e_ => (Kd.R_ne HO_1324002.out BK1338.out (by decide)) e_) e_)))); replace HO1342 := Aside0.mk (Kd.R_mono (ok' := fun k_ => some k_ ≠ (.slice Ao30 t1301.length co30 : Value).ownBlock ∧ some k_ ≠ (.slice Ao34 t1307.length co34 : Value).ownBlock ∧ some k_ ≠ (.slice Ao38 t1313.length co38 : Value).ownBlock ∧ some k_ ≠ (.slice Ao43 t1319.length co43 : Value).ownBlock ∧ some k_ ≠ (.slice Ao49 t1327.length co49 : Value).ownBlock ∧ some k_ ≠ (.slice Ao55 t1333.length co55 : Value).ownBlock ∧ some k_ ≠ (.slice Ao88 t1346.length co88 : Value).ownBlock) (Kd.R_keptB ((Kd.R_apart' HO1342.out (Kd.R_typed HO_1324001.out) (by decide))) hkp (fun k_ hk_ hs_ => Or.elim hs_ (fun e_ => (hk_.1.1.1.1.2) e_) (fun e_ => Or.elim e_ (fun e_ => (hk_.2) e_) (fun e_ => (hk_.1.1.1.2) e_)))) (fun k_ hk_ => ⟨hk_.1.1.1.1.1.1.1.2, hk_.1.1.1.1.1.1.2, hk_.1.1.1.1.1.2, hk_.1.1.1.1.2, hk_.1.1.1.2, hk_.1.1.2, hk_.1.1.1.1.1.1.1.1⟩)); replace HO1345 := Aside0.mk (Kd.R_mono (ok' := fun k_ => some k_ ≠ (.slice Ao33 t1304.length co33 : Value).ownBlock ∧ some k_ ≠ (.slice Ao42 t1316.length co42 : Value).ownBlock ∧ some k_ ≠ (.slice Ao54 t1330.length co54 : Value).ownBlock) (Kd.R_keptB ((Kd.R_apart' (Kd.R_apart' HO1345.out (Kd.R_typed HO_1324000.out) (by decide)) (Kd.R_typed HO_1324002.out) (by decide))) hkp (fun k_ hk_ hs_ => Or.elim hs_ (fun e_ => (hk_.1.2) e_) (fun e_ => Or.elim e_ (fun e_ => (hk_.1.1.1.2) e_) (fun e_ => (hk_.2) e_)))) (fun k_ hk_ => ⟨hk_.1.1.1.1.1.2, hk_.1.1.1.1.2, hk_.1.1.1.2⟩)); replace HO1348 := Aside0.mk (Kd.R_mono (ok' := fun k_ => some k_ ≠ (.slice Ao30 t1301.length co30 : Value).ownBlock ∧ some k_ ≠ (.slice Ao34 t1307.length co34 : Value).ownBlock ∧ some k_ ≠ (.slice Ao38 t1313.length co38 : Value).ownBlock ∧ some k_ ≠ (.slice Ao43 t1319.length co43 : Value).ownBlock ∧ some k_ ≠ (.slice Ao49 t1327.length co49 : Value).ownBlock ∧ some k_ ≠ (.slice Ao55 t1333.length co55 : Value).ownBlock ∧ some k_ ≠ (.slice Ao86 t1340.length co86 : Value).ownBlock) (Kd.R_keptB ((Kd.R_apart' HO1348.out (Kd.R_typed HO_1324001.out) (by decide))) hkp (fun k_ hk_ hs_ => Or.elim hs_ (fun e_ => (hk_.1.1.1.1.2) e_) (fun e_ => Or.elim e_ (fun e_ => (hk_.2) e_) (fun e_ => (hk_.1.1.1.2) e_)))) (fun k_ hk_ => ⟨hk_.1.1.1.1.1.1.1.2, hk_.1.1.1.1.1.1.2, hk_.1.1.1.1.1.2, hk_.1.1.1.1.2, hk_.1.1.1.2, hk_.1.1.2, hk_.1.1.1.1.1.1.1.1⟩)); replace HO1353 := Aside0.mk (Kd.R_mono (ok' := fun k_ => some k_ ≠ (.slice Ao46 t1324.length co46 : Value).ownBlock) (Kd.R_keptB ((Kd.R_apart' (Kd.R_apart' (Kd.R_apart' HO1353.out (Kd.R_typed HO_1324000.out) (by decide)) (Kd.R_typed HO_1324001.out) (by decide)) (Kd.R_typed HO_1324002.out) (by decide))) hkp (fun k_ hk_ hs_ => Or.elim hs_ (fun e_ => (hk_.1.1.2) e_) (fun e_ => Or.elim e_ (fun e_ => (hk_.1.2) e_) (fun e_ => (hk_.2) e_)))) (fun k_ hk_ => hk_.1.1.1.1.2)); replace HO_1324000 := Aside0.mk (Kd.R_reok rfl hy0 (fun k_ e_ => HO_1324000.out.1 k_ e_)); replace HO_1324001 := Aside0.mk (Kd.R_reok rfl hy1 (fun k_ e_ => HO_1324001.out.1 k_ e_)); replace HO_1324002 := Aside0.mk (Kd.R_reok rfl hy2 (fun k_ e_ => HO_1324002.out.1 k_ e_)); replace HB := Aside0.mk (hb); (try clear hb); (try clear hkp); (try clear hy0); (try clear hy1); (try clear hy2)) | ((with_reducible refine gate_callee (f := 53) rfl ?_); refine gL (some 71) rfl rfl Try.func53 (by kernel_rfl) rfl #[.slice Ao46 t1324.length co46, .int .i64 t1355] rfl ?_; (with_reducible refine (laws_markBoolS.calls kj16 (fun k_ => some k_ = (.slice Ao46 t1324.length co46 : Value).ownBlock) (.slice Ao46 t1324.length co46) t1324 t1355 t1359 t1360 w _ ?side1 ?side2 A82.out).mono ?_); (case side1 => repeat (first | (with_reducible first | exact HB.out | apply below_alloc | apply pw_below_drewN | apply below_drew1 | refine below_set ?_ GE1286.out | refine below_set ?_ GE1312.out | refine below_set ?_ GE1323.out | refine below_set ?_ GE1338.out) | exact HB.out)); (case side2 => exact Kd.R_tight rfl HO_11.out); rintro e w97 ⟨rfl, hy0, hb, hkp⟩; refine ⟨_, rfl, ?_⟩; replace HO_1313000 := Aside0.mk (Kd.R_mono (ok' := fun k_ => some k_ ≠ (.slice Ao34 t1307.length co34 : Value).ownBlock ∧ some k_ ≠ (.slice Ao38 t1313.length co38 : Value).ownBlock ∧ some k_ ≠ (.slice Ao43 t1319.length co43 : Value).ownBlock ∧ some k_ ≠ (.slice Ao49 t1327.length co49 : Value).ownBlock ∧ some k_ ≠ (.slice Ao55 t1333.length co55 : Value).ownBlock ∧ some k_ ≠ (.slice Ao86 t1340.length co86 : Value).ownBlock ∧ some k_ ≠ (.slice Ao88 t1346.length co88 : Value).ownBlock) (Kd.R_keptB ((Kd.R_apart' HO_1313000.out (Kd.R_typed HO_11.out) (by decide))) hkp (fun k_ hk_ hs_ => (hk_.2) hs_)) (fun k_ hk_ => ⟨hk_.1.1.1, hk_.1.1.2.1, hk_.1.1.2.2.1, hk_.1.1.2.2.2.1, hk_.1.1.2.2.2.2.1, hk_.1.1.2.2.2.2.2.1, hk_.1.1.2.2.2.2.2.2⟩)); replace HO_1313001 := Aside0.mk (Kd.R_mono (ok' := fun k_ => some k_ ≠ (.slice Ao42 t1316.length co42 : Value).ownBlock ∧ some k_ ≠ (.slice Ao54 t1330.length co54 : Value).ownBlock ∧ some k_ ≠ (.slice Ao87 t1343.length co87 : Value).ownBlock) (Kd.R_keptB ((Kd.R_apart' HO_1313001.out (Kd.R_typed HO_11.out) (by decide))) hkp (fun k_ hk_ hs_ => (hk_.2) hs_)) (fun k_ hk_ => ⟨hk_.1.1.1, hk_.1.1.2.1, hk_.1.1.2.2⟩)); replace HO_1313002 := Aside0.mk (Kd.R_mono (ok' := fun k_ => some k_ ≠ (.slice Ao30 t1301.length co30 : Value).ownBlock ∧ some k_ ≠ (.slice Ao38 t1313.length co38 : Value).ownBlock ∧ some k_ ≠ (.slice Ao43 t1319.length co43 : Value).ownBlock ∧ some k_ ≠ (.slice Ao49 t1327.length co49 : Value).ownBlock ∧ some k_ ≠ (.slice Ao55 t1333.length co55 : Value).ownBlock ∧ some k_ ≠ (.slice Ao86 t1340.length co86 : Value).ownBlock ∧ some k_ ≠ (.slice Ao88 t1346.length co88 : Value).ownBlock) (Kd.R_keptB ((Kd.R_apart' HO_1313002.out (Kd.R_typed HO_11.out) (by decide))) hkp (fun k_ hk_ hs_ => (hk_.2) hs_)) (fun k_ hk_ => ⟨hk_.1.1.1, hk_.1.1.2.1, hk_.1.1.2.2.1, hk_.1.1.2.2.2.1, hk_.1.1.2.2.2.2.1, hk_.1.1.2.2.2.2.2.1, hk_.1.1.2.2.2.2.2.2⟩)); replace HO_1324000 := Aside0.mk (Kd.R_mono (ok' := fun k_ => some k_ ≠ (.slice Ao30 t1301.length co30 : Value).ownBlock ∧ some k_ ≠ (.slice Ao34 t1307.length co34 : Value).ownBlock ∧ some k_ ≠ (.slice Ao43 t1319.length co43 : Value).ownBlock ∧ some k_ ≠ (.slice Ao49 t1327.length co49 : Value).ownBlock ∧ some k_ ≠ (.slice Ao55 t1333.length co55 : Value).ownBlock ∧ some k_ ≠ (.slice Ao86 t1340.length co86 : Value).ownBlock ∧ some k_ ≠ (.slice Ao88 t1346.length co88 : Value).ownBlock) (Kd.R_keptB ((Kd.R_apart' HO_1324000.out (Kd.R_typed HO_11.out) (by decide))) hkp (fun k_ hk_ hs_ => (hk_.2) hs_)) (fun k_ hk_ => ⟨hk_.1.1.1.1.1, hk_.1.1.1.1.2.1, hk_.1.1.1.1.2.2.1, hk_.1.1.1.1.2.2.2.1, hk_.1.1.1.1.2.2.2.2, hk_.1.1.1.2, hk_.1.1.2⟩)); replace HO_1324001 := Aside0.mk (Kd.R_mono (ok' := fun k_ => some k_ ≠ (.slice Ao33 t1304.length co33 : Value).ownBlock ∧ some k_ ≠ (.slice Ao54 t1330.length co54 : Value).ownBlock ∧ some k_ ≠ (.slice Ao87 t1343.length co87 : Value).ownBlock) (Kd.R_keptB ((Kd.R_apart' HO_1324001.out (Kd.R_typed HO_11.out) (by decide))) hkp (fun k_ hk_ hs_ => (hk_.2) hs_)) (fun k_ hk_ => ⟨hk_.1.1.1.1, hk_.1.1.1.2, hk_.1.1.2⟩)); replace HO_1324002 := Aside0.mk (Kd.R_mono (ok' := fun k_ => some k_ ≠ (.slice Ao30 t1301.length co30 : Value).ownBlock ∧ some k_ ≠ (.slice Ao34 t1307.length co34 : Value).ownBlock ∧ some k_ ≠ (.slice Ao38 t1313.length co38 : Value).ownBlock ∧ some k_ ≠ (.slice Ao49 t1327.length co49 : Value).ownBlock ∧ some k_ ≠ (.slice Ao55 t1333.length co55 : Value).ownBlock ∧ some k_ ≠ (.slice Ao86 t1340.length co86 : Value).ownBlock ∧ some k_ ≠ (.slice Ao88 t1346.length co88 : Value).ownBlock) (Kd.R_keptB ((Kd.R_apart' HO_1324002.out (Kd.R_typed HO_11.out) (by decide))) hkp (fun k_ hk_ hs_ => (hk_.2) hs_)) (fun k_ hk_ => ⟨hk_.1.1.1.1.1, hk_.1.1.1.1.2.1, hk_.1.1.1.1.2.2.1, hk_.1.1.1.1.2.2.2.1, hk_.1.1.1.1.2.2.2.2, hk_.1.1.1.2, hk_.1.1.2⟩)); replace HO_1339000 := Aside0.mk (Kd.R_mono (ok' := fun k_ => some k_ ≠ (.slice Ao30 t1301.length co30 : Value).ownBlock ∧ some k_ ≠ (.slice Ao34 t1307.length co34 : Value).ownBlock ∧ some k_ ≠ (.slice Ao38 t1313.length co38 : Value).ownBlock ∧ some k_ ≠ (.slice Ao43 t1319.length co43 : Value).ownBlock ∧ some k_ ≠ (.slice Ao55 t1333.length co55 : Value).ownBlock ∧ some k_ ≠ (.slice Ao86 t1340.length co86 : Value).ownBlock ∧ some k_ ≠ (.slice Ao88 t1346.length co88 : Value).ownBlock) (Kd.R_keptB ((Kd.R_apart' HO_1339000.out (Kd.R_typed HO_11.out) (by decide))) hkp (fun k_ hk_ hs_ => (hk_.2) hs_)) (fun k_ hk_ => ⟨hk_.1.1.1, hk_.1.1.2.1, hk_.1.1.2.2.1, hk_.1.1.2.2.2.1, hk_.1.1.2.2.2.2.1, hk_.1.1.2.2.2.2.2.1, hk_.1.1.2.2.2.2.2.2⟩)); replace HO_1339001 := Aside0.mk (Kd.R_mono (ok' := fun k_ => some k_ ≠ (.slice Ao33 t1304.length co33 : Value).ownBlock ∧ some k_ ≠ (.slice Ao42 t1316.length co42 : Value).ownBlock ∧ some k_ ≠ (.slice Ao87 t1343.length co87 : Value).ownBlock) (Kd.R_keptB ((Kd.R_apart' HO_1339001.out (Kd.R_typed HO_11.out) (by decide))) hkp (fun k_ hk_ hs_ => (hk_.2) hs_)) (fun k_ hk_ => ⟨hk_.1.1.1, hk_.1.1.2.1, hk_.1.1.2.2⟩)); replace HO_1339002 := Aside0.mk (Kd.R_mono (ok' := fun k_ => some k_ ≠ (.slice Ao30 t1301.length co30 : Value).ownBlock ∧ some k_ ≠ (.slice Ao34 t1307.length co34 : Value).ownBlock ∧ some k_ ≠ (.slice Ao38 t1313.length co38 : Value).ownBlock ∧ some k_ ≠ (.slice Ao43 t1319.length co43 : Value).ownBlock ∧ some k_ ≠ (.slice Ao49 t1327.length co49 : Value).ownBlock ∧ some k_ ≠ (.slice Ao86 t1340.length co86 : Value).ownBlock ∧ some k_ ≠ (.slice Ao88 t1346.length co88 : Value).ownBlock) (Kd.R_keptB ((Kd.R_apart' HO_1339002.out (Kd.R_typed HO_11.out) (by decide))) hkp (fun k_ hk_ hs_ => (hk_.2) hs_)) (fun k_ hk_ => ⟨hk_.1.1.1, hk_.1.1.2.1, hk_.1.1.2.2.1, hk_.1.1.2.2.2.1, hk_.1.1.2.2.2.2.1, hk_.1.1.2.2.2.2.2.1, hk_.1.1.2.2.2.2.2.2⟩)); replace BK1286 := Aside0.mk (blk_kept (bk BK1286) hkp (fun hs_ => (fun e_ => (Kd.R_ne HO_11.out BK1286.out (by decide)) e_) hs_)); replace BK1312 := Aside0.mk (blk_kept (bk BK1312) hkp (fun hs_ => (fun e_ => (Kd.R_ne HO_11.out BK1312.out (by decide)) e_) hs_)); replace BK1323 := Aside0.mk (blk_kept (bk BK1323) hkp (fun hs_ => (fun e_ => (Kd.R_ne HO_11.out BK1323.out (by decide)) e_) hs_)); replace BK1338 := Aside0.mk (blk_kept (bk BK1338) hkp (fun hs_ => (fun e_ => (Kd.R_ne HO_11.out BK1338.out (by decide)) e_) hs_)); replace HO1342 := Aside0.mk (Kd.R_mono (ok' := fun k_ => some k_ ≠ (.slice Ao30 t1301.length co30 : Value).ownBlock ∧ some k_ ≠ (.slice Ao34 t1307.length co34 : Value).ownBlock ∧ some k_ ≠ (.slice Ao38 t1313.length co38 : Value).ownBlock ∧ some k_ ≠ (.slice Ao43 t1319.length co43 : Value).ownBlock ∧ some k_ ≠ (.slice Ao49 t1327.length co49 : Value).ownBlock ∧ some k_ ≠ (.slice Ao55 t1333.length co55 : Value).ownBlock ∧ some k_ ≠ (.slice Ao88 t1346.length co88 : Value).ownBlock) (Kd.R_keptB ((Kd.R_apart' HO1342.out (Kd.R_typed HO_11.out) (by decide))) hkp (fun k_ hk_ hs_ => (hk_.2) hs_)) (fun k_ hk_ => ⟨hk_.1.1.1, hk_.1.1.2.1, hk_.1.1.2.2.1, hk_.1.1.2.2.2.1, hk_.1.1.2.2.2.2.1, hk_.1.1.2.2.2.2.2.1, hk_.1.1.2.2.2.2.2.2⟩)); replace HO1345 := Aside0.mk (Kd.R_mono (ok' := fun k_ => some k_ ≠ (.slice Ao33 t1304.length co33 : Value).ownBlock ∧ some k_ ≠ (.slice Ao42 t1316.length co42 : Value).ownBlock ∧ some k_ ≠ (.slice Ao54 t1330.length co54 : Value).ownBlock) (Kd.R_keptB ((Kd.R_apart' HO1345.out (Kd.R_typed HO_11.out) (by decide))) hkp (fun k_ hk_ hs_ => (hk_.2) hs_)) (fun k_ hk_ => ⟨hk_.1.1.1, hk_.1.1.2.1, hk_.1.1.2.2⟩)); replace HO1348 := Aside0.mk (Kd.R_mono (ok' := fun k_ => some k_ ≠ (.slice Ao30 t1301.length co30 : Value).ownBlock ∧ some k_ ≠ (.slice Ao34 t1307.length co34 : Value).ownBlock ∧ some k_ ≠ (.slice Ao38 t1313.length co38 : Value).ownBlock ∧ some k_ ≠ (.slice Ao43 t1319.length co43 : Value).ownBlock ∧ some k_ ≠ (.slice Ao49 t1327.length co49 : Value).ownBlock ∧ some k_ ≠ (.slice Ao55 t1333.length co55 : Value).ownBlock ∧ some k_ ≠ (.slice Ao86 t1340.length co86 : Value).ownBlock) (Kd.R_keptB ((Kd.R_apart' HO1348.out (Kd.R_typed HO_11.out) (by decide))) hkp (fun k_ hk_ hs_ => (hk_.2) hs_)) (fun k_ hk_ => ⟨hk_.1.1.1, hk_.1.1.2.1, hk_.1.1.2.2.1, hk_.1.1.2.2.2.1, hk_.1.1.2.2.2.2.1, hk_.1.1.2.2.2.2.2.1, hk_.1.1.2.2.2.2.2.2⟩)); replace HO_11 := Aside0.mk (Kd.R_reok rfl hy0 (fun k_ e_ => HO_11.out.1 k_ e_)); replace HO1353 := Aside0.mk (Kd.R_mono (ok' := fun k_ => some k_ ≠ (.slice Ao46 t1324.length co46 : Value).ownBlock) (Kd.R_keptB (HO1353.out) hkp (fun k_ hk_ hs_ => (hk_) hs_)) (fun k_ hk_ => hk_.1)); replace HB := Aside0.mk (hb); (try clear hb); (try clear hkp); (try clear hy0)))
        (try simp only [Act.put, List.setIfInBounds_toArray, List.set_cons_zero, List.set_cons_succ])
        go_cut [84] (fun v84 wc => ∃ (kq : Nat) (x84_82 : Bool), v84 = .bool x84_82 ∧ Aside0 (laws_FnExactCrashStore.j1 kq l1 a2 t1311 x84_82 l0_0 l0_1 l0_2 a0_3 t1301 t1304 t1307 t1310 t1327 t1330 t1333 t1336 = some r) ∧ Aside0 (kq ≤ kj16) ∧ Aside0 (Kd.R Kd.string 9 wc w.heap.size (fun k_ => some k_ ≠ ((.slice Ao34 t1307.length co34) : Value).ownBlock ∧ some k_ ≠ ((.slice Ao38 t1313.length co38) : Value).ownBlock ∧ some k_ ≠ ((.slice Ao43 t1319.length co43) : Value).ownBlock ∧ some k_ ≠ ((.slice Ao49 t1327.length co49) : Value).ownBlock ∧ some k_ ≠ ((.slice Ao55 t1333.length co55) : Value).ownBlock) (.slice Ao30 t1301.length co30) t1301) ∧ Aside0 (Kd.R k72 72 wc w.heap.size (fun k_ => some k_ ≠ ((.slice Ao42 t1316.length co42) : Value).ownBlock ∧ some k_ ≠ ((.slice Ao54 t1330.length co54) : Value).ownBlock) (.slice Ao33 t1304.length co33) t1304) ∧ Aside0 (Kd.R Kd.string 9 wc w.heap.size (fun k_ => some k_ ≠ ((.slice Ao30 t1301.length co30) : Value).ownBlock ∧ some k_ ≠ ((.slice Ao38 t1313.length co38) : Value).ownBlock ∧ some k_ ≠ ((.slice Ao43 t1319.length co43) : Value).ownBlock ∧ some k_ ≠ ((.slice Ao49 t1327.length co49) : Value).ownBlock ∧ some k_ ≠ ((.slice Ao55 t1333.length co55) : Value).ownBlock) (.slice Ao34 t1307.length co34) t1307) ∧ Aside0 (Kd.R Kd.string 9 wc w.heap.size (fun k_ => some k_ ≠ ((.slice Ao30 t1301.length co30) : Value).ownBlock ∧ some k_ ≠ ((.slice Ao34 t1307.length co34) : Value).ownBlock ∧ some k_ ≠ ((.slice Ao43 t1319.length co43) : Value).ownBlock ∧ some k_ ≠ ((.slice Ao49 t1327.length co49) : Value).ownBlock ∧ some k_ ≠ ((.slice Ao55 t1333.length co55) : Value).ownBlock) (.slice Ao38 t1313.length co38) t1356) ∧ Aside0 (Kd.R k72 72 wc w.heap.size (fun k_ => some k_ ≠ ((.slice Ao33 t1304.length co33) : Value).ownBlock ∧ some k_ ≠ ((.slice Ao54 t1330.length co54) : Value).ownBlock) (.slice Ao42 t1316.length co42) t1357) ∧ Aside0 (Kd.R Kd.string 9 wc w.heap.size (fun k_ => some k_ ≠ ((.slice Ao30 t1301.length co30) : Value).ownBlock ∧ some k_ ≠ ((.slice Ao34 t1307.length co34) : Value).ownBlock ∧ some k_ ≠ ((.slice Ao38 t1313.length co38) : Value).ownBlock ∧ some k_ ≠ ((.slice Ao49 t1327.length co49) : Value).ownBlock ∧ some k_ ≠ ((.slice Ao55 t1333.length co55) : Value).ownBlock) (.slice Ao43 t1319.length co43) t1358) ∧ Aside0 (Kd.R Kd.string 9 wc w.heap.size (fun k_ => some k_ ≠ ((.slice Ao30 t1301.length co30) : Value).ownBlock ∧ some k_ ≠ ((.slice Ao34 t1307.length co34) : Value).ownBlock ∧ some k_ ≠ ((.slice Ao38 t1313.length co38) : Value).ownBlock ∧ some k_ ≠ ((.slice Ao43 t1319.length co43) : Value).ownBlock ∧ some k_ ≠ ((.slice Ao55 t1333.length co55) : Value).ownBlock) (.slice Ao49 t1327.length co49) t1327) ∧ Aside0 (Kd.R k72 72 wc w.heap.size (fun k_ => some k_ ≠ ((.slice Ao33 t1304.length co33) : Value).ownBlock ∧ some k_ ≠ ((.slice Ao42 t1316.length co42) : Value).ownBlock) (.slice Ao54 t1330.length co54) t1330) ∧ Aside0 (Kd.R Kd.string 9 wc w.heap.size (fun k_ => some k_ ≠ ((.slice Ao30 t1301.length co30) : Value).ownBlock ∧ some k_ ≠ ((.slice Ao34 t1307.length co34) : Value).ownBlock ∧ some k_ ≠ ((.slice Ao38 t1313.length co38) : Value).ownBlock ∧ some k_ ≠ ((.slice Ao43 t1319.length co43) : Value).ownBlock ∧ some k_ ≠ ((.slice Ao49 t1327.length co49) : Value).ownBlock) (.slice Ao55 t1333.length co55) t1333) ∧ Aside0 (wc.heap[gb1286]? = some (.cells #[(.slice A0_0 l0_0.length c0_0), (.slice A0_1 l0_1.length c0_1), (.slice A0_2 l0_2.length c0_2), .int .i64 a0_3] 38 (0, 0))) ∧ Aside0 (wc.heap[gb1312]? = some (.cells #[(.slice Ao30 t1301.length co30), (.slice Ao33 t1304.length co33), (.slice Ao34 t1307.length co34), .int .i64 t1310] 44 (0, 0))) ∧ Aside0 (wc.heap[gb1323]? = some (.cells #[(.slice Ao38 t1313.length co38), (.slice Ao42 t1316.length co42), (.slice Ao43 t1319.length co43), .int .i64 t1322] 44 (0, 0))) ∧ Aside0 (wc.heap[gb1338]? = some (.cells #[(.slice Ao49 t1327.length co49), (.slice Ao54 t1330.length co54), (.slice Ao55 t1333.length co55), .int .i64 t1336] 44 (0, 0))) ∧ Aside0 (Below w.heap.size w wc))
        case first =>
         have H := HC83.out
         clear HC83
         by_cases c98 : t1359 < 0
         ·
          rw [if_pos c98] at H
          have c98b0 : decide (t1359 < 0) = true := decide_eq_true c98
          clear c98
          (first | rw [c98b0] | (simp only [i64_w, i32_w]; rw [c98b0]) | (simp only [c98b2, Bool.not_false, Bool.not_true]) | skip)
          have H' := Aside0.mk H
          clear H
          go_wp2
          go_meet
          case rel => exact ⟨_, (true), (by first | rfl | (simp; done) | (simp [*]; done)), H', ⟨by have := HJ16.out; first | omega | exact Nat.le_refl _⟩, rm HO_1313000 (fun _ hk => ⟨hk.1, ⟨hk.2.1, ⟨hk.2.2.1, ⟨hk.2.2.2.1, hk.2.2.2.2.1⟩⟩⟩⟩), rm HO_1313001 (fun _ hk => ⟨hk.1, hk.2.1⟩), rm HO_1313002 (fun _ hk => ⟨hk.1, ⟨hk.2.1, ⟨hk.2.2.1, ⟨hk.2.2.2.1, hk.2.2.2.2.1⟩⟩⟩⟩), rm HO_1324000 (fun _ hk => ⟨hk.1, ⟨hk.2.1, ⟨hk.2.2.1, ⟨hk.2.2.2.1, hk.2.2.2.2.1⟩⟩⟩⟩), rm HO_1324001 (fun _ hk => ⟨hk.1, hk.2.1⟩), rm HO_1324002 (fun _ hk => ⟨hk.1, ⟨hk.2.1, ⟨hk.2.2.1, ⟨hk.2.2.2.1, hk.2.2.2.2.1⟩⟩⟩⟩), rm HO_1339000 (fun _ hk => ⟨hk.1, ⟨hk.2.1, ⟨hk.2.2.1, ⟨hk.2.2.2.1, hk.2.2.2.2.1⟩⟩⟩⟩), rm HO_1339001 (fun _ hk => ⟨hk.1, hk.2.1⟩), rm HO_1339002 (fun _ hk => ⟨hk.1, ⟨hk.2.1, ⟨hk.2.2.1, ⟨hk.2.2.2.1, hk.2.2.2.2.1⟩⟩⟩⟩), ⟨bk BK1286⟩, ⟨bk BK1312⟩, ⟨bk BK1323⟩, ⟨bk BK1338⟩, ⟨bs4 HB GE1286 GE1312 GE1323 GE1338⟩⟩
         ·
          rw [if_neg c98] at H
          have c98b0 : decide (t1359 < 0) = false := decide_eq_false c98
          clear c98
          (first | rw [c98b0] | (simp only [i64_w, i32_w]; rw [c98b0]) | (simp only [c98b2, Bool.not_false, Bool.not_true]) | skip)
          replace H := Option.bind_eq_some_iff.mp H
          obtain ⟨t1361, A990, H⟩ := H
          replace H : (if t1361 = true then (laws_FnExactCrashStore.j1 kj16 l1 a2 t1311 (t1337 != t1311) l0_0 l0_1 l0_2 a0_3 t1301 t1304 t1307 t1310 t1327 t1330 t1333 t1336) else (laws_FnExactCrashStore.j1 kj16 l1 a2 t1311 true l0_0 l0_1 l0_2 a0_3 t1301 t1304 t1307 t1310 t1327 t1330 t1333 t1336)) = some r := H
          have A99 := Aside0.mk A990
          clear A990
          by_cases c100 : t1361 = true
          ·
           subst c100
           rw [if_pos rfl] at H
           have H' := Aside0.mk H
           clear H
           have hnb101 := NB1338_1286.out
           have hnc101 := NB1286_1338.out
           have hnb102 := NB1338_1312.out
           have hnc102 := NB1312_1338.out
           have hnb103 := NB1338_1323.out
           have hnc103 := NB1323_1338.out
           obtain ⟨hcz104_0, hcz104_1, hcz104_2, hcz104_3⟩ := cz4 BK1338
           obtain ⟨hfz104_0, hfz104_1, hfz104_2, hfz104_3⟩ := fz4 BK1338
           have hnb105 := NB1312_1286.out
           have hnc105 := NB1286_1312.out
           have hnb106 := NB1312_1323.out
           have hnc106 := NB1323_1312.out
           obtain ⟨hcz107_0, hcz107_1, hcz107_2, hcz107_3⟩ := cz4 BK1312
           obtain ⟨hfz107_0, hfz107_1, hfz107_2, hfz107_3⟩ := fz4 BK1312
           go_wp2_with (first | (go_at_call 29; (with_reducible refine (laws_eqStore.calls kj16 _ _ t1327 _ _ t1330 _ _ t1333 t1336 _ _ t1301 _ _ t1304 _ _ t1307 t1310 true _ ?side1 ?side2 ?side3 ?side4 ?side5 ?side6 ?side7 ?side8 ?side9 ?side10 ?side11 ?side12 A99.out).mono ?_); (case side1 => exact rc0 HO_1339000); (case side2 => exact (Kd.R_reads' HO_1339000.out).2.1); (case side3 => exact rc0 HO_1339001); (case side4 => exact (Kd.R_reads' HO_1339001.out).2.1); (case side5 => exact rc0 HO_1339002); (case side6 => exact (Kd.R_reads' HO_1339002.out).2.1); (case side7 => exact rc0 HO_1313000); (case side8 => exact (Kd.R_reads' HO_1313000.out).2.1); (case side9 => exact rc0 HO_1313001); (case side10 => exact (Kd.R_reads' HO_1313001.out).2.1); (case side11 => exact rc0 HO_1313002); (case side12 => exact (Kd.R_reads' HO_1313002.out).2.1); rintro e w108 ⟨rfl, hb⟩; replace HO_11 := nr HO_11 hb; replace HO_1313000 := nr HO_1313000 hb; replace HO_1313001 := nr HO_1313001 hb; replace HO_1313002 := nr HO_1313002 hb; replace HO_1324000 := nr HO_1324000 hb; replace HO_1324001 := nr HO_1324001 hb; replace HO_1324002 := nr HO_1324002 hb; replace HO_1339000 := nr HO_1339000 hb; replace HO_1339001 := nr HO_1339001 hb; replace HO_1339002 := nr HO_1339002 hb; replace HO1342 := nr HO1342 hb; replace HO1345 := nr HO1345 hb; replace HO1348 := nr HO1348 hb; replace HO1353 := nr HO1353 hb; replace BK1286 := nb BK1286 hb; replace BK1312 := nb BK1312 hb; replace BK1323 := nb BK1323 hb; replace BK1338 := nb BK1338 hb; replace HB := Aside0.mk (below_step (bs4 HB GE1286 GE1312 GE1323 GE1338) hb); (try clear hb); (try clear hb2); (try clear hk); (try clear hi)))
           go_meet
           case rel => exact ⟨_, ((t1337 != t1311)), (by first | rfl | (simp; done) | (simp [*]; done)), H', ⟨by have := HJ16.out; first | omega | exact Nat.le_refl _⟩, rm HO_1313000 (fun _ hk => ⟨hk.1, ⟨hk.2.1, ⟨hk.2.2.1, ⟨hk.2.2.2.1, hk.2.2.2.2.1⟩⟩⟩⟩), rm HO_1313001 (fun _ hk => ⟨hk.1, hk.2.1⟩), rm HO_1313002 (fun _ hk => ⟨hk.1, ⟨hk.2.1, ⟨hk.2.2.1, ⟨hk.2.2.2.1, hk.2.2.2.2.1⟩⟩⟩⟩), rm HO_1324000 (fun _ hk => ⟨hk.1, ⟨hk.2.1, ⟨hk.2.2.1, ⟨hk.2.2.2.1, hk.2.2.2.2.1⟩⟩⟩⟩), rm HO_1324001 (fun _ hk => ⟨hk.1, hk.2.1⟩), rm HO_1324002 (fun _ hk => ⟨hk.1, ⟨hk.2.1, ⟨hk.2.2.1, ⟨hk.2.2.2.1, hk.2.2.2.2.1⟩⟩⟩⟩), rm HO_1339000 (fun _ hk => ⟨hk.1, ⟨hk.2.1, ⟨hk.2.2.1, ⟨hk.2.2.2.1, hk.2.2.2.2.1⟩⟩⟩⟩), rm HO_1339001 (fun _ hk => ⟨hk.1, hk.2.1⟩), rm HO_1339002 (fun _ hk => ⟨hk.1, ⟨hk.2.1, ⟨hk.2.2.1, ⟨hk.2.2.2.1, hk.2.2.2.2.1⟩⟩⟩⟩), ⟨bk BK1286⟩, ⟨bk BK1312⟩, ⟨bk BK1323⟩, ⟨bk BK1338⟩, ⟨bs4 HB GE1286 GE1312 GE1323 GE1338⟩⟩
          ·
           replace c100 := Bool.eq_false_iff.mpr c100
           subst c100
           rw [if_neg (show ¬ (false = true) by decide)] at H
           have H' := Aside0.mk H
           clear H
           have hnb109 := NB1338_1286.out
           have hnc109 := NB1286_1338.out
           have hnb110 := NB1338_1312.out
           have hnc110 := NB1312_1338.out
           have hnb111 := NB1338_1323.out
           have hnc111 := NB1323_1338.out
           obtain ⟨hcz112_0, hcz112_1, hcz112_2, hcz112_3⟩ := cz4 BK1338
           obtain ⟨hfz112_0, hfz112_1, hfz112_2, hfz112_3⟩ := fz4 BK1338
           have hnb113 := NB1312_1286.out
           have hnc113 := NB1286_1312.out
           have hnb114 := NB1312_1323.out
           have hnc114 := NB1323_1312.out
           obtain ⟨hcz115_0, hcz115_1, hcz115_2, hcz115_3⟩ := cz4 BK1312
           obtain ⟨hfz115_0, hfz115_1, hfz115_2, hfz115_3⟩ := fz4 BK1312
           go_wp2_with (first | (go_at_call 29; (with_reducible refine (laws_eqStore.calls kj16 _ _ t1327 _ _ t1330 _ _ t1333 t1336 _ _ t1301 _ _ t1304 _ _ t1307 t1310 false _ ?side1 ?side2 ?side3 ?side4 ?side5 ?side6 ?side7 ?side8 ?side9 ?side10 ?side11 ?side12 A99.out).mono ?_); (case side1 => exact rc0 HO_1339000); (case side2 => exact (Kd.R_reads' HO_1339000.out).2.1); (case side3 => exact rc0 HO_1339001); (case side4 => exact (Kd.R_reads' HO_1339001.out).2.1); (case side5 => exact rc0 HO_1339002); (case side6 => exact (Kd.R_reads' HO_1339002.out).2.1); (case side7 => exact rc0 HO_1313000); (case side8 => exact (Kd.R_reads' HO_1313000.out).2.1); (case side9 => exact rc0 HO_1313001); (case side10 => exact (Kd.R_reads' HO_1313001.out).2.1); (case side11 => exact rc0 HO_1313002); (case side12 => exact (Kd.R_reads' HO_1313002.out).2.1); rintro e w116 ⟨rfl, hb⟩; replace HO_11 := nr HO_11 hb; replace HO_1313000 := nr HO_1313000 hb; replace HO_1313001 := nr HO_1313001 hb; replace HO_1313002 := nr HO_1313002 hb; replace HO_1324000 := nr HO_1324000 hb; replace HO_1324001 := nr HO_1324001 hb; replace HO_1324002 := nr HO_1324002 hb; replace HO_1339000 := nr HO_1339000 hb; replace HO_1339001 := nr HO_1339001 hb; replace HO_1339002 := nr HO_1339002 hb; replace HO1342 := nr HO1342 hb; replace HO1345 := nr HO1345 hb; replace HO1348 := nr HO1348 hb; replace HO1353 := nr HO1353 hb; replace BK1286 := nb BK1286 hb; replace BK1312 := nb BK1312 hb; replace BK1323 := nb BK1323 hb; replace BK1338 := nb BK1338 hb; replace HB := Aside0.mk (below_step (bs4 HB GE1286 GE1312 GE1323 GE1338) hb); (try clear hb); (try clear hb2); (try clear hk); (try clear hi)))
           go_meet
           case rel => exact ⟨_, (true), (by first | rfl | (simp; done) | (simp [*]; done)), H', ⟨by have := HJ16.out; first | omega | exact Nat.le_refl _⟩, rm HO_1313000 (fun _ hk => ⟨hk.1, ⟨hk.2.1, ⟨hk.2.2.1, ⟨hk.2.2.2.1, hk.2.2.2.2.1⟩⟩⟩⟩), rm HO_1313001 (fun _ hk => ⟨hk.1, hk.2.1⟩), rm HO_1313002 (fun _ hk => ⟨hk.1, ⟨hk.2.1, ⟨hk.2.2.1, ⟨hk.2.2.2.1, hk.2.2.2.2.1⟩⟩⟩⟩), rm HO_1324000 (fun _ hk => ⟨hk.1, ⟨hk.2.1, ⟨hk.2.2.1, ⟨hk.2.2.2.1, hk.2.2.2.2.1⟩⟩⟩⟩), rm HO_1324001 (fun _ hk => ⟨hk.1, hk.2.1⟩), rm HO_1324002 (fun _ hk => ⟨hk.1, ⟨hk.2.1, ⟨hk.2.2.1, ⟨hk.2.2.2.1, hk.2.2.2.2.1⟩⟩⟩⟩), rm HO_1339000 (fun _ hk => ⟨hk.1, ⟨hk.2.1, ⟨hk.2.2.1, ⟨hk.2.2.2.1, hk.2.2.2.2.1⟩⟩⟩⟩), rm HO_1339001 (fun _ hk => ⟨hk.1, hk.2.1⟩), rm HO_1339002 (fun _ hk => ⟨hk.1, ⟨hk.2.1, ⟨hk.2.2.1, ⟨hk.2.2.2.1, hk.2.2.2.2.1⟩⟩⟩⟩), ⟨bk BK1286⟩, ⟨bk BK1312⟩, ⟨bk BK1323⟩, ⟨bk BK1338⟩, ⟨bs4 HB GE1286 GE1312 GE1323 GE1338⟩⟩
        case rest =>
         clear HC83
         try clear c1
         try clear c2
         try clear p2
         try clear c3
         try clear c4
         try clear c4b0
         try clear c4b1
         try clear c5
         try clear c6
         try clear c7
         try clear c7b0
         try clear c8
         try clear c9
         try clear c10
         try clear c11
         try clear c13
         try clear c25
         try clear c27
         try clear c29
         try clear c31
         try clear c32
         try clear c39
         try clear c40
         try clear c49
         try clear c50
         try clear c51
         try clear c52
         try clear c53
         try clear c57
         try clear c58
         try clear c59
         try clear c60
         try clear c62
         try clear c63
         try clear c66
         try clear c67
         try clear c68
         try clear c70
         try clear c71
         try clear c74
         try clear c77
         try clear c80
         try clear c92
         try clear c93
         try clear c94
         try clear c98
         try clear c98b0
         try clear c100
         try clear c101
         try clear c102
         try clear c103
         try clear c105
         try clear c106
         try clear c109
         try clear c110
         try clear c111
         try clear c113
         try clear c114
         try clear hcz104_0 hcz104_1 hcz104_2 hcz104_3
         try clear hcz107_0 hcz107_1 hcz107_2 hcz107_3
         try clear hcz112_0 hcz112_1 hcz112_2 hcz112_3
         try clear hcz115_0 hcz115_1 hcz115_2 hcz115_3
         try clear hcz19_0 hcz19_1 hcz19_2 hcz19_3
         try clear hcz21_0 hcz21_1 hcz21_2 hcz21_3
         try clear hcz32_0 hcz32_1 hcz32_2 hcz32_3
         try clear hcz35_0 hcz35_1 hcz35_2 hcz35_3
         try clear hcz41_0 hcz41_1 hcz41_2 hcz41_3
         try clear hcz45_0 hcz45_1 hcz45_2 hcz45_3
         try clear hcz53_0 hcz53_1 hcz53_2 hcz53_3
         try clear hcz61_0 hcz61_1 hcz61_2 hcz61_3
         try clear hcz64_0 hcz64_1 hcz64_2 hcz64_3
         try clear hcz69_0 hcz69_1 hcz69_2 hcz69_3
         try clear hcz72_0 hcz72_1 hcz72_2 hcz72_3
         try clear hcz95_0 hcz95_1 hcz95_2 hcz95_3
         try clear hcz9_0 hcz9_1 hcz9_2 hcz9_3
         try clear hfz104_0 hfz104_1 hfz104_2 hfz104_3
         try clear hfz107_0 hfz107_1 hfz107_2 hfz107_3
         try clear hfz112_0 hfz112_1 hfz112_2 hfz112_3
         try clear hfz115_0 hfz115_1 hfz115_2 hfz115_3
         try clear hfz19_0 hfz19_1 hfz19_2 hfz19_3
         try clear hfz21_0 hfz21_1 hfz21_2 hfz21_3
         try clear hfz32_0 hfz32_1 hfz32_2 hfz32_3
         try clear hfz35_0 hfz35_1 hfz35_2 hfz35_3
         try clear hfz41_0 hfz41_1 hfz41_2 hfz41_3
         try clear hfz45_0 hfz45_1 hfz45_2 hfz45_3
         try clear hfz53_0 hfz53_1 hfz53_2 hfz53_3
         try clear hfz61_0 hfz61_1 hfz61_2 hfz61_3
         try clear hfz64_0 hfz64_1 hfz64_2 hfz64_3
         try clear hfz69_0 hfz69_1 hfz69_2 hfz69_3
         try clear hfz72_0 hfz72_1 hfz72_2 hfz72_3
         try clear hfz95_0 hfz95_1 hfz95_2 hfz95_3
         try clear hfz9_0 hfz9_1 hfz9_2 hfz9_3
         try clear p2
         obtain ⟨kq, x84_82, rfl, HA, HJ82, HO_1313000, HO_1313001, HO_1313002, HO_1324000, HO_1324001, HO_1324002, HO_1339000, HO_1339001, HO_1339002, BK1286, BK1312, BK1323, BK1338, HB⟩ := hcut
         have hl1324000_82 := (Kd.R_reads' HO_1324000.out).1
         rw [hl1324000_82] at HO_1324000
         (try simp only [hl1324000_82])
         (try simp only [hl1324000_82] at BK1286)
         (try simp only [hl1324000_82] at BK1312)
         (try simp only [hl1324000_82] at BK1323)
         (try simp only [hl1324000_82] at BK1338)
         (try simp only [hl1324000_82] at HO_1313000)
         (try simp only [hl1324000_82] at HO_1313001)
         (try simp only [hl1324000_82] at HO_1313002)
         (try simp only [hl1324000_82] at HO_1324001)
         (try simp only [hl1324000_82] at HO_1324002)
         (try simp only [hl1324000_82] at HO_1339000)
         (try simp only [hl1324000_82] at HO_1339001)
         (try simp only [hl1324000_82] at HO_1339002)
         have hl1324001_82 := (Kd.R_reads' HO_1324001.out).1
         rw [hl1324001_82] at HO_1324001
         (try simp only [hl1324001_82])
         (try simp only [hl1324001_82] at BK1286)
         (try simp only [hl1324001_82] at BK1312)
         (try simp only [hl1324001_82] at BK1323)
         (try simp only [hl1324001_82] at BK1338)
         (try simp only [hl1324001_82] at HO_1313000)
         (try simp only [hl1324001_82] at HO_1313001)
         (try simp only [hl1324001_82] at HO_1313002)
         (try simp only [hl1324001_82] at HO_1324000)
         (try simp only [hl1324001_82] at HO_1324002)
         (try simp only [hl1324001_82] at HO_1339000)
         (try simp only [hl1324001_82] at HO_1339001)
         (try simp only [hl1324001_82] at HO_1339002)
         have hl1324002_82 := (Kd.R_reads' HO_1324002.out).1
         rw [hl1324002_82] at HO_1324002
         (try simp only [hl1324002_82])
         (try simp only [hl1324002_82] at BK1286)
         (try simp only [hl1324002_82] at BK1312)
         (try simp only [hl1324002_82] at BK1323)
         (try simp only [hl1324002_82] at BK1338)
         (try simp only [hl1324002_82] at HO_1313000)
         (try simp only [hl1324002_82] at HO_1313001)
         (try simp only [hl1324002_82] at HO_1313002)
         (try simp only [hl1324002_82] at HO_1324000)
         (try simp only [hl1324002_82] at HO_1324001)
         (try simp only [hl1324002_82] at HO_1339000)
         (try simp only [hl1324002_82] at HO_1339001)
         (try simp only [hl1324002_82] at HO_1339002)
         cases kq with
         | zero => exact absurd HA.out (by simp [laws_FnExactCrashStore.j1])
         | succ kj82 =>
          have H := HA.out
          clear HA
          simp only [laws_FnExactCrashStore.j1] at H
          by_cases c117 : x84_82 = true
          ·
           subst c117
           rw [if_pos rfl] at H
           obtain rfl := Option.some.inj H
           go_wp2
           go_ret
           exact ⟨by first | rfl | (simp [errW_none, errW_some] <;> rfl) | (simp [*, errW_none, errW_some] <;> rfl), bs4 HB GE1286 GE1312 GE1323 GE1338⟩
          ·
           replace c117 := Bool.eq_false_iff.mpr c117
           subst c117
           rw [if_neg (show ¬ (false = true) by decide)] at H
           replace H := Option.bind_eq_some_iff.mp H
           obtain ⟨⟨t1362, t1363, t1364, t1365⟩, A1180, H⟩ := H
           replace H : ((laws_heldStore.f kj82 t1363 t1364 t1365 t1336 1).bind fun t1366 => (if t1366 < 0 then (some false) else (if t1366 = t1362 then ((laws_toStore.f kj82 l0_0 l0_1 l0_2 a0_3).bind fun bt1367 => ((laws_toBoolS.f kj82 l1).bind fun t1377 => ((impl_CrashStore.f kj82 bt1367.1 bt1367.2.1 bt1367.2.2.1 bt1367.2.2.2 t1377 a2).bind fun bt1380 => ((laws_eqStore.f kj82 bt1380.1 bt1380.2.1 bt1380.2.2.1 bt1380.2.2.2.1 t1301 t1304 t1307 t1310).bind fun t1392 => (if t1392 = true then (laws_FnExactCrashStore.j2 kj82 t1362 (bt1380.2.2.2.2 != t1311) t1363 t1364 t1365 t1336) else (laws_FnExactCrashStore.j2 kj82 t1362 true t1363 t1364 t1365 t1336)))))) else (some false)))) = some r := H
           have A118 := Aside0.mk A1180
           clear A1180
           replace H := Option.bind_eq_some_iff.mp H
           obtain ⟨t1366, A1190, H⟩ := H
           replace H : (if t1366 < 0 then (some false) else (if t1366 = t1362 then ((laws_toStore.f kj82 l0_0 l0_1 l0_2 a0_3).bind fun bt1367 => ((laws_toBoolS.f kj82 l1).bind fun t1377 => ((impl_CrashStore.f kj82 bt1367.1 bt1367.2.1 bt1367.2.2.1 bt1367.2.2.2 t1377 a2).bind fun bt1380 => ((laws_eqStore.f kj82 bt1380.1 bt1380.2.1 bt1380.2.2.1 bt1380.2.2.2.1 t1301 t1304 t1307 t1310).bind fun t1392 => (if t1392 = true then (laws_FnExactCrashStore.j2 kj82 t1362 (bt1380.2.2.2.2 != t1311) t1363 t1364 t1365 t1336) else (laws_FnExactCrashStore.j2 kj82 t1362 true t1363 t1364 t1365 t1336)))))) else (some false))) = some r := H
           have A119 := Aside0.mk A1190
           clear A1190
           by_cases c120 : t1366 < 0
           ·
            rw [if_pos c120] at H
            have c120b0 : decide (t1366 < 0) = true := decide_eq_true c120
            clear c120
            obtain rfl := Option.some.inj H
            have hnb121 := NB1338_1286.out
            have hnc121 := NB1286_1338.out
            have hnb122 := NB1338_1312.out
            have hnc122 := NB1312_1338.out
            have hnb123 := NB1338_1323.out
            have hnc123 := NB1323_1338.out
            obtain ⟨hcz124_0, hcz124_1, hcz124_2, hcz124_3⟩ := cz4 BK1338
            obtain ⟨hfz124_0, hfz124_1, hfz124_2, hfz124_3⟩ := fz4 BK1338
            go_wp2_with (first | ((with_reducible refine gate_callee (f := 32) rfl ?_); refine gL (some 87) rfl rfl Try.func32 (by kernel_rfl) rfl #[.agg #[.slice Ao49 t1327.length co49, .slice Ao54 t1330.length co54, .slice Ao55 t1333.length co55, .int .i64 t1336], .int .i64 1] rfl ?_; (with_reducible refine (laws_markStore.calls kj82 (fun k_ => some k_ = (.slice Ao49 t1327.length co49 : Value).ownBlock) (.slice Ao49 t1327.length co49) t1327 (fun k_ => some k_ = (.slice Ao54 t1330.length co54 : Value).ownBlock) (.slice Ao54 t1330.length co54) t1330 (fun k_ => some k_ = (.slice Ao55 t1333.length co55 : Value).ownBlock) (.slice Ao55 t1333.length co55) t1333 t1336 1 t1362 t1363 t1364 t1365 w _ ?side1 ?side2 ?side3 ?side4 ?side5 ?side6 A118.out).mono ?_); (case side1 => repeat (first | (with_reducible first | exact HB.out | apply below_alloc | apply pw_below_drewN | apply below_drew1 | refine below_set ?_ GE1286.out | refine below_set ?_ GE1312.out | refine below_set ?_ GE1323.out | refine below_set ?_ GE1338.out) | exact HB.out)); (case side2 => exact Kd.R_tight rfl HO_1339000.out); (case side3 => exact fun k_ e_ => (HO_1339000.out.1 k_ e_.symm).2.2.2.2); (case side4 => exact Kd.R_tight rfl HO_1339001.out); (case side5 => exact Kd.R_tight rfl HO_1339002.out); (case side6 => exact fun k_ e_ => (HO_1339002.out.1 k_ e_.symm).2.2.2.2); rintro e w125 ⟨rfl, hy0, hy1, hy2, hb, hkp⟩; refine ⟨_, rfl, ?_⟩; replace HO_1313000 := Aside0.mk (Kd.R_mono (ok' := fun k_ => some k_ ≠ (.slice Ao34 t1307.length co34 : Value).ownBlock ∧ some k_ ≠ (.slice Ao38 t1356.length co38 : Value).ownBlock ∧ some k_ ≠ (.slice Ao43 t1358.length co43 : Value).ownBlock ∧ some k_ ≠ (.slice Ao49 t1327.length co49 : Value).ownBlock ∧ some k_ ≠ (.slice Ao55 t1333.length co55 : Value).ownBlock) (Kd.R_keptB ((Kd.R_apart' HO_1313000.out (Kd.R_typed HO_1339001.out) (by decide))) hkp (fun k_ hk_ hs_ => Or.elim hs_ (fun e_ => (hk_.1.2.2.2.1) e_) (fun e_ => Or.elim e_ (fun e_ => (hk_.2) e_) (fun e_ => (hk_.1.2.2.2.2) e_)))) (fun k_ hk_ => ⟨hk_.1.1.1, hk_.1.1.2.1, hk_.1.1.2.2.1, hk_.1.1.2.2.2.1, hk_.1.1.2.2.2.2⟩)); replace HO_1313001 := Aside0.mk (Kd.R_mono (ok' := fun k_ => some k_ ≠ (.slice Ao42 t1357.length co42 : Value).ownBlock ∧ some k_ ≠ (.slice Ao54 t1330.length co54 : Value).ownBlock) (Kd.R_keptB ((Kd.R_apart' (Kd.R_apart' HO_1313001.out (Kd.R_typed HO_1339000.out) (by decide)) (Kd.R_typed HO_1339002.out) (by decide))) hkp (fun k_ hk_ hs_ => Or.elim hs_ (fun e_ => (hk_.1.2) e_) (fun e_ => Or.elim e_ (fun e_ => (hk_.1.1.2) e_) (fun e_ => (hk_.2) e_)))) (fun k_ hk_ => ⟨hk_.1.1.1.1, hk_.1.1.1.2⟩)); replace HO_1313002 := Aside0.mk (Kd.R_mono (ok' := fun k_ => some k_ ≠ (.slice Ao30 t1301.length co30 : Value).ownBlock ∧ some k_ ≠ (.slice Ao38 t1356.length co38 : Value).ownBlock ∧ some k_ ≠ (.slice Ao43 t1358.length co43 : Value).ownBlock ∧ some k_ ≠ (.slice Ao49 t1327.length co49 : Value).ownBlock ∧ some k_ ≠ (.slice Ao55 t1333.length co55 : Value).ownBlock) (Kd.R_keptB ((Kd.R_apart' HO_1313002.out (Kd.R_typed HO_1339001.out) (by decide))) hkp (fun k_ hk_ hs_ => Or.elim hs_ (fun e_ => (hk_.1.2.2.2.1) e_) (fun e_ => Or.elim e_ (fun e_ => (hk_.2) e_) (fun e_ => (hk_.1.2.2.2.2) e_)))) (fun k_ hk_ => ⟨hk_.1.1.1, hk_.1.1.2.1, hk_.1.1.2.2.1, hk_.1.1.2.2.2.1, hk_.1.1.2.2.2.2⟩)); replace HO_1324000 := Aside0.mk (Kd.R_mono (ok' := fun k_ => some k_ ≠ (.slice Ao30 t1301.length co30 : Value).ownBlock ∧ some k_ ≠ (.slice Ao34 t1307.length co34 : Value).ownBlock ∧ some k_ ≠ (.slice Ao43 t1358.length co43 : Value).ownBlock ∧ some k_ ≠ (.slice Ao49 t1327.length co49 : Value).ownBlock ∧ some k_ ≠ (.slice Ao55 t1333.length co55 : Value).ownBlock) (Kd.R_keptB ((Kd.R_apart' HO_1324000.out (Kd.R_typed HO_1339001.out) (by decide))) hkp (fun k_ hk_ hs_ => Or.elim hs_ (fun e_ => (hk_.1.2.2.2.1) e_) (fun e_ => Or.elim e_ (fun e_ => (hk_.2) e_) (fun e_ => (hk_.1.2.2.2.2) e_)))) (fun k_ hk_ => ⟨hk_.1.1.1, hk_.1.1.2.1, hk_.1.1.2.2.1, hk_.1.1.2.2.2.1, hk_.1.1.2.2.2.2⟩)); replace HO_1324001 := Aside0.mk (Kd.R_mono (ok' := fun k_ => some k_ ≠ (.slice Ao33 t1304.length co33 : Value).ownBlock ∧ some k_ ≠ (.slice Ao54 t1330.length co54 : Value).ownBlock) (Kd.R_keptB ((Kd.R_apart' (Kd.R_apart' HO_1324001.out (Kd.R_typed HO_1339000.out) (by decide)) (Kd.R_typed HO_1339002.out) (by decide))) hkp (fun k_ hk_ hs_ => Or.elim hs_ (fun e_ => (hk_.1.2) e_) (fun e_ => Or.elim e_ (fun e_ => (hk_.1.1.2) e_) (fun e_ => (hk_.2) e_)))) (fun k_ hk_ => ⟨hk_.1.1.1.1, hk_.1.1.1.2⟩)); replace HO_1324002 := Aside0.mk (Kd.R_mono (ok' := fun k_ => some k_ ≠ (.slice Ao30 t1301.length co30 : Value).ownBlock ∧ some k_ ≠ (.slice Ao34 t1307.length co34 : Value).ownBlock ∧ some k_ ≠ (.slice Ao38 t1356.length co38 : Value).ownBlock ∧ some k_ ≠ (.slice Ao49 t1327.length co49 : Value).ownBlock ∧ some k_ ≠ (.slice Ao55 t1333.length co55 : Value).ownBlock) (Kd.R_keptB ((Kd.R_apart' HO_1324002.out (Kd.R_typed HO_1339001.out) (by decide))) hkp (fun k_ hk_ hs_ => Or.elim hs_ (fun e_ => (hk_.1.2.2.2.1) e_) (fun e_ => Or.elim e_ (fun e_ => (hk_.2) e_) (fun e_ => (hk_.1.2.2.2.2) e_)))) (fun k_ hk_ => ⟨hk_.1.1.1, hk_.1.1.2.1, hk_.1.1.2.2.1, hk_.1.1.2.2.2.1, hk_.1.1.2.2.2.2⟩)); replace BK1286 := Aside0.mk (blk_kept (bk BK1286) hkp (fun hs_ => Or.elim hs_ (fun e_ => (fun e_ => (Kd.R_ne HO_1339000.out BK1286.out (by decide)) e_) e_) (fun e_ => Or.elim e_ (fun e_ => (fun e_ => (Kd.R_ne HO_1339001.out BK1286.out (by decide)) e_) e_) (fun e_ => (fun e_ => (Kd.R_ne HO_1339002.out BK1286.out (by decide)) e_) e_)))); replace BK1312 := Aside0.mk (blk_kept (bk BK1312) hkp (fun hs_ => Or.elim hs_ (fun e_ => (fun e_ => (Kd.R_ne HO_1339000.out BK1312.out (by decide)) e_) e_) (fun e_ => Or.elim e_ (fun e_ => (fun e_ => (Kd.R_ne HO_1339001.out BK1312.out (by decide)) e_) e_) (fun e_ => (fun e_ => (Kd.R_ne HO_1339002.out BK1312.out (by decide)) e_) e_)))); replace BK1323 := Aside0.mk (blk_kept (bk BK1323) hkp (fun hs_ => Or.elim hs_ (fun e_ => (fun e_ => (Kd.R_ne HO_1339000.out BK1323.out (by decide)) e_) e_) (fun e_ => Or.elim e_ (fun e_ => (fun e_ => (Kd.R_ne HO_1339001.out BK1323.out (by decide)) e_) e_) (fun e_ => (fun e_ => (Kd.R_ne HO_1339002.out BK1323.out (by decide)) e_) e_)))); replace BK1338 := Aside0.mk (blk_kept (bk BK1338) hkp (fun hs_ => Or.elim hs_ (fun e_ => (fun e_ => (Kd.R_ne HO_1339000.out BK1338.out (by decide)) e_) e_) (fun e_ => Or.elim e_ (fun e_ => (fun e_ => (Kd.R_ne HO_1339001.out BK1338.out (by decide)) e_) e_) (fun e_ => (fun e_ => (Kd.R_ne HO_1339002.out BK1338.out (by decide)) e_) e_)))); replace HO_1339000 := Aside0.mk (Kd.R_reok rfl hy0 (fun k_ e_ => HO_1339000.out.1 k_ e_)); replace HO_1339001 := Aside0.mk (Kd.R_reok rfl hy1 (fun k_ e_ => HO_1339001.out.1 k_ e_)); replace HO_1339002 := Aside0.mk (Kd.R_reok rfl hy2 (fun k_ e_ => HO_1339002.out.1 k_ e_)); replace HB := Aside0.mk (hb); (try clear hb); (try clear hkp); (try clear hy0); (try clear hy1); (try clear hy2); obtain ⟨hcz126_0, hcz126_1, hcz126_2, hcz126_3⟩ := cz4 BK1338; obtain ⟨hfz126_0, hfz126_1, hfz126_2, hfz126_3⟩ := fz4 BK1338) | ((with_reducible refine gate_callee (f := 33) rfl ?_); refine goesL_ (some 90) rfl rfl Try.func33 (by kernel_rfl) rfl #[.agg #[.slice Ao49 t1363.length co49, .slice Ao54 t1364.length co54, .slice Ao55 t1365.length co55, .int .i64 t1336], .int .i64 1] rfl (by (try simp only [List.map_toArray, List.map_cons, List.map_nil]); first | done | (rw [show t1363.length = t1327.length from (Kd.R_reads' HO_1339000.out).1.symm, show t1364.length = t1330.length from (Kd.R_reads' HO_1339001.out).1.symm, show t1365.length = t1333.length from (Kd.R_reads' HO_1339002.out).1.symm] <;> rfl) | rfl | (simp only [List.length_drop, List.length_take]; rfl)) ?_; (with_reducible refine (laws_heldStore.calls kj82 _ _ t1363 _ _ t1364 _ _ t1365 t1336 1 t1366 _ ?side1 ?side2 ?side3 ?side4 ?side5 ?side6 A119.out).mono ?_); (case side1 => exact rc0 HO_1339000); (case side2 => rw [show t1363.length = t1327.length from (Kd.R_reads' HO_1339000.out).1.symm]; exact (Kd.R_reads' HO_1339000.out).2.1); (case side3 => exact rc0 HO_1339001); (case side4 => rw [show t1364.length = t1330.length from (Kd.R_reads' HO_1339001.out).1.symm]; exact (Kd.R_reads' HO_1339001.out).2.1); (case side5 => exact rc0 HO_1339002); (case side6 => rw [show t1365.length = t1333.length from (Kd.R_reads' HO_1339002.out).1.symm]; exact (Kd.R_reads' HO_1339002.out).2.1); rintro e w127 ⟨rfl, hb⟩; refine ⟨_, rfl, ?_⟩; replace HO_1313000 := nr HO_1313000 hb; replace HO_1313001 := nr HO_1313001 hb; replace HO_1313002 := nr HO_1313002 hb; replace HO_1324000 := nr HO_1324000 hb; replace HO_1324001 := nr HO_1324001 hb; replace HO_1324002 := nr HO_1324002 hb; replace HO_1339000 := nr HO_1339000 hb; replace HO_1339001 := nr HO_1339001 hb; replace HO_1339002 := nr HO_1339002 hb; replace BK1286 := nb BK1286 hb; replace BK1312 := nb BK1312 hb; replace BK1323 := nb BK1323 hb; replace BK1338 := nb BK1338 hb; replace HB := Aside0.mk (below_step (bs4 HB GE1286 GE1312 GE1323 GE1338) hb); (try clear hb); (try clear hb2); (try clear hk); (try clear hi)))
            go_ret
            exact ⟨by first | rfl | (simp [errW_none, errW_some] <;> rfl) | (simp [*, errW_none, errW_some] <;> rfl), bs4 HB GE1286 GE1312 GE1323 GE1338⟩
           ·
            rw [if_neg c120] at H
            have c120b0 : decide (t1366 < 0) = false := decide_eq_false c120
            clear c120
            by_cases c128 : t1366 = t1362
            ·
             rw [if_pos c128] at H
             have c128b0 : (t1366 == t1362) = true := beq_iff_eq.mpr c128
             have c128b1 : (t1366 != t1362) = false := bne_eq_false_iff_eq.mpr c128
             clear c128
             replace H := Option.bind_eq_some_iff.mp H
             obtain ⟨⟨t1367, t1370, t1373, t1376⟩, A1290, H⟩ := H
             replace H : ((laws_toBoolS.f kj82 l1).bind fun t1377 => ((impl_CrashStore.f kj82 t1367 t1370 t1373 t1376 t1377 a2).bind fun bt1380 => ((laws_eqStore.f kj82 bt1380.1 bt1380.2.1 bt1380.2.2.1 bt1380.2.2.2.1 t1301 t1304 t1307 t1310).bind fun t1392 => (if t1392 = true then (laws_FnExactCrashStore.j2 kj82 t1362 (bt1380.2.2.2.2 != t1311) t1363 t1364 t1365 t1336) else (laws_FnExactCrashStore.j2 kj82 t1362 true t1363 t1364 t1365 t1336))))) = some r := H
             have A129 := Aside0.mk A1290
             clear A1290
             replace H := Option.bind_eq_some_iff.mp H
             obtain ⟨t1377, A1300, H⟩ := H
             replace H : ((impl_CrashStore.f kj82 t1367 t1370 t1373 t1376 t1377 a2).bind fun bt1380 => ((laws_eqStore.f kj82 bt1380.1 bt1380.2.1 bt1380.2.2.1 bt1380.2.2.2.1 t1301 t1304 t1307 t1310).bind fun t1392 => (if t1392 = true then (laws_FnExactCrashStore.j2 kj82 t1362 (bt1380.2.2.2.2 != t1311) t1363 t1364 t1365 t1336) else (laws_FnExactCrashStore.j2 kj82 t1362 true t1363 t1364 t1365 t1336)))) = some r := H
             have A130 := Aside0.mk A1300
             clear A1300
             replace H := Option.bind_eq_some_iff.mp H
             obtain ⟨⟨t1380, t1383, t1386, t1389, t1390⟩, A1310, H⟩ := H
             replace H : ((laws_eqStore.f kj82 t1380 t1383 t1386 t1389 t1301 t1304 t1307 t1310).bind fun t1392 => (if t1392 = true then (laws_FnExactCrashStore.j2 kj82 t1362 (t1390 != t1311) t1363 t1364 t1365 t1336) else (laws_FnExactCrashStore.j2 kj82 t1362 true t1363 t1364 t1365 t1336))) = some r := H
             have A131 := Aside0.mk A1310
             clear A1310
             have HC132 := Aside0.mk H
             clear H
             have hnb133 := NB1338_1286.out
             have hnc133 := NB1286_1338.out
             have hnb134 := NB1338_1312.out
             have hnc134 := NB1312_1338.out
             have hnb135 := NB1338_1323.out
             have hnc135 := NB1323_1338.out
             obtain ⟨hcz136_0, hcz136_1, hcz136_2, hcz136_3⟩ := cz4 BK1338
             obtain ⟨hfz136_0, hfz136_1, hfz136_2, hfz136_3⟩ := fz4 BK1338
             go_upto_region 31 with (first | ((with_reducible refine gate_callee (f := 32) rfl ?_); refine gL (some 87) rfl rfl Try.func32 (by kernel_rfl) rfl #[.agg #[.slice Ao49 t1327.length co49, .slice Ao54 t1330.length co54, .slice Ao55 t1333.length co55, .int .i64 t1336], .int .i64 1] rfl ?_; (with_reducible refine (laws_markStore.calls kj82 (fun k_ => some k_ = (.slice Ao49 t1327.length co49 : Value).ownBlock) (.slice Ao49 t1327.length co49) t1327 (fun k_ => some k_ = (.slice Ao54 t1330.length co54 : Value).ownBlock) (.slice Ao54 t1330.length co54) t1330 (fun k_ => some k_ = (.slice Ao55 t1333.length co55 : Value).ownBlock) (.slice Ao55 t1333.length co55) t1333 t1336 1 t1362 t1363 t1364 t1365 w _ ?side1 ?side2 ?side3 ?side4 ?side5 ?side6 A118.out).mono ?_); (case side1 => repeat (first | (with_reducible first | exact HB.out | apply below_alloc | apply pw_below_drewN | apply below_drew1 | refine below_set ?_ GE1286.out | refine below_set ?_ GE1312.out | refine below_set ?_ GE1323.out | refine below_set ?_ GE1338.out) | exact HB.out)); (case side2 => exact Kd.R_tight rfl HO_1339000.out); (case side3 => exact fun k_ e_ => (HO_1339000.out.1 k_ e_.symm).2.2.2.2); (case side4 => exact Kd.R_tight rfl HO_1339001.out); (case side5 => exact Kd.R_tight rfl HO_1339002.out); (case side6 => exact fun k_ e_ => (HO_1339002.out.1 k_ e_.symm).2.2.2.2); rintro e w137 ⟨rfl, hy0, hy1, hy2, hb, hkp⟩; refine ⟨_, rfl, ?_⟩; replace HO_1313000 := Aside0.mk (Kd.R_mono (ok' := fun k_ => some k_ ≠ (.slice Ao34 t1307.length co34 : Value).ownBlock ∧ some k_ ≠ (.slice Ao38 t1356.length co38 : Value).ownBlock ∧ some k_ ≠ (.slice Ao43 t1358.length co43 : Value).ownBlock ∧ some k_ ≠ (.slice Ao49 t1327.length co49 : Value).ownBlock ∧ some k_ ≠ (.slice Ao55 t1333.length co55 : Value).ownBlock) (Kd.R_keptB ((Kd.R_apart' HO_1313000.out (Kd.R_typed HO_1339001.out) (by decide))) hkp (fun k_ hk_ hs_ => Or.elim hs_ (fun e_ => (hk_.1.2.2.2.1) e_) (fun e_ => Or.elim e_ (fun e_ => (hk_.2) e_) (fun e_ => (hk_.1.2.2.2.2) e_)))) (fun k_ hk_ => ⟨hk_.1.1.1, hk_.1.1.2.1, hk_.1.1.2.2.1, hk_.1.1.2.2.2.1, hk_.1.1.2.2.2.2⟩)); replace HO_1313001 := Aside0.mk (Kd.R_mono (ok' := fun k_ => some k_ ≠ (.slice Ao42 t1357.length co42 : Value).ownBlock ∧ some k_ ≠ (.slice Ao54 t1330.length co54 : Value).ownBlock) (Kd.R_keptB ((Kd.R_apart' (Kd.R_apart' HO_1313001.out (Kd.R_typed HO_1339000.out) (by decide)) (Kd.R_typed HO_1339002.out) (by decide))) hkp (fun k_ hk_ hs_ => Or.elim hs_ (fun e_ => (hk_.1.2) e_) (fun e_ => Or.elim e_ (fun e_ => (hk_.1.1.2) e_) (fun e_ => (hk_.2) e_)))) (fun k_ hk_ => ⟨hk_.1.1.1.1, hk_.1.1.1.2⟩)); replace HO_1313002 := Aside0.mk (Kd.R_mono (ok' := fun k_ => some k_ ≠ (.slice Ao30 t1301.length co30 : Value).ownBlock ∧ some k_ ≠ (.slice Ao38 t1356.length co38 : Value).ownBlock ∧ some k_ ≠ (.slice Ao43 t1358.length co43 : Value).ownBlock ∧ some k_ ≠ (.slice Ao49 t1327.length co49 : Value).ownBlock ∧ some k_ ≠ (.slice Ao55 t1333.length co55 : Value).ownBlock) (Kd.R_keptB ((Kd.R_apart' HO_1313002.out (Kd.R_typed HO_1339001.out) (by decide))) hkp (fun k_ hk_ hs_ => Or.elim hs_ (fun e_ => (hk_.1.2.2.2.1) e_) (fun e_ => Or.elim e_ (fun e_ => (hk_.2) e_) (fun e_ => (hk_.1.2.2.2.2) e_)))) (fun k_ hk_ => ⟨hk_.1.1.1, hk_.1.1.2.1, hk_.1.1.2.2.1, hk_.1.1.2.2.2.1, hk_.1.1.2.2.2.2⟩)); replace HO_1324000 := Aside0.mk (Kd.R_mono (ok' := fun k_ => some k_ ≠ (.slice Ao30 t1301.length co30 : Value).ownBlock ∧ some k_ ≠ (.slice Ao34 t1307.length co34 : Value).ownBlock ∧ some k_ ≠ (.slice Ao43 t1358.length co43 : Value).ownBlock ∧ some k_ ≠ (.slice Ao49 t1327.length co49 : Value).ownBlock ∧ some k_ ≠ (.slice Ao55 t1333.length co55 : Value).ownBlock) (Kd.R_keptB ((Kd.R_apart' HO_1324000.out (Kd.R_typed HO_1339001.out) (by decide))) hkp (fun k_ hk_ hs_ => Or.elim hs_ (fun e_ => (hk_.1.2.2.2.1) e_) (fun e_ => Or.elim e_ (fun e_ => (hk_.2) e_) (fun e_ => (hk_.1.2.2.2.2) e_)))) (fun k_ hk_ => ⟨hk_.1.1.1, hk_.1.1.2.1, hk_.1.1.2.2.1, hk_.1.1.2.2.2.1, hk_.1.1.2.2.2.2⟩)); replace HO_1324001 := Aside0.mk (Kd.R_mono (ok' := fun k_ => some k_ ≠ (.slice Ao33 t1304.length co33 : Value).ownBlock ∧ some k_ ≠ (.slice Ao54 t1330.length co54 : Value).ownBlock) (Kd.R_keptB ((Kd.R_apart' (Kd.R_apart' HO_1324001.out (Kd.R_typed HO_1339000.out) (by decide)) (Kd.R_typed HO_1339002.out) (by decide))) hkp (fun k_ hk_ hs_ => Or.elim hs_ (fun e_ => (hk_.1.2) e_) (fun e_ => Or.elim e_ (fun e_ => (hk_.1.1.2) e_) (fun e_ => (hk_.2) e_)))) (fun k_ hk_ => ⟨hk_.1.1.1.1, hk_.1.1.1.2⟩)); replace HO_1324002 := Aside0.mk (Kd.R_mono (ok' := fun k_ => some k_ ≠ (.slice Ao30 t1301.length co30 : Value).ownBlock ∧ some k_ ≠ (.slice Ao34 t1307.length co34 : Value).ownBlock ∧ some k_ ≠ (.slice Ao38 t1356.length co38 : Value).ownBlock ∧ some k_ ≠ (.slice Ao49 t1327.length co49 : Value).ownBlock ∧ some k_ ≠ (.slice Ao55 t1333.length co55 : Value).ownBlock) (Kd.R_keptB ((Kd.R_apart' HO_1324002.out (Kd.R_typed HO_1339001.out) (by decide))) hkp (fun k_ hk_ hs_ => Or.elim hs_ (fun e_ => (hk_.1.2.2.2.1) e_) (fun e_ => Or.elim e_ (fun e_ => (hk_.2) e_) (fun e_ => (hk_.1.2.2.2.2) e_)))) (fun k_ hk_ => ⟨hk_.1.1.1, hk_.1.1.2.1, hk_.1.1.2.2.1, hk_.1.1.2.2.2.1, hk_.1.1.2.2.2.2⟩)); replace BK1286 := Aside0.mk (blk_kept (bk BK1286) hkp (fun hs_ => Or.elim hs_ (fun e_ => (fun e_ => (Kd.R_ne HO_1339000.out BK1286.out (by decide)) e_) e_) (fun e_ => Or.elim e_ (fun e_ => (fun e_ => (Kd.R_ne HO_1339001.out BK1286.out (by decide)) e_) e_) (fun e_ => (fun e_ => (Kd.R_ne HO_1339002.out BK1286.out (by decide)) e_) e_)))); replace BK1312 := Aside0.mk (blk_kept (bk BK1312) hkp (fun hs_ => Or.elim hs_ (fun e_ => (fun e_ => (Kd.R_ne HO_1339000.out BK1312.out (by decide)) e_) e_) (fun e_ => Or.elim e_ (fun e_ => (fun e_ => (Kd.R_ne HO_1339001.out BK1312.out (by decide)) e_) e_) (fun e_ => (fun e_ => (Kd.R_ne HO_1339002.out BK1312.out (by decide)) e_) e_)))); replace BK1323 := Aside0.mk (blk_kept (bk BK1323) hkp (fun hs_ => Or.elim hs_ (fun e_ => (fun e_ => (Kd.R_ne HO_1339000.out BK1323.out (by decide)) e_) e_) (fun e_ => Or.elim e_ (fun e_ => (fun e_ => (Kd.R_ne HO_1339001.out BK1323.out (by decide)) e_) e_) (fun e_ => (fun e_ => (Kd.R_ne HO_1339002.out BK1323.out (by decide)) e_) e_)))); replace BK1338 := Aside0.mk (blk_kept (bk BK1338) hkp (fun hs_ => Or.elim hs_ (fun e_ => (fun e_ => (Kd.R_ne HO_1339000.out BK1338.out (by decide)) e_) e_) (fun e_ => Or.elim e_ (fun e_ => (fun e_ => (Kd.R_ne HO_1339001.out BK1338.out (by decide)) e_) e_) (fun e_ => (fun e_ => (Kd.R_ne HO_1339002.out BK1338.out (by decide)) e_) e_)))); replace HO_1339000 := Aside0.mk (Kd.R_reok rfl hy0 (fun k_ e_ => HO_1339000.out.1 k_ e_)); replace HO_1339001 := Aside0.mk (Kd.R_reok rfl hy1 (fun k_ e_ => HO_1339001.out.1 k_ e_)); replace HO_1339002 := Aside0.mk (Kd.R_reok rfl hy2 (fun k_ e_ => HO_1339002.out.1 k_ e_)); replace HB := Aside0.mk (hb); (try clear hb); (try clear hkp); (try clear hy0); (try clear hy1); (try clear hy2); obtain ⟨hcz138_0, hcz138_1, hcz138_2, hcz138_3⟩ := cz4 BK1338; obtain ⟨hfz138_0, hfz138_1, hfz138_2, hfz138_3⟩ := fz4 BK1338) | ((with_reducible refine gate_callee (f := 33) rfl ?_); refine goesL_ (some 90) rfl rfl Try.func33 (by kernel_rfl) rfl #[.agg #[.slice Ao49 t1363.length co49, .slice Ao54 t1364.length co54, .slice Ao55 t1365.length co55, .int .i64 t1336], .int .i64 1] rfl (by (try simp only [List.map_toArray, List.map_cons, List.map_nil]); first | done | (rw [show t1363.length = t1327.length from (Kd.R_reads' HO_1339000.out).1.symm, show t1364.length = t1330.length from (Kd.R_reads' HO_1339001.out).1.symm, show t1365.length = t1333.length from (Kd.R_reads' HO_1339002.out).1.symm] <;> rfl) | rfl | (simp only [List.length_drop, List.length_take]; rfl)) ?_; (with_reducible refine (laws_heldStore.calls kj82 _ _ t1363 _ _ t1364 _ _ t1365 t1336 1 t1366 _ ?side1 ?side2 ?side3 ?side4 ?side5 ?side6 A119.out).mono ?_); (case side1 => exact rc0 HO_1339000); (case side2 => rw [show t1363.length = t1327.length from (Kd.R_reads' HO_1339000.out).1.symm]; exact (Kd.R_reads' HO_1339000.out).2.1); (case side3 => exact rc0 HO_1339001); (case side4 => rw [show t1364.length = t1330.length from (Kd.R_reads' HO_1339001.out).1.symm]; exact (Kd.R_reads' HO_1339001.out).2.1); (case side5 => exact rc0 HO_1339002); (case side6 => rw [show t1365.length = t1333.length from (Kd.R_reads' HO_1339002.out).1.symm]; exact (Kd.R_reads' HO_1339002.out).2.1); rintro e w139 ⟨rfl, hb⟩; refine ⟨_, rfl, ?_⟩; replace HO_1313000 := nr HO_1313000 hb; replace HO_1313001 := nr HO_1313001 hb; replace HO_1313002 := nr HO_1313002 hb; replace HO_1324000 := nr HO_1324000 hb; replace HO_1324001 := nr HO_1324001 hb; replace HO_1324002 := nr HO_1324002 hb; replace HO_1339000 := nr HO_1339000 hb; replace HO_1339001 := nr HO_1339001 hb; replace HO_1339002 := nr HO_1339002 hb; replace BK1286 := nb BK1286 hb; replace BK1312 := nb BK1312 hb; replace BK1323 := nb BK1323 hb; replace BK1338 := nb BK1338 hb; replace HB := Aside0.mk (below_step (bs4 HB GE1286 GE1312 GE1323 GE1338) hb); (try clear hb); (try clear hb2); (try clear hk); (try clear hi); have hnb140 := NB1286_1312.out; have hnc140 := NB1312_1286.out; have hnb141 := NB1286_1323.out; have hnc141 := NB1323_1286.out; obtain ⟨hcz142_0, hcz142_1, hcz142_2, hcz142_3⟩ := cz4 BK1286; obtain ⟨hfz142_0, hfz142_1, hfz142_2, hfz142_3⟩ := fz4 BK1286) | ((with_reducible refine gate_callee (f := 27) rfl ?_); refine gL (some 98) rfl rfl Try.func27 (by kernel_rfl) rfl #[.agg #[.slice A0_0 l0_0.length c0_0, .slice A0_1 l0_1.length c0_1, .slice A0_2 l0_2.length c0_2, .int .i64 a0_3]] rfl ?_; (with_reducible refine (laws_toStore.calls kj82 _ _ l0_0 _ _ l0_1 _ _ l0_2 a0_3 t1367 t1370 t1373 t1376 _ ?side1 ?side2 ?side3 ?side4 ?side5 ?side6 A129.out).mono ?_); (case side1 => exact cb HR0_0 HB); (case side2 => exact HC0_0.out); (case side3 => exact cb HR0_1 HB); (case side4 => exact HC0_1.out); (case side5 => exact cb HR0_2 HB); (case side6 => exact HC0_2.out); rintro e w143 ⟨v1368, v1371, v1374, rfl, ho0, ho1, ho2, hb⟩; refine ⟨_, rfl, ?_⟩; have HO1369 := Aside0.mk (Kd.R_lower (Kd.R_new' (Kd.R_new' (Kd.R_new' (Kd.R_new' (Kd.R_new' (Kd.R_new' ho0 (Kd.R_lt (rr HO_1313000.out))) (Kd.R_lt (rr HO_1313002.out))) (Kd.R_lt (rr HO_1324000.out))) (Kd.R_lt (rr HO_1324002.out))) (Kd.R_lt (rr HO_1339000.out))) (Kd.R_lt (rr HO_1339002.out))) (below_size (bs4 HB GE1286 GE1312 GE1323 GE1338))); have HO1372 := Aside0.mk (Kd.R_lower (Kd.R_new' (Kd.R_new' (Kd.R_new' ho1 (Kd.R_lt (rr HO_1313001.out))) (Kd.R_lt (rr HO_1324001.out))) (Kd.R_lt (rr HO_1339001.out))) (below_size (bs4 HB GE1286 GE1312 GE1323 GE1338))); replace HO_1313001 := Aside0.mk (Kd.R_elder' (rr HO_1313001.out) (Kd.R_base ho1) hb); replace HO_1324001 := Aside0.mk (Kd.R_elder' (rr HO_1324001.out) (Kd.R_base ho1) hb); replace HO_1339001 := Aside0.mk (Kd.R_elder' (rr HO_1339001.out) (Kd.R_base ho1) hb); have HO1375 := Aside0.mk (Kd.R_lower (Kd.R_new' (Kd.R_new' (Kd.R_new' (Kd.R_new' (Kd.R_new' (Kd.R_new' ho2 (Kd.R_lt (rr HO_1313000.out))) (Kd.R_lt (rr HO_1313002.out))) (Kd.R_lt (rr HO_1324000.out))) (Kd.R_lt (rr HO_1324002.out))) (Kd.R_lt (rr HO_1339000.out))) (Kd.R_lt (rr HO_1339002.out))) (below_size (bs4 HB GE1286 GE1312 GE1323 GE1338))); replace HO_1313000 := Aside0.mk (Kd.R_mono (Kd.R_told (Kd.R_told (Kd.R_old (rr HO_1313000.out) hb) (Kd.R_base ho0)) (Kd.R_base ho2)) (fun _ h_ => h_.1)); replace HO_1313002 := Aside0.mk (Kd.R_mono (Kd.R_told (Kd.R_told (Kd.R_old (rr HO_1313002.out) hb) (Kd.R_base ho0)) (Kd.R_base ho2)) (fun _ h_ => h_.1)); replace HO_1324000 := Aside0.mk (Kd.R_mono (Kd.R_told (Kd.R_told (Kd.R_old (rr HO_1324000.out) hb) (Kd.R_base ho0)) (Kd.R_base ho2)) (fun _ h_ => h_.1)); replace HO_1324002 := Aside0.mk (Kd.R_mono (Kd.R_told (Kd.R_told (Kd.R_old (rr HO_1324002.out) hb) (Kd.R_base ho0)) (Kd.R_base ho2)) (fun _ h_ => h_.1)); replace HO_1339000 := Aside0.mk (Kd.R_mono (Kd.R_told (Kd.R_told (Kd.R_old (rr HO_1339000.out) hb) (Kd.R_base ho0)) (Kd.R_base ho2)) (fun _ h_ => h_.1)); replace HO_1339002 := Aside0.mk (Kd.R_mono (Kd.R_told (Kd.R_told (Kd.R_old (rr HO_1339002.out) hb) (Kd.R_base ho0)) (Kd.R_base ho2)) (fun _ h_ => h_.1)); replace BK1286 := nb BK1286 hb; replace BK1312 := nb BK1312 hb; replace BK1323 := nb BK1323 hb; replace BK1338 := nb BK1338 hb; replace HB := Aside0.mk (below_step (bs4 HB GE1286 GE1312 GE1323 GE1338) hb); (try clear hb); (try clear hb2); (try clear hk); (try clear hi); (try clear ho0); (try clear ho1); (try clear ho2)) | ((with_reducible refine gate_callee (f := 50) rfl ?_); refine gL (some 100) rfl rfl Try.func50 (by kernel_rfl) rfl #[.slice A1 l1.length c1] rfl ?_; (with_reducible refine (laws_toBoolS.calls kj82 _ _ l1 t1377 _ ?side1 ?side2 A130.out).mono ?_); (case side1 => exact cb HR1 HB); (case side2 => exact HC1.out); rintro e w144 ⟨v1378, rfl, ho0, hb⟩; refine ⟨_, rfl, ?_⟩; replace HO_1313000 := nr HO_1313000 hb; replace HO_1313001 := nr HO_1313001 hb; replace HO_1313002 := nr HO_1313002 hb; replace HO_1324000 := nr HO_1324000 hb; replace HO_1324001 := nr HO_1324001 hb; replace HO_1324002 := nr HO_1324002 hb; replace HO_1339000 := nr HO_1339000 hb; replace HO_1339001 := nr HO_1339001 hb; replace HO_1339002 := nr HO_1339002 hb; replace HO1369 := nr HO1369 hb; replace HO1372 := nr HO1372 hb; replace HO1375 := nr HO1375 hb; have HO1379 := Aside0.mk (Kd.R_lower ho0 (below_size (bs4 HB GE1286 GE1312 GE1323 GE1338))); replace BK1286 := nb BK1286 hb; replace BK1312 := nb BK1312 hb; replace BK1323 := nb BK1323 hb; replace BK1338 := nb BK1338 hb; replace HB := Aside0.mk (below_step (bs4 HB GE1286 GE1312 GE1323 GE1338) hb); (try clear hb); (try clear hb2); (try clear hk); (try clear hi); (try clear ho0); obtain ⟨Ao145, co145, eo145⟩ := Kd.R_slice HO1369.out; subst eo145; obtain ⟨Ao146, co146, eo146⟩ := Kd.R_slice HO1372.out; subst eo146; obtain ⟨Ao147, co147, eo147⟩ := Kd.R_slice HO1375.out; subst eo147; obtain ⟨Ao148, co148, eo148⟩ := Kd.R_slice HO1379.out; subst eo148) | ((with_reducible refine gate_callee (f := 51) rfl ?_); refine gL (some 102) rfl rfl Try.func51 (by kernel_rfl) rfl #[.agg #[.slice Ao145 t1367.length co145, .slice Ao146 t1370.length co146, .slice Ao147 t1373.length co147, .int .i64 t1376], .slice Ao148 t1377.length co148, .int .i64 a2] rfl ?_; (with_reducible refine (impl_CrashStore.calls kj82 _ _ t1367 _ _ t1370 _ _ t1373 t1376 _ _ t1377 a2 t1380 t1383 t1386 t1389 t1390 _ ?side1 ?side2 ?side3 ?side4 ?side5 ?side6 ?side7 ?side8 A131.out).mono ?_); (case side1 => exact rc0 HO1369); (case side2 => exact (Kd.R_reads' HO1369.out).2.1); (case side3 => exact rc0 HO1372); (case side4 => exact (Kd.R_reads' HO1372.out).2.1); (case side5 => exact rc0 HO1375); (case side6 => exact (Kd.R_reads' HO1375.out).2.1); (case side7 => exact rc0 HO1379); (case side8 => exact (Kd.R_reads' HO1379.out).2.1); rintro e w149 ⟨v1381, v1384, v1387, rfl, ho0, ho1, ho2, hb⟩; refine ⟨_, rfl, ?_⟩; replace HO1379 := nr HO1379 hb; have HO1382 := Aside0.mk (Kd.R_lower (Kd.R_new' (Kd.R_new' (Kd.R_new' (Kd.R_new' (Kd.R_new' (Kd.R_new' (Kd.R_new' (Kd.R_new' ho0 (Kd.R_lt (rr HO_1313000.out))) (Kd.R_lt (rr HO_1313002.out))) (Kd.R_lt (rr HO_1324000.out))) (Kd.R_lt (rr HO_1324002.out))) (Kd.R_lt (rr HO_1339000.out))) (Kd.R_lt (rr HO_1339002.out))) (Kd.R_lt (rr HO1369.out))) (Kd.R_lt (rr HO1375.out))) (below_size (bs4 HB GE1286 GE1312 GE1323 GE1338))); have HO1385 := Aside0.mk (Kd.R_lower (Kd.R_new' (Kd.R_new' (Kd.R_new' (Kd.R_new' ho1 (Kd.R_lt (rr HO_1313001.out))) (Kd.R_lt (rr HO_1324001.out))) (Kd.R_lt (rr HO_1339001.out))) (Kd.R_lt (rr HO1372.out))) (below_size (bs4 HB GE1286 GE1312 GE1323 GE1338))); replace HO_1313001 := Aside0.mk (Kd.R_elder' (rr HO_1313001.out) (Kd.R_base ho1) hb); replace HO_1324001 := Aside0.mk (Kd.R_elder' (rr HO_1324001.out) (Kd.R_base ho1) hb); replace HO_1339001 := Aside0.mk (Kd.R_elder' (rr HO_1339001.out) (Kd.R_base ho1) hb); replace HO1372 := Aside0.mk (Kd.R_elder' (rr HO1372.out) (Kd.R_base ho1) hb); have HO1388 := Aside0.mk (Kd.R_lower (Kd.R_new' (Kd.R_new' (Kd.R_new' (Kd.R_new' (Kd.R_new' (Kd.R_new' (Kd.R_new' (Kd.R_new' ho2 (Kd.R_lt (rr HO_1313000.out))) (Kd.R_lt (rr HO_1313002.out))) (Kd.R_lt (rr HO_1324000.out))) (Kd.R_lt (rr HO_1324002.out))) (Kd.R_lt (rr HO_1339000.out))) (Kd.R_lt (rr HO_1339002.out))) (Kd.R_lt (rr HO1369.out))) (Kd.R_lt (rr HO1375.out))) (below_size (bs4 HB GE1286 GE1312 GE1323 GE1338))); replace HO_1313000 := Aside0.mk (Kd.R_mono (Kd.R_told (Kd.R_told (Kd.R_old (rr HO_1313000.out) hb) (Kd.R_base ho0)) (Kd.R_base ho2)) (fun _ h_ => h_.1)); replace HO_1313002 := Aside0.mk (Kd.R_mono (Kd.R_told (Kd.R_told (Kd.R_old (rr HO_1313002.out) hb) (Kd.R_base ho0)) (Kd.R_base ho2)) (fun _ h_ => h_.1)); replace HO_1324000 := Aside0.mk (Kd.R_mono (Kd.R_told (Kd.R_told (Kd.R_old (rr HO_1324000.out) hb) (Kd.R_base ho0)) (Kd.R_base ho2)) (fun _ h_ => h_.1)); replace HO_1324002 := Aside0.mk (Kd.R_mono (Kd.R_told (Kd.R_told (Kd.R_old (rr HO_1324002.out) hb) (Kd.R_base ho0)) (Kd.R_base ho2)) (fun _ h_ => h_.1)); replace HO_1339000 := Aside0.mk (Kd.R_mono (Kd.R_told (Kd.R_told (Kd.R_old (rr HO_1339000.out) hb) (Kd.R_base ho0)) (Kd.R_base ho2)) (fun _ h_ => h_.1)); replace HO_1339002 := Aside0.mk (Kd.R_mono (Kd.R_told (Kd.R_told (Kd.R_old (rr HO_1339002.out) hb) (Kd.R_base ho0)) (Kd.R_base ho2)) (fun _ h_ => h_.1)); replace HO1369 := Aside0.mk (Kd.R_mono (Kd.R_told (Kd.R_told (Kd.R_old (rr HO1369.out) hb) (Kd.R_base ho0)) (Kd.R_base ho2)) (fun _ h_ => h_.1)); replace HO1375 := Aside0.mk (Kd.R_mono (Kd.R_told (Kd.R_told (Kd.R_old (rr HO1375.out) hb) (Kd.R_base ho0)) (Kd.R_base ho2)) (fun _ h_ => h_.1)); replace BK1286 := nb BK1286 hb; replace BK1312 := nb BK1312 hb; replace BK1323 := nb BK1323 hb; replace BK1338 := nb BK1338 hb; replace HB := Aside0.mk (below_step (bs4 HB GE1286 GE1312 GE1323 GE1338) hb); (try clear hb); (try clear hb2); (try clear hk); (try clear hi); (try clear ho0); (try clear ho1); (try clear ho2)) | ((with_reducible refine gate_dst (N := 17) rfl ?_); refine box_event ?hg (N := 17) ?hd (cs := #[.slice none 0 0, .slice none 0 0, .slice none 0 0, .int .i64 0]) (t := 44) ?hr ?_; (case hd => rfl); (case hg => rfl); (case hr => first | (go_simp; done) | (go_simp; rfl)); intro gb1391 hg w150 hbox hb; replace HO_1313000 := nr HO_1313000 hb; replace HO_1313001 := nr HO_1313001 hb; replace HO_1313002 := nr HO_1313002 hb; replace HO_1324000 := nr HO_1324000 hb; replace HO_1324001 := nr HO_1324001 hb; replace HO_1324002 := nr HO_1324002 hb; replace HO_1339000 := nr HO_1339000 hb; replace HO_1339001 := nr HO_1339001 hb; replace HO_1339002 := nr HO_1339002 hb; replace HO1369 := nr HO1369 hb; replace HO1372 := nr HO1372 hb; replace HO1375 := nr HO1375 hb; replace HO1379 := nr HO1379 hb; replace HO1382 := nr HO1382 hb; replace HO1385 := nr HO1385 hb; replace HO1388 := nr HO1388 hb; have BK1391 := Aside0.mk (hbox); have GW1391 := Aside0.mk ((by rw [hg]; exact (below_size (bs4 HB GE1286 GE1312 GE1323 GE1338)) : w.heap.size ≤ gb1391)); have GE1391 := Aside0.mk ((by rw [hg]; exact (below_size (bs4 HB GE1286 GE1312 GE1323 GE1338)) : w.heap.size ≤ gb1391)); replace HB := Aside0.mk (below_step (bs4 HB GE1286 GE1312 GE1323 GE1338) hb); have NB1286_1391 := Aside0.mk ((bn BK1286 hg : gb1286 ≠ gb1391)); have NB1391_1286 := Aside0.mk ((bm BK1286 hg : gb1391 ≠ gb1286)); replace BK1286 := nb BK1286 hb; have NB1312_1391 := Aside0.mk ((bn BK1312 hg : gb1312 ≠ gb1391)); have NB1391_1312 := Aside0.mk ((bm BK1312 hg : gb1391 ≠ gb1312)); replace BK1312 := nb BK1312 hb; have NB1323_1391 := Aside0.mk ((bn BK1323 hg : gb1323 ≠ gb1391)); have NB1391_1323 := Aside0.mk ((bm BK1323 hg : gb1391 ≠ gb1323)); replace BK1323 := nb BK1323 hb; have NB1338_1391 := Aside0.mk ((bn BK1338 hg : gb1338 ≠ gb1391)); have NB1391_1338 := Aside0.mk ((bm BK1338 hg : gb1391 ≠ gb1338)); replace BK1338 := nb BK1338 hb; clear hb hbox hg; obtain ⟨Ao151, co151, eo151⟩ := Kd.R_slice HO1382.out; subst eo151; have hnb152 := NB1391_1286.out; have hnc152 := NB1286_1391.out; have hnb153 := NB1391_1312.out; have hnc153 := NB1312_1391.out; have hnb154 := NB1391_1323.out; have hnc154 := NB1323_1391.out; have hnb155 := NB1391_1338.out; have hnc155 := NB1338_1391.out; obtain ⟨hcz156_0, hcz156_1, hcz156_2, hcz156_3⟩ := cz4 BK1391; obtain ⟨hfz156_0, hfz156_1, hfz156_2, hfz156_3⟩ := fz4 BK1391; obtain ⟨Ao157, co157, eo157⟩ := Kd.R_slice HO1385.out; subst eo157; obtain ⟨Ao158, co158, eo158⟩ := Kd.R_slice HO1388.out; subst eo158))
             (try simp only [Act.put, List.setIfInBounds_toArray, List.set_cons_zero, List.set_cons_succ])
             go_cut [113] (fun v113 wc => ∃ (kq : Nat) (x113_131 : Bool), v113 = .bool x113_131 ∧ Aside0 (laws_FnExactCrashStore.j2 kq t1362 x113_131 t1363 t1364 t1365 t1336 = some r) ∧ Aside0 (kq ≤ kj82) ∧ Aside0 (Kd.R Kd.string 9 wc w.heap.size (fun k_ => some k_ ≠ ((.slice Ao34 t1307.length co34) : Value).ownBlock ∧ some k_ ≠ ((.slice Ao38 t1356.length co38) : Value).ownBlock ∧ some k_ ≠ ((.slice Ao43 t1358.length co43) : Value).ownBlock ∧ some k_ ≠ ((.slice Ao49 t1327.length co49) : Value).ownBlock ∧ some k_ ≠ ((.slice Ao55 t1333.length co55) : Value).ownBlock ∧ some k_ ≠ ((.slice Ao151 t1380.length co151) : Value).ownBlock ∧ some k_ ≠ ((.slice Ao158 t1386.length co158) : Value).ownBlock) (.slice Ao30 t1301.length co30) t1301) ∧ Aside0 (Kd.R k72 72 wc w.heap.size (fun k_ => some k_ ≠ ((.slice Ao42 t1357.length co42) : Value).ownBlock ∧ some k_ ≠ ((.slice Ao54 t1330.length co54) : Value).ownBlock ∧ some k_ ≠ ((.slice Ao157 t1383.length co157) : Value).ownBlock) (.slice Ao33 t1304.length co33) t1304) ∧ Aside0 (Kd.R Kd.string 9 wc w.heap.size (fun k_ => some k_ ≠ ((.slice Ao30 t1301.length co30) : Value).ownBlock ∧ some k_ ≠ ((.slice Ao38 t1356.length co38) : Value).ownBlock ∧ some k_ ≠ ((.slice Ao43 t1358.length co43) : Value).ownBlock ∧ some k_ ≠ ((.slice Ao49 t1327.length co49) : Value).ownBlock ∧ some k_ ≠ ((.slice Ao55 t1333.length co55) : Value).ownBlock ∧ some k_ ≠ ((.slice Ao151 t1380.length co151) : Value).ownBlock ∧ some k_ ≠ ((.slice Ao158 t1386.length co158) : Value).ownBlock) (.slice Ao34 t1307.length co34) t1307) ∧ Aside0 (Kd.R Kd.string 9 wc w.heap.size (fun k_ => some k_ ≠ ((.slice Ao30 t1301.length co30) : Value).ownBlock ∧ some k_ ≠ ((.slice Ao34 t1307.length co34) : Value).ownBlock ∧ some k_ ≠ ((.slice Ao43 t1358.length co43) : Value).ownBlock ∧ some k_ ≠ ((.slice Ao49 t1327.length co49) : Value).ownBlock ∧ some k_ ≠ ((.slice Ao55 t1333.length co55) : Value).ownBlock ∧ some k_ ≠ ((.slice Ao151 t1380.length co151) : Value).ownBlock ∧ some k_ ≠ ((.slice Ao158 t1386.length co158) : Value).ownBlock) (.slice Ao38 t1356.length co38) t1356) ∧ Aside0 (Kd.R k72 72 wc w.heap.size (fun k_ => some k_ ≠ ((.slice Ao33 t1304.length co33) : Value).ownBlock ∧ some k_ ≠ ((.slice Ao54 t1330.length co54) : Value).ownBlock ∧ some k_ ≠ ((.slice Ao157 t1383.length co157) : Value).ownBlock) (.slice Ao42 t1357.length co42) t1357) ∧ Aside0 (Kd.R Kd.string 9 wc w.heap.size (fun k_ => some k_ ≠ ((.slice Ao30 t1301.length co30) : Value).ownBlock ∧ some k_ ≠ ((.slice Ao34 t1307.length co34) : Value).ownBlock ∧ some k_ ≠ ((.slice Ao38 t1356.length co38) : Value).ownBlock ∧ some k_ ≠ ((.slice Ao49 t1327.length co49) : Value).ownBlock ∧ some k_ ≠ ((.slice Ao55 t1333.length co55) : Value).ownBlock ∧ some k_ ≠ ((.slice Ao151 t1380.length co151) : Value).ownBlock ∧ some k_ ≠ ((.slice Ao158 t1386.length co158) : Value).ownBlock) (.slice Ao43 t1358.length co43) t1358) ∧ Aside0 (Kd.R Kd.string 9 wc w.heap.size (fun k_ => some k_ ≠ ((.slice Ao30 t1301.length co30) : Value).ownBlock ∧ some k_ ≠ ((.slice Ao34 t1307.length co34) : Value).ownBlock ∧ some k_ ≠ ((.slice Ao38 t1356.length co38) : Value).ownBlock ∧ some k_ ≠ ((.slice Ao43 t1358.length co43) : Value).ownBlock ∧ some k_ ≠ ((.slice Ao55 t1333.length co55) : Value).ownBlock ∧ some k_ ≠ ((.slice Ao151 t1380.length co151) : Value).ownBlock ∧ some k_ ≠ ((.slice Ao158 t1386.length co158) : Value).ownBlock) (.slice Ao49 t1327.length co49) t1363) ∧ Aside0 (Kd.R k72 72 wc w.heap.size (fun k_ => some k_ ≠ ((.slice Ao33 t1304.length co33) : Value).ownBlock ∧ some k_ ≠ ((.slice Ao42 t1357.length co42) : Value).ownBlock ∧ some k_ ≠ ((.slice Ao157 t1383.length co157) : Value).ownBlock) (.slice Ao54 t1330.length co54) t1364) ∧ Aside0 (Kd.R Kd.string 9 wc w.heap.size (fun k_ => some k_ ≠ ((.slice Ao30 t1301.length co30) : Value).ownBlock ∧ some k_ ≠ ((.slice Ao34 t1307.length co34) : Value).ownBlock ∧ some k_ ≠ ((.slice Ao38 t1356.length co38) : Value).ownBlock ∧ some k_ ≠ ((.slice Ao43 t1358.length co43) : Value).ownBlock ∧ some k_ ≠ ((.slice Ao49 t1327.length co49) : Value).ownBlock ∧ some k_ ≠ ((.slice Ao151 t1380.length co151) : Value).ownBlock ∧ some k_ ≠ ((.slice Ao158 t1386.length co158) : Value).ownBlock) (.slice Ao55 t1333.length co55) t1365) ∧ Aside0 (Kd.R Kd.string 9 wc w.heap.size (fun k_ => some k_ ≠ ((.slice Ao30 t1301.length co30) : Value).ownBlock ∧ some k_ ≠ ((.slice Ao34 t1307.length co34) : Value).ownBlock ∧ some k_ ≠ ((.slice Ao38 t1356.length co38) : Value).ownBlock ∧ some k_ ≠ ((.slice Ao43 t1358.length co43) : Value).ownBlock ∧ some k_ ≠ ((.slice Ao49 t1327.length co49) : Value).ownBlock ∧ some k_ ≠ ((.slice Ao55 t1333.length co55) : Value).ownBlock ∧ some k_ ≠ ((.slice Ao158 t1386.length co158) : Value).ownBlock) (.slice Ao151 t1380.length co151) t1380) ∧ Aside0 (Kd.R k72 72 wc w.heap.size (fun k_ => some k_ ≠ ((.slice Ao33 t1304.length co33) : Value).ownBlock ∧ some k_ ≠ ((.slice Ao42 t1357.length co42) : Value).ownBlock ∧ some k_ ≠ ((.slice Ao54 t1330.length co54) : Value).ownBlock) (.slice Ao157 t1383.length co157) t1383) ∧ Aside0 (Kd.R Kd.string 9 wc w.heap.size (fun k_ => some k_ ≠ ((.slice Ao30 t1301.length co30) : Value).ownBlock ∧ some k_ ≠ ((.slice Ao34 t1307.length co34) : Value).ownBlock ∧ some k_ ≠ ((.slice Ao38 t1356.length co38) : Value).ownBlock ∧ some k_ ≠ ((.slice Ao43 t1358.length co43) : Value).ownBlock ∧ some k_ ≠ ((.slice Ao49 t1327.length co49) : Value).ownBlock ∧ some k_ ≠ ((.slice Ao55 t1333.length co55) : Value).ownBlock ∧ some k_ ≠ ((.slice Ao151 t1380.length co151) : Value).ownBlock) (.slice Ao158 t1386.length co158) t1386) ∧ Aside0 (wc.heap[gb1286]? = some (.cells #[(.slice A0_0 l0_0.length c0_0), (.slice A0_1 l0_1.length c0_1), (.slice A0_2 l0_2.length c0_2), .int .i64 a0_3] 38 (0, 0))) ∧ Aside0 (wc.heap[gb1312]? = some (.cells #[(.slice Ao30 t1301.length co30), (.slice Ao33 t1304.length co33), (.slice Ao34 t1307.length co34), .int .i64 t1310] 44 (0, 0))) ∧ Aside0 (wc.heap[gb1323]? = some (.cells #[(.slice Ao38 t1356.length co38), (.slice Ao42 t1357.length co42), (.slice Ao43 t1358.length co43), .int .i64 t1322] 44 (0, 0))) ∧ Aside0 (wc.heap[gb1338]? = some (.cells #[(.slice Ao49 t1327.length co49), (.slice Ao54 t1330.length co54), (.slice Ao55 t1333.length co55), .int .i64 t1336] 44 (0, 0))) ∧ Aside0 (wc.heap[gb1391]? = some (.cells #[(.slice Ao151 t1380.length co151), (.slice Ao157 t1383.length co157), (.slice Ao158 t1386.length co158), .int .i64 t1389] 44 (0, 0))) ∧ Aside0 (Below w.heap.size w wc))
             case first =>
              have H := HC132.out
              clear HC132
              replace H := Option.bind_eq_some_iff.mp H
              obtain ⟨t1392, A1590, H⟩ := H
              replace H : (if t1392 = true then (laws_FnExactCrashStore.j2 kj82 t1362 (t1390 != t1311) t1363 t1364 t1365 t1336) else (laws_FnExactCrashStore.j2 kj82 t1362 true t1363 t1364 t1365 t1336)) = some r := H
              have A159 := Aside0.mk A1590
              clear A1590
              by_cases c160 : t1392 = true
              ·
               subst c160
               rw [if_pos rfl] at H
               have H' := Aside0.mk H
               clear H
               have hnb161 := NB1391_1286.out
               have hnc161 := NB1286_1391.out
               have hnb162 := NB1391_1312.out
               have hnc162 := NB1312_1391.out
               have hnb163 := NB1391_1323.out
               have hnc163 := NB1323_1391.out
               have hnb164 := NB1391_1338.out
               have hnc164 := NB1338_1391.out
               obtain ⟨hcz165_0, hcz165_1, hcz165_2, hcz165_3⟩ := cz4 BK1391
               obtain ⟨hfz165_0, hfz165_1, hfz165_2, hfz165_3⟩ := fz4 BK1391
               have hnb166 := NB1312_1286.out
               have hnc166 := NB1286_1312.out
               have hnb167 := NB1312_1323.out
               have hnc167 := NB1323_1312.out
               have hnb168 := NB1312_1338.out
               have hnc168 := NB1338_1312.out
               obtain ⟨hcz169_0, hcz169_1, hcz169_2, hcz169_3⟩ := cz4 BK1312
               obtain ⟨hfz169_0, hfz169_1, hfz169_2, hfz169_3⟩ := fz4 BK1312
               go_wp2_with (first | ((with_reducible refine gate_callee (f := 29) rfl ?_); refine gL (some 107) rfl rfl Try.func29 (by kernel_rfl) rfl #[.agg #[.slice Ao151 t1380.length co151, .slice Ao157 t1383.length co157, .slice Ao158 t1386.length co158, .int .i64 t1389], .agg #[.slice Ao30 t1301.length co30, .slice Ao33 t1304.length co33, .slice Ao34 t1307.length co34, .int .i64 t1310]] rfl ?_; (with_reducible refine (laws_eqStore.calls kj82 _ _ t1380 _ _ t1383 _ _ t1386 t1389 _ _ t1301 _ _ t1304 _ _ t1307 t1310 true _ ?side1 ?side2 ?side3 ?side4 ?side5 ?side6 ?side7 ?side8 ?side9 ?side10 ?side11 ?side12 A159.out).mono ?_); (case side1 => exact rc HO1382 BK1391); (case side2 => exact (Kd.R_reads' HO1382.out).2.1); (case side3 => exact rc HO1385 BK1391); (case side4 => exact (Kd.R_reads' HO1385.out).2.1); (case side5 => exact rc HO1388 BK1391); (case side6 => exact (Kd.R_reads' HO1388.out).2.1); (case side7 => exact rc HO_1313000 BK1391); (case side8 => exact (Kd.R_reads' HO_1313000.out).2.1); (case side9 => exact rc HO_1313001 BK1391); (case side10 => exact (Kd.R_reads' HO_1313001.out).2.1); (case side11 => exact rc HO_1313002 BK1391); (case side12 => exact (Kd.R_reads' HO_1313002.out).2.1); rintro e w170 ⟨rfl, hb⟩; refine ⟨_, rfl, ?_⟩; replace HO_1313000 := nf HO_1313000 BK1391 hb; replace HO_1313001 := nf HO_1313001 BK1391 hb; replace HO_1313002 := nf HO_1313002 BK1391 hb; replace HO_1324000 := nf HO_1324000 BK1391 hb; replace HO_1324001 := nf HO_1324001 BK1391 hb; replace HO_1324002 := nf HO_1324002 BK1391 hb; replace HO_1339000 := nf HO_1339000 BK1391 hb; replace HO_1339001 := nf HO_1339001 BK1391 hb; replace HO_1339002 := nf HO_1339002 BK1391 hb; replace HO1369 := nf HO1369 BK1391 hb; replace HO1372 := nf HO1372 BK1391 hb; replace HO1375 := nf HO1375 BK1391 hb; replace HO1379 := nf HO1379 BK1391 hb; replace HO1382 := nf HO1382 BK1391 hb; replace HO1385 := nf HO1385 BK1391 hb; replace HO1388 := nf HO1388 BK1391 hb; replace BK1286 := Aside0.mk (blk_below (bf BK1286 NB1286_1391) hb); replace BK1312 := Aside0.mk (blk_below (bf BK1312 NB1312_1391) hb); replace BK1323 := Aside0.mk (blk_below (bf BK1323 NB1323_1391) hb); replace BK1338 := Aside0.mk (blk_below (bf BK1338 NB1338_1391) hb); replace BK1391 := Aside0.mk (blk_below (g := gb1391) (o := .cells #[.slice Ao151 t1380.length co151, .slice Ao157 t1383.length co157, .slice Ao158 t1386.length co158, .int .i64 t1389] 44 (0, 0)) (by (with_reducible repeat (first | refine blk_drewN ?_ _ | refine blk_drew ?_ | refine blk_alloc ?_ _)); refine blk_put (cs := #[.slice Ao151 t1380.length co151, .slice Ao157 t1383.length co157, .slice Ao158 t1386.length co158, .int .i64 0]) ?_ 3 _ rfl; (with_reducible repeat (first | refine blk_drewN ?_ _ | refine blk_drew ?_ | refine blk_alloc ?_ _)); refine blk_put (cs := #[.slice Ao151 t1380.length co151, .slice Ao157 t1383.length co157, .slice none 0 0, .int .i64 0]) ?_ 2 _ rfl; (with_reducible repeat (first | refine blk_drewN ?_ _ | refine blk_drew ?_ | refine blk_alloc ?_ _)); refine blk_put (cs := #[.slice Ao151 t1380.length co151, .slice none 0 0, .slice none 0 0, .int .i64 0]) ?_ 1 _ rfl; (with_reducible repeat (first | refine blk_drewN ?_ _ | refine blk_drew ?_ | refine blk_alloc ?_ _)); refine blk_put (cs := #[.slice none 0 0, .slice none 0 0, .slice none 0 0, .int .i64 0]) ?_ 0 _ rfl; (with_reducible repeat (first | refine blk_drewN ?_ _ | refine blk_drew ?_ | refine blk_alloc ?_ _)); exact BK1391.out) hb); replace HB := Aside0.mk (below_step (bs5 HB GE1286 GE1312 GE1323 GE1338 GE1391) hb); (try clear hb); (try clear hb2); (try clear hk); (try clear hi)))
               go_meet
               case rel => exact ⟨_, ((t1390 != t1311)), (by first | rfl | (simp; done) | (simp [*]; done)), H', ⟨by have := HJ16.out; have := HJ82.out; first | omega | exact Nat.le_refl _⟩, ⟨by (try simp only [hl1324000_82]); (try simp only [hl1324001_82]); (try simp only [hl1324002_82]); (with_reducible repeat (first | apply Kd.R_alloc | apply Kd.R_drewN | apply Kd.R_drew)); exact Kd.R_mono HO_1313000.out (fun _ hk => ⟨hk.1.1.1.1.1, ⟨hk.1.1.1.1.2.1, ⟨hk.1.1.1.1.2.2.1, ⟨hk.1.1.1.1.2.2.2.1, ⟨hk.1.1.1.1.2.2.2.2, ⟨hk.1.2, hk.2⟩⟩⟩⟩⟩⟩)⟩, ⟨by (try simp only [hl1324000_82]); (try simp only [hl1324001_82]); (try simp only [hl1324002_82]); (with_reducible repeat (first | apply Kd.R_alloc | apply Kd.R_drewN | apply Kd.R_drew)); exact Kd.R_mono HO_1313001.out (fun _ hk => ⟨hk.1.1.1, ⟨hk.1.1.2, hk.2⟩⟩)⟩, ⟨by (try simp only [hl1324000_82]); (try simp only [hl1324001_82]); (try simp only [hl1324002_82]); (with_reducible repeat (first | apply Kd.R_alloc | apply Kd.R_drewN | apply Kd.R_drew)); exact Kd.R_mono HO_1313002.out (fun _ hk => ⟨hk.1.1.1.1.1, ⟨hk.1.1.1.1.2.1, ⟨hk.1.1.1.1.2.2.1, ⟨hk.1.1.1.1.2.2.2.1, ⟨hk.1.1.1.1.2.2.2.2, ⟨hk.1.2, hk.2⟩⟩⟩⟩⟩⟩)⟩, ⟨by (try simp only [hl1324000_82]); (try simp only [hl1324001_82]); (try simp only [hl1324002_82]); (with_reducible repeat (first | apply Kd.R_alloc | apply Kd.R_drewN | apply Kd.R_drew)); exact Kd.R_mono HO_1324000.out (fun _ hk => ⟨hk.1.1.1.1.1, ⟨hk.1.1.1.1.2.1, ⟨hk.1.1.1.1.2.2.1, ⟨hk.1.1.1.1.2.2.2.1, ⟨hk.1.1.1.1.2.2.2.2, ⟨hk.1.2, hk.2⟩⟩⟩⟩⟩⟩)⟩, ⟨by (try simp only [hl1324000_82]); (try simp only [hl1324001_82]); (try simp only [hl1324002_82]); (with_reducible repeat (first | apply Kd.R_alloc | apply Kd.R_drewN | apply Kd.R_drew)); exact Kd.R_mono HO_1324001.out (fun _ hk => ⟨hk.1.1.1, ⟨hk.1.1.2, hk.2⟩⟩)⟩, ⟨by (try simp only [hl1324000_82]); (try simp only [hl1324001_82]); (try simp only [hl1324002_82]); (with_reducible repeat (first | apply Kd.R_alloc | apply Kd.R_drewN | apply Kd.R_drew)); exact Kd.R_mono HO_1324002.out (fun _ hk => ⟨hk.1.1.1.1.1, ⟨hk.1.1.1.1.2.1, ⟨hk.1.1.1.1.2.2.1, ⟨hk.1.1.1.1.2.2.2.1, ⟨hk.1.1.1.1.2.2.2.2, ⟨hk.1.2, hk.2⟩⟩⟩⟩⟩⟩)⟩, ⟨by (try simp only [hl1324000_82]); (try simp only [hl1324001_82]); (try simp only [hl1324002_82]); (with_reducible repeat (first | apply Kd.R_alloc | apply Kd.R_drewN | apply Kd.R_drew)); exact Kd.R_mono HO_1339000.out (fun _ hk => ⟨hk.1.1.1.1.1, ⟨hk.1.1.1.1.2.1, ⟨hk.1.1.1.1.2.2.1, ⟨hk.1.1.1.1.2.2.2.1, ⟨hk.1.1.1.1.2.2.2.2, ⟨hk.1.2, hk.2⟩⟩⟩⟩⟩⟩)⟩, ⟨by (try simp only [hl1324000_82]); (try simp only [hl1324001_82]); (try simp only [hl1324002_82]); (with_reducible repeat (first | apply Kd.R_alloc | apply Kd.R_drewN | apply Kd.R_drew)); exact Kd.R_mono HO_1339001.out (fun _ hk => ⟨hk.1.1.1, ⟨hk.1.1.2, hk.2⟩⟩)⟩, ⟨by (try simp only [hl1324000_82]); (try simp only [hl1324001_82]); (try simp only [hl1324002_82]); (with_reducible repeat (first | apply Kd.R_alloc | apply Kd.R_drewN | apply Kd.R_drew)); exact Kd.R_mono HO_1339002.out (fun _ hk => ⟨hk.1.1.1.1.1, ⟨hk.1.1.1.1.2.1, ⟨hk.1.1.1.1.2.2.1, ⟨hk.1.1.1.1.2.2.2.1, ⟨hk.1.1.1.1.2.2.2.2, ⟨hk.1.2, hk.2⟩⟩⟩⟩⟩⟩)⟩, ⟨by (try simp only [hl1324000_82]); (try simp only [hl1324001_82]); (try simp only [hl1324002_82]); (with_reducible repeat (first | apply Kd.R_alloc | apply Kd.R_drewN | apply Kd.R_drew)); exact Kd.R_mono HO1382.out (fun _ hk => ⟨hk.1.1.1.1.1.1.1.2, ⟨hk.1.1.1.1.1.1.2, ⟨hk.1.1.1.1.1.2, ⟨hk.1.1.1.1.2, ⟨hk.1.1.1.2, ⟨hk.1.1.2, hk.1.1.1.1.1.1.1.1⟩⟩⟩⟩⟩⟩)⟩, ⟨by (try simp only [hl1324000_82]); (try simp only [hl1324001_82]); (try simp only [hl1324002_82]); (with_reducible repeat (first | apply Kd.R_alloc | apply Kd.R_drewN | apply Kd.R_drew)); exact Kd.R_mono HO1385.out (fun _ hk => ⟨hk.1.1.1.2, ⟨hk.1.1.2, hk.1.2⟩⟩)⟩, ⟨by (try simp only [hl1324000_82]); (try simp only [hl1324001_82]); (try simp only [hl1324002_82]); (with_reducible repeat (first | apply Kd.R_alloc | apply Kd.R_drewN | apply Kd.R_drew)); exact Kd.R_mono HO1388.out (fun _ hk => ⟨hk.1.1.1.1.1.1.1.2, ⟨hk.1.1.1.1.1.1.2, ⟨hk.1.1.1.1.1.2, ⟨hk.1.1.1.1.2, ⟨hk.1.1.1.2, ⟨hk.1.1.2, hk.1.1.1.1.1.1.1.1⟩⟩⟩⟩⟩⟩)⟩, ⟨by (try simp only [hl1324000_82]); (try simp only [hl1324001_82]); (try simp only [hl1324002_82]); (with_reducible repeat (first | refine blk_drewN ?_ _ | refine blk_drew ?_ | refine blk_alloc ?_ _)); exact BK1286.out⟩, ⟨by (try simp only [hl1324000_82]); (try simp only [hl1324001_82]); (try simp only [hl1324002_82]); (with_reducible repeat (first | refine blk_drewN ?_ _ | refine blk_drew ?_ | refine blk_alloc ?_ _)); exact BK1312.out⟩, ⟨by (try simp only [hl1324000_82]); (try simp only [hl1324001_82]); (try simp only [hl1324002_82]); (with_reducible repeat (first | refine blk_drewN ?_ _ | refine blk_drew ?_ | refine blk_alloc ?_ _)); exact BK1323.out⟩, ⟨by (try simp only [hl1324000_82]); (try simp only [hl1324001_82]); (try simp only [hl1324002_82]); (with_reducible repeat (first | refine blk_drewN ?_ _ | refine blk_drew ?_ | refine blk_alloc ?_ _)); exact BK1338.out⟩, ⟨by (try simp only [hl1324000_82]); (try simp only [hl1324001_82]); (try simp only [hl1324002_82]); (with_reducible repeat (first | refine blk_drewN ?_ _ | refine blk_drew ?_ | refine blk_alloc ?_ _)); exact BK1391.out⟩, ⟨bs5 HB GE1286 GE1312 GE1323 GE1338 GE1391⟩⟩
              ·
               replace c160 := Bool.eq_false_iff.mpr c160
               subst c160
               rw [if_neg (show ¬ (false = true) by decide)] at H
               have H' := Aside0.mk H
               clear H
               have hnb171 := NB1391_1286.out
               have hnc171 := NB1286_1391.out
               have hnb172 := NB1391_1312.out
               have hnc172 := NB1312_1391.out
               have hnb173 := NB1391_1323.out
               have hnc173 := NB1323_1391.out
               have hnb174 := NB1391_1338.out
               have hnc174 := NB1338_1391.out
               obtain ⟨hcz175_0, hcz175_1, hcz175_2, hcz175_3⟩ := cz4 BK1391
               obtain ⟨hfz175_0, hfz175_1, hfz175_2, hfz175_3⟩ := fz4 BK1391
               have hnb176 := NB1312_1286.out
               have hnc176 := NB1286_1312.out
               have hnb177 := NB1312_1323.out
               have hnc177 := NB1323_1312.out
               have hnb178 := NB1312_1338.out
               have hnc178 := NB1338_1312.out
               obtain ⟨hcz179_0, hcz179_1, hcz179_2, hcz179_3⟩ := cz4 BK1312
               obtain ⟨hfz179_0, hfz179_1, hfz179_2, hfz179_3⟩ := fz4 BK1312
               go_wp2_with (first | ((with_reducible refine gate_callee (f := 29) rfl ?_); refine gL (some 107) rfl rfl Try.func29 (by kernel_rfl) rfl #[.agg #[.slice Ao151 t1380.length co151, .slice Ao157 t1383.length co157, .slice Ao158 t1386.length co158, .int .i64 t1389], .agg #[.slice Ao30 t1301.length co30, .slice Ao33 t1304.length co33, .slice Ao34 t1307.length co34, .int .i64 t1310]] rfl ?_; (with_reducible refine (laws_eqStore.calls kj82 _ _ t1380 _ _ t1383 _ _ t1386 t1389 _ _ t1301 _ _ t1304 _ _ t1307 t1310 false _ ?side1 ?side2 ?side3 ?side4 ?side5 ?side6 ?side7 ?side8 ?side9 ?side10 ?side11 ?side12 A159.out).mono ?_); (case side1 => exact rc HO1382 BK1391); (case side2 => exact (Kd.R_reads' HO1382.out).2.1); (case side3 => exact rc HO1385 BK1391); (case side4 => exact (Kd.R_reads' HO1385.out).2.1); (case side5 => exact rc HO1388 BK1391); (case side6 => exact (Kd.R_reads' HO1388.out).2.1); (case side7 => exact rc HO_1313000 BK1391); (case side8 => exact (Kd.R_reads' HO_1313000.out).2.1); (case side9 => exact rc HO_1313001 BK1391); (case side10 => exact (Kd.R_reads' HO_1313001.out).2.1); (case side11 => exact rc HO_1313002 BK1391); (case side12 => exact (Kd.R_reads' HO_1313002.out).2.1); rintro e w180 ⟨rfl, hb⟩; refine ⟨_, rfl, ?_⟩; replace HO_1313000 := nf HO_1313000 BK1391 hb; replace HO_1313001 := nf HO_1313001 BK1391 hb; replace HO_1313002 := nf HO_1313002 BK1391 hb; replace HO_1324000 := nf HO_1324000 BK1391 hb; replace HO_1324001 := nf HO_1324001 BK1391 hb; replace HO_1324002 := nf HO_1324002 BK1391 hb; replace HO_1339000 := nf HO_1339000 BK1391 hb; replace HO_1339001 := nf HO_1339001 BK1391 hb; replace HO_1339002 := nf HO_1339002 BK1391 hb; replace HO1369 := nf HO1369 BK1391 hb; replace HO1372 := nf HO1372 BK1391 hb; replace HO1375 := nf HO1375 BK1391 hb; replace HO1379 := nf HO1379 BK1391 hb; replace HO1382 := nf HO1382 BK1391 hb; replace HO1385 := nf HO1385 BK1391 hb; replace HO1388 := nf HO1388 BK1391 hb; replace BK1286 := Aside0.mk (blk_below (bf BK1286 NB1286_1391) hb); replace BK1312 := Aside0.mk (blk_below (bf BK1312 NB1312_1391) hb); replace BK1323 := Aside0.mk (blk_below (bf BK1323 NB1323_1391) hb); replace BK1338 := Aside0.mk (blk_below (bf BK1338 NB1338_1391) hb); replace BK1391 := Aside0.mk (blk_below (g := gb1391) (o := .cells #[.slice Ao151 t1380.length co151, .slice Ao157 t1383.length co157, .slice Ao158 t1386.length co158, .int .i64 t1389] 44 (0, 0)) (by (with_reducible repeat (first | refine blk_drewN ?_ _ | refine blk_drew ?_ | refine blk_alloc ?_ _)); refine blk_put (cs := #[.slice Ao151 t1380.length co151, .slice Ao157 t1383.length co157, .slice Ao158 t1386.length co158, .int .i64 0]) ?_ 3 _ rfl; (with_reducible repeat (first | refine blk_drewN ?_ _ | refine blk_drew ?_ | refine blk_alloc ?_ _)); refine blk_put (cs := #[.slice Ao151 t1380.length co151, .slice Ao157 t1383.length co157, .slice none 0 0, .int .i64 0]) ?_ 2 _ rfl; (with_reducible repeat (first | refine blk_drewN ?_ _ | refine blk_drew ?_ | refine blk_alloc ?_ _)); refine blk_put (cs := #[.slice Ao151 t1380.length co151, .slice none 0 0, .slice none 0 0, .int .i64 0]) ?_ 1 _ rfl; (with_reducible repeat (first | refine blk_drewN ?_ _ | refine blk_drew ?_ | refine blk_alloc ?_ _)); refine blk_put (cs := #[.slice none 0 0, .slice none 0 0, .slice none 0 0, .int .i64 0]) ?_ 0 _ rfl; (with_reducible repeat (first | refine blk_drewN ?_ _ | refine blk_drew ?_ | refine blk_alloc ?_ _)); exact BK1391.out) hb); replace HB := Aside0.mk (below_step (bs5 HB GE1286 GE1312 GE1323 GE1338 GE1391) hb); (try clear hb); (try clear hb2); (try clear hk); (try clear hi)))
               go_meet
               case rel => exact ⟨_, (true), (by first | rfl | (simp; done) | (simp [*]; done)), H', ⟨by have := HJ16.out; have := HJ82.out; first | omega | exact Nat.le_refl _⟩, ⟨by (try simp only [hl1324000_82]); (try simp only [hl1324001_82]); (try simp only [hl1324002_82]); (with_reducible repeat (first | apply Kd.R_alloc | apply Kd.R_drewN | apply Kd.R_drew)); exact Kd.R_mono HO_1313000.out (fun _ hk => ⟨hk.1.1.1.1.1, ⟨hk.1.1.1.1.2.1, ⟨hk.1.1.1.1.2.2.1, ⟨hk.1.1.1.1.2.2.2.1, ⟨hk.1.1.1.1.2.2.2.2, ⟨hk.1.2, hk.2⟩⟩⟩⟩⟩⟩)⟩, ⟨by (try simp only [hl1324000_82]); (try simp only [hl1324001_82]); (try simp only [hl1324002_82]); (with_reducible repeat (first | apply Kd.R_alloc | apply Kd.R_drewN | apply Kd.R_drew)); exact Kd.R_mono HO_1313001.out (fun _ hk => ⟨hk.1.1.1, ⟨hk.1.1.2, hk.2⟩⟩)⟩, ⟨by (try simp only [hl1324000_82]); (try simp only [hl1324001_82]); (try simp only [hl1324002_82]); (with_reducible repeat (first | apply Kd.R_alloc | apply Kd.R_drewN | apply Kd.R_drew)); exact Kd.R_mono HO_1313002.out (fun _ hk => ⟨hk.1.1.1.1.1, ⟨hk.1.1.1.1.2.1, ⟨hk.1.1.1.1.2.2.1, ⟨hk.1.1.1.1.2.2.2.1, ⟨hk.1.1.1.1.2.2.2.2, ⟨hk.1.2, hk.2⟩⟩⟩⟩⟩⟩)⟩, ⟨by (try simp only [hl1324000_82]); (try simp only [hl1324001_82]); (try simp only [hl1324002_82]); (with_reducible repeat (first | apply Kd.R_alloc | apply Kd.R_drewN | apply Kd.R_drew)); exact Kd.R_mono HO_1324000.out (fun _ hk => ⟨hk.1.1.1.1.1, ⟨hk.1.1.1.1.2.1, ⟨hk.1.1.1.1.2.2.1, ⟨hk.1.1.1.1.2.2.2.1, ⟨hk.1.1.1.1.2.2.2.2, ⟨hk.1.2, hk.2⟩⟩⟩⟩⟩⟩)⟩, ⟨by (try simp only [hl1324000_82]); (try simp only [hl1324001_82]); (try simp only [hl1324002_82]); (with_reducible repeat (first | apply Kd.R_alloc | apply Kd.R_drewN | apply Kd.R_drew)); exact Kd.R_mono HO_1324001.out (fun _ hk => ⟨hk.1.1.1, ⟨hk.1.1.2, hk.2⟩⟩)⟩, ⟨by (try simp only [hl1324000_82]); (try simp only [hl1324001_82]); (try simp only [hl1324002_82]); (with_reducible repeat (first | apply Kd.R_alloc | apply Kd.R_drewN | apply Kd.R_drew)); exact Kd.R_mono HO_1324002.out (fun _ hk => ⟨hk.1.1.1.1.1, ⟨hk.1.1.1.1.2.1, ⟨hk.1.1.1.1.2.2.1, ⟨hk.1.1.1.1.2.2.2.1, ⟨hk.1.1.1.1.2.2.2.2, ⟨hk.1.2, hk.2⟩⟩⟩⟩⟩⟩)⟩, ⟨by (try simp only [hl1324000_82]); (try simp only [hl1324001_82]); (try simp only [hl1324002_82]); (with_reducible repeat (first | apply Kd.R_alloc | apply Kd.R_drewN | apply Kd.R_drew)); exact Kd.R_mono HO_1339000.out (fun _ hk => ⟨hk.1.1.1.1.1, ⟨hk.1.1.1.1.2.1, ⟨hk.1.1.1.1.2.2.1, ⟨hk.1.1.1.1.2.2.2.1, ⟨hk.1.1.1.1.2.2.2.2, ⟨hk.1.2, hk.2⟩⟩⟩⟩⟩⟩)⟩, ⟨by (try simp only [hl1324000_82]); (try simp only [hl1324001_82]); (try simp only [hl1324002_82]); (with_reducible repeat (first | apply Kd.R_alloc | apply Kd.R_drewN | apply Kd.R_drew)); exact Kd.R_mono HO_1339001.out (fun _ hk => ⟨hk.1.1.1, ⟨hk.1.1.2, hk.2⟩⟩)⟩, ⟨by (try simp only [hl1324000_82]); (try simp only [hl1324001_82]); (try simp only [hl1324002_82]); (with_reducible repeat (first | apply Kd.R_alloc | apply Kd.R_drewN | apply Kd.R_drew)); exact Kd.R_mono HO_1339002.out (fun _ hk => ⟨hk.1.1.1.1.1, ⟨hk.1.1.1.1.2.1, ⟨hk.1.1.1.1.2.2.1, ⟨hk.1.1.1.1.2.2.2.1, ⟨hk.1.1.1.1.2.2.2.2, ⟨hk.1.2, hk.2⟩⟩⟩⟩⟩⟩)⟩, ⟨by (try simp only [hl1324000_82]); (try simp only [hl1324001_82]); (try simp only [hl1324002_82]); (with_reducible repeat (first | apply Kd.R_alloc | apply Kd.R_drewN | apply Kd.R_drew)); exact Kd.R_mono HO1382.out (fun _ hk => ⟨hk.1.1.1.1.1.1.1.2, ⟨hk.1.1.1.1.1.1.2, ⟨hk.1.1.1.1.1.2, ⟨hk.1.1.1.1.2, ⟨hk.1.1.1.2, ⟨hk.1.1.2, hk.1.1.1.1.1.1.1.1⟩⟩⟩⟩⟩⟩)⟩, ⟨by (try simp only [hl1324000_82]); (try simp only [hl1324001_82]); (try simp only [hl1324002_82]); (with_reducible repeat (first | apply Kd.R_alloc | apply Kd.R_drewN | apply Kd.R_drew)); exact Kd.R_mono HO1385.out (fun _ hk => ⟨hk.1.1.1.2, ⟨hk.1.1.2, hk.1.2⟩⟩)⟩, ⟨by (try simp only [hl1324000_82]); (try simp only [hl1324001_82]); (try simp only [hl1324002_82]); (with_reducible repeat (first | apply Kd.R_alloc | apply Kd.R_drewN | apply Kd.R_drew)); exact Kd.R_mono HO1388.out (fun _ hk => ⟨hk.1.1.1.1.1.1.1.2, ⟨hk.1.1.1.1.1.1.2, ⟨hk.1.1.1.1.1.2, ⟨hk.1.1.1.1.2, ⟨hk.1.1.1.2, ⟨hk.1.1.2, hk.1.1.1.1.1.1.1.1⟩⟩⟩⟩⟩⟩)⟩, ⟨by (try simp only [hl1324000_82]); (try simp only [hl1324001_82]); (try simp only [hl1324002_82]); (with_reducible repeat (first | refine blk_drewN ?_ _ | refine blk_drew ?_ | refine blk_alloc ?_ _)); exact BK1286.out⟩, ⟨by (try simp only [hl1324000_82]); (try simp only [hl1324001_82]); (try simp only [hl1324002_82]); (with_reducible repeat (first | refine blk_drewN ?_ _ | refine blk_drew ?_ | refine blk_alloc ?_ _)); exact BK1312.out⟩, ⟨by (try simp only [hl1324000_82]); (try simp only [hl1324001_82]); (try simp only [hl1324002_82]); (with_reducible repeat (first | refine blk_drewN ?_ _ | refine blk_drew ?_ | refine blk_alloc ?_ _)); exact BK1323.out⟩, ⟨by (try simp only [hl1324000_82]); (try simp only [hl1324001_82]); (try simp only [hl1324002_82]); (with_reducible repeat (first | refine blk_drewN ?_ _ | refine blk_drew ?_ | refine blk_alloc ?_ _)); exact BK1338.out⟩, ⟨by (try simp only [hl1324000_82]); (try simp only [hl1324001_82]); (try simp only [hl1324002_82]); (with_reducible repeat (first | refine blk_drewN ?_ _ | refine blk_drew ?_ | refine blk_alloc ?_ _)); exact BK1391.out⟩, ⟨bs5 HB GE1286 GE1312 GE1323 GE1338 GE1391⟩⟩
             case rest =>
              clear HC132
              try clear c1
              try clear c2
              try clear p2
              try clear c3
              try clear c4
              try clear c4b0
              try clear c4b1
              try clear c5
              try clear c6
              try clear c7
              try clear c7b0
              try clear c8
              try clear c9
              try clear c10
              try clear c11
              try clear c12
              try clear c13
              try clear c14
              try clear c15
              try clear c16
              try clear c17
              try clear c25
              try clear c27
              try clear c29
              try clear c31
              try clear c32
              try clear c33
              try clear c39
              try clear c40
              try clear c49
              try clear c50
              try clear c51
              try clear c52
              try clear c53
              try clear c57
              try clear c58
              try clear c59
              try clear c60
              try clear c62
              try clear c63
              try clear c66
              try clear c67
              try clear c68
              try clear c70
              try clear c71
              try clear c74
              try clear c77
              try clear c80
              try clear c92
              try clear c93
              try clear c94
              try clear c98
              try clear c98b0
              try clear c100
              try clear c101
              try clear c102
              try clear c103
              try clear c105
              try clear c106
              try clear c109
              try clear c110
              try clear c111
              try clear c113
              try clear c114
              try clear c117
              try clear c120
              try clear c120b0
              try clear c121
              try clear c122
              try clear c123
              try clear c128
              try clear c128b0
              try clear c128b1
              try clear c133
              try clear c134
              try clear c135
              try clear c140
              try clear c141
              try clear c152
              try clear c153
              try clear c154
              try clear c155
              try clear c160
              try clear c161
              try clear c162
              try clear c163
              try clear c164
              try clear c166
              try clear c167
              try clear c168
              try clear c171
              try clear c172
              try clear c173
              try clear c174
              try clear c176
              try clear c177
              try clear c178
              try clear hcz104_0 hcz104_1 hcz104_2 hcz104_3
              try clear hcz107_0 hcz107_1 hcz107_2 hcz107_3
              try clear hcz112_0 hcz112_1 hcz112_2 hcz112_3
              try clear hcz115_0 hcz115_1 hcz115_2 hcz115_3
              try clear hcz124_0 hcz124_1 hcz124_2 hcz124_3
              try clear hcz126_0 hcz126_1 hcz126_2 hcz126_3
              try clear hcz136_0 hcz136_1 hcz136_2 hcz136_3
              try clear hcz138_0 hcz138_1 hcz138_2 hcz138_3
              try clear hcz142_0 hcz142_1 hcz142_2 hcz142_3
              try clear hcz156_0 hcz156_1 hcz156_2 hcz156_3
              try clear hcz165_0 hcz165_1 hcz165_2 hcz165_3
              try clear hcz169_0 hcz169_1 hcz169_2 hcz169_3
              try clear hcz175_0 hcz175_1 hcz175_2 hcz175_3
              try clear hcz179_0 hcz179_1 hcz179_2 hcz179_3
              try clear hcz19_0 hcz19_1 hcz19_2 hcz19_3
              try clear hcz21_0 hcz21_1 hcz21_2 hcz21_3
              try clear hcz32_0 hcz32_1 hcz32_2 hcz32_3
              try clear hcz35_0 hcz35_1 hcz35_2 hcz35_3
              try clear hcz41_0 hcz41_1 hcz41_2 hcz41_3
              try clear hcz45_0 hcz45_1 hcz45_2 hcz45_3
              try clear hcz53_0 hcz53_1 hcz53_2 hcz53_3
              try clear hcz61_0 hcz61_1 hcz61_2 hcz61_3
              try clear hcz64_0 hcz64_1 hcz64_2 hcz64_3
              try clear hcz69_0 hcz69_1 hcz69_2 hcz69_3
              try clear hcz72_0 hcz72_1 hcz72_2 hcz72_3
              try clear hcz95_0 hcz95_1 hcz95_2 hcz95_3
              try clear hcz9_0 hcz9_1 hcz9_2 hcz9_3
              try clear hfz104_0 hfz104_1 hfz104_2 hfz104_3
              try clear hfz107_0 hfz107_1 hfz107_2 hfz107_3
              try clear hfz112_0 hfz112_1 hfz112_2 hfz112_3
              try clear hfz115_0 hfz115_1 hfz115_2 hfz115_3
              try clear hfz124_0 hfz124_1 hfz124_2 hfz124_3
              try clear hfz126_0 hfz126_1 hfz126_2 hfz126_3
              try clear hfz136_0 hfz136_1 hfz136_2 hfz136_3
              try clear hfz138_0 hfz138_1 hfz138_2 hfz138_3
              try clear hfz142_0 hfz142_1 hfz142_2 hfz142_3
              try clear hfz156_0 hfz156_1 hfz156_2 hfz156_3
              try clear hfz165_0 hfz165_1 hfz165_2 hfz165_3
              try clear hfz169_0 hfz169_1 hfz169_2 hfz169_3
              try clear hfz175_0 hfz175_1 hfz175_2 hfz175_3
              try clear hfz179_0 hfz179_1 hfz179_2 hfz179_3
              try clear hfz19_0 hfz19_1 hfz19_2 hfz19_3
              try clear hfz21_0 hfz21_1 hfz21_2 hfz21_3
              try clear hfz32_0 hfz32_1 hfz32_2 hfz32_3
              try clear hfz35_0 hfz35_1 hfz35_2 hfz35_3
              try clear hfz41_0 hfz41_1 hfz41_2 hfz41_3
              try clear hfz45_0 hfz45_1 hfz45_2 hfz45_3
              try clear hfz53_0 hfz53_1 hfz53_2 hfz53_3
              try clear hfz61_0 hfz61_1 hfz61_2 hfz61_3
              try clear hfz64_0 hfz64_1 hfz64_2 hfz64_3
              try clear hfz69_0 hfz69_1 hfz69_2 hfz69_3
              try clear hfz72_0 hfz72_1 hfz72_2 hfz72_3
              try clear hfz95_0 hfz95_1 hfz95_2 hfz95_3
              try clear hfz9_0 hfz9_1 hfz9_2 hfz9_3
              try clear p2
              obtain ⟨kq, x113_131, rfl, HA, HJ131, HO_1313000, HO_1313001, HO_1313002, HO_1324000, HO_1324001, HO_1324002, HO_1339000, HO_1339001, HO_1339002, HO_1392000, HO_1392001, HO_1392002, BK1286, BK1312, BK1323, BK1338, BK1391, HB⟩ := hcut
              have hl1339000_131 := (Kd.R_reads' HO_1339000.out).1
              rw [hl1339000_131] at HO_1339000
              (try simp only [hl1339000_131])
              (try simp only [hl1339000_131] at BK1286)
              (try simp only [hl1339000_131] at BK1312)
              (try simp only [hl1339000_131] at BK1323)
              (try simp only [hl1339000_131] at BK1338)
              (try simp only [hl1339000_131] at BK1391)
              (try simp only [hl1339000_131] at HO_1313000)
              (try simp only [hl1339000_131] at HO_1313001)
              (try simp only [hl1339000_131] at HO_1313002)
              (try simp only [hl1339000_131] at HO_1324000)
              (try simp only [hl1339000_131] at HO_1324001)
              (try simp only [hl1339000_131] at HO_1324002)
              (try simp only [hl1339000_131] at HO_1339001)
              (try simp only [hl1339000_131] at HO_1339002)
              (try simp only [hl1339000_131] at HO_1392000)
              (try simp only [hl1339000_131] at HO_1392001)
              (try simp only [hl1339000_131] at HO_1392002)
              have hl1339001_131 := (Kd.R_reads' HO_1339001.out).1
              rw [hl1339001_131] at HO_1339001
              (try simp only [hl1339001_131])
              (try simp only [hl1339001_131] at BK1286)
              (try simp only [hl1339001_131] at BK1312)
              (try simp only [hl1339001_131] at BK1323)
              (try simp only [hl1339001_131] at BK1338)
              (try simp only [hl1339001_131] at BK1391)
              (try simp only [hl1339001_131] at HO_1313000)
              (try simp only [hl1339001_131] at HO_1313001)
              (try simp only [hl1339001_131] at HO_1313002)
              (try simp only [hl1339001_131] at HO_1324000)
              (try simp only [hl1339001_131] at HO_1324001)
              (try simp only [hl1339001_131] at HO_1324002)
              (try simp only [hl1339001_131] at HO_1339000)
              (try simp only [hl1339001_131] at HO_1339002)
              (try simp only [hl1339001_131] at HO_1392000)
              (try simp only [hl1339001_131] at HO_1392001)
              (try simp only [hl1339001_131] at HO_1392002)
              have hl1339002_131 := (Kd.R_reads' HO_1339002.out).1
              rw [hl1339002_131] at HO_1339002
              (try simp only [hl1339002_131])
              (try simp only [hl1339002_131] at BK1286)
              (try simp only [hl1339002_131] at BK1312)
              (try simp only [hl1339002_131] at BK1323)
              (try simp only [hl1339002_131] at BK1338)
              (try simp only [hl1339002_131] at BK1391)
              (try simp only [hl1339002_131] at HO_1313000)
              (try simp only [hl1339002_131] at HO_1313001)
              (try simp only [hl1339002_131] at HO_1313002)
              (try simp only [hl1339002_131] at HO_1324000)
              (try simp only [hl1339002_131] at HO_1324001)
              (try simp only [hl1339002_131] at HO_1324002)
              (try simp only [hl1339002_131] at HO_1339000)
              (try simp only [hl1339002_131] at HO_1339001)
              (try simp only [hl1339002_131] at HO_1392000)
              (try simp only [hl1339002_131] at HO_1392001)
              (try simp only [hl1339002_131] at HO_1392002)
              cases kq with
              | zero => exact absurd HA.out (by simp [laws_FnExactCrashStore.j2])
              | succ kj131 =>
               have H := HA.out
               clear HA
               simp only [laws_FnExactCrashStore.j2] at H
               by_cases c181 : x113_131 = true
               ·
                subst c181
                rw [if_pos rfl] at H
                obtain rfl := Option.some.inj H
                go_wp2
                go_ret
                exact ⟨by first | rfl | (simp [errW_none, errW_some] <;> rfl) | (simp [*, errW_none, errW_some] <;> rfl), bs5 HB GE1286 GE1312 GE1323 GE1338 GE1391⟩
               ·
                replace c181 := Bool.eq_false_iff.mpr c181
                subst c181
                rw [if_neg (show ¬ (false = true) by decide)] at H
                replace H := Option.bind_eq_some_iff.mp H
                obtain ⟨t1393, A1820, H⟩ := H
                replace H : (if t1393 < 0 then (some false) else (if t1393 = t1362 then (some true) else (some false))) = some r := H
                have A182 := Aside0.mk A1820
                clear A1820
                by_cases c183 : t1393 < 0
                ·
                 rw [if_pos c183] at H
                 have c183b0 : decide (t1393 < 0) = true := decide_eq_true c183
                 clear c183
                 obtain rfl := Option.some.inj H
                 have hnb184 := NB1338_1286.out
                 have hnc184 := NB1286_1338.out
                 have hnb185 := NB1338_1312.out
                 have hnc185 := NB1312_1338.out
                 have hnb186 := NB1338_1323.out
                 have hnc186 := NB1323_1338.out
                 have hnb187 := NB1338_1391.out
                 have hnc187 := NB1391_1338.out
                 obtain ⟨hcz188_0, hcz188_1, hcz188_2, hcz188_3⟩ := cz4 BK1338
                 obtain ⟨hfz188_0, hfz188_1, hfz188_2, hfz188_3⟩ := fz4 BK1338
                 go_wp2_with (first | ((with_reducible refine gate_callee (f := 33) rfl ?_); refine gL (some 116) rfl rfl Try.func33 (by kernel_rfl) rfl #[.agg #[.slice Ao49 t1363.length co49, .slice Ao54 t1364.length co54, .slice Ao55 t1365.length co55, .int .i64 t1336], .int .i64 1] rfl ?_; (with_reducible refine (laws_heldStore.calls kj131 _ _ t1363 _ _ t1364 _ _ t1365 t1336 1 t1393 _ ?side1 ?side2 ?side3 ?side4 ?side5 ?side6 A182.out).mono ?_); (case side1 => exact rc0 HO_1339000); (case side2 => exact (Kd.R_reads' HO_1339000.out).2.1); (case side3 => exact rc0 HO_1339001); (case side4 => exact (Kd.R_reads' HO_1339001.out).2.1); (case side5 => exact rc0 HO_1339002); (case side6 => exact (Kd.R_reads' HO_1339002.out).2.1); rintro e w189 ⟨rfl, hb⟩; refine ⟨_, rfl, ?_⟩; replace HO_1313000 := nr HO_1313000 hb; replace HO_1313001 := nr HO_1313001 hb; replace HO_1313002 := nr HO_1313002 hb; replace HO_1324000 := nr HO_1324000 hb; replace HO_1324001 := nr HO_1324001 hb; replace HO_1324002 := nr HO_1324002 hb; replace HO_1339000 := nr HO_1339000 hb; replace HO_1339001 := nr HO_1339001 hb; replace HO_1339002 := nr HO_1339002 hb; replace HO_1392000 := nr HO_1392000 hb; replace HO_1392001 := nr HO_1392001 hb; replace HO_1392002 := nr HO_1392002 hb; replace BK1286 := nb BK1286 hb; replace BK1312 := nb BK1312 hb; replace BK1323 := nb BK1323 hb; replace BK1338 := nb BK1338 hb; replace BK1391 := nb BK1391 hb; replace HB := Aside0.mk (below_step (bs5 HB GE1286 GE1312 GE1323 GE1338 GE1391) hb); (try clear hb); (try clear hb2); (try clear hk); (try clear hi)))
                 go_ret
                 exact ⟨by first | rfl | (simp [errW_none, errW_some] <;> rfl) | (simp [*, errW_none, errW_some] <;> rfl), bs5 HB GE1286 GE1312 GE1323 GE1338 GE1391⟩
                ·
                 rw [if_neg c183] at H
                 have c183b0 : decide (t1393 < 0) = false := decide_eq_false c183
                 clear c183
                 by_cases c190 : t1393 = t1362
                 ·
                  rw [if_pos c190] at H
                  have c190b0 : (t1393 == t1362) = true := beq_iff_eq.mpr c190
                  have c190b1 : (t1393 != t1362) = false := bne_eq_false_iff_eq.mpr c190
                  clear c190
                  obtain rfl := Option.some.inj H
                  have hnb191 := NB1338_1286.out
                  have hnc191 := NB1286_1338.out
                  have hnb192 := NB1338_1312.out
                  have hnc192 := NB1312_1338.out
                  have hnb193 := NB1338_1323.out
                  have hnc193 := NB1323_1338.out
                  have hnb194 := NB1338_1391.out
                  have hnc194 := NB1391_1338.out
                  obtain ⟨hcz195_0, hcz195_1, hcz195_2, hcz195_3⟩ := cz4 BK1338
                  obtain ⟨hfz195_0, hfz195_1, hfz195_2, hfz195_3⟩ := fz4 BK1338
                  go_wp2_with (first | ((with_reducible refine gate_callee (f := 33) rfl ?_); refine gL (some 116) rfl rfl Try.func33 (by kernel_rfl) rfl #[.agg #[.slice Ao49 t1363.length co49, .slice Ao54 t1364.length co54, .slice Ao55 t1365.length co55, .int .i64 t1336], .int .i64 1] rfl ?_; (with_reducible refine (laws_heldStore.calls kj131 _ _ t1363 _ _ t1364 _ _ t1365 t1336 1 t1393 _ ?side1 ?side2 ?side3 ?side4 ?side5 ?side6 A182.out).mono ?_); (case side1 => exact rc0 HO_1339000); (case side2 => exact (Kd.R_reads' HO_1339000.out).2.1); (case side3 => exact rc0 HO_1339001); (case side4 => exact (Kd.R_reads' HO_1339001.out).2.1); (case side5 => exact rc0 HO_1339002); (case side6 => exact (Kd.R_reads' HO_1339002.out).2.1); rintro e w196 ⟨rfl, hb⟩; refine ⟨_, rfl, ?_⟩; replace HO_1313000 := nr HO_1313000 hb; replace HO_1313001 := nr HO_1313001 hb; replace HO_1313002 := nr HO_1313002 hb; replace HO_1324000 := nr HO_1324000 hb; replace HO_1324001 := nr HO_1324001 hb; replace HO_1324002 := nr HO_1324002 hb; replace HO_1339000 := nr HO_1339000 hb; replace HO_1339001 := nr HO_1339001 hb; replace HO_1339002 := nr HO_1339002 hb; replace HO_1392000 := nr HO_1392000 hb; replace HO_1392001 := nr HO_1392001 hb; replace HO_1392002 := nr HO_1392002 hb; replace BK1286 := nb BK1286 hb; replace BK1312 := nb BK1312 hb; replace BK1323 := nb BK1323 hb; replace BK1338 := nb BK1338 hb; replace BK1391 := nb BK1391 hb; replace HB := Aside0.mk (below_step (bs5 HB GE1286 GE1312 GE1323 GE1338 GE1391) hb); (try clear hb); (try clear hb2); (try clear hk); (try clear hi)))
                  go_ret
                  exact ⟨by first | rfl | (simp [errW_none, errW_some] <;> rfl) | (simp [*, errW_none, errW_some] <;> rfl), bs5 HB GE1286 GE1312 GE1323 GE1338 GE1391⟩
                 ·
                  rw [if_neg c190] at H
                  have c190b0 : (t1393 == t1362) = false := beq_eq_false_iff_ne.mpr c190
                  have c190b1 : (t1393 != t1362) = true := bne_iff_ne.mpr c190
                  obtain rfl := Option.some.inj H
                  have hnb197 := NB1338_1286.out
                  have hnc197 := NB1286_1338.out
                  have hnb198 := NB1338_1312.out
                  have hnc198 := NB1312_1338.out
                  have hnb199 := NB1338_1323.out
                  have hnc199 := NB1323_1338.out
                  have hnb200 := NB1338_1391.out
                  have hnc200 := NB1391_1338.out
                  obtain ⟨hcz201_0, hcz201_1, hcz201_2, hcz201_3⟩ := cz4 BK1338
                  obtain ⟨hfz201_0, hfz201_1, hfz201_2, hfz201_3⟩ := fz4 BK1338
                  go_wp2_with (first | ((with_reducible refine gate_callee (f := 33) rfl ?_); refine gL (some 116) rfl rfl Try.func33 (by kernel_rfl) rfl #[.agg #[.slice Ao49 t1363.length co49, .slice Ao54 t1364.length co54, .slice Ao55 t1365.length co55, .int .i64 t1336], .int .i64 1] rfl ?_; (with_reducible refine (laws_heldStore.calls kj131 _ _ t1363 _ _ t1364 _ _ t1365 t1336 1 t1393 _ ?side1 ?side2 ?side3 ?side4 ?side5 ?side6 A182.out).mono ?_); (case side1 => exact rc0 HO_1339000); (case side2 => exact (Kd.R_reads' HO_1339000.out).2.1); (case side3 => exact rc0 HO_1339001); (case side4 => exact (Kd.R_reads' HO_1339001.out).2.1); (case side5 => exact rc0 HO_1339002); (case side6 => exact (Kd.R_reads' HO_1339002.out).2.1); rintro e w202 ⟨rfl, hb⟩; refine ⟨_, rfl, ?_⟩; replace HO_1313000 := nr HO_1313000 hb; replace HO_1313001 := nr HO_1313001 hb; replace HO_1313002 := nr HO_1313002 hb; replace HO_1324000 := nr HO_1324000 hb; replace HO_1324001 := nr HO_1324001 hb; replace HO_1324002 := nr HO_1324002 hb; replace HO_1339000 := nr HO_1339000 hb; replace HO_1339001 := nr HO_1339001 hb; replace HO_1339002 := nr HO_1339002 hb; replace HO_1392000 := nr HO_1392000 hb; replace HO_1392001 := nr HO_1392001 hb; replace HO_1392002 := nr HO_1392002 hb; replace BK1286 := nb BK1286 hb; replace BK1312 := nb BK1312 hb; replace BK1323 := nb BK1323 hb; replace BK1338 := nb BK1338 hb; replace BK1391 := nb BK1391 hb; replace HB := Aside0.mk (below_step (bs5 HB GE1286 GE1312 GE1323 GE1338 GE1391) hb); (try clear hb); (try clear hb2); (try clear hk); (try clear hi)))
                  go_ret
                  exact ⟨by first | rfl | (simp [errW_none, errW_some] <;> rfl) | (simp [*, errW_none, errW_some] <;> rfl), bs5 HB GE1286 GE1312 GE1323 GE1338 GE1391⟩
            ·
             rw [if_neg c128] at H
             have c128b0 : (t1366 == t1362) = false := beq_eq_false_iff_ne.mpr c128
             have c128b1 : (t1366 != t1362) = true := bne_iff_ne.mpr c128
             obtain rfl := Option.some.inj H
             have hnb203 := NB1338_1286.out
             have hnc203 := NB1286_1338.out
             have hnb204 := NB1338_1312.out
             have hnc204 := NB1312_1338.out
             have hnb205 := NB1338_1323.out
             have hnc205 := NB1323_1338.out
             obtain ⟨hcz206_0, hcz206_1, hcz206_2, hcz206_3⟩ := cz4 BK1338
             obtain ⟨hfz206_0, hfz206_1, hfz206_2, hfz206_3⟩ := fz4 BK1338
             go_wp2_with (first | ((with_reducible refine gate_callee (f := 32) rfl ?_); refine gL (some 87) rfl rfl Try.func32 (by kernel_rfl) rfl #[.agg #[.slice Ao49 t1327.length co49, .slice Ao54 t1330.length co54, .slice Ao55 t1333.length co55, .int .i64 t1336], .int .i64 1] rfl ?_; (with_reducible refine (laws_markStore.calls kj82 (fun k_ => some k_ = (.slice Ao49 t1327.length co49 : Value).ownBlock) (.slice Ao49 t1327.length co49) t1327 (fun k_ => some k_ = (.slice Ao54 t1330.length co54 : Value).ownBlock) (.slice Ao54 t1330.length co54) t1330 (fun k_ => some k_ = (.slice Ao55 t1333.length co55 : Value).ownBlock) (.slice Ao55 t1333.length co55) t1333 t1336 1 t1362 t1363 t1364 t1365 w _ ?side1 ?side2 ?side3 ?side4 ?side5 ?side6 A118.out).mono ?_); (case side1 => repeat (first | (with_reducible first | exact HB.out | apply below_alloc | apply pw_below_drewN | apply below_drew1 | refine below_set ?_ GE1286.out | refine below_set ?_ GE1312.out | refine below_set ?_ GE1323.out | refine below_set ?_ GE1338.out) | exact HB.out)); (case side2 => exact Kd.R_tight rfl HO_1339000.out); (case side3 => exact fun k_ e_ => (HO_1339000.out.1 k_ e_.symm).2.2.2.2); (case side4 => exact Kd.R_tight rfl HO_1339001.out); (case side5 => exact Kd.R_tight rfl HO_1339002.out); (case side6 => exact fun k_ e_ => (HO_1339002.out.1 k_ e_.symm).2.2.2.2); rintro e w207 ⟨rfl, hy0, hy1, hy2, hb, hkp⟩; refine ⟨_, rfl, ?_⟩; replace HO_1313000 := Aside0.mk (Kd.R_mono (ok' := fun k_ => some k_ ≠ (.slice Ao34 t1307.length co34 : Value).ownBlock ∧ some k_ ≠ (.slice Ao38 t1356.length co38 : Value).ownBlock ∧ some k_ ≠ (.slice Ao43 t1358.length co43 : Value).ownBlock ∧ some k_ ≠ (.slice Ao49 t1327.length co49 : Value).ownBlock ∧ some k_ ≠ (.slice Ao55 t1333.length co55 : Value).ownBlock) (Kd.R_keptB ((Kd.R_apart' HO_1313000.out (Kd.R_typed HO_1339001.out) (by decide))) hkp (fun k_ hk_ hs_ => Or.elim hs_ (fun e_ => (hk_.1.2.2.2.1) e_) (fun e_ => Or.elim e_ (fun e_ => (hk_.2) e_) (fun e_ => (hk_.1.2.2.2.2) e_)))) (fun k_ hk_ => ⟨hk_.1.1.1, hk_.1.1.2.1, hk_.1.1.2.2.1, hk_.1.1.2.2.2.1, hk_.1.1.2.2.2.2⟩)); replace HO_1313001 := Aside0.mk (Kd.R_mono (ok' := fun k_ => some k_ ≠ (.slice Ao42 t1357.length co42 : Value).ownBlock ∧ some k_ ≠ (.slice Ao54 t1330.length co54 : Value).ownBlock) (Kd.R_keptB ((Kd.R_apart' (Kd.R_apart' HO_1313001.out (Kd.R_typed HO_1339000.out) (by decide)) (Kd.R_typed HO_1339002.out) (by decide))) hkp (fun k_ hk_ hs_ => Or.elim hs_ (fun e_ => (hk_.1.2) e_) (fun e_ => Or.elim e_ (fun e_ => (hk_.1.1.2) e_) (fun e_ => (hk_.2) e_)))) (fun k_ hk_ => ⟨hk_.1.1.1.1, hk_.1.1.1.2⟩)); replace HO_1313002 := Aside0.mk (Kd.R_mono (ok' := fun k_ => some k_ ≠ (.slice Ao30 t1301.length co30 : Value).ownBlock ∧ some k_ ≠ (.slice Ao38 t1356.length co38 : Value).ownBlock ∧ some k_ ≠ (.slice Ao43 t1358.length co43 : Value).ownBlock ∧ some k_ ≠ (.slice Ao49 t1327.length co49 : Value).ownBlock ∧ some k_ ≠ (.slice Ao55 t1333.length co55 : Value).ownBlock) (Kd.R_keptB ((Kd.R_apart' HO_1313002.out (Kd.R_typed HO_1339001.out) (by decide))) hkp (fun k_ hk_ hs_ => Or.elim hs_ (fun e_ => (hk_.1.2.2.2.1) e_) (fun e_ => Or.elim e_ (fun e_ => (hk_.2) e_) (fun e_ => (hk_.1.2.2.2.2) e_)))) (fun k_ hk_ => ⟨hk_.1.1.1, hk_.1.1.2.1, hk_.1.1.2.2.1, hk_.1.1.2.2.2.1, hk_.1.1.2.2.2.2⟩)); replace HO_1324000 := Aside0.mk (Kd.R_mono (ok' := fun k_ => some k_ ≠ (.slice Ao30 t1301.length co30 : Value).ownBlock ∧ some k_ ≠ (.slice Ao34 t1307.length co34 : Value).ownBlock ∧ some k_ ≠ (.slice Ao43 t1358.length co43 : Value).ownBlock ∧ some k_ ≠ (.slice Ao49 t1327.length co49 : Value).ownBlock ∧ some k_ ≠ (.slice Ao55 t1333.length co55 : Value).ownBlock) (Kd.R_keptB ((Kd.R_apart' HO_1324000.out (Kd.R_typed HO_1339001.out) (by decide))) hkp (fun k_ hk_ hs_ => Or.elim hs_ (fun e_ => (hk_.1.2.2.2.1) e_) (fun e_ => Or.elim e_ (fun e_ => (hk_.2) e_) (fun e_ => (hk_.1.2.2.2.2) e_)))) (fun k_ hk_ => ⟨hk_.1.1.1, hk_.1.1.2.1, hk_.1.1.2.2.1, hk_.1.1.2.2.2.1, hk_.1.1.2.2.2.2⟩)); replace HO_1324001 := Aside0.mk (Kd.R_mono (ok' := fun k_ => some k_ ≠ (.slice Ao33 t1304.length co33 : Value).ownBlock ∧ some k_ ≠ (.slice Ao54 t1330.length co54 : Value).ownBlock) (Kd.R_keptB ((Kd.R_apart' (Kd.R_apart' HO_1324001.out (Kd.R_typed HO_1339000.out) (by decide)) (Kd.R_typed HO_1339002.out) (by decide))) hkp (fun k_ hk_ hs_ => Or.elim hs_ (fun e_ => (hk_.1.2) e_) (fun e_ => Or.elim e_ (fun e_ => (hk_.1.1.2) e_) (fun e_ => (hk_.2) e_)))) (fun k_ hk_ => ⟨hk_.1.1.1.1, hk_.1.1.1.2⟩)); replace HO_1324002 := Aside0.mk (Kd.R_mono (ok' := fun k_ => some k_ ≠ (.slice Ao30 t1301.length co30 : Value).ownBlock ∧ some k_ ≠ (.slice Ao34 t1307.length co34 : Value).ownBlock ∧ some k_ ≠ (.slice Ao38 t1356.length co38 : Value).ownBlock ∧ some k_ ≠ (.slice Ao49 t1327.length co49 : Value).ownBlock ∧ some k_ ≠ (.slice Ao55 t1333.length co55 : Value).ownBlock) (Kd.R_keptB ((Kd.R_apart' HO_1324002.out (Kd.R_typed HO_1339001.out) (by decide))) hkp (fun k_ hk_ hs_ => Or.elim hs_ (fun e_ => (hk_.1.2.2.2.1) e_) (fun e_ => Or.elim e_ (fun e_ => (hk_.2) e_) (fun e_ => (hk_.1.2.2.2.2) e_)))) (fun k_ hk_ => ⟨hk_.1.1.1, hk_.1.1.2.1, hk_.1.1.2.2.1, hk_.1.1.2.2.2.1, hk_.1.1.2.2.2.2⟩)); replace BK1286 := Aside0.mk (blk_kept (bk BK1286) hkp (fun hs_ => Or.elim hs_ (fun e_ => (fun e_ => (Kd.R_ne HO_1339000.out BK1286.out (by decide)) e_) e_) (fun e_ => Or.elim e_ (fun e_ => (fun e_ => (Kd.R_ne HO_1339001.out BK1286.out (by decide)) e_) e_) (fun e_ => (fun e_ => (Kd.R_ne HO_1339002.out BK1286.out (by decide)) e_) e_)))); replace BK1312 := Aside0.mk (blk_kept (bk BK1312) hkp (fun hs_ => Or.elim hs_ (fun e_ => (fun e_ => (Kd.R_ne HO_1339000.out BK1312.out (by decide)) e_) e_) (fun e_ => Or.elim e_ (fun e_ => (fun e_ => (Kd.R_ne HO_1339001.out BK1312.out (by decide)) e_) e_) (fun e_ => (fun e_ => (Kd.R_ne HO_1339002.out BK1312.out (by decide)) e_) e_)))); replace BK1323 := Aside0.mk (blk_kept (bk BK1323) hkp (fun hs_ => Or.elim hs_ (fun e_ => (fun e_ => (Kd.R_ne HO_1339000.out BK1323.out (by decide)) e_) e_) (fun e_ => Or.elim e_ (fun e_ => (fun e_ => (Kd.R_ne HO_1339001.out BK1323.out (by decide)) e_) e_) (fun e_ => (fun e_ => (Kd.R_ne HO_1339002.out BK1323.out (by decide)) e_) e_)))); replace BK1338 := Aside0.mk (blk_kept (bk BK1338) hkp (fun hs_ => Or.elim hs_ (fun e_ => (fun e_ => (Kd.R_ne HO_1339000.out BK1338.out (by decide)) e_) e_) (fun e_ => Or.elim e_ (fun e_ => (fun e_ => (Kd.R_ne HO_1339001.out BK1338.out (by decide)) e_) e_) (fun e_ => (fun e_ => (Kd.R_ne HO_1339002.out BK1338.out (by decide)) e_) e_)))); replace HO_1339000 := Aside0.mk (Kd.R_reok rfl hy0 (fun k_ e_ => HO_1339000.out.1 k_ e_)); replace HO_1339001 := Aside0.mk (Kd.R_reok rfl hy1 (fun k_ e_ => HO_1339001.out.1 k_ e_)); replace HO_1339002 := Aside0.mk (Kd.R_reok rfl hy2 (fun k_ e_ => HO_1339002.out.1 k_ e_)); replace HB := Aside0.mk (hb); (try clear hb); (try clear hkp); (try clear hy0); (try clear hy1); (try clear hy2); obtain ⟨hcz208_0, hcz208_1, hcz208_2, hcz208_3⟩ := cz4 BK1338; obtain ⟨hfz208_0, hfz208_1, hfz208_2, hfz208_3⟩ := fz4 BK1338) | ((with_reducible refine gate_callee (f := 33) rfl ?_); refine goesL_ (some 90) rfl rfl Try.func33 (by kernel_rfl) rfl #[.agg #[.slice Ao49 t1363.length co49, .slice Ao54 t1364.length co54, .slice Ao55 t1365.length co55, .int .i64 t1336], .int .i64 1] rfl (by (try simp only [List.map_toArray, List.map_cons, List.map_nil]); first | done | (rw [show t1363.length = t1327.length from (Kd.R_reads' HO_1339000.out).1.symm, show t1364.length = t1330.length from (Kd.R_reads' HO_1339001.out).1.symm, show t1365.length = t1333.length from (Kd.R_reads' HO_1339002.out).1.symm] <;> rfl) | rfl | (simp only [List.length_drop, List.length_take]; rfl)) ?_; (with_reducible refine (laws_heldStore.calls kj82 _ _ t1363 _ _ t1364 _ _ t1365 t1336 1 t1366 _ ?side1 ?side2 ?side3 ?side4 ?side5 ?side6 A119.out).mono ?_); (case side1 => exact rc0 HO_1339000); (case side2 => rw [show t1363.length = t1327.length from (Kd.R_reads' HO_1339000.out).1.symm]; exact (Kd.R_reads' HO_1339000.out).2.1); (case side3 => exact rc0 HO_1339001); (case side4 => rw [show t1364.length = t1330.length from (Kd.R_reads' HO_1339001.out).1.symm]; exact (Kd.R_reads' HO_1339001.out).2.1); (case side5 => exact rc0 HO_1339002); (case side6 => rw [show t1365.length = t1333.length from (Kd.R_reads' HO_1339002.out).1.symm]; exact (Kd.R_reads' HO_1339002.out).2.1); rintro e w209 ⟨rfl, hb⟩; refine ⟨_, rfl, ?_⟩; replace HO_1313000 := nr HO_1313000 hb; replace HO_1313001 := nr HO_1313001 hb; replace HO_1313002 := nr HO_1313002 hb; replace HO_1324000 := nr HO_1324000 hb; replace HO_1324001 := nr HO_1324001 hb; replace HO_1324002 := nr HO_1324002 hb; replace HO_1339000 := nr HO_1339000 hb; replace HO_1339001 := nr HO_1339001 hb; replace HO_1339002 := nr HO_1339002 hb; replace BK1286 := nb BK1286 hb; replace BK1312 := nb BK1312 hb; replace BK1323 := nb BK1323 hb; replace BK1338 := nb BK1338 hb; replace HB := Aside0.mk (below_step (bs4 HB GE1286 GE1312 GE1323 GE1338) hb); (try clear hb); (try clear hb2); (try clear hk); (try clear hi)))
             go_ret
             exact ⟨by first | rfl | (simp [errW_none, errW_some] <;> rfl) | (simp [*, errW_none, errW_some] <;> rfl), bs4 HB GE1286 GE1312 GE1323 GE1338⟩
       ·
        replace c80 := Bool.eq_false_iff.mpr c80
        subst c80
        rw [if_neg (show ¬ (false = true) by decide)] at H
        obtain rfl := Option.some.inj H
        try go_wp2
        have n0_ := Aside0.mk (Kd.R_drew HO_11.out)
        have n1_ := Aside0.mk (Kd.R_drew HO_1313000.out)
        have n2_ := Aside0.mk (Kd.R_drew HO_1313001.out)
        have n3_ := Aside0.mk (Kd.R_drew HO_1313002.out)
        have n4_ := Aside0.mk (Kd.R_drew HO_1324000.out)
        have n5_ := Aside0.mk (Kd.R_drew HO_1324001.out)
        have n6_ := Aside0.mk (Kd.R_drew HO_1324002.out)
        have n7_ := Aside0.mk (Kd.R_drew HO_1339000.out)
        have n8_ := Aside0.mk (Kd.R_drew HO_1339001.out)
        have n9_ := Aside0.mk (Kd.R_drew HO_1339002.out)
        have n10_ := Aside0.mk (blk_drew BK1286.out)
        have n11_ := Aside0.mk (blk_drew BK1312.out)
        have n12_ := Aside0.mk (blk_drew BK1323.out)
        have n13_ := Aside0.mk (blk_drew BK1338.out)
        have n14_ := Aside0.mk (below_drew1 HB.out)
        clear HO_11
        clear HO_1313000
        clear HO_1313001
        clear HO_1313002
        clear HO_1324000
        clear HO_1324001
        clear HO_1324002
        clear HO_1339000
        clear HO_1339001
        clear HO_1339002
        clear BK1286
        clear BK1312
        clear BK1323
        clear BK1338
        clear HB
        have HO_11 := n0_
        have HO_1313000 := n1_
        have HO_1313001 := n2_
        have HO_1313002 := n3_
        have HO_1324000 := n4_
        have HO_1324001 := n5_
        have HO_1324002 := n6_
        have HO_1339000 := n7_
        have HO_1339001 := n8_
        have HO_1339002 := n9_
        have BK1286 := n10_
        have BK1312 := n11_
        have BK1323 := n12_
        have BK1338 := n13_
        have HB := n14_
        clear n0_ n1_ n2_ n3_ n4_ n5_ n6_ n7_ n8_ n9_ n10_ n11_ n12_ n13_ n14_
        refine start_ (n := 5) (S := fun w' => w'.cell? ⟨gb1323, 0, none⟩ = some (.slice Ao38 t1313.length co38) ∧ w'.cell? ⟨gb1323, 1, none⟩ = some (.slice Ao42 t1316.length co42) ∧ w'.cell? ⟨gb1323, 2, none⟩ = some (.slice Ao43 t1319.length co43) ∧ w'.cell? ⟨gb1323, 3, none⟩ = some (.int .i64 t1322) ∧ w'.cell? ⟨gb1286, 0, none⟩ = some (.slice A0_0 l0_0.length c0_0) ∧ w'.cell? ⟨gb1286, 1, none⟩ = some (.slice A0_1 l0_1.length c0_1) ∧ w'.cell? ⟨gb1286, 2, none⟩ = some (.slice A0_2 l0_2.length c0_2) ∧ w'.cell? ⟨gb1286, 3, none⟩ = some (.int .i64 a0_3)) (ds := []) #[false, false, false, false, false] (by kernel_rfl) rfl rfl ⟨(blk_cell BK1323.out 0).trans rfl, (blk_cell BK1323.out 1).trans rfl, (blk_cell BK1323.out 2).trans rfl, (blk_cell BK1323.out 3).trans rfl, (blk_cell BK1286.out 0).trans rfl, (blk_cell BK1286.out 1).trans rfl, (blk_cell BK1286.out 2).trans rfl, (blk_cell BK1286.out 3).trans rfl⟩ (fun hHeld => ?_)
        generalize wc.drew = w210 at HO_11 HO_1313000 HO_1313001 HO_1313002 HO_1324000 HO_1324001 HO_1324002 HO_1339000 HO_1339001 HO_1339002 BK1286 BK1312 BK1323 BK1338 HB hHeld ⊢
        refine take_ (i := 0) (N := some 56) (v := ?_) (a' := ?_) #[true, false, false, false, false] rfl rfl (by kernel_rfl) (fun _ _ _ h => h) (Or.inl ⟨by rfl, ?_⟩) hHeld ?_ ?_
        rotate_left
        ·
         rintro w' ⟨s0, s1, s2, s3, s4, s5, s6, s7⟩
         go_simp
         with_reducible rfl
        rotate_left
        ·
         simp only [Act.put, List.setIfInBounds_toArray, List.set_cons_zero, List.set_cons_succ, i64_w, i32_w]
         rfl
        refine take_ (i := 1) (N := some 57) (v := ?_) (a' := ?_) #[true, true, false, false, false] rfl rfl (by kernel_rfl) (fun _ _ _ h => h) (Or.inl ⟨by rfl, ?_⟩) hHeld ?_ ?_
        rotate_left
        ·
         rintro w' ⟨s0, s1, s2, s3, s4, s5, s6, s7⟩
         go_simp
         with_reducible rfl
        rotate_left
        ·
         simp only [Act.put, List.setIfInBounds_toArray, List.set_cons_zero, List.set_cons_succ, i64_w, i32_w]
         rfl
        refine one_ (i := 2) (N := some 58) #[true, true, true, false, false] rfl rfl (by kernel_rfl) (by decide) (fun K hK => ?_)
        refine goes_ Try.func27 (by kernel_rfl) rfl #[.agg #[.slice A0_0 l0_0.length c0_0, .slice A0_1 l0_1.length c0_1, .slice A0_2 l0_2.length c0_2, .int .i64 a0_3]] (by rfl) rfl rfl (by (try simp only [List.map_toArray, List.map_cons, List.map_nil]); first | done | rfl | (simp only [List.length_drop, List.length_take]; rfl)) ?_
        with_reducible refine (laws_toStore.calls kj16 _ _ l0_0 _ _ l0_1 _ _ l0_2 a0_3 t1340 t1343 t1346 t1349 _ ?side1 ?side2 ?side3 ?side4 ?side5 ?side6 A75.out).mono ?_
        (case side1 => exact cb HR0_0 HB)
        (case side2 => exact HC0_0.out)
        (case side3 => exact cb HR0_1 HB)
        (case side4 => exact HC0_1.out)
        (case side5 => exact cb HR0_2 HB)
        (case side6 => exact HC0_2.out)
        rintro e w211 ⟨v1341, v1344, v1347, rfl, ho0, ho1, ho2, hb⟩
        refine ⟨_, rfl, ?_⟩
        have n0_ := Aside0.mk (Kd.R_below (rr HO_11.out) hb)
        have n1_ := Aside0.mk (Kd.R_mono (Kd.R_told (Kd.R_told (Kd.R_old (rr HO_1313000.out) hb) (Kd.R_base ho0)) (Kd.R_base ho2)) (fun _ h_ => h_.1))
        have n2_ := Aside0.mk (Kd.R_elder' (rr HO_1313001.out) (Kd.R_base ho1) hb)
        have n3_ := Aside0.mk (Kd.R_mono (Kd.R_told (Kd.R_told (Kd.R_old (rr HO_1313002.out) hb) (Kd.R_base ho0)) (Kd.R_base ho2)) (fun _ h_ => h_.1))
        have n4_ := Aside0.mk (Kd.R_mono (Kd.R_told (Kd.R_told (Kd.R_old (rr HO_1324000.out) hb) (Kd.R_base ho0)) (Kd.R_base ho2)) (fun _ h_ => h_.1))
        have n5_ := Aside0.mk (Kd.R_elder' (rr HO_1324001.out) (Kd.R_base ho1) hb)
        have n6_ := Aside0.mk (Kd.R_mono (Kd.R_told (Kd.R_told (Kd.R_old (rr HO_1324002.out) hb) (Kd.R_base ho0)) (Kd.R_base ho2)) (fun _ h_ => h_.1))
        have n7_ := Aside0.mk (Kd.R_mono (Kd.R_told (Kd.R_told (Kd.R_old (rr HO_1339000.out) hb) (Kd.R_base ho0)) (Kd.R_base ho2)) (fun _ h_ => h_.1))
        have n8_ := Aside0.mk (Kd.R_elder' (rr HO_1339001.out) (Kd.R_base ho1) hb)
        have n9_ := Aside0.mk (Kd.R_mono (Kd.R_told (Kd.R_told (Kd.R_old (rr HO_1339002.out) hb) (Kd.R_base ho0)) (Kd.R_base ho2)) (fun _ h_ => h_.1))
        have n10_ := Aside0.mk (Kd.R_lower (Kd.R_new' (Kd.R_new' (Kd.R_new' (Kd.R_new' (Kd.R_new' (Kd.R_new' ho0 (Kd.R_lt (rr HO_1313000.out))) (Kd.R_lt (rr HO_1313002.out))) (Kd.R_lt (rr HO_1324000.out))) (Kd.R_lt (rr HO_1324002.out))) (Kd.R_lt (rr HO_1339000.out))) (Kd.R_lt (rr HO_1339002.out))) (below_size (bs4 HB GE1286 GE1312 GE1323 GE1338)))
        have n11_ := Aside0.mk (Kd.R_lower (Kd.R_new' (Kd.R_new' (Kd.R_new' ho1 (Kd.R_lt (rr HO_1313001.out))) (Kd.R_lt (rr HO_1324001.out))) (Kd.R_lt (rr HO_1339001.out))) (below_size (bs4 HB GE1286 GE1312 GE1323 GE1338)))
        have n12_ := Aside0.mk (Kd.R_lower (Kd.R_new' (Kd.R_new' (Kd.R_new' (Kd.R_new' (Kd.R_new' (Kd.R_new' ho2 (Kd.R_lt (rr HO_1313000.out))) (Kd.R_lt (rr HO_1313002.out))) (Kd.R_lt (rr HO_1324000.out))) (Kd.R_lt (rr HO_1324002.out))) (Kd.R_lt (rr HO_1339000.out))) (Kd.R_lt (rr HO_1339002.out))) (below_size (bs4 HB GE1286 GE1312 GE1323 GE1338)))
        have n13_ := Aside0.mk (bb BK1286 hb)
        have n14_ := Aside0.mk (bb BK1312 hb)
        have n15_ := Aside0.mk (bb BK1323 hb)
        have n16_ := Aside0.mk (bb BK1338 hb)
        have n17_ := Aside0.mk (below_step (bs4 HB GE1286 GE1312 GE1323 GE1338) hb)
        clear HO_11
        clear HO_1313000
        clear HO_1313001
        clear HO_1313002
        clear HO_1324000
        clear HO_1324001
        clear HO_1324002
        clear HO_1339000
        clear HO_1339001
        clear HO_1339002
        clear BK1286
        clear BK1312
        clear BK1323
        clear BK1338
        clear HB
        have HO_11 := n0_
        have HO_1313000 := n1_
        have HO_1313001 := n2_
        have HO_1313002 := n3_
        have HO_1324000 := n4_
        have HO_1324001 := n5_
        have HO_1324002 := n6_
        have HO_1339000 := n7_
        have HO_1339001 := n8_
        have HO_1339002 := n9_
        have HO1342 := n10_
        have HO1345 := n11_
        have HO1348 := n12_
        have BK1286 := n13_
        have BK1312 := n14_
        have BK1323 := n15_
        have BK1338 := n16_
        have HB := n17_
        clear n0_ n1_ n2_ n3_ n4_ n5_ n6_ n7_ n8_ n9_ n10_ n11_ n12_ n13_ n14_ n15_ n16_ n17_
        (try clear hb)
        (try clear hb2)
        (try clear hk)
        (try clear hi)
        (try clear ho0)
        (try clear ho1)
        (try clear ho2)
        obtain ⟨Ao212, co212, eo212⟩ := Kd.R_slice HO1342.out
        (first | subst eo212 | (injection eo212 with f1_ f2_ f3_; have f4_ := f1_.symm; have f5_ := f3_.symm; clear f1_ f2_ f3_; subst f4_; subst f5_))
        obtain ⟨Ao213, co213, eo213⟩ := Kd.R_slice HO1345.out
        (first | subst eo213 | (injection eo213 with f1_ f2_ f3_; have f4_ := f1_.symm; have f5_ := f3_.symm; clear f1_ f2_ f3_; subst f4_; subst f5_))
        obtain ⟨Ao214, co214, eo214⟩ := Kd.R_slice HO1348.out
        (first | subst eo214 | (injection eo214 with f1_ f2_ f3_; have f4_ := f1_.symm; have f5_ := f3_.symm; clear f1_ f2_ f3_; subst f4_; subst f5_))
        refine hK.out _ _ ⟨(blk_cell BK1323.out 0).trans rfl, (blk_cell BK1323.out 1).trans rfl, (blk_cell BK1323.out 2).trans rfl, (blk_cell BK1323.out 3).trans rfl, (blk_cell BK1286.out 0).trans rfl, (blk_cell BK1286.out 1).trans rfl, (blk_cell BK1286.out 2).trans rfl, (blk_cell BK1286.out 3).trans rfl⟩ (fun hHeld => ?_)
        clear hK K
        refine norm_ (a' := ?_) ?_ ?_
        rotate_left
        ·
         show Act.put _ (some 58) _ = _
         simp only [Act.put, List.setIfInBounds_toArray, List.set_cons_zero, List.set_cons_succ, i64_w, i32_w]
         rfl
        refine one_ (i := 3) (N := some 59) #[true, true, true, true, false] rfl rfl (by kernel_rfl) (by decide) (fun K hK => ?_)
        refine goes_ Try.func29 (by kernel_rfl) rfl #[.agg #[.slice Ao38 t1313.length co38, .slice Ao42 t1316.length co42, .slice Ao43 t1319.length co43, .int .i64 t1322], .agg #[.slice Ao212 t1340.length co212, .slice Ao213 t1343.length co213, .slice Ao214 t1346.length co214, .int .i64 t1349]] (by rfl) rfl rfl (by (try simp only [List.map_toArray, List.map_cons, List.map_nil]); first | done | rfl | (simp only [List.length_drop, List.length_take]; rfl)) ?_
        with_reducible refine (laws_eqStore.calls kj16 _ _ t1313 _ _ t1316 _ _ t1319 t1322 _ _ t1340 _ _ t1343 _ _ t1346 t1349 true _ ?side1 ?side2 ?side3 ?side4 ?side5 ?side6 ?side7 ?side8 ?side9 ?side10 ?side11 ?side12 A76.out).mono ?_
        (case side1 => exact rc0 HO_1324000)
        (case side2 => exact (Kd.R_reads' HO_1324000.out).2.1)
        (case side3 => exact rc0 HO_1324001)
        (case side4 => exact (Kd.R_reads' HO_1324001.out).2.1)
        (case side5 => exact rc0 HO_1324002)
        (case side6 => exact (Kd.R_reads' HO_1324002.out).2.1)
        (case side7 => exact rc0 HO1342)
        (case side8 => exact (Kd.R_reads' HO1342.out).2.1)
        (case side9 => exact rc0 HO1345)
        (case side10 => exact (Kd.R_reads' HO1345.out).2.1)
        (case side11 => exact rc0 HO1348)
        (case side12 => exact (Kd.R_reads' HO1348.out).2.1)
        rintro e w215 ⟨rfl, hb⟩
        refine ⟨_, rfl, ?_⟩
        have n0_ := Aside0.mk (Kd.R_below (rr HO_11.out) hb)
        have n1_ := Aside0.mk (Kd.R_below (rr HO_1313000.out) hb)
        have n2_ := Aside0.mk (Kd.R_below (rr HO_1313001.out) hb)
        have n3_ := Aside0.mk (Kd.R_below (rr HO_1313002.out) hb)
        have n4_ := Aside0.mk (Kd.R_below (rr HO_1324000.out) hb)
        have n5_ := Aside0.mk (Kd.R_below (rr HO_1324001.out) hb)
        have n6_ := Aside0.mk (Kd.R_below (rr HO_1324002.out) hb)
        have n7_ := Aside0.mk (Kd.R_below (rr HO_1339000.out) hb)
        have n8_ := Aside0.mk (Kd.R_below (rr HO_1339001.out) hb)
        have n9_ := Aside0.mk (Kd.R_below (rr HO_1339002.out) hb)
        have n10_ := Aside0.mk (Kd.R_below (rr HO1342.out) hb)
        have n11_ := Aside0.mk (Kd.R_below (rr HO1345.out) hb)
        have n12_ := Aside0.mk (Kd.R_below (rr HO1348.out) hb)
        have n13_ := Aside0.mk (bb BK1286 hb)
        have n14_ := Aside0.mk (bb BK1312 hb)
        have n15_ := Aside0.mk (bb BK1323 hb)
        have n16_ := Aside0.mk (bb BK1338 hb)
        have n17_ := Aside0.mk (below_step (bs4 HB GE1286 GE1312 GE1323 GE1338) hb)
        clear HO_11
        clear HO_1313000
        clear HO_1313001
        clear HO_1313002
        clear HO_1324000
        clear HO_1324001
        clear HO_1324002
        clear HO_1339000
        clear HO_1339001
        clear HO_1339002
        clear HO1342
        clear HO1345
        clear HO1348
        clear BK1286
        clear BK1312
        clear BK1323
        clear BK1338
        clear HB
        have HO_11 := n0_
        have HO_1313000 := n1_
        have HO_1313001 := n2_
        have HO_1313002 := n3_
        have HO_1324000 := n4_
        have HO_1324001 := n5_
        have HO_1324002 := n6_
        have HO_1339000 := n7_
        have HO_1339001 := n8_
        have HO_1339002 := n9_
        have HO1342 := n10_
        have HO1345 := n11_
        have HO1348 := n12_
        have BK1286 := n13_
        have BK1312 := n14_
        have BK1323 := n15_
        have BK1338 := n16_
        have HB := n17_
        clear n0_ n1_ n2_ n3_ n4_ n5_ n6_ n7_ n8_ n9_ n10_ n11_ n12_ n13_ n14_ n15_ n16_ n17_
        (try clear hb)
        (try clear hb2)
        (try clear hk)
        (try clear hi)
        refine hK.out _ _ ⟨(blk_cell BK1323.out 0).trans rfl, (blk_cell BK1323.out 1).trans rfl, (blk_cell BK1323.out 2).trans rfl, (blk_cell BK1323.out 3).trans rfl, (blk_cell BK1286.out 0).trans rfl, (blk_cell BK1286.out 1).trans rfl, (blk_cell BK1286.out 2).trans rfl, (blk_cell BK1286.out 3).trans rfl⟩ (fun hHeld => ?_)
        clear hK K
        refine norm_ (a' := ?_) ?_ ?_
        rotate_left
        ·
         show Act.put _ (some 59) _ = _
         simp only [Act.put, List.setIfInBounds_toArray, List.set_cons_zero, List.set_cons_succ, i64_w, i32_w]
         rfl
        refine pure_ (i := 4) (N := some 60) (v := ?_) (a' := ?_) #[true, true, true, true, true] rfl rfl (by kernel_rfl) (fun _ _ _ h => h) (Or.inl ⟨by rfl, ?_⟩) ?_ ?_
        rotate_left
        ·
         intro w'
         go_simp
         with_reducible rfl
        rotate_left
        ·
         simp only [Act.put, List.setIfInBounds_toArray, List.set_cons_zero, List.set_cons_succ, i64_w, i32_w]
         rfl
        refine done_ (by kernel_rfl) ?_
        try go_wp2_with (first | ((with_reducible refine gate_callee (f := 50) rfl ?_); refine gL (some 63) rfl rfl Try.func50 (by kernel_rfl) rfl #[.slice A1 l1.length c1] rfl ?_; (with_reducible refine (laws_toBoolS.calls kj16 _ _ l1 t1351 _ ?side1 ?side2 A78.out).mono ?_); (case side1 => exact cb HR1 HB); (case side2 => exact HC1.out); rintro e w216 ⟨v1352, rfl, ho0, hb⟩; refine ⟨_, rfl, ?_⟩; replace HO_1313000 := nr HO_1313000 hb; replace HO_1313001 := nr HO_1313001 hb; replace HO_1313002 := nr HO_1313002 hb; replace HO_1324000 := nr HO_1324000 hb; replace HO_1324001 := nr HO_1324001 hb; replace HO_1324002 := nr HO_1324002 hb; replace HO_1339000 := nr HO_1339000 hb; replace HO_1339001 := nr HO_1339001 hb; replace HO_1339002 := nr HO_1339002 hb; replace HO1342 := nr HO1342 hb; replace HO1345 := nr HO1345 hb; replace HO1348 := nr HO1348 hb; have HO1353 := Aside0.mk (Kd.R_lower (Kd.R_new' ho0 (Kd.R_lt (rr HO_11.out))) (below_size (bs4 HB GE1286 GE1312 GE1323 GE1338))); replace HO_11 := Aside0.mk (Kd.R_elder' (rr HO_11.out) (Kd.R_base ho0) hb); replace BK1286 := nb BK1286 hb; replace BK1312 := nb BK1312 hb; replace BK1323 := nb BK1323 hb; replace BK1338 := nb BK1338 hb; replace HB := Aside0.mk (below_step (bs4 HB GE1286 GE1312 GE1323 GE1338) hb); (try clear hb); (try clear hb2); (try clear hk); (try clear hi); (try clear ho0); obtain ⟨Ao217, co217, eo217⟩ := Kd.R_slice HO1353.out; subst eo217) | ((with_reducible refine gate_callee (f := 52) rfl ?_); refine gL (some 64) rfl rfl Try.func52 (by kernel_rfl) rfl #[.slice Ao46 t1324.length co46, .slice Ao217 t1351.length co217] rfl ?_; (with_reducible refine (laws_eqBoolS.calls kj16 _ _ t1324 _ _ t1351 false _ ?side1 ?side2 ?side3 ?side4 A79.out).mono ?_); (case side1 => exact rc0 HO_11); (case side2 => exact (Kd.R_reads' HO_11.out).2.1); (case side3 => exact rc0 HO1353); (case side4 => exact (Kd.R_reads' HO1353.out).2.1); rintro e w' ⟨rfl, ⟨nd, rfl⟩⟩; refine ⟨_, rfl, ?_⟩))
        go_ret
        exact ⟨by first | rfl | (simp [errW_none, errW_some] <;> rfl) | (simp [*, errW_none, errW_some] <;> rfl), bs4 HB GE1286 GE1312 GE1323 GE1338⟩
      ·
       replace c77 := Bool.eq_false_iff.mpr c77
       subst c77
       rw [if_neg (show ¬ (false = true) by decide)] at H
       obtain rfl := Option.some.inj H
       try go_wp2
       have n0_ := Aside0.mk (Kd.R_drew HO_11.out)
       have n1_ := Aside0.mk (Kd.R_drew HO_1313000.out)
       have n2_ := Aside0.mk (Kd.R_drew HO_1313001.out)
       have n3_ := Aside0.mk (Kd.R_drew HO_1313002.out)
       have n4_ := Aside0.mk (Kd.R_drew HO_1324000.out)
       have n5_ := Aside0.mk (Kd.R_drew HO_1324001.out)
       have n6_ := Aside0.mk (Kd.R_drew HO_1324002.out)
       have n7_ := Aside0.mk (Kd.R_drew HO_1339000.out)
       have n8_ := Aside0.mk (Kd.R_drew HO_1339001.out)
       have n9_ := Aside0.mk (Kd.R_drew HO_1339002.out)
       have n10_ := Aside0.mk (blk_drew BK1286.out)
       have n11_ := Aside0.mk (blk_drew BK1312.out)
       have n12_ := Aside0.mk (blk_drew BK1323.out)
       have n13_ := Aside0.mk (blk_drew BK1338.out)
       have n14_ := Aside0.mk (below_drew1 HB.out)
       clear HO_11
       clear HO_1313000
       clear HO_1313001
       clear HO_1313002
       clear HO_1324000
       clear HO_1324001
       clear HO_1324002
       clear HO_1339000
       clear HO_1339001
       clear HO_1339002
       clear BK1286
       clear BK1312
       clear BK1323
       clear BK1338
       clear HB
       have HO_11 := n0_
       have HO_1313000 := n1_
       have HO_1313001 := n2_
       have HO_1313002 := n3_
       have HO_1324000 := n4_
       have HO_1324001 := n5_
       have HO_1324002 := n6_
       have HO_1339000 := n7_
       have HO_1339001 := n8_
       have HO_1339002 := n9_
       have BK1286 := n10_
       have BK1312 := n11_
       have BK1323 := n12_
       have BK1338 := n13_
       have HB := n14_
       clear n0_ n1_ n2_ n3_ n4_ n5_ n6_ n7_ n8_ n9_ n10_ n11_ n12_ n13_ n14_
       refine start_ (n := 5) (S := fun w' => w'.cell? ⟨gb1323, 0, none⟩ = some (.slice Ao38 t1313.length co38) ∧ w'.cell? ⟨gb1323, 1, none⟩ = some (.slice Ao42 t1316.length co42) ∧ w'.cell? ⟨gb1323, 2, none⟩ = some (.slice Ao43 t1319.length co43) ∧ w'.cell? ⟨gb1323, 3, none⟩ = some (.int .i64 t1322) ∧ w'.cell? ⟨gb1286, 0, none⟩ = some (.slice A0_0 l0_0.length c0_0) ∧ w'.cell? ⟨gb1286, 1, none⟩ = some (.slice A0_1 l0_1.length c0_1) ∧ w'.cell? ⟨gb1286, 2, none⟩ = some (.slice A0_2 l0_2.length c0_2) ∧ w'.cell? ⟨gb1286, 3, none⟩ = some (.int .i64 a0_3)) (ds := []) #[false, false, false, false, false] (by kernel_rfl) rfl rfl ⟨(blk_cell BK1323.out 0).trans rfl, (blk_cell BK1323.out 1).trans rfl, (blk_cell BK1323.out 2).trans rfl, (blk_cell BK1323.out 3).trans rfl, (blk_cell BK1286.out 0).trans rfl, (blk_cell BK1286.out 1).trans rfl, (blk_cell BK1286.out 2).trans rfl, (blk_cell BK1286.out 3).trans rfl⟩ (fun hHeld => ?_)
       generalize wc.drew = w218 at HO_11 HO_1313000 HO_1313001 HO_1313002 HO_1324000 HO_1324001 HO_1324002 HO_1339000 HO_1339001 HO_1339002 BK1286 BK1312 BK1323 BK1338 HB hHeld ⊢
       refine take_ (i := 0) (N := some 56) (v := ?_) (a' := ?_) #[true, false, false, false, false] rfl rfl (by kernel_rfl) (fun _ _ _ h => h) (Or.inl ⟨by rfl, ?_⟩) hHeld ?_ ?_
       rotate_left
       ·
        rintro w' ⟨s0, s1, s2, s3, s4, s5, s6, s7⟩
        go_simp
        with_reducible rfl
       rotate_left
       ·
        simp only [Act.put, List.setIfInBounds_toArray, List.set_cons_zero, List.set_cons_succ, i64_w, i32_w]
        rfl
       refine take_ (i := 1) (N := some 57) (v := ?_) (a' := ?_) #[true, true, false, false, false] rfl rfl (by kernel_rfl) (fun _ _ _ h => h) (Or.inl ⟨by rfl, ?_⟩) hHeld ?_ ?_
       rotate_left
       ·
        rintro w' ⟨s0, s1, s2, s3, s4, s5, s6, s7⟩
        go_simp
        with_reducible rfl
       rotate_left
       ·
        simp only [Act.put, List.setIfInBounds_toArray, List.set_cons_zero, List.set_cons_succ, i64_w, i32_w]
        rfl
       refine one_ (i := 2) (N := some 58) #[true, true, true, false, false] rfl rfl (by kernel_rfl) (by decide) (fun K hK => ?_)
       refine goes_ Try.func27 (by kernel_rfl) rfl #[.agg #[.slice A0_0 l0_0.length c0_0, .slice A0_1 l0_1.length c0_1, .slice A0_2 l0_2.length c0_2, .int .i64 a0_3]] (by rfl) rfl rfl (by (try simp only [List.map_toArray, List.map_cons, List.map_nil]); first | done | rfl | (simp only [List.length_drop, List.length_take]; rfl)) ?_
       with_reducible refine (laws_toStore.calls kj16 _ _ l0_0 _ _ l0_1 _ _ l0_2 a0_3 t1340 t1343 t1346 t1349 _ ?side1 ?side2 ?side3 ?side4 ?side5 ?side6 A75.out).mono ?_
       (case side1 => exact cb HR0_0 HB)
       (case side2 => exact HC0_0.out)
       (case side3 => exact cb HR0_1 HB)
       (case side4 => exact HC0_1.out)
       (case side5 => exact cb HR0_2 HB)
       (case side6 => exact HC0_2.out)
       rintro e w219 ⟨v1341, v1344, v1347, rfl, ho0, ho1, ho2, hb⟩
       refine ⟨_, rfl, ?_⟩
       have n0_ := Aside0.mk (Kd.R_below (rr HO_11.out) hb)
       have n1_ := Aside0.mk (Kd.R_mono (Kd.R_told (Kd.R_told (Kd.R_old (rr HO_1313000.out) hb) (Kd.R_base ho0)) (Kd.R_base ho2)) (fun _ h_ => h_.1))
       have n2_ := Aside0.mk (Kd.R_elder' (rr HO_1313001.out) (Kd.R_base ho1) hb)
       have n3_ := Aside0.mk (Kd.R_mono (Kd.R_told (Kd.R_told (Kd.R_old (rr HO_1313002.out) hb) (Kd.R_base ho0)) (Kd.R_base ho2)) (fun _ h_ => h_.1))
       have n4_ := Aside0.mk (Kd.R_mono (Kd.R_told (Kd.R_told (Kd.R_old (rr HO_1324000.out) hb) (Kd.R_base ho0)) (Kd.R_base ho2)) (fun _ h_ => h_.1))
       have n5_ := Aside0.mk (Kd.R_elder' (rr HO_1324001.out) (Kd.R_base ho1) hb)
       have n6_ := Aside0.mk (Kd.R_mono (Kd.R_told (Kd.R_told (Kd.R_old (rr HO_1324002.out) hb) (Kd.R_base ho0)) (Kd.R_base ho2)) (fun _ h_ => h_.1))
       have n7_ := Aside0.mk (Kd.R_mono (Kd.R_told (Kd.R_told (Kd.R_old (rr HO_1339000.out) hb) (Kd.R_base ho0)) (Kd.R_base ho2)) (fun _ h_ => h_.1))
       have n8_ := Aside0.mk (Kd.R_elder' (rr HO_1339001.out) (Kd.R_base ho1) hb)
       have n9_ := Aside0.mk (Kd.R_mono (Kd.R_told (Kd.R_told (Kd.R_old (rr HO_1339002.out) hb) (Kd.R_base ho0)) (Kd.R_base ho2)) (fun _ h_ => h_.1))
       have n10_ := Aside0.mk (Kd.R_lower (Kd.R_new' (Kd.R_new' (Kd.R_new' (Kd.R_new' (Kd.R_new' (Kd.R_new' ho0 (Kd.R_lt (rr HO_1313000.out))) (Kd.R_lt (rr HO_1313002.out))) (Kd.R_lt (rr HO_1324000.out))) (Kd.R_lt (rr HO_1324002.out))) (Kd.R_lt (rr HO_1339000.out))) (Kd.R_lt (rr HO_1339002.out))) (below_size (bs4 HB GE1286 GE1312 GE1323 GE1338)))
       have n11_ := Aside0.mk (Kd.R_lower (Kd.R_new' (Kd.R_new' (Kd.R_new' ho1 (Kd.R_lt (rr HO_1313001.out))) (Kd.R_lt (rr HO_1324001.out))) (Kd.R_lt (rr HO_1339001.out))) (below_size (bs4 HB GE1286 GE1312 GE1323 GE1338)))
       have n12_ := Aside0.mk (Kd.R_lower (Kd.R_new' (Kd.R_new' (Kd.R_new' (Kd.R_new' (Kd.R_new' (Kd.R_new' ho2 (Kd.R_lt (rr HO_1313000.out))) (Kd.R_lt (rr HO_1313002.out))) (Kd.R_lt (rr HO_1324000.out))) (Kd.R_lt (rr HO_1324002.out))) (Kd.R_lt (rr HO_1339000.out))) (Kd.R_lt (rr HO_1339002.out))) (below_size (bs4 HB GE1286 GE1312 GE1323 GE1338)))
       have n13_ := Aside0.mk (bb BK1286 hb)
       have n14_ := Aside0.mk (bb BK1312 hb)
       have n15_ := Aside0.mk (bb BK1323 hb)
       have n16_ := Aside0.mk (bb BK1338 hb)
       have n17_ := Aside0.mk (below_step (bs4 HB GE1286 GE1312 GE1323 GE1338) hb)
       clear HO_11
       clear HO_1313000
       clear HO_1313001
       clear HO_1313002
       clear HO_1324000
       clear HO_1324001
       clear HO_1324002
       clear HO_1339000
       clear HO_1339001
       clear HO_1339002
       clear BK1286
       clear BK1312
       clear BK1323
       clear BK1338
       clear HB
       have HO_11 := n0_
       have HO_1313000 := n1_
       have HO_1313001 := n2_
       have HO_1313002 := n3_
       have HO_1324000 := n4_
       have HO_1324001 := n5_
       have HO_1324002 := n6_
       have HO_1339000 := n7_
       have HO_1339001 := n8_
       have HO_1339002 := n9_
       have HO1342 := n10_
       have HO1345 := n11_
       have HO1348 := n12_
       have BK1286 := n13_
       have BK1312 := n14_
       have BK1323 := n15_
       have BK1338 := n16_
       have HB := n17_
       clear n0_ n1_ n2_ n3_ n4_ n5_ n6_ n7_ n8_ n9_ n10_ n11_ n12_ n13_ n14_ n15_ n16_ n17_
       (try clear hb)
       (try clear hb2)
       (try clear hk)
       (try clear hi)
       (try clear ho0)
       (try clear ho1)
       (try clear ho2)
       obtain ⟨Ao220, co220, eo220⟩ := Kd.R_slice HO1342.out
       (first | subst eo220 | (injection eo220 with f1_ f2_ f3_; have f4_ := f1_.symm; have f5_ := f3_.symm; clear f1_ f2_ f3_; subst f4_; subst f5_))
       obtain ⟨Ao221, co221, eo221⟩ := Kd.R_slice HO1345.out
       (first | subst eo221 | (injection eo221 with f1_ f2_ f3_; have f4_ := f1_.symm; have f5_ := f3_.symm; clear f1_ f2_ f3_; subst f4_; subst f5_))
       obtain ⟨Ao222, co222, eo222⟩ := Kd.R_slice HO1348.out
       (first | subst eo222 | (injection eo222 with f1_ f2_ f3_; have f4_ := f1_.symm; have f5_ := f3_.symm; clear f1_ f2_ f3_; subst f4_; subst f5_))
       refine hK.out _ _ ⟨(blk_cell BK1323.out 0).trans rfl, (blk_cell BK1323.out 1).trans rfl, (blk_cell BK1323.out 2).trans rfl, (blk_cell BK1323.out 3).trans rfl, (blk_cell BK1286.out 0).trans rfl, (blk_cell BK1286.out 1).trans rfl, (blk_cell BK1286.out 2).trans rfl, (blk_cell BK1286.out 3).trans rfl⟩ (fun hHeld => ?_)
       clear hK K
       refine norm_ (a' := ?_) ?_ ?_
       rotate_left
       ·
        show Act.put _ (some 58) _ = _
        simp only [Act.put, List.setIfInBounds_toArray, List.set_cons_zero, List.set_cons_succ, i64_w, i32_w]
        rfl
       refine one_ (i := 3) (N := some 59) #[true, true, true, true, false] rfl rfl (by kernel_rfl) (by decide) (fun K hK => ?_)
       refine goes_ Try.func29 (by kernel_rfl) rfl #[.agg #[.slice Ao38 t1313.length co38, .slice Ao42 t1316.length co42, .slice Ao43 t1319.length co43, .int .i64 t1322], .agg #[.slice Ao220 t1340.length co220, .slice Ao221 t1343.length co221, .slice Ao222 t1346.length co222, .int .i64 t1349]] (by rfl) rfl rfl (by (try simp only [List.map_toArray, List.map_cons, List.map_nil]); first | done | rfl | (simp only [List.length_drop, List.length_take]; rfl)) ?_
       with_reducible refine (laws_eqStore.calls kj16 _ _ t1313 _ _ t1316 _ _ t1319 t1322 _ _ t1340 _ _ t1343 _ _ t1346 t1349 false _ ?side1 ?side2 ?side3 ?side4 ?side5 ?side6 ?side7 ?side8 ?side9 ?side10 ?side11 ?side12 A76.out).mono ?_
       (case side1 => exact rc0 HO_1324000)
       (case side2 => exact (Kd.R_reads' HO_1324000.out).2.1)
       (case side3 => exact rc0 HO_1324001)
       (case side4 => exact (Kd.R_reads' HO_1324001.out).2.1)
       (case side5 => exact rc0 HO_1324002)
       (case side6 => exact (Kd.R_reads' HO_1324002.out).2.1)
       (case side7 => exact rc0 HO1342)
       (case side8 => exact (Kd.R_reads' HO1342.out).2.1)
       (case side9 => exact rc0 HO1345)
       (case side10 => exact (Kd.R_reads' HO1345.out).2.1)
       (case side11 => exact rc0 HO1348)
       (case side12 => exact (Kd.R_reads' HO1348.out).2.1)
       rintro e w223 ⟨rfl, hb⟩
       refine ⟨_, rfl, ?_⟩
       have n0_ := Aside0.mk (Kd.R_below (rr HO_11.out) hb)
       have n1_ := Aside0.mk (Kd.R_below (rr HO_1313000.out) hb)
       have n2_ := Aside0.mk (Kd.R_below (rr HO_1313001.out) hb)
       have n3_ := Aside0.mk (Kd.R_below (rr HO_1313002.out) hb)
       have n4_ := Aside0.mk (Kd.R_below (rr HO_1324000.out) hb)
       have n5_ := Aside0.mk (Kd.R_below (rr HO_1324001.out) hb)
       have n6_ := Aside0.mk (Kd.R_below (rr HO_1324002.out) hb)
       have n7_ := Aside0.mk (Kd.R_below (rr HO_1339000.out) hb)
       have n8_ := Aside0.mk (Kd.R_below (rr HO_1339001.out) hb)
       have n9_ := Aside0.mk (Kd.R_below (rr HO_1339002.out) hb)
       have n10_ := Aside0.mk (Kd.R_below (rr HO1342.out) hb)
       have n11_ := Aside0.mk (Kd.R_below (rr HO1345.out) hb)
       have n12_ := Aside0.mk (Kd.R_below (rr HO1348.out) hb)
       have n13_ := Aside0.mk (bb BK1286 hb)
       have n14_ := Aside0.mk (bb BK1312 hb)
       have n15_ := Aside0.mk (bb BK1323 hb)
       have n16_ := Aside0.mk (bb BK1338 hb)
       have n17_ := Aside0.mk (below_step (bs4 HB GE1286 GE1312 GE1323 GE1338) hb)
       clear HO_11
       clear HO_1313000
       clear HO_1313001
       clear HO_1313002
       clear HO_1324000
       clear HO_1324001
       clear HO_1324002
       clear HO_1339000
       clear HO_1339001
       clear HO_1339002
       clear HO1342
       clear HO1345
       clear HO1348
       clear BK1286
       clear BK1312
       clear BK1323
       clear BK1338
       clear HB
       have HO_11 := n0_
       have HO_1313000 := n1_
       have HO_1313001 := n2_
       have HO_1313002 := n3_
       have HO_1324000 := n4_
       have HO_1324001 := n5_
       have HO_1324002 := n6_
       have HO_1339000 := n7_
       have HO_1339001 := n8_
       have HO_1339002 := n9_
       have HO1342 := n10_
       have HO1345 := n11_
       have HO1348 := n12_
       have BK1286 := n13_
       have BK1312 := n14_
       have BK1323 := n15_
       have BK1338 := n16_
       have HB := n17_
       clear n0_ n1_ n2_ n3_ n4_ n5_ n6_ n7_ n8_ n9_ n10_ n11_ n12_ n13_ n14_ n15_ n16_ n17_
       (try clear hb)
       (try clear hb2)
       (try clear hk)
       (try clear hi)
       refine hK.out _ _ ⟨(blk_cell BK1323.out 0).trans rfl, (blk_cell BK1323.out 1).trans rfl, (blk_cell BK1323.out 2).trans rfl, (blk_cell BK1323.out 3).trans rfl, (blk_cell BK1286.out 0).trans rfl, (blk_cell BK1286.out 1).trans rfl, (blk_cell BK1286.out 2).trans rfl, (blk_cell BK1286.out 3).trans rfl⟩ (fun hHeld => ?_)
       clear hK K
       refine norm_ (a' := ?_) ?_ ?_
       rotate_left
       ·
        show Act.put _ (some 59) _ = _
        simp only [Act.put, List.setIfInBounds_toArray, List.set_cons_zero, List.set_cons_succ, i64_w, i32_w]
        rfl
       refine pure_ (i := 4) (N := some 60) (v := ?_) (a' := ?_) #[true, true, true, true, true] rfl rfl (by kernel_rfl) (fun _ _ _ h => h) (Or.inl ⟨by rfl, ?_⟩) ?_ ?_
       rotate_left
       ·
        intro w'
        go_simp
        with_reducible rfl
       rotate_left
       ·
        simp only [Act.put, List.setIfInBounds_toArray, List.set_cons_zero, List.set_cons_succ, i64_w, i32_w]
        rfl
       refine done_ (by kernel_rfl) ?_
       try go_wp2
       go_ret
       exact ⟨by first | rfl | (simp [errW_none, errW_some] <;> rfl) | (simp [*, errW_none, errW_some] <;> rfl), bs4 HB GE1286 GE1312 GE1323 GE1338⟩

/-- THE ONE PURE STATEMENT of laws_FnExactCrashStore. -/
def laws_FnExactCrashStore.Pure : Prop := ∀ (l0_0 : List ByteArray) (l0_1 : List (S76)) (l0_2 : List ByteArray) (a0_3 : Int) (l1 : List Bool) (a2 : Int), ok38 (⟨(⟨l0_0, l0_1⟩ : S36), l0_2, a0_3⟩ : S38) → (l1.length ≤ maxLen ∧ ∀ y0 ∈ l1, True) → (Lit.int .i64 a2).wf = true → ∃ k, laws_FnExactCrashStore.f k l0_0 l0_1 l0_2 a0_3 l1 a2 = some true

end Go.Proofs.Ytcdkgenfggdpaaa.G
