-- Printed by a program of this session (drive.py, by way of the kit's print). Not trusted: Lean checks it.
import Derived.Test.YtcdkgenfggdpaaaG0
import Derived.Test.YtcdkgenfggdpaaaG2
import Derived.Test.YtcdkgenfggdpaaaG3
import Derived.Test.YtcdkgenfggdpaaaG5
import Derived.Test.YtcdkgenfggdpaaaG6
import Derived.Test.YtcdkgenfggdpaaaG7
import Derived.Test.YtcdkgenfggdpaaaG9
import Derived.Test.YtcdkgenfggdpaaaG10
import Derived.Test.YtcdkgenfggdpaaaG19
namespace Go.Proofs.Ytcdkgenfggdpaaa.G
open Go.RowKit Go.Proofs.YtcdkgenfggdpaaaW.PrintWords Go.Proofs.YtcdkgenfggdpaaaW.PrintLast Go.Proofs.YtcdkgenfggdpaaaW.PrintMore
attribute [local go_sem] max2_int min2_int max_two min_two max_three min_three max_four min_four   -- for this text's walks alone
set_option linter.unusedVariables false
set_option linter.unusedSimpArgs false

/-! ### laws_FnExactCommit: function 8 -/
mutual
def laws_FnExactCommit.j0 : Nat → List (S76) → Bool → List (S72) → Bool → Bool → List ByteArray → List (S76) → List ByteArray → Int → List ByteArray → List (S72) → List ByteArray → Int → List ByteArray → List (S72) → List ByteArray → Int → List ByteArray → List (S72) → List ByteArray → Int → Option (Bool)
 | 0, _, _, _, _, _, _, _, _, _, _, _, _, _, _, _, _, _, _, _, _, _ => none
 | k + 1, x1, x7, x9, x11, x53, x641000, x641001, x641002, x641003, x668000, x668001, x668002, x668003, x679000, x679001, x679002, x679003, x694000, x694001, x694002, x694003 => if x53 = true then (some false) else ((laws_toStore.f k x641000 x641001 x641002 x641003).bind fun bt695 => ((laws_eqStore.f k x679000 x679001 x679002 x679003 bt695.1 bt695.2.1 bt695.2.2.1 bt695.2.2.2).bind fun t705 => (if t705 = true then ((laws_toWriteS.f k x1).bind fun t706 => ((laws_eqWriteS.f k x9 t706).bind fun t709 => (if t709 = true then ((laws_markStore.f k x679000 x679001 x679002 x679003 1).bind fun bt710 => ((laws_markWriteS.f k x9 bt710.1).bind fun bt714 => (if bt714.1 < 0 then (laws_FnExactCommit.j1 k x1 x7 true x641000 x641001 x641002 x641003 x668000 x668001 x668002 x668003 x694000 x694001 x694002 x694003) else ((laws_eqStore.f k x694000 x694001 x694002 x694003 x668000 x668001 x668002 x668003).bind fun t716 => (if t716 = true then (laws_FnExactCommit.j1 k x1 x7 (x11 != x7) x641000 x641001 x641002 x641003 x668000 x668001 x668002 x668003 x694000 x694001 x694002 x694003) else (laws_FnExactCommit.j1 k x1 x7 true x641000 x641001 x641002 x641003 x668000 x668001 x668002 x668003 x694000 x694001 x694002 x694003)))))) else (some false)))) else (some false))))
def laws_FnExactCommit.j1 : Nat → List (S76) → Bool → Bool → List ByteArray → List (S76) → List ByteArray → Int → List ByteArray → List (S72) → List ByteArray → Int → List ByteArray → List (S72) → List ByteArray → Int → Option (Bool)
 | 0, _, _, _, _, _, _, _, _, _, _, _, _, _, _, _ => none
 | k + 1, x1, x7, x82, x641000, x641001, x641002, x641003, x668000, x668001, x668002, x668003, x694000, x694001, x694002, x694003 => if x82 = true then (some false) else ((laws_markStore.f k x694000 x694001 x694002 x694003 1).bind fun bt717 => ((laws_heldStore.f k bt717.2.1 bt717.2.2.1 bt717.2.2.2 x694003 1).bind fun t721 => (if t721 < 0 then (some false) else (if t721 = bt717.1 then ((laws_toStore.f k x641000 x641001 x641002 x641003).bind fun bt722 => ((laws_toWriteS.f k x1).bind fun t732 => ((impl_Commit.f k bt722.1 bt722.2.1 bt722.2.2.1 bt722.2.2.2 t732).bind fun bt735 => ((laws_eqStore.f k bt735.1 bt735.2.1 bt735.2.2.1 bt735.2.2.2.1 x668000 x668001 x668002 x668003).bind fun t747 => (if t747 = true then (laws_FnExactCommit.j2 k bt717.1 (bt735.2.2.2.2 != x7) bt717.2.1 bt717.2.2.1 bt717.2.2.2 x694003) else (laws_FnExactCommit.j2 k bt717.1 true bt717.2.1 bt717.2.2.1 bt717.2.2.2 x694003)))))) else (some false)))))
def laws_FnExactCommit.j2 : Nat → Int → Bool → List ByteArray → List (S72) → List ByteArray → Int → Option (Bool)
 | 0, _, _, _, _, _, _ => none
 | k + 1, x13, x110, x694000, x694001, x694002, x694003 => if x110 = true then (some false) else ((laws_heldStore.f k x694000 x694001 x694002 x694003 1).bind fun t748 => (if t748 < 0 then (some false) else (if t748 = x13 then (some true) else (some false))))
end
def laws_FnExactCommit.f (k : Nat) (l0_0 : List ByteArray) (l0_1 : List (S76)) (l0_2 : List ByteArray) (a0_3 : Int) (l1 : List (S76)) : Option (Bool) := (laws_szStore.f k l0_0 l0_1 l0_2 a0_3 1048576).bind fun t641 => (if t641 < 0 then (some true) else ((laws_szWriteS.f k l1 t641).bind fun t642 => (if t642 < 0 then (some true) else ((laws_toStore.f k l0_0 l0_1 l0_2 a0_3).bind fun bt643 => ((laws_toWriteS.f k l1).bind fun t653 => ((spec_Commit.f k bt643.1 bt643.2.1 bt643.2.2.1 bt643.2.2.2 t653).bind fun bt656 => ((laws_toStore.f k l0_0 l0_1 l0_2 a0_3).bind fun bt668 => ((laws_toWriteS.f k l1).bind fun t679 => ((impl_Commit.f k bt668.1 bt668.2.1 bt668.2.2.1 bt668.2.2.2 t679).bind fun bt682 => ((laws_eqStore.f k bt682.1 bt682.2.1 bt682.2.2.1 bt682.2.2.2.1 bt656.1 bt656.2.1 bt656.2.2.1 bt656.2.2.2.1).bind fun t694 => (if t694 = true then (laws_FnExactCommit.j0 k l1 bt656.2.2.2.2 t679 bt682.2.2.2.2 (bt682.2.2.2.2 != bt656.2.2.2.2) l0_0 l0_1 l0_2 a0_3 bt656.1 bt656.2.1 bt656.2.2.1 bt656.2.2.2.1 bt668.1 bt668.2.1 bt668.2.2.1 bt668.2.2.2 bt682.1 bt682.2.1 bt682.2.2.1 bt682.2.2.2.1) else (laws_FnExactCommit.j0 k l1 bt656.2.2.2.2 t679 bt682.2.2.2.2 true l0_0 l0_1 l0_2 a0_3 bt656.1 bt656.2.1 bt656.2.2.1 bt656.2.2.2.1 bt668.1 bt668.2.1 bt668.2.2.1 bt668.2.2.2 bt682.1 bt682.2.1 bt682.2.2.1 bt682.2.2.2.1))))))))))))
theorem laws_FnExactCommit.mono_l : ∀ k, (∀ y0 y1 y2 y3 y4 y5 y6 y7 y8 y9 y10 y11 y12 y13 y14 y15 y16 y17 y18 y19 y20, LeO (laws_FnExactCommit.j0 k y0 y1 y2 y3 y4 y5 y6 y7 y8 y9 y10 y11 y12 y13 y14 y15 y16 y17 y18 y19 y20) (laws_FnExactCommit.j0 (k + 1) y0 y1 y2 y3 y4 y5 y6 y7 y8 y9 y10 y11 y12 y13 y14 y15 y16 y17 y18 y19 y20)) ∧ (∀ y0 y1 y2 y3 y4 y5 y6 y7 y8 y9 y10 y11 y12 y13 y14, LeO (laws_FnExactCommit.j1 k y0 y1 y2 y3 y4 y5 y6 y7 y8 y9 y10 y11 y12 y13 y14) (laws_FnExactCommit.j1 (k + 1) y0 y1 y2 y3 y4 y5 y6 y7 y8 y9 y10 y11 y12 y13 y14)) ∧ (∀ y0 y1 y2 y3 y4 y5, LeO (laws_FnExactCommit.j2 k y0 y1 y2 y3 y4 y5) (laws_FnExactCommit.j2 (k + 1) y0 y1 y2 y3 y4 y5))
 | 0 => ⟨fun _ _ _ _ _ _ _ _ _ _ _ _ _ _ _ _ _ _ _ _ _ r h => by simp [laws_FnExactCommit.j0] at h, fun _ _ _ _ _ _ _ _ _ _ _ _ _ _ _ r h => by simp [laws_FnExactCommit.j1] at h, fun _ _ _ _ _ _ r h => by simp [laws_FnExactCommit.j2] at h⟩
 | k + 1 => by
  obtain ⟨ih0, ih1, ih2⟩ := laws_FnExactCommit.mono_l k
  refine ⟨?_, ?_, ?_⟩
  ·
   intro y0 y1 y2 y3 y4 y5 y6 y7 y8 y9 y10 y11 y12 y13 y14 y15 y16 y17 y18 y19 y20
   unfold laws_FnExactCommit.j0
   repeat' first
   | (with_reducible exact ih0 _ _ _ _ _ _ _ _ _ _ _ _ _ _ _ _ _ _ _ _ _)
   | (with_reducible exact ih1 _ _ _ _ _ _ _ _ _ _ _ _ _ _ _)
   | (with_reducible exact ih2 _ _ _ _ _ _)
   | (with_reducible exact impl_Commit.mono _ _ _ _ _ _)
   | (with_reducible exact laws_eqStore.mono _ _ _ _ _ _ _ _ _)
   | (with_reducible exact laws_eqWriteS.mono _ _ _)
   | (with_reducible exact laws_heldStore.mono _ _ _ _ _ _)
   | (with_reducible exact laws_markStore.mono _ _ _ _ _ _)
   | (with_reducible exact laws_markWriteS.mono _ _ _)
   | (with_reducible exact laws_szStore.mono _ _ _ _ _ _)
   | (with_reducible exact laws_szWriteS.mono _ _ _)
   | (with_reducible exact laws_toStore.mono _ _ _ _ _)
   | (with_reducible exact laws_toWriteS.mono _ _)
   | (with_reducible exact spec_Commit.mono _ _ _ _ _ _)
   | (with_reducible exact LeO.refl _)
   | (with_reducible exact LeO.none _)
   | (with_reducible refine LeO.ite ?_ ?_)
   | (with_reducible refine LeO.bind ?_ (fun _ => ?_))
   | exact ih0 _ _ _ _ _ _ _ _ _ _ _ _ _ _ _ _ _ _ _ _ _
   | exact ih1 _ _ _ _ _ _ _ _ _ _ _ _ _ _ _
   | exact ih2 _ _ _ _ _ _
   | exact impl_Commit.mono _ _ _ _ _ _
   | exact laws_eqStore.mono _ _ _ _ _ _ _ _ _
   | exact laws_eqWriteS.mono _ _ _
   | exact laws_heldStore.mono _ _ _ _ _ _
   | exact laws_markStore.mono _ _ _ _ _ _
   | exact laws_markWriteS.mono _ _ _
   | exact laws_szStore.mono _ _ _ _ _ _
   | exact laws_szWriteS.mono _ _ _
   | exact laws_toStore.mono _ _ _ _ _
   | exact laws_toWriteS.mono _ _
   | exact spec_Commit.mono _ _ _ _ _ _
   | exact LeO.none _
   | refine LeO.ite ?_ ?_
   | refine LeO.bind ?_ (fun _ => ?_)
  ·
   intro y0 y1 y2 y3 y4 y5 y6 y7 y8 y9 y10 y11 y12 y13 y14
   unfold laws_FnExactCommit.j1
   repeat' first
   | (with_reducible exact ih0 _ _ _ _ _ _ _ _ _ _ _ _ _ _ _ _ _ _ _ _ _)
   | (with_reducible exact ih1 _ _ _ _ _ _ _ _ _ _ _ _ _ _ _)
   | (with_reducible exact ih2 _ _ _ _ _ _)
   | (with_reducible exact impl_Commit.mono _ _ _ _ _ _)
   | (with_reducible exact laws_eqStore.mono _ _ _ _ _ _ _ _ _)
   | (with_reducible exact laws_eqWriteS.mono _ _ _)
   | (with_reducible exact laws_heldStore.mono _ _ _ _ _ _)
   | (with_reducible exact laws_markStore.mono _ _ _ _ _ _)
   | (with_reducible exact laws_markWriteS.mono _ _ _)
   | (with_reducible exact laws_szStore.mono _ _ _ _ _ _)
   | (with_reducible exact laws_szWriteS.mono _ _ _)
   | (with_reducible exact laws_toStore.mono _ _ _ _ _)
   | (with_reducible exact laws_toWriteS.mono _ _)
   | (with_reducible exact spec_Commit.mono _ _ _ _ _ _)
   | (with_reducible exact LeO.refl _)
   | (with_reducible exact LeO.none _)
   | (with_reducible refine LeO.ite ?_ ?_)
   | (with_reducible refine LeO.bind ?_ (fun _ => ?_))
   | exact ih0 _ _ _ _ _ _ _ _ _ _ _ _ _ _ _ _ _ _ _ _ _
   | exact ih1 _ _ _ _ _ _ _ _ _ _ _ _ _ _ _
   | exact ih2 _ _ _ _ _ _
   | exact impl_Commit.mono _ _ _ _ _ _
   | exact laws_eqStore.mono _ _ _ _ _ _ _ _ _
   | exact laws_eqWriteS.mono _ _ _
   | exact laws_heldStore.mono _ _ _ _ _ _
   | exact laws_markStore.mono _ _ _ _ _ _
   | exact laws_markWriteS.mono _ _ _
   | exact laws_szStore.mono _ _ _ _ _ _
   | exact laws_szWriteS.mono _ _ _
   | exact laws_toStore.mono _ _ _ _ _
   | exact laws_toWriteS.mono _ _
   | exact spec_Commit.mono _ _ _ _ _ _
   | exact LeO.none _
   | refine LeO.ite ?_ ?_
   | refine LeO.bind ?_ (fun _ => ?_)
  ·
   intro y0 y1 y2 y3 y4 y5
   unfold laws_FnExactCommit.j2
   repeat' first
   | (with_reducible exact ih0 _ _ _ _ _ _ _ _ _ _ _ _ _ _ _ _ _ _ _ _ _)
   | (with_reducible exact ih1 _ _ _ _ _ _ _ _ _ _ _ _ _ _ _)
   | (with_reducible exact ih2 _ _ _ _ _ _)
   | (with_reducible exact impl_Commit.mono _ _ _ _ _ _)
   | (with_reducible exact laws_eqStore.mono _ _ _ _ _ _ _ _ _)
   | (with_reducible exact laws_eqWriteS.mono _ _ _)
   | (with_reducible exact laws_heldStore.mono _ _ _ _ _ _)
   | (with_reducible exact laws_markStore.mono _ _ _ _ _ _)
   | (with_reducible exact laws_markWriteS.mono _ _ _)
   | (with_reducible exact laws_szStore.mono _ _ _ _ _ _)
   | (with_reducible exact laws_szWriteS.mono _ _ _)
   | (with_reducible exact laws_toStore.mono _ _ _ _ _)
   | (with_reducible exact laws_toWriteS.mono _ _)
   | (with_reducible exact spec_Commit.mono _ _ _ _ _ _)
   | (with_reducible exact LeO.refl _)
   | (with_reducible exact LeO.none _)
   | (with_reducible refine LeO.ite ?_ ?_)
   | (with_reducible refine LeO.bind ?_ (fun _ => ?_))
   | exact ih0 _ _ _ _ _ _ _ _ _ _ _ _ _ _ _ _ _ _ _ _ _
   | exact ih1 _ _ _ _ _ _ _ _ _ _ _ _ _ _ _
   | exact ih2 _ _ _ _ _ _
   | exact impl_Commit.mono _ _ _ _ _ _
   | exact laws_eqStore.mono _ _ _ _ _ _ _ _ _
   | exact laws_eqWriteS.mono _ _ _
   | exact laws_heldStore.mono _ _ _ _ _ _
   | exact laws_markStore.mono _ _ _ _ _ _
   | exact laws_markWriteS.mono _ _ _
   | exact laws_szStore.mono _ _ _ _ _ _
   | exact laws_szWriteS.mono _ _ _
   | exact laws_toStore.mono _ _ _ _ _
   | exact laws_toWriteS.mono _ _
   | exact spec_Commit.mono _ _ _ _ _ _
   | exact LeO.none _
   | refine LeO.ite ?_ ?_
   | refine LeO.bind ?_ (fun _ => ?_)
theorem laws_FnExactCommit.mono : ∀ a0 a1 a2 a3 a4 k, LeO (laws_FnExactCommit.f k a0 a1 a2 a3 a4) (laws_FnExactCommit.f (k + 1) a0 a1 a2 a3 a4) := by
 intro a0 a1 a2 a3 a4 k
 obtain ⟨ih0, ih1, ih2⟩ := laws_FnExactCommit.mono_l k
 unfold laws_FnExactCommit.f
 repeat' first
   | (with_reducible exact ih0 _ _ _ _ _ _ _ _ _ _ _ _ _ _ _ _ _ _ _ _ _)
   | (with_reducible exact ih1 _ _ _ _ _ _ _ _ _ _ _ _ _ _ _)
   | (with_reducible exact ih2 _ _ _ _ _ _)
   | (with_reducible exact impl_Commit.mono _ _ _ _ _ _)
   | (with_reducible exact laws_eqStore.mono _ _ _ _ _ _ _ _ _)
   | (with_reducible exact laws_eqWriteS.mono _ _ _)
   | (with_reducible exact laws_heldStore.mono _ _ _ _ _ _)
   | (with_reducible exact laws_markStore.mono _ _ _ _ _ _)
   | (with_reducible exact laws_markWriteS.mono _ _ _)
   | (with_reducible exact laws_szStore.mono _ _ _ _ _ _)
   | (with_reducible exact laws_szWriteS.mono _ _ _)
   | (with_reducible exact laws_toStore.mono _ _ _ _ _)
   | (with_reducible exact laws_toWriteS.mono _ _)
   | (with_reducible exact spec_Commit.mono _ _ _ _ _ _)
   | (with_reducible exact LeO.refl _)
   | (with_reducible exact LeO.none _)
   | (with_reducible refine LeO.ite ?_ ?_)
   | (with_reducible refine LeO.bind ?_ (fun _ => ?_))
   | exact ih0 _ _ _ _ _ _ _ _ _ _ _ _ _ _ _ _ _ _ _ _ _
   | exact ih1 _ _ _ _ _ _ _ _ _ _ _ _ _ _ _
   | exact ih2 _ _ _ _ _ _
   | exact impl_Commit.mono _ _ _ _ _ _
   | exact laws_eqStore.mono _ _ _ _ _ _ _ _ _
   | exact laws_eqWriteS.mono _ _ _
   | exact laws_heldStore.mono _ _ _ _ _ _
   | exact laws_markStore.mono _ _ _ _ _ _
   | exact laws_markWriteS.mono _ _ _
   | exact laws_szStore.mono _ _ _ _ _ _
   | exact laws_szWriteS.mono _ _ _
   | exact laws_toStore.mono _ _ _ _ _
   | exact laws_toWriteS.mono _ _
   | exact spec_Commit.mono _ _ _ _ _ _
   | exact LeO.none _
   | refine LeO.ite ?_ ?_
   | refine LeO.bind ?_ (fun _ => ?_)
set_option maxHeartbeats 8000000 in
set_option maxRecDepth 100000 in
theorem laws_FnExactCommit.calls (k : Nat) (A0_0 : Option Addr) (c0_0 : Nat) (l0_0 : List ByteArray) (A0_1 : Option Addr) (c0_1 : Nat) (l0_1 : List (S76)) (A0_2 : Option Addr) (c0_2 : Nat) (l0_2 : List ByteArray) (a0_3 : Int) (A1 : Option Addr) (c1 : Nat) (l1 : List (S76)) (r : Bool) (w : World) (hr0_0 : Kd.C Kd.string w A0_0 l0_0.length l0_0) (hc0_0 : l0_0.length ≤ c0_0) (hr0_1 : Kd.C k76 w A0_1 l0_1.length l0_1) (hc0_1 : l0_1.length ≤ c0_1) (hr0_2 : Kd.C Kd.string w A0_2 l0_2.length l0_2) (hc0_2 : l0_2.length ≤ c0_2) (hr1 : Kd.C k76 w A1 l1.length l1) (hc1 : l1.length ≤ c1) (h : laws_FnExactCommit.f k l0_0 l0_1 l0_2 a0_3 l1 = some r) :
  Calls Try.prog 8 #[.agg #[.slice A0_0 l0_0.length c0_0, .slice A0_1 l0_1.length c0_1, .slice A0_2 l0_2.length c0_2, .int .i64 a0_3], .slice A1 l1.length c1] w fun e w' => e = .returned (.bool r) ∧ Below w.heap.size w w' := by
 have hu38 := Try.underlying38
 have hu44 := Try.underlying44
 have HR0_0 := Aside0.mk hr0_0
 have HC0_0 := Aside0.mk hc0_0
 clear hr0_0 hc0_0
 have HR0_1 := Aside0.mk hr0_1
 have HC0_1 := Aside0.mk hc0_1
 clear hr0_1 hc0_1
 have HR0_2 := Aside0.mk hr0_2
 have HC0_2 := Aside0.mk hc0_2
 clear hr0_2 hc0_2
 have HR1 := Aside0.mk hr1
 have HC1 := Aside0.mk hc1
 clear hr1 hc1
 have HB := Aside0.mk (Below.refl w.heap.size w)
 have H : ((laws_szStore.f k l0_0 l0_1 l0_2 a0_3 1048576).bind fun t641 => (if t641 < 0 then (some true) else ((laws_szWriteS.f k l1 t641).bind fun t642 => (if t642 < 0 then (some true) else ((laws_toStore.f k l0_0 l0_1 l0_2 a0_3).bind fun bt643 => ((laws_toWriteS.f k l1).bind fun t653 => ((spec_Commit.f k bt643.1 bt643.2.1 bt643.2.2.1 bt643.2.2.2 t653).bind fun bt656 => ((laws_toStore.f k l0_0 l0_1 l0_2 a0_3).bind fun bt668 => ((laws_toWriteS.f k l1).bind fun t679 => ((impl_Commit.f k bt668.1 bt668.2.1 bt668.2.2.1 bt668.2.2.2 t679).bind fun bt682 => ((laws_eqStore.f k bt682.1 bt682.2.1 bt682.2.2.1 bt682.2.2.2.1 bt656.1 bt656.2.1 bt656.2.2.1 bt656.2.2.2.1).bind fun t694 => (if t694 = true then (laws_FnExactCommit.j0 k l1 bt656.2.2.2.2 t679 bt682.2.2.2.2 (bt682.2.2.2.2 != bt656.2.2.2.2) l0_0 l0_1 l0_2 a0_3 bt656.1 bt656.2.1 bt656.2.2.1 bt656.2.2.2.1 bt668.1 bt668.2.1 bt668.2.2.1 bt668.2.2.2 bt682.1 bt682.2.1 bt682.2.2.1 bt682.2.2.2.1) else (laws_FnExactCommit.j0 k l1 bt656.2.2.2.2 t679 bt682.2.2.2.2 true l0_0 l0_1 l0_2 a0_3 bt656.1 bt656.2.1 bt656.2.2.1 bt656.2.2.2.1 bt668.1 bt668.2.1 bt668.2.2.1 bt668.2.2.2 bt682.1 bt682.2.1 bt682.2.2.1 bt682.2.2.2.1))))))))))))) = some r := h
 clear h
 replace H := Option.bind_eq_some_iff.mp H
 obtain ⟨t641, A30, H⟩ := H
 replace H : (if t641 < 0 then (some true) else ((laws_szWriteS.f k l1 t641).bind fun t642 => (if t642 < 0 then (some true) else ((laws_toStore.f k l0_0 l0_1 l0_2 a0_3).bind fun bt643 => ((laws_toWriteS.f k l1).bind fun t653 => ((spec_Commit.f k bt643.1 bt643.2.1 bt643.2.2.1 bt643.2.2.2 t653).bind fun bt656 => ((laws_toStore.f k l0_0 l0_1 l0_2 a0_3).bind fun bt668 => ((laws_toWriteS.f k l1).bind fun t679 => ((impl_Commit.f k bt668.1 bt668.2.1 bt668.2.2.1 bt668.2.2.2 t679).bind fun bt682 => ((laws_eqStore.f k bt682.1 bt682.2.1 bt682.2.2.1 bt682.2.2.2.1 bt656.1 bt656.2.1 bt656.2.2.1 bt656.2.2.2.1).bind fun t694 => (if t694 = true then (laws_FnExactCommit.j0 k l1 bt656.2.2.2.2 t679 bt682.2.2.2.2 (bt682.2.2.2.2 != bt656.2.2.2.2) l0_0 l0_1 l0_2 a0_3 bt656.1 bt656.2.1 bt656.2.2.1 bt656.2.2.2.1 bt668.1 bt668.2.1 bt668.2.2.1 bt668.2.2.2 bt682.1 bt682.2.1 bt682.2.2.1 bt682.2.2.2.1) else (laws_FnExactCommit.j0 k l1 bt656.2.2.2.2 t679 bt682.2.2.2.2 true l0_0 l0_1 l0_2 a0_3 bt656.1 bt656.2.1 bt656.2.2.1 bt656.2.2.2.1 bt668.1 bt668.2.1 bt668.2.2.1 bt668.2.2.2 bt682.1 bt682.2.1 bt682.2.2.1 bt682.2.2.2.1)))))))))))) = some r := H
 have A3 := Aside0.mk A30
 clear A30
 by_cases c4 : t641 < 0
 ·
  rw [if_pos c4] at H
  have c4b0 : decide (t641 < 0) = true := decide_eq_true c4
  clear c4
  obtain rfl := Option.some.inj H
  go_enter Try.func8, Try.ntmps8
  go_wp2_with (first | ((with_reducible refine gate_dst (N := 2) rfl ?_); refine box_event ?hg (N := 2) ?hd (cs := #[.slice A0_0 l0_0.length c0_0, .slice A0_1 l0_1.length c0_1, .slice A0_2 l0_2.length c0_2, .int .i64 a0_3]) (t := 38) ?hr ?_; (case hd => rfl); (case hg => rfl); (case hr => first | (go_simp; done) | (go_simp; rfl)); intro gb640 hg w5 hbox hb; have BK640 := Aside0.mk (hbox); have GW640 := Aside0.mk ((by rw [hg]; exact (below_size (bs HB)) : w.heap.size ≤ gb640)); have GE640 := Aside0.mk ((by rw [hg]; exact (below_size (bs HB)) : w.heap.size ≤ gb640)); replace HB := Aside0.mk (below_step (bs HB) hb); clear hb hbox hg; obtain ⟨hcz6_0, hcz6_1, hcz6_2, hcz6_3⟩ := cz4 BK640; obtain ⟨hfz6_0, hfz6_1, hfz6_2, hfz6_3⟩ := fz4 BK640) | ((with_reducible refine gate_callee (f := 25) rfl ?_); refine gL (some 19) rfl rfl Try.func25 (by kernel_rfl) rfl #[.agg #[.slice A0_0 l0_0.length c0_0, .slice A0_1 l0_1.length c0_1, .slice A0_2 l0_2.length c0_2, .int .i64 a0_3], .int .i64 1048576] rfl ?_; (with_reducible refine (laws_szStore.calls k _ _ l0_0 _ _ l0_1 _ _ l0_2 a0_3 1048576 t641 _ ?side1 ?side2 ?side3 ?side4 ?side5 ?side6 A3.out).mono ?_); (case side1 => exact cb HR0_0 HB); (case side2 => exact HC0_0.out); (case side3 => exact cb HR0_1 HB); (case side4 => exact HC0_1.out); (case side5 => exact cb HR0_2 HB); (case side6 => exact HC0_2.out); rintro e w7 ⟨rfl, hb⟩; refine ⟨_, rfl, ?_⟩; replace BK640 := nb BK640 hb; replace HB := Aside0.mk (below_step (bs1 HB GE640) hb); (try clear hb); (try clear hb2); (try clear hk); (try clear hi)))
  go_ret
  exact ⟨by first | rfl | (simp [errW_none, errW_some] <;> rfl) | (simp [*, errW_none, errW_some] <;> rfl), bs1 HB GE640⟩
 ·
  rw [if_neg c4] at H
  have c4b0 : decide (t641 < 0) = false := decide_eq_false c4
  clear c4
  replace H := Option.bind_eq_some_iff.mp H
  obtain ⟨t642, A80, H⟩ := H
  replace H : (if t642 < 0 then (some true) else ((laws_toStore.f k l0_0 l0_1 l0_2 a0_3).bind fun bt643 => ((laws_toWriteS.f k l1).bind fun t653 => ((spec_Commit.f k bt643.1 bt643.2.1 bt643.2.2.1 bt643.2.2.2 t653).bind fun bt656 => ((laws_toStore.f k l0_0 l0_1 l0_2 a0_3).bind fun bt668 => ((laws_toWriteS.f k l1).bind fun t679 => ((impl_Commit.f k bt668.1 bt668.2.1 bt668.2.2.1 bt668.2.2.2 t679).bind fun bt682 => ((laws_eqStore.f k bt682.1 bt682.2.1 bt682.2.2.1 bt682.2.2.2.1 bt656.1 bt656.2.1 bt656.2.2.1 bt656.2.2.2.1).bind fun t694 => (if t694 = true then (laws_FnExactCommit.j0 k l1 bt656.2.2.2.2 t679 bt682.2.2.2.2 (bt682.2.2.2.2 != bt656.2.2.2.2) l0_0 l0_1 l0_2 a0_3 bt656.1 bt656.2.1 bt656.2.2.1 bt656.2.2.2.1 bt668.1 bt668.2.1 bt668.2.2.1 bt668.2.2.2 bt682.1 bt682.2.1 bt682.2.2.1 bt682.2.2.2.1) else (laws_FnExactCommit.j0 k l1 bt656.2.2.2.2 t679 bt682.2.2.2.2 true l0_0 l0_1 l0_2 a0_3 bt656.1 bt656.2.1 bt656.2.2.1 bt656.2.2.2.1 bt668.1 bt668.2.1 bt668.2.2.1 bt668.2.2.2 bt682.1 bt682.2.1 bt682.2.2.1 bt682.2.2.2.1)))))))))) = some r := H
  have A8 := Aside0.mk A80
  clear A80
  by_cases c9 : t642 < 0
  ·
   rw [if_pos c9] at H
   have c9b0 : decide (t642 < 0) = true := decide_eq_true c9
   clear c9
   obtain rfl := Option.some.inj H
   go_enter Try.func8, Try.ntmps8
   go_wp2_with (first | ((with_reducible refine gate_dst (N := 2) rfl ?_); refine box_event ?hg (N := 2) ?hd (cs := #[.slice A0_0 l0_0.length c0_0, .slice A0_1 l0_1.length c0_1, .slice A0_2 l0_2.length c0_2, .int .i64 a0_3]) (t := 38) ?hr ?_; (case hd => rfl); (case hg => rfl); (case hr => first | (go_simp; done) | (go_simp; rfl)); intro gb640 hg w10 hbox hb; have BK640 := Aside0.mk (hbox); have GW640 := Aside0.mk ((by rw [hg]; exact (below_size (bs HB)) : w.heap.size ≤ gb640)); have GE640 := Aside0.mk ((by rw [hg]; exact (below_size (bs HB)) : w.heap.size ≤ gb640)); replace HB := Aside0.mk (below_step (bs HB) hb); clear hb hbox hg; obtain ⟨hcz11_0, hcz11_1, hcz11_2, hcz11_3⟩ := cz4 BK640; obtain ⟨hfz11_0, hfz11_1, hfz11_2, hfz11_3⟩ := fz4 BK640) | ((with_reducible refine gate_callee (f := 25) rfl ?_); refine gL (some 19) rfl rfl Try.func25 (by kernel_rfl) rfl #[.agg #[.slice A0_0 l0_0.length c0_0, .slice A0_1 l0_1.length c0_1, .slice A0_2 l0_2.length c0_2, .int .i64 a0_3], .int .i64 1048576] rfl ?_; (with_reducible refine (laws_szStore.calls k _ _ l0_0 _ _ l0_1 _ _ l0_2 a0_3 1048576 t641 _ ?side1 ?side2 ?side3 ?side4 ?side5 ?side6 A3.out).mono ?_); (case side1 => exact cb HR0_0 HB); (case side2 => exact HC0_0.out); (case side3 => exact cb HR0_1 HB); (case side4 => exact HC0_1.out); (case side5 => exact cb HR0_2 HB); (case side6 => exact HC0_2.out); rintro e w12 ⟨rfl, hb⟩; refine ⟨_, rfl, ?_⟩; replace BK640 := nb BK640 hb; replace HB := Aside0.mk (below_step (bs1 HB GE640) hb); (try clear hb); (try clear hb2); (try clear hk); (try clear hi)) | ((with_reducible refine gate_callee (f := 16) rfl ?_); refine gL (some 24) rfl rfl Try.func16 (by kernel_rfl) rfl #[.slice A1 l1.length c1, .int .i64 t641] rfl ?_; (with_reducible refine (laws_szWriteS.calls k _ _ l1 t641 t642 _ ?side1 ?side2 A8.out).mono ?_); (case side1 => exact cb HR1 HB); (case side2 => exact HC1.out); rintro e w13 ⟨rfl, hb⟩; refine ⟨_, rfl, ?_⟩; replace BK640 := nb BK640 hb; replace HB := Aside0.mk (below_step (bs1 HB GE640) hb); (try clear hb); (try clear hb2); (try clear hk); (try clear hi)))
   go_ret
   exact ⟨by first | rfl | (simp [errW_none, errW_some] <;> rfl) | (simp [*, errW_none, errW_some] <;> rfl), bs1 HB GE640⟩
  ·
   rw [if_neg c9] at H
   have c9b0 : decide (t642 < 0) = false := decide_eq_false c9
   clear c9
   replace H := Option.bind_eq_some_iff.mp H
   obtain ⟨⟨t643, t646, t649, t652⟩, A140, H⟩ := H
   replace H : ((laws_toWriteS.f k l1).bind fun t653 => ((spec_Commit.f k t643 t646 t649 t652 t653).bind fun bt656 => ((laws_toStore.f k l0_0 l0_1 l0_2 a0_3).bind fun bt668 => ((laws_toWriteS.f k l1).bind fun t679 => ((impl_Commit.f k bt668.1 bt668.2.1 bt668.2.2.1 bt668.2.2.2 t679).bind fun bt682 => ((laws_eqStore.f k bt682.1 bt682.2.1 bt682.2.2.1 bt682.2.2.2.1 bt656.1 bt656.2.1 bt656.2.2.1 bt656.2.2.2.1).bind fun t694 => (if t694 = true then (laws_FnExactCommit.j0 k l1 bt656.2.2.2.2 t679 bt682.2.2.2.2 (bt682.2.2.2.2 != bt656.2.2.2.2) l0_0 l0_1 l0_2 a0_3 bt656.1 bt656.2.1 bt656.2.2.1 bt656.2.2.2.1 bt668.1 bt668.2.1 bt668.2.2.1 bt668.2.2.2 bt682.1 bt682.2.1 bt682.2.2.1 bt682.2.2.2.1) else (laws_FnExactCommit.j0 k l1 bt656.2.2.2.2 t679 bt682.2.2.2.2 true l0_0 l0_1 l0_2 a0_3 bt656.1 bt656.2.1 bt656.2.2.1 bt656.2.2.2.1 bt668.1 bt668.2.1 bt668.2.2.1 bt668.2.2.2 bt682.1 bt682.2.1 bt682.2.2.1 bt682.2.2.2.1)))))))) = some r := H
   have A14 := Aside0.mk A140
   clear A140
   replace H := Option.bind_eq_some_iff.mp H
   obtain ⟨t653, A150, H⟩ := H
   replace H : ((spec_Commit.f k t643 t646 t649 t652 t653).bind fun bt656 => ((laws_toStore.f k l0_0 l0_1 l0_2 a0_3).bind fun bt668 => ((laws_toWriteS.f k l1).bind fun t679 => ((impl_Commit.f k bt668.1 bt668.2.1 bt668.2.2.1 bt668.2.2.2 t679).bind fun bt682 => ((laws_eqStore.f k bt682.1 bt682.2.1 bt682.2.2.1 bt682.2.2.2.1 bt656.1 bt656.2.1 bt656.2.2.1 bt656.2.2.2.1).bind fun t694 => (if t694 = true then (laws_FnExactCommit.j0 k l1 bt656.2.2.2.2 t679 bt682.2.2.2.2 (bt682.2.2.2.2 != bt656.2.2.2.2) l0_0 l0_1 l0_2 a0_3 bt656.1 bt656.2.1 bt656.2.2.1 bt656.2.2.2.1 bt668.1 bt668.2.1 bt668.2.2.1 bt668.2.2.2 bt682.1 bt682.2.1 bt682.2.2.1 bt682.2.2.2.1) else (laws_FnExactCommit.j0 k l1 bt656.2.2.2.2 t679 bt682.2.2.2.2 true l0_0 l0_1 l0_2 a0_3 bt656.1 bt656.2.1 bt656.2.2.1 bt656.2.2.2.1 bt668.1 bt668.2.1 bt668.2.2.1 bt668.2.2.2 bt682.1 bt682.2.1 bt682.2.2.1 bt682.2.2.2.1))))))) = some r := H
   have A15 := Aside0.mk A150
   clear A150
   replace H := Option.bind_eq_some_iff.mp H
   obtain ⟨⟨t656, t659, t662, t665, t666⟩, A160, H⟩ := H
   replace H : ((laws_toStore.f k l0_0 l0_1 l0_2 a0_3).bind fun bt668 => ((laws_toWriteS.f k l1).bind fun t679 => ((impl_Commit.f k bt668.1 bt668.2.1 bt668.2.2.1 bt668.2.2.2 t679).bind fun bt682 => ((laws_eqStore.f k bt682.1 bt682.2.1 bt682.2.2.1 bt682.2.2.2.1 t656 t659 t662 t665).bind fun t694 => (if t694 = true then (laws_FnExactCommit.j0 k l1 t666 t679 bt682.2.2.2.2 (bt682.2.2.2.2 != t666) l0_0 l0_1 l0_2 a0_3 t656 t659 t662 t665 bt668.1 bt668.2.1 bt668.2.2.1 bt668.2.2.2 bt682.1 bt682.2.1 bt682.2.2.1 bt682.2.2.2.1) else (laws_FnExactCommit.j0 k l1 t666 t679 bt682.2.2.2.2 true l0_0 l0_1 l0_2 a0_3 t656 t659 t662 t665 bt668.1 bt668.2.1 bt668.2.2.1 bt668.2.2.2 bt682.1 bt682.2.1 bt682.2.2.1 bt682.2.2.2.1)))))) = some r := H
   have A16 := Aside0.mk A160
   clear A160
   replace H := Option.bind_eq_some_iff.mp H
   obtain ⟨⟨t668, t671, t674, t677⟩, A170, H⟩ := H
   replace H : ((laws_toWriteS.f k l1).bind fun t679 => ((impl_Commit.f k t668 t671 t674 t677 t679).bind fun bt682 => ((laws_eqStore.f k bt682.1 bt682.2.1 bt682.2.2.1 bt682.2.2.2.1 t656 t659 t662 t665).bind fun t694 => (if t694 = true then (laws_FnExactCommit.j0 k l1 t666 t679 bt682.2.2.2.2 (bt682.2.2.2.2 != t666) l0_0 l0_1 l0_2 a0_3 t656 t659 t662 t665 t668 t671 t674 t677 bt682.1 bt682.2.1 bt682.2.2.1 bt682.2.2.2.1) else (laws_FnExactCommit.j0 k l1 t666 t679 bt682.2.2.2.2 true l0_0 l0_1 l0_2 a0_3 t656 t659 t662 t665 t668 t671 t674 t677 bt682.1 bt682.2.1 bt682.2.2.1 bt682.2.2.2.1))))) = some r := H
   have A17 := Aside0.mk A170
   clear A170
   replace H := Option.bind_eq_some_iff.mp H
   obtain ⟨t679, A180, H⟩ := H
   replace H : ((impl_Commit.f k t668 t671 t674 t677 t679).bind fun bt682 => ((laws_eqStore.f k bt682.1 bt682.2.1 bt682.2.2.1 bt682.2.2.2.1 t656 t659 t662 t665).bind fun t694 => (if t694 = true then (laws_FnExactCommit.j0 k l1 t666 t679 bt682.2.2.2.2 (bt682.2.2.2.2 != t666) l0_0 l0_1 l0_2 a0_3 t656 t659 t662 t665 t668 t671 t674 t677 bt682.1 bt682.2.1 bt682.2.2.1 bt682.2.2.2.1) else (laws_FnExactCommit.j0 k l1 t666 t679 bt682.2.2.2.2 true l0_0 l0_1 l0_2 a0_3 t656 t659 t662 t665 t668 t671 t674 t677 bt682.1 bt682.2.1 bt682.2.2.1 bt682.2.2.2.1)))) = some r := H
   have A18 := Aside0.mk A180
   clear A180
   replace H := Option.bind_eq_some_iff.mp H
   obtain ⟨⟨t682, t685, t688, t691, t692⟩, A190, H⟩ := H
   replace H : ((laws_eqStore.f k t682 t685 t688 t691 t656 t659 t662 t665).bind fun t694 => (if t694 = true then (laws_FnExactCommit.j0 k l1 t666 t679 t692 (t692 != t666) l0_0 l0_1 l0_2 a0_3 t656 t659 t662 t665 t668 t671 t674 t677 t682 t685 t688 t691) else (laws_FnExactCommit.j0 k l1 t666 t679 t692 true l0_0 l0_1 l0_2 a0_3 t656 t659 t662 t665 t668 t671 t674 t677 t682 t685 t688 t691))) = some r := H
   have A19 := Aside0.mk A190
   clear A190
   have HC20 := Aside0.mk H
   clear H
   go_enter Try.func8, Try.ntmps8
   go_upto_region 12 with (first | ((with_reducible refine gate_dst (N := 2) rfl ?_); refine box_event ?hg (N := 2) ?hd (cs := #[.slice A0_0 l0_0.length c0_0, .slice A0_1 l0_1.length c0_1, .slice A0_2 l0_2.length c0_2, .int .i64 a0_3]) (t := 38) ?hr ?_; (case hd => rfl); (case hg => rfl); (case hr => first | (go_simp; done) | (go_simp; rfl)); intro gb640 hg w21 hbox hb; have BK640 := Aside0.mk (hbox); have GW640 := Aside0.mk ((by rw [hg]; exact (below_size (bs HB)) : w.heap.size ≤ gb640)); have GE640 := Aside0.mk ((by rw [hg]; exact (below_size (bs HB)) : w.heap.size ≤ gb640)); replace HB := Aside0.mk (below_step (bs HB) hb); clear hb hbox hg; obtain ⟨hcz22_0, hcz22_1, hcz22_2, hcz22_3⟩ := cz4 BK640; obtain ⟨hfz22_0, hfz22_1, hfz22_2, hfz22_3⟩ := fz4 BK640) | ((with_reducible refine gate_callee (f := 25) rfl ?_); refine gL (some 19) rfl rfl Try.func25 (by kernel_rfl) rfl #[.agg #[.slice A0_0 l0_0.length c0_0, .slice A0_1 l0_1.length c0_1, .slice A0_2 l0_2.length c0_2, .int .i64 a0_3], .int .i64 1048576] rfl ?_; (with_reducible refine (laws_szStore.calls k _ _ l0_0 _ _ l0_1 _ _ l0_2 a0_3 1048576 t641 _ ?side1 ?side2 ?side3 ?side4 ?side5 ?side6 A3.out).mono ?_); (case side1 => exact cb HR0_0 HB); (case side2 => exact HC0_0.out); (case side3 => exact cb HR0_1 HB); (case side4 => exact HC0_1.out); (case side5 => exact cb HR0_2 HB); (case side6 => exact HC0_2.out); rintro e w23 ⟨rfl, hb⟩; refine ⟨_, rfl, ?_⟩; replace BK640 := nb BK640 hb; replace HB := Aside0.mk (below_step (bs1 HB GE640) hb); (try clear hb); (try clear hb2); (try clear hk); (try clear hi)) | ((with_reducible refine gate_callee (f := 16) rfl ?_); refine gL (some 24) rfl rfl Try.func16 (by kernel_rfl) rfl #[.slice A1 l1.length c1, .int .i64 t641] rfl ?_; (with_reducible refine (laws_szWriteS.calls k _ _ l1 t641 t642 _ ?side1 ?side2 A8.out).mono ?_); (case side1 => exact cb HR1 HB); (case side2 => exact HC1.out); rintro e w24 ⟨rfl, hb⟩; refine ⟨_, rfl, ?_⟩; replace BK640 := nb BK640 hb; replace HB := Aside0.mk (below_step (bs1 HB GE640) hb); (try clear hb); (try clear hb2); (try clear hk); (try clear hi); obtain ⟨hcz25_0, hcz25_1, hcz25_2, hcz25_3⟩ := cz4 BK640; obtain ⟨hfz25_0, hfz25_1, hfz25_2, hfz25_3⟩ := fz4 BK640) | ((with_reducible refine gate_callee (f := 27) rfl ?_); refine gL (some 29) rfl rfl Try.func27 (by kernel_rfl) rfl #[.agg #[.slice A0_0 l0_0.length c0_0, .slice A0_1 l0_1.length c0_1, .slice A0_2 l0_2.length c0_2, .int .i64 a0_3]] rfl ?_; (with_reducible refine (laws_toStore.calls k _ _ l0_0 _ _ l0_1 _ _ l0_2 a0_3 t643 t646 t649 t652 _ ?side1 ?side2 ?side3 ?side4 ?side5 ?side6 A14.out).mono ?_); (case side1 => exact cb HR0_0 HB); (case side2 => exact HC0_0.out); (case side3 => exact cb HR0_1 HB); (case side4 => exact HC0_1.out); (case side5 => exact cb HR0_2 HB); (case side6 => exact HC0_2.out); rintro e w26 ⟨v644, v647, v650, rfl, ho0, ho1, ho2, hb⟩; refine ⟨_, rfl, ?_⟩; have HO645 := Aside0.mk (Kd.R_lower ho0 (below_size (bs1 HB GE640))); have HO648 := Aside0.mk (Kd.R_lower ho1 (below_size (bs1 HB GE640))); have HO651 := Aside0.mk (Kd.R_lower ho2 (below_size (bs1 HB GE640))); replace BK640 := nb BK640 hb; replace HB := Aside0.mk (below_step (bs1 HB GE640) hb); (try clear hb); (try clear hb2); (try clear hk); (try clear hi); (try clear ho0); (try clear ho1); (try clear ho2)) | ((with_reducible refine gate_callee (f := 18) rfl ?_); refine gL (some 31) rfl rfl Try.func18 (by kernel_rfl) rfl #[.slice A1 l1.length c1] rfl ?_; (with_reducible refine (laws_toWriteS.calls k _ _ l1 t653 _ ?side1 ?side2 A15.out).mono ?_); (case side1 => exact cb HR1 HB); (case side2 => exact HC1.out); rintro e w27 ⟨v654, rfl, ho0, hb⟩; refine ⟨_, rfl, ?_⟩; replace HO645 := nr HO645 hb; replace HO651 := nr HO651 hb; have HO655 := Aside0.mk (Kd.R_lower (Kd.R_new' ho0 (Kd.R_lt (rr HO648.out))) (below_size (bs1 HB GE640))); replace HO648 := Aside0.mk (Kd.R_elder' (rr HO648.out) (Kd.R_base ho0) hb); replace BK640 := nb BK640 hb; replace HB := Aside0.mk (below_step (bs1 HB GE640) hb); (try clear hb); (try clear hb2); (try clear hk); (try clear hi); (try clear ho0); obtain ⟨Ao28, co28, eo28⟩ := Kd.R_slice HO645.out; subst eo28; obtain ⟨Ao29, co29, eo29⟩ := Kd.R_slice HO648.out; subst eo29; obtain ⟨Ao30, co30, eo30⟩ := Kd.R_slice HO651.out; subst eo30; obtain ⟨Ao31, co31, eo31⟩ := Kd.R_slice HO655.out; subst eo31) | ((with_reducible refine gate_callee (f := 39) rfl ?_); refine gL (some 32) rfl rfl Try.func39 (by kernel_rfl) rfl #[.agg #[.slice Ao28 t643.length co28, .slice Ao29 t646.length co29, .slice Ao30 t649.length co30, .int .i64 t652], .slice Ao31 t653.length co31] rfl ?_; (with_reducible refine (spec_Commit.calls k _ _ t643 _ _ t646 _ _ t649 t652 _ _ t653 t656 t659 t662 t665 t666 _ ?side1 ?side2 ?side3 ?side4 ?side5 ?side6 ?side7 ?side8 A16.out).mono ?_); (case side1 => exact rc0 HO645); (case side2 => exact (Kd.R_reads' HO645.out).2.1); (case side3 => exact rc0 HO648); (case side4 => exact (Kd.R_reads' HO648.out).2.1); (case side5 => exact rc0 HO651); (case side6 => exact (Kd.R_reads' HO651.out).2.1); (case side7 => exact rc0 HO655); (case side8 => exact (Kd.R_reads' HO655.out).2.1); rintro e w32 ⟨v657, v660, v663, rfl, ho0, ho1, ho2, hb⟩; refine ⟨_, rfl, ?_⟩; have HO658 := Aside0.mk (Kd.R_lower (Kd.R_new' (Kd.R_new' ho0 (Kd.R_lt (rr HO645.out))) (Kd.R_lt (rr HO651.out))) (below_size (bs1 HB GE640))); have HO661 := Aside0.mk (Kd.R_lower (Kd.R_new' (Kd.R_new' ho1 (Kd.R_lt (rr HO648.out))) (Kd.R_lt (rr HO655.out))) (below_size (bs1 HB GE640))); replace HO648 := Aside0.mk (Kd.R_elder' (rr HO648.out) (Kd.R_base ho1) hb); replace HO655 := Aside0.mk (Kd.R_elder' (rr HO655.out) (Kd.R_base ho1) hb); have HO664 := Aside0.mk (Kd.R_lower (Kd.R_new' (Kd.R_new' ho2 (Kd.R_lt (rr HO645.out))) (Kd.R_lt (rr HO651.out))) (below_size (bs1 HB GE640))); replace HO645 := Aside0.mk (Kd.R_mono (Kd.R_told (Kd.R_told (Kd.R_old (rr HO645.out) hb) (Kd.R_base ho0)) (Kd.R_base ho2)) (fun _ h_ => h_.1)); replace HO651 := Aside0.mk (Kd.R_mono (Kd.R_told (Kd.R_told (Kd.R_old (rr HO651.out) hb) (Kd.R_base ho0)) (Kd.R_base ho2)) (fun _ h_ => h_.1)); replace BK640 := nb BK640 hb; replace HB := Aside0.mk (below_step (bs1 HB GE640) hb); (try clear hb); (try clear hb2); (try clear hk); (try clear hi); (try clear ho0); (try clear ho1); (try clear ho2)) | ((with_reducible refine gate_dst (N := 6) rfl ?_); refine box_event ?hg (N := 6) ?hd (cs := #[.slice none 0 0, .slice none 0 0, .slice none 0 0, .int .i64 0]) (t := 44) ?hr ?_; (case hd => rfl); (case hg => rfl); (case hr => first | (go_simp; done) | (go_simp; rfl)); intro gb667 hg w33 hbox hb; replace HO645 := nr HO645 hb; replace HO648 := nr HO648 hb; replace HO651 := nr HO651 hb; replace HO655 := nr HO655 hb; replace HO658 := nr HO658 hb; replace HO661 := nr HO661 hb; replace HO664 := nr HO664 hb; have BK667 := Aside0.mk (hbox); have GW667 := Aside0.mk ((by rw [hg]; exact (below_size (bs1 HB GE640)) : w.heap.size ≤ gb667)); have GE667 := Aside0.mk ((by rw [hg]; exact (below_size (bs1 HB GE640)) : w.heap.size ≤ gb667)); replace HB := Aside0.mk (below_step (bs1 HB GE640) hb); have NB640_667 := Aside0.mk ((bn BK640 hg : gb640 ≠ gb667)); have NB667_640 := Aside0.mk ((bm BK640 hg : gb667 ≠ gb640)); replace BK640 := nb BK640 hb; clear hb hbox hg; obtain ⟨Ao34, co34, eo34⟩ := Kd.R_slice HO658.out; subst eo34; have hnb35 := NB667_640.out; have hnc35 := NB640_667.out; obtain ⟨hcz36_0, hcz36_1, hcz36_2, hcz36_3⟩ := cz4 BK667; obtain ⟨hfz36_0, hfz36_1, hfz36_2, hfz36_3⟩ := fz4 BK667; obtain ⟨Ao37, co37, eo37⟩ := Kd.R_slice HO661.out; subst eo37; obtain ⟨Ao38, co38, eo38⟩ := Kd.R_slice HO664.out; subst eo38; obtain ⟨hcz39_0, hcz39_1, hcz39_2, hcz39_3⟩ := cz4 BK640; obtain ⟨hfz39_0, hfz39_1, hfz39_2, hfz39_3⟩ := fz4 BK640) | ((with_reducible refine gate_callee (f := 27) rfl ?_); refine gL (some 36) rfl rfl Try.func27 (by kernel_rfl) rfl #[.agg #[.slice A0_0 l0_0.length c0_0, .slice A0_1 l0_1.length c0_1, .slice A0_2 l0_2.length c0_2, .int .i64 a0_3]] rfl ?_; (with_reducible refine (laws_toStore.calls k _ _ l0_0 _ _ l0_1 _ _ l0_2 a0_3 t668 t671 t674 t677 _ ?side1 ?side2 ?side3 ?side4 ?side5 ?side6 A17.out).mono ?_); (case side1 => exact Kd.C_below HR0_0.out (bs2 HB GE640 GE667)); (case side2 => exact HC0_0.out); (case side3 => exact Kd.C_below HR0_1.out (bs2 HB GE640 GE667)); (case side4 => exact HC0_1.out); (case side5 => exact Kd.C_below HR0_2.out (bs2 HB GE640 GE667)); (case side6 => exact HC0_2.out); rintro e w40 ⟨v669, v672, v675, rfl, ho0, ho1, ho2, hb⟩; refine ⟨_, rfl, ?_⟩; have HO670 := Aside0.mk (Kd.R_lower (Kd.R_new' (Kd.R_new' (Kd.R_new' (Kd.R_new' ho0 (Kd.R_lt (rf HO645 BK667))) (Kd.R_lt (rf HO651 BK667))) (Kd.R_lt (rf HO658 BK667))) (Kd.R_lt (rf HO664 BK667))) (below_size (bs2 HB GE640 GE667))); have HO673 := Aside0.mk (Kd.R_lower (Kd.R_new' (Kd.R_new' (Kd.R_new' ho1 (Kd.R_lt (rf HO648 BK667))) (Kd.R_lt (rf HO655 BK667))) (Kd.R_lt (rf HO661 BK667))) (below_size (bs2 HB GE640 GE667))); replace HO648 := Aside0.mk (Kd.R_elder' (rf HO648 BK667) (Kd.R_base ho1) hb); replace HO655 := Aside0.mk (Kd.R_elder' (rf HO655 BK667) (Kd.R_base ho1) hb); replace HO661 := Aside0.mk (Kd.R_elder' (rf HO661 BK667) (Kd.R_base ho1) hb); have HO676 := Aside0.mk (Kd.R_lower (Kd.R_new' (Kd.R_new' (Kd.R_new' (Kd.R_new' ho2 (Kd.R_lt (rf HO645 BK667))) (Kd.R_lt (rf HO651 BK667))) (Kd.R_lt (rf HO658 BK667))) (Kd.R_lt (rf HO664 BK667))) (below_size (bs2 HB GE640 GE667))); replace HO645 := Aside0.mk (Kd.R_mono (Kd.R_told (Kd.R_told (Kd.R_old (rf HO645 BK667) hb) (Kd.R_base ho0)) (Kd.R_base ho2)) (fun _ h_ => h_.1)); replace HO651 := Aside0.mk (Kd.R_mono (Kd.R_told (Kd.R_told (Kd.R_old (rf HO651 BK667) hb) (Kd.R_base ho0)) (Kd.R_base ho2)) (fun _ h_ => h_.1)); replace HO658 := Aside0.mk (Kd.R_mono (Kd.R_told (Kd.R_told (Kd.R_old (rf HO658 BK667) hb) (Kd.R_base ho0)) (Kd.R_base ho2)) (fun _ h_ => h_.1)); replace HO664 := Aside0.mk (Kd.R_mono (Kd.R_told (Kd.R_told (Kd.R_old (rf HO664 BK667) hb) (Kd.R_base ho0)) (Kd.R_base ho2)) (fun _ h_ => h_.1)); replace BK640 := Aside0.mk (blk_below (bf BK640 NB640_667) hb); replace BK667 := Aside0.mk (blk_below (g := gb667) (o := .cells #[.slice Ao34 t656.length co34, .slice Ao37 t659.length co37, .slice Ao38 t662.length co38, .int .i64 t665] 44 (0, 0)) (by (with_reducible repeat (first | refine blk_drewN ?_ _ | refine blk_drew ?_ | refine blk_alloc ?_ _)); refine blk_put (cs := #[.slice Ao34 t656.length co34, .slice Ao37 t659.length co37, .slice Ao38 t662.length co38, .int .i64 0]) ?_ 3 _ rfl; (with_reducible repeat (first | refine blk_drewN ?_ _ | refine blk_drew ?_ | refine blk_alloc ?_ _)); refine blk_put (cs := #[.slice Ao34 t656.length co34, .slice Ao37 t659.length co37, .slice none 0 0, .int .i64 0]) ?_ 2 _ rfl; (with_reducible repeat (first | refine blk_drewN ?_ _ | refine blk_drew ?_ | refine blk_alloc ?_ _)); refine blk_put (cs := #[.slice Ao34 t656.length co34, .slice none 0 0, .slice none 0 0, .int .i64 0]) ?_ 1 _ rfl; (with_reducible repeat (first | refine blk_drewN ?_ _ | refine blk_drew ?_ | refine blk_alloc ?_ _)); refine blk_put (cs := #[.slice none 0 0, .slice none 0 0, .slice none 0 0, .int .i64 0]) ?_ 0 _ rfl; (with_reducible repeat (first | refine blk_drewN ?_ _ | refine blk_drew ?_ | refine blk_alloc ?_ _)); exact BK667.out) hb); replace HB := Aside0.mk (below_step (bs2 HB GE640 GE667) hb); (try clear hb); (try clear hb2); (try clear hk); (try clear hi); (try clear ho0); (try clear ho1); (try clear ho2)) | ((with_reducible refine gate_dst (N := 8) rfl ?_); refine box_event ?hg (N := 8) ?hd (cs := #[.slice none 0 0, .slice none 0 0, .slice none 0 0, .int .i64 0]) (t := 44) ?hr ?_; (case hd => rfl); (case hg => rfl); (case hr => first | (go_simp; done) | (go_simp; rfl)); intro gb678 hg w41 hbox hb; replace HO645 := nr HO645 hb; replace HO648 := nr HO648 hb; replace HO651 := nr HO651 hb; replace HO655 := nr HO655 hb; replace HO658 := nr HO658 hb; replace HO661 := nr HO661 hb; replace HO664 := nr HO664 hb; replace HO670 := nr HO670 hb; replace HO673 := nr HO673 hb; replace HO676 := nr HO676 hb; have BK678 := Aside0.mk (hbox); have GW678 := Aside0.mk ((by rw [hg]; exact (below_size (bs2 HB GE640 GE667)) : w.heap.size ≤ gb678)); have GE678 := Aside0.mk ((by rw [hg]; exact (below_size (bs2 HB GE640 GE667)) : w.heap.size ≤ gb678)); replace HB := Aside0.mk (below_step (bs2 HB GE640 GE667) hb); have NB640_678 := Aside0.mk ((bn BK640 hg : gb640 ≠ gb678)); have NB678_640 := Aside0.mk ((bm BK640 hg : gb678 ≠ gb640)); replace BK640 := nb BK640 hb; have NB667_678 := Aside0.mk ((bn BK667 hg : gb667 ≠ gb678)); have NB678_667 := Aside0.mk ((bm BK667 hg : gb678 ≠ gb667)); replace BK667 := nb BK667 hb; clear hb hbox hg; obtain ⟨Ao42, co42, eo42⟩ := Kd.R_slice HO670.out; subst eo42; have hnb43 := NB678_640.out; have hnc43 := NB640_678.out; have hnb44 := NB678_667.out; have hnc44 := NB667_678.out; obtain ⟨hcz45_0, hcz45_1, hcz45_2, hcz45_3⟩ := cz4 BK678; obtain ⟨hfz45_0, hfz45_1, hfz45_2, hfz45_3⟩ := fz4 BK678; obtain ⟨Ao46, co46, eo46⟩ := Kd.R_slice HO673.out; subst eo46; obtain ⟨Ao47, co47, eo47⟩ := Kd.R_slice HO676.out; subst eo47) | ((with_reducible refine gate_callee (f := 18) rfl ?_); refine gL (some 38) rfl rfl Try.func18 (by kernel_rfl) rfl #[.slice A1 l1.length c1] rfl ?_; (with_reducible refine (laws_toWriteS.calls k _ _ l1 t679 _ ?side1 ?side2 A18.out).mono ?_); (case side1 => exact Kd.C_below HR1.out (bs3 HB GE640 GE667 GE678)); (case side2 => exact HC1.out); rintro e w48 ⟨v680, rfl, ho0, hb⟩; refine ⟨_, rfl, ?_⟩; replace HO645 := nf HO645 BK678 hb; replace HO651 := nf HO651 BK678 hb; replace HO658 := nf HO658 BK678 hb; replace HO664 := nf HO664 BK678 hb; replace HO670 := nf HO670 BK678 hb; replace HO676 := nf HO676 BK678 hb; have HO681 := Aside0.mk (Kd.R_lower (Kd.R_new' (Kd.R_new' (Kd.R_new' (Kd.R_new' ho0 (Kd.R_lt (rf HO648 BK678))) (Kd.R_lt (rf HO655 BK678))) (Kd.R_lt (rf HO661 BK678))) (Kd.R_lt (rf HO673 BK678))) (below_size (bs3 HB GE640 GE667 GE678))); replace HO648 := Aside0.mk (Kd.R_elder' (rf HO648 BK678) (Kd.R_base ho0) hb); replace HO655 := Aside0.mk (Kd.R_elder' (rf HO655 BK678) (Kd.R_base ho0) hb); replace HO661 := Aside0.mk (Kd.R_elder' (rf HO661 BK678) (Kd.R_base ho0) hb); replace HO673 := Aside0.mk (Kd.R_elder' (rf HO673 BK678) (Kd.R_base ho0) hb); replace BK640 := Aside0.mk (blk_below (bf BK640 NB640_678) hb); replace BK667 := Aside0.mk (blk_below (bf BK667 NB667_678) hb); replace BK678 := Aside0.mk (blk_below (g := gb678) (o := .cells #[.slice Ao42 t668.length co42, .slice Ao46 t671.length co46, .slice Ao47 t674.length co47, .int .i64 t677] 44 (0, 0)) (by (with_reducible repeat (first | refine blk_drewN ?_ _ | refine blk_drew ?_ | refine blk_alloc ?_ _)); refine blk_put (cs := #[.slice Ao42 t668.length co42, .slice Ao46 t671.length co46, .slice Ao47 t674.length co47, .int .i64 0]) ?_ 3 _ rfl; (with_reducible repeat (first | refine blk_drewN ?_ _ | refine blk_drew ?_ | refine blk_alloc ?_ _)); refine blk_put (cs := #[.slice Ao42 t668.length co42, .slice Ao46 t671.length co46, .slice none 0 0, .int .i64 0]) ?_ 2 _ rfl; (with_reducible repeat (first | refine blk_drewN ?_ _ | refine blk_drew ?_ | refine blk_alloc ?_ _)); refine blk_put (cs := #[.slice Ao42 t668.length co42, .slice none 0 0, .slice none 0 0, .int .i64 0]) ?_ 1 _ rfl; (with_reducible repeat (first | refine blk_drewN ?_ _ | refine blk_drew ?_ | refine blk_alloc ?_ _)); refine blk_put (cs := #[.slice none 0 0, .slice none 0 0, .slice none 0 0, .int .i64 0]) ?_ 0 _ rfl; (with_reducible repeat (first | refine blk_drewN ?_ _ | refine blk_drew ?_ | refine blk_alloc ?_ _)); exact BK678.out) hb); replace HB := Aside0.mk (below_step (bs3 HB GE640 GE667 GE678) hb); (try clear hb); (try clear hb2); (try clear hk); (try clear hi); (try clear ho0); obtain ⟨hcz49_0, hcz49_1, hcz49_2, hcz49_3⟩ := cz4 BK678; obtain ⟨hfz49_0, hfz49_1, hfz49_2, hfz49_3⟩ := fz4 BK678; obtain ⟨Ao50, co50, eo50⟩ := Kd.R_slice HO681.out; subst eo50) | ((with_reducible refine gate_callee (f := 40) rfl ?_); refine gL (some 42) rfl rfl Try.func40 (by kernel_rfl) rfl #[.agg #[.slice Ao42 t668.length co42, .slice Ao46 t671.length co46, .slice Ao47 t674.length co47, .int .i64 t677], .slice Ao50 t679.length co50] rfl ?_; (with_reducible refine (impl_Commit.calls k _ _ t668 _ _ t671 _ _ t674 t677 _ _ t679 t682 t685 t688 t691 t692 _ ?side1 ?side2 ?side3 ?side4 ?side5 ?side6 ?side7 ?side8 A19.out).mono ?_); (case side1 => exact rc0 HO670); (case side2 => exact (Kd.R_reads' HO670.out).2.1); (case side3 => exact rc0 HO673); (case side4 => exact (Kd.R_reads' HO673.out).2.1); (case side5 => exact rc0 HO676); (case side6 => exact (Kd.R_reads' HO676.out).2.1); (case side7 => exact rc0 HO681); (case side8 => exact (Kd.R_reads' HO681.out).2.1); rintro e w51 ⟨v683, v686, v689, rfl, ho0, ho1, ho2, hb⟩; refine ⟨_, rfl, ?_⟩; have HO684 := Aside0.mk (Kd.R_lower (Kd.R_new' (Kd.R_new' (Kd.R_new' (Kd.R_new' (Kd.R_new' (Kd.R_new' ho0 (Kd.R_lt (rr HO645.out))) (Kd.R_lt (rr HO651.out))) (Kd.R_lt (rr HO658.out))) (Kd.R_lt (rr HO664.out))) (Kd.R_lt (rr HO670.out))) (Kd.R_lt (rr HO676.out))) (below_size (bs3 HB GE640 GE667 GE678))); have HO687 := Aside0.mk (Kd.R_lower (Kd.R_new' (Kd.R_new' (Kd.R_new' (Kd.R_new' (Kd.R_new' ho1 (Kd.R_lt (rr HO648.out))) (Kd.R_lt (rr HO655.out))) (Kd.R_lt (rr HO661.out))) (Kd.R_lt (rr HO673.out))) (Kd.R_lt (rr HO681.out))) (below_size (bs3 HB GE640 GE667 GE678))); replace HO648 := Aside0.mk (Kd.R_elder' (rr HO648.out) (Kd.R_base ho1) hb); replace HO655 := Aside0.mk (Kd.R_elder' (rr HO655.out) (Kd.R_base ho1) hb); replace HO661 := Aside0.mk (Kd.R_elder' (rr HO661.out) (Kd.R_base ho1) hb); replace HO673 := Aside0.mk (Kd.R_elder' (rr HO673.out) (Kd.R_base ho1) hb); replace HO681 := Aside0.mk (Kd.R_elder' (rr HO681.out) (Kd.R_base ho1) hb); have HO690 := Aside0.mk (Kd.R_lower (Kd.R_new' (Kd.R_new' (Kd.R_new' (Kd.R_new' (Kd.R_new' (Kd.R_new' ho2 (Kd.R_lt (rr HO645.out))) (Kd.R_lt (rr HO651.out))) (Kd.R_lt (rr HO658.out))) (Kd.R_lt (rr HO664.out))) (Kd.R_lt (rr HO670.out))) (Kd.R_lt (rr HO676.out))) (below_size (bs3 HB GE640 GE667 GE678))); replace HO645 := Aside0.mk (Kd.R_mono (Kd.R_told (Kd.R_told (Kd.R_old (rr HO645.out) hb) (Kd.R_base ho0)) (Kd.R_base ho2)) (fun _ h_ => h_.1)); replace HO651 := Aside0.mk (Kd.R_mono (Kd.R_told (Kd.R_told (Kd.R_old (rr HO651.out) hb) (Kd.R_base ho0)) (Kd.R_base ho2)) (fun _ h_ => h_.1)); replace HO658 := Aside0.mk (Kd.R_mono (Kd.R_told (Kd.R_told (Kd.R_old (rr HO658.out) hb) (Kd.R_base ho0)) (Kd.R_base ho2)) (fun _ h_ => h_.1)); replace HO664 := Aside0.mk (Kd.R_mono (Kd.R_told (Kd.R_told (Kd.R_old (rr HO664.out) hb) (Kd.R_base ho0)) (Kd.R_base ho2)) (fun _ h_ => h_.1)); replace HO670 := Aside0.mk (Kd.R_mono (Kd.R_told (Kd.R_told (Kd.R_old (rr HO670.out) hb) (Kd.R_base ho0)) (Kd.R_base ho2)) (fun _ h_ => h_.1)); replace HO676 := Aside0.mk (Kd.R_mono (Kd.R_told (Kd.R_told (Kd.R_old (rr HO676.out) hb) (Kd.R_base ho0)) (Kd.R_base ho2)) (fun _ h_ => h_.1)); replace BK640 := nb BK640 hb; replace BK667 := nb BK667 hb; replace BK678 := nb BK678 hb; replace HB := Aside0.mk (below_step (bs3 HB GE640 GE667 GE678) hb); (try clear hb); (try clear hb2); (try clear hk); (try clear hi); (try clear ho0); (try clear ho1); (try clear ho2)) | ((with_reducible refine gate_dst (N := 10) rfl ?_); refine box_event ?hg (N := 10) ?hd (cs := #[.slice none 0 0, .slice none 0 0, .slice none 0 0, .int .i64 0]) (t := 44) ?hr ?_; (case hd => rfl); (case hg => rfl); (case hr => first | (go_simp; done) | (go_simp; rfl)); intro gb693 hg w52 hbox hb; replace HO645 := nr HO645 hb; replace HO648 := nr HO648 hb; replace HO651 := nr HO651 hb; replace HO655 := nr HO655 hb; replace HO658 := nr HO658 hb; replace HO661 := nr HO661 hb; replace HO664 := nr HO664 hb; replace HO670 := nr HO670 hb; replace HO673 := nr HO673 hb; replace HO676 := nr HO676 hb; replace HO681 := nr HO681 hb; replace HO684 := nr HO684 hb; replace HO687 := nr HO687 hb; replace HO690 := nr HO690 hb; have BK693 := Aside0.mk (hbox); have GW693 := Aside0.mk ((by rw [hg]; exact (below_size (bs3 HB GE640 GE667 GE678)) : w.heap.size ≤ gb693)); have GE693 := Aside0.mk ((by rw [hg]; exact (below_size (bs3 HB GE640 GE667 GE678)) : w.heap.size ≤ gb693)); replace HB := Aside0.mk (below_step (bs3 HB GE640 GE667 GE678) hb); have NB640_693 := Aside0.mk ((bn BK640 hg : gb640 ≠ gb693)); have NB693_640 := Aside0.mk ((bm BK640 hg : gb693 ≠ gb640)); replace BK640 := nb BK640 hb; have NB667_693 := Aside0.mk ((bn BK667 hg : gb667 ≠ gb693)); have NB693_667 := Aside0.mk ((bm BK667 hg : gb693 ≠ gb667)); replace BK667 := nb BK667 hb; have NB678_693 := Aside0.mk ((bn BK678 hg : gb678 ≠ gb693)); have NB693_678 := Aside0.mk ((bm BK678 hg : gb693 ≠ gb678)); replace BK678 := nb BK678 hb; clear hb hbox hg; obtain ⟨Ao53, co53, eo53⟩ := Kd.R_slice HO684.out; subst eo53; have hnb54 := NB693_640.out; have hnc54 := NB640_693.out; have hnb55 := NB693_667.out; have hnc55 := NB667_693.out; have hnb56 := NB693_678.out; have hnc56 := NB678_693.out; obtain ⟨hcz57_0, hcz57_1, hcz57_2, hcz57_3⟩ := cz4 BK693; obtain ⟨hfz57_0, hfz57_1, hfz57_2, hfz57_3⟩ := fz4 BK693; obtain ⟨Ao58, co58, eo58⟩ := Kd.R_slice HO687.out; subst eo58; obtain ⟨Ao59, co59, eo59⟩ := Kd.R_slice HO690.out; subst eo59))
   (try simp only [Act.put, List.setIfInBounds_toArray, List.set_cons_zero, List.set_cons_succ])
   go_cut [53] (fun v53 wc => ∃ (kq : Nat) (x53_19 : Bool), v53 = .bool x53_19 ∧ Aside0 (laws_FnExactCommit.j0 kq l1 t666 t679 t692 x53_19 l0_0 l0_1 l0_2 a0_3 t656 t659 t662 t665 t668 t671 t674 t677 t682 t685 t688 t691 = some r) ∧ Aside0 (kq ≤ k) ∧ Aside0 (Kd.R k72 72 wc w.heap.size (fun k_ => some k_ ≠ ((.slice Ao37 t659.length co37) : Value).ownBlock ∧ some k_ ≠ ((.slice Ao46 t671.length co46) : Value).ownBlock ∧ some k_ ≠ ((.slice Ao58 t685.length co58) : Value).ownBlock) (.slice Ao50 t679.length co50) t679) ∧ Aside0 (Kd.R Kd.string 9 wc w.heap.size (fun k_ => some k_ ≠ ((.slice Ao38 t662.length co38) : Value).ownBlock ∧ some k_ ≠ ((.slice Ao42 t668.length co42) : Value).ownBlock ∧ some k_ ≠ ((.slice Ao47 t674.length co47) : Value).ownBlock ∧ some k_ ≠ ((.slice Ao53 t682.length co53) : Value).ownBlock ∧ some k_ ≠ ((.slice Ao59 t688.length co59) : Value).ownBlock) (.slice Ao34 t656.length co34) t656) ∧ Aside0 (Kd.R k72 72 wc w.heap.size (fun k_ => some k_ ≠ ((.slice Ao50 t679.length co50) : Value).ownBlock ∧ some k_ ≠ ((.slice Ao46 t671.length co46) : Value).ownBlock ∧ some k_ ≠ ((.slice Ao58 t685.length co58) : Value).ownBlock) (.slice Ao37 t659.length co37) t659) ∧ Aside0 (Kd.R Kd.string 9 wc w.heap.size (fun k_ => some k_ ≠ ((.slice Ao34 t656.length co34) : Value).ownBlock ∧ some k_ ≠ ((.slice Ao42 t668.length co42) : Value).ownBlock ∧ some k_ ≠ ((.slice Ao47 t674.length co47) : Value).ownBlock ∧ some k_ ≠ ((.slice Ao53 t682.length co53) : Value).ownBlock ∧ some k_ ≠ ((.slice Ao59 t688.length co59) : Value).ownBlock) (.slice Ao38 t662.length co38) t662) ∧ Aside0 (Kd.R Kd.string 9 wc w.heap.size (fun k_ => some k_ ≠ ((.slice Ao34 t656.length co34) : Value).ownBlock ∧ some k_ ≠ ((.slice Ao38 t662.length co38) : Value).ownBlock ∧ some k_ ≠ ((.slice Ao47 t674.length co47) : Value).ownBlock ∧ some k_ ≠ ((.slice Ao53 t682.length co53) : Value).ownBlock ∧ some k_ ≠ ((.slice Ao59 t688.length co59) : Value).ownBlock) (.slice Ao42 t668.length co42) t668) ∧ Aside0 (Kd.R k72 72 wc w.heap.size (fun k_ => some k_ ≠ ((.slice Ao50 t679.length co50) : Value).ownBlock ∧ some k_ ≠ ((.slice Ao37 t659.length co37) : Value).ownBlock ∧ some k_ ≠ ((.slice Ao58 t685.length co58) : Value).ownBlock) (.slice Ao46 t671.length co46) t671) ∧ Aside0 (Kd.R Kd.string 9 wc w.heap.size (fun k_ => some k_ ≠ ((.slice Ao34 t656.length co34) : Value).ownBlock ∧ some k_ ≠ ((.slice Ao38 t662.length co38) : Value).ownBlock ∧ some k_ ≠ ((.slice Ao42 t668.length co42) : Value).ownBlock ∧ some k_ ≠ ((.slice Ao53 t682.length co53) : Value).ownBlock ∧ some k_ ≠ ((.slice Ao59 t688.length co59) : Value).ownBlock) (.slice Ao47 t674.length co47) t674) ∧ Aside0 (Kd.R Kd.string 9 wc w.heap.size (fun k_ => some k_ ≠ ((.slice Ao34 t656.length co34) : Value).ownBlock ∧ some k_ ≠ ((.slice Ao38 t662.length co38) : Value).ownBlock ∧ some k_ ≠ ((.slice Ao42 t668.length co42) : Value).ownBlock ∧ some k_ ≠ ((.slice Ao47 t674.length co47) : Value).ownBlock ∧ some k_ ≠ ((.slice Ao59 t688.length co59) : Value).ownBlock) (.slice Ao53 t682.length co53) t682) ∧ Aside0 (Kd.R k72 72 wc w.heap.size (fun k_ => some k_ ≠ ((.slice Ao50 t679.length co50) : Value).ownBlock ∧ some k_ ≠ ((.slice Ao37 t659.length co37) : Value).ownBlock ∧ some k_ ≠ ((.slice Ao46 t671.length co46) : Value).ownBlock) (.slice Ao58 t685.length co58) t685) ∧ Aside0 (Kd.R Kd.string 9 wc w.heap.size (fun k_ => some k_ ≠ ((.slice Ao34 t656.length co34) : Value).ownBlock ∧ some k_ ≠ ((.slice Ao38 t662.length co38) : Value).ownBlock ∧ some k_ ≠ ((.slice Ao42 t668.length co42) : Value).ownBlock ∧ some k_ ≠ ((.slice Ao47 t674.length co47) : Value).ownBlock ∧ some k_ ≠ ((.slice Ao53 t682.length co53) : Value).ownBlock) (.slice Ao59 t688.length co59) t688) ∧ Aside0 (wc.heap[gb640]? = some (.cells #[(.slice A0_0 l0_0.length c0_0), (.slice A0_1 l0_1.length c0_1), (.slice A0_2 l0_2.length c0_2), .int .i64 a0_3] 38 (0, 0))) ∧ Aside0 (wc.heap[gb667]? = some (.cells #[(.slice Ao34 t656.length co34), (.slice Ao37 t659.length co37), (.slice Ao38 t662.length co38), .int .i64 t665] 44 (0, 0))) ∧ Aside0 (wc.heap[gb678]? = some (.cells #[(.slice Ao42 t668.length co42), (.slice Ao46 t671.length co46), (.slice Ao47 t674.length co47), .int .i64 t677] 44 (0, 0))) ∧ Aside0 (wc.heap[gb693]? = some (.cells #[(.slice Ao53 t682.length co53), (.slice Ao58 t685.length co58), (.slice Ao59 t688.length co59), .int .i64 t691] 44 (0, 0))) ∧ Aside0 (Below w.heap.size w wc))
   case first =>
    have H := HC20.out
    clear HC20
    replace H := Option.bind_eq_some_iff.mp H
    obtain ⟨t694, A600, H⟩ := H
    replace H : (if t694 = true then (laws_FnExactCommit.j0 k l1 t666 t679 t692 (t692 != t666) l0_0 l0_1 l0_2 a0_3 t656 t659 t662 t665 t668 t671 t674 t677 t682 t685 t688 t691) else (laws_FnExactCommit.j0 k l1 t666 t679 t692 true l0_0 l0_1 l0_2 a0_3 t656 t659 t662 t665 t668 t671 t674 t677 t682 t685 t688 t691)) = some r := H
    have A60 := Aside0.mk A600
    clear A600
    by_cases c61 : t694 = true
    ·
     subst c61
     rw [if_pos rfl] at H
     have H' := Aside0.mk H
     clear H
     have hnb62 := NB693_640.out
     have hnc62 := NB640_693.out
     have hnb63 := NB693_667.out
     have hnc63 := NB667_693.out
     have hnb64 := NB693_678.out
     have hnc64 := NB678_693.out
     obtain ⟨hcz65_0, hcz65_1, hcz65_2, hcz65_3⟩ := cz4 BK693
     obtain ⟨hfz65_0, hfz65_1, hfz65_2, hfz65_3⟩ := fz4 BK693
     have hnb66 := NB667_640.out
     have hnc66 := NB640_667.out
     have hnb67 := NB667_678.out
     have hnc67 := NB678_667.out
     obtain ⟨hcz68_0, hcz68_1, hcz68_2, hcz68_3⟩ := cz4 BK667
     obtain ⟨hfz68_0, hfz68_1, hfz68_2, hfz68_3⟩ := fz4 BK667
     go_wp2_with (first | ((with_reducible refine gate_callee (f := 29) rfl ?_); refine gL (some 47) rfl rfl Try.func29 (by kernel_rfl) rfl #[.agg #[.slice Ao53 t682.length co53, .slice Ao58 t685.length co58, .slice Ao59 t688.length co59, .int .i64 t691], .agg #[.slice Ao34 t656.length co34, .slice Ao37 t659.length co37, .slice Ao38 t662.length co38, .int .i64 t665]] rfl ?_; (with_reducible refine (laws_eqStore.calls k _ _ t682 _ _ t685 _ _ t688 t691 _ _ t656 _ _ t659 _ _ t662 t665 true _ ?side1 ?side2 ?side3 ?side4 ?side5 ?side6 ?side7 ?side8 ?side9 ?side10 ?side11 ?side12 A60.out).mono ?_); (case side1 => exact rc HO684 BK693); (case side2 => exact (Kd.R_reads' HO684.out).2.1); (case side3 => exact rc HO687 BK693); (case side4 => exact (Kd.R_reads' HO687.out).2.1); (case side5 => exact rc HO690 BK693); (case side6 => exact (Kd.R_reads' HO690.out).2.1); (case side7 => exact rc HO658 BK693); (case side8 => exact (Kd.R_reads' HO658.out).2.1); (case side9 => exact rc HO661 BK693); (case side10 => exact (Kd.R_reads' HO661.out).2.1); (case side11 => exact rc HO664 BK693); (case side12 => exact (Kd.R_reads' HO664.out).2.1); rintro e w69 ⟨rfl, hb⟩; refine ⟨_, rfl, ?_⟩; replace HO645 := nf HO645 BK693 hb; replace HO648 := nf HO648 BK693 hb; replace HO651 := nf HO651 BK693 hb; replace HO655 := nf HO655 BK693 hb; replace HO658 := nf HO658 BK693 hb; replace HO661 := nf HO661 BK693 hb; replace HO664 := nf HO664 BK693 hb; replace HO670 := nf HO670 BK693 hb; replace HO673 := nf HO673 BK693 hb; replace HO676 := nf HO676 BK693 hb; replace HO681 := nf HO681 BK693 hb; replace HO684 := nf HO684 BK693 hb; replace HO687 := nf HO687 BK693 hb; replace HO690 := nf HO690 BK693 hb; replace BK640 := Aside0.mk (blk_below (bf BK640 NB640_693) hb); replace BK667 := Aside0.mk (blk_below (bf BK667 NB667_693) hb); replace BK678 := Aside0.mk (blk_below (bf BK678 NB678_693) hb); replace BK693 := Aside0.mk (blk_below (g := gb693) (o := .cells #[.slice Ao53 t682.length co53, .slice Ao58 t685.length co58, .slice Ao59 t688.length co59, .int .i64 t691] 44 (0, 0)) (by (with_reducible repeat (first | refine blk_drewN ?_ _ | refine blk_drew ?_ | refine blk_alloc ?_ _)); refine blk_put (cs := #[.slice Ao53 t682.length co53, .slice Ao58 t685.length co58, .slice Ao59 t688.length co59, .int .i64 0]) ?_ 3 _ rfl; (with_reducible repeat (first | refine blk_drewN ?_ _ | refine blk_drew ?_ | refine blk_alloc ?_ _)); refine blk_put (cs := #[.slice Ao53 t682.length co53, .slice Ao58 t685.length co58, .slice none 0 0, .int .i64 0]) ?_ 2 _ rfl; (with_reducible repeat (first | refine blk_drewN ?_ _ | refine blk_drew ?_ | refine blk_alloc ?_ _)); refine blk_put (cs := #[.slice Ao53 t682.length co53, .slice none 0 0, .slice none 0 0, .int .i64 0]) ?_ 1 _ rfl; (with_reducible repeat (first | refine blk_drewN ?_ _ | refine blk_drew ?_ | refine blk_alloc ?_ _)); refine blk_put (cs := #[.slice none 0 0, .slice none 0 0, .slice none 0 0, .int .i64 0]) ?_ 0 _ rfl; (with_reducible repeat (first | refine blk_drewN ?_ _ | refine blk_drew ?_ | refine blk_alloc ?_ _)); exact BK693.out) hb); replace HB := Aside0.mk (below_step (bs4 HB GE640 GE667 GE678 GE693) hb); (try clear hb); (try clear hb2); (try clear hk); (try clear hi)))
     go_meet
     case rel => exact ⟨_, ((t692 != t666)), (by first | rfl | (simp; done) | (simp [*]; done)), H', ⟨by first | omega | exact Nat.le_refl _⟩, rm HO681 (fun _ hk => ⟨hk.1.1.2, ⟨hk.1.2, hk.2⟩⟩), rm HO658 (fun _ hk => ⟨hk.1.1.1.1.1.1, ⟨hk.1.1.1.2, ⟨hk.1.1.2, ⟨hk.1.2, hk.2⟩⟩⟩⟩), rm HO661 (fun _ hk => ⟨hk.1.2, ⟨hk.1.1.2, hk.2⟩⟩), rm HO664 (fun _ hk => ⟨hk.1.1.1.1.1.1, ⟨hk.1.1.1.2, ⟨hk.1.1.2, ⟨hk.1.2, hk.2⟩⟩⟩⟩), rm HO670 (fun _ hk => ⟨hk.1.1.1.2, ⟨hk.1.1.2, ⟨hk.1.1.1.1.1.1, ⟨hk.1.2, hk.2⟩⟩⟩⟩), rm HO673 (fun _ hk => ⟨hk.1.2, ⟨hk.1.1.2, hk.2⟩⟩), rm HO676 (fun _ hk => ⟨hk.1.1.1.2, ⟨hk.1.1.2, ⟨hk.1.1.1.1.1.1, ⟨hk.1.2, hk.2⟩⟩⟩⟩), rm HO684 (fun _ hk => ⟨hk.1.1.1.2, ⟨hk.1.1.2, ⟨hk.1.2, ⟨hk.2, hk.1.1.1.1.1.1⟩⟩⟩⟩), rm HO687 (fun _ hk => ⟨hk.2, ⟨hk.1.1.2, hk.1.2⟩⟩), rm HO690 (fun _ hk => ⟨hk.1.1.1.2, ⟨hk.1.1.2, ⟨hk.1.2, ⟨hk.2, hk.1.1.1.1.1.1⟩⟩⟩⟩), ⟨bk BK640⟩, ⟨bk BK667⟩, ⟨bk BK678⟩, ⟨bk BK693⟩, ⟨bs4 HB GE640 GE667 GE678 GE693⟩⟩
    ·
     replace c61 := Bool.eq_false_iff.mpr c61
     subst c61
     rw [if_neg (show ¬ (false = true) by decide)] at H
     have H' := Aside0.mk H
     clear H
     have hnb70 := NB693_640.out
     have hnc70 := NB640_693.out
     have hnb71 := NB693_667.out
     have hnc71 := NB667_693.out
     have hnb72 := NB693_678.out
     have hnc72 := NB678_693.out
     obtain ⟨hcz73_0, hcz73_1, hcz73_2, hcz73_3⟩ := cz4 BK693
     obtain ⟨hfz73_0, hfz73_1, hfz73_2, hfz73_3⟩ := fz4 BK693
     have hnb74 := NB667_640.out
     have hnc74 := NB640_667.out
     have hnb75 := NB667_678.out
     have hnc75 := NB678_667.out
     obtain ⟨hcz76_0, hcz76_1, hcz76_2, hcz76_3⟩ := cz4 BK667
     obtain ⟨hfz76_0, hfz76_1, hfz76_2, hfz76_3⟩ := fz4 BK667
     go_wp2_with (first | ((with_reducible refine gate_callee (f := 29) rfl ?_); refine gL (some 47) rfl rfl Try.func29 (by kernel_rfl) rfl #[.agg #[.slice Ao53 t682.length co53, .slice Ao58 t685.length co58, .slice Ao59 t688.length co59, .int .i64 t691], .agg #[.slice Ao34 t656.length co34, .slice Ao37 t659.length co37, .slice Ao38 t662.length co38, .int .i64 t665]] rfl ?_; (with_reducible refine (laws_eqStore.calls k _ _ t682 _ _ t685 _ _ t688 t691 _ _ t656 _ _ t659 _ _ t662 t665 false _ ?side1 ?side2 ?side3 ?side4 ?side5 ?side6 ?side7 ?side8 ?side9 ?side10 ?side11 ?side12 A60.out).mono ?_); (case side1 => exact rc HO684 BK693); (case side2 => exact (Kd.R_reads' HO684.out).2.1); (case side3 => exact rc HO687 BK693); (case side4 => exact (Kd.R_reads' HO687.out).2.1); (case side5 => exact rc HO690 BK693); (case side6 => exact (Kd.R_reads' HO690.out).2.1); (case side7 => exact rc HO658 BK693); (case side8 => exact (Kd.R_reads' HO658.out).2.1); (case side9 => exact rc HO661 BK693); (case side10 => exact (Kd.R_reads' HO661.out).2.1); (case side11 => exact rc HO664 BK693); (case side12 => exact (Kd.R_reads' HO664.out).2.1); rintro e w77 ⟨rfl, hb⟩; refine ⟨_, rfl, ?_⟩; replace HO645 := nf HO645 BK693 hb; replace HO648 := nf HO648 BK693 hb; replace HO651 := nf HO651 BK693 hb; replace HO655 := nf HO655 BK693 hb; replace HO658 := nf HO658 BK693 hb; replace HO661 := nf HO661 BK693 hb; replace HO664 := nf HO664 BK693 hb; replace HO670 := nf HO670 BK693 hb; replace HO673 := nf HO673 BK693 hb; replace HO676 := nf HO676 BK693 hb; replace HO681 := nf HO681 BK693 hb; replace HO684 := nf HO684 BK693 hb; replace HO687 := nf HO687 BK693 hb; replace HO690 := nf HO690 BK693 hb; replace BK640 := Aside0.mk (blk_below (bf BK640 NB640_693) hb); replace BK667 := Aside0.mk (blk_below (bf BK667 NB667_693) hb); replace BK678 := Aside0.mk (blk_below (bf BK678 NB678_693) hb); replace BK693 := Aside0.mk (blk_below (g := gb693) (o := .cells #[.slice Ao53 t682.length co53, .slice Ao58 t685.length co58, .slice Ao59 t688.length co59, .int .i64 t691] 44 (0, 0)) (by (with_reducible repeat (first | refine blk_drewN ?_ _ | refine blk_drew ?_ | refine blk_alloc ?_ _)); refine blk_put (cs := #[.slice Ao53 t682.length co53, .slice Ao58 t685.length co58, .slice Ao59 t688.length co59, .int .i64 0]) ?_ 3 _ rfl; (with_reducible repeat (first | refine blk_drewN ?_ _ | refine blk_drew ?_ | refine blk_alloc ?_ _)); refine blk_put (cs := #[.slice Ao53 t682.length co53, .slice Ao58 t685.length co58, .slice none 0 0, .int .i64 0]) ?_ 2 _ rfl; (with_reducible repeat (first | refine blk_drewN ?_ _ | refine blk_drew ?_ | refine blk_alloc ?_ _)); refine blk_put (cs := #[.slice Ao53 t682.length co53, .slice none 0 0, .slice none 0 0, .int .i64 0]) ?_ 1 _ rfl; (with_reducible repeat (first | refine blk_drewN ?_ _ | refine blk_drew ?_ | refine blk_alloc ?_ _)); refine blk_put (cs := #[.slice none 0 0, .slice none 0 0, .slice none 0 0, .int .i64 0]) ?_ 0 _ rfl; (with_reducible repeat (first | refine blk_drewN ?_ _ | refine blk_drew ?_ | refine blk_alloc ?_ _)); exact BK693.out) hb); replace HB := Aside0.mk (below_step (bs4 HB GE640 GE667 GE678 GE693) hb); (try clear hb); (try clear hb2); (try clear hk); (try clear hi)))
     go_meet
     case rel => exact ⟨_, (true), (by first | rfl | (simp; done) | (simp [*]; done)), H', ⟨by first | omega | exact Nat.le_refl _⟩, rm HO681 (fun _ hk => ⟨hk.1.1.2, ⟨hk.1.2, hk.2⟩⟩), rm HO658 (fun _ hk => ⟨hk.1.1.1.1.1.1, ⟨hk.1.1.1.2, ⟨hk.1.1.2, ⟨hk.1.2, hk.2⟩⟩⟩⟩), rm HO661 (fun _ hk => ⟨hk.1.2, ⟨hk.1.1.2, hk.2⟩⟩), rm HO664 (fun _ hk => ⟨hk.1.1.1.1.1.1, ⟨hk.1.1.1.2, ⟨hk.1.1.2, ⟨hk.1.2, hk.2⟩⟩⟩⟩), rm HO670 (fun _ hk => ⟨hk.1.1.1.2, ⟨hk.1.1.2, ⟨hk.1.1.1.1.1.1, ⟨hk.1.2, hk.2⟩⟩⟩⟩), rm HO673 (fun _ hk => ⟨hk.1.2, ⟨hk.1.1.2, hk.2⟩⟩), rm HO676 (fun _ hk => ⟨hk.1.1.1.2, ⟨hk.1.1.2, ⟨hk.1.1.1.1.1.1, ⟨hk.1.2, hk.2⟩⟩⟩⟩), rm HO684 (fun _ hk => ⟨hk.1.1.1.2, ⟨hk.1.1.2, ⟨hk.1.2, ⟨hk.2, hk.1.1.1.1.1.1⟩⟩⟩⟩), rm HO687 (fun _ hk => ⟨hk.2, ⟨hk.1.1.2, hk.1.2⟩⟩), rm HO690 (fun _ hk => ⟨hk.1.1.1.2, ⟨hk.1.1.2, ⟨hk.1.2, ⟨hk.2, hk.1.1.1.1.1.1⟩⟩⟩⟩), ⟨bk BK640⟩, ⟨bk BK667⟩, ⟨bk BK678⟩, ⟨bk BK693⟩, ⟨bs4 HB GE640 GE667 GE678 GE693⟩⟩
   case rest =>
    clear HC20
    try clear c1
    try clear c2
    try clear p2
    try clear c3
    try clear c4
    try clear c4b0
    try clear c5
    try clear c6
    try clear c7
    try clear c8
    try clear c9
    try clear c9b0
    try clear c16
    try clear c18
    try clear c25
    try clear c27
    try clear c29
    try clear c35
    try clear c39
    try clear c40
    try clear c43
    try clear c44
    try clear c54
    try clear c55
    try clear c56
    try clear c61
    try clear c62
    try clear c63
    try clear c64
    try clear c66
    try clear c67
    try clear c70
    try clear c71
    try clear c72
    try clear c74
    try clear c75
    try clear hcz11_0 hcz11_1 hcz11_2 hcz11_3
    try clear hcz22_0 hcz22_1 hcz22_2 hcz22_3
    try clear hcz25_0 hcz25_1 hcz25_2 hcz25_3
    try clear hcz36_0 hcz36_1 hcz36_2 hcz36_3
    try clear hcz39_0 hcz39_1 hcz39_2 hcz39_3
    try clear hcz45_0 hcz45_1 hcz45_2 hcz45_3
    try clear hcz49_0 hcz49_1 hcz49_2 hcz49_3
    try clear hcz57_0 hcz57_1 hcz57_2 hcz57_3
    try clear hcz65_0 hcz65_1 hcz65_2 hcz65_3
    try clear hcz68_0 hcz68_1 hcz68_2 hcz68_3
    try clear hcz6_0 hcz6_1 hcz6_2 hcz6_3
    try clear hcz73_0 hcz73_1 hcz73_2 hcz73_3
    try clear hcz76_0 hcz76_1 hcz76_2 hcz76_3
    try clear hfz11_0 hfz11_1 hfz11_2 hfz11_3
    try clear hfz22_0 hfz22_1 hfz22_2 hfz22_3
    try clear hfz25_0 hfz25_1 hfz25_2 hfz25_3
    try clear hfz36_0 hfz36_1 hfz36_2 hfz36_3
    try clear hfz39_0 hfz39_1 hfz39_2 hfz39_3
    try clear hfz45_0 hfz45_1 hfz45_2 hfz45_3
    try clear hfz49_0 hfz49_1 hfz49_2 hfz49_3
    try clear hfz57_0 hfz57_1 hfz57_2 hfz57_3
    try clear hfz65_0 hfz65_1 hfz65_2 hfz65_3
    try clear hfz68_0 hfz68_1 hfz68_2 hfz68_3
    try clear hfz6_0 hfz6_1 hfz6_2 hfz6_3
    try clear hfz73_0 hfz73_1 hfz73_2 hfz73_3
    try clear hfz76_0 hfz76_1 hfz76_2 hfz76_3
    obtain ⟨kq, x53_19, rfl, HA, HJ19, HO_9, HO_668000, HO_668001, HO_668002, HO_679000, HO_679001, HO_679002, HO_694000, HO_694001, HO_694002, BK640, BK667, BK678, BK693, HB⟩ := hcut
    cases kq with
    | zero => exact absurd HA.out (by simp [laws_FnExactCommit.j0])
    | succ kj19 =>
     have H := HA.out
     clear HA
     simp only [laws_FnExactCommit.j0] at H
     by_cases c78 : x53_19 = true
     ·
      subst c78
      rw [if_pos rfl] at H
      obtain rfl := Option.some.inj H
      go_wp2
      go_ret
      exact ⟨by first | rfl | (simp [errW_none, errW_some] <;> rfl) | (simp [*, errW_none, errW_some] <;> rfl), bs4 HB GE640 GE667 GE678 GE693⟩
     ·
      replace c78 := Bool.eq_false_iff.mpr c78
      subst c78
      rw [if_neg (show ¬ (false = true) by decide)] at H
      replace H := Option.bind_eq_some_iff.mp H
      obtain ⟨⟨t695, t698, t701, t704⟩, A790, H⟩ := H
      replace H : ((laws_eqStore.f kj19 t668 t671 t674 t677 t695 t698 t701 t704).bind fun t705 => (if t705 = true then ((laws_toWriteS.f kj19 l1).bind fun t706 => ((laws_eqWriteS.f kj19 t679 t706).bind fun t709 => (if t709 = true then ((laws_markStore.f kj19 t668 t671 t674 t677 1).bind fun bt710 => ((laws_markWriteS.f kj19 t679 bt710.1).bind fun bt714 => (if bt714.1 < 0 then (laws_FnExactCommit.j1 kj19 l1 t666 true l0_0 l0_1 l0_2 a0_3 t656 t659 t662 t665 t682 t685 t688 t691) else ((laws_eqStore.f kj19 t682 t685 t688 t691 t656 t659 t662 t665).bind fun t716 => (if t716 = true then (laws_FnExactCommit.j1 kj19 l1 t666 (t692 != t666) l0_0 l0_1 l0_2 a0_3 t656 t659 t662 t665 t682 t685 t688 t691) else (laws_FnExactCommit.j1 kj19 l1 t666 true l0_0 l0_1 l0_2 a0_3 t656 t659 t662 t665 t682 t685 t688 t691)))))) else (some false)))) else (some false))) = some r := H
      have A79 := Aside0.mk A790
      clear A790
      replace H := Option.bind_eq_some_iff.mp H
      obtain ⟨t705, A800, H⟩ := H
      replace H : (if t705 = true then ((laws_toWriteS.f kj19 l1).bind fun t706 => ((laws_eqWriteS.f kj19 t679 t706).bind fun t709 => (if t709 = true then ((laws_markStore.f kj19 t668 t671 t674 t677 1).bind fun bt710 => ((laws_markWriteS.f kj19 t679 bt710.1).bind fun bt714 => (if bt714.1 < 0 then (laws_FnExactCommit.j1 kj19 l1 t666 true l0_0 l0_1 l0_2 a0_3 t656 t659 t662 t665 t682 t685 t688 t691) else ((laws_eqStore.f kj19 t682 t685 t688 t691 t656 t659 t662 t665).bind fun t716 => (if t716 = true then (laws_FnExactCommit.j1 kj19 l1 t666 (t692 != t666) l0_0 l0_1 l0_2 a0_3 t656 t659 t662 t665 t682 t685 t688 t691) else (laws_FnExactCommit.j1 kj19 l1 t666 true l0_0 l0_1 l0_2 a0_3 t656 t659 t662 t665 t682 t685 t688 t691)))))) else (some false)))) else (some false)) = some r := H
      have A80 := Aside0.mk A800
      clear A800
      by_cases c81 : t705 = true
      ·
       subst c81
       rw [if_pos rfl] at H
       replace H := Option.bind_eq_some_iff.mp H
       obtain ⟨t706, A820, H⟩ := H
       replace H : ((laws_eqWriteS.f kj19 t679 t706).bind fun t709 => (if t709 = true then ((laws_markStore.f kj19 t668 t671 t674 t677 1).bind fun bt710 => ((laws_markWriteS.f kj19 t679 bt710.1).bind fun bt714 => (if bt714.1 < 0 then (laws_FnExactCommit.j1 kj19 l1 t666 true l0_0 l0_1 l0_2 a0_3 t656 t659 t662 t665 t682 t685 t688 t691) else ((laws_eqStore.f kj19 t682 t685 t688 t691 t656 t659 t662 t665).bind fun t716 => (if t716 = true then (laws_FnExactCommit.j1 kj19 l1 t666 (t692 != t666) l0_0 l0_1 l0_2 a0_3 t656 t659 t662 t665 t682 t685 t688 t691) else (laws_FnExactCommit.j1 kj19 l1 t666 true l0_0 l0_1 l0_2 a0_3 t656 t659 t662 t665 t682 t685 t688 t691)))))) else (some false))) = some r := H
       have A82 := Aside0.mk A820
       clear A820
       replace H := Option.bind_eq_some_iff.mp H
       obtain ⟨t709, A830, H⟩ := H
       replace H : (if t709 = true then ((laws_markStore.f kj19 t668 t671 t674 t677 1).bind fun bt710 => ((laws_markWriteS.f kj19 t679 bt710.1).bind fun bt714 => (if bt714.1 < 0 then (laws_FnExactCommit.j1 kj19 l1 t666 true l0_0 l0_1 l0_2 a0_3 t656 t659 t662 t665 t682 t685 t688 t691) else ((laws_eqStore.f kj19 t682 t685 t688 t691 t656 t659 t662 t665).bind fun t716 => (if t716 = true then (laws_FnExactCommit.j1 kj19 l1 t666 (t692 != t666) l0_0 l0_1 l0_2 a0_3 t656 t659 t662 t665 t682 t685 t688 t691) else (laws_FnExactCommit.j1 kj19 l1 t666 true l0_0 l0_1 l0_2 a0_3 t656 t659 t662 t665 t682 t685 t688 t691)))))) else (some false)) = some r := H
       have A83 := Aside0.mk A830
       clear A830
       by_cases c84 : t709 = true
       ·
        subst c84
        rw [if_pos rfl] at H
        replace H := Option.bind_eq_some_iff.mp H
        obtain ⟨⟨t710, t711, t712, t713⟩, A850, H⟩ := H
        replace H : ((laws_markWriteS.f kj19 t679 t710).bind fun bt714 => (if bt714.1 < 0 then (laws_FnExactCommit.j1 kj19 l1 t666 true l0_0 l0_1 l0_2 a0_3 t656 t659 t662 t665 t682 t685 t688 t691) else ((laws_eqStore.f kj19 t682 t685 t688 t691 t656 t659 t662 t665).bind fun t716 => (if t716 = true then (laws_FnExactCommit.j1 kj19 l1 t666 (t692 != t666) l0_0 l0_1 l0_2 a0_3 t656 t659 t662 t665 t682 t685 t688 t691) else (laws_FnExactCommit.j1 kj19 l1 t666 true l0_0 l0_1 l0_2 a0_3 t656 t659 t662 t665 t682 t685 t688 t691))))) = some r := H
        have A85 := Aside0.mk A850
        clear A850
        replace H := Option.bind_eq_some_iff.mp H
        obtain ⟨⟨t714, t715⟩, A860, H⟩ := H
        replace H : (if t714 < 0 then (laws_FnExactCommit.j1 kj19 l1 t666 true l0_0 l0_1 l0_2 a0_3 t656 t659 t662 t665 t682 t685 t688 t691) else ((laws_eqStore.f kj19 t682 t685 t688 t691 t656 t659 t662 t665).bind fun t716 => (if t716 = true then (laws_FnExactCommit.j1 kj19 l1 t666 (t692 != t666) l0_0 l0_1 l0_2 a0_3 t656 t659 t662 t665 t682 t685 t688 t691) else (laws_FnExactCommit.j1 kj19 l1 t666 true l0_0 l0_1 l0_2 a0_3 t656 t659 t662 t665 t682 t685 t688 t691)))) = some r := H
        have A86 := Aside0.mk A860
        clear A860
        have HC87 := Aside0.mk H
        clear H
        try go_wp2
        have n0_ := Aside0.mk (Kd.R_drew HO_9.out)
        have n1_ := Aside0.mk (Kd.R_drew HO_668000.out)
        have n2_ := Aside0.mk (Kd.R_drew HO_668001.out)
        have n3_ := Aside0.mk (Kd.R_drew HO_668002.out)
        have n4_ := Aside0.mk (Kd.R_drew HO_679000.out)
        have n5_ := Aside0.mk (Kd.R_drew HO_679001.out)
        have n6_ := Aside0.mk (Kd.R_drew HO_679002.out)
        have n7_ := Aside0.mk (Kd.R_drew HO_694000.out)
        have n8_ := Aside0.mk (Kd.R_drew HO_694001.out)
        have n9_ := Aside0.mk (Kd.R_drew HO_694002.out)
        have n10_ := Aside0.mk (blk_drew BK640.out)
        have n11_ := Aside0.mk (blk_drew BK667.out)
        have n12_ := Aside0.mk (blk_drew BK678.out)
        have n13_ := Aside0.mk (blk_drew BK693.out)
        have n14_ := Aside0.mk (below_drew1 HB.out)
        clear HO_9
        clear HO_668000
        clear HO_668001
        clear HO_668002
        clear HO_679000
        clear HO_679001
        clear HO_679002
        clear HO_694000
        clear HO_694001
        clear HO_694002
        clear BK640
        clear BK667
        clear BK678
        clear BK693
        clear HB
        have HO_9 := n0_
        have HO_668000 := n1_
        have HO_668001 := n2_
        have HO_668002 := n3_
        have HO_679000 := n4_
        have HO_679001 := n5_
        have HO_679002 := n6_
        have HO_694000 := n7_
        have HO_694001 := n8_
        have HO_694002 := n9_
        have BK640 := n10_
        have BK667 := n11_
        have BK678 := n12_
        have BK693 := n13_
        have HB := n14_
        clear n0_ n1_ n2_ n3_ n4_ n5_ n6_ n7_ n8_ n9_ n10_ n11_ n12_ n13_ n14_
        refine start_ (n := 5) (S := fun w' => w'.cell? ⟨gb678, 0, none⟩ = some (.slice Ao42 t668.length co42) ∧ w'.cell? ⟨gb678, 1, none⟩ = some (.slice Ao46 t671.length co46) ∧ w'.cell? ⟨gb678, 2, none⟩ = some (.slice Ao47 t674.length co47) ∧ w'.cell? ⟨gb678, 3, none⟩ = some (.int .i64 t677) ∧ w'.cell? ⟨gb640, 0, none⟩ = some (.slice A0_0 l0_0.length c0_0) ∧ w'.cell? ⟨gb640, 1, none⟩ = some (.slice A0_1 l0_1.length c0_1) ∧ w'.cell? ⟨gb640, 2, none⟩ = some (.slice A0_2 l0_2.length c0_2) ∧ w'.cell? ⟨gb640, 3, none⟩ = some (.int .i64 a0_3)) (ds := []) #[false, false, false, false, false] (by kernel_rfl) rfl rfl ⟨(blk_cell BK678.out 0).trans rfl, (blk_cell BK678.out 1).trans rfl, (blk_cell BK678.out 2).trans rfl, (blk_cell BK678.out 3).trans rfl, (blk_cell BK640.out 0).trans rfl, (blk_cell BK640.out 1).trans rfl, (blk_cell BK640.out 2).trans rfl, (blk_cell BK640.out 3).trans rfl⟩ (fun hHeld => ?_)
        generalize wc.drew = w88 at HO_9 HO_668000 HO_668001 HO_668002 HO_679000 HO_679001 HO_679002 HO_694000 HO_694001 HO_694002 BK640 BK667 BK678 BK693 HB hHeld ⊢
        refine take_ (i := 0) (N := some 54) (v := ?_) (a' := ?_) #[true, false, false, false, false] rfl rfl (by kernel_rfl) (fun _ _ _ h => h) (Or.inl ⟨by rfl, ?_⟩) hHeld ?_ ?_
        rotate_left
        ·
         rintro w' ⟨s0, s1, s2, s3, s4, s5, s6, s7⟩
         go_simp
         with_reducible rfl
        rotate_left
        ·
         simp only [Act.put, List.setIfInBounds_toArray, List.set_cons_zero, List.set_cons_succ, i64_w, i32_w]
         rfl
        refine take_ (i := 1) (N := some 55) (v := ?_) (a' := ?_) #[true, true, false, false, false] rfl rfl (by kernel_rfl) (fun _ _ _ h => h) (Or.inl ⟨by rfl, ?_⟩) hHeld ?_ ?_
        rotate_left
        ·
         rintro w' ⟨s0, s1, s2, s3, s4, s5, s6, s7⟩
         go_simp
         with_reducible rfl
        rotate_left
        ·
         simp only [Act.put, List.setIfInBounds_toArray, List.set_cons_zero, List.set_cons_succ, i64_w, i32_w]
         rfl
        refine one_ (i := 2) (N := some 56) #[true, true, true, false, false] rfl rfl (by kernel_rfl) (by decide) (fun K hK => ?_)
        refine goes_ Try.func27 (by kernel_rfl) rfl #[.agg #[.slice A0_0 l0_0.length c0_0, .slice A0_1 l0_1.length c0_1, .slice A0_2 l0_2.length c0_2, .int .i64 a0_3]] (by rfl) rfl rfl (by (try simp only [List.map_toArray, List.map_cons, List.map_nil]); first | done | rfl | (simp only [List.length_drop, List.length_take]; rfl)) ?_
        with_reducible refine (laws_toStore.calls kj19 _ _ l0_0 _ _ l0_1 _ _ l0_2 a0_3 t695 t698 t701 t704 _ ?side1 ?side2 ?side3 ?side4 ?side5 ?side6 A79.out).mono ?_
        (case side1 => exact cb HR0_0 HB)
        (case side2 => exact HC0_0.out)
        (case side3 => exact cb HR0_1 HB)
        (case side4 => exact HC0_1.out)
        (case side5 => exact cb HR0_2 HB)
        (case side6 => exact HC0_2.out)
        rintro e w89 ⟨v696, v699, v702, rfl, ho0, ho1, ho2, hb⟩
        refine ⟨_, rfl, ?_⟩
        have n0_ := Aside0.mk (Kd.R_elder' (rr HO_9.out) (Kd.R_base ho1) hb)
        have n1_ := Aside0.mk (Kd.R_mono (Kd.R_told (Kd.R_told (Kd.R_old (rr HO_668000.out) hb) (Kd.R_base ho0)) (Kd.R_base ho2)) (fun _ h_ => h_.1))
        have n2_ := Aside0.mk (Kd.R_elder' (rr HO_668001.out) (Kd.R_base ho1) hb)
        have n3_ := Aside0.mk (Kd.R_mono (Kd.R_told (Kd.R_told (Kd.R_old (rr HO_668002.out) hb) (Kd.R_base ho0)) (Kd.R_base ho2)) (fun _ h_ => h_.1))
        have n4_ := Aside0.mk (Kd.R_mono (Kd.R_told (Kd.R_told (Kd.R_old (rr HO_679000.out) hb) (Kd.R_base ho0)) (Kd.R_base ho2)) (fun _ h_ => h_.1))
        have n5_ := Aside0.mk (Kd.R_elder' (rr HO_679001.out) (Kd.R_base ho1) hb)
        have n6_ := Aside0.mk (Kd.R_mono (Kd.R_told (Kd.R_told (Kd.R_old (rr HO_679002.out) hb) (Kd.R_base ho0)) (Kd.R_base ho2)) (fun _ h_ => h_.1))
        have n7_ := Aside0.mk (Kd.R_mono (Kd.R_told (Kd.R_told (Kd.R_old (rr HO_694000.out) hb) (Kd.R_base ho0)) (Kd.R_base ho2)) (fun _ h_ => h_.1))
        have n8_ := Aside0.mk (Kd.R_elder' (rr HO_694001.out) (Kd.R_base ho1) hb)
        have n9_ := Aside0.mk (Kd.R_mono (Kd.R_told (Kd.R_told (Kd.R_old (rr HO_694002.out) hb) (Kd.R_base ho0)) (Kd.R_base ho2)) (fun _ h_ => h_.1))
        have n10_ := Aside0.mk (Kd.R_lower (Kd.R_new' (Kd.R_new' (Kd.R_new' (Kd.R_new' (Kd.R_new' (Kd.R_new' ho0 (Kd.R_lt (rr HO_668000.out))) (Kd.R_lt (rr HO_668002.out))) (Kd.R_lt (rr HO_679000.out))) (Kd.R_lt (rr HO_679002.out))) (Kd.R_lt (rr HO_694000.out))) (Kd.R_lt (rr HO_694002.out))) (below_size (bs4 HB GE640 GE667 GE678 GE693)))
        have n11_ := Aside0.mk (Kd.R_lower (Kd.R_new' (Kd.R_new' (Kd.R_new' (Kd.R_new' ho1 (Kd.R_lt (rr HO_9.out))) (Kd.R_lt (rr HO_668001.out))) (Kd.R_lt (rr HO_679001.out))) (Kd.R_lt (rr HO_694001.out))) (below_size (bs4 HB GE640 GE667 GE678 GE693)))
        have n12_ := Aside0.mk (Kd.R_lower (Kd.R_new' (Kd.R_new' (Kd.R_new' (Kd.R_new' (Kd.R_new' (Kd.R_new' ho2 (Kd.R_lt (rr HO_668000.out))) (Kd.R_lt (rr HO_668002.out))) (Kd.R_lt (rr HO_679000.out))) (Kd.R_lt (rr HO_679002.out))) (Kd.R_lt (rr HO_694000.out))) (Kd.R_lt (rr HO_694002.out))) (below_size (bs4 HB GE640 GE667 GE678 GE693)))
        have n13_ := Aside0.mk (bb BK640 hb)
        have n14_ := Aside0.mk (bb BK667 hb)
        have n15_ := Aside0.mk (bb BK678 hb)
        have n16_ := Aside0.mk (bb BK693 hb)
        have n17_ := Aside0.mk (below_step (bs4 HB GE640 GE667 GE678 GE693) hb)
        clear HO_9
        clear HO_668000
        clear HO_668001
        clear HO_668002
        clear HO_679000
        clear HO_679001
        clear HO_679002
        clear HO_694000
        clear HO_694001
        clear HO_694002
        clear BK640
        clear BK667
        clear BK678
        clear BK693
        clear HB
        have HO_9 := n0_
        have HO_668000 := n1_
        have HO_668001 := n2_
        have HO_668002 := n3_
        have HO_679000 := n4_
        have HO_679001 := n5_
        have HO_679002 := n6_
        have HO_694000 := n7_
        have HO_694001 := n8_
        have HO_694002 := n9_
        have HO697 := n10_
        have HO700 := n11_
        have HO703 := n12_
        have BK640 := n13_
        have BK667 := n14_
        have BK678 := n15_
        have BK693 := n16_
        have HB := n17_
        clear n0_ n1_ n2_ n3_ n4_ n5_ n6_ n7_ n8_ n9_ n10_ n11_ n12_ n13_ n14_ n15_ n16_ n17_
        (try clear hb)
        (try clear hb2)
        (try clear hk)
        (try clear hi)
        (try clear ho0)
        (try clear ho1)
        (try clear ho2)
        obtain ⟨Ao90, co90, eo90⟩ := Kd.R_slice HO697.out
        (first | subst eo90 | (injection eo90 with f1_ f2_ f3_; have f4_ := f1_.symm; have f5_ := f3_.symm; clear f1_ f2_ f3_; subst f4_; subst f5_))
        obtain ⟨Ao91, co91, eo91⟩ := Kd.R_slice HO700.out
        (first | subst eo91 | (injection eo91 with f1_ f2_ f3_; have f4_ := f1_.symm; have f5_ := f3_.symm; clear f1_ f2_ f3_; subst f4_; subst f5_))
        obtain ⟨Ao92, co92, eo92⟩ := Kd.R_slice HO703.out
        (first | subst eo92 | (injection eo92 with f1_ f2_ f3_; have f4_ := f1_.symm; have f5_ := f3_.symm; clear f1_ f2_ f3_; subst f4_; subst f5_))
        refine hK.out _ _ ⟨(blk_cell BK678.out 0).trans rfl, (blk_cell BK678.out 1).trans rfl, (blk_cell BK678.out 2).trans rfl, (blk_cell BK678.out 3).trans rfl, (blk_cell BK640.out 0).trans rfl, (blk_cell BK640.out 1).trans rfl, (blk_cell BK640.out 2).trans rfl, (blk_cell BK640.out 3).trans rfl⟩ (fun hHeld => ?_)
        clear hK K
        refine norm_ (a' := ?_) ?_ ?_
        rotate_left
        ·
         show Act.put _ (some 56) _ = _
         simp only [Act.put, List.setIfInBounds_toArray, List.set_cons_zero, List.set_cons_succ, i64_w, i32_w]
         rfl
        refine one_ (i := 3) (N := some 57) #[true, true, true, true, false] rfl rfl (by kernel_rfl) (by decide) (fun K hK => ?_)
        refine goes_ Try.func29 (by kernel_rfl) rfl #[.agg #[.slice Ao42 t668.length co42, .slice Ao46 t671.length co46, .slice Ao47 t674.length co47, .int .i64 t677], .agg #[.slice Ao90 t695.length co90, .slice Ao91 t698.length co91, .slice Ao92 t701.length co92, .int .i64 t704]] (by rfl) rfl rfl (by (try simp only [List.map_toArray, List.map_cons, List.map_nil]); first | done | rfl | (simp only [List.length_drop, List.length_take]; rfl)) ?_
        with_reducible refine (laws_eqStore.calls kj19 _ _ t668 _ _ t671 _ _ t674 t677 _ _ t695 _ _ t698 _ _ t701 t704 true _ ?side1 ?side2 ?side3 ?side4 ?side5 ?side6 ?side7 ?side8 ?side9 ?side10 ?side11 ?side12 A80.out).mono ?_
        (case side1 => exact rc0 HO_679000)
        (case side2 => exact (Kd.R_reads' HO_679000.out).2.1)
        (case side3 => exact rc0 HO_679001)
        (case side4 => exact (Kd.R_reads' HO_679001.out).2.1)
        (case side5 => exact rc0 HO_679002)
        (case side6 => exact (Kd.R_reads' HO_679002.out).2.1)
        (case side7 => exact rc0 HO697)
        (case side8 => exact (Kd.R_reads' HO697.out).2.1)
        (case side9 => exact rc0 HO700)
        (case side10 => exact (Kd.R_reads' HO700.out).2.1)
        (case side11 => exact rc0 HO703)
        (case side12 => exact (Kd.R_reads' HO703.out).2.1)
        rintro e w93 ⟨rfl, hb⟩
        refine ⟨_, rfl, ?_⟩
        have n0_ := Aside0.mk (Kd.R_below (rr HO_9.out) hb)
        have n1_ := Aside0.mk (Kd.R_below (rr HO_668000.out) hb)
        have n2_ := Aside0.mk (Kd.R_below (rr HO_668001.out) hb)
        have n3_ := Aside0.mk (Kd.R_below (rr HO_668002.out) hb)
        have n4_ := Aside0.mk (Kd.R_below (rr HO_679000.out) hb)
        have n5_ := Aside0.mk (Kd.R_below (rr HO_679001.out) hb)
        have n6_ := Aside0.mk (Kd.R_below (rr HO_679002.out) hb)
        have n7_ := Aside0.mk (Kd.R_below (rr HO_694000.out) hb)
        have n8_ := Aside0.mk (Kd.R_below (rr HO_694001.out) hb)
        have n9_ := Aside0.mk (Kd.R_below (rr HO_694002.out) hb)
        have n10_ := Aside0.mk (Kd.R_below (rr HO697.out) hb)
        have n11_ := Aside0.mk (Kd.R_below (rr HO700.out) hb)
        have n12_ := Aside0.mk (Kd.R_below (rr HO703.out) hb)
        have n13_ := Aside0.mk (bb BK640 hb)
        have n14_ := Aside0.mk (bb BK667 hb)
        have n15_ := Aside0.mk (bb BK678 hb)
        have n16_ := Aside0.mk (bb BK693 hb)
        have n17_ := Aside0.mk (below_step (bs4 HB GE640 GE667 GE678 GE693) hb)
        clear HO_9
        clear HO_668000
        clear HO_668001
        clear HO_668002
        clear HO_679000
        clear HO_679001
        clear HO_679002
        clear HO_694000
        clear HO_694001
        clear HO_694002
        clear HO697
        clear HO700
        clear HO703
        clear BK640
        clear BK667
        clear BK678
        clear BK693
        clear HB
        have HO_9 := n0_
        have HO_668000 := n1_
        have HO_668001 := n2_
        have HO_668002 := n3_
        have HO_679000 := n4_
        have HO_679001 := n5_
        have HO_679002 := n6_
        have HO_694000 := n7_
        have HO_694001 := n8_
        have HO_694002 := n9_
        have HO697 := n10_
        have HO700 := n11_
        have HO703 := n12_
        have BK640 := n13_
        have BK667 := n14_
        have BK678 := n15_
        have BK693 := n16_
        have HB := n17_
        clear n0_ n1_ n2_ n3_ n4_ n5_ n6_ n7_ n8_ n9_ n10_ n11_ n12_ n13_ n14_ n15_ n16_ n17_
        (try clear hb)
        (try clear hb2)
        (try clear hk)
        (try clear hi)
        refine hK.out _ _ ⟨(blk_cell BK678.out 0).trans rfl, (blk_cell BK678.out 1).trans rfl, (blk_cell BK678.out 2).trans rfl, (blk_cell BK678.out 3).trans rfl, (blk_cell BK640.out 0).trans rfl, (blk_cell BK640.out 1).trans rfl, (blk_cell BK640.out 2).trans rfl, (blk_cell BK640.out 3).trans rfl⟩ (fun hHeld => ?_)
        clear hK K
        refine norm_ (a' := ?_) ?_ ?_
        rotate_left
        ·
         show Act.put _ (some 57) _ = _
         simp only [Act.put, List.setIfInBounds_toArray, List.set_cons_zero, List.set_cons_succ, i64_w, i32_w]
         rfl
        refine pure_ (i := 4) (N := some 58) (v := ?_) (a' := ?_) #[true, true, true, true, true] rfl rfl (by kernel_rfl) (fun _ _ _ h => h) (Or.inl ⟨by rfl, ?_⟩) ?_ ?_
        rotate_left
        ·
         intro w'
         go_simp
         with_reducible rfl
        rotate_left
        ·
         simp only [Act.put, List.setIfInBounds_toArray, List.set_cons_zero, List.set_cons_succ, i64_w, i32_w]
         rfl
        refine done_ (by kernel_rfl) ?_
        go_upto_region 21 with (first | ((with_reducible refine gate_callee (f := 18) rfl ?_); refine gL (some 61) rfl rfl Try.func18 (by kernel_rfl) rfl #[.slice A1 l1.length c1] rfl ?_; (with_reducible refine (laws_toWriteS.calls kj19 _ _ l1 t706 _ ?side1 ?side2 A82.out).mono ?_); (case side1 => exact cb HR1 HB); (case side2 => exact HC1.out); rintro e w94 ⟨v707, rfl, ho0, hb⟩; refine ⟨_, rfl, ?_⟩; replace HO_668000 := nr HO_668000 hb; replace HO_668002 := nr HO_668002 hb; replace HO_679000 := nr HO_679000 hb; replace HO_679002 := nr HO_679002 hb; replace HO_694000 := nr HO_694000 hb; replace HO_694002 := nr HO_694002 hb; replace HO697 := nr HO697 hb; replace HO703 := nr HO703 hb; have HO708 := Aside0.mk (Kd.R_lower (Kd.R_new' (Kd.R_new' (Kd.R_new' (Kd.R_new' (Kd.R_new' ho0 (Kd.R_lt (rr HO_9.out))) (Kd.R_lt (rr HO_668001.out))) (Kd.R_lt (rr HO_679001.out))) (Kd.R_lt (rr HO_694001.out))) (Kd.R_lt (rr HO700.out))) (below_size (bs4 HB GE640 GE667 GE678 GE693))); replace HO_9 := Aside0.mk (Kd.R_elder' (rr HO_9.out) (Kd.R_base ho0) hb); replace HO_668001 := Aside0.mk (Kd.R_elder' (rr HO_668001.out) (Kd.R_base ho0) hb); replace HO_679001 := Aside0.mk (Kd.R_elder' (rr HO_679001.out) (Kd.R_base ho0) hb); replace HO_694001 := Aside0.mk (Kd.R_elder' (rr HO_694001.out) (Kd.R_base ho0) hb); replace HO700 := Aside0.mk (Kd.R_elder' (rr HO700.out) (Kd.R_base ho0) hb); replace BK640 := nb BK640 hb; replace BK667 := nb BK667 hb; replace BK678 := nb BK678 hb; replace BK693 := nb BK693 hb; replace HB := Aside0.mk (below_step (bs4 HB GE640 GE667 GE678 GE693) hb); (try clear hb); (try clear hb2); (try clear hk); (try clear hi); (try clear ho0); obtain ⟨Ao95, co95, eo95⟩ := Kd.R_slice HO708.out; subst eo95) | ((with_reducible refine gate_callee (f := 20) rfl ?_); refine gL (some 62) rfl rfl Try.func20 (by kernel_rfl) rfl #[.slice Ao50 t679.length co50, .slice Ao95 t706.length co95] rfl ?_; (with_reducible refine (laws_eqWriteS.calls kj19 _ _ t679 _ _ t706 true _ ?side1 ?side2 ?side3 ?side4 A83.out).mono ?_); (case side1 => exact rc0 HO_9); (case side2 => exact (Kd.R_reads' HO_9.out).2.1); (case side3 => exact rc0 HO708); (case side4 => exact (Kd.R_reads' HO708.out).2.1); rintro e w96 ⟨rfl, hb⟩; refine ⟨_, rfl, ?_⟩; replace HO_9 := nr HO_9 hb; replace HO_668000 := nr HO_668000 hb; replace HO_668001 := nr HO_668001 hb; replace HO_668002 := nr HO_668002 hb; replace HO_679000 := nr HO_679000 hb; replace HO_679001 := nr HO_679001 hb; replace HO_679002 := nr HO_679002 hb; replace HO_694000 := nr HO_694000 hb; replace HO_694001 := nr HO_694001 hb; replace HO_694002 := nr HO_694002 hb; replace HO697 := nr HO697 hb; replace HO700 := nr HO700 hb; replace HO703 := nr HO703 hb; replace HO708 := nr HO708 hb; replace BK640 := nb BK640 hb; replace BK667 := nb BK667 hb; replace BK678 := nb BK678 hb; replace BK693 := nb BK693 hb; replace HB := Aside0.mk (below_step (bs4 HB GE640 GE667 GE678 GE693) hb); (try clear hb); (try clear hb2); (try clear hk); (try clear hi); have hnb97 := NB678_640.out; have hnc97 := NB640_678.out; have hnb98 := NB678_667.out; have hnc98 := NB667_678.out; have hnb99 := NB678_693.out; have hnc99 := NB693_678.out; obtain ⟨hcz100_0, hcz100_1, hcz100_2, hcz100_3⟩ := cz4 BK678; obtain ⟨hfz100_0, hfz100_1, hfz100_2, hfz100_3⟩ := fz4 BK678) | ((with_reducible refine gate_callee (f := 32) rfl ?_); refine gL (some 66) rfl rfl Try.func32 (by kernel_rfl) rfl #[.agg #[.slice Ao42 t668.length co42, .slice Ao46 t671.length co46, .slice Ao47 t674.length co47, .int .i64 t677], .int .i64 1] rfl ?_; (with_reducible refine (laws_markStore.calls kj19 (fun k_ => some k_ = (.slice Ao42 t668.length co42 : Value).ownBlock) (.slice Ao42 t668.length co42) t668 (fun k_ => some k_ = (.slice Ao46 t671.length co46 : Value).ownBlock) (.slice Ao46 t671.length co46) t671 (fun k_ => some k_ = (.slice Ao47 t674.length co47 : Value).ownBlock) (.slice Ao47 t674.length co47) t674 t677 1 t710 t711 t712 t713 w _ ?side1 ?side2 ?side3 ?side4 ?side5 ?side6 A85.out).mono ?_); (case side1 => repeat (first | (with_reducible first | exact HB.out | apply below_alloc | apply pw_below_drewN | apply below_drew1 | refine below_set ?_ GE640.out | refine below_set ?_ GE667.out | refine below_set ?_ GE678.out | refine below_set ?_ GE693.out) | exact HB.out)); (case side2 => exact Kd.R_tight rfl HO_679000.out); (case side3 => exact fun k_ e_ => (HO_679000.out.1 k_ e_.symm).1.1.2.2.1); (case side4 => exact Kd.R_tight rfl HO_679001.out); (case side5 => exact Kd.R_tight rfl HO_679002.out); (case side6 => exact fun k_ e_ => (HO_679002.out.1 k_ e_.symm).1.1.2.2.1); rintro e w101 ⟨rfl, hy0, hy1, hy2, hb, hkp⟩; refine ⟨_, rfl, ?_⟩; replace HO_9 := Aside0.mk (Kd.R_mono (ok' := fun k_ => some k_ ≠ (.slice Ao37 t659.length co37 : Value).ownBlock ∧ some k_ ≠ (.slice Ao46 t671.length co46 : Value).ownBlock ∧ some k_ ≠ (.slice Ao58 t685.length co58 : Value).ownBlock ∧ some k_ ≠ (.slice Ao91 t698.length co91 : Value).ownBlock ∧ some k_ ≠ (.slice Ao95 t706.length co95 : Value).ownBlock) (Kd.R_keptB ((Kd.R_apart' (Kd.R_apart' HO_9.out (Kd.R_typed HO_679000.out) (by decide)) (Kd.R_typed HO_679002.out) (by decide))) hkp (fun k_ hk_ hs_ => Or.elim hs_ (fun e_ => (hk_.1.2) e_) (fun e_ => Or.elim e_ (fun e_ => (hk_.1.1.1.1.2.1) e_) (fun e_ => (hk_.2) e_)))) (fun k_ hk_ => ⟨hk_.1.1.1.1.1.1, hk_.1.1.1.1.1.2.1, hk_.1.1.1.1.1.2.2, hk_.1.1.1.1.2, hk_.1.1.1.2⟩)); replace HO_668000 := Aside0.mk (Kd.R_mono (ok' := fun k_ => some k_ ≠ (.slice Ao38 t662.length co38 : Value).ownBlock ∧ some k_ ≠ (.slice Ao42 t668.length co42 : Value).ownBlock ∧ some k_ ≠ (.slice Ao47 t674.length co47 : Value).ownBlock ∧ some k_ ≠ (.slice Ao53 t682.length co53 : Value).ownBlock ∧ some k_ ≠ (.slice Ao59 t688.length co59 : Value).ownBlock ∧ some k_ ≠ (.slice Ao90 t695.length co90 : Value).ownBlock ∧ some k_ ≠ (.slice Ao92 t701.length co92 : Value).ownBlock) (Kd.R_keptB ((Kd.R_apart' HO_668000.out (Kd.R_typed HO_679001.out) (by decide))) hkp (fun k_ hk_ hs_ => Or.elim hs_ (fun e_ => (hk_.1.1.1.2.1) e_) (fun e_ => Or.elim e_ (fun e_ => (hk_.2) e_) (fun e_ => (hk_.1.1.1.2.2.1) e_)))) (fun k_ hk_ => ⟨hk_.1.1.1.1.1, hk_.1.1.1.1.2.1, hk_.1.1.1.1.2.2.1, hk_.1.1.1.1.2.2.2.1, hk_.1.1.1.1.2.2.2.2, hk_.1.1.1.2, hk_.1.1.2⟩)); replace HO_668001 := Aside0.mk (Kd.R_mono (ok' := fun k_ => some k_ ≠ (.slice Ao50 t679.length co50 : Value).ownBlock ∧ some k_ ≠ (.slice Ao46 t671.length co46 : Value).ownBlock ∧ some k_ ≠ (.slice Ao58 t685.length co58 : Value).ownBlock ∧ some k_ ≠ (.slice Ao91 t698.length co91 : Value).ownBlock ∧ some k_ ≠ (.slice Ao95 t706.length co95 : Value).ownBlock) (Kd.R_keptB ((Kd.R_apart' (Kd.R_apart' HO_668001.out (Kd.R_typed HO_679000.out) (by decide)) (Kd.R_typed HO_679002.out) (by decide))) hkp (fun k_ hk_ hs_ => Or.elim hs_ (fun e_ => (hk_.1.2) e_) (fun e_ => Or.elim e_ (fun e_ => (hk_.1.1.1.1.2.1) e_) (fun e_ => (hk_.2) e_)))) (fun k_ hk_ => ⟨hk_.1.1.1.1.1.1, hk_.1.1.1.1.1.2.1, hk_.1.1.1.1.1.2.2, hk_.1.1.1.1.2, hk_.1.1.1.2⟩)); replace HO_668002 := Aside0.mk (Kd.R_mono (ok' := fun k_ => some k_ ≠ (.slice Ao34 t656.length co34 : Value).ownBlock ∧ some k_ ≠ (.slice Ao42 t668.length co42 : Value).ownBlock ∧ some k_ ≠ (.slice Ao47 t674.length co47 : Value).ownBlock ∧ some k_ ≠ (.slice Ao53 t682.length co53 : Value).ownBlock ∧ some k_ ≠ (.slice Ao59 t688.length co59 : Value).ownBlock ∧ some k_ ≠ (.slice Ao90 t695.length co90 : Value).ownBlock ∧ some k_ ≠ (.slice Ao92 t701.length co92 : Value).ownBlock) (Kd.R_keptB ((Kd.R_apart' HO_668002.out (Kd.R_typed HO_679001.out) (by decide))) hkp (fun k_ hk_ hs_ => Or.elim hs_ (fun e_ => (hk_.1.1.1.2.1) e_) (fun e_ => Or.elim e_ (fun e_ => (hk_.2) e_) (fun e_ => (hk_.1.1.1.2.2.1) e_)))) (fun k_ hk_ => ⟨hk_.1.1.1.1.1, hk_.1.1.1.1.2.1, hk_.1.1.1.1.2.2.1, hk_.1.1.1.1.2.2.2.1, hk_.1.1.1.1.2.2.2.2, hk_.1.1.1.2, hk_.1.1.2⟩)); replace HO_694000 := Aside0.mk (Kd.R_mono (ok' := fun k_ => some k_ ≠ (.slice Ao34 t656.length co34 : Value).ownBlock ∧ some k_ ≠ (.slice Ao38 t662.length co38 : Value).ownBlock ∧ some k_ ≠ (.slice Ao42 t668.length co42 : Value).ownBlock ∧ some k_ ≠ (.slice Ao47 t674.length co47 : Value).ownBlock ∧ some k_ ≠ (.slice Ao59 t688.length co59 : Value).ownBlock ∧ some k_ ≠ (.slice Ao90 t695.length co90 : Value).ownBlock ∧ some k_ ≠ (.slice Ao92 t701.length co92 : Value).ownBlock) (Kd.R_keptB ((Kd.R_apart' HO_694000.out (Kd.R_typed HO_679001.out) (by decide))) hkp (fun k_ hk_ hs_ => Or.elim hs_ (fun e_ => (hk_.1.1.1.2.2.1) e_) (fun e_ => Or.elim e_ (fun e_ => (hk_.2) e_) (fun e_ => (hk_.1.1.1.2.2.2.1) e_)))) (fun k_ hk_ => ⟨hk_.1.1.1.1.1, hk_.1.1.1.1.2.1, hk_.1.1.1.1.2.2.1, hk_.1.1.1.1.2.2.2.1, hk_.1.1.1.1.2.2.2.2, hk_.1.1.1.2, hk_.1.1.2⟩)); replace HO_694001 := Aside0.mk (Kd.R_mono (ok' := fun k_ => some k_ ≠ (.slice Ao50 t679.length co50 : Value).ownBlock ∧ some k_ ≠ (.slice Ao37 t659.length co37 : Value).ownBlock ∧ some k_ ≠ (.slice Ao46 t671.length co46 : Value).ownBlock ∧ some k_ ≠ (.slice Ao91 t698.length co91 : Value).ownBlock ∧ some k_ ≠ (.slice Ao95 t706.length co95 : Value).ownBlock) (Kd.R_keptB ((Kd.R_apart' (Kd.R_apart' HO_694001.out (Kd.R_typed HO_679000.out) (by decide)) (Kd.R_typed HO_679002.out) (by decide))) hkp (fun k_ hk_ hs_ => Or.elim hs_ (fun e_ => (hk_.1.2) e_) (fun e_ => Or.elim e_ (fun e_ => (hk_.1.1.1.1.2.2) e_) (fun e_ => (hk_.2) e_)))) (fun k_ hk_ => ⟨hk_.1.1.1.1.1.1, hk_.1.1.1.1.1.2.1, hk_.1.1.1.1.1.2.2, hk_.1.1.1.1.2, hk_.1.1.1.2⟩)); replace HO_694002 := Aside0.mk (Kd.R_mono (ok' := fun k_ => some k_ ≠ (.slice Ao34 t656.length co34 : Value).ownBlock ∧ some k_ ≠ (.slice Ao38 t662.length co38 : Value).ownBlock ∧ some k_ ≠ (.slice Ao42 t668.length co42 : Value).ownBlock ∧ some k_ ≠ (.slice Ao47 t674.length co47 : Value).ownBlock ∧ some k_ ≠ (.slice Ao53 t682.length co53 : Value).ownBlock ∧ some k_ ≠ (.slice Ao90 t695.length co90 : Value).ownBlock ∧ some k_ ≠ (.slice Ao92 t701.length co92 : Value).ownBlock) (Kd.R_keptB ((Kd.R_apart' HO_694002.out (Kd.R_typed HO_679001.out) (by decide))) hkp (fun k_ hk_ hs_ => Or.elim hs_ (fun e_ => (hk_.1.1.1.2.2.1) e_) (fun e_ => Or.elim e_ (fun e_ => (hk_.2) e_) (fun e_ => (hk_.1.1.1.2.2.2.1) e_)))) (fun k_ hk_ => ⟨hk_.1.1.1.1.1, hk_.1.1.1.1.2.1, hk_.1.1.1.1.2.2.1, hk_.1.1.1.1.2.2.2.1, hk_.1.1.1.1.2.2.2.2, hk_.1.1.1.2, hk_.1.1.2⟩)); replace BK640 := Aside0.mk (blk_kept (bk BK640) hkp (fun hs_ => Or.elim hs_ (fun e_ => (fun e_ => (Kd.R_ne HO_679000.out BK640.out (by decide)) e_) e_) (fun e_ => Or.elim e_ (fun e_ => (fun e_ => (Kd.R_ne HO_679001.out BK640.out (by decide)) e_) e_) (fun e_ => (fun e_ => (Kd.R_ne HO_679002.out BK640.out (by decide)) e_) e_)))); replace BK667 := Aside0.mk (blk_kept (bk BK667) hkp (fun hs_ => Or.elim hs_ (fun e_ => (fun e_ => (Kd.R_ne HO_679000.out BK667.out (by decide)) e_) e_) (fun e_ => Or.elim e_ (fun e_ => (fun e_ => (Kd.R_ne HO_679001.out BK667.out (by decide)) e_) e_) (fun e_ => (fun e_ => (Kd.R_ne HO_679002.out BK667.out (by decide)) e_) e_)))); replace BK678 := Aside0.mk (blk_kept (bk BK678) hkp (fun hs_ => Or.elim hs_ (fun e_ => (fun e_ => (Kd.R_ne HO_679000.out BK678.out (by decide)) e_) e_) (fun e_ => Or.elim e_ (fun e_ => (fun e_ => (Kd.R_ne HO_679001.out BK678.out (by decide)) e_) e_) (fun e_ => (fun e_ => (Kd.R_ne HO_679002.out BK678.out (by decide)) e_) e_)))); replace BK693 := Aside0.mk (blk_kept (bk BK693) hkp (fun hs_ => Or.elim hs_ (fun e_ => (fun e_ => (Kd.R_ne HO_679000.out BK693.out (by decide)) e_) e_) (fun e_ => Or.elim e_ (fun e_ => (fun e_ => (Kd.R_ne HO_679001.out BK693.out (by decide)) e_) e_) (fun e_ => (fun e_ => (Kd.R_ne HO_679002.out BK693.out (by decide)) e_) e_)))); replace HO697 := Aside0.mk (Kd.R_mono (ok' := fun k_ => some k_ ≠ (.slice Ao34 t656.length co34 : Value).ownBlock ∧ some k_ ≠ (.slice Ao38 t662.length co38 : Value).ownBlock ∧ some k_ ≠ (.slice Ao42 t668.length co42 : Value).ownBlock ∧ some k_ ≠ (.slice Ao47 t674.length co47 : Value).ownBlock ∧ some k_ ≠ (.slice Ao53 t682.length co53 : Value).ownBlock ∧ some k_ ≠ (.slice Ao59 t688.length co59 : Value).ownBlock ∧ some k_ ≠ (.slice Ao92 t701.length co92 : Value).ownBlock) (Kd.R_keptB ((Kd.R_apart' HO697.out (Kd.R_typed HO_679001.out) (by decide))) hkp (fun k_ hk_ hs_ => Or.elim hs_ (fun e_ => (hk_.1.1.1.1.2) e_) (fun e_ => Or.elim e_ (fun e_ => (hk_.2) e_) (fun e_ => (hk_.1.1.1.2) e_)))) (fun k_ hk_ => ⟨hk_.1.1.1.1.1.1.1.2, hk_.1.1.1.1.1.1.2, hk_.1.1.1.1.1.2, hk_.1.1.1.1.2, hk_.1.1.1.2, hk_.1.1.2, hk_.1.1.1.1.1.1.1.1⟩)); replace HO700 := Aside0.mk (Kd.R_mono (ok' := fun k_ => some k_ ≠ (.slice Ao50 t679.length co50 : Value).ownBlock ∧ some k_ ≠ (.slice Ao37 t659.length co37 : Value).ownBlock ∧ some k_ ≠ (.slice Ao46 t671.length co46 : Value).ownBlock ∧ some k_ ≠ (.slice Ao58 t685.length co58 : Value).ownBlock ∧ some k_ ≠ (.slice Ao95 t706.length co95 : Value).ownBlock) (Kd.R_keptB ((Kd.R_apart' (Kd.R_apart' HO700.out (Kd.R_typed HO_679000.out) (by decide)) (Kd.R_typed HO_679002.out) (by decide))) hkp (fun k_ hk_ hs_ => Or.elim hs_ (fun e_ => (hk_.1.2) e_) (fun e_ => Or.elim e_ (fun e_ => (hk_.1.1.1.1.2) e_) (fun e_ => (hk_.2) e_)))) (fun k_ hk_ => ⟨hk_.1.1.1.1.1.1.1.2, hk_.1.1.1.1.1.1.2, hk_.1.1.1.1.1.2, hk_.1.1.1.1.2, hk_.1.1.1.2⟩)); replace HO703 := Aside0.mk (Kd.R_mono (ok' := fun k_ => some k_ ≠ (.slice Ao34 t656.length co34 : Value).ownBlock ∧ some k_ ≠ (.slice Ao38 t662.length co38 : Value).ownBlock ∧ some k_ ≠ (.slice Ao42 t668.length co42 : Value).ownBlock ∧ some k_ ≠ (.slice Ao47 t674.length co47 : Value).ownBlock ∧ some k_ ≠ (.slice Ao53 t682.length co53 : Value).ownBlock ∧ some k_ ≠ (.slice Ao59 t688.length co59 : Value).ownBlock ∧ some k_ ≠ (.slice Ao90 t695.length co90 : Value).ownBlock) (Kd.R_keptB ((Kd.R_apart' HO703.out (Kd.R_typed HO_679001.out) (by decide))) hkp (fun k_ hk_ hs_ => Or.elim hs_ (fun e_ => (hk_.1.1.1.1.2) e_) (fun e_ => Or.elim e_ (fun e_ => (hk_.2) e_) (fun e_ => (hk_.1.1.1.2) e_)))) (fun k_ hk_ => ⟨hk_.1.1.1.1.1.1.1.2, hk_.1.1.1.1.1.1.2, hk_.1.1.1.1.1.2, hk_.1.1.1.1.2, hk_.1.1.1.2, hk_.1.1.2, hk_.1.1.1.1.1.1.1.1⟩)); replace HO_679001 := Aside0.mk (Kd.R_reok rfl hy1 (fun k_ e_ => HO_679001.out.1 k_ e_)); replace HO708 := Aside0.mk (Kd.R_mono (ok' := fun k_ => some k_ ≠ (.slice Ao50 t679.length co50 : Value).ownBlock ∧ some k_ ≠ (.slice Ao37 t659.length co37 : Value).ownBlock ∧ some k_ ≠ (.slice Ao46 t671.length co46 : Value).ownBlock ∧ some k_ ≠ (.slice Ao58 t685.length co58 : Value).ownBlock ∧ some k_ ≠ (.slice Ao91 t698.length co91 : Value).ownBlock) (Kd.R_keptB ((Kd.R_apart' (Kd.R_apart' HO708.out (Kd.R_typed HO_679000.out) (by decide)) (Kd.R_typed HO_679002.out) (by decide))) hkp (fun k_ hk_ hs_ => Or.elim hs_ (fun e_ => (hk_.1.2) e_) (fun e_ => Or.elim e_ (fun e_ => (hk_.1.1.1.1.2) e_) (fun e_ => (hk_.2) e_)))) (fun k_ hk_ => ⟨hk_.1.1.1.1.1.1.1.2, hk_.1.1.1.1.1.1.2, hk_.1.1.1.1.1.2, hk_.1.1.1.1.2, hk_.1.1.1.2⟩)); replace HO_679000 := Aside0.mk (Kd.R_reok rfl hy0 (fun k_ e_ => HO_679000.out.1 k_ e_)); replace HO_679002 := Aside0.mk (Kd.R_reok rfl hy2 (fun k_ e_ => HO_679002.out.1 k_ e_)); replace HB := Aside0.mk (hb); (try clear hb); (try clear hkp); (try clear hy0); (try clear hy1); (try clear hy2)) | ((with_reducible refine gate_callee (f := 23) rfl ?_); refine gL (some 69) rfl rfl Try.func23 (by kernel_rfl) rfl #[.slice Ao50 t679.length co50, .int .i64 t710] rfl ?_; (with_reducible refine (laws_markWriteS.calls kj19 (fun k_ => some k_ = (.slice Ao50 t679.length co50 : Value).ownBlock) (.slice Ao50 t679.length co50) t679 t710 t714 t715 w _ ?side1 ?side2 A86.out).mono ?_); (case side1 => repeat (first | (with_reducible first | exact HB.out | apply below_alloc | apply pw_below_drewN | apply below_drew1 | refine below_set ?_ GE640.out | refine below_set ?_ GE667.out | refine below_set ?_ GE678.out | refine below_set ?_ GE693.out) | exact HB.out)); (case side2 => exact Kd.R_tight rfl HO_9.out); rintro e w102 ⟨rfl, hy0, hb, hkp⟩; refine ⟨_, rfl, ?_⟩; replace HO_668000 := Aside0.mk (Kd.R_mono (ok' := fun k_ => some k_ ≠ (.slice Ao38 t662.length co38 : Value).ownBlock ∧ some k_ ≠ (.slice Ao42 t668.length co42 : Value).ownBlock ∧ some k_ ≠ (.slice Ao47 t674.length co47 : Value).ownBlock ∧ some k_ ≠ (.slice Ao53 t682.length co53 : Value).ownBlock ∧ some k_ ≠ (.slice Ao59 t688.length co59 : Value).ownBlock ∧ some k_ ≠ (.slice Ao90 t695.length co90 : Value).ownBlock ∧ some k_ ≠ (.slice Ao92 t701.length co92 : Value).ownBlock) (Kd.R_keptB ((Kd.R_apart' HO_668000.out (Kd.R_typed HO_9.out) (by decide))) hkp (fun k_ hk_ hs_ => (hk_.2) hs_)) (fun k_ hk_ => ⟨hk_.1.1.1, hk_.1.1.2.1, hk_.1.1.2.2.1, hk_.1.1.2.2.2.1, hk_.1.1.2.2.2.2.1, hk_.1.1.2.2.2.2.2.1, hk_.1.1.2.2.2.2.2.2⟩)); replace HO_668001 := Aside0.mk (Kd.R_mono (ok' := fun k_ => some k_ ≠ (.slice Ao50 t679.length co50 : Value).ownBlock ∧ some k_ ≠ (.slice Ao46 t671.length co46 : Value).ownBlock ∧ some k_ ≠ (.slice Ao58 t685.length co58 : Value).ownBlock ∧ some k_ ≠ (.slice Ao91 t698.length co91 : Value).ownBlock ∧ some k_ ≠ (.slice Ao95 t706.length co95 : Value).ownBlock) (Kd.R_keptB (HO_668001.out) hkp (fun k_ hk_ hs_ => (hk_.1) hs_)) (fun k_ hk_ => ⟨hk_.1.1, hk_.1.2.1, hk_.1.2.2.1, hk_.1.2.2.2.1, hk_.1.2.2.2.2⟩)); replace HO_668002 := Aside0.mk (Kd.R_mono (ok' := fun k_ => some k_ ≠ (.slice Ao34 t656.length co34 : Value).ownBlock ∧ some k_ ≠ (.slice Ao42 t668.length co42 : Value).ownBlock ∧ some k_ ≠ (.slice Ao47 t674.length co47 : Value).ownBlock ∧ some k_ ≠ (.slice Ao53 t682.length co53 : Value).ownBlock ∧ some k_ ≠ (.slice Ao59 t688.length co59 : Value).ownBlock ∧ some k_ ≠ (.slice Ao90 t695.length co90 : Value).ownBlock ∧ some k_ ≠ (.slice Ao92 t701.length co92 : Value).ownBlock) (Kd.R_keptB ((Kd.R_apart' HO_668002.out (Kd.R_typed HO_9.out) (by decide))) hkp (fun k_ hk_ hs_ => (hk_.2) hs_)) (fun k_ hk_ => ⟨hk_.1.1.1, hk_.1.1.2.1, hk_.1.1.2.2.1, hk_.1.1.2.2.2.1, hk_.1.1.2.2.2.2.1, hk_.1.1.2.2.2.2.2.1, hk_.1.1.2.2.2.2.2.2⟩)); replace HO_679000 := Aside0.mk (Kd.R_mono (ok' := fun k_ => some k_ ≠ (.slice Ao34 t656.length co34 : Value).ownBlock ∧ some k_ ≠ (.slice Ao38 t662.length co38 : Value).ownBlock ∧ some k_ ≠ (.slice Ao47 t674.length co47 : Value).ownBlock ∧ some k_ ≠ (.slice Ao53 t682.length co53 : Value).ownBlock ∧ some k_ ≠ (.slice Ao59 t688.length co59 : Value).ownBlock ∧ some k_ ≠ (.slice Ao90 t695.length co90 : Value).ownBlock ∧ some k_ ≠ (.slice Ao92 t701.length co92 : Value).ownBlock) (Kd.R_keptB ((Kd.R_apart' HO_679000.out (Kd.R_typed HO_9.out) (by decide))) hkp (fun k_ hk_ hs_ => (hk_.2) hs_)) (fun k_ hk_ => ⟨hk_.1.1.1.1.1, hk_.1.1.1.1.2.1, hk_.1.1.1.1.2.2.1, hk_.1.1.1.1.2.2.2.1, hk_.1.1.1.1.2.2.2.2, hk_.1.1.1.2, hk_.1.1.2⟩)); replace HO_679001 := Aside0.mk (Kd.R_mono (ok' := fun k_ => some k_ ≠ (.slice Ao50 t679.length co50 : Value).ownBlock ∧ some k_ ≠ (.slice Ao37 t659.length co37 : Value).ownBlock ∧ some k_ ≠ (.slice Ao58 t685.length co58 : Value).ownBlock ∧ some k_ ≠ (.slice Ao91 t698.length co91 : Value).ownBlock ∧ some k_ ≠ (.slice Ao95 t706.length co95 : Value).ownBlock) (Kd.R_keptB (HO_679001.out) hkp (fun k_ hk_ hs_ => (hk_.1.1.1) hs_)) (fun k_ hk_ => ⟨hk_.1.1.1.1, hk_.1.1.1.2.1, hk_.1.1.1.2.2, hk_.1.1.2, hk_.1.2⟩)); replace HO_679002 := Aside0.mk (Kd.R_mono (ok' := fun k_ => some k_ ≠ (.slice Ao34 t656.length co34 : Value).ownBlock ∧ some k_ ≠ (.slice Ao38 t662.length co38 : Value).ownBlock ∧ some k_ ≠ (.slice Ao42 t668.length co42 : Value).ownBlock ∧ some k_ ≠ (.slice Ao53 t682.length co53 : Value).ownBlock ∧ some k_ ≠ (.slice Ao59 t688.length co59 : Value).ownBlock ∧ some k_ ≠ (.slice Ao90 t695.length co90 : Value).ownBlock ∧ some k_ ≠ (.slice Ao92 t701.length co92 : Value).ownBlock) (Kd.R_keptB ((Kd.R_apart' HO_679002.out (Kd.R_typed HO_9.out) (by decide))) hkp (fun k_ hk_ hs_ => (hk_.2) hs_)) (fun k_ hk_ => ⟨hk_.1.1.1.1.1, hk_.1.1.1.1.2.1, hk_.1.1.1.1.2.2.1, hk_.1.1.1.1.2.2.2.1, hk_.1.1.1.1.2.2.2.2, hk_.1.1.1.2, hk_.1.1.2⟩)); replace HO_694000 := Aside0.mk (Kd.R_mono (ok' := fun k_ => some k_ ≠ (.slice Ao34 t656.length co34 : Value).ownBlock ∧ some k_ ≠ (.slice Ao38 t662.length co38 : Value).ownBlock ∧ some k_ ≠ (.slice Ao42 t668.length co42 : Value).ownBlock ∧ some k_ ≠ (.slice Ao47 t674.length co47 : Value).ownBlock ∧ some k_ ≠ (.slice Ao59 t688.length co59 : Value).ownBlock ∧ some k_ ≠ (.slice Ao90 t695.length co90 : Value).ownBlock ∧ some k_ ≠ (.slice Ao92 t701.length co92 : Value).ownBlock) (Kd.R_keptB ((Kd.R_apart' HO_694000.out (Kd.R_typed HO_9.out) (by decide))) hkp (fun k_ hk_ hs_ => (hk_.2) hs_)) (fun k_ hk_ => ⟨hk_.1.1.1, hk_.1.1.2.1, hk_.1.1.2.2.1, hk_.1.1.2.2.2.1, hk_.1.1.2.2.2.2.1, hk_.1.1.2.2.2.2.2.1, hk_.1.1.2.2.2.2.2.2⟩)); replace HO_694001 := Aside0.mk (Kd.R_mono (ok' := fun k_ => some k_ ≠ (.slice Ao50 t679.length co50 : Value).ownBlock ∧ some k_ ≠ (.slice Ao37 t659.length co37 : Value).ownBlock ∧ some k_ ≠ (.slice Ao46 t671.length co46 : Value).ownBlock ∧ some k_ ≠ (.slice Ao91 t698.length co91 : Value).ownBlock ∧ some k_ ≠ (.slice Ao95 t706.length co95 : Value).ownBlock) (Kd.R_keptB (HO_694001.out) hkp (fun k_ hk_ hs_ => (hk_.1) hs_)) (fun k_ hk_ => ⟨hk_.1.1, hk_.1.2.1, hk_.1.2.2.1, hk_.1.2.2.2.1, hk_.1.2.2.2.2⟩)); replace HO_694002 := Aside0.mk (Kd.R_mono (ok' := fun k_ => some k_ ≠ (.slice Ao34 t656.length co34 : Value).ownBlock ∧ some k_ ≠ (.slice Ao38 t662.length co38 : Value).ownBlock ∧ some k_ ≠ (.slice Ao42 t668.length co42 : Value).ownBlock ∧ some k_ ≠ (.slice Ao47 t674.length co47 : Value).ownBlock ∧ some k_ ≠ (.slice Ao53 t682.length co53 : Value).ownBlock ∧ some k_ ≠ (.slice Ao90 t695.length co90 : Value).ownBlock ∧ some k_ ≠ (.slice Ao92 t701.length co92 : Value).ownBlock) (Kd.R_keptB ((Kd.R_apart' HO_694002.out (Kd.R_typed HO_9.out) (by decide))) hkp (fun k_ hk_ hs_ => (hk_.2) hs_)) (fun k_ hk_ => ⟨hk_.1.1.1, hk_.1.1.2.1, hk_.1.1.2.2.1, hk_.1.1.2.2.2.1, hk_.1.1.2.2.2.2.1, hk_.1.1.2.2.2.2.2.1, hk_.1.1.2.2.2.2.2.2⟩)); replace BK640 := Aside0.mk (blk_kept (bk BK640) hkp (fun hs_ => (fun e_ => (Kd.R_ne HO_9.out BK640.out (by decide)) e_) hs_)); replace BK667 := Aside0.mk (blk_kept (bk BK667) hkp (fun hs_ => (fun e_ => (Kd.R_ne HO_9.out BK667.out (by decide)) e_) hs_)); replace BK678 := Aside0.mk (blk_kept (bk BK678) hkp (fun hs_ => (fun e_ => (Kd.R_ne HO_9.out BK678.out (by decide)) e_) hs_)); replace BK693 := Aside0.mk (blk_kept (bk BK693) hkp (fun hs_ => (fun e_ => (Kd.R_ne HO_9.out BK693.out (by decide)) e_) hs_)); replace HO697 := Aside0.mk (Kd.R_mono (ok' := fun k_ => some k_ ≠ (.slice Ao34 t656.length co34 : Value).ownBlock ∧ some k_ ≠ (.slice Ao38 t662.length co38 : Value).ownBlock ∧ some k_ ≠ (.slice Ao42 t668.length co42 : Value).ownBlock ∧ some k_ ≠ (.slice Ao47 t674.length co47 : Value).ownBlock ∧ some k_ ≠ (.slice Ao53 t682.length co53 : Value).ownBlock ∧ some k_ ≠ (.slice Ao59 t688.length co59 : Value).ownBlock ∧ some k_ ≠ (.slice Ao92 t701.length co92 : Value).ownBlock) (Kd.R_keptB ((Kd.R_apart' HO697.out (Kd.R_typed HO_9.out) (by decide))) hkp (fun k_ hk_ hs_ => (hk_.2) hs_)) (fun k_ hk_ => ⟨hk_.1.1.1, hk_.1.1.2.1, hk_.1.1.2.2.1, hk_.1.1.2.2.2.1, hk_.1.1.2.2.2.2.1, hk_.1.1.2.2.2.2.2.1, hk_.1.1.2.2.2.2.2.2⟩)); replace HO700 := Aside0.mk (Kd.R_mono (ok' := fun k_ => some k_ ≠ (.slice Ao50 t679.length co50 : Value).ownBlock ∧ some k_ ≠ (.slice Ao37 t659.length co37 : Value).ownBlock ∧ some k_ ≠ (.slice Ao46 t671.length co46 : Value).ownBlock ∧ some k_ ≠ (.slice Ao58 t685.length co58 : Value).ownBlock ∧ some k_ ≠ (.slice Ao95 t706.length co95 : Value).ownBlock) (Kd.R_keptB (HO700.out) hkp (fun k_ hk_ hs_ => (hk_.1) hs_)) (fun k_ hk_ => ⟨hk_.1.1, hk_.1.2.1, hk_.1.2.2.1, hk_.1.2.2.2.1, hk_.1.2.2.2.2⟩)); replace HO703 := Aside0.mk (Kd.R_mono (ok' := fun k_ => some k_ ≠ (.slice Ao34 t656.length co34 : Value).ownBlock ∧ some k_ ≠ (.slice Ao38 t662.length co38 : Value).ownBlock ∧ some k_ ≠ (.slice Ao42 t668.length co42 : Value).ownBlock ∧ some k_ ≠ (.slice Ao47 t674.length co47 : Value).ownBlock ∧ some k_ ≠ (.slice Ao53 t682.length co53 : Value).ownBlock ∧ some k_ ≠ (.slice Ao59 t688.length co59 : Value).ownBlock ∧ some k_ ≠ (.slice Ao90 t695.length co90 : Value).ownBlock) (Kd.R_keptB ((Kd.R_apart' HO703.out (Kd.R_typed HO_9.out) (by decide))) hkp (fun k_ hk_ hs_ => (hk_.2) hs_)) (fun k_ hk_ => ⟨hk_.1.1.1, hk_.1.1.2.1, hk_.1.1.2.2.1, hk_.1.1.2.2.2.1, hk_.1.1.2.2.2.2.1, hk_.1.1.2.2.2.2.2.1, hk_.1.1.2.2.2.2.2.2⟩)); replace HO_9 := Aside0.mk (Kd.R_reok rfl hy0 (fun k_ e_ => HO_9.out.1 k_ e_)); replace HO708 := Aside0.mk (Kd.R_mono (ok' := fun k_ => some k_ ≠ (.slice Ao50 t679.length co50 : Value).ownBlock ∧ some k_ ≠ (.slice Ao37 t659.length co37 : Value).ownBlock ∧ some k_ ≠ (.slice Ao46 t671.length co46 : Value).ownBlock ∧ some k_ ≠ (.slice Ao58 t685.length co58 : Value).ownBlock ∧ some k_ ≠ (.slice Ao91 t698.length co91 : Value).ownBlock) (Kd.R_keptB (HO708.out) hkp (fun k_ hk_ hs_ => (hk_.1) hs_)) (fun k_ hk_ => ⟨hk_.1.1, hk_.1.2.1, hk_.1.2.2.1, hk_.1.2.2.2.1, hk_.1.2.2.2.2⟩)); replace HB := Aside0.mk (hb); (try clear hb); (try clear hkp); (try clear hy0)))
        (try simp only [Act.put, List.setIfInBounds_toArray, List.set_cons_zero, List.set_cons_succ])
        go_cut [82] (fun v82 wc => ∃ (kq : Nat) (x82_86 : Bool), v82 = .bool x82_86 ∧ Aside0 (laws_FnExactCommit.j1 kq l1 t666 x82_86 l0_0 l0_1 l0_2 a0_3 t656 t659 t662 t665 t682 t685 t688 t691 = some r) ∧ Aside0 (kq ≤ kj19) ∧ Aside0 (Kd.R Kd.string 9 wc w.heap.size (fun k_ => some k_ ≠ ((.slice Ao38 t662.length co38) : Value).ownBlock ∧ some k_ ≠ ((.slice Ao42 t668.length co42) : Value).ownBlock ∧ some k_ ≠ ((.slice Ao47 t674.length co47) : Value).ownBlock ∧ some k_ ≠ ((.slice Ao53 t682.length co53) : Value).ownBlock ∧ some k_ ≠ ((.slice Ao59 t688.length co59) : Value).ownBlock) (.slice Ao34 t656.length co34) t656) ∧ Aside0 (Kd.R k72 72 wc w.heap.size (fun k_ => some k_ ≠ ((.slice Ao46 t671.length co46) : Value).ownBlock ∧ some k_ ≠ ((.slice Ao58 t685.length co58) : Value).ownBlock) (.slice Ao37 t659.length co37) t659) ∧ Aside0 (Kd.R Kd.string 9 wc w.heap.size (fun k_ => some k_ ≠ ((.slice Ao34 t656.length co34) : Value).ownBlock ∧ some k_ ≠ ((.slice Ao42 t668.length co42) : Value).ownBlock ∧ some k_ ≠ ((.slice Ao47 t674.length co47) : Value).ownBlock ∧ some k_ ≠ ((.slice Ao53 t682.length co53) : Value).ownBlock ∧ some k_ ≠ ((.slice Ao59 t688.length co59) : Value).ownBlock) (.slice Ao38 t662.length co38) t662) ∧ Aside0 (Kd.R Kd.string 9 wc w.heap.size (fun k_ => some k_ ≠ ((.slice Ao34 t656.length co34) : Value).ownBlock ∧ some k_ ≠ ((.slice Ao38 t662.length co38) : Value).ownBlock ∧ some k_ ≠ ((.slice Ao47 t674.length co47) : Value).ownBlock ∧ some k_ ≠ ((.slice Ao53 t682.length co53) : Value).ownBlock ∧ some k_ ≠ ((.slice Ao59 t688.length co59) : Value).ownBlock) (.slice Ao42 t668.length co42) t711) ∧ Aside0 (Kd.R k72 72 wc w.heap.size (fun k_ => some k_ ≠ ((.slice Ao37 t659.length co37) : Value).ownBlock ∧ some k_ ≠ ((.slice Ao58 t685.length co58) : Value).ownBlock) (.slice Ao46 t671.length co46) t712) ∧ Aside0 (Kd.R Kd.string 9 wc w.heap.size (fun k_ => some k_ ≠ ((.slice Ao34 t656.length co34) : Value).ownBlock ∧ some k_ ≠ ((.slice Ao38 t662.length co38) : Value).ownBlock ∧ some k_ ≠ ((.slice Ao42 t668.length co42) : Value).ownBlock ∧ some k_ ≠ ((.slice Ao53 t682.length co53) : Value).ownBlock ∧ some k_ ≠ ((.slice Ao59 t688.length co59) : Value).ownBlock) (.slice Ao47 t674.length co47) t713) ∧ Aside0 (Kd.R Kd.string 9 wc w.heap.size (fun k_ => some k_ ≠ ((.slice Ao34 t656.length co34) : Value).ownBlock ∧ some k_ ≠ ((.slice Ao38 t662.length co38) : Value).ownBlock ∧ some k_ ≠ ((.slice Ao42 t668.length co42) : Value).ownBlock ∧ some k_ ≠ ((.slice Ao47 t674.length co47) : Value).ownBlock ∧ some k_ ≠ ((.slice Ao59 t688.length co59) : Value).ownBlock) (.slice Ao53 t682.length co53) t682) ∧ Aside0 (Kd.R k72 72 wc w.heap.size (fun k_ => some k_ ≠ ((.slice Ao37 t659.length co37) : Value).ownBlock ∧ some k_ ≠ ((.slice Ao46 t671.length co46) : Value).ownBlock) (.slice Ao58 t685.length co58) t685) ∧ Aside0 (Kd.R Kd.string 9 wc w.heap.size (fun k_ => some k_ ≠ ((.slice Ao34 t656.length co34) : Value).ownBlock ∧ some k_ ≠ ((.slice Ao38 t662.length co38) : Value).ownBlock ∧ some k_ ≠ ((.slice Ao42 t668.length co42) : Value).ownBlock ∧ some k_ ≠ ((.slice Ao47 t674.length co47) : Value).ownBlock ∧ some k_ ≠ ((.slice Ao53 t682.length co53) : Value).ownBlock) (.slice Ao59 t688.length co59) t688) ∧ Aside0 (wc.heap[gb640]? = some (.cells #[(.slice A0_0 l0_0.length c0_0), (.slice A0_1 l0_1.length c0_1), (.slice A0_2 l0_2.length c0_2), .int .i64 a0_3] 38 (0, 0))) ∧ Aside0 (wc.heap[gb667]? = some (.cells #[(.slice Ao34 t656.length co34), (.slice Ao37 t659.length co37), (.slice Ao38 t662.length co38), .int .i64 t665] 44 (0, 0))) ∧ Aside0 (wc.heap[gb678]? = some (.cells #[(.slice Ao42 t668.length co42), (.slice Ao46 t671.length co46), (.slice Ao47 t674.length co47), .int .i64 t677] 44 (0, 0))) ∧ Aside0 (wc.heap[gb693]? = some (.cells #[(.slice Ao53 t682.length co53), (.slice Ao58 t685.length co58), (.slice Ao59 t688.length co59), .int .i64 t691] 44 (0, 0))) ∧ Aside0 (Below w.heap.size w wc))
        case first =>
         have H := HC87.out
         clear HC87
         by_cases c103 : t714 < 0
         ·
          rw [if_pos c103] at H
          have c103b0 : decide (t714 < 0) = true := decide_eq_true c103
          clear c103
          (first | rw [c103b0] | (simp only [i64_w, i32_w]; rw [c103b0]) | (simp only [c103b2, Bool.not_false, Bool.not_true]) | skip)
          have H' := Aside0.mk H
          clear H
          go_wp2
          go_meet
          case rel => exact ⟨_, (true), (by first | rfl | (simp; done) | (simp [*]; done)), H', ⟨by have := HJ19.out; first | omega | exact Nat.le_refl _⟩, rm HO_668000 (fun _ hk => ⟨hk.1, ⟨hk.2.1, ⟨hk.2.2.1, ⟨hk.2.2.2.1, hk.2.2.2.2.1⟩⟩⟩⟩), rm HO_668001 (fun _ hk => ⟨hk.2.1, hk.2.2.1⟩), rm HO_668002 (fun _ hk => ⟨hk.1, ⟨hk.2.1, ⟨hk.2.2.1, ⟨hk.2.2.2.1, hk.2.2.2.2.1⟩⟩⟩⟩), rm HO_679000 (fun _ hk => ⟨hk.1, ⟨hk.2.1, ⟨hk.2.2.1, ⟨hk.2.2.2.1, hk.2.2.2.2.1⟩⟩⟩⟩), rm HO_679001 (fun _ hk => ⟨hk.2.1, hk.2.2.1⟩), rm HO_679002 (fun _ hk => ⟨hk.1, ⟨hk.2.1, ⟨hk.2.2.1, ⟨hk.2.2.2.1, hk.2.2.2.2.1⟩⟩⟩⟩), rm HO_694000 (fun _ hk => ⟨hk.1, ⟨hk.2.1, ⟨hk.2.2.1, ⟨hk.2.2.2.1, hk.2.2.2.2.1⟩⟩⟩⟩), rm HO_694001 (fun _ hk => ⟨hk.2.1, hk.2.2.1⟩), rm HO_694002 (fun _ hk => ⟨hk.1, ⟨hk.2.1, ⟨hk.2.2.1, ⟨hk.2.2.2.1, hk.2.2.2.2.1⟩⟩⟩⟩), ⟨bk BK640⟩, ⟨bk BK667⟩, ⟨bk BK678⟩, ⟨bk BK693⟩, ⟨bs4 HB GE640 GE667 GE678 GE693⟩⟩
         ·
          rw [if_neg c103] at H
          have c103b0 : decide (t714 < 0) = false := decide_eq_false c103
          clear c103
          (first | rw [c103b0] | (simp only [i64_w, i32_w]; rw [c103b0]) | (simp only [c103b2, Bool.not_false, Bool.not_true]) | skip)
          replace H := Option.bind_eq_some_iff.mp H
          obtain ⟨t716, A1040, H⟩ := H
          replace H : (if t716 = true then (laws_FnExactCommit.j1 kj19 l1 t666 (t692 != t666) l0_0 l0_1 l0_2 a0_3 t656 t659 t662 t665 t682 t685 t688 t691) else (laws_FnExactCommit.j1 kj19 l1 t666 true l0_0 l0_1 l0_2 a0_3 t656 t659 t662 t665 t682 t685 t688 t691)) = some r := H
          have A104 := Aside0.mk A1040
          clear A1040
          by_cases c105 : t716 = true
          ·
           subst c105
           rw [if_pos rfl] at H
           have H' := Aside0.mk H
           clear H
           have hnb106 := NB693_640.out
           have hnc106 := NB640_693.out
           have hnb107 := NB693_667.out
           have hnc107 := NB667_693.out
           have hnb108 := NB693_678.out
           have hnc108 := NB678_693.out
           obtain ⟨hcz109_0, hcz109_1, hcz109_2, hcz109_3⟩ := cz4 BK693
           obtain ⟨hfz109_0, hfz109_1, hfz109_2, hfz109_3⟩ := fz4 BK693
           have hnb110 := NB667_640.out
           have hnc110 := NB640_667.out
           have hnb111 := NB667_678.out
           have hnc111 := NB678_667.out
           obtain ⟨hcz112_0, hcz112_1, hcz112_2, hcz112_3⟩ := cz4 BK667
           obtain ⟨hfz112_0, hfz112_1, hfz112_2, hfz112_3⟩ := fz4 BK667
           go_wp2_with (first | (go_at_call 29; (with_reducible refine (laws_eqStore.calls kj19 _ _ t682 _ _ t685 _ _ t688 t691 _ _ t656 _ _ t659 _ _ t662 t665 true _ ?side1 ?side2 ?side3 ?side4 ?side5 ?side6 ?side7 ?side8 ?side9 ?side10 ?side11 ?side12 A104.out).mono ?_); (case side1 => exact rc0 HO_694000); (case side2 => exact (Kd.R_reads' HO_694000.out).2.1); (case side3 => exact rc0 HO_694001); (case side4 => exact (Kd.R_reads' HO_694001.out).2.1); (case side5 => exact rc0 HO_694002); (case side6 => exact (Kd.R_reads' HO_694002.out).2.1); (case side7 => exact rc0 HO_668000); (case side8 => exact (Kd.R_reads' HO_668000.out).2.1); (case side9 => exact rc0 HO_668001); (case side10 => exact (Kd.R_reads' HO_668001.out).2.1); (case side11 => exact rc0 HO_668002); (case side12 => exact (Kd.R_reads' HO_668002.out).2.1); rintro e w113 ⟨rfl, hb⟩; replace HO_9 := nr HO_9 hb; replace HO_668000 := nr HO_668000 hb; replace HO_668001 := nr HO_668001 hb; replace HO_668002 := nr HO_668002 hb; replace HO_679000 := nr HO_679000 hb; replace HO_679001 := nr HO_679001 hb; replace HO_679002 := nr HO_679002 hb; replace HO_694000 := nr HO_694000 hb; replace HO_694001 := nr HO_694001 hb; replace HO_694002 := nr HO_694002 hb; replace HO697 := nr HO697 hb; replace HO700 := nr HO700 hb; replace HO703 := nr HO703 hb; replace HO708 := nr HO708 hb; replace BK640 := nb BK640 hb; replace BK667 := nb BK667 hb; replace BK678 := nb BK678 hb; replace BK693 := nb BK693 hb; replace HB := Aside0.mk (below_step (bs4 HB GE640 GE667 GE678 GE693) hb); (try clear hb); (try clear hb2); (try clear hk); (try clear hi)))
           go_meet
           case rel => exact ⟨_, ((t692 != t666)), (by first | rfl | (simp; done) | (simp [*]; done)), H', ⟨by have := HJ19.out; first | omega | exact Nat.le_refl _⟩, rm HO_668000 (fun _ hk => ⟨hk.1, ⟨hk.2.1, ⟨hk.2.2.1, ⟨hk.2.2.2.1, hk.2.2.2.2.1⟩⟩⟩⟩), rm HO_668001 (fun _ hk => ⟨hk.2.1, hk.2.2.1⟩), rm HO_668002 (fun _ hk => ⟨hk.1, ⟨hk.2.1, ⟨hk.2.2.1, ⟨hk.2.2.2.1, hk.2.2.2.2.1⟩⟩⟩⟩), rm HO_679000 (fun _ hk => ⟨hk.1, ⟨hk.2.1, ⟨hk.2.2.1, ⟨hk.2.2.2.1, hk.2.2.2.2.1⟩⟩⟩⟩), rm HO_679001 (fun _ hk => ⟨hk.2.1, hk.2.2.1⟩), rm HO_679002 (fun _ hk => ⟨hk.1, ⟨hk.2.1, ⟨hk.2.2.1, ⟨hk.2.2.2.1, hk.2.2.2.2.1⟩⟩⟩⟩), rm HO_694000 (fun _ hk => ⟨hk.1, ⟨hk.2.1, ⟨hk.2.2.1, ⟨hk.2.2.2.1, hk.2.2.2.2.1⟩⟩⟩⟩), rm HO_694001 (fun _ hk => ⟨hk.2.1, hk.2.2.1⟩), rm HO_694002 (fun _ hk => ⟨hk.1, ⟨hk.2.1, ⟨hk.2.2.1, ⟨hk.2.2.2.1, hk.2.2.2.2.1⟩⟩⟩⟩), ⟨bk BK640⟩, ⟨bk BK667⟩, ⟨bk BK678⟩, ⟨bk BK693⟩, ⟨bs4 HB GE640 GE667 GE678 GE693⟩⟩
          ·
           replace c105 := Bool.eq_false_iff.mpr c105
           subst c105
           rw [if_neg (show ¬ (false = true) by decide)] at H
           have H' := Aside0.mk H
           clear H
           have hnb114 := NB693_640.out
           have hnc114 := NB640_693.out
           have hnb115 := NB693_667.out
           have hnc115 := NB667_693.out
           have hnb116 := NB693_678.out
           have hnc116 := NB678_693.out
           obtain ⟨hcz117_0, hcz117_1, hcz117_2, hcz117_3⟩ := cz4 BK693
           obtain ⟨hfz117_0, hfz117_1, hfz117_2, hfz117_3⟩ := fz4 BK693
           have hnb118 := NB667_640.out
           have hnc118 := NB640_667.out
           have hnb119 := NB667_678.out
           have hnc119 := NB678_667.out
           obtain ⟨hcz120_0, hcz120_1, hcz120_2, hcz120_3⟩ := cz4 BK667
           obtain ⟨hfz120_0, hfz120_1, hfz120_2, hfz120_3⟩ := fz4 BK667
           go_wp2_with (first | (go_at_call 29; (with_reducible refine (laws_eqStore.calls kj19 _ _ t682 _ _ t685 _ _ t688 t691 _ _ t656 _ _ t659 _ _ t662 t665 false _ ?side1 ?side2 ?side3 ?side4 ?side5 ?side6 ?side7 ?side8 ?side9 ?side10 ?side11 ?side12 A104.out).mono ?_); (case side1 => exact rc0 HO_694000); (case side2 => exact (Kd.R_reads' HO_694000.out).2.1); (case side3 => exact rc0 HO_694001); (case side4 => exact (Kd.R_reads' HO_694001.out).2.1); (case side5 => exact rc0 HO_694002); (case side6 => exact (Kd.R_reads' HO_694002.out).2.1); (case side7 => exact rc0 HO_668000); (case side8 => exact (Kd.R_reads' HO_668000.out).2.1); (case side9 => exact rc0 HO_668001); (case side10 => exact (Kd.R_reads' HO_668001.out).2.1); (case side11 => exact rc0 HO_668002); (case side12 => exact (Kd.R_reads' HO_668002.out).2.1); rintro e w121 ⟨rfl, hb⟩; replace HO_9 := nr HO_9 hb; replace HO_668000 := nr HO_668000 hb; replace HO_668001 := nr HO_668001 hb; replace HO_668002 := nr HO_668002 hb; replace HO_679000 := nr HO_679000 hb; replace HO_679001 := nr HO_679001 hb; replace HO_679002 := nr HO_679002 hb; replace HO_694000 := nr HO_694000 hb; replace HO_694001 := nr HO_694001 hb; replace HO_694002 := nr HO_694002 hb; replace HO697 := nr HO697 hb; replace HO700 := nr HO700 hb; replace HO703 := nr HO703 hb; replace HO708 := nr HO708 hb; replace BK640 := nb BK640 hb; replace BK667 := nb BK667 hb; replace BK678 := nb BK678 hb; replace BK693 := nb BK693 hb; replace HB := Aside0.mk (below_step (bs4 HB GE640 GE667 GE678 GE693) hb); (try clear hb); (try clear hb2); (try clear hk); (try clear hi)))
           go_meet
           case rel => exact ⟨_, (true), (by first | rfl | (simp; done) | (simp [*]; done)), H', ⟨by have := HJ19.out; first | omega | exact Nat.le_refl _⟩, rm HO_668000 (fun _ hk => ⟨hk.1, ⟨hk.2.1, ⟨hk.2.2.1, ⟨hk.2.2.2.1, hk.2.2.2.2.1⟩⟩⟩⟩), rm HO_668001 (fun _ hk => ⟨hk.2.1, hk.2.2.1⟩), rm HO_668002 (fun _ hk => ⟨hk.1, ⟨hk.2.1, ⟨hk.2.2.1, ⟨hk.2.2.2.1, hk.2.2.2.2.1⟩⟩⟩⟩), rm HO_679000 (fun _ hk => ⟨hk.1, ⟨hk.2.1, ⟨hk.2.2.1, ⟨hk.2.2.2.1, hk.2.2.2.2.1⟩⟩⟩⟩), rm HO_679001 (fun _ hk => ⟨hk.2.1, hk.2.2.1⟩), rm HO_679002 (fun _ hk => ⟨hk.1, ⟨hk.2.1, ⟨hk.2.2.1, ⟨hk.2.2.2.1, hk.2.2.2.2.1⟩⟩⟩⟩), rm HO_694000 (fun _ hk => ⟨hk.1, ⟨hk.2.1, ⟨hk.2.2.1, ⟨hk.2.2.2.1, hk.2.2.2.2.1⟩⟩⟩⟩), rm HO_694001 (fun _ hk => ⟨hk.2.1, hk.2.2.1⟩), rm HO_694002 (fun _ hk => ⟨hk.1, ⟨hk.2.1, ⟨hk.2.2.1, ⟨hk.2.2.2.1, hk.2.2.2.2.1⟩⟩⟩⟩), ⟨bk BK640⟩, ⟨bk BK667⟩, ⟨bk BK678⟩, ⟨bk BK693⟩, ⟨bs4 HB GE640 GE667 GE678 GE693⟩⟩
        case rest =>
         clear HC87
         try clear c1
         try clear c2
         try clear p2
         try clear c3
         try clear c4
         try clear c4b0
         try clear c5
         try clear c6
         try clear c7
         try clear c8
         try clear c9
         try clear c9b0
         try clear c10
         try clear c11
         try clear c16
         try clear c18
         try clear c20
         try clear c23
         try clear c25
         try clear c27
         try clear c29
         try clear c32
         try clear c35
         try clear c39
         try clear c40
         try clear c43
         try clear c44
         try clear c54
         try clear c55
         try clear c56
         try clear c61
         try clear c62
         try clear c63
         try clear c64
         try clear c66
         try clear c67
         try clear c70
         try clear c71
         try clear c72
         try clear c74
         try clear c75
         try clear c78
         try clear c81
         try clear c84
         try clear c97
         try clear c98
         try clear c99
         try clear c103
         try clear c103b0
         try clear c105
         try clear c106
         try clear c107
         try clear c108
         try clear c110
         try clear c111
         try clear c114
         try clear c115
         try clear c116
         try clear c118
         try clear c119
         try clear hcz100_0 hcz100_1 hcz100_2 hcz100_3
         try clear hcz109_0 hcz109_1 hcz109_2 hcz109_3
         try clear hcz112_0 hcz112_1 hcz112_2 hcz112_3
         try clear hcz117_0 hcz117_1 hcz117_2 hcz117_3
         try clear hcz11_0 hcz11_1 hcz11_2 hcz11_3
         try clear hcz120_0 hcz120_1 hcz120_2 hcz120_3
         try clear hcz22_0 hcz22_1 hcz22_2 hcz22_3
         try clear hcz25_0 hcz25_1 hcz25_2 hcz25_3
         try clear hcz36_0 hcz36_1 hcz36_2 hcz36_3
         try clear hcz39_0 hcz39_1 hcz39_2 hcz39_3
         try clear hcz45_0 hcz45_1 hcz45_2 hcz45_3
         try clear hcz49_0 hcz49_1 hcz49_2 hcz49_3
         try clear hcz57_0 hcz57_1 hcz57_2 hcz57_3
         try clear hcz65_0 hcz65_1 hcz65_2 hcz65_3
         try clear hcz68_0 hcz68_1 hcz68_2 hcz68_3
         try clear hcz6_0 hcz6_1 hcz6_2 hcz6_3
         try clear hcz73_0 hcz73_1 hcz73_2 hcz73_3
         try clear hcz76_0 hcz76_1 hcz76_2 hcz76_3
         try clear hfz100_0 hfz100_1 hfz100_2 hfz100_3
         try clear hfz109_0 hfz109_1 hfz109_2 hfz109_3
         try clear hfz112_0 hfz112_1 hfz112_2 hfz112_3
         try clear hfz117_0 hfz117_1 hfz117_2 hfz117_3
         try clear hfz11_0 hfz11_1 hfz11_2 hfz11_3
         try clear hfz120_0 hfz120_1 hfz120_2 hfz120_3
         try clear hfz22_0 hfz22_1 hfz22_2 hfz22_3
         try clear hfz25_0 hfz25_1 hfz25_2 hfz25_3
         try clear hfz36_0 hfz36_1 hfz36_2 hfz36_3
         try clear hfz39_0 hfz39_1 hfz39_2 hfz39_3
         try clear hfz45_0 hfz45_1 hfz45_2 hfz45_3
         try clear hfz49_0 hfz49_1 hfz49_2 hfz49_3
         try clear hfz57_0 hfz57_1 hfz57_2 hfz57_3
         try clear hfz65_0 hfz65_1 hfz65_2 hfz65_3
         try clear hfz68_0 hfz68_1 hfz68_2 hfz68_3
         try clear hfz6_0 hfz6_1 hfz6_2 hfz6_3
         try clear hfz73_0 hfz73_1 hfz73_2 hfz73_3
         try clear hfz76_0 hfz76_1 hfz76_2 hfz76_3
         try clear p2
         obtain ⟨kq, x82_86, rfl, HA, HJ86, HO_668000, HO_668001, HO_668002, HO_679000, HO_679001, HO_679002, HO_694000, HO_694001, HO_694002, BK640, BK667, BK678, BK693, HB⟩ := hcut
         have hl679000_86 := (Kd.R_reads' HO_679000.out).1
         rw [hl679000_86] at HO_679000
         (try simp only [hl679000_86])
         (try simp only [hl679000_86] at BK640)
         (try simp only [hl679000_86] at BK667)
         (try simp only [hl679000_86] at BK678)
         (try simp only [hl679000_86] at BK693)
         (try simp only [hl679000_86] at HO_668000)
         (try simp only [hl679000_86] at HO_668001)
         (try simp only [hl679000_86] at HO_668002)
         (try simp only [hl679000_86] at HO_679001)
         (try simp only [hl679000_86] at HO_679002)
         (try simp only [hl679000_86] at HO_694000)
         (try simp only [hl679000_86] at HO_694001)
         (try simp only [hl679000_86] at HO_694002)
         have hl679001_86 := (Kd.R_reads' HO_679001.out).1
         rw [hl679001_86] at HO_679001
         (try simp only [hl679001_86])
         (try simp only [hl679001_86] at BK640)
         (try simp only [hl679001_86] at BK667)
         (try simp only [hl679001_86] at BK678)
         (try simp only [hl679001_86] at BK693)
         (try simp only [hl679001_86] at HO_668000)
         (try simp only [hl679001_86] at HO_668001)
         (try simp only [hl679001_86] at HO_668002)
         (try simp only [hl679001_86] at HO_679000)
         (try simp only [hl679001_86] at HO_679002)
         (try simp only [hl679001_86] at HO_694000)
         (try simp only [hl679001_86] at HO_694001)
         (try simp only [hl679001_86] at HO_694002)
         have hl679002_86 := (Kd.R_reads' HO_679002.out).1
         rw [hl679002_86] at HO_679002
         (try simp only [hl679002_86])
         (try simp only [hl679002_86] at BK640)
         (try simp only [hl679002_86] at BK667)
         (try simp only [hl679002_86] at BK678)
         (try simp only [hl679002_86] at BK693)
         (try simp only [hl679002_86] at HO_668000)
         (try simp only [hl679002_86] at HO_668001)
         (try simp only [hl679002_86] at HO_668002)
         (try simp only [hl679002_86] at HO_679000)
         (try simp only [hl679002_86] at HO_679001)
         (try simp only [hl679002_86] at HO_694000)
         (try simp only [hl679002_86] at HO_694001)
         (try simp only [hl679002_86] at HO_694002)
         cases kq with
         | zero => exact absurd HA.out (by simp [laws_FnExactCommit.j1])
         | succ kj86 =>
          have H := HA.out
          clear HA
          simp only [laws_FnExactCommit.j1] at H
          by_cases c122 : x82_86 = true
          ·
           subst c122
           rw [if_pos rfl] at H
           obtain rfl := Option.some.inj H
           go_wp2
           go_ret
           exact ⟨by first | rfl | (simp [errW_none, errW_some] <;> rfl) | (simp [*, errW_none, errW_some] <;> rfl), bs4 HB GE640 GE667 GE678 GE693⟩
          ·
           replace c122 := Bool.eq_false_iff.mpr c122
           subst c122
           rw [if_neg (show ¬ (false = true) by decide)] at H
           replace H := Option.bind_eq_some_iff.mp H
           obtain ⟨⟨t717, t718, t719, t720⟩, A1230, H⟩ := H
           replace H : ((laws_heldStore.f kj86 t718 t719 t720 t691 1).bind fun t721 => (if t721 < 0 then (some false) else (if t721 = t717 then ((laws_toStore.f kj86 l0_0 l0_1 l0_2 a0_3).bind fun bt722 => ((laws_toWriteS.f kj86 l1).bind fun t732 => ((impl_Commit.f kj86 bt722.1 bt722.2.1 bt722.2.2.1 bt722.2.2.2 t732).bind fun bt735 => ((laws_eqStore.f kj86 bt735.1 bt735.2.1 bt735.2.2.1 bt735.2.2.2.1 t656 t659 t662 t665).bind fun t747 => (if t747 = true then (laws_FnExactCommit.j2 kj86 t717 (bt735.2.2.2.2 != t666) t718 t719 t720 t691) else (laws_FnExactCommit.j2 kj86 t717 true t718 t719 t720 t691)))))) else (some false)))) = some r := H
           have A123 := Aside0.mk A1230
           clear A1230
           replace H := Option.bind_eq_some_iff.mp H
           obtain ⟨t721, A1240, H⟩ := H
           replace H : (if t721 < 0 then (some false) else (if t721 = t717 then ((laws_toStore.f kj86 l0_0 l0_1 l0_2 a0_3).bind fun bt722 => ((laws_toWriteS.f kj86 l1).bind fun t732 => ((impl_Commit.f kj86 bt722.1 bt722.2.1 bt722.2.2.1 bt722.2.2.2 t732).bind fun bt735 => ((laws_eqStore.f kj86 bt735.1 bt735.2.1 bt735.2.2.1 bt735.2.2.2.1 t656 t659 t662 t665).bind fun t747 => (if t747 = true then (laws_FnExactCommit.j2 kj86 t717 (bt735.2.2.2.2 != t666) t718 t719 t720 t691) else (laws_FnExactCommit.j2 kj86 t717 true t718 t719 t720 t691)))))) else (some false))) = some r := H
           have A124 := Aside0.mk A1240
           clear A1240
           by_cases c125 : t721 < 0
           ·
            rw [if_pos c125] at H
            have c125b0 : decide (t721 < 0) = true := decide_eq_true c125
            clear c125
            obtain rfl := Option.some.inj H
            have hnb126 := NB693_640.out
            have hnc126 := NB640_693.out
            have hnb127 := NB693_667.out
            have hnc127 := NB667_693.out
            have hnb128 := NB693_678.out
            have hnc128 := NB678_693.out
            obtain ⟨hcz129_0, hcz129_1, hcz129_2, hcz129_3⟩ := cz4 BK693
            obtain ⟨hfz129_0, hfz129_1, hfz129_2, hfz129_3⟩ := fz4 BK693
            go_wp2_with (first | ((with_reducible refine gate_callee (f := 32) rfl ?_); refine gL (some 85) rfl rfl Try.func32 (by kernel_rfl) rfl #[.agg #[.slice Ao53 t682.length co53, .slice Ao58 t685.length co58, .slice Ao59 t688.length co59, .int .i64 t691], .int .i64 1] rfl ?_; (with_reducible refine (laws_markStore.calls kj86 (fun k_ => some k_ = (.slice Ao53 t682.length co53 : Value).ownBlock) (.slice Ao53 t682.length co53) t682 (fun k_ => some k_ = (.slice Ao58 t685.length co58 : Value).ownBlock) (.slice Ao58 t685.length co58) t685 (fun k_ => some k_ = (.slice Ao59 t688.length co59 : Value).ownBlock) (.slice Ao59 t688.length co59) t688 t691 1 t717 t718 t719 t720 w _ ?side1 ?side2 ?side3 ?side4 ?side5 ?side6 A123.out).mono ?_); (case side1 => repeat (first | (with_reducible first | exact HB.out | apply below_alloc | apply pw_below_drewN | apply below_drew1 | refine below_set ?_ GE640.out | refine below_set ?_ GE667.out | refine below_set ?_ GE678.out | refine below_set ?_ GE693.out) | exact HB.out)); (case side2 => exact Kd.R_tight rfl HO_694000.out); (case side3 => exact fun k_ e_ => (HO_694000.out.1 k_ e_.symm).2.2.2.2); (case side4 => exact Kd.R_tight rfl HO_694001.out); (case side5 => exact Kd.R_tight rfl HO_694002.out); (case side6 => exact fun k_ e_ => (HO_694002.out.1 k_ e_.symm).2.2.2.2); rintro e w130 ⟨rfl, hy0, hy1, hy2, hb, hkp⟩; refine ⟨_, rfl, ?_⟩; replace HO_668000 := Aside0.mk (Kd.R_mono (ok' := fun k_ => some k_ ≠ (.slice Ao38 t662.length co38 : Value).ownBlock ∧ some k_ ≠ (.slice Ao42 t711.length co42 : Value).ownBlock ∧ some k_ ≠ (.slice Ao47 t713.length co47 : Value).ownBlock ∧ some k_ ≠ (.slice Ao53 t682.length co53 : Value).ownBlock ∧ some k_ ≠ (.slice Ao59 t688.length co59 : Value).ownBlock) (Kd.R_keptB ((Kd.R_apart' HO_668000.out (Kd.R_typed HO_694001.out) (by decide))) hkp (fun k_ hk_ hs_ => Or.elim hs_ (fun e_ => (hk_.1.2.2.2.1) e_) (fun e_ => Or.elim e_ (fun e_ => (hk_.2) e_) (fun e_ => (hk_.1.2.2.2.2) e_)))) (fun k_ hk_ => ⟨hk_.1.1.1, hk_.1.1.2.1, hk_.1.1.2.2.1, hk_.1.1.2.2.2.1, hk_.1.1.2.2.2.2⟩)); replace HO_668001 := Aside0.mk (Kd.R_mono (ok' := fun k_ => some k_ ≠ (.slice Ao46 t712.length co46 : Value).ownBlock ∧ some k_ ≠ (.slice Ao58 t685.length co58 : Value).ownBlock) (Kd.R_keptB ((Kd.R_apart' (Kd.R_apart' HO_668001.out (Kd.R_typed HO_694000.out) (by decide)) (Kd.R_typed HO_694002.out) (by decide))) hkp (fun k_ hk_ hs_ => Or.elim hs_ (fun e_ => (hk_.1.2) e_) (fun e_ => Or.elim e_ (fun e_ => (hk_.1.1.2) e_) (fun e_ => (hk_.2) e_)))) (fun k_ hk_ => ⟨hk_.1.1.1.1, hk_.1.1.1.2⟩)); replace HO_668002 := Aside0.mk (Kd.R_mono (ok' := fun k_ => some k_ ≠ (.slice Ao34 t656.length co34 : Value).ownBlock ∧ some k_ ≠ (.slice Ao42 t711.length co42 : Value).ownBlock ∧ some k_ ≠ (.slice Ao47 t713.length co47 : Value).ownBlock ∧ some k_ ≠ (.slice Ao53 t682.length co53 : Value).ownBlock ∧ some k_ ≠ (.slice Ao59 t688.length co59 : Value).ownBlock) (Kd.R_keptB ((Kd.R_apart' HO_668002.out (Kd.R_typed HO_694001.out) (by decide))) hkp (fun k_ hk_ hs_ => Or.elim hs_ (fun e_ => (hk_.1.2.2.2.1) e_) (fun e_ => Or.elim e_ (fun e_ => (hk_.2) e_) (fun e_ => (hk_.1.2.2.2.2) e_)))) (fun k_ hk_ => ⟨hk_.1.1.1, hk_.1.1.2.1, hk_.1.1.2.2.1, hk_.1.1.2.2.2.1, hk_.1.1.2.2.2.2⟩)); replace HO_679000 := Aside0.mk (Kd.R_mono (ok' := fun k_ => some k_ ≠ (.slice Ao34 t656.length co34 : Value).ownBlock ∧ some k_ ≠ (.slice Ao38 t662.length co38 : Value).ownBlock ∧ some k_ ≠ (.slice Ao47 t713.length co47 : Value).ownBlock ∧ some k_ ≠ (.slice Ao53 t682.length co53 : Value).ownBlock ∧ some k_ ≠ (.slice Ao59 t688.length co59 : Value).ownBlock) (Kd.R_keptB ((Kd.R_apart' HO_679000.out (Kd.R_typed HO_694001.out) (by decide))) hkp (fun k_ hk_ hs_ => Or.elim hs_ (fun e_ => (hk_.1.2.2.2.1) e_) (fun e_ => Or.elim e_ (fun e_ => (hk_.2) e_) (fun e_ => (hk_.1.2.2.2.2) e_)))) (fun k_ hk_ => ⟨hk_.1.1.1, hk_.1.1.2.1, hk_.1.1.2.2.1, hk_.1.1.2.2.2.1, hk_.1.1.2.2.2.2⟩)); replace HO_679001 := Aside0.mk (Kd.R_mono (ok' := fun k_ => some k_ ≠ (.slice Ao37 t659.length co37 : Value).ownBlock ∧ some k_ ≠ (.slice Ao58 t685.length co58 : Value).ownBlock) (Kd.R_keptB ((Kd.R_apart' (Kd.R_apart' HO_679001.out (Kd.R_typed HO_694000.out) (by decide)) (Kd.R_typed HO_694002.out) (by decide))) hkp (fun k_ hk_ hs_ => Or.elim hs_ (fun e_ => (hk_.1.2) e_) (fun e_ => Or.elim e_ (fun e_ => (hk_.1.1.2) e_) (fun e_ => (hk_.2) e_)))) (fun k_ hk_ => ⟨hk_.1.1.1.1, hk_.1.1.1.2⟩)); replace HO_679002 := Aside0.mk (Kd.R_mono (ok' := fun k_ => some k_ ≠ (.slice Ao34 t656.length co34 : Value).ownBlock ∧ some k_ ≠ (.slice Ao38 t662.length co38 : Value).ownBlock ∧ some k_ ≠ (.slice Ao42 t711.length co42 : Value).ownBlock ∧ some k_ ≠ (.slice Ao53 t682.length co53 : Value).ownBlock ∧ some k_ ≠ (.slice Ao59 t688.length co59 : Value).ownBlock) (Kd.R_keptB ((Kd.R_apart' HO_679002.out (Kd.R_typed HO_694001.out) (by decide))) hkp (fun k_ hk_ hs_ => Or.elim hs_ (fun e_ => (hk_.1.2.2.2.1) e_) (fun e_ => Or.elim e_ (fun e_ => (hk_.2) e_) (fun e_ => (hk_.1.2.2.2.2) e_)))) (fun k_ hk_ => ⟨hk_.1.1.1, hk_.1.1.2.1, hk_.1.1.2.2.1, hk_.1.1.2.2.2.1, hk_.1.1.2.2.2.2⟩)); replace BK640 := Aside0.mk (blk_kept (bk BK640) hkp (fun hs_ => Or.elim hs_ (fun e_ => (fun e_ => (Kd.R_ne HO_694000.out BK640.out (by decide)) e_) e_) (fun e_ => Or.elim e_ (fun e_ => (fun e_ => (Kd.R_ne HO_694001.out BK640.out (by decide)) e_) e_) (fun e_ => (fun e_ => (Kd.R_ne HO_694002.out BK640.out (by decide)) e_) e_)))); replace BK667 := Aside0.mk (blk_kept (bk BK667) hkp (fun hs_ => Or.elim hs_ (fun e_ => (fun e_ => (Kd.R_ne HO_694000.out BK667.out (by decide)) e_) e_) (fun e_ => Or.elim e_ (fun e_ => (fun e_ => (Kd.R_ne HO_694001.out BK667.out (by decide)) e_) e_) (fun e_ => (fun e_ => (Kd.R_ne HO_694002.out BK667.out (by decide)) e_) e_)))); replace BK678 := Aside0.mk (blk_kept (bk BK678) hkp (fun hs_ => Or.elim hs_ (fun e_ => (fun e_ => (Kd.R_ne HO_694000.out BK678.out (by decide)) e_) e_) (fun e_ => Or.elim e_ (fun e_ => (fun e_ => (Kd.R_ne HO_694001.out BK678.out (by decide)) e_) e_) (fun e_ => (fun e_ => (Kd.R_ne HO_694002.out BK678.out (by decide)) e_) e_)))); replace BK693 := Aside0.mk (blk_kept (bk BK693) hkp (fun hs_ => Or.elim hs_ (fun e_ => (fun e_ => (Kd.R_ne HO_694000.out BK693.out (by decide)) e_) e_) (fun e_ => Or.elim e_ (fun e_ => (fun e_ => (Kd.R_ne HO_694001.out BK693.out (by decide)) e_) e_) (fun e_ => (fun e_ => (Kd.R_ne HO_694002.out BK693.out (by decide)) e_) e_)))); replace HO_694000 := Aside0.mk (Kd.R_reok rfl hy0 (fun k_ e_ => HO_694000.out.1 k_ e_)); replace HO_694001 := Aside0.mk (Kd.R_reok rfl hy1 (fun k_ e_ => HO_694001.out.1 k_ e_)); replace HO_694002 := Aside0.mk (Kd.R_reok rfl hy2 (fun k_ e_ => HO_694002.out.1 k_ e_)); replace HB := Aside0.mk (hb); (try clear hb); (try clear hkp); (try clear hy0); (try clear hy1); (try clear hy2); obtain ⟨hcz131_0, hcz131_1, hcz131_2, hcz131_3⟩ := cz4 BK693; obtain ⟨hfz131_0, hfz131_1, hfz131_2, hfz131_3⟩ := fz4 BK693) | ((with_reducible refine gate_callee (f := 33) rfl ?_); refine goesL_ (some 88) rfl rfl Try.func33 (by kernel_rfl) rfl #[.agg #[.slice Ao53 t718.length co53, .slice Ao58 t719.length co58, .slice Ao59 t720.length co59, .int .i64 t691], .int .i64 1] rfl (by (try simp only [List.map_toArray, List.map_cons, List.map_nil]); first | done | (rw [show t718.length = t682.length from (Kd.R_reads' HO_694000.out).1.symm, show t719.length = t685.length from (Kd.R_reads' HO_694001.out).1.symm, show t720.length = t688.length from (Kd.R_reads' HO_694002.out).1.symm] <;> rfl) | rfl | (simp only [List.length_drop, List.length_take]; rfl)) ?_; (with_reducible refine (laws_heldStore.calls kj86 _ _ t718 _ _ t719 _ _ t720 t691 1 t721 _ ?side1 ?side2 ?side3 ?side4 ?side5 ?side6 A124.out).mono ?_); (case side1 => exact rc0 HO_694000); (case side2 => rw [show t718.length = t682.length from (Kd.R_reads' HO_694000.out).1.symm]; exact (Kd.R_reads' HO_694000.out).2.1); (case side3 => exact rc0 HO_694001); (case side4 => rw [show t719.length = t685.length from (Kd.R_reads' HO_694001.out).1.symm]; exact (Kd.R_reads' HO_694001.out).2.1); (case side5 => exact rc0 HO_694002); (case side6 => rw [show t720.length = t688.length from (Kd.R_reads' HO_694002.out).1.symm]; exact (Kd.R_reads' HO_694002.out).2.1); rintro e w132 ⟨rfl, hb⟩; refine ⟨_, rfl, ?_⟩; replace HO_668000 := nr HO_668000 hb; replace HO_668001 := nr HO_668001 hb; replace HO_668002 := nr HO_668002 hb; replace HO_679000 := nr HO_679000 hb; replace HO_679001 := nr HO_679001 hb; replace HO_679002 := nr HO_679002 hb; replace HO_694000 := nr HO_694000 hb; replace HO_694001 := nr HO_694001 hb; replace HO_694002 := nr HO_694002 hb; replace BK640 := nb BK640 hb; replace BK667 := nb BK667 hb; replace BK678 := nb BK678 hb; replace BK693 := nb BK693 hb; replace HB := Aside0.mk (below_step (bs4 HB GE640 GE667 GE678 GE693) hb); (try clear hb); (try clear hb2); (try clear hk); (try clear hi)))
            go_ret
            exact ⟨by first | rfl | (simp [errW_none, errW_some] <;> rfl) | (simp [*, errW_none, errW_some] <;> rfl), bs4 HB GE640 GE667 GE678 GE693⟩
           ·
            rw [if_neg c125] at H
            have c125b0 : decide (t721 < 0) = false := decide_eq_false c125
            clear c125
            by_cases c133 : t721 = t717
            ·
             rw [if_pos c133] at H
             have c133b0 : (t721 == t717) = true := beq_iff_eq.mpr c133
             have c133b1 : (t721 != t717) = false := bne_eq_false_iff_eq.mpr c133
             clear c133
             replace H := Option.bind_eq_some_iff.mp H
             obtain ⟨⟨t722, t725, t728, t731⟩, A1340, H⟩ := H
             replace H : ((laws_toWriteS.f kj86 l1).bind fun t732 => ((impl_Commit.f kj86 t722 t725 t728 t731 t732).bind fun bt735 => ((laws_eqStore.f kj86 bt735.1 bt735.2.1 bt735.2.2.1 bt735.2.2.2.1 t656 t659 t662 t665).bind fun t747 => (if t747 = true then (laws_FnExactCommit.j2 kj86 t717 (bt735.2.2.2.2 != t666) t718 t719 t720 t691) else (laws_FnExactCommit.j2 kj86 t717 true t718 t719 t720 t691))))) = some r := H
             have A134 := Aside0.mk A1340
             clear A1340
             replace H := Option.bind_eq_some_iff.mp H
             obtain ⟨t732, A1350, H⟩ := H
             replace H : ((impl_Commit.f kj86 t722 t725 t728 t731 t732).bind fun bt735 => ((laws_eqStore.f kj86 bt735.1 bt735.2.1 bt735.2.2.1 bt735.2.2.2.1 t656 t659 t662 t665).bind fun t747 => (if t747 = true then (laws_FnExactCommit.j2 kj86 t717 (bt735.2.2.2.2 != t666) t718 t719 t720 t691) else (laws_FnExactCommit.j2 kj86 t717 true t718 t719 t720 t691)))) = some r := H
             have A135 := Aside0.mk A1350
             clear A1350
             replace H := Option.bind_eq_some_iff.mp H
             obtain ⟨⟨t735, t738, t741, t744, t745⟩, A1360, H⟩ := H
             replace H : ((laws_eqStore.f kj86 t735 t738 t741 t744 t656 t659 t662 t665).bind fun t747 => (if t747 = true then (laws_FnExactCommit.j2 kj86 t717 (t745 != t666) t718 t719 t720 t691) else (laws_FnExactCommit.j2 kj86 t717 true t718 t719 t720 t691))) = some r := H
             have A136 := Aside0.mk A1360
             clear A1360
             have HC137 := Aside0.mk H
             clear H
             have hnb138 := NB693_640.out
             have hnc138 := NB640_693.out
             have hnb139 := NB693_667.out
             have hnc139 := NB667_693.out
             have hnb140 := NB693_678.out
             have hnc140 := NB678_693.out
             obtain ⟨hcz141_0, hcz141_1, hcz141_2, hcz141_3⟩ := cz4 BK693
             obtain ⟨hfz141_0, hfz141_1, hfz141_2, hfz141_3⟩ := fz4 BK693
             go_upto_region 32 with (first | ((with_reducible refine gate_callee (f := 32) rfl ?_); refine gL (some 85) rfl rfl Try.func32 (by kernel_rfl) rfl #[.agg #[.slice Ao53 t682.length co53, .slice Ao58 t685.length co58, .slice Ao59 t688.length co59, .int .i64 t691], .int .i64 1] rfl ?_; (with_reducible refine (laws_markStore.calls kj86 (fun k_ => some k_ = (.slice Ao53 t682.length co53 : Value).ownBlock) (.slice Ao53 t682.length co53) t682 (fun k_ => some k_ = (.slice Ao58 t685.length co58 : Value).ownBlock) (.slice Ao58 t685.length co58) t685 (fun k_ => some k_ = (.slice Ao59 t688.length co59 : Value).ownBlock) (.slice Ao59 t688.length co59) t688 t691 1 t717 t718 t719 t720 w _ ?side1 ?side2 ?side3 ?side4 ?side5 ?side6 A123.out).mono ?_); (case side1 => repeat (first | (with_reducible first | exact HB.out | apply below_alloc | apply pw_below_drewN | apply below_drew1 | refine below_set ?_ GE640.out | refine below_set ?_ GE667.out | refine below_set ?_ GE678.out | refine below_set ?_ GE693.out) | exact HB.out)); (case side2 => exact Kd.R_tight rfl HO_694000.out); (case side3 => exact fun k_ e_ => (HO_694000.out.1 k_ e_.symm).2.2.2.2); (case side4 => exact Kd.R_tight rfl HO_694001.out); (case side5 => exact Kd.R_tight rfl HO_694002.out); (case side6 => exact fun k_ e_ => (HO_694002.out.1 k_ e_.symm).2.2.2.2); rintro e w142 ⟨rfl, hy0, hy1, hy2, hb, hkp⟩; refine ⟨_, rfl, ?_⟩; replace HO_668000 := Aside0.mk (Kd.R_mono (ok' := fun k_ => some k_ ≠ (.slice Ao38 t662.length co38 : Value).ownBlock ∧ some k_ ≠ (.slice Ao42 t711.length co42 : Value).ownBlock ∧ some k_ ≠ (.slice Ao47 t713.length co47 : Value).ownBlock ∧ some k_ ≠ (.slice Ao53 t682.length co53 : Value).ownBlock ∧ some k_ ≠ (.slice Ao59 t688.length co59 : Value).ownBlock) (Kd.R_keptB ((Kd.R_apart' HO_668000.out (Kd.R_typed HO_694001.out) (by decide))) hkp (fun k_ hk_ hs_ => Or.elim hs_ (fun e_ => (hk_.1.2.2.2.1) e_) (fun e_ => Or.elim e_ (fun e_ => (hk_.2) e_) (fun e_ => (hk_.1.2.2.2.2) e_)))) (fun k_ hk_ => ⟨hk_.1.1.1, hk_.1.1.2.1, hk_.1.1.2.2.1, hk_.1.1.2.2.2.1, hk_.1.1.2.2.2.2⟩)); replace HO_668001 := Aside0.mk (Kd.R_mono (ok' := fun k_ => some k_ ≠ (.slice Ao46 t712.length co46 : Value).ownBlock ∧ some k_ ≠ (.slice Ao58 t685.length co58 : Value).ownBlock) (Kd.R_keptB ((Kd.R_apart' (Kd.R_apart' HO_668001.out (Kd.R_typed HO_694000.out) (by decide)) (Kd.R_typed HO_694002.out) (by decide))) hkp (fun k_ hk_ hs_ => Or.elim hs_ (fun e_ => (hk_.1.2) e_) (fun e_ => Or.elim e_ (fun e_ => (hk_.1.1.2) e_) (fun e_ => (hk_.2) e_)))) (fun k_ hk_ => ⟨hk_.1.1.1.1, hk_.1.1.1.2⟩)); replace HO_668002 := Aside0.mk (Kd.R_mono (ok' := fun k_ => some k_ ≠ (.slice Ao34 t656.length co34 : Value).ownBlock ∧ some k_ ≠ (.slice Ao42 t711.length co42 : Value).ownBlock ∧ some k_ ≠ (.slice Ao47 t713.length co47 : Value).ownBlock ∧ some k_ ≠ (.slice Ao53 t682.length co53 : Value).ownBlock ∧ some k_ ≠ (.slice Ao59 t688.length co59 : Value).ownBlock) (Kd.R_keptB ((Kd.R_apart' HO_668002.out (Kd.R_typed HO_694001.out) (by decide))) hkp (fun k_ hk_ hs_ => Or.elim hs_ (fun e_ => (hk_.1.2.2.2.1) e_) (fun e_ => Or.elim e_ (fun e_ => (hk_.2) e_) (fun e_ => (hk_.1.2.2.2.2) e_)))) (fun k_ hk_ => ⟨hk_.1.1.1, hk_.1.1.2.1, hk_.1.1.2.2.1, hk_.1.1.2.2.2.1, hk_.1.1.2.2.2.2⟩)); replace HO_679000 := Aside0.mk (Kd.R_mono (ok' := fun k_ => some k_ ≠ (.slice Ao34 t656.length co34 : Value).ownBlock ∧ some k_ ≠ (.slice Ao38 t662.length co38 : Value).ownBlock ∧ some k_ ≠ (.slice Ao47 t713.length co47 : Value).ownBlock ∧ some k_ ≠ (.slice Ao53 t682.length co53 : Value).ownBlock ∧ some k_ ≠ (.slice Ao59 t688.length co59 : Value).ownBlock) (Kd.R_keptB ((Kd.R_apart' HO_679000.out (Kd.R_typed HO_694001.out) (by decide))) hkp (fun k_ hk_ hs_ => Or.elim hs_ (fun e_ => (hk_.1.2.2.2.1) e_) (fun e_ => Or.elim e_ (fun e_ => (hk_.2) e_) (fun e_ => (hk_.1.2.2.2.2) e_)))) (fun k_ hk_ => ⟨hk_.1.1.1, hk_.1.1.2.1, hk_.1.1.2.2.1, hk_.1.1.2.2.2.1, hk_.1.1.2.2.2.2⟩)); replace HO_679001 := Aside0.mk (Kd.R_mono (ok' := fun k_ => some k_ ≠ (.slice Ao37 t659.length co37 : Value).ownBlock ∧ some k_ ≠ (.slice Ao58 t685.length co58 : Value).ownBlock) (Kd.R_keptB ((Kd.R_apart' (Kd.R_apart' HO_679001.out (Kd.R_typed HO_694000.out) (by decide)) (Kd.R_typed HO_694002.out) (by decide))) hkp (fun k_ hk_ hs_ => Or.elim hs_ (fun e_ => (hk_.1.2) e_) (fun e_ => Or.elim e_ (fun e_ => (hk_.1.1.2) e_) (fun e_ => (hk_.2) e_)))) (fun k_ hk_ => ⟨hk_.1.1.1.1, hk_.1.1.1.2⟩)); replace HO_679002 := Aside0.mk (Kd.R_mono (ok' := fun k_ => some k_ ≠ (.slice Ao34 t656.length co34 : Value).ownBlock ∧ some k_ ≠ (.slice Ao38 t662.length co38 : Value).ownBlock ∧ some k_ ≠ (.slice Ao42 t711.length co42 : Value).ownBlock ∧ some k_ ≠ (.slice Ao53 t682.length co53 : Value).ownBlock ∧ some k_ ≠ (.slice Ao59 t688.length co59 : Value).ownBlock) (Kd.R_keptB ((Kd.R_apart' HO_679002.out (Kd.R_typed HO_694001.out) (by decide))) hkp (fun k_ hk_ hs_ => Or.elim hs_ (fun e_ => (hk_.1.2.2.2.1) e_) (fun e_ => Or.elim e_ (fun e_ => (hk_.2) e_) (fun e_ => (hk_.1.2.2.2.2) e_)))) (fun k_ hk_ => ⟨hk_.1.1.1, hk_.1.1.2.1, hk_.1.1.2.2.1, hk_.1.1.2.2.2.1, hk_.1.1.2.2.2.2⟩)); replace BK640 := Aside0.mk (blk_kept (bk BK640) hkp (fun hs_ => Or.elim hs_ (fun e_ => (fun e_ => (Kd.R_ne HO_694000.out BK640.out (by decide)) e_) e_) (fun e_ => Or.elim e_ (fun e_ => (fun e_ => (Kd.R_ne HO_694001.out BK640.out (by decide)) e_) e_) (fun e_ => (fun e_ => (Kd.R_ne HO_694002.out BK640.out (by decide)) e_) e_)))); replace BK667 := Aside0.mk (blk_kept (bk BK667) hkp (fun hs_ => Or.elim hs_ (fun e_ => (fun e_ => (Kd.R_ne HO_694000.out BK667.out (by decide)) e_) e_) (fun e_ => Or.elim e_ (fun e_ => (fun e_ => (Kd.R_ne HO_694001.out BK667.out (by decide)) e_) e_) (fun e_ => (fun e_ => (Kd.R_ne HO_694002.out BK667.out (by decide)) e_) e_)))); replace BK678 := Aside0.mk (blk_kept (bk BK678) hkp (fun hs_ => Or.elim hs_ (fun e_ => (fun e_ => (Kd.R_ne HO_694000.out BK678.out (by decide)) e_) e_) (fun e_ => Or.elim e_ (fun e_ => (fun e_ => (Kd.R_ne HO_694001.out BK678.out (by decide)) e_) e_) (fun e_ => (fun e_ => (Kd.R_ne HO_694002.out BK678.out (by decide)) e_) e_)))); replace BK693 := Aside0.mk (blk_kept (bk BK693) hkp (fun hs_ => Or.elim hs_ (fun e_ => (fun e_ => (Kd.R_ne HO_694000.out BK693.out (by decide)) e_) e_) (fun e_ => Or.elim e_ (fun e_ => (fun e_ => (Kd.R_ne HO_694001.out BK693.out (by decide)) e_) e_) (fun e_ => (fun e_ => (Kd.R_ne HO_694002.out BK693.out (by decide)) e_) e_)))); replace HO_694000 := Aside0.mk (Kd.R_reok rfl hy0 (fun k_ e_ => HO_694000.out.1 k_ e_)); replace HO_694001 := Aside0.mk (Kd.R_reok rfl hy1 (fun k_ e_ => HO_694001.out.1 k_ e_)); replace HO_694002 := Aside0.mk (Kd.R_reok rfl hy2 (fun k_ e_ => HO_694002.out.1 k_ e_)); replace HB := Aside0.mk (hb); (try clear hb); (try clear hkp); (try clear hy0); (try clear hy1); (try clear hy2); obtain ⟨hcz143_0, hcz143_1, hcz143_2, hcz143_3⟩ := cz4 BK693; obtain ⟨hfz143_0, hfz143_1, hfz143_2, hfz143_3⟩ := fz4 BK693) | ((with_reducible refine gate_callee (f := 33) rfl ?_); refine goesL_ (some 88) rfl rfl Try.func33 (by kernel_rfl) rfl #[.agg #[.slice Ao53 t718.length co53, .slice Ao58 t719.length co58, .slice Ao59 t720.length co59, .int .i64 t691], .int .i64 1] rfl (by (try simp only [List.map_toArray, List.map_cons, List.map_nil]); first | done | (rw [show t718.length = t682.length from (Kd.R_reads' HO_694000.out).1.symm, show t719.length = t685.length from (Kd.R_reads' HO_694001.out).1.symm, show t720.length = t688.length from (Kd.R_reads' HO_694002.out).1.symm] <;> rfl) | rfl | (simp only [List.length_drop, List.length_take]; rfl)) ?_; (with_reducible refine (laws_heldStore.calls kj86 _ _ t718 _ _ t719 _ _ t720 t691 1 t721 _ ?side1 ?side2 ?side3 ?side4 ?side5 ?side6 A124.out).mono ?_); (case side1 => exact rc0 HO_694000); (case side2 => rw [show t718.length = t682.length from (Kd.R_reads' HO_694000.out).1.symm]; exact (Kd.R_reads' HO_694000.out).2.1); (case side3 => exact rc0 HO_694001); (case side4 => rw [show t719.length = t685.length from (Kd.R_reads' HO_694001.out).1.symm]; exact (Kd.R_reads' HO_694001.out).2.1); (case side5 => exact rc0 HO_694002); (case side6 => rw [show t720.length = t688.length from (Kd.R_reads' HO_694002.out).1.symm]; exact (Kd.R_reads' HO_694002.out).2.1); rintro e w144 ⟨rfl, hb⟩; refine ⟨_, rfl, ?_⟩; replace HO_668000 := nr HO_668000 hb; replace HO_668001 := nr HO_668001 hb; replace HO_668002 := nr HO_668002 hb; replace HO_679000 := nr HO_679000 hb; replace HO_679001 := nr HO_679001 hb; replace HO_679002 := nr HO_679002 hb; replace HO_694000 := nr HO_694000 hb; replace HO_694001 := nr HO_694001 hb; replace HO_694002 := nr HO_694002 hb; replace BK640 := nb BK640 hb; replace BK667 := nb BK667 hb; replace BK678 := nb BK678 hb; replace BK693 := nb BK693 hb; replace HB := Aside0.mk (below_step (bs4 HB GE640 GE667 GE678 GE693) hb); (try clear hb); (try clear hb2); (try clear hk); (try clear hi); have hnb145 := NB640_667.out; have hnc145 := NB667_640.out; have hnb146 := NB640_678.out; have hnc146 := NB678_640.out; obtain ⟨hcz147_0, hcz147_1, hcz147_2, hcz147_3⟩ := cz4 BK640; obtain ⟨hfz147_0, hfz147_1, hfz147_2, hfz147_3⟩ := fz4 BK640) | ((with_reducible refine gate_callee (f := 27) rfl ?_); refine gL (some 96) rfl rfl Try.func27 (by kernel_rfl) rfl #[.agg #[.slice A0_0 l0_0.length c0_0, .slice A0_1 l0_1.length c0_1, .slice A0_2 l0_2.length c0_2, .int .i64 a0_3]] rfl ?_; (with_reducible refine (laws_toStore.calls kj86 _ _ l0_0 _ _ l0_1 _ _ l0_2 a0_3 t722 t725 t728 t731 _ ?side1 ?side2 ?side3 ?side4 ?side5 ?side6 A134.out).mono ?_); (case side1 => exact cb HR0_0 HB); (case side2 => exact HC0_0.out); (case side3 => exact cb HR0_1 HB); (case side4 => exact HC0_1.out); (case side5 => exact cb HR0_2 HB); (case side6 => exact HC0_2.out); rintro e w148 ⟨v723, v726, v729, rfl, ho0, ho1, ho2, hb⟩; refine ⟨_, rfl, ?_⟩; have HO724 := Aside0.mk (Kd.R_lower (Kd.R_new' (Kd.R_new' (Kd.R_new' (Kd.R_new' (Kd.R_new' (Kd.R_new' ho0 (Kd.R_lt (rr HO_668000.out))) (Kd.R_lt (rr HO_668002.out))) (Kd.R_lt (rr HO_679000.out))) (Kd.R_lt (rr HO_679002.out))) (Kd.R_lt (rr HO_694000.out))) (Kd.R_lt (rr HO_694002.out))) (below_size (bs4 HB GE640 GE667 GE678 GE693))); have HO727 := Aside0.mk (Kd.R_lower (Kd.R_new' (Kd.R_new' (Kd.R_new' ho1 (Kd.R_lt (rr HO_668001.out))) (Kd.R_lt (rr HO_679001.out))) (Kd.R_lt (rr HO_694001.out))) (below_size (bs4 HB GE640 GE667 GE678 GE693))); replace HO_668001 := Aside0.mk (Kd.R_elder' (rr HO_668001.out) (Kd.R_base ho1) hb); replace HO_679001 := Aside0.mk (Kd.R_elder' (rr HO_679001.out) (Kd.R_base ho1) hb); replace HO_694001 := Aside0.mk (Kd.R_elder' (rr HO_694001.out) (Kd.R_base ho1) hb); have HO730 := Aside0.mk (Kd.R_lower (Kd.R_new' (Kd.R_new' (Kd.R_new' (Kd.R_new' (Kd.R_new' (Kd.R_new' ho2 (Kd.R_lt (rr HO_668000.out))) (Kd.R_lt (rr HO_668002.out))) (Kd.R_lt (rr HO_679000.out))) (Kd.R_lt (rr HO_679002.out))) (Kd.R_lt (rr HO_694000.out))) (Kd.R_lt (rr HO_694002.out))) (below_size (bs4 HB GE640 GE667 GE678 GE693))); replace HO_668000 := Aside0.mk (Kd.R_mono (Kd.R_told (Kd.R_told (Kd.R_old (rr HO_668000.out) hb) (Kd.R_base ho0)) (Kd.R_base ho2)) (fun _ h_ => h_.1)); replace HO_668002 := Aside0.mk (Kd.R_mono (Kd.R_told (Kd.R_told (Kd.R_old (rr HO_668002.out) hb) (Kd.R_base ho0)) (Kd.R_base ho2)) (fun _ h_ => h_.1)); replace HO_679000 := Aside0.mk (Kd.R_mono (Kd.R_told (Kd.R_told (Kd.R_old (rr HO_679000.out) hb) (Kd.R_base ho0)) (Kd.R_base ho2)) (fun _ h_ => h_.1)); replace HO_679002 := Aside0.mk (Kd.R_mono (Kd.R_told (Kd.R_told (Kd.R_old (rr HO_679002.out) hb) (Kd.R_base ho0)) (Kd.R_base ho2)) (fun _ h_ => h_.1)); replace HO_694000 := Aside0.mk (Kd.R_mono (Kd.R_told (Kd.R_told (Kd.R_old (rr HO_694000.out) hb) (Kd.R_base ho0)) (Kd.R_base ho2)) (fun _ h_ => h_.1)); replace HO_694002 := Aside0.mk (Kd.R_mono (Kd.R_told (Kd.R_told (Kd.R_old (rr HO_694002.out) hb) (Kd.R_base ho0)) (Kd.R_base ho2)) (fun _ h_ => h_.1)); replace BK640 := nb BK640 hb; replace BK667 := nb BK667 hb; replace BK678 := nb BK678 hb; replace BK693 := nb BK693 hb; replace HB := Aside0.mk (below_step (bs4 HB GE640 GE667 GE678 GE693) hb); (try clear hb); (try clear hb2); (try clear hk); (try clear hi); (try clear ho0); (try clear ho1); (try clear ho2)) | ((with_reducible refine gate_callee (f := 18) rfl ?_); refine gL (some 98) rfl rfl Try.func18 (by kernel_rfl) rfl #[.slice A1 l1.length c1] rfl ?_; (with_reducible refine (laws_toWriteS.calls kj86 _ _ l1 t732 _ ?side1 ?side2 A135.out).mono ?_); (case side1 => exact cb HR1 HB); (case side2 => exact HC1.out); rintro e w149 ⟨v733, rfl, ho0, hb⟩; refine ⟨_, rfl, ?_⟩; replace HO_668000 := nr HO_668000 hb; replace HO_668002 := nr HO_668002 hb; replace HO_679000 := nr HO_679000 hb; replace HO_679002 := nr HO_679002 hb; replace HO_694000 := nr HO_694000 hb; replace HO_694002 := nr HO_694002 hb; replace HO724 := nr HO724 hb; replace HO730 := nr HO730 hb; have HO734 := Aside0.mk (Kd.R_lower (Kd.R_new' (Kd.R_new' (Kd.R_new' (Kd.R_new' ho0 (Kd.R_lt (rr HO_668001.out))) (Kd.R_lt (rr HO_679001.out))) (Kd.R_lt (rr HO_694001.out))) (Kd.R_lt (rr HO727.out))) (below_size (bs4 HB GE640 GE667 GE678 GE693))); replace HO_668001 := Aside0.mk (Kd.R_elder' (rr HO_668001.out) (Kd.R_base ho0) hb); replace HO_679001 := Aside0.mk (Kd.R_elder' (rr HO_679001.out) (Kd.R_base ho0) hb); replace HO_694001 := Aside0.mk (Kd.R_elder' (rr HO_694001.out) (Kd.R_base ho0) hb); replace HO727 := Aside0.mk (Kd.R_elder' (rr HO727.out) (Kd.R_base ho0) hb); replace BK640 := nb BK640 hb; replace BK667 := nb BK667 hb; replace BK678 := nb BK678 hb; replace BK693 := nb BK693 hb; replace HB := Aside0.mk (below_step (bs4 HB GE640 GE667 GE678 GE693) hb); (try clear hb); (try clear hb2); (try clear hk); (try clear hi); (try clear ho0); obtain ⟨Ao150, co150, eo150⟩ := Kd.R_slice HO724.out; subst eo150; obtain ⟨Ao151, co151, eo151⟩ := Kd.R_slice HO727.out; subst eo151; obtain ⟨Ao152, co152, eo152⟩ := Kd.R_slice HO730.out; subst eo152; obtain ⟨Ao153, co153, eo153⟩ := Kd.R_slice HO734.out; subst eo153) | ((with_reducible refine gate_callee (f := 40) rfl ?_); refine gL (some 99) rfl rfl Try.func40 (by kernel_rfl) rfl #[.agg #[.slice Ao150 t722.length co150, .slice Ao151 t725.length co151, .slice Ao152 t728.length co152, .int .i64 t731], .slice Ao153 t732.length co153] rfl ?_; (with_reducible refine (impl_Commit.calls kj86 _ _ t722 _ _ t725 _ _ t728 t731 _ _ t732 t735 t738 t741 t744 t745 _ ?side1 ?side2 ?side3 ?side4 ?side5 ?side6 ?side7 ?side8 A136.out).mono ?_); (case side1 => exact rc0 HO724); (case side2 => exact (Kd.R_reads' HO724.out).2.1); (case side3 => exact rc0 HO727); (case side4 => exact (Kd.R_reads' HO727.out).2.1); (case side5 => exact rc0 HO730); (case side6 => exact (Kd.R_reads' HO730.out).2.1); (case side7 => exact rc0 HO734); (case side8 => exact (Kd.R_reads' HO734.out).2.1); rintro e w154 ⟨v736, v739, v742, rfl, ho0, ho1, ho2, hb⟩; refine ⟨_, rfl, ?_⟩; have HO737 := Aside0.mk (Kd.R_lower (Kd.R_new' (Kd.R_new' (Kd.R_new' (Kd.R_new' (Kd.R_new' (Kd.R_new' (Kd.R_new' (Kd.R_new' ho0 (Kd.R_lt (rr HO_668000.out))) (Kd.R_lt (rr HO_668002.out))) (Kd.R_lt (rr HO_679000.out))) (Kd.R_lt (rr HO_679002.out))) (Kd.R_lt (rr HO_694000.out))) (Kd.R_lt (rr HO_694002.out))) (Kd.R_lt (rr HO724.out))) (Kd.R_lt (rr HO730.out))) (below_size (bs4 HB GE640 GE667 GE678 GE693))); have HO740 := Aside0.mk (Kd.R_lower (Kd.R_new' (Kd.R_new' (Kd.R_new' (Kd.R_new' (Kd.R_new' ho1 (Kd.R_lt (rr HO_668001.out))) (Kd.R_lt (rr HO_679001.out))) (Kd.R_lt (rr HO_694001.out))) (Kd.R_lt (rr HO727.out))) (Kd.R_lt (rr HO734.out))) (below_size (bs4 HB GE640 GE667 GE678 GE693))); replace HO_668001 := Aside0.mk (Kd.R_elder' (rr HO_668001.out) (Kd.R_base ho1) hb); replace HO_679001 := Aside0.mk (Kd.R_elder' (rr HO_679001.out) (Kd.R_base ho1) hb); replace HO_694001 := Aside0.mk (Kd.R_elder' (rr HO_694001.out) (Kd.R_base ho1) hb); replace HO727 := Aside0.mk (Kd.R_elder' (rr HO727.out) (Kd.R_base ho1) hb); replace HO734 := Aside0.mk (Kd.R_elder' (rr HO734.out) (Kd.R_base ho1) hb); have HO743 := Aside0.mk (Kd.R_lower (Kd.R_new' (Kd.R_new' (Kd.R_new' (Kd.R_new' (Kd.R_new' (Kd.R_new' (Kd.R_new' (Kd.R_new' ho2 (Kd.R_lt (rr HO_668000.out))) (Kd.R_lt (rr HO_668002.out))) (Kd.R_lt (rr HO_679000.out))) (Kd.R_lt (rr HO_679002.out))) (Kd.R_lt (rr HO_694000.out))) (Kd.R_lt (rr HO_694002.out))) (Kd.R_lt (rr HO724.out))) (Kd.R_lt (rr HO730.out))) (below_size (bs4 HB GE640 GE667 GE678 GE693))); replace HO_668000 := Aside0.mk (Kd.R_mono (Kd.R_told (Kd.R_told (Kd.R_old (rr HO_668000.out) hb) (Kd.R_base ho0)) (Kd.R_base ho2)) (fun _ h_ => h_.1)); replace HO_668002 := Aside0.mk (Kd.R_mono (Kd.R_told (Kd.R_told (Kd.R_old (rr HO_668002.out) hb) (Kd.R_base ho0)) (Kd.R_base ho2)) (fun _ h_ => h_.1)); replace HO_679000 := Aside0.mk (Kd.R_mono (Kd.R_told (Kd.R_told (Kd.R_old (rr HO_679000.out) hb) (Kd.R_base ho0)) (Kd.R_base ho2)) (fun _ h_ => h_.1)); replace HO_679002 := Aside0.mk (Kd.R_mono (Kd.R_told (Kd.R_told (Kd.R_old (rr HO_679002.out) hb) (Kd.R_base ho0)) (Kd.R_base ho2)) (fun _ h_ => h_.1)); replace HO_694000 := Aside0.mk (Kd.R_mono (Kd.R_told (Kd.R_told (Kd.R_old (rr HO_694000.out) hb) (Kd.R_base ho0)) (Kd.R_base ho2)) (fun _ h_ => h_.1)); replace HO_694002 := Aside0.mk (Kd.R_mono (Kd.R_told (Kd.R_told (Kd.R_old (rr HO_694002.out) hb) (Kd.R_base ho0)) (Kd.R_base ho2)) (fun _ h_ => h_.1)); replace HO724 := Aside0.mk (Kd.R_mono (Kd.R_told (Kd.R_told (Kd.R_old (rr HO724.out) hb) (Kd.R_base ho0)) (Kd.R_base ho2)) (fun _ h_ => h_.1)); replace HO730 := Aside0.mk (Kd.R_mono (Kd.R_told (Kd.R_told (Kd.R_old (rr HO730.out) hb) (Kd.R_base ho0)) (Kd.R_base ho2)) (fun _ h_ => h_.1)); replace BK640 := nb BK640 hb; replace BK667 := nb BK667 hb; replace BK678 := nb BK678 hb; replace BK693 := nb BK693 hb; replace HB := Aside0.mk (below_step (bs4 HB GE640 GE667 GE678 GE693) hb); (try clear hb); (try clear hb2); (try clear hk); (try clear hi); (try clear ho0); (try clear ho1); (try clear ho2)) | ((with_reducible refine gate_dst (N := 15) rfl ?_); refine box_event ?hg (N := 15) ?hd (cs := #[.slice none 0 0, .slice none 0 0, .slice none 0 0, .int .i64 0]) (t := 44) ?hr ?_; (case hd => rfl); (case hg => rfl); (case hr => first | (go_simp; done) | (go_simp; rfl)); intro gb746 hg w155 hbox hb; replace HO_668000 := nr HO_668000 hb; replace HO_668001 := nr HO_668001 hb; replace HO_668002 := nr HO_668002 hb; replace HO_679000 := nr HO_679000 hb; replace HO_679001 := nr HO_679001 hb; replace HO_679002 := nr HO_679002 hb; replace HO_694000 := nr HO_694000 hb; replace HO_694001 := nr HO_694001 hb; replace HO_694002 := nr HO_694002 hb; replace HO724 := nr HO724 hb; replace HO727 := nr HO727 hb; replace HO730 := nr HO730 hb; replace HO734 := nr HO734 hb; replace HO737 := nr HO737 hb; replace HO740 := nr HO740 hb; replace HO743 := nr HO743 hb; have BK746 := Aside0.mk (hbox); have GW746 := Aside0.mk ((by rw [hg]; exact (below_size (bs4 HB GE640 GE667 GE678 GE693)) : w.heap.size ≤ gb746)); have GE746 := Aside0.mk ((by rw [hg]; exact (below_size (bs4 HB GE640 GE667 GE678 GE693)) : w.heap.size ≤ gb746)); replace HB := Aside0.mk (below_step (bs4 HB GE640 GE667 GE678 GE693) hb); have NB640_746 := Aside0.mk ((bn BK640 hg : gb640 ≠ gb746)); have NB746_640 := Aside0.mk ((bm BK640 hg : gb746 ≠ gb640)); replace BK640 := nb BK640 hb; have NB667_746 := Aside0.mk ((bn BK667 hg : gb667 ≠ gb746)); have NB746_667 := Aside0.mk ((bm BK667 hg : gb746 ≠ gb667)); replace BK667 := nb BK667 hb; have NB678_746 := Aside0.mk ((bn BK678 hg : gb678 ≠ gb746)); have NB746_678 := Aside0.mk ((bm BK678 hg : gb746 ≠ gb678)); replace BK678 := nb BK678 hb; have NB693_746 := Aside0.mk ((bn BK693 hg : gb693 ≠ gb746)); have NB746_693 := Aside0.mk ((bm BK693 hg : gb746 ≠ gb693)); replace BK693 := nb BK693 hb; clear hb hbox hg; obtain ⟨Ao156, co156, eo156⟩ := Kd.R_slice HO737.out; subst eo156; have hnb157 := NB746_640.out; have hnc157 := NB640_746.out; have hnb158 := NB746_667.out; have hnc158 := NB667_746.out; have hnb159 := NB746_678.out; have hnc159 := NB678_746.out; have hnb160 := NB746_693.out; have hnc160 := NB693_746.out; obtain ⟨hcz161_0, hcz161_1, hcz161_2, hcz161_3⟩ := cz4 BK746; obtain ⟨hfz161_0, hfz161_1, hfz161_2, hfz161_3⟩ := fz4 BK746; obtain ⟨Ao162, co162, eo162⟩ := Kd.R_slice HO740.out; subst eo162; obtain ⟨Ao163, co163, eo163⟩ := Kd.R_slice HO743.out; subst eo163))
             (try simp only [Act.put, List.setIfInBounds_toArray, List.set_cons_zero, List.set_cons_succ])
             go_cut [110] (fun v110 wc => ∃ (kq : Nat) (x110_136 : Bool), v110 = .bool x110_136 ∧ Aside0 (laws_FnExactCommit.j2 kq t717 x110_136 t718 t719 t720 t691 = some r) ∧ Aside0 (kq ≤ kj86) ∧ Aside0 (Kd.R Kd.string 9 wc w.heap.size (fun k_ => some k_ ≠ ((.slice Ao38 t662.length co38) : Value).ownBlock ∧ some k_ ≠ ((.slice Ao42 t711.length co42) : Value).ownBlock ∧ some k_ ≠ ((.slice Ao47 t713.length co47) : Value).ownBlock ∧ some k_ ≠ ((.slice Ao53 t682.length co53) : Value).ownBlock ∧ some k_ ≠ ((.slice Ao59 t688.length co59) : Value).ownBlock ∧ some k_ ≠ ((.slice Ao156 t735.length co156) : Value).ownBlock ∧ some k_ ≠ ((.slice Ao163 t741.length co163) : Value).ownBlock) (.slice Ao34 t656.length co34) t656) ∧ Aside0 (Kd.R k72 72 wc w.heap.size (fun k_ => some k_ ≠ ((.slice Ao46 t712.length co46) : Value).ownBlock ∧ some k_ ≠ ((.slice Ao58 t685.length co58) : Value).ownBlock ∧ some k_ ≠ ((.slice Ao162 t738.length co162) : Value).ownBlock) (.slice Ao37 t659.length co37) t659) ∧ Aside0 (Kd.R Kd.string 9 wc w.heap.size (fun k_ => some k_ ≠ ((.slice Ao34 t656.length co34) : Value).ownBlock ∧ some k_ ≠ ((.slice Ao42 t711.length co42) : Value).ownBlock ∧ some k_ ≠ ((.slice Ao47 t713.length co47) : Value).ownBlock ∧ some k_ ≠ ((.slice Ao53 t682.length co53) : Value).ownBlock ∧ some k_ ≠ ((.slice Ao59 t688.length co59) : Value).ownBlock ∧ some k_ ≠ ((.slice Ao156 t735.length co156) : Value).ownBlock ∧ some k_ ≠ ((.slice Ao163 t741.length co163) : Value).ownBlock) (.slice Ao38 t662.length co38) t662) ∧ Aside0 (Kd.R Kd.string 9 wc w.heap.size (fun k_ => some k_ ≠ ((.slice Ao34 t656.length co34) : Value).ownBlock ∧ some k_ ≠ ((.slice Ao38 t662.length co38) : Value).ownBlock ∧ some k_ ≠ ((.slice Ao47 t713.length co47) : Value).ownBlock ∧ some k_ ≠ ((.slice Ao53 t682.length co53) : Value).ownBlock ∧ some k_ ≠ ((.slice Ao59 t688.length co59) : Value).ownBlock ∧ some k_ ≠ ((.slice Ao156 t735.length co156) : Value).ownBlock ∧ some k_ ≠ ((.slice Ao163 t741.length co163) : Value).ownBlock) (.slice Ao42 t711.length co42) t711) ∧ Aside0 (Kd.R k72 72 wc w.heap.size (fun k_ => some k_ ≠ ((.slice Ao37 t659.length co37) : Value).ownBlock ∧ some k_ ≠ ((.slice Ao58 t685.length co58) : Value).ownBlock ∧ some k_ ≠ ((.slice Ao162 t738.length co162) : Value).ownBlock) (.slice Ao46 t712.length co46) t712) ∧ Aside0 (Kd.R Kd.string 9 wc w.heap.size (fun k_ => some k_ ≠ ((.slice Ao34 t656.length co34) : Value).ownBlock ∧ some k_ ≠ ((.slice Ao38 t662.length co38) : Value).ownBlock ∧ some k_ ≠ ((.slice Ao42 t711.length co42) : Value).ownBlock ∧ some k_ ≠ ((.slice Ao53 t682.length co53) : Value).ownBlock ∧ some k_ ≠ ((.slice Ao59 t688.length co59) : Value).ownBlock ∧ some k_ ≠ ((.slice Ao156 t735.length co156) : Value).ownBlock ∧ some k_ ≠ ((.slice Ao163 t741.length co163) : Value).ownBlock) (.slice Ao47 t713.length co47) t713) ∧ Aside0 (Kd.R Kd.string 9 wc w.heap.size (fun k_ => some k_ ≠ ((.slice Ao34 t656.length co34) : Value).ownBlock ∧ some k_ ≠ ((.slice Ao38 t662.length co38) : Value).ownBlock ∧ some k_ ≠ ((.slice Ao42 t711.length co42) : Value).ownBlock ∧ some k_ ≠ ((.slice Ao47 t713.length co47) : Value).ownBlock ∧ some k_ ≠ ((.slice Ao59 t688.length co59) : Value).ownBlock ∧ some k_ ≠ ((.slice Ao156 t735.length co156) : Value).ownBlock ∧ some k_ ≠ ((.slice Ao163 t741.length co163) : Value).ownBlock) (.slice Ao53 t682.length co53) t718) ∧ Aside0 (Kd.R k72 72 wc w.heap.size (fun k_ => some k_ ≠ ((.slice Ao37 t659.length co37) : Value).ownBlock ∧ some k_ ≠ ((.slice Ao46 t712.length co46) : Value).ownBlock ∧ some k_ ≠ ((.slice Ao162 t738.length co162) : Value).ownBlock) (.slice Ao58 t685.length co58) t719) ∧ Aside0 (Kd.R Kd.string 9 wc w.heap.size (fun k_ => some k_ ≠ ((.slice Ao34 t656.length co34) : Value).ownBlock ∧ some k_ ≠ ((.slice Ao38 t662.length co38) : Value).ownBlock ∧ some k_ ≠ ((.slice Ao42 t711.length co42) : Value).ownBlock ∧ some k_ ≠ ((.slice Ao47 t713.length co47) : Value).ownBlock ∧ some k_ ≠ ((.slice Ao53 t682.length co53) : Value).ownBlock ∧ some k_ ≠ ((.slice Ao156 t735.length co156) : Value).ownBlock ∧ some k_ ≠ ((.slice Ao163 t741.length co163) : Value).ownBlock) (.slice Ao59 t688.length co59) t720) ∧ Aside0 (Kd.R Kd.string 9 wc w.heap.size (fun k_ => some k_ ≠ ((.slice Ao34 t656.length co34) : Value).ownBlock ∧ some k_ ≠ ((.slice Ao38 t662.length co38) : Value).ownBlock ∧ some k_ ≠ ((.slice Ao42 t711.length co42) : Value).ownBlock ∧ some k_ ≠ ((.slice Ao47 t713.length co47) : Value).ownBlock ∧ some k_ ≠ ((.slice Ao53 t682.length co53) : Value).ownBlock ∧ some k_ ≠ ((.slice Ao59 t688.length co59) : Value).ownBlock ∧ some k_ ≠ ((.slice Ao163 t741.length co163) : Value).ownBlock) (.slice Ao156 t735.length co156) t735) ∧ Aside0 (Kd.R k72 72 wc w.heap.size (fun k_ => some k_ ≠ ((.slice Ao37 t659.length co37) : Value).ownBlock ∧ some k_ ≠ ((.slice Ao46 t712.length co46) : Value).ownBlock ∧ some k_ ≠ ((.slice Ao58 t685.length co58) : Value).ownBlock) (.slice Ao162 t738.length co162) t738) ∧ Aside0 (Kd.R Kd.string 9 wc w.heap.size (fun k_ => some k_ ≠ ((.slice Ao34 t656.length co34) : Value).ownBlock ∧ some k_ ≠ ((.slice Ao38 t662.length co38) : Value).ownBlock ∧ some k_ ≠ ((.slice Ao42 t711.length co42) : Value).ownBlock ∧ some k_ ≠ ((.slice Ao47 t713.length co47) : Value).ownBlock ∧ some k_ ≠ ((.slice Ao53 t682.length co53) : Value).ownBlock ∧ some k_ ≠ ((.slice Ao59 t688.length co59) : Value).ownBlock ∧ some k_ ≠ ((.slice Ao156 t735.length co156) : Value).ownBlock) (.slice Ao163 t741.length co163) t741) ∧ Aside0 (wc.heap[gb640]? = some (.cells #[(.slice A0_0 l0_0.length c0_0), (.slice A0_1 l0_1.length c0_1), (.slice A0_2 l0_2.length c0_2), .int .i64 a0_3] 38 (0, 0))) ∧ Aside0 (wc.heap[gb667]? = some (.cells #[(.slice Ao34 t656.length co34), (.slice Ao37 t659.length co37), (.slice Ao38 t662.length co38), .int .i64 t665] 44 (0, 0))) ∧ Aside0 (wc.heap[gb678]? = some (.cells #[(.slice Ao42 t711.length co42), (.slice Ao46 t712.length co46), (.slice Ao47 t713.length co47), .int .i64 t677] 44 (0, 0))) ∧ Aside0 (wc.heap[gb693]? = some (.cells #[(.slice Ao53 t682.length co53), (.slice Ao58 t685.length co58), (.slice Ao59 t688.length co59), .int .i64 t691] 44 (0, 0))) ∧ Aside0 (wc.heap[gb746]? = some (.cells #[(.slice Ao156 t735.length co156), (.slice Ao162 t738.length co162), (.slice Ao163 t741.length co163), .int .i64 t744] 44 (0, 0))) ∧ Aside0 (Below w.heap.size w wc))
             case first =>
              have H := HC137.out
              clear HC137
              replace H := Option.bind_eq_some_iff.mp H
              obtain ⟨t747, A1640, H⟩ := H
              replace H : (if t747 = true then (laws_FnExactCommit.j2 kj86 t717 (t745 != t666) t718 t719 t720 t691) else (laws_FnExactCommit.j2 kj86 t717 true t718 t719 t720 t691)) = some r := H
              have A164 := Aside0.mk A1640
              clear A1640
              by_cases c165 : t747 = true
              ·
               subst c165
               rw [if_pos rfl] at H
               have H' := Aside0.mk H
               clear H
               have hnb166 := NB746_640.out
               have hnc166 := NB640_746.out
               have hnb167 := NB746_667.out
               have hnc167 := NB667_746.out
               have hnb168 := NB746_678.out
               have hnc168 := NB678_746.out
               have hnb169 := NB746_693.out
               have hnc169 := NB693_746.out
               obtain ⟨hcz170_0, hcz170_1, hcz170_2, hcz170_3⟩ := cz4 BK746
               obtain ⟨hfz170_0, hfz170_1, hfz170_2, hfz170_3⟩ := fz4 BK746
               have hnb171 := NB667_640.out
               have hnc171 := NB640_667.out
               have hnb172 := NB667_678.out
               have hnc172 := NB678_667.out
               have hnb173 := NB667_693.out
               have hnc173 := NB693_667.out
               obtain ⟨hcz174_0, hcz174_1, hcz174_2, hcz174_3⟩ := cz4 BK667
               obtain ⟨hfz174_0, hfz174_1, hfz174_2, hfz174_3⟩ := fz4 BK667
               go_wp2_with (first | ((with_reducible refine gate_callee (f := 29) rfl ?_); refine gL (some 104) rfl rfl Try.func29 (by kernel_rfl) rfl #[.agg #[.slice Ao156 t735.length co156, .slice Ao162 t738.length co162, .slice Ao163 t741.length co163, .int .i64 t744], .agg #[.slice Ao34 t656.length co34, .slice Ao37 t659.length co37, .slice Ao38 t662.length co38, .int .i64 t665]] rfl ?_; (with_reducible refine (laws_eqStore.calls kj86 _ _ t735 _ _ t738 _ _ t741 t744 _ _ t656 _ _ t659 _ _ t662 t665 true _ ?side1 ?side2 ?side3 ?side4 ?side5 ?side6 ?side7 ?side8 ?side9 ?side10 ?side11 ?side12 A164.out).mono ?_); (case side1 => exact rc HO737 BK746); (case side2 => exact (Kd.R_reads' HO737.out).2.1); (case side3 => exact rc HO740 BK746); (case side4 => exact (Kd.R_reads' HO740.out).2.1); (case side5 => exact rc HO743 BK746); (case side6 => exact (Kd.R_reads' HO743.out).2.1); (case side7 => exact rc HO_668000 BK746); (case side8 => exact (Kd.R_reads' HO_668000.out).2.1); (case side9 => exact rc HO_668001 BK746); (case side10 => exact (Kd.R_reads' HO_668001.out).2.1); (case side11 => exact rc HO_668002 BK746); (case side12 => exact (Kd.R_reads' HO_668002.out).2.1); rintro e w175 ⟨rfl, hb⟩; refine ⟨_, rfl, ?_⟩; replace HO_668000 := nf HO_668000 BK746 hb; replace HO_668001 := nf HO_668001 BK746 hb; replace HO_668002 := nf HO_668002 BK746 hb; replace HO_679000 := nf HO_679000 BK746 hb; replace HO_679001 := nf HO_679001 BK746 hb; replace HO_679002 := nf HO_679002 BK746 hb; replace HO_694000 := nf HO_694000 BK746 hb; replace HO_694001 := nf HO_694001 BK746 hb; replace HO_694002 := nf HO_694002 BK746 hb; replace HO724 := nf HO724 BK746 hb; replace HO727 := nf HO727 BK746 hb; replace HO730 := nf HO730 BK746 hb; replace HO734 := nf HO734 BK746 hb; replace HO737 := nf HO737 BK746 hb; replace HO740 := nf HO740 BK746 hb; replace HO743 := nf HO743 BK746 hb; replace BK640 := Aside0.mk (blk_below (bf BK640 NB640_746) hb); replace BK667 := Aside0.mk (blk_below (bf BK667 NB667_746) hb); replace BK678 := Aside0.mk (blk_below (bf BK678 NB678_746) hb); replace BK693 := Aside0.mk (blk_below (bf BK693 NB693_746) hb); replace BK746 := Aside0.mk (blk_below (g := gb746) (o := .cells #[.slice Ao156 t735.length co156, .slice Ao162 t738.length co162, .slice Ao163 t741.length co163, .int .i64 t744] 44 (0, 0)) (by (with_reducible repeat (first | refine blk_drewN ?_ _ | refine blk_drew ?_ | refine blk_alloc ?_ _)); refine blk_put (cs := #[.slice Ao156 t735.length co156, .slice Ao162 t738.length co162, .slice Ao163 t741.length co163, .int .i64 0]) ?_ 3 _ rfl; (with_reducible repeat (first | refine blk_drewN ?_ _ | refine blk_drew ?_ | refine blk_alloc ?_ _)); refine blk_put (cs := #[.slice Ao156 t735.length co156, .slice Ao162 t738.length co162, .slice none 0 0, .int .i64 0]) ?_ 2 _ rfl; (with_reducible repeat (first | refine blk_drewN ?_ _ | refine blk_drew ?_ | refine blk_alloc ?_ _)); refine blk_put (cs := #[.slice Ao156 t735.length co156, .slice none 0 0, .slice none 0 0, .int .i64 0]) ?_ 1 _ rfl; (with_reducible repeat (first | refine blk_drewN ?_ _ | refine blk_drew ?_ | refine blk_alloc ?_ _)); refine blk_put (cs := #[.slice none 0 0, .slice none 0 0, .slice none 0 0, .int .i64 0]) ?_ 0 _ rfl; (with_reducible repeat (first | refine blk_drewN ?_ _ | refine blk_drew ?_ | refine blk_alloc ?_ _)); exact BK746.out) hb); replace HB := Aside0.mk (below_step (bs5 HB GE640 GE667 GE678 GE693 GE746) hb); (try clear hb); (try clear hb2); (try clear hk); (try clear hi)))
               go_meet
               case rel => exact ⟨_, ((t745 != t666)), (by first | rfl | (simp; done) | (simp [*]; done)), H', ⟨by have := HJ19.out; have := HJ86.out; first | omega | exact Nat.le_refl _⟩, ⟨by (try simp only [hl679000_86]); (try simp only [hl679001_86]); (try simp only [hl679002_86]); (with_reducible repeat (first | apply Kd.R_alloc | apply Kd.R_drewN | apply Kd.R_drew)); exact Kd.R_mono HO_668000.out (fun _ hk => ⟨hk.1.1.1.1.1, ⟨hk.1.1.1.1.2.1, ⟨hk.1.1.1.1.2.2.1, ⟨hk.1.1.1.1.2.2.2.1, ⟨hk.1.1.1.1.2.2.2.2, ⟨hk.1.2, hk.2⟩⟩⟩⟩⟩⟩)⟩, ⟨by (try simp only [hl679000_86]); (try simp only [hl679001_86]); (try simp only [hl679002_86]); (with_reducible repeat (first | apply Kd.R_alloc | apply Kd.R_drewN | apply Kd.R_drew)); exact Kd.R_mono HO_668001.out (fun _ hk => ⟨hk.1.1.1.1, ⟨hk.1.1.1.2, hk.2⟩⟩)⟩, ⟨by (try simp only [hl679000_86]); (try simp only [hl679001_86]); (try simp only [hl679002_86]); (with_reducible repeat (first | apply Kd.R_alloc | apply Kd.R_drewN | apply Kd.R_drew)); exact Kd.R_mono HO_668002.out (fun _ hk => ⟨hk.1.1.1.1.1, ⟨hk.1.1.1.1.2.1, ⟨hk.1.1.1.1.2.2.1, ⟨hk.1.1.1.1.2.2.2.1, ⟨hk.1.1.1.1.2.2.2.2, ⟨hk.1.2, hk.2⟩⟩⟩⟩⟩⟩)⟩, ⟨by (try simp only [hl679000_86]); (try simp only [hl679001_86]); (try simp only [hl679002_86]); (with_reducible repeat (first | apply Kd.R_alloc | apply Kd.R_drewN | apply Kd.R_drew)); exact Kd.R_mono HO_679000.out (fun _ hk => ⟨hk.1.1.1.1.1, ⟨hk.1.1.1.1.2.1, ⟨hk.1.1.1.1.2.2.1, ⟨hk.1.1.1.1.2.2.2.1, ⟨hk.1.1.1.1.2.2.2.2, ⟨hk.1.2, hk.2⟩⟩⟩⟩⟩⟩)⟩, ⟨by (try simp only [hl679000_86]); (try simp only [hl679001_86]); (try simp only [hl679002_86]); (with_reducible repeat (first | apply Kd.R_alloc | apply Kd.R_drewN | apply Kd.R_drew)); exact Kd.R_mono HO_679001.out (fun _ hk => ⟨hk.1.1.1.1, ⟨hk.1.1.1.2, hk.2⟩⟩)⟩, ⟨by (try simp only [hl679000_86]); (try simp only [hl679001_86]); (try simp only [hl679002_86]); (with_reducible repeat (first | apply Kd.R_alloc | apply Kd.R_drewN | apply Kd.R_drew)); exact Kd.R_mono HO_679002.out (fun _ hk => ⟨hk.1.1.1.1.1, ⟨hk.1.1.1.1.2.1, ⟨hk.1.1.1.1.2.2.1, ⟨hk.1.1.1.1.2.2.2.1, ⟨hk.1.1.1.1.2.2.2.2, ⟨hk.1.2, hk.2⟩⟩⟩⟩⟩⟩)⟩, ⟨by (try simp only [hl679000_86]); (try simp only [hl679001_86]); (try simp only [hl679002_86]); (with_reducible repeat (first | apply Kd.R_alloc | apply Kd.R_drewN | apply Kd.R_drew)); exact Kd.R_mono HO_694000.out (fun _ hk => ⟨hk.1.1.1.1.1, ⟨hk.1.1.1.1.2.1, ⟨hk.1.1.1.1.2.2.1, ⟨hk.1.1.1.1.2.2.2.1, ⟨hk.1.1.1.1.2.2.2.2, ⟨hk.1.2, hk.2⟩⟩⟩⟩⟩⟩)⟩, ⟨by (try simp only [hl679000_86]); (try simp only [hl679001_86]); (try simp only [hl679002_86]); (with_reducible repeat (first | apply Kd.R_alloc | apply Kd.R_drewN | apply Kd.R_drew)); exact Kd.R_mono HO_694001.out (fun _ hk => ⟨hk.1.1.1.1, ⟨hk.1.1.1.2, hk.2⟩⟩)⟩, ⟨by (try simp only [hl679000_86]); (try simp only [hl679001_86]); (try simp only [hl679002_86]); (with_reducible repeat (first | apply Kd.R_alloc | apply Kd.R_drewN | apply Kd.R_drew)); exact Kd.R_mono HO_694002.out (fun _ hk => ⟨hk.1.1.1.1.1, ⟨hk.1.1.1.1.2.1, ⟨hk.1.1.1.1.2.2.1, ⟨hk.1.1.1.1.2.2.2.1, ⟨hk.1.1.1.1.2.2.2.2, ⟨hk.1.2, hk.2⟩⟩⟩⟩⟩⟩)⟩, ⟨by (try simp only [hl679000_86]); (try simp only [hl679001_86]); (try simp only [hl679002_86]); (with_reducible repeat (first | apply Kd.R_alloc | apply Kd.R_drewN | apply Kd.R_drew)); exact Kd.R_mono HO737.out (fun _ hk => ⟨hk.1.1.1.1.1.1.1.2, ⟨hk.1.1.1.1.1.1.2, ⟨hk.1.1.1.1.1.2, ⟨hk.1.1.1.1.2, ⟨hk.1.1.1.2, ⟨hk.1.1.2, hk.1.1.1.1.1.1.1.1⟩⟩⟩⟩⟩⟩)⟩, ⟨by (try simp only [hl679000_86]); (try simp only [hl679001_86]); (try simp only [hl679002_86]); (with_reducible repeat (first | apply Kd.R_alloc | apply Kd.R_drewN | apply Kd.R_drew)); exact Kd.R_mono HO740.out (fun _ hk => ⟨hk.1.1.1.1.2, ⟨hk.1.1.1.2, hk.1.1.2⟩⟩)⟩, ⟨by (try simp only [hl679000_86]); (try simp only [hl679001_86]); (try simp only [hl679002_86]); (with_reducible repeat (first | apply Kd.R_alloc | apply Kd.R_drewN | apply Kd.R_drew)); exact Kd.R_mono HO743.out (fun _ hk => ⟨hk.1.1.1.1.1.1.1.2, ⟨hk.1.1.1.1.1.1.2, ⟨hk.1.1.1.1.1.2, ⟨hk.1.1.1.1.2, ⟨hk.1.1.1.2, ⟨hk.1.1.2, hk.1.1.1.1.1.1.1.1⟩⟩⟩⟩⟩⟩)⟩, ⟨by (try simp only [hl679000_86]); (try simp only [hl679001_86]); (try simp only [hl679002_86]); (with_reducible repeat (first | refine blk_drewN ?_ _ | refine blk_drew ?_ | refine blk_alloc ?_ _)); exact BK640.out⟩, ⟨by (try simp only [hl679000_86]); (try simp only [hl679001_86]); (try simp only [hl679002_86]); (with_reducible repeat (first | refine blk_drewN ?_ _ | refine blk_drew ?_ | refine blk_alloc ?_ _)); exact BK667.out⟩, ⟨by (try simp only [hl679000_86]); (try simp only [hl679001_86]); (try simp only [hl679002_86]); (with_reducible repeat (first | refine blk_drewN ?_ _ | refine blk_drew ?_ | refine blk_alloc ?_ _)); exact BK678.out⟩, ⟨by (try simp only [hl679000_86]); (try simp only [hl679001_86]); (try simp only [hl679002_86]); (with_reducible repeat (first | refine blk_drewN ?_ _ | refine blk_drew ?_ | refine blk_alloc ?_ _)); exact BK693.out⟩, ⟨by (try simp only [hl679000_86]); (try simp only [hl679001_86]); (try simp only [hl679002_86]); (with_reducible repeat (first | refine blk_drewN ?_ _ | refine blk_drew ?_ | refine blk_alloc ?_ _)); exact BK746.out⟩, ⟨bs5 HB GE640 GE667 GE678 GE693 GE746⟩⟩
              ·
               replace c165 := Bool.eq_false_iff.mpr c165
               subst c165
               rw [if_neg (show ¬ (false = true) by decide)] at H
               have H' := Aside0.mk H
               clear H
               have hnb176 := NB746_640.out
               have hnc176 := NB640_746.out
               have hnb177 := NB746_667.out
               have hnc177 := NB667_746.out
               have hnb178 := NB746_678.out
               have hnc178 := NB678_746.out
               have hnb179 := NB746_693.out
               have hnc179 := NB693_746.out
               obtain ⟨hcz180_0, hcz180_1, hcz180_2, hcz180_3⟩ := cz4 BK746
               obtain ⟨hfz180_0, hfz180_1, hfz180_2, hfz180_3⟩ := fz4 BK746
               have hnb181 := NB667_640.out
               have hnc181 := NB640_667.out
               have hnb182 := NB667_678.out
               have hnc182 := NB678_667.out
               have hnb183 := NB667_693.out
               have hnc183 := NB693_667.out
               obtain ⟨hcz184_0, hcz184_1, hcz184_2, hcz184_3⟩ := cz4 BK667
               obtain ⟨hfz184_0, hfz184_1, hfz184_2, hfz184_3⟩ := fz4 BK667
               go_wp2_with (first | ((with_reducible refine gate_callee (f := 29) rfl ?_); refine gL (some 104) rfl rfl Try.func29 (by kernel_rfl) rfl #[.agg #[.slice Ao156 t735.length co156, .slice Ao162 t738.length co162, .slice Ao163 t741.length co163, .int .i64 t744], .agg #[.slice Ao34 t656.length co34, .slice Ao37 t659.length co37, .slice Ao38 t662.length co38, .int .i64 t665]] rfl ?_; (with_reducible refine (laws_eqStore.calls kj86 _ _ t735 _ _ t738 _ _ t741 t744 _ _ t656 _ _ t659 _ _ t662 t665 false _ ?side1 ?side2 ?side3 ?side4 ?side5 ?side6 ?side7 ?side8 ?side9 ?side10 ?side11 ?side12 A164.out).mono ?_); (case side1 => exact rc HO737 BK746); (case side2 => exact (Kd.R_reads' HO737.out).2.1); (case side3 => exact rc HO740 BK746); (case side4 => exact (Kd.R_reads' HO740.out).2.1); (case side5 => exact rc HO743 BK746); (case side6 => exact (Kd.R_reads' HO743.out).2.1); (case side7 => exact rc HO_668000 BK746); (case side8 => exact (Kd.R_reads' HO_668000.out).2.1); (case side9 => exact rc HO_668001 BK746); (case side10 => exact (Kd.R_reads' HO_668001.out).2.1); (case side11 => exact rc HO_668002 BK746); (case side12 => exact (Kd.R_reads' HO_668002.out).2.1); rintro e w185 ⟨rfl, hb⟩; refine ⟨_, rfl, ?_⟩; replace HO_668000 := nf HO_668000 BK746 hb; replace HO_668001 := nf HO_668001 BK746 hb; replace HO_668002 := nf HO_668002 BK746 hb; replace HO_679000 := nf HO_679000 BK746 hb; replace HO_679001 := nf HO_679001 BK746 hb; replace HO_679002 := nf HO_679002 BK746 hb; replace HO_694000 := nf HO_694000 BK746 hb; replace HO_694001 := nf HO_694001 BK746 hb; replace HO_694002 := nf HO_694002 BK746 hb; replace HO724 := nf HO724 BK746 hb; replace HO727 := nf HO727 BK746 hb; replace HO730 := nf HO730 BK746 hb; replace HO734 := nf HO734 BK746 hb; replace HO737 := nf HO737 BK746 hb; replace HO740 := nf HO740 BK746 hb; replace HO743 := nf HO743 BK746 hb; replace BK640 := Aside0.mk (blk_below (bf BK640 NB640_746) hb); replace BK667 := Aside0.mk (blk_below (bf BK667 NB667_746) hb); replace BK678 := Aside0.mk (blk_below (bf BK678 NB678_746) hb); replace BK693 := Aside0.mk (blk_below (bf BK693 NB693_746) hb); replace BK746 := Aside0.mk (blk_below (g := gb746) (o := .cells #[.slice Ao156 t735.length co156, .slice Ao162 t738.length co162, .slice Ao163 t741.length co163, .int .i64 t744] 44 (0, 0)) (by (with_reducible repeat (first | refine blk_drewN ?_ _ | refine blk_drew ?_ | refine blk_alloc ?_ _)); refine blk_put (cs := #[.slice Ao156 t735.length co156, .slice Ao162 t738.length co162, .slice Ao163 t741.length co163, .int .i64 0]) ?_ 3 _ rfl; (with_reducible repeat (first | refine blk_drewN ?_ _ | refine blk_drew ?_ | refine blk_alloc ?_ _)); refine blk_put (cs := #[.slice Ao156 t735.length co156, .slice Ao162 t738.length co162, .slice none 0 0, .int .i64 0]) ?_ 2 _ rfl; (with_reducible repeat (first | refine blk_drewN ?_ _ | refine blk_drew ?_ | refine blk_alloc ?_ _)); refine blk_put (cs := #[.slice Ao156 t735.length co156, .slice none 0 0, .slice none 0 0, .int .i64 0]) ?_ 1 _ rfl; (with_reducible repeat (first | refine blk_drewN ?_ _ | refine blk_drew ?_ | refine blk_alloc ?_ _)); refine blk_put (cs := #[.slice none 0 0, .slice none 0 0, .slice none 0 0, .int .i64 0]) ?_ 0 _ rfl; (with_reducible repeat (first | refine blk_drewN ?_ _ | refine blk_drew ?_ | refine blk_alloc ?_ _)); exact BK746.out) hb); replace HB := Aside0.mk (below_step (bs5 HB GE640 GE667 GE678 GE693 GE746) hb); (try clear hb); (try clear hb2); (try clear hk); (try clear hi)))
               go_meet
               case rel => exact ⟨_, (true), (by first | rfl | (simp; done) | (simp [*]; done)), H', ⟨by have := HJ19.out; have := HJ86.out; first | omega | exact Nat.le_refl _⟩, ⟨by (try simp only [hl679000_86]); (try simp only [hl679001_86]); (try simp only [hl679002_86]); (with_reducible repeat (first | apply Kd.R_alloc | apply Kd.R_drewN | apply Kd.R_drew)); exact Kd.R_mono HO_668000.out (fun _ hk => ⟨hk.1.1.1.1.1, ⟨hk.1.1.1.1.2.1, ⟨hk.1.1.1.1.2.2.1, ⟨hk.1.1.1.1.2.2.2.1, ⟨hk.1.1.1.1.2.2.2.2, ⟨hk.1.2, hk.2⟩⟩⟩⟩⟩⟩)⟩, ⟨by (try simp only [hl679000_86]); (try simp only [hl679001_86]); (try simp only [hl679002_86]); (with_reducible repeat (first | apply Kd.R_alloc | apply Kd.R_drewN | apply Kd.R_drew)); exact Kd.R_mono HO_668001.out (fun _ hk => ⟨hk.1.1.1.1, ⟨hk.1.1.1.2, hk.2⟩⟩)⟩, ⟨by (try simp only [hl679000_86]); (try simp only [hl679001_86]); (try simp only [hl679002_86]); (with_reducible repeat (first | apply Kd.R_alloc | apply Kd.R_drewN | apply Kd.R_drew)); exact Kd.R_mono HO_668002.out (fun _ hk => ⟨hk.1.1.1.1.1, ⟨hk.1.1.1.1.2.1, ⟨hk.1.1.1.1.2.2.1, ⟨hk.1.1.1.1.2.2.2.1, ⟨hk.1.1.1.1.2.2.2.2, ⟨hk.1.2, hk.2⟩⟩⟩⟩⟩⟩)⟩, ⟨by (try simp only [hl679000_86]); (try simp only [hl679001_86]); (try simp only [hl679002_86]); (with_reducible repeat (first | apply Kd.R_alloc | apply Kd.R_drewN | apply Kd.R_drew)); exact Kd.R_mono HO_679000.out (fun _ hk => ⟨hk.1.1.1.1.1, ⟨hk.1.1.1.1.2.1, ⟨hk.1.1.1.1.2.2.1, ⟨hk.1.1.1.1.2.2.2.1, ⟨hk.1.1.1.1.2.2.2.2, ⟨hk.1.2, hk.2⟩⟩⟩⟩⟩⟩)⟩, ⟨by (try simp only [hl679000_86]); (try simp only [hl679001_86]); (try simp only [hl679002_86]); (with_reducible repeat (first | apply Kd.R_alloc | apply Kd.R_drewN | apply Kd.R_drew)); exact Kd.R_mono HO_679001.out (fun _ hk => ⟨hk.1.1.1.1, ⟨hk.1.1.1.2, hk.2⟩⟩)⟩, ⟨by (try simp only [hl679000_86]); (try simp only [hl679001_86]); (try simp only [hl679002_86]); (with_reducible repeat (first | apply Kd.R_alloc | apply Kd.R_drewN | apply Kd.R_drew)); exact Kd.R_mono HO_679002.out (fun _ hk => ⟨hk.1.1.1.1.1, ⟨hk.1.1.1.1.2.1, ⟨hk.1.1.1.1.2.2.1, ⟨hk.1.1.1.1.2.2.2.1, ⟨hk.1.1.1.1.2.2.2.2, ⟨hk.1.2, hk.2⟩⟩⟩⟩⟩⟩)⟩, ⟨by (try simp only [hl679000_86]); (try simp only [hl679001_86]); (try simp only [hl679002_86]); (with_reducible repeat (first | apply Kd.R_alloc | apply Kd.R_drewN | apply Kd.R_drew)); exact Kd.R_mono HO_694000.out (fun _ hk => ⟨hk.1.1.1.1.1, ⟨hk.1.1.1.1.2.1, ⟨hk.1.1.1.1.2.2.1, ⟨hk.1.1.1.1.2.2.2.1, ⟨hk.1.1.1.1.2.2.2.2, ⟨hk.1.2, hk.2⟩⟩⟩⟩⟩⟩)⟩, ⟨by (try simp only [hl679000_86]); (try simp only [hl679001_86]); (try simp only [hl679002_86]); (with_reducible repeat (first | apply Kd.R_alloc | apply Kd.R_drewN | apply Kd.R_drew)); exact Kd.R_mono HO_694001.out (fun _ hk => ⟨hk.1.1.1.1, ⟨hk.1.1.1.2, hk.2⟩⟩)⟩, ⟨by (try simp only [hl679000_86]); (try simp only [hl679001_86]); (try simp only [hl679002_86]); (with_reducible repeat (first | apply Kd.R_alloc | apply Kd.R_drewN | apply Kd.R_drew)); exact Kd.R_mono HO_694002.out (fun _ hk => ⟨hk.1.1.1.1.1, ⟨hk.1.1.1.1.2.1, ⟨hk.1.1.1.1.2.2.1, ⟨hk.1.1.1.1.2.2.2.1, ⟨hk.1.1.1.1.2.2.2.2, ⟨hk.1.2, hk.2⟩⟩⟩⟩⟩⟩)⟩, ⟨by (try simp only [hl679000_86]); (try simp only [hl679001_86]); (try simp only [hl679002_86]); (with_reducible repeat (first | apply Kd.R_alloc | apply Kd.R_drewN | apply Kd.R_drew)); exact Kd.R_mono HO737.out (fun _ hk => ⟨hk.1.1.1.1.1.1.1.2, ⟨hk.1.1.1.1.1.1.2, ⟨hk.1.1.1.1.1.2, ⟨hk.1.1.1.1.2, ⟨hk.1.1.1.2, ⟨hk.1.1.2, hk.1.1.1.1.1.1.1.1⟩⟩⟩⟩⟩⟩)⟩, ⟨by (try simp only [hl679000_86]); (try simp only [hl679001_86]); (try simp only [hl679002_86]); (with_reducible repeat (first | apply Kd.R_alloc | apply Kd.R_drewN | apply Kd.R_drew)); exact Kd.R_mono HO740.out (fun _ hk => ⟨hk.1.1.1.1.2, ⟨hk.1.1.1.2, hk.1.1.2⟩⟩)⟩, ⟨by (try simp only [hl679000_86]); (try simp only [hl679001_86]); (try simp only [hl679002_86]); (with_reducible repeat (first | apply Kd.R_alloc | apply Kd.R_drewN | apply Kd.R_drew)); exact Kd.R_mono HO743.out (fun _ hk => ⟨hk.1.1.1.1.1.1.1.2, ⟨hk.1.1.1.1.1.1.2, ⟨hk.1.1.1.1.1.2, ⟨hk.1.1.1.1.2, ⟨hk.1.1.1.2, ⟨hk.1.1.2, hk.1.1.1.1.1.1.1.1⟩⟩⟩⟩⟩⟩)⟩, ⟨by (try simp only [hl679000_86]); (try simp only [hl679001_86]); (try simp only [hl679002_86]); (with_reducible repeat (first | refine blk_drewN ?_ _ | refine blk_drew ?_ | refine blk_alloc ?_ _)); exact BK640.out⟩, ⟨by (try simp only [hl679000_86]); (try simp only [hl679001_86]); (try simp only [hl679002_86]); (with_reducible repeat (first | refine blk_drewN ?_ _ | refine blk_drew ?_ | refine blk_alloc ?_ _)); exact BK667.out⟩, ⟨by (try simp only [hl679000_86]); (try simp only [hl679001_86]); (try simp only [hl679002_86]); (with_reducible repeat (first | refine blk_drewN ?_ _ | refine blk_drew ?_ | refine blk_alloc ?_ _)); exact BK678.out⟩, ⟨by (try simp only [hl679000_86]); (try simp only [hl679001_86]); (try simp only [hl679002_86]); (with_reducible repeat (first | refine blk_drewN ?_ _ | refine blk_drew ?_ | refine blk_alloc ?_ _)); exact BK693.out⟩, ⟨by (try simp only [hl679000_86]); (try simp only [hl679001_86]); (try simp only [hl679002_86]); (with_reducible repeat (first | refine blk_drewN ?_ _ | refine blk_drew ?_ | refine blk_alloc ?_ _)); exact BK746.out⟩, ⟨bs5 HB GE640 GE667 GE678 GE693 GE746⟩⟩
             case rest =>
              clear HC137
              try clear c1
              try clear c2
              try clear p2
              try clear c3
              try clear c4
              try clear c4b0
              try clear c5
              try clear c6
              try clear c7
              try clear c8
              try clear c9
              try clear c9b0
              try clear c10
              try clear c11
              try clear c12
              try clear c13
              try clear c14
              try clear c15
              try clear c16
              try clear c17
              try clear c18
              try clear c20
              try clear c23
              try clear c25
              try clear c27
              try clear c29
              try clear c32
              try clear c33
              try clear c35
              try clear c39
              try clear c40
              try clear c43
              try clear c44
              try clear c54
              try clear c55
              try clear c56
              try clear c61
              try clear c62
              try clear c63
              try clear c64
              try clear c66
              try clear c67
              try clear c70
              try clear c71
              try clear c72
              try clear c74
              try clear c75
              try clear c78
              try clear c81
              try clear c84
              try clear c97
              try clear c98
              try clear c99
              try clear c103
              try clear c103b0
              try clear c105
              try clear c106
              try clear c107
              try clear c108
              try clear c110
              try clear c111
              try clear c114
              try clear c115
              try clear c116
              try clear c118
              try clear c119
              try clear c122
              try clear c125
              try clear c125b0
              try clear c126
              try clear c127
              try clear c128
              try clear c133
              try clear c133b0
              try clear c133b1
              try clear c138
              try clear c139
              try clear c140
              try clear c145
              try clear c146
              try clear c157
              try clear c158
              try clear c159
              try clear c160
              try clear c165
              try clear c166
              try clear c167
              try clear c168
              try clear c169
              try clear c171
              try clear c172
              try clear c173
              try clear c176
              try clear c177
              try clear c178
              try clear c179
              try clear c181
              try clear c182
              try clear c183
              try clear hcz100_0 hcz100_1 hcz100_2 hcz100_3
              try clear hcz109_0 hcz109_1 hcz109_2 hcz109_3
              try clear hcz112_0 hcz112_1 hcz112_2 hcz112_3
              try clear hcz117_0 hcz117_1 hcz117_2 hcz117_3
              try clear hcz11_0 hcz11_1 hcz11_2 hcz11_3
              try clear hcz120_0 hcz120_1 hcz120_2 hcz120_3
              try clear hcz129_0 hcz129_1 hcz129_2 hcz129_3
              try clear hcz131_0 hcz131_1 hcz131_2 hcz131_3
              try clear hcz141_0 hcz141_1 hcz141_2 hcz141_3
              try clear hcz143_0 hcz143_1 hcz143_2 hcz143_3
              try clear hcz147_0 hcz147_1 hcz147_2 hcz147_3
              try clear hcz161_0 hcz161_1 hcz161_2 hcz161_3
              try clear hcz170_0 hcz170_1 hcz170_2 hcz170_3
              try clear hcz174_0 hcz174_1 hcz174_2 hcz174_3
              try clear hcz180_0 hcz180_1 hcz180_2 hcz180_3
              try clear hcz184_0 hcz184_1 hcz184_2 hcz184_3
              try clear hcz22_0 hcz22_1 hcz22_2 hcz22_3
              try clear hcz25_0 hcz25_1 hcz25_2 hcz25_3
              try clear hcz36_0 hcz36_1 hcz36_2 hcz36_3
              try clear hcz39_0 hcz39_1 hcz39_2 hcz39_3
              try clear hcz45_0 hcz45_1 hcz45_2 hcz45_3
              try clear hcz49_0 hcz49_1 hcz49_2 hcz49_3
              try clear hcz57_0 hcz57_1 hcz57_2 hcz57_3
              try clear hcz65_0 hcz65_1 hcz65_2 hcz65_3
              try clear hcz68_0 hcz68_1 hcz68_2 hcz68_3
              try clear hcz6_0 hcz6_1 hcz6_2 hcz6_3
              try clear hcz73_0 hcz73_1 hcz73_2 hcz73_3
              try clear hcz76_0 hcz76_1 hcz76_2 hcz76_3
              try clear hfz100_0 hfz100_1 hfz100_2 hfz100_3
              try clear hfz109_0 hfz109_1 hfz109_2 hfz109_3
              try clear hfz112_0 hfz112_1 hfz112_2 hfz112_3
              try clear hfz117_0 hfz117_1 hfz117_2 hfz117_3
              try clear hfz11_0 hfz11_1 hfz11_2 hfz11_3
              try clear hfz120_0 hfz120_1 hfz120_2 hfz120_3
              try clear hfz129_0 hfz129_1 hfz129_2 hfz129_3
              try clear hfz131_0 hfz131_1 hfz131_2 hfz131_3
              try clear hfz141_0 hfz141_1 hfz141_2 hfz141_3
              try clear hfz143_0 hfz143_1 hfz143_2 hfz143_3
              try clear hfz147_0 hfz147_1 hfz147_2 hfz147_3
              try clear hfz161_0 hfz161_1 hfz161_2 hfz161_3
              try clear hfz170_0 hfz170_1 hfz170_2 hfz170_3
              try clear hfz174_0 hfz174_1 hfz174_2 hfz174_3
              try clear hfz180_0 hfz180_1 hfz180_2 hfz180_3
              try clear hfz184_0 hfz184_1 hfz184_2 hfz184_3
              try clear hfz22_0 hfz22_1 hfz22_2 hfz22_3
              try clear hfz25_0 hfz25_1 hfz25_2 hfz25_3
              try clear hfz36_0 hfz36_1 hfz36_2 hfz36_3
              try clear hfz39_0 hfz39_1 hfz39_2 hfz39_3
              try clear hfz45_0 hfz45_1 hfz45_2 hfz45_3
              try clear hfz49_0 hfz49_1 hfz49_2 hfz49_3
              try clear hfz57_0 hfz57_1 hfz57_2 hfz57_3
              try clear hfz65_0 hfz65_1 hfz65_2 hfz65_3
              try clear hfz68_0 hfz68_1 hfz68_2 hfz68_3
              try clear hfz6_0 hfz6_1 hfz6_2 hfz6_3
              try clear hfz73_0 hfz73_1 hfz73_2 hfz73_3
              try clear hfz76_0 hfz76_1 hfz76_2 hfz76_3
              try clear p2
              obtain ⟨kq, x110_136, rfl, HA, HJ136, HO_668000, HO_668001, HO_668002, HO_679000, HO_679001, HO_679002, HO_694000, HO_694001, HO_694002, HO_747000, HO_747001, HO_747002, BK640, BK667, BK678, BK693, BK746, HB⟩ := hcut
              have hl694000_136 := (Kd.R_reads' HO_694000.out).1
              rw [hl694000_136] at HO_694000
              (try simp only [hl694000_136])
              (try simp only [hl694000_136] at BK640)
              (try simp only [hl694000_136] at BK667)
              (try simp only [hl694000_136] at BK678)
              (try simp only [hl694000_136] at BK693)
              (try simp only [hl694000_136] at BK746)
              (try simp only [hl694000_136] at HO_668000)
              (try simp only [hl694000_136] at HO_668001)
              (try simp only [hl694000_136] at HO_668002)
              (try simp only [hl694000_136] at HO_679000)
              (try simp only [hl694000_136] at HO_679001)
              (try simp only [hl694000_136] at HO_679002)
              (try simp only [hl694000_136] at HO_694001)
              (try simp only [hl694000_136] at HO_694002)
              (try simp only [hl694000_136] at HO_747000)
              (try simp only [hl694000_136] at HO_747001)
              (try simp only [hl694000_136] at HO_747002)
              have hl694001_136 := (Kd.R_reads' HO_694001.out).1
              rw [hl694001_136] at HO_694001
              (try simp only [hl694001_136])
              (try simp only [hl694001_136] at BK640)
              (try simp only [hl694001_136] at BK667)
              (try simp only [hl694001_136] at BK678)
              (try simp only [hl694001_136] at BK693)
              (try simp only [hl694001_136] at BK746)
              (try simp only [hl694001_136] at HO_668000)
              (try simp only [hl694001_136] at HO_668001)
              (try simp only [hl694001_136] at HO_668002)
              (try simp only [hl694001_136] at HO_679000)
              (try simp only [hl694001_136] at HO_679001)
              (try simp only [hl694001_136] at HO_679002)
              (try simp only [hl694001_136] at HO_694000)
              (try simp only [hl694001_136] at HO_694002)
              (try simp only [hl694001_136] at HO_747000)
              (try simp only [hl694001_136] at HO_747001)
              (try simp only [hl694001_136] at HO_747002)
              have hl694002_136 := (Kd.R_reads' HO_694002.out).1
              rw [hl694002_136] at HO_694002
              (try simp only [hl694002_136])
              (try simp only [hl694002_136] at BK640)
              (try simp only [hl694002_136] at BK667)
              (try simp only [hl694002_136] at BK678)
              (try simp only [hl694002_136] at BK693)
              (try simp only [hl694002_136] at BK746)
              (try simp only [hl694002_136] at HO_668000)
              (try simp only [hl694002_136] at HO_668001)
              (try simp only [hl694002_136] at HO_668002)
              (try simp only [hl694002_136] at HO_679000)
              (try simp only [hl694002_136] at HO_679001)
              (try simp only [hl694002_136] at HO_679002)
              (try simp only [hl694002_136] at HO_694000)
              (try simp only [hl694002_136] at HO_694001)
              (try simp only [hl694002_136] at HO_747000)
              (try simp only [hl694002_136] at HO_747001)
              (try simp only [hl694002_136] at HO_747002)
              cases kq with
              | zero => exact absurd HA.out (by simp [laws_FnExactCommit.j2])
              | succ kj136 =>
               have H := HA.out
               clear HA
               simp only [laws_FnExactCommit.j2] at H
               by_cases c186 : x110_136 = true
               ·
                subst c186
                rw [if_pos rfl] at H
                obtain rfl := Option.some.inj H
                go_wp2
                go_ret
                exact ⟨by first | rfl | (simp [errW_none, errW_some] <;> rfl) | (simp [*, errW_none, errW_some] <;> rfl), bs5 HB GE640 GE667 GE678 GE693 GE746⟩
               ·
                replace c186 := Bool.eq_false_iff.mpr c186
                subst c186
                rw [if_neg (show ¬ (false = true) by decide)] at H
                replace H := Option.bind_eq_some_iff.mp H
                obtain ⟨t748, A1870, H⟩ := H
                replace H : (if t748 < 0 then (some false) else (if t748 = t717 then (some true) else (some false))) = some r := H
                have A187 := Aside0.mk A1870
                clear A1870
                by_cases c188 : t748 < 0
                ·
                 rw [if_pos c188] at H
                 have c188b0 : decide (t748 < 0) = true := decide_eq_true c188
                 clear c188
                 obtain rfl := Option.some.inj H
                 have hnb189 := NB693_640.out
                 have hnc189 := NB640_693.out
                 have hnb190 := NB693_667.out
                 have hnc190 := NB667_693.out
                 have hnb191 := NB693_678.out
                 have hnc191 := NB678_693.out
                 have hnb192 := NB693_746.out
                 have hnc192 := NB746_693.out
                 obtain ⟨hcz193_0, hcz193_1, hcz193_2, hcz193_3⟩ := cz4 BK693
                 obtain ⟨hfz193_0, hfz193_1, hfz193_2, hfz193_3⟩ := fz4 BK693
                 go_wp2_with (first | ((with_reducible refine gate_callee (f := 33) rfl ?_); refine gL (some 113) rfl rfl Try.func33 (by kernel_rfl) rfl #[.agg #[.slice Ao53 t718.length co53, .slice Ao58 t719.length co58, .slice Ao59 t720.length co59, .int .i64 t691], .int .i64 1] rfl ?_; (with_reducible refine (laws_heldStore.calls kj136 _ _ t718 _ _ t719 _ _ t720 t691 1 t748 _ ?side1 ?side2 ?side3 ?side4 ?side5 ?side6 A187.out).mono ?_); (case side1 => exact rc0 HO_694000); (case side2 => exact (Kd.R_reads' HO_694000.out).2.1); (case side3 => exact rc0 HO_694001); (case side4 => exact (Kd.R_reads' HO_694001.out).2.1); (case side5 => exact rc0 HO_694002); (case side6 => exact (Kd.R_reads' HO_694002.out).2.1); rintro e w194 ⟨rfl, hb⟩; refine ⟨_, rfl, ?_⟩; replace HO_668000 := nr HO_668000 hb; replace HO_668001 := nr HO_668001 hb; replace HO_668002 := nr HO_668002 hb; replace HO_679000 := nr HO_679000 hb; replace HO_679001 := nr HO_679001 hb; replace HO_679002 := nr HO_679002 hb; replace HO_694000 := nr HO_694000 hb; replace HO_694001 := nr HO_694001 hb; replace HO_694002 := nr HO_694002 hb; replace HO_747000 := nr HO_747000 hb; replace HO_747001 := nr HO_747001 hb; replace HO_747002 := nr HO_747002 hb; replace BK640 := nb BK640 hb; replace BK667 := nb BK667 hb; replace BK678 := nb BK678 hb; replace BK693 := nb BK693 hb; replace BK746 := nb BK746 hb; replace HB := Aside0.mk (below_step (bs5 HB GE640 GE667 GE678 GE693 GE746) hb); (try clear hb); (try clear hb2); (try clear hk); (try clear hi)))
                 go_ret
                 exact ⟨by first | rfl | (simp [errW_none, errW_some] <;> rfl) | (simp [*, errW_none, errW_some] <;> rfl), bs5 HB GE640 GE667 GE678 GE693 GE746⟩
                ·
                 rw [if_neg c188] at H
                 have c188b0 : decide (t748 < 0) = false := decide_eq_false c188
                 clear c188
                 by_cases c195 : t748 = t717
                 ·
                  rw [if_pos c195] at H
                  have c195b0 : (t748 == t717) = true := beq_iff_eq.mpr c195
                  have c195b1 : (t748 != t717) = false := bne_eq_false_iff_eq.mpr c195
                  clear c195
                  obtain rfl := Option.some.inj H
                  have hnb196 := NB693_640.out
                  have hnc196 := NB640_693.out
                  have hnb197 := NB693_667.out
                  have hnc197 := NB667_693.out
                  have hnb198 := NB693_678.out
                  have hnc198 := NB678_693.out
                  have hnb199 := NB693_746.out
                  have hnc199 := NB746_693.out
                  obtain ⟨hcz200_0, hcz200_1, hcz200_2, hcz200_3⟩ := cz4 BK693
                  obtain ⟨hfz200_0, hfz200_1, hfz200_2, hfz200_3⟩ := fz4 BK693
                  go_wp2_with (first | ((with_reducible refine gate_callee (f := 33) rfl ?_); refine gL (some 113) rfl rfl Try.func33 (by kernel_rfl) rfl #[.agg #[.slice Ao53 t718.length co53, .slice Ao58 t719.length co58, .slice Ao59 t720.length co59, .int .i64 t691], .int .i64 1] rfl ?_; (with_reducible refine (laws_heldStore.calls kj136 _ _ t718 _ _ t719 _ _ t720 t691 1 t748 _ ?side1 ?side2 ?side3 ?side4 ?side5 ?side6 A187.out).mono ?_); (case side1 => exact rc0 HO_694000); (case side2 => exact (Kd.R_reads' HO_694000.out).2.1); (case side3 => exact rc0 HO_694001); (case side4 => exact (Kd.R_reads' HO_694001.out).2.1); (case side5 => exact rc0 HO_694002); (case side6 => exact (Kd.R_reads' HO_694002.out).2.1); rintro e w201 ⟨rfl, hb⟩; refine ⟨_, rfl, ?_⟩; replace HO_668000 := nr HO_668000 hb; replace HO_668001 := nr HO_668001 hb; replace HO_668002 := nr HO_668002 hb; replace HO_679000 := nr HO_679000 hb; replace HO_679001 := nr HO_679001 hb; replace HO_679002 := nr HO_679002 hb; replace HO_694000 := nr HO_694000 hb; replace HO_694001 := nr HO_694001 hb; replace HO_694002 := nr HO_694002 hb; replace HO_747000 := nr HO_747000 hb; replace HO_747001 := nr HO_747001 hb; replace HO_747002 := nr HO_747002 hb; replace BK640 := nb BK640 hb; replace BK667 := nb BK667 hb; replace BK678 := nb BK678 hb; replace BK693 := nb BK693 hb; replace BK746 := nb BK746 hb; replace HB := Aside0.mk (below_step (bs5 HB GE640 GE667 GE678 GE693 GE746) hb); (try clear hb); (try clear hb2); (try clear hk); (try clear hi)))
                  go_ret
                  exact ⟨by first | rfl | (simp [errW_none, errW_some] <;> rfl) | (simp [*, errW_none, errW_some] <;> rfl), bs5 HB GE640 GE667 GE678 GE693 GE746⟩
                 ·
                  rw [if_neg c195] at H
                  have c195b0 : (t748 == t717) = false := beq_eq_false_iff_ne.mpr c195
                  have c195b1 : (t748 != t717) = true := bne_iff_ne.mpr c195
                  obtain rfl := Option.some.inj H
                  have hnb202 := NB693_640.out
                  have hnc202 := NB640_693.out
                  have hnb203 := NB693_667.out
                  have hnc203 := NB667_693.out
                  have hnb204 := NB693_678.out
                  have hnc204 := NB678_693.out
                  have hnb205 := NB693_746.out
                  have hnc205 := NB746_693.out
                  obtain ⟨hcz206_0, hcz206_1, hcz206_2, hcz206_3⟩ := cz4 BK693
                  obtain ⟨hfz206_0, hfz206_1, hfz206_2, hfz206_3⟩ := fz4 BK693
                  go_wp2_with (first | ((with_reducible refine gate_callee (f := 33) rfl ?_); refine gL (some 113) rfl rfl Try.func33 (by kernel_rfl) rfl #[.agg #[.slice Ao53 t718.length co53, .slice Ao58 t719.length co58, .slice Ao59 t720.length co59, .int .i64 t691], .int .i64 1] rfl ?_; (with_reducible refine (laws_heldStore.calls kj136 _ _ t718 _ _ t719 _ _ t720 t691 1 t748 _ ?side1 ?side2 ?side3 ?side4 ?side5 ?side6 A187.out).mono ?_); (case side1 => exact rc0 HO_694000); (case side2 => exact (Kd.R_reads' HO_694000.out).2.1); (case side3 => exact rc0 HO_694001); (case side4 => exact (Kd.R_reads' HO_694001.out).2.1); (case side5 => exact rc0 HO_694002); (case side6 => exact (Kd.R_reads' HO_694002.out).2.1); rintro e w207 ⟨rfl, hb⟩; refine ⟨_, rfl, ?_⟩; replace HO_668000 := nr HO_668000 hb; replace HO_668001 := nr HO_668001 hb; replace HO_668002 := nr HO_668002 hb; replace HO_679000 := nr HO_679000 hb; replace HO_679001 := nr HO_679001 hb; replace HO_679002 := nr HO_679002 hb; replace HO_694000 := nr HO_694000 hb; replace HO_694001 := nr HO_694001 hb; replace HO_694002 := nr HO_694002 hb; replace HO_747000 := nr HO_747000 hb; replace HO_747001 := nr HO_747001 hb; replace HO_747002 := nr HO_747002 hb; replace BK640 := nb BK640 hb; replace BK667 := nb BK667 hb; replace BK678 := nb BK678 hb; replace BK693 := nb BK693 hb; replace BK746 := nb BK746 hb; replace HB := Aside0.mk (below_step (bs5 HB GE640 GE667 GE678 GE693 GE746) hb); (try clear hb); (try clear hb2); (try clear hk); (try clear hi)))
                  go_ret
                  exact ⟨by first | rfl | (simp [errW_none, errW_some] <;> rfl) | (simp [*, errW_none, errW_some] <;> rfl), bs5 HB GE640 GE667 GE678 GE693 GE746⟩
            ·
             rw [if_neg c133] at H
             have c133b0 : (t721 == t717) = false := beq_eq_false_iff_ne.mpr c133
             have c133b1 : (t721 != t717) = true := bne_iff_ne.mpr c133
             obtain rfl := Option.some.inj H
             have hnb208 := NB693_640.out
             have hnc208 := NB640_693.out
             have hnb209 := NB693_667.out
             have hnc209 := NB667_693.out
             have hnb210 := NB693_678.out
             have hnc210 := NB678_693.out
             obtain ⟨hcz211_0, hcz211_1, hcz211_2, hcz211_3⟩ := cz4 BK693
             obtain ⟨hfz211_0, hfz211_1, hfz211_2, hfz211_3⟩ := fz4 BK693
             go_wp2_with (first | ((with_reducible refine gate_callee (f := 32) rfl ?_); refine gL (some 85) rfl rfl Try.func32 (by kernel_rfl) rfl #[.agg #[.slice Ao53 t682.length co53, .slice Ao58 t685.length co58, .slice Ao59 t688.length co59, .int .i64 t691], .int .i64 1] rfl ?_; (with_reducible refine (laws_markStore.calls kj86 (fun k_ => some k_ = (.slice Ao53 t682.length co53 : Value).ownBlock) (.slice Ao53 t682.length co53) t682 (fun k_ => some k_ = (.slice Ao58 t685.length co58 : Value).ownBlock) (.slice Ao58 t685.length co58) t685 (fun k_ => some k_ = (.slice Ao59 t688.length co59 : Value).ownBlock) (.slice Ao59 t688.length co59) t688 t691 1 t717 t718 t719 t720 w _ ?side1 ?side2 ?side3 ?side4 ?side5 ?side6 A123.out).mono ?_); (case side1 => repeat (first | (with_reducible first | exact HB.out | apply below_alloc | apply pw_below_drewN | apply below_drew1 | refine below_set ?_ GE640.out | refine below_set ?_ GE667.out | refine below_set ?_ GE678.out | refine below_set ?_ GE693.out) | exact HB.out)); (case side2 => exact Kd.R_tight rfl HO_694000.out); (case side3 => exact fun k_ e_ => (HO_694000.out.1 k_ e_.symm).2.2.2.2); (case side4 => exact Kd.R_tight rfl HO_694001.out); (case side5 => exact Kd.R_tight rfl HO_694002.out); (case side6 => exact fun k_ e_ => (HO_694002.out.1 k_ e_.symm).2.2.2.2); rintro e w212 ⟨rfl, hy0, hy1, hy2, hb, hkp⟩; refine ⟨_, rfl, ?_⟩; replace HO_668000 := Aside0.mk (Kd.R_mono (ok' := fun k_ => some k_ ≠ (.slice Ao38 t662.length co38 : Value).ownBlock ∧ some k_ ≠ (.slice Ao42 t711.length co42 : Value).ownBlock ∧ some k_ ≠ (.slice Ao47 t713.length co47 : Value).ownBlock ∧ some k_ ≠ (.slice Ao53 t682.length co53 : Value).ownBlock ∧ some k_ ≠ (.slice Ao59 t688.length co59 : Value).ownBlock) (Kd.R_keptB ((Kd.R_apart' HO_668000.out (Kd.R_typed HO_694001.out) (by decide))) hkp (fun k_ hk_ hs_ => Or.elim hs_ (fun e_ => (hk_.1.2.2.2.1) e_) (fun e_ => Or.elim e_ (fun e_ => (hk_.2) e_) (fun e_ => (hk_.1.2.2.2.2) e_)))) (fun k_ hk_ => ⟨hk_.1.1.1, hk_.1.1.2.1, hk_.1.1.2.2.1, hk_.1.1.2.2.2.1, hk_.1.1.2.2.2.2⟩)); replace HO_668001 := Aside0.mk (Kd.R_mono (ok' := fun k_ => some k_ ≠ (.slice Ao46 t712.length co46 : Value).ownBlock ∧ some k_ ≠ (.slice Ao58 t685.length co58 : Value).ownBlock) (Kd.R_keptB ((Kd.R_apart' (Kd.R_apart' HO_668001.out (Kd.R_typed HO_694000.out) (by decide)) (Kd.R_typed HO_694002.out) (by decide))) hkp (fun k_ hk_ hs_ => Or.elim hs_ (fun e_ => (hk_.1.2) e_) (fun e_ => Or.elim e_ (fun e_ => (hk_.1.1.2) e_) (fun e_ => (hk_.2) e_)))) (fun k_ hk_ => ⟨hk_.1.1.1.1, hk_.1.1.1.2⟩)); replace HO_668002 := Aside0.mk (Kd.R_mono (ok' := fun k_ => some k_ ≠ (.slice Ao34 t656.length co34 : Value).ownBlock ∧ some k_ ≠ (.slice Ao42 t711.length co42 : Value).ownBlock ∧ some k_ ≠ (.slice Ao47 t713.length co47 : Value).ownBlock ∧ some k_ ≠ (.slice Ao53 t682.length co53 : Value).ownBlock ∧ some k_ ≠ (.slice Ao59 t688.length co59 : Value).ownBlock) (Kd.R_keptB ((Kd.R_apart' HO_668002.out (Kd.R_typed HO_694001.out) (by decide))) hkp (fun k_ hk_ hs_ => Or.elim hs_ (fun e_ => (hk_.1.2.2.2.1) e_) (fun e_ => Or.elim e_ (fun e_ => (hk_.2) e_) (fun e_ => (hk_.1.2.2.2.2) e_)))) (fun k_ hk_ => ⟨hk_.1.1.1, hk_.1.1.2.1, hk_.1.1.2.2.1, hk_.1.1.2.2.2.1, hk_.1.1.2.2.2.2⟩)); replace HO_679000 := Aside0.mk (Kd.R_mono (ok' := fun k_ => some k_ ≠ (.slice Ao34 t656.length co34 : Value).ownBlock ∧ some k_ ≠ (.slice Ao38 t662.length co38 : Value).ownBlock ∧ some k_ ≠ (.slice Ao47 t713.length co47 : Value).ownBlock ∧ some k_ ≠ (.slice Ao53 t682.length co53 : Value).ownBlock ∧ some k_ ≠ (.slice Ao59 t688.length co59 : Value).ownBlock) (Kd.R_keptB ((Kd.R_apart' HO_679000.out (Kd.R_typed HO_694001.out) (by decide))) hkp (fun k_ hk_ hs_ => Or.elim hs_ (fun e_ => (hk_.1.2.2.2.1) e_) (fun e_ => Or.elim e_ (fun e_ => (hk_.2) e_) (fun e_ => (hk_.1.2.2.2.2) e_)))) (fun k_ hk_ => ⟨hk_.1.1.1, hk_.1.1.2.1, hk_.1.1.2.2.1, hk_.1.1.2.2.2.1, hk_.1.1.2.2.2.2⟩)); replace HO_679001 := Aside0.mk (Kd.R_mono (ok' := fun k_ => some k_ ≠ (.slice Ao37 t659.length co37 : Value).ownBlock ∧ some k_ ≠ (.slice Ao58 t685.length co58 : Value).ownBlock) (Kd.R_keptB ((Kd.R_apart' (Kd.R_apart' HO_679001.out (Kd.R_typed HO_694000.out) (by decide)) (Kd.R_typed HO_694002.out) (by decide))) hkp (fun k_ hk_ hs_ => Or.elim hs_ (fun e_ => (hk_.1.2) e_) (fun e_ => Or.elim e_ (fun e_ => (hk_.1.1.2) e_) (fun e_ => (hk_.2) e_)))) (fun k_ hk_ => ⟨hk_.1.1.1.1, hk_.1.1.1.2⟩)); replace HO_679002 := Aside0.mk (Kd.R_mono (ok' := fun k_ => some k_ ≠ (.slice Ao34 t656.length co34 : Value).ownBlock ∧ some k_ ≠ (.slice Ao38 t662.length co38 : Value).ownBlock ∧ some k_ ≠ (.slice Ao42 t711.length co42 : Value).ownBlock ∧ some k_ ≠ (.slice Ao53 t682.length co53 : Value).ownBlock ∧ some k_ ≠ (.slice Ao59 t688.length co59 : Value).ownBlock) (Kd.R_keptB ((Kd.R_apart' HO_679002.out (Kd.R_typed HO_694001.out) (by decide))) hkp (fun k_ hk_ hs_ => Or.elim hs_ (fun e_ => (hk_.1.2.2.2.1) e_) (fun e_ => Or.elim e_ (fun e_ => (hk_.2) e_) (fun e_ => (hk_.1.2.2.2.2) e_)))) (fun k_ hk_ => ⟨hk_.1.1.1, hk_.1.1.2.1, hk_.1.1.2.2.1, hk_.1.1.2.2.2.1, hk_.1.1.2.2.2.2⟩)); replace BK640 := Aside0.mk (blk_kept (bk BK640) hkp (fun hs_ => Or.elim hs_ (fun e_ => (fun e_ => (Kd.R_ne HO_694000.out BK640.out (by decide)) e_) e_) (fun e_ => Or.elim e_ (fun e_ => (fun e_ => (Kd.R_ne HO_694001.out BK640.out (by decide)) e_) e_) (fun e_ => (fun e_ => (Kd.R_ne HO_694002.out BK640.out (by decide)) e_) e_)))); replace BK667 := Aside0.mk (blk_kept (bk BK667) hkp (fun hs_ => Or.elim hs_ (fun e_ => (fun e_ => (Kd.R_ne HO_694000.out BK667.out (by decide)) e_) e_) (fun e_ => Or.elim e_ (fun e_ => (fun e_ => (Kd.R_ne HO_694001.out BK667.out (by decide)) e_) e_) (fun e_ => (fun e_ => (Kd.R_ne HO_694002.out BK667.out (by decide)) e_) e_)))); replace BK678 := Aside0.mk (blk_kept (bk BK678) hkp (fun hs_ => Or.elim hs_ (fun e_ => (fun e_ => (Kd.R_ne HO_694000.out BK678.out (by decide)) e_) e_) (fun e_ => Or.elim e_ (fun e_ => (fun e_ => (Kd.R_ne HO_694001.out BK678.out (by decide)) e_) e_) (fun e_ => (fun e_ => (Kd.R_ne HO_694002.out BK678.out (by decide)) e_) e_)))); replace BK693 := Aside0.mk (blk_kept (bk BK693) hkp (fun hs_ => Or.elim hs_ (fun e_ => (fun e_ => (Kd.R_ne HO_694000.out BK693.out (by decide)) e_) e_) (fun e_ => Or.elim e_ (fun e_ => (fun e_ => (Kd.R_ne HO_694001.out BK693.out (by decide)) e_) e_) (fun e_ => (fun e_ => (Kd.R_ne HO_694002.out BK693.out (by decide)) e_) e_)))); replace HO_694000 := Aside0.mk (Kd.R_reok rfl hy0 (fun k_ e_ => HO_694000.out.1 k_ e_)); replace HO_694001 := Aside0.mk (Kd.R_reok rfl hy1 (fun k_ e_ => HO_694001.out.1 k_ e_)); replace HO_694002 := Aside0.mk (Kd.R_reok rfl hy2 (fun k_ e_ => HO_694002.out.1 k_ e_)); replace HB := Aside0.mk (hb); (try clear hb); (try clear hkp); (try clear hy0); (try clear hy1); (try clear hy2); obtain ⟨hcz213_0, hcz213_1, hcz213_2, hcz213_3⟩ := cz4 BK693; obtain ⟨hfz213_0, hfz213_1, hfz213_2, hfz213_3⟩ := fz4 BK693) | ((with_reducible refine gate_callee (f := 33) rfl ?_); refine goesL_ (some 88) rfl rfl Try.func33 (by kernel_rfl) rfl #[.agg #[.slice Ao53 t718.length co53, .slice Ao58 t719.length co58, .slice Ao59 t720.length co59, .int .i64 t691], .int .i64 1] rfl (by (try simp only [List.map_toArray, List.map_cons, List.map_nil]); first | done | (rw [show t718.length = t682.length from (Kd.R_reads' HO_694000.out).1.symm, show t719.length = t685.length from (Kd.R_reads' HO_694001.out).1.symm, show t720.length = t688.length from (Kd.R_reads' HO_694002.out).1.symm] <;> rfl) | rfl | (simp only [List.length_drop, List.length_take]; rfl)) ?_; (with_reducible refine (laws_heldStore.calls kj86 _ _ t718 _ _ t719 _ _ t720 t691 1 t721 _ ?side1 ?side2 ?side3 ?side4 ?side5 ?side6 A124.out).mono ?_); (case side1 => exact rc0 HO_694000); (case side2 => rw [show t718.length = t682.length from (Kd.R_reads' HO_694000.out).1.symm]; exact (Kd.R_reads' HO_694000.out).2.1); (case side3 => exact rc0 HO_694001); (case side4 => rw [show t719.length = t685.length from (Kd.R_reads' HO_694001.out).1.symm]; exact (Kd.R_reads' HO_694001.out).2.1); (case side5 => exact rc0 HO_694002); (case side6 => rw [show t720.length = t688.length from (Kd.R_reads' HO_694002.out).1.symm]; exact (Kd.R_reads' HO_694002.out).2.1); rintro e w214 ⟨rfl, hb⟩; refine ⟨_, rfl, ?_⟩; replace HO_668000 := nr HO_668000 hb; replace HO_668001 := nr HO_668001 hb; replace HO_668002 := nr HO_668002 hb; replace HO_679000 := nr HO_679000 hb; replace HO_679001 := nr HO_679001 hb; replace HO_679002 := nr HO_679002 hb; replace HO_694000 := nr HO_694000 hb; replace HO_694001 := nr HO_694001 hb; replace HO_694002 := nr HO_694002 hb; replace BK640 := nb BK640 hb; replace BK667 := nb BK667 hb; replace BK678 := nb BK678 hb; replace BK693 := nb BK693 hb; replace HB := Aside0.mk (below_step (bs4 HB GE640 GE667 GE678 GE693) hb); (try clear hb); (try clear hb2); (try clear hk); (try clear hi)))
             go_ret
             exact ⟨by first | rfl | (simp [errW_none, errW_some] <;> rfl) | (simp [*, errW_none, errW_some] <;> rfl), bs4 HB GE640 GE667 GE678 GE693⟩
       ·
        replace c84 := Bool.eq_false_iff.mpr c84
        subst c84
        rw [if_neg (show ¬ (false = true) by decide)] at H
        obtain rfl := Option.some.inj H
        try go_wp2
        have n0_ := Aside0.mk (Kd.R_drew HO_9.out)
        have n1_ := Aside0.mk (Kd.R_drew HO_668000.out)
        have n2_ := Aside0.mk (Kd.R_drew HO_668001.out)
        have n3_ := Aside0.mk (Kd.R_drew HO_668002.out)
        have n4_ := Aside0.mk (Kd.R_drew HO_679000.out)
        have n5_ := Aside0.mk (Kd.R_drew HO_679001.out)
        have n6_ := Aside0.mk (Kd.R_drew HO_679002.out)
        have n7_ := Aside0.mk (Kd.R_drew HO_694000.out)
        have n8_ := Aside0.mk (Kd.R_drew HO_694001.out)
        have n9_ := Aside0.mk (Kd.R_drew HO_694002.out)
        have n10_ := Aside0.mk (blk_drew BK640.out)
        have n11_ := Aside0.mk (blk_drew BK667.out)
        have n12_ := Aside0.mk (blk_drew BK678.out)
        have n13_ := Aside0.mk (blk_drew BK693.out)
        have n14_ := Aside0.mk (below_drew1 HB.out)
        clear HO_9
        clear HO_668000
        clear HO_668001
        clear HO_668002
        clear HO_679000
        clear HO_679001
        clear HO_679002
        clear HO_694000
        clear HO_694001
        clear HO_694002
        clear BK640
        clear BK667
        clear BK678
        clear BK693
        clear HB
        have HO_9 := n0_
        have HO_668000 := n1_
        have HO_668001 := n2_
        have HO_668002 := n3_
        have HO_679000 := n4_
        have HO_679001 := n5_
        have HO_679002 := n6_
        have HO_694000 := n7_
        have HO_694001 := n8_
        have HO_694002 := n9_
        have BK640 := n10_
        have BK667 := n11_
        have BK678 := n12_
        have BK693 := n13_
        have HB := n14_
        clear n0_ n1_ n2_ n3_ n4_ n5_ n6_ n7_ n8_ n9_ n10_ n11_ n12_ n13_ n14_
        refine start_ (n := 5) (S := fun w' => w'.cell? ⟨gb678, 0, none⟩ = some (.slice Ao42 t668.length co42) ∧ w'.cell? ⟨gb678, 1, none⟩ = some (.slice Ao46 t671.length co46) ∧ w'.cell? ⟨gb678, 2, none⟩ = some (.slice Ao47 t674.length co47) ∧ w'.cell? ⟨gb678, 3, none⟩ = some (.int .i64 t677) ∧ w'.cell? ⟨gb640, 0, none⟩ = some (.slice A0_0 l0_0.length c0_0) ∧ w'.cell? ⟨gb640, 1, none⟩ = some (.slice A0_1 l0_1.length c0_1) ∧ w'.cell? ⟨gb640, 2, none⟩ = some (.slice A0_2 l0_2.length c0_2) ∧ w'.cell? ⟨gb640, 3, none⟩ = some (.int .i64 a0_3)) (ds := []) #[false, false, false, false, false] (by kernel_rfl) rfl rfl ⟨(blk_cell BK678.out 0).trans rfl, (blk_cell BK678.out 1).trans rfl, (blk_cell BK678.out 2).trans rfl, (blk_cell BK678.out 3).trans rfl, (blk_cell BK640.out 0).trans rfl, (blk_cell BK640.out 1).trans rfl, (blk_cell BK640.out 2).trans rfl, (blk_cell BK640.out 3).trans rfl⟩ (fun hHeld => ?_)
        generalize wc.drew = w215 at HO_9 HO_668000 HO_668001 HO_668002 HO_679000 HO_679001 HO_679002 HO_694000 HO_694001 HO_694002 BK640 BK667 BK678 BK693 HB hHeld ⊢
        refine take_ (i := 0) (N := some 54) (v := ?_) (a' := ?_) #[true, false, false, false, false] rfl rfl (by kernel_rfl) (fun _ _ _ h => h) (Or.inl ⟨by rfl, ?_⟩) hHeld ?_ ?_
        rotate_left
        ·
         rintro w' ⟨s0, s1, s2, s3, s4, s5, s6, s7⟩
         go_simp
         with_reducible rfl
        rotate_left
        ·
         simp only [Act.put, List.setIfInBounds_toArray, List.set_cons_zero, List.set_cons_succ, i64_w, i32_w]
         rfl
        refine take_ (i := 1) (N := some 55) (v := ?_) (a' := ?_) #[true, true, false, false, false] rfl rfl (by kernel_rfl) (fun _ _ _ h => h) (Or.inl ⟨by rfl, ?_⟩) hHeld ?_ ?_
        rotate_left
        ·
         rintro w' ⟨s0, s1, s2, s3, s4, s5, s6, s7⟩
         go_simp
         with_reducible rfl
        rotate_left
        ·
         simp only [Act.put, List.setIfInBounds_toArray, List.set_cons_zero, List.set_cons_succ, i64_w, i32_w]
         rfl
        refine one_ (i := 2) (N := some 56) #[true, true, true, false, false] rfl rfl (by kernel_rfl) (by decide) (fun K hK => ?_)
        refine goes_ Try.func27 (by kernel_rfl) rfl #[.agg #[.slice A0_0 l0_0.length c0_0, .slice A0_1 l0_1.length c0_1, .slice A0_2 l0_2.length c0_2, .int .i64 a0_3]] (by rfl) rfl rfl (by (try simp only [List.map_toArray, List.map_cons, List.map_nil]); first | done | rfl | (simp only [List.length_drop, List.length_take]; rfl)) ?_
        with_reducible refine (laws_toStore.calls kj19 _ _ l0_0 _ _ l0_1 _ _ l0_2 a0_3 t695 t698 t701 t704 _ ?side1 ?side2 ?side3 ?side4 ?side5 ?side6 A79.out).mono ?_
        (case side1 => exact cb HR0_0 HB)
        (case side2 => exact HC0_0.out)
        (case side3 => exact cb HR0_1 HB)
        (case side4 => exact HC0_1.out)
        (case side5 => exact cb HR0_2 HB)
        (case side6 => exact HC0_2.out)
        rintro e w216 ⟨v696, v699, v702, rfl, ho0, ho1, ho2, hb⟩
        refine ⟨_, rfl, ?_⟩
        have n0_ := Aside0.mk (Kd.R_elder' (rr HO_9.out) (Kd.R_base ho1) hb)
        have n1_ := Aside0.mk (Kd.R_mono (Kd.R_told (Kd.R_told (Kd.R_old (rr HO_668000.out) hb) (Kd.R_base ho0)) (Kd.R_base ho2)) (fun _ h_ => h_.1))
        have n2_ := Aside0.mk (Kd.R_elder' (rr HO_668001.out) (Kd.R_base ho1) hb)
        have n3_ := Aside0.mk (Kd.R_mono (Kd.R_told (Kd.R_told (Kd.R_old (rr HO_668002.out) hb) (Kd.R_base ho0)) (Kd.R_base ho2)) (fun _ h_ => h_.1))
        have n4_ := Aside0.mk (Kd.R_mono (Kd.R_told (Kd.R_told (Kd.R_old (rr HO_679000.out) hb) (Kd.R_base ho0)) (Kd.R_base ho2)) (fun _ h_ => h_.1))
        have n5_ := Aside0.mk (Kd.R_elder' (rr HO_679001.out) (Kd.R_base ho1) hb)
        have n6_ := Aside0.mk (Kd.R_mono (Kd.R_told (Kd.R_told (Kd.R_old (rr HO_679002.out) hb) (Kd.R_base ho0)) (Kd.R_base ho2)) (fun _ h_ => h_.1))
        have n7_ := Aside0.mk (Kd.R_mono (Kd.R_told (Kd.R_told (Kd.R_old (rr HO_694000.out) hb) (Kd.R_base ho0)) (Kd.R_base ho2)) (fun _ h_ => h_.1))
        have n8_ := Aside0.mk (Kd.R_elder' (rr HO_694001.out) (Kd.R_base ho1) hb)
        have n9_ := Aside0.mk (Kd.R_mono (Kd.R_told (Kd.R_told (Kd.R_old (rr HO_694002.out) hb) (Kd.R_base ho0)) (Kd.R_base ho2)) (fun _ h_ => h_.1))
        have n10_ := Aside0.mk (Kd.R_lower (Kd.R_new' (Kd.R_new' (Kd.R_new' (Kd.R_new' (Kd.R_new' (Kd.R_new' ho0 (Kd.R_lt (rr HO_668000.out))) (Kd.R_lt (rr HO_668002.out))) (Kd.R_lt (rr HO_679000.out))) (Kd.R_lt (rr HO_679002.out))) (Kd.R_lt (rr HO_694000.out))) (Kd.R_lt (rr HO_694002.out))) (below_size (bs4 HB GE640 GE667 GE678 GE693)))
        have n11_ := Aside0.mk (Kd.R_lower (Kd.R_new' (Kd.R_new' (Kd.R_new' (Kd.R_new' ho1 (Kd.R_lt (rr HO_9.out))) (Kd.R_lt (rr HO_668001.out))) (Kd.R_lt (rr HO_679001.out))) (Kd.R_lt (rr HO_694001.out))) (below_size (bs4 HB GE640 GE667 GE678 GE693)))
        have n12_ := Aside0.mk (Kd.R_lower (Kd.R_new' (Kd.R_new' (Kd.R_new' (Kd.R_new' (Kd.R_new' (Kd.R_new' ho2 (Kd.R_lt (rr HO_668000.out))) (Kd.R_lt (rr HO_668002.out))) (Kd.R_lt (rr HO_679000.out))) (Kd.R_lt (rr HO_679002.out))) (Kd.R_lt (rr HO_694000.out))) (Kd.R_lt (rr HO_694002.out))) (below_size (bs4 HB GE640 GE667 GE678 GE693)))
        have n13_ := Aside0.mk (bb BK640 hb)
        have n14_ := Aside0.mk (bb BK667 hb)
        have n15_ := Aside0.mk (bb BK678 hb)
        have n16_ := Aside0.mk (bb BK693 hb)
        have n17_ := Aside0.mk (below_step (bs4 HB GE640 GE667 GE678 GE693) hb)
        clear HO_9
        clear HO_668000
        clear HO_668001
        clear HO_668002
        clear HO_679000
        clear HO_679001
        clear HO_679002
        clear HO_694000
        clear HO_694001
        clear HO_694002
        clear BK640
        clear BK667
        clear BK678
        clear BK693
        clear HB
        have HO_9 := n0_
        have HO_668000 := n1_
        have HO_668001 := n2_
        have HO_668002 := n3_
        have HO_679000 := n4_
        have HO_679001 := n5_
        have HO_679002 := n6_
        have HO_694000 := n7_
        have HO_694001 := n8_
        have HO_694002 := n9_
        have HO697 := n10_
        have HO700 := n11_
        have HO703 := n12_
        have BK640 := n13_
        have BK667 := n14_
        have BK678 := n15_
        have BK693 := n16_
        have HB := n17_
        clear n0_ n1_ n2_ n3_ n4_ n5_ n6_ n7_ n8_ n9_ n10_ n11_ n12_ n13_ n14_ n15_ n16_ n17_
        (try clear hb)
        (try clear hb2)
        (try clear hk)
        (try clear hi)
        (try clear ho0)
        (try clear ho1)
        (try clear ho2)
        obtain ⟨Ao217, co217, eo217⟩ := Kd.R_slice HO697.out
        (first | subst eo217 | (injection eo217 with f1_ f2_ f3_; have f4_ := f1_.symm; have f5_ := f3_.symm; clear f1_ f2_ f3_; subst f4_; subst f5_))
        obtain ⟨Ao218, co218, eo218⟩ := Kd.R_slice HO700.out
        (first | subst eo218 | (injection eo218 with f1_ f2_ f3_; have f4_ := f1_.symm; have f5_ := f3_.symm; clear f1_ f2_ f3_; subst f4_; subst f5_))
        obtain ⟨Ao219, co219, eo219⟩ := Kd.R_slice HO703.out
        (first | subst eo219 | (injection eo219 with f1_ f2_ f3_; have f4_ := f1_.symm; have f5_ := f3_.symm; clear f1_ f2_ f3_; subst f4_; subst f5_))
        refine hK.out _ _ ⟨(blk_cell BK678.out 0).trans rfl, (blk_cell BK678.out 1).trans rfl, (blk_cell BK678.out 2).trans rfl, (blk_cell BK678.out 3).trans rfl, (blk_cell BK640.out 0).trans rfl, (blk_cell BK640.out 1).trans rfl, (blk_cell BK640.out 2).trans rfl, (blk_cell BK640.out 3).trans rfl⟩ (fun hHeld => ?_)
        clear hK K
        refine norm_ (a' := ?_) ?_ ?_
        rotate_left
        ·
         show Act.put _ (some 56) _ = _
         simp only [Act.put, List.setIfInBounds_toArray, List.set_cons_zero, List.set_cons_succ, i64_w, i32_w]
         rfl
        refine one_ (i := 3) (N := some 57) #[true, true, true, true, false] rfl rfl (by kernel_rfl) (by decide) (fun K hK => ?_)
        refine goes_ Try.func29 (by kernel_rfl) rfl #[.agg #[.slice Ao42 t668.length co42, .slice Ao46 t671.length co46, .slice Ao47 t674.length co47, .int .i64 t677], .agg #[.slice Ao217 t695.length co217, .slice Ao218 t698.length co218, .slice Ao219 t701.length co219, .int .i64 t704]] (by rfl) rfl rfl (by (try simp only [List.map_toArray, List.map_cons, List.map_nil]); first | done | rfl | (simp only [List.length_drop, List.length_take]; rfl)) ?_
        with_reducible refine (laws_eqStore.calls kj19 _ _ t668 _ _ t671 _ _ t674 t677 _ _ t695 _ _ t698 _ _ t701 t704 true _ ?side1 ?side2 ?side3 ?side4 ?side5 ?side6 ?side7 ?side8 ?side9 ?side10 ?side11 ?side12 A80.out).mono ?_
        (case side1 => exact rc0 HO_679000)
        (case side2 => exact (Kd.R_reads' HO_679000.out).2.1)
        (case side3 => exact rc0 HO_679001)
        (case side4 => exact (Kd.R_reads' HO_679001.out).2.1)
        (case side5 => exact rc0 HO_679002)
        (case side6 => exact (Kd.R_reads' HO_679002.out).2.1)
        (case side7 => exact rc0 HO697)
        (case side8 => exact (Kd.R_reads' HO697.out).2.1)
        (case side9 => exact rc0 HO700)
        (case side10 => exact (Kd.R_reads' HO700.out).2.1)
        (case side11 => exact rc0 HO703)
        (case side12 => exact (Kd.R_reads' HO703.out).2.1)
        rintro e w220 ⟨rfl, hb⟩
        refine ⟨_, rfl, ?_⟩
        have n0_ := Aside0.mk (Kd.R_below (rr HO_9.out) hb)
        have n1_ := Aside0.mk (Kd.R_below (rr HO_668000.out) hb)
        have n2_ := Aside0.mk (Kd.R_below (rr HO_668001.out) hb)
        have n3_ := Aside0.mk (Kd.R_below (rr HO_668002.out) hb)
        have n4_ := Aside0.mk (Kd.R_below (rr HO_679000.out) hb)
        have n5_ := Aside0.mk (Kd.R_below (rr HO_679001.out) hb)
        have n6_ := Aside0.mk (Kd.R_below (rr HO_679002.out) hb)
        have n7_ := Aside0.mk (Kd.R_below (rr HO_694000.out) hb)
        have n8_ := Aside0.mk (Kd.R_below (rr HO_694001.out) hb)
        have n9_ := Aside0.mk (Kd.R_below (rr HO_694002.out) hb)
        have n10_ := Aside0.mk (Kd.R_below (rr HO697.out) hb)
        have n11_ := Aside0.mk (Kd.R_below (rr HO700.out) hb)
        have n12_ := Aside0.mk (Kd.R_below (rr HO703.out) hb)
        have n13_ := Aside0.mk (bb BK640 hb)
        have n14_ := Aside0.mk (bb BK667 hb)
        have n15_ := Aside0.mk (bb BK678 hb)
        have n16_ := Aside0.mk (bb BK693 hb)
        have n17_ := Aside0.mk (below_step (bs4 HB GE640 GE667 GE678 GE693) hb)
        clear HO_9
        clear HO_668000
        clear HO_668001
        clear HO_668002
        clear HO_679000
        clear HO_679001
        clear HO_679002
        clear HO_694000
        clear HO_694001
        clear HO_694002
        clear HO697
        clear HO700
        clear HO703
        clear BK640
        clear BK667
        clear BK678
        clear BK693
        clear HB
        have HO_9 := n0_
        have HO_668000 := n1_
        have HO_668001 := n2_
        have HO_668002 := n3_
        have HO_679000 := n4_
        have HO_679001 := n5_
        have HO_679002 := n6_
        have HO_694000 := n7_
        have HO_694001 := n8_
        have HO_694002 := n9_
        have HO697 := n10_
        have HO700 := n11_
        have HO703 := n12_
        have BK640 := n13_
        have BK667 := n14_
        have BK678 := n15_
        have BK693 := n16_
        have HB := n17_
        clear n0_ n1_ n2_ n3_ n4_ n5_ n6_ n7_ n8_ n9_ n10_ n11_ n12_ n13_ n14_ n15_ n16_ n17_
        (try clear hb)
        (try clear hb2)
        (try clear hk)
        (try clear hi)
        refine hK.out _ _ ⟨(blk_cell BK678.out 0).trans rfl, (blk_cell BK678.out 1).trans rfl, (blk_cell BK678.out 2).trans rfl, (blk_cell BK678.out 3).trans rfl, (blk_cell BK640.out 0).trans rfl, (blk_cell BK640.out 1).trans rfl, (blk_cell BK640.out 2).trans rfl, (blk_cell BK640.out 3).trans rfl⟩ (fun hHeld => ?_)
        clear hK K
        refine norm_ (a' := ?_) ?_ ?_
        rotate_left
        ·
         show Act.put _ (some 57) _ = _
         simp only [Act.put, List.setIfInBounds_toArray, List.set_cons_zero, List.set_cons_succ, i64_w, i32_w]
         rfl
        refine pure_ (i := 4) (N := some 58) (v := ?_) (a' := ?_) #[true, true, true, true, true] rfl rfl (by kernel_rfl) (fun _ _ _ h => h) (Or.inl ⟨by rfl, ?_⟩) ?_ ?_
        rotate_left
        ·
         intro w'
         go_simp
         with_reducible rfl
        rotate_left
        ·
         simp only [Act.put, List.setIfInBounds_toArray, List.set_cons_zero, List.set_cons_succ, i64_w, i32_w]
         rfl
        refine done_ (by kernel_rfl) ?_
        try go_wp2_with (first | ((with_reducible refine gate_callee (f := 18) rfl ?_); refine gL (some 61) rfl rfl Try.func18 (by kernel_rfl) rfl #[.slice A1 l1.length c1] rfl ?_; (with_reducible refine (laws_toWriteS.calls kj19 _ _ l1 t706 _ ?side1 ?side2 A82.out).mono ?_); (case side1 => exact cb HR1 HB); (case side2 => exact HC1.out); rintro e w221 ⟨v707, rfl, ho0, hb⟩; refine ⟨_, rfl, ?_⟩; replace HO_668000 := nr HO_668000 hb; replace HO_668002 := nr HO_668002 hb; replace HO_679000 := nr HO_679000 hb; replace HO_679002 := nr HO_679002 hb; replace HO_694000 := nr HO_694000 hb; replace HO_694002 := nr HO_694002 hb; replace HO697 := nr HO697 hb; replace HO703 := nr HO703 hb; have HO708 := Aside0.mk (Kd.R_lower (Kd.R_new' (Kd.R_new' (Kd.R_new' (Kd.R_new' (Kd.R_new' ho0 (Kd.R_lt (rr HO_9.out))) (Kd.R_lt (rr HO_668001.out))) (Kd.R_lt (rr HO_679001.out))) (Kd.R_lt (rr HO_694001.out))) (Kd.R_lt (rr HO700.out))) (below_size (bs4 HB GE640 GE667 GE678 GE693))); replace HO_9 := Aside0.mk (Kd.R_elder' (rr HO_9.out) (Kd.R_base ho0) hb); replace HO_668001 := Aside0.mk (Kd.R_elder' (rr HO_668001.out) (Kd.R_base ho0) hb); replace HO_679001 := Aside0.mk (Kd.R_elder' (rr HO_679001.out) (Kd.R_base ho0) hb); replace HO_694001 := Aside0.mk (Kd.R_elder' (rr HO_694001.out) (Kd.R_base ho0) hb); replace HO700 := Aside0.mk (Kd.R_elder' (rr HO700.out) (Kd.R_base ho0) hb); replace BK640 := nb BK640 hb; replace BK667 := nb BK667 hb; replace BK678 := nb BK678 hb; replace BK693 := nb BK693 hb; replace HB := Aside0.mk (below_step (bs4 HB GE640 GE667 GE678 GE693) hb); (try clear hb); (try clear hb2); (try clear hk); (try clear hi); (try clear ho0); obtain ⟨Ao222, co222, eo222⟩ := Kd.R_slice HO708.out; subst eo222) | ((with_reducible refine gate_callee (f := 20) rfl ?_); refine gL (some 62) rfl rfl Try.func20 (by kernel_rfl) rfl #[.slice Ao50 t679.length co50, .slice Ao222 t706.length co222] rfl ?_; (with_reducible refine (laws_eqWriteS.calls kj19 _ _ t679 _ _ t706 false _ ?side1 ?side2 ?side3 ?side4 A83.out).mono ?_); (case side1 => exact rc0 HO_9); (case side2 => exact (Kd.R_reads' HO_9.out).2.1); (case side3 => exact rc0 HO708); (case side4 => exact (Kd.R_reads' HO708.out).2.1); rintro e w223 ⟨rfl, hb⟩; refine ⟨_, rfl, ?_⟩; replace HO_9 := nr HO_9 hb; replace HO_668000 := nr HO_668000 hb; replace HO_668001 := nr HO_668001 hb; replace HO_668002 := nr HO_668002 hb; replace HO_679000 := nr HO_679000 hb; replace HO_679001 := nr HO_679001 hb; replace HO_679002 := nr HO_679002 hb; replace HO_694000 := nr HO_694000 hb; replace HO_694001 := nr HO_694001 hb; replace HO_694002 := nr HO_694002 hb; replace HO697 := nr HO697 hb; replace HO700 := nr HO700 hb; replace HO703 := nr HO703 hb; replace HO708 := nr HO708 hb; replace BK640 := nb BK640 hb; replace BK667 := nb BK667 hb; replace BK678 := nb BK678 hb; replace BK693 := nb BK693 hb; replace HB := Aside0.mk (below_step (bs4 HB GE640 GE667 GE678 GE693) hb); (try clear hb); (try clear hb2); (try clear hk); (try clear hi)))
        go_ret
        exact ⟨by first | rfl | (simp [errW_none, errW_some] <;> rfl) | (simp [*, errW_none, errW_some] <;> rfl), bs4 HB GE640 GE667 GE678 GE693⟩
      ·
       replace c81 := Bool.eq_false_iff.mpr c81
       subst c81
       rw [if_neg (show ¬ (false = true) by decide)] at H
       obtain rfl := Option.some.inj H
       try go_wp2
       have n0_ := Aside0.mk (Kd.R_drew HO_9.out)
       have n1_ := Aside0.mk (Kd.R_drew HO_668000.out)
       have n2_ := Aside0.mk (Kd.R_drew HO_668001.out)
       have n3_ := Aside0.mk (Kd.R_drew HO_668002.out)
       have n4_ := Aside0.mk (Kd.R_drew HO_679000.out)
       have n5_ := Aside0.mk (Kd.R_drew HO_679001.out)
       have n6_ := Aside0.mk (Kd.R_drew HO_679002.out)
       have n7_ := Aside0.mk (Kd.R_drew HO_694000.out)
       have n8_ := Aside0.mk (Kd.R_drew HO_694001.out)
       have n9_ := Aside0.mk (Kd.R_drew HO_694002.out)
       have n10_ := Aside0.mk (blk_drew BK640.out)
       have n11_ := Aside0.mk (blk_drew BK667.out)
       have n12_ := Aside0.mk (blk_drew BK678.out)
       have n13_ := Aside0.mk (blk_drew BK693.out)
       have n14_ := Aside0.mk (below_drew1 HB.out)
       clear HO_9
       clear HO_668000
       clear HO_668001
       clear HO_668002
       clear HO_679000
       clear HO_679001
       clear HO_679002
       clear HO_694000
       clear HO_694001
       clear HO_694002
       clear BK640
       clear BK667
       clear BK678
       clear BK693
       clear HB
       have HO_9 := n0_
       have HO_668000 := n1_
       have HO_668001 := n2_
       have HO_668002 := n3_
       have HO_679000 := n4_
       have HO_679001 := n5_
       have HO_679002 := n6_
       have HO_694000 := n7_
       have HO_694001 := n8_
       have HO_694002 := n9_
       have BK640 := n10_
       have BK667 := n11_
       have BK678 := n12_
       have BK693 := n13_
       have HB := n14_
       clear n0_ n1_ n2_ n3_ n4_ n5_ n6_ n7_ n8_ n9_ n10_ n11_ n12_ n13_ n14_
       refine start_ (n := 5) (S := fun w' => w'.cell? ⟨gb678, 0, none⟩ = some (.slice Ao42 t668.length co42) ∧ w'.cell? ⟨gb678, 1, none⟩ = some (.slice Ao46 t671.length co46) ∧ w'.cell? ⟨gb678, 2, none⟩ = some (.slice Ao47 t674.length co47) ∧ w'.cell? ⟨gb678, 3, none⟩ = some (.int .i64 t677) ∧ w'.cell? ⟨gb640, 0, none⟩ = some (.slice A0_0 l0_0.length c0_0) ∧ w'.cell? ⟨gb640, 1, none⟩ = some (.slice A0_1 l0_1.length c0_1) ∧ w'.cell? ⟨gb640, 2, none⟩ = some (.slice A0_2 l0_2.length c0_2) ∧ w'.cell? ⟨gb640, 3, none⟩ = some (.int .i64 a0_3)) (ds := []) #[false, false, false, false, false] (by kernel_rfl) rfl rfl ⟨(blk_cell BK678.out 0).trans rfl, (blk_cell BK678.out 1).trans rfl, (blk_cell BK678.out 2).trans rfl, (blk_cell BK678.out 3).trans rfl, (blk_cell BK640.out 0).trans rfl, (blk_cell BK640.out 1).trans rfl, (blk_cell BK640.out 2).trans rfl, (blk_cell BK640.out 3).trans rfl⟩ (fun hHeld => ?_)
       generalize wc.drew = w224 at HO_9 HO_668000 HO_668001 HO_668002 HO_679000 HO_679001 HO_679002 HO_694000 HO_694001 HO_694002 BK640 BK667 BK678 BK693 HB hHeld ⊢
       refine take_ (i := 0) (N := some 54) (v := ?_) (a' := ?_) #[true, false, false, false, false] rfl rfl (by kernel_rfl) (fun _ _ _ h => h) (Or.inl ⟨by rfl, ?_⟩) hHeld ?_ ?_
       rotate_left
       ·
        rintro w' ⟨s0, s1, s2, s3, s4, s5, s6, s7⟩
        go_simp
        with_reducible rfl
       rotate_left
       ·
        simp only [Act.put, List.setIfInBounds_toArray, List.set_cons_zero, List.set_cons_succ, i64_w, i32_w]
        rfl
       refine take_ (i := 1) (N := some 55) (v := ?_) (a' := ?_) #[true, true, false, false, false] rfl rfl (by kernel_rfl) (fun _ _ _ h => h) (Or.inl ⟨by rfl, ?_⟩) hHeld ?_ ?_
       rotate_left
       ·
        rintro w' ⟨s0, s1, s2, s3, s4, s5, s6, s7⟩
        go_simp
        with_reducible rfl
       rotate_left
       ·
        simp only [Act.put, List.setIfInBounds_toArray, List.set_cons_zero, List.set_cons_succ, i64_w, i32_w]
        rfl
       refine one_ (i := 2) (N := some 56) #[true, true, true, false, false] rfl rfl (by kernel_rfl) (by decide) (fun K hK => ?_)
       refine goes_ Try.func27 (by kernel_rfl) rfl #[.agg #[.slice A0_0 l0_0.length c0_0, .slice A0_1 l0_1.length c0_1, .slice A0_2 l0_2.length c0_2, .int .i64 a0_3]] (by rfl) rfl rfl (by (try simp only [List.map_toArray, List.map_cons, List.map_nil]); first | done | rfl | (simp only [List.length_drop, List.length_take]; rfl)) ?_
       with_reducible refine (laws_toStore.calls kj19 _ _ l0_0 _ _ l0_1 _ _ l0_2 a0_3 t695 t698 t701 t704 _ ?side1 ?side2 ?side3 ?side4 ?side5 ?side6 A79.out).mono ?_
       (case side1 => exact cb HR0_0 HB)
       (case side2 => exact HC0_0.out)
       (case side3 => exact cb HR0_1 HB)
       (case side4 => exact HC0_1.out)
       (case side5 => exact cb HR0_2 HB)
       (case side6 => exact HC0_2.out)
       rintro e w225 ⟨v696, v699, v702, rfl, ho0, ho1, ho2, hb⟩
       refine ⟨_, rfl, ?_⟩
       have n0_ := Aside0.mk (Kd.R_elder' (rr HO_9.out) (Kd.R_base ho1) hb)
       have n1_ := Aside0.mk (Kd.R_mono (Kd.R_told (Kd.R_told (Kd.R_old (rr HO_668000.out) hb) (Kd.R_base ho0)) (Kd.R_base ho2)) (fun _ h_ => h_.1))
       have n2_ := Aside0.mk (Kd.R_elder' (rr HO_668001.out) (Kd.R_base ho1) hb)
       have n3_ := Aside0.mk (Kd.R_mono (Kd.R_told (Kd.R_told (Kd.R_old (rr HO_668002.out) hb) (Kd.R_base ho0)) (Kd.R_base ho2)) (fun _ h_ => h_.1))
       have n4_ := Aside0.mk (Kd.R_mono (Kd.R_told (Kd.R_told (Kd.R_old (rr HO_679000.out) hb) (Kd.R_base ho0)) (Kd.R_base ho2)) (fun _ h_ => h_.1))
       have n5_ := Aside0.mk (Kd.R_elder' (rr HO_679001.out) (Kd.R_base ho1) hb)
       have n6_ := Aside0.mk (Kd.R_mono (Kd.R_told (Kd.R_told (Kd.R_old (rr HO_679002.out) hb) (Kd.R_base ho0)) (Kd.R_base ho2)) (fun _ h_ => h_.1))
       have n7_ := Aside0.mk (Kd.R_mono (Kd.R_told (Kd.R_told (Kd.R_old (rr HO_694000.out) hb) (Kd.R_base ho0)) (Kd.R_base ho2)) (fun _ h_ => h_.1))
       have n8_ := Aside0.mk (Kd.R_elder' (rr HO_694001.out) (Kd.R_base ho1) hb)
       have n9_ := Aside0.mk (Kd.R_mono (Kd.R_told (Kd.R_told (Kd.R_old (rr HO_694002.out) hb) (Kd.R_base ho0)) (Kd.R_base ho2)) (fun _ h_ => h_.1))
       have n10_ := Aside0.mk (Kd.R_lower (Kd.R_new' (Kd.R_new' (Kd.R_new' (Kd.R_new' (Kd.R_new' (Kd.R_new' ho0 (Kd.R_lt (rr HO_668000.out))) (Kd.R_lt (rr HO_668002.out))) (Kd.R_lt (rr HO_679000.out))) (Kd.R_lt (rr HO_679002.out))) (Kd.R_lt (rr HO_694000.out))) (Kd.R_lt (rr HO_694002.out))) (below_size (bs4 HB GE640 GE667 GE678 GE693)))
       have n11_ := Aside0.mk (Kd.R_lower (Kd.R_new' (Kd.R_new' (Kd.R_new' (Kd.R_new' ho1 (Kd.R_lt (rr HO_9.out))) (Kd.R_lt (rr HO_668001.out))) (Kd.R_lt (rr HO_679001.out))) (Kd.R_lt (rr HO_694001.out))) (below_size (bs4 HB GE640 GE667 GE678 GE693)))
       have n12_ := Aside0.mk (Kd.R_lower (Kd.R_new' (Kd.R_new' (Kd.R_new' (Kd.R_new' (Kd.R_new' (Kd.R_new' ho2 (Kd.R_lt (rr HO_668000.out))) (Kd.R_lt (rr HO_668002.out))) (Kd.R_lt (rr HO_679000.out))) (Kd.R_lt (rr HO_679002.out))) (Kd.R_lt (rr HO_694000.out))) (Kd.R_lt (rr HO_694002.out))) (below_size (bs4 HB GE640 GE667 GE678 GE693)))
       have n13_ := Aside0.mk (bb BK640 hb)
       have n14_ := Aside0.mk (bb BK667 hb)
       have n15_ := Aside0.mk (bb BK678 hb)
       have n16_ := Aside0.mk (bb BK693 hb)
       have n17_ := Aside0.mk (below_step (bs4 HB GE640 GE667 GE678 GE693) hb)
       clear HO_9
       clear HO_668000
       clear HO_668001
       clear HO_668002
       clear HO_679000
       clear HO_679001
       clear HO_679002
       clear HO_694000
       clear HO_694001
       clear HO_694002
       clear BK640
       clear BK667
       clear BK678
       clear BK693
       clear HB
       have HO_9 := n0_
       have HO_668000 := n1_
       have HO_668001 := n2_
       have HO_668002 := n3_
       have HO_679000 := n4_
       have HO_679001 := n5_
       have HO_679002 := n6_
       have HO_694000 := n7_
       have HO_694001 := n8_
       have HO_694002 := n9_
       have HO697 := n10_
       have HO700 := n11_
       have HO703 := n12_
       have BK640 := n13_
       have BK667 := n14_
       have BK678 := n15_
       have BK693 := n16_
       have HB := n17_
       clear n0_ n1_ n2_ n3_ n4_ n5_ n6_ n7_ n8_ n9_ n10_ n11_ n12_ n13_ n14_ n15_ n16_ n17_
       (try clear hb)
       (try clear hb2)
       (try clear hk)
       (try clear hi)
       (try clear ho0)
       (try clear ho1)
       (try clear ho2)
       obtain ⟨Ao226, co226, eo226⟩ := Kd.R_slice HO697.out
       (first | subst eo226 | (injection eo226 with f1_ f2_ f3_; have f4_ := f1_.symm; have f5_ := f3_.symm; clear f1_ f2_ f3_; subst f4_; subst f5_))
       obtain ⟨Ao227, co227, eo227⟩ := Kd.R_slice HO700.out
       (first | subst eo227 | (injection eo227 with f1_ f2_ f3_; have f4_ := f1_.symm; have f5_ := f3_.symm; clear f1_ f2_ f3_; subst f4_; subst f5_))
       obtain ⟨Ao228, co228, eo228⟩ := Kd.R_slice HO703.out
       (first | subst eo228 | (injection eo228 with f1_ f2_ f3_; have f4_ := f1_.symm; have f5_ := f3_.symm; clear f1_ f2_ f3_; subst f4_; subst f5_))
       refine hK.out _ _ ⟨(blk_cell BK678.out 0).trans rfl, (blk_cell BK678.out 1).trans rfl, (blk_cell BK678.out 2).trans rfl, (blk_cell BK678.out 3).trans rfl, (blk_cell BK640.out 0).trans rfl, (blk_cell BK640.out 1).trans rfl, (blk_cell BK640.out 2).trans rfl, (blk_cell BK640.out 3).trans rfl⟩ (fun hHeld => ?_)
       clear hK K
       refine norm_ (a' := ?_) ?_ ?_
       rotate_left
       ·
        show Act.put _ (some 56) _ = _
        simp only [Act.put, List.setIfInBounds_toArray, List.set_cons_zero, List.set_cons_succ, i64_w, i32_w]
        rfl
       refine one_ (i := 3) (N := some 57) #[true, true, true, true, false] rfl rfl (by kernel_rfl) (by decide) (fun K hK => ?_)
       refine goes_ Try.func29 (by kernel_rfl) rfl #[.agg #[.slice Ao42 t668.length co42, .slice Ao46 t671.length co46, .slice Ao47 t674.length co47, .int .i64 t677], .agg #[.slice Ao226 t695.length co226, .slice Ao227 t698.length co227, .slice Ao228 t701.length co228, .int .i64 t704]] (by rfl) rfl rfl (by (try simp only [List.map_toArray, List.map_cons, List.map_nil]); first | done | rfl | (simp only [List.length_drop, List.length_take]; rfl)) ?_
       with_reducible refine (laws_eqStore.calls kj19 _ _ t668 _ _ t671 _ _ t674 t677 _ _ t695 _ _ t698 _ _ t701 t704 false _ ?side1 ?side2 ?side3 ?side4 ?side5 ?side6 ?side7 ?side8 ?side9 ?side10 ?side11 ?side12 A80.out).mono ?_
       (case side1 => exact rc0 HO_679000)
       (case side2 => exact (Kd.R_reads' HO_679000.out).2.1)
       (case side3 => exact rc0 HO_679001)
       (case side4 => exact (Kd.R_reads' HO_679001.out).2.1)
       (case side5 => exact rc0 HO_679002)
       (case side6 => exact (Kd.R_reads' HO_679002.out).2.1)
       (case side7 => exact rc0 HO697)
       (case side8 => exact (Kd.R_reads' HO697.out).2.1)
       (case side9 => exact rc0 HO700)
       (case side10 => exact (Kd.R_reads' HO700.out).2.1)
       (case side11 => exact rc0 HO703)
       (case side12 => exact (Kd.R_reads' HO703.out).2.1)
       rintro e w229 ⟨rfl, hb⟩
       refine ⟨_, rfl, ?_⟩
       have n0_ := Aside0.mk (Kd.R_below (rr HO_9.out) hb)
       have n1_ := Aside0.mk (Kd.R_below (rr HO_668000.out) hb)
       have n2_ := Aside0.mk (Kd.R_below (rr HO_668001.out) hb)
       have n3_ := Aside0.mk (Kd.R_below (rr HO_668002.out) hb)
       have n4_ := Aside0.mk (Kd.R_below (rr HO_679000.out) hb)
       have n5_ := Aside0.mk (Kd.R_below (rr HO_679001.out) hb)
       have n6_ := Aside0.mk (Kd.R_below (rr HO_679002.out) hb)
       have n7_ := Aside0.mk (Kd.R_below (rr HO_694000.out) hb)
       have n8_ := Aside0.mk (Kd.R_below (rr HO_694001.out) hb)
       have n9_ := Aside0.mk (Kd.R_below (rr HO_694002.out) hb)
       have n10_ := Aside0.mk (Kd.R_below (rr HO697.out) hb)
       have n11_ := Aside0.mk (Kd.R_below (rr HO700.out) hb)
       have n12_ := Aside0.mk (Kd.R_below (rr HO703.out) hb)
       have n13_ := Aside0.mk (bb BK640 hb)
       have n14_ := Aside0.mk (bb BK667 hb)
       have n15_ := Aside0.mk (bb BK678 hb)
       have n16_ := Aside0.mk (bb BK693 hb)
       have n17_ := Aside0.mk (below_step (bs4 HB GE640 GE667 GE678 GE693) hb)
       clear HO_9
       clear HO_668000
       clear HO_668001
       clear HO_668002
       clear HO_679000
       clear HO_679001
       clear HO_679002
       clear HO_694000
       clear HO_694001
       clear HO_694002
       clear HO697
       clear HO700
       clear HO703
       clear BK640
       clear BK667
       clear BK678
       clear BK693
       clear HB
       have HO_9 := n0_
       have HO_668000 := n1_
       have HO_668001 := n2_
       have HO_668002 := n3_
       have HO_679000 := n4_
       have HO_679001 := n5_
       have HO_679002 := n6_
       have HO_694000 := n7_
       have HO_694001 := n8_
       have HO_694002 := n9_
       have HO697 := n10_
       have HO700 := n11_
       have HO703 := n12_
       have BK640 := n13_
       have BK667 := n14_
       have BK678 := n15_
       have BK693 := n16_
       have HB := n17_
       clear n0_ n1_ n2_ n3_ n4_ n5_ n6_ n7_ n8_ n9_ n10_ n11_ n12_ n13_ n14_ n15_ n16_ n17_
       (try clear hb)
       (try clear hb2)
       (try clear hk)
       (try clear hi)
       refine hK.out _ _ ⟨(blk_cell BK678.out 0).trans rfl, (blk_cell BK678.out 1).trans rfl, (blk_cell BK678.out 2).trans rfl, (blk_cell BK678.out 3).trans rfl, (blk_cell BK640.out 0).trans rfl, (blk_cell BK640.out 1).trans rfl, (blk_cell BK640.out 2).trans rfl, (blk_cell BK640.out 3).trans rfl⟩ (fun hHeld => ?_)
       clear hK K
       refine norm_ (a' := ?_) ?_ ?_
       rotate_left
       ·
        show Act.put _ (some 57) _ = _
        simp only [Act.put, List.setIfInBounds_toArray, List.set_cons_zero, List.set_cons_succ, i64_w, i32_w]
        rfl
       refine pure_ (i := 4) (N := some 58) (v := ?_) (a' := ?_) #[true, true, true, true, true] rfl rfl (by kernel_rfl) (fun _ _ _ h => h) (Or.inl ⟨by rfl, ?_⟩) ?_ ?_
       rotate_left
       ·
        intro w'
        go_simp
        with_reducible rfl
       rotate_left
       ·
        simp only [Act.put, List.setIfInBounds_toArray, List.set_cons_zero, List.set_cons_succ, i64_w, i32_w]
        rfl
       refine done_ (by kernel_rfl) ?_
       try go_wp2
       go_ret
       exact ⟨by first | rfl | (simp [errW_none, errW_some] <;> rfl) | (simp [*, errW_none, errW_some] <;> rfl), bs4 HB GE640 GE667 GE678 GE693⟩

/-- THE ONE PURE STATEMENT of laws_FnExactCommit. -/
def laws_FnExactCommit.Pure : Prop := ∀ (l0_0 : List ByteArray) (l0_1 : List (S76)) (l0_2 : List ByteArray) (a0_3 : Int) (l1 : List (S76)), ok38 (⟨(⟨l0_0, l0_1⟩ : S36), l0_2, a0_3⟩ : S38) → (l1.length ≤ maxLen ∧ ∀ y0 ∈ l1, ok76 y0) → ∃ k, laws_FnExactCommit.f k l0_0 l0_1 l0_2 a0_3 l1 = some true

end Go.Proofs.Ytcdkgenfggdpaaa.G
