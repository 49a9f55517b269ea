/- The law FnExactRecoverWork, for all arguments: its walk behind the plain law. No condition. -/
import Derived.Test.YtpfimjgfojdhhaaLawRecover
import Derived.Test.YtpfimjgfojdhhaaIntRecover
import Derived.Test.YtpfimjgfojdhhaaHWork
namespace Go.Proofs.Ytpfimjgfojdhhaa.Q
open Go.RowKit Go.Proofs.YtpfimjgfojdhhaaW.PrintWords Go.Proofs.Ytpfimjgfojdhhaa.G
set_option linter.unusedVariables false
set_option linter.unusedSimpArgs false
theorem Ev.at {α : Type} {g : Nat → Option α} {r : α} (h : Ev g r) : ∃ k, g k = some r := by
  obtain ⟨K, h⟩ := h;exact ⟨K, h K (Nat.le_refl _)⟩
theorem FnExactRecoverWork_run (x0 : Int) (x1 x2 : List S29) (x3 : Int) (x4 v : List S68) (o0 : ok27 (⟨⟨x0, x1, x2⟩, x3, x4⟩ : S27)) (o1 : v.length ≤ maxLen) {A1 A2 A4 Av : Option Addr} {c1 c2 c4 cv : Nat} (w : World)
    (hr1 : Kd.C k29 w A1 x1.length x1) (hc1 : x1.length ≤ c1) (hr2 : Kd.C k29 w A2 x2.length x2) (hc2 : x2.length ≤ c2) (hr4 : Kd.C k68 w A4 x4.length x4) (hc4 : x4.length ≤ c4) (hrv : Kd.C k68 w Av v.length v) (hcv : v.length ≤ cv) :
    Calls Try.prog 4 #[.agg #[.int .i64 x0, .slice A1 x1.length c1, .slice A2 x2.length c2, .int .i64 x3, .slice A4 x4.length c4], .slice Av v.length cv] w fun e w' => e = .returned (.bool true) ∧ Below w.heap.size w w' := by
  obtain ⟨t0, e0, n0⟩ := szWork_ev x0 x1 x2 x3 x4 (o0.1.2.1).1 (o0.1.2.2).1 (o0.2.2).1 1048576 (by omega) (by omega);obtain ⟨_, hZ⟩ := Ev.at e0
  by_cases c0 : t0 < 0
  · exact laws_FnExactRecoverWork.early x0 x1 x2 x3 x4 v t0 hZ c0 w hr1 hc1 hr2 hc2 hr4 hc4 hrv hcv
  obtain ⟨⟨s0, s1⟩, l1, l2, l4⟩ := n0 c0;obtain ⟨t1, e1, m0⟩ := szItemS_ev v o1 t0 s0 (by omega);obtain ⟨_, hZ2⟩ := Ev.at e1
  by_cases c1 : t1 < 0
  · exact laws_FnExactRecoverWork.early2 x0 x1 x2 x3 x4 v t0 t1 hZ c0 hZ2 c1 w hr1 hc1 hr2 hc2 hr4 hc4 hrv hcv
  obtain ⟨_, _, lv⟩ := m0 c1
  have k1 : (x1.map convExtent).length ≤ 1048576 := by rw [List.length_map]; omega
  have k2 : (x2.map convExtent).length ≤ 1048576 := by rw [List.length_map]; omega
  have k4 : (x4.map convItem).length ≤ 1048576 := by rw [List.length_map]; omega
  have kv : (v.map convItem).length ≤ 1048576 := by rw [List.length_map]; omega
  obtain ⟨kt, hT⟩ := Ev.at (toWork_ev x0 x1 x2 x3 x4 (by omega) (by omega) (by omega));obtain ⟨kti, hTI⟩ := Ev.at (toItemS_ev v (by omega));obtain ⟨⟨g0, g1, g2, g3, g4, b⟩, hs, hi, r1, r2, r4⟩ := recover_both x0 (x1.map convExtent) (x2.map convExtent) x3 (x4.map convItem) (v.map convItem) k1 k2 k4 kv;have r1' : g1.length ≤ 2000000 := r1;have r2' : g2.length ≤ 2000000 := r2;have r4' : g4.length ≤ 2000000 := r4;obtain ⟨ks, hS⟩ := Ev.at hs;obtain ⟨ki, hI⟩ := Ev.at hi;obtain ⟨ke, hE⟩ := Ev.at (eqWork_refl g0 g1 g2 g3 g4 (by omega) (by omega) (by omega));obtain ⟨ke2, hE2⟩ := Ev.at (eqWork_refl x0 (x1.map convExtent) (x2.map convExtent) x3 (x4.map convItem) (by omega) (by omega) (by omega));obtain ⟨kei, hEI⟩ := Ev.at (eqItemS_refl (v.map convItem) (by omega));obtain ⟨mk1, p1, p2, p4, em, _, b1, bq, _, _, _⟩ := markWork_ev x0 (x1.map convExtent) (x2.map convExtent) x3 (x4.map convItem) 1 (by omega) (by omega);obtain ⟨km, hM⟩ := Ev.at em;obtain ⟨mk3, it2, emi, _, b3, _, _⟩ := markItemS_ev (v.map convItem) mk1 (by omega) (by omega);obtain ⟨kmi, hMI⟩ := Ev.at emi;obtain ⟨mk2, q1, q2, q4, em2, eh, b2, _, hl1, hl2, hl4⟩ := markWork_ev g0 g1 g2 g3 g4 1 (by omega) (by omega);obtain ⟨km2, hM2⟩ := Ev.at em2;obtain ⟨kh, hH⟩ := Ev.at eh
  exact laws_FnExactRecoverWork.run kt ks ki ke ke2 km km2 kh kti kei kmi x0 x1 x2 x3 x4 x0 (x1.map convExtent) (x2.map convExtent) x3 (x4.map convItem) g0 g1 g2 g3 g4 p1 p2 p4 q1 q2 q4 v (v.map convItem) it2 t0 t1 mk1 mk2 mk3 b
    hZ2 c1 hTI hEI hMI (by omega) hZ c0 hT hS hI hE hE2 hM (by omega) hM2 (by omega) hH hl1 hl2 hl4 w hr1 hc1 hr2 hc2 hr4 hc4 hrv hcv
end Go.Proofs.Ytpfimjgfojdhhaa.Q
