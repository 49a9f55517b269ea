-- Printed by a program of this session (drive.py, by way of the kit's print). Not trusted: Lean checks it.
import Derived.Test.YtakgjdckolllaaaG0
import Derived.Test.YtakgjdckolllaaaG1
import Derived.Test.YtakgjdckolllaaaG2
namespace Go.Proofs.Ytakgjdckolllaaa.G
open Go.RowKit Go.Proofs.YtakgjdckolllaaaW.PrintWords Go.Proofs.YtakgjdckolllaaaW.PrintLast Go.Proofs.YtakgjdckolllaaaW.PrintMore
attribute [local go_sem] max2_int min2_int max_two min_two max_three min_three max_four min_four   -- for this text's walks alone
set_option linter.unusedVariables false
set_option linter.unusedSimpArgs false

attribute [local go_sem high] eqA53
/-! ### spec_l12Items: function 40 -/
mutual
def spec_l12Items.l0 : Nat → List (S71) → Int → List (S71) → Int → Int → Int → List (S53) → List (S53) → Option (Int × Bool)
 | 0, _, _, _, _, _, _, _, _ => none
 | k + 1, x1, x6, x17, x18, x19, x184000, x184001, x184002 => if x19 < x18 then (if 0 ≤ x19 then (if x19 < (x17.length : Int) then (if ((rd_T71 x17 x19).f0) = 1 then (if ((rd_T71 x17 x19).f1) = x6 then (if ((rd_T71 x17 x19).f3) = 0 then ((spec_l5Extent.f ((rd_T71 x17 x19).f2.f0) ((rd_T71 x17 x19).f2.f1) x184000).bind fun t186 => (spec_l12Items.j1 k x1 x6 x19 x17 x18 x19 (!t186) x184000 x184001 x184002 ((rd_T71 x17 x19).f0) ((rd_T71 x17 x19).f1) ((rd_T71 x17 x19).f2.f0) ((rd_T71 x17 x19).f2.f1) ((rd_T71 x17 x19).f3))) else (spec_l12Items.j1 k x1 x6 x19 x17 x18 x19 true x184000 x184001 x184002 ((rd_T71 x17 x19).f0) ((rd_T71 x17 x19).f1) ((rd_T71 x17 x19).f2.f0) ((rd_T71 x17 x19).f2.f1) ((rd_T71 x17 x19).f3))) else (spec_l12Items.j1 k x1 x6 x19 x17 x18 x19 true x184000 x184001 x184002 ((rd_T71 x17 x19).f0) ((rd_T71 x17 x19).f1) ((rd_T71 x17 x19).f2.f0) ((rd_T71 x17 x19).f2.f1) ((rd_T71 x17 x19).f3))) else (if x19 ≤ (x1.length : Int) then ((some (x1.take (x19 : Int).toNat : List (S71))).bind fun y197 => (spec_l12Items.l3 k x1 x6 0 (-1) x17 x18 x19 y197 (y197.length : Int) 0 x184000 x184001 x184002 ((rd_T71 x17 x19).f0) ((rd_T71 x17 x19).f1) ((rd_T71 x17 x19).f2.f0) ((rd_T71 x17 x19).f2.f1) ((rd_T71 x17 x19).f3))) else (none))) else (none)) else (none)) else (some (x6, decide ((x1.length : Int) ≤ 30)))
def spec_l12Items.j1 : Nat → List (S71) → Int → Int → List (S71) → Int → Int → Bool → Int → List (S53) → List (S53) → Int → Int → Int → Int → Int → Option (Int × Bool)
 | 0, _, _, _, _, _, _, _, _, _, _, _, _, _, _, _ => none
 | k + 1, x1, x6, x7, x17, x18, x19, x43, x184000, x184001, x184002, x186000, x186001, x186002, x186003, x186004 => if x43 = true then (some (0, false)) else (if 0 ≤ x7 then (if x7 ≤ (x1.length : Int) then ((some (x1.take (x7 : Int).toNat : List (S71))).bind fun y187 => (spec_l12Items.l1 k x1 x6 x17 x18 x19 y187 (y187.length : Int) 0 x184000 x184001 x184002 x186000 x186001 x186002 x186003 x186004)) else (none)) else (none))
def spec_l12Items.l1 : Nat → List (S71) → Int → List (S71) → Int → Int → List (S71) → Int → Int → Int → List (S53) → List (S53) → Int → Int → Int → Int → Int → Option (Int × Bool)
 | 0, _, _, _, _, _, _, _, _, _, _, _, _, _, _, _, _ => none
 | k + 1, x1, x6, x17, x18, x19, x46, x47, x48, x184000, x184001, x184002, x186000, x186001, x186002, x186003, x186004 => if x48 < x47 then (if 0 ≤ x48 then (if x48 < (x46.length : Int) then (if ((rd_T71 x46 x48).f0) = 1 then ((spec_l12Overlap.f ((rd_T71 x46 x48).f2.f0) ((rd_T71 x46 x48).f2.f1) x186002 x186003).bind fun t193 => (if t193 = true then (some (0, false)) else (spec_l12Items.l1 k x1 x6 x17 x18 x19 x46 x47 (wrap64 (x48 + 1)) x184000 x184001 x184002 x186000 x186001 x186002 x186003 x186004))) else (spec_l12Items.l1 k x1 x6 x17 x18 x19 x46 x47 (wrap64 (x48 + 1)) x184000 x184001 x184002 x186000 x186001 x186002 x186003 x186004)) else (none)) else (none)) else (spec_l12Items.l2 k x1 x6 x17 x18 x19 x184001 (x184001.length : Int) 0 x184000 x184001 x184002 x186000 x186001 x186002 x186003 x186004)
def spec_l12Items.l2 : Nat → List (S71) → Int → List (S71) → Int → Int → List (S53) → Int → Int → Int → List (S53) → List (S53) → Int → Int → Int → Int → Int → Option (Int × Bool)
 | 0, _, _, _, _, _, _, _, _, _, _, _, _, _, _, _, _ => none
 | k + 1, x1, x6, x17, x18, x19, x64, x65, x66, x184000, x184001, x184002, x186000, x186001, x186002, x186003, x186004 => if x66 < x65 then (if 0 ≤ x66 then (if x66 < (x64.length : Int) then ((spec_l12Overlap.f ((rd_T53 x64 x66).f0) ((rd_T53 x64 x66).f1) x186002 x186003).bind fun t196 => (if t196 = true then (some (0, false)) else (spec_l12Items.l2 k x1 x6 x17 x18 x19 x64 x65 (wrap64 (x66 + 1)) x184000 x184001 x184002 x186000 x186001 x186002 x186003 x186004))) else (none)) else (none)) else (spec_l12Items.l0 k x1 (wrap64 (x6 + 1)) x17 x18 (wrap64 (x19 + 1)) x184000 x184001 x184002)
def spec_l12Items.l3 : Nat → List (S71) → Int → Int → Int → List (S71) → Int → Int → List (S71) → Int → Int → Int → List (S53) → List (S53) → Int → Int → Int → Int → Int → Option (Int × Bool)
 | 0, _, _, _, _, _, _, _, _, _, _, _, _, _, _, _, _, _, _ => none
 | k + 1, x1, x6, x13, x14, x17, x18, x19, x79, x80, x81, x184000, x184001, x184002, x186000, x186001, x186002, x186003, x186004 => if x81 < x80 then (if 0 ≤ x81 then (if x81 < (x79.length : Int) then (if ((rd_T71 x79 x81).f1) = x186001 then (if ((rd_T71 x79 x81).f0) = 1 then (spec_l12Items.l3 k x1 x6 ((rd_T71 x79 x81).f3) ((rd_T71 x79 x81).f2.f1) x17 x18 x19 x79 x80 (wrap64 (x81 + 1)) x184000 x184001 x184002 x186000 x186001 x186002 x186003 x186004) else (spec_l12Items.l3 k x1 x6 ((rd_T71 x79 x81).f3) x14 x17 x18 x19 x79 x80 (wrap64 (x81 + 1)) x184000 x184001 x184002 x186000 x186001 x186002 x186003 x186004)) else (spec_l12Items.l3 k x1 x6 x13 x14 x17 x18 x19 x79 x80 (wrap64 (x81 + 1)) x184000 x184001 x184002 x186000 x186001 x186002 x186003 x186004)) else (none)) else (none)) else (if x186000 = 2 then (if (!(x186002 == 0) || (!(x186003 == 0))) = true then (some (0, false)) else (if x14 < 0 then (some (0, false)) else ((spec_l1In.f x186004 (wrap64 (x13 + 1)) x14).bind fun t201 => (if t201 = true then (spec_l12Items.l0 k x1 x6 x17 x18 (wrap64 (x19 + 1)) x184000 x184001 x184002) else (some (0, false)))))) else (some (0, false)))
end
def spec_l12Items.f (k : Nat) (a0_0 : Int) (l0_1 : List (S53)) (l0_2 : List (S53)) (l1 : List (S71)) : Option (Int × Bool) := spec_l12Items.l0 k l1 1 l1 (l1.length : Int) 0 a0_0 l0_1 l0_2
theorem spec_l12Items.mono_l : ∀ k, (∀ y0 y1 y2 y3 y4 y5 y6 y7, LeO (spec_l12Items.l0 k y0 y1 y2 y3 y4 y5 y6 y7) (spec_l12Items.l0 (k + 1) y0 y1 y2 y3 y4 y5 y6 y7)) ∧ (∀ y0 y1 y2 y3 y4 y5 y6 y7 y8 y9 y10 y11 y12 y13 y14, LeO (spec_l12Items.j1 k y0 y1 y2 y3 y4 y5 y6 y7 y8 y9 y10 y11 y12 y13 y14) (spec_l12Items.j1 (k + 1) y0 y1 y2 y3 y4 y5 y6 y7 y8 y9 y10 y11 y12 y13 y14)) ∧ (∀ y0 y1 y2 y3 y4 y5 y6 y7 y8 y9 y10 y11 y12 y13 y14 y15, LeO (spec_l12Items.l1 k y0 y1 y2 y3 y4 y5 y6 y7 y8 y9 y10 y11 y12 y13 y14 y15) (spec_l12Items.l1 (k + 1) y0 y1 y2 y3 y4 y5 y6 y7 y8 y9 y10 y11 y12 y13 y14 y15)) ∧ (∀ y0 y1 y2 y3 y4 y5 y6 y7 y8 y9 y10 y11 y12 y13 y14 y15, LeO (spec_l12Items.l2 k y0 y1 y2 y3 y4 y5 y6 y7 y8 y9 y10 y11 y12 y13 y14 y15) (spec_l12Items.l2 (k + 1) y0 y1 y2 y3 y4 y5 y6 y7 y8 y9 y10 y11 y12 y13 y14 y15)) ∧ (∀ y0 y1 y2 y3 y4 y5 y6 y7 y8 y9 y10 y11 y12 y13 y14 y15 y16 y17, LeO (spec_l12Items.l3 k y0 y1 y2 y3 y4 y5 y6 y7 y8 y9 y10 y11 y12 y13 y14 y15 y16 y17) (spec_l12Items.l3 (k + 1) y0 y1 y2 y3 y4 y5 y6 y7 y8 y9 y10 y11 y12 y13 y14 y15 y16 y17))
 | 0 => ⟨fun _ _ _ _ _ _ _ _ r h => by simp [spec_l12Items.l0] at h, fun _ _ _ _ _ _ _ _ _ _ _ _ _ _ _ r h => by simp [spec_l12Items.j1] at h, fun _ _ _ _ _ _ _ _ _ _ _ _ _ _ _ _ r h => by simp [spec_l12Items.l1] at h, fun _ _ _ _ _ _ _ _ _ _ _ _ _ _ _ _ r h => by simp [spec_l12Items.l2] at h, fun _ _ _ _ _ _ _ _ _ _ _ _ _ _ _ _ _ _ r h => by simp [spec_l12Items.l3] at h⟩
 | k + 1 => by
  obtain ⟨ih0, ih1, ih2, ih3, ih4⟩ := spec_l12Items.mono_l k
  refine ⟨?_, ?_, ?_, ?_, ?_⟩
  ·
   intro y0 y1 y2 y3 y4 y5 y6 y7
   unfold spec_l12Items.l0
   repeat' first
   | (with_reducible exact ih0 _ _ _ _ _ _ _ _)
   | (with_reducible exact ih1 _ _ _ _ _ _ _ _ _ _ _ _ _ _ _)
   | (with_reducible exact ih2 _ _ _ _ _ _ _ _ _ _ _ _ _ _ _ _)
   | (with_reducible exact ih3 _ _ _ _ _ _ _ _ _ _ _ _ _ _ _ _)
   | (with_reducible exact ih4 _ _ _ _ _ _ _ _ _ _ _ _ _ _ _ _ _ _)
   | (with_reducible exact LeO.refl _)
   | (with_reducible exact LeO.none _)
   | (with_reducible refine LeO.ite ?_ ?_)
   | (with_reducible refine LeO.bind ?_ (fun _ => ?_))
   | exact ih0 _ _ _ _ _ _ _ _
   | exact ih1 _ _ _ _ _ _ _ _ _ _ _ _ _ _ _
   | exact ih2 _ _ _ _ _ _ _ _ _ _ _ _ _ _ _ _
   | exact ih3 _ _ _ _ _ _ _ _ _ _ _ _ _ _ _ _
   | exact ih4 _ _ _ _ _ _ _ _ _ _ _ _ _ _ _ _ _ _
   | exact LeO.none _
   | refine LeO.ite ?_ ?_
   | refine LeO.bind ?_ (fun _ => ?_)
  ·
   intro y0 y1 y2 y3 y4 y5 y6 y7 y8 y9 y10 y11 y12 y13 y14
   unfold spec_l12Items.j1
   repeat' first
   | (with_reducible exact ih0 _ _ _ _ _ _ _ _)
   | (with_reducible exact ih1 _ _ _ _ _ _ _ _ _ _ _ _ _ _ _)
   | (with_reducible exact ih2 _ _ _ _ _ _ _ _ _ _ _ _ _ _ _ _)
   | (with_reducible exact ih3 _ _ _ _ _ _ _ _ _ _ _ _ _ _ _ _)
   | (with_reducible exact ih4 _ _ _ _ _ _ _ _ _ _ _ _ _ _ _ _ _ _)
   | (with_reducible exact LeO.refl _)
   | (with_reducible exact LeO.none _)
   | (with_reducible refine LeO.ite ?_ ?_)
   | (with_reducible refine LeO.bind ?_ (fun _ => ?_))
   | exact ih0 _ _ _ _ _ _ _ _
   | exact ih1 _ _ _ _ _ _ _ _ _ _ _ _ _ _ _
   | exact ih2 _ _ _ _ _ _ _ _ _ _ _ _ _ _ _ _
   | exact ih3 _ _ _ _ _ _ _ _ _ _ _ _ _ _ _ _
   | exact ih4 _ _ _ _ _ _ _ _ _ _ _ _ _ _ _ _ _ _
   | exact LeO.none _
   | refine LeO.ite ?_ ?_
   | refine LeO.bind ?_ (fun _ => ?_)
  ·
   intro y0 y1 y2 y3 y4 y5 y6 y7 y8 y9 y10 y11 y12 y13 y14 y15
   unfold spec_l12Items.l1
   repeat' first
   | (with_reducible exact ih0 _ _ _ _ _ _ _ _)
   | (with_reducible exact ih1 _ _ _ _ _ _ _ _ _ _ _ _ _ _ _)
   | (with_reducible exact ih2 _ _ _ _ _ _ _ _ _ _ _ _ _ _ _ _)
   | (with_reducible exact ih3 _ _ _ _ _ _ _ _ _ _ _ _ _ _ _ _)
   | (with_reducible exact ih4 _ _ _ _ _ _ _ _ _ _ _ _ _ _ _ _ _ _)
   | (with_reducible exact LeO.refl _)
   | (with_reducible exact LeO.none _)
   | (with_reducible refine LeO.ite ?_ ?_)
   | (with_reducible refine LeO.bind ?_ (fun _ => ?_))
   | exact ih0 _ _ _ _ _ _ _ _
   | exact ih1 _ _ _ _ _ _ _ _ _ _ _ _ _ _ _
   | exact ih2 _ _ _ _ _ _ _ _ _ _ _ _ _ _ _ _
   | exact ih3 _ _ _ _ _ _ _ _ _ _ _ _ _ _ _ _
   | exact ih4 _ _ _ _ _ _ _ _ _ _ _ _ _ _ _ _ _ _
   | exact LeO.none _
   | refine LeO.ite ?_ ?_
   | refine LeO.bind ?_ (fun _ => ?_)
  ·
   intro y0 y1 y2 y3 y4 y5 y6 y7 y8 y9 y10 y11 y12 y13 y14 y15
   unfold spec_l12Items.l2
   repeat' first
   | (with_reducible exact ih0 _ _ _ _ _ _ _ _)
   | (with_reducible exact ih1 _ _ _ _ _ _ _ _ _ _ _ _ _ _ _)
   | (with_reducible exact ih2 _ _ _ _ _ _ _ _ _ _ _ _ _ _ _ _)
   | (with_reducible exact ih3 _ _ _ _ _ _ _ _ _ _ _ _ _ _ _ _)
   | (with_reducible exact ih4 _ _ _ _ _ _ _ _ _ _ _ _ _ _ _ _ _ _)
   | (with_reducible exact LeO.refl _)
   | (with_reducible exact LeO.none _)
   | (with_reducible refine LeO.ite ?_ ?_)
   | (with_reducible refine LeO.bind ?_ (fun _ => ?_))
   | exact ih0 _ _ _ _ _ _ _ _
   | exact ih1 _ _ _ _ _ _ _ _ _ _ _ _ _ _ _
   | exact ih2 _ _ _ _ _ _ _ _ _ _ _ _ _ _ _ _
   | exact ih3 _ _ _ _ _ _ _ _ _ _ _ _ _ _ _ _
   | exact ih4 _ _ _ _ _ _ _ _ _ _ _ _ _ _ _ _ _ _
   | exact LeO.none _
   | refine LeO.ite ?_ ?_
   | refine LeO.bind ?_ (fun _ => ?_)
  ·
   intro y0 y1 y2 y3 y4 y5 y6 y7 y8 y9 y10 y11 y12 y13 y14 y15 y16 y17
   unfold spec_l12Items.l3
   repeat' first
   | (with_reducible exact ih0 _ _ _ _ _ _ _ _)
   | (with_reducible exact ih1 _ _ _ _ _ _ _ _ _ _ _ _ _ _ _)
   | (with_reducible exact ih2 _ _ _ _ _ _ _ _ _ _ _ _ _ _ _ _)
   | (with_reducible exact ih3 _ _ _ _ _ _ _ _ _ _ _ _ _ _ _ _)
   | (with_reducible exact ih4 _ _ _ _ _ _ _ _ _ _ _ _ _ _ _ _ _ _)
   | (with_reducible exact LeO.refl _)
   | (with_reducible exact LeO.none _)
   | (with_reducible refine LeO.ite ?_ ?_)
   | (with_reducible refine LeO.bind ?_ (fun _ => ?_))
   | exact ih0 _ _ _ _ _ _ _ _
   | exact ih1 _ _ _ _ _ _ _ _ _ _ _ _ _ _ _
   | exact ih2 _ _ _ _ _ _ _ _ _ _ _ _ _ _ _ _
   | exact ih3 _ _ _ _ _ _ _ _ _ _ _ _ _ _ _ _
   | exact ih4 _ _ _ _ _ _ _ _ _ _ _ _ _ _ _ _ _ _
   | exact LeO.none _
   | refine LeO.ite ?_ ?_
   | refine LeO.bind ?_ (fun _ => ?_)
theorem spec_l12Items.mono : ∀ a0 a1 a2 a3 k, LeO (spec_l12Items.f k a0 a1 a2 a3) (spec_l12Items.f (k + 1) a0 a1 a2 a3) := by
 intro a0 a1 a2 a3 k
 obtain ⟨ih0, ih1, ih2, ih3, ih4⟩ := spec_l12Items.mono_l k
 unfold spec_l12Items.f
 repeat' first
   | (with_reducible exact ih0 _ _ _ _ _ _ _ _)
   | (with_reducible exact ih1 _ _ _ _ _ _ _ _ _ _ _ _ _ _ _)
   | (with_reducible exact ih2 _ _ _ _ _ _ _ _ _ _ _ _ _ _ _ _)
   | (with_reducible exact ih3 _ _ _ _ _ _ _ _ _ _ _ _ _ _ _ _)
   | (with_reducible exact ih4 _ _ _ _ _ _ _ _ _ _ _ _ _ _ _ _ _ _)
   | (with_reducible exact LeO.refl _)
   | (with_reducible exact LeO.none _)
   | (with_reducible refine LeO.ite ?_ ?_)
   | (with_reducible refine LeO.bind ?_ (fun _ => ?_))
   | exact ih0 _ _ _ _ _ _ _ _
   | exact ih1 _ _ _ _ _ _ _ _ _ _ _ _ _ _ _
   | exact ih2 _ _ _ _ _ _ _ _ _ _ _ _ _ _ _ _
   | exact ih3 _ _ _ _ _ _ _ _ _ _ _ _ _ _ _ _
   | exact ih4 _ _ _ _ _ _ _ _ _ _ _ _ _ _ _ _ _ _
   | exact LeO.none _
   | refine LeO.ite ?_ ?_
   | refine LeO.bind ?_ (fun _ => ?_)
set_option maxHeartbeats 8000000 in
set_option maxRecDepth 100000 in
theorem spec_l12Items.calls (k : Nat) (a0_0 : Int) (A0_1 : Option Addr) (c0_1 : Nat) (l0_1 : List (S53)) (A0_2 : Option Addr) (c0_2 : Nat) (l0_2 : List (S53)) (A1 : Option Addr) (c1 : Nat) (l1 : List (S71)) (r1 : Int) (r2 : Bool) (w : World) (hr0_1 : Kd.C k53 w A0_1 l0_1.length l0_1) (hc0_1 : l0_1.length ≤ c0_1) (hr0_2 : Kd.C k53 w A0_2 l0_2.length l0_2) (hc0_2 : l0_2.length ≤ c0_2) (hr1 : Kd.C k71 w A1 l1.length l1) (hc1 : l1.length ≤ c1) (h : spec_l12Items.f k a0_0 l0_1 l0_2 l1 = some (r1, r2)) :
  Calls Try.prog 40 #[.agg #[.int .i64 a0_0, .slice A0_1 l0_1.length c0_1, .slice A0_2 l0_2.length c0_2], .slice A1 l1.length c1] w fun e w' => e = .returned (.tuple #[.int .i64 r1, .bool r2]) ∧ Below w.heap.size w w' := by
 have hu24 := Try.underlying24
 have hu71 := Try.underlying71
 have hu53 := Try.underlying53
 have HR0_1 := Aside0.mk hr0_1
 have HC0_1 := Aside0.mk hc0_1
 clear hr0_1 hc0_1
 have HR0_2 := Aside0.mk hr0_2
 have HC0_2 := Aside0.mk hc0_2
 clear hr0_2 hc0_2
 have HR1 := Aside0.mk hr1
 have HC1 := Aside0.mk hc1
 clear hr1 hc1
 have HB := Aside0.mk (Below.refl w.heap.size w)
 have H : (spec_l12Items.l0 k l1 1 l1 (l1.length : Int) 0 a0_0 l0_1 l0_2) = some (r1, r2) := h
 clear h
 have H' := Aside0.mk H
 clear H
 go_enter Try.func40, Try.ntmps40
 go_wp2_with (first | ((with_reducible refine gate_dst (N := 2) rfl ?_); refine box_event ?hg (N := 2) ?hd (cs := #[.int .i64 a0_0, .slice A0_1 l0_1.length c0_1, .slice A0_2 l0_2.length c0_2]) (t := 24) ?hr ?_; (case hd => rfl); (case hg => rfl); (case hr => first | (go_simp; done) | (go_simp; rfl)); intro gb183 hg w3 hbox hb; have BK183 := Aside0.mk (hbox); have GW183 := Aside0.mk ((by rw [hg]; exact (below_size (bs HB)) : w.heap.size ≤ gb183)); have GE183 := Aside0.mk ((by rw [hg]; exact (below_size (bs HB)) : w.heap.size ≤ gb183)); replace HB := Aside0.mk (below_step (bs HB) hb); clear hb hbox hg))
 go_loopg [6, 19] k (fun kq v6 v19 w' => ∃ (x6_1 : Int) (x19_1 : Int), v6 = .int .i64 x6_1 ∧ v19 = .int .i64 x19_1 ∧ Aside0 (spec_l12Items.l0 kq l1 x6_1 l1 (l1.length : Int) x19_1 a0_0 l0_1 l0_2 = some (r1, r2)) ∧ Aside0 (kq ≤ k) ∧ Aside0 (w'.heap[gb183]? = some (.cells #[.int .i64 a0_0, (.slice A0_1 l0_1.length c0_1), (.slice A0_2 l0_2.length c0_2)] 24 (0, 0))) ∧ Aside0 (Below w.heap.size w w'))
 case atStart => exact ⟨(1), (0), (by first | rfl | (simp; done) | (simp [*]; done)), (by first | rfl | (simp; done) | (simp [*]; done)), H', ⟨Nat.le_refl _⟩, ⟨bk BK183⟩, ⟨bs1 HB GE183⟩⟩
 case round =>
  clear H'
  try clear c1
  try clear p2
  obtain ⟨x6_1, x19_1, rfl, rfl, HA, HK1, BK183, HB⟩ := hrel
  cases gk with
  | zero => exact absurd HA.out (by simp [spec_l12Items.l0])
  | succ k1 =>
   have H := HA.out
   clear HA
   simp only [spec_l12Items.l0] at H
   by_cases c4 : x19_1 < (l1.length : Int)
   ·
    rw [if_pos c4] at H
    have c4b0 : decide (x19_1 < (l1.length : Int)) = true := decide_eq_true c4
    clear c4
    by_cases c5 : 0 ≤ x19_1
    ·
     rw [if_pos c5] at H
     have c5b0 : decide (0 ≤ x19_1) = true := decide_eq_true c5
     clear c5
     by_cases c6 : x19_1 < (l1.length : Int)
     ·
      rw [if_pos c6] at H
      have c6b0 : decide (x19_1 < (l1.length : Int)) = true := decide_eq_true c6
      clear c6
      by_cases c7 : ((rd_T71 l1 x19_1).f0) = 1
      ·
       rw [if_pos c7] at H
       have c7b0 : (((rd_T71 l1 x19_1).f0) == 1) = true := beq_iff_eq.mpr c7
       have c7b1 : (((rd_T71 l1 x19_1).f0) != 1) = false := bne_eq_false_iff_eq.mpr c7
       clear c7
       have HC8 := Aside0.mk H
       clear H
       have p184 : 0 ≤ (x19_1 : Int) := of_decide_eq_true (by first | (with_reducible assumption) | assumption)
       have q184 : x19_1 < (l1.length : Int) := of_decide_eq_true (by first | (with_reducible assumption) | assumption)
       obtain ⟨ad184, e184, hx184_0, hx184_1, hx184_2, hx184_3, hx184_4⟩ := at_T71 HR1.out x19_1 p184 q184
       cases e184
       replace hx184_0 := (HB.out.cell (World.block_lt_of_cell? w _ hx184_0)).trans hx184_0
       replace hx184_1 := (HB.out.cell (World.block_lt_of_cell? w _ hx184_1)).trans hx184_1
       replace hx184_2 := (HB.out.cell (World.block_lt_of_cell? w _ hx184_2)).trans hx184_2
       replace hx184_3 := (HB.out.cell (World.block_lt_of_cell? w _ hx184_3)).trans hx184_3
       replace hx184_4 := (HB.out.cell (World.block_lt_of_cell? w _ hx184_4)).trans hx184_4
       replace p184 := eq_true p184
       replace q184 := eq_true q184
       go_upto_region 6 with (first | ((with_reducible refine gate_dst (N := 8) rfl ?_); refine box_event ?hg (N := 8) ?hd (cs := #[.int .i64 0, .int .i64 0, .int .i64 0, .int .i64 0, .int .i64 0]) (t := 71) ?hr ?_; (case hd => rfl); (case hg => rfl); (case hr => first | (go_simp; done) | (go_simp; rfl)); intro gb185 hg w9 hbox hb; have BK185 := Aside0.mk (hbox); have GW185 := Aside0.mk ((by rw [hg]; exact (below_size (bs1 HB GE183)) : w.heap.size ≤ gb185)); have GE185 := Aside0.mk ((by rw [hg]; exact (below_size (bs1 HB GE183)) : w.heap.size ≤ gb185)); replace HB := Aside0.mk (below_step (bs1 HB GE183) hb); have NB183_185 := Aside0.mk ((bn BK183 hg : gb183 ≠ gb185)); have NB185_183 := Aside0.mk ((bm BK183 hg : gb185 ≠ gb183)); replace BK183 := nb BK183 hb; clear hb hbox hg; have hnb10 := NB185_183.out; have hnc10 := NB183_185.out; obtain ⟨hcz11_0, hcz11_1, hcz11_2, hcz11_3, hcz11_4⟩ := cz5 BK185; obtain ⟨hfz11_0, hfz11_1, hfz11_2, hfz11_3, hfz11_4⟩ := fz5 BK185))
       (try simp only [Act.put, List.setIfInBounds_toArray, List.set_cons_zero, List.set_cons_succ])
       go_cut [43] (fun v43 wc => ∃ (kq : Nat) (x43_7 : Bool), v43 = .bool x43_7 ∧ Aside0 (spec_l12Items.j1 kq l1 x6_1 x19_1 l1 (l1.length : Int) x19_1 x43_7 a0_0 l0_1 l0_2 ((rd_T71 l1 x19_1).f0) ((rd_T71 l1 x19_1).f1) ((rd_T71 l1 x19_1).f2.f0) ((rd_T71 l1 x19_1).f2.f1) ((rd_T71 l1 x19_1).f3) = some (r1, r2)) ∧ Aside0 (kq ≤ k1) ∧ Aside0 (wc.heap[gb183]? = some (.cells #[.int .i64 a0_0, (.slice A0_1 l0_1.length c0_1), (.slice A0_2 l0_2.length c0_2)] 24 (0, 0))) ∧ Aside0 (wc.heap[gb185]? = some (.cells #[.int .i64 ((rd_T71 l1 x19_1).f0), .int .i64 ((rd_T71 l1 x19_1).f1), .int .i64 ((rd_T71 l1 x19_1).f2.f0), .int .i64 ((rd_T71 l1 x19_1).f2.f1), .int .i64 ((rd_T71 l1 x19_1).f3)] 71 (0, 0))) ∧ Aside0 (Below w.heap.size w wc))
       case first =>
        have H := HC8.out
        clear HC8
        by_cases c12 : ((rd_T71 l1 x19_1).f1) = x6_1
        ·
         rw [if_pos c12] at H
         have c12b0 : (((rd_T71 l1 x19_1).f1) == x6_1) = true := beq_iff_eq.mpr c12
         have c12b1 : (((rd_T71 l1 x19_1).f1) != x6_1) = false := bne_eq_false_iff_eq.mpr c12
         clear c12
         (first | rw [c12b0] | (simp only [i64_w, i32_w]; rw [c12b0]) | (simp only [c12b2, Bool.not_false, Bool.not_true]) | skip)
         by_cases c13 : ((rd_T71 l1 x19_1).f3) = 0
         ·
          rw [if_pos c13] at H
          have c13b0 : (((rd_T71 l1 x19_1).f3) == 0) = true := beq_iff_eq.mpr c13
          have c13b1 : (((rd_T71 l1 x19_1).f3) != 0) = false := bne_eq_false_iff_eq.mpr c13
          clear c13
          replace H := Option.bind_eq_some_iff.mp H
          obtain ⟨t186, A140, H⟩ := H
          replace H : (spec_l12Items.j1 k1 l1 x6_1 x19_1 l1 (l1.length : Int) x19_1 (!t186) a0_0 l0_1 l0_2 ((rd_T71 l1 x19_1).f0) ((rd_T71 l1 x19_1).f1) ((rd_T71 l1 x19_1).f2.f0) ((rd_T71 l1 x19_1).f2.f1) ((rd_T71 l1 x19_1).f3)) = some (r1, r2) := H
          have A14 := Aside0.mk A140
          clear A140
          have H' := Aside0.mk H
          clear H
          have hnb15 := NB185_183.out
          have hnc15 := NB183_185.out
          obtain ⟨hcz16_0, hcz16_1, hcz16_2, hcz16_3, hcz16_4⟩ := cz5 BK185
          obtain ⟨hfz16_0, hfz16_1, hfz16_2, hfz16_3, hfz16_4⟩ := fz5 BK185
          obtain ⟨hcz17_0, hcz17_1, hcz17_2⟩ := cz3 BK183
          obtain ⟨hfz17_0, hfz17_1, hfz17_2⟩ := fz3 BK183
          go_wp2_with (first | (go_at_call 60; (with_reducible refine (spec_l5Extent.calls ((rd_T71 l1 x19_1).f2.f0) ((rd_T71 l1 x19_1).f2.f1) a0_0 t186 _ A14.out).mono ?_); rintro e w18 ⟨rfl, hb⟩; replace BK183 := Aside0.mk (blk_below (bf BK183 NB183_185) hb); replace BK185 := Aside0.mk (blk_below (g := gb185) (o := .cells #[.int .i64 ((rd_T71 l1 x19_1).f0), .int .i64 ((rd_T71 l1 x19_1).f1), .int .i64 ((rd_T71 l1 x19_1).f2.f0), .int .i64 ((rd_T71 l1 x19_1).f2.f1), .int .i64 ((rd_T71 l1 x19_1).f3)] 71 (0, 0)) (by (with_reducible repeat (first | refine blk_drewN ?_ _ | refine blk_drew ?_ | refine blk_alloc ?_ _)); refine blk_put (cs := #[.int .i64 ((rd_T71 l1 x19_1).f0), .int .i64 ((rd_T71 l1 x19_1).f1), .int .i64 ((rd_T71 l1 x19_1).f2.f0), .int .i64 ((rd_T71 l1 x19_1).f2.f1), .int .i64 0]) ?_ 4 _ rfl; (with_reducible repeat (first | refine blk_drewN ?_ _ | refine blk_drew ?_ | refine blk_alloc ?_ _)); refine blk_put (cs := #[.int .i64 ((rd_T71 l1 x19_1).f0), .int .i64 ((rd_T71 l1 x19_1).f1), .int .i64 ((rd_T71 l1 x19_1).f2.f0), .int .i64 0, .int .i64 0]) ?_ 3 _ rfl; (with_reducible repeat (first | refine blk_drewN ?_ _ | refine blk_drew ?_ | refine blk_alloc ?_ _)); refine blk_put (cs := #[.int .i64 ((rd_T71 l1 x19_1).f0), .int .i64 ((rd_T71 l1 x19_1).f1), .int .i64 0, .int .i64 0, .int .i64 0]) ?_ 2 _ rfl; (with_reducible repeat (first | refine blk_drewN ?_ _ | refine blk_drew ?_ | refine blk_alloc ?_ _)); refine blk_put (cs := #[.int .i64 ((rd_T71 l1 x19_1).f0), .int .i64 0, .int .i64 0, .int .i64 0, .int .i64 0]) ?_ 1 _ rfl; (with_reducible repeat (first | refine blk_drewN ?_ _ | refine blk_drew ?_ | refine blk_alloc ?_ _)); refine blk_put (cs := #[.int .i64 0, .int .i64 0, .int .i64 0, .int .i64 0, .int .i64 0]) ?_ 0 _ rfl; (with_reducible repeat (first | refine blk_drewN ?_ _ | refine blk_drew ?_ | refine blk_alloc ?_ _)); exact BK185.out) hb); replace HB := Aside0.mk (below_step (bs2 HB GE183 GE185) hb); (try clear hb); (try clear hb2); (try clear hk); (try clear hi)))
          go_meet
          case rel => exact ⟨_, (!t186), (by first | rfl | (simp; done) | (simp [*]; done)), H', ⟨by have := HK1.out; first | omega | exact Nat.le_refl _⟩, ⟨bk BK183⟩, ⟨bk BK185⟩, ⟨bs2 HB GE183 GE185⟩⟩
         ·
          rw [if_neg c13] at H
          have c13b0 : (((rd_T71 l1 x19_1).f3) == 0) = false := beq_eq_false_iff_ne.mpr c13
          have c13b1 : (((rd_T71 l1 x19_1).f3) != 0) = true := bne_iff_ne.mpr c13
          have H' := Aside0.mk H
          clear H
          have hnb19 := NB185_183.out
          have hnc19 := NB183_185.out
          obtain ⟨hcz20_0, hcz20_1, hcz20_2, hcz20_3, hcz20_4⟩ := cz5 BK185
          obtain ⟨hfz20_0, hfz20_1, hfz20_2, hfz20_3, hfz20_4⟩ := fz5 BK185
          go_wp2
          go_meet
          case rel => exact ⟨_, (true), (by first | rfl | (simp; done) | (simp [*]; done)), H', ⟨by have := HK1.out; first | omega | exact Nat.le_refl _⟩, ⟨bf BK183 NB183_185⟩, ⟨by (with_reducible repeat (first | refine blk_drewN ?_ _ | refine blk_drew ?_ | refine blk_alloc ?_ _)); refine blk_put (cs := #[.int .i64 ((rd_T71 l1 x19_1).f0), .int .i64 ((rd_T71 l1 x19_1).f1), .int .i64 ((rd_T71 l1 x19_1).f2.f0), .int .i64 ((rd_T71 l1 x19_1).f2.f1), .int .i64 0]) ?_ 4 _ rfl; (with_reducible repeat (first | refine blk_drewN ?_ _ | refine blk_drew ?_ | refine blk_alloc ?_ _)); refine blk_put (cs := #[.int .i64 ((rd_T71 l1 x19_1).f0), .int .i64 ((rd_T71 l1 x19_1).f1), .int .i64 ((rd_T71 l1 x19_1).f2.f0), .int .i64 0, .int .i64 0]) ?_ 3 _ rfl; (with_reducible repeat (first | refine blk_drewN ?_ _ | refine blk_drew ?_ | refine blk_alloc ?_ _)); refine blk_put (cs := #[.int .i64 ((rd_T71 l1 x19_1).f0), .int .i64 ((rd_T71 l1 x19_1).f1), .int .i64 0, .int .i64 0, .int .i64 0]) ?_ 2 _ rfl; (with_reducible repeat (first | refine blk_drewN ?_ _ | refine blk_drew ?_ | refine blk_alloc ?_ _)); refine blk_put (cs := #[.int .i64 ((rd_T71 l1 x19_1).f0), .int .i64 0, .int .i64 0, .int .i64 0, .int .i64 0]) ?_ 1 _ rfl; (with_reducible repeat (first | refine blk_drewN ?_ _ | refine blk_drew ?_ | refine blk_alloc ?_ _)); refine blk_put (cs := #[.int .i64 0, .int .i64 0, .int .i64 0, .int .i64 0, .int .i64 0]) ?_ 0 _ rfl; (with_reducible repeat (first | refine blk_drewN ?_ _ | refine blk_drew ?_ | refine blk_alloc ?_ _)); exact BK185.out⟩, ⟨bs2 HB GE183 GE185⟩⟩
        ·
         rw [if_neg c12] at H
         have c12b0 : (((rd_T71 l1 x19_1).f1) == x6_1) = false := beq_eq_false_iff_ne.mpr c12
         have c12b1 : (((rd_T71 l1 x19_1).f1) != x6_1) = true := bne_iff_ne.mpr c12
         (first | rw [c12b0] | (simp only [i64_w, i32_w]; rw [c12b0]) | (simp only [c12b2, Bool.not_false, Bool.not_true]) | skip)
         have H' := Aside0.mk H
         clear H
         have hnb21 := NB185_183.out
         have hnc21 := NB183_185.out
         obtain ⟨hcz22_0, hcz22_1, hcz22_2, hcz22_3, hcz22_4⟩ := cz5 BK185
         obtain ⟨hfz22_0, hfz22_1, hfz22_2, hfz22_3, hfz22_4⟩ := fz5 BK185
         go_wp2
         go_meet
         case rel => exact ⟨_, (true), (by first | rfl | (simp; done) | (simp [*]; done)), H', ⟨by have := HK1.out; first | omega | exact Nat.le_refl _⟩, ⟨bf BK183 NB183_185⟩, ⟨by (with_reducible repeat (first | refine blk_drewN ?_ _ | refine blk_drew ?_ | refine blk_alloc ?_ _)); refine blk_put (cs := #[.int .i64 ((rd_T71 l1 x19_1).f0), .int .i64 ((rd_T71 l1 x19_1).f1), .int .i64 ((rd_T71 l1 x19_1).f2.f0), .int .i64 ((rd_T71 l1 x19_1).f2.f1), .int .i64 0]) ?_ 4 _ rfl; (with_reducible repeat (first | refine blk_drewN ?_ _ | refine blk_drew ?_ | refine blk_alloc ?_ _)); refine blk_put (cs := #[.int .i64 ((rd_T71 l1 x19_1).f0), .int .i64 ((rd_T71 l1 x19_1).f1), .int .i64 ((rd_T71 l1 x19_1).f2.f0), .int .i64 0, .int .i64 0]) ?_ 3 _ rfl; (with_reducible repeat (first | refine blk_drewN ?_ _ | refine blk_drew ?_ | refine blk_alloc ?_ _)); refine blk_put (cs := #[.int .i64 ((rd_T71 l1 x19_1).f0), .int .i64 ((rd_T71 l1 x19_1).f1), .int .i64 0, .int .i64 0, .int .i64 0]) ?_ 2 _ rfl; (with_reducible repeat (first | refine blk_drewN ?_ _ | refine blk_drew ?_ | refine blk_alloc ?_ _)); refine blk_put (cs := #[.int .i64 ((rd_T71 l1 x19_1).f0), .int .i64 0, .int .i64 0, .int .i64 0, .int .i64 0]) ?_ 1 _ rfl; (with_reducible repeat (first | refine blk_drewN ?_ _ | refine blk_drew ?_ | refine blk_alloc ?_ _)); refine blk_put (cs := #[.int .i64 0, .int .i64 0, .int .i64 0, .int .i64 0, .int .i64 0]) ?_ 0 _ rfl; (with_reducible repeat (first | refine blk_drewN ?_ _ | refine blk_drew ?_ | refine blk_alloc ?_ _)); exact BK185.out⟩, ⟨bs2 HB GE183 GE185⟩⟩
       case rest =>
        clear HC8
        try clear c1
        try clear p1
        try clear q1
        try clear hx1
        try clear c2
        try clear p2
        try clear c4
        try clear c4b0
        try clear c5
        try clear c5b0
        try clear c6
        try clear c6b0
        try clear c7
        try clear c7b0
        try clear c7b1
        try clear c10
        try clear c12
        try clear c12b0
        try clear c12b1
        try clear c13
        try clear c13b0
        try clear c13b1
        try clear c15
        try clear p18
        try clear q18
        try clear hx18
        try clear c19
        try clear c21
        try clear hcz11_0 hcz11_1 hcz11_2 hcz11_3 hcz11_4
        try clear hcz16_0 hcz16_1 hcz16_2 hcz16_3 hcz16_4
        try clear hcz17_0 hcz17_1 hcz17_2
        try clear hcz20_0 hcz20_1 hcz20_2 hcz20_3 hcz20_4
        try clear hcz22_0 hcz22_1 hcz22_2 hcz22_3 hcz22_4
        try clear hfz11_0 hfz11_1 hfz11_2 hfz11_3 hfz11_4
        try clear hfz16_0 hfz16_1 hfz16_2 hfz16_3 hfz16_4
        try clear hfz17_0 hfz17_1 hfz17_2
        try clear hfz20_0 hfz20_1 hfz20_2 hfz20_3 hfz20_4
        try clear hfz22_0 hfz22_1 hfz22_2 hfz22_3 hfz22_4
        try clear hx184_0
        try clear hx184_1
        try clear hx184_2
        try clear hx184_3
        try clear hx184_4
        try clear p184
        try clear p2
        try clear q184
        obtain ⟨kq, x43_7, rfl, HA, HJ7, BK183, BK185, HB⟩ := hcut
        cases kq with
        | zero => exact absurd HA.out (by simp [spec_l12Items.j1])
        | succ kj7 =>
         have H := HA.out
         clear HA
         simp only [spec_l12Items.j1] at H
         by_cases c23 : x43_7 = true
         ·
          subst c23
          rw [if_pos rfl] at H
          simp only [Option.some.injEq, Prod.mk.injEq] at H
          obtain ⟨rfl, rfl⟩ := H
          go_wp2
          go_ret2
          exact ⟨by first | rfl | (simp [errW_none, errW_some] <;> rfl) | (simp [*, errW_none, errW_some] <;> rfl), bs2 HB GE183 GE185⟩
         ·
          replace c23 := Bool.eq_false_iff.mpr c23
          subst c23
          rw [if_neg (show ¬ (false = true) by decide)] at H
          by_cases c24 : 0 ≤ x19_1
          ·
           rw [if_pos c24] at H
           have c24b0 := eq_true c24
           have c24b1 : decide (0 ≤ x19_1) = true := decide_eq_true c24
           clear c24
           by_cases c25 : x19_1 ≤ (l1.length : Int)
           ·
            rw [if_pos c25] at H
            have c25b0 := eq_true c25
            have c25b1 : decide (x19_1 ≤ (l1.length : Int)) = true := decide_eq_true c25
            clear c25
            obtain ⟨y187, hy187⟩ : ∃ y_ : List (S71), y_ = (l1.take (x19_1 : Int).toNat) := ⟨_, rfl⟩
            replace H : (spec_l12Items.l1 kj7 l1 x6_1 l1 (l1.length : Int) x19_1 y187 (y187.length : Int) 0 a0_0 l0_1 l0_2 ((rd_T71 l1 x19_1).f0) ((rd_T71 l1 x19_1).f1) ((rd_T71 l1 x19_1).f2.f0) ((rd_T71 l1 x19_1).f2.f1) ((rd_T71 l1 x19_1).f3)) = some (r1, r2) := by first | (rw [hy187]; with_reducible exact H) | (have H2_ := (Option.bind_some _ _).symm.trans H; rw [hy187]; with_reducible exact H2_) | (have H2_ := (Option.bind_some _ _).symm.trans H; with_reducible exact H2_) | with_reducible exact H | (rw [hy187]; exact H) | exact H
            have Ny187 := Aside0.mk hy187
            clear hy187
            have H' := Aside0.mk H
            clear H
            have q26 : (x19_1 : Int) ≤ ((l1.length : Int) : Int) := of_decide_eq_true (by first | (with_reducible assumption) | assumption)
            obtain ⟨i026, hi026, _, hsz26, _⟩ := info_parts info71
            have hroom26 : l1.length ≤ c1 := HC1.out
            have hC26 : Kd.C k71 _ (some ad184) l1.length l1 := HR1.out
            have hcut26 := cut_to (P := Try.prog) 25 71 .i64 Try.underlying25 hi026 (some ad184) l1.length c1 x19_1 (of_decide_eq_true (by first | (with_reducible assumption) | assumption)) q26 hroom26
            have hr26 := Kd.C_take (m := (x19_1 : Int).toNat) hC26 (by omega)
            have hy26 : y187.length = (x19_1 : Int).toNat := (by rw [Ny187.out, List.length_take]; omega)
            rw [← Ny187.out] at hr26
            rw [← hy26] at hcut26
            have HR190 := Aside0.mk hr26
            have HC190 := Aside0.mk (show y187.length ≤ c1 from by omega)
            clear hr26 hC26 hroom26 hi026 hsz26
            have KY26 := Aside0.mk hy26
            clear hy26
            replace q26 := eq_true q26
            go_wp2
            go_loopg [48] kj7 (fun kq v48 w' => ∃ (x48_3 : Int), v48 = .int .i64 x48_3 ∧ Aside0 (spec_l12Items.l1 kq l1 x6_1 l1 (l1.length : Int) x19_1 y187 (y187.length : Int) x48_3 a0_0 l0_1 l0_2 ((rd_T71 l1 x19_1).f0) ((rd_T71 l1 x19_1).f1) ((rd_T71 l1 x19_1).f2.f0) ((rd_T71 l1 x19_1).f2.f1) ((rd_T71 l1 x19_1).f3) = some (r1, r2)) ∧ Aside0 (kq ≤ kj7) ∧ Aside0 (w'.heap[gb183]? = some (.cells #[.int .i64 a0_0, (.slice A0_1 l0_1.length c0_1), (.slice A0_2 l0_2.length c0_2)] 24 (0, 0))) ∧ Aside0 (w'.heap[gb185]? = some (.cells #[.int .i64 ((rd_T71 l1 x19_1).f0), .int .i64 ((rd_T71 l1 x19_1).f1), .int .i64 ((rd_T71 l1 x19_1).f2.f0), .int .i64 ((rd_T71 l1 x19_1).f2.f1), .int .i64 ((rd_T71 l1 x19_1).f3)] 71 (0, 0))) ∧ Aside0 (Below w.heap.size w w'))
            case atStart => exact ⟨(0), (by first | rfl | (simp; done) | (simp [*]; done)), H', ⟨Nat.le_refl _⟩, ⟨bk BK183⟩, ⟨bk BK185⟩, ⟨bs2 HB GE183 GE185⟩⟩
            case round =>
             clear H'
             try clear c1
             try clear p1
             try clear q1
             try clear hx1
             try clear c2
             try clear p2
             try clear q2
             try clear c4
             try clear c4b0
             try clear c5
             try clear c5b0
             try clear c6
             try clear c6b0
             try clear c7
             try clear c7b0
             try clear c7b1
             try clear c10
             try clear c12
             try clear c12b0
             try clear c12b1
             try clear c13
             try clear c13b0
             try clear c13b1
             try clear c15
             try clear p18
             try clear q18
             try clear hx18
             try clear c19
             try clear c21
             try clear c23
             try clear c24
             try clear c24b0
             try clear c24b1
             try clear c25
             try clear c25b0
             try clear c25b1
             try clear q26
             try clear hcz11_0 hcz11_1 hcz11_2 hcz11_3 hcz11_4
             try clear hcz16_0 hcz16_1 hcz16_2 hcz16_3 hcz16_4
             try clear hcz17_0 hcz17_1 hcz17_2
             try clear hcz20_0 hcz20_1 hcz20_2 hcz20_3 hcz20_4
             try clear hcz22_0 hcz22_1 hcz22_2 hcz22_3 hcz22_4
             try clear hfz11_0 hfz11_1 hfz11_2 hfz11_3 hfz11_4
             try clear hfz16_0 hfz16_1 hfz16_2 hfz16_3 hfz16_4
             try clear hfz17_0 hfz17_1 hfz17_2
             try clear hfz20_0 hfz20_1 hfz20_2 hfz20_3 hfz20_4
             try clear hfz22_0 hfz22_1 hfz22_2 hfz22_3 hfz22_4
             try clear hx184_0
             try clear hx184_1
             try clear hx184_2
             try clear hx184_3
             try clear hx184_4
             try clear p1
             try clear p18
             try clear p184
             try clear p2
             try clear q1
             try clear q18
             try clear q184
             try clear q26
             obtain ⟨x48_3, rfl, HA, HK3, BK183, BK185, HB⟩ := hrel
             cases gk with
             | zero => exact absurd HA.out (by simp [spec_l12Items.l1])
             | succ k3 =>
              have H := HA.out
              clear HA
              simp only [spec_l12Items.l1] at H
              by_cases c27 : x48_3 < (y187.length : Int)
              ·
               rw [if_pos c27] at H
               have c27b0 : decide (x48_3 < (y187.length : Int)) = true := decide_eq_true c27
               clear c27
               by_cases c28 : 0 ≤ x48_3
               ·
                rw [if_pos c28] at H
                have c28b0 : decide (0 ≤ x48_3) = true := decide_eq_true c28
                clear c28
                by_cases c29 : x48_3 < (y187.length : Int)
                ·
                 rw [if_pos c29] at H
                 have c29b0 : decide (x48_3 < (y187.length : Int)) = true := decide_eq_true c29
                 clear c29
                 by_cases c30 : ((rd_T71 y187 x48_3).f0) = 1
                 ·
                  rw [if_pos c30] at H
                  have c30b0 : (((rd_T71 y187 x48_3).f0) == 1) = true := beq_iff_eq.mpr c30
                  have c30b1 : (((rd_T71 y187 x48_3).f0) != 1) = false := bne_eq_false_iff_eq.mpr c30
                  clear c30
                  replace H := Option.bind_eq_some_iff.mp H
                  obtain ⟨t193, A310, H⟩ := H
                  replace H : (if t193 = true then (some (0, false)) else (spec_l12Items.l1 k3 l1 x6_1 l1 (l1.length : Int) x19_1 y187 (y187.length : Int) (wrap64 (x48_3 + 1)) a0_0 l0_1 l0_2 ((rd_T71 l1 x19_1).f0) ((rd_T71 l1 x19_1).f1) ((rd_T71 l1 x19_1).f2.f0) ((rd_T71 l1 x19_1).f2.f1) ((rd_T71 l1 x19_1).f3))) = some (r1, r2) := H
                  have A31 := Aside0.mk A310
                  clear A310
                  by_cases c32 : t193 = true
                  ·
                   subst c32
                   rw [if_pos rfl] at H
                   simp only [Option.some.injEq, Prod.mk.injEq] at H
                   obtain ⟨rfl, rfl⟩ := H
                   have p191 : 0 ≤ (x48_3 : Int) := of_decide_eq_true (by first | (with_reducible assumption) | assumption)
                   have q191 : x48_3 < (y187.length : Int) := of_decide_eq_true (by first | (with_reducible assumption) | assumption)
                   obtain ⟨ad191, e191, hx191_0, hx191_1, hx191_2, hx191_3, hx191_4⟩ := at_T71 HR190.out x48_3 p191 q191
                   obtain rfl : ad184 = ad191 := (by injection e191)
                   replace hx191_0 := (HB.out.cell (World.block_lt_of_cell? w _ hx191_0)).trans hx191_0
                   replace hx191_1 := (HB.out.cell (World.block_lt_of_cell? w _ hx191_1)).trans hx191_1
                   replace hx191_2 := (HB.out.cell (World.block_lt_of_cell? w _ hx191_2)).trans hx191_2
                   replace hx191_3 := (HB.out.cell (World.block_lt_of_cell? w _ hx191_3)).trans hx191_3
                   replace hx191_4 := (HB.out.cell (World.block_lt_of_cell? w _ hx191_4)).trans hx191_4
                   replace p191 := eq_true p191
                   replace q191 := eq_true q191
                   go_wp2_with (first | ((with_reducible refine gate_dst (N := 10) rfl ?_); refine box_event ?hg (N := 10) ?hd (cs := #[.int .i64 0, .int .i64 0, .int .i64 0, .int .i64 0, .int .i64 0]) (t := 71) ?hr ?_; (case hd => rfl); (case hg => rfl); (case hr => first | (go_simp; done) | (go_simp; rfl)); intro gb192 hg w33 hbox hb; have BK192 := Aside0.mk (hbox); have GW192 := Aside0.mk ((by rw [hg]; exact (below_size (bs2 HB GE183 GE185)) : w.heap.size ≤ gb192)); have GE192 := Aside0.mk ((by rw [hg]; exact (below_size (bs2 HB GE183 GE185)) : w.heap.size ≤ gb192)); replace HB := Aside0.mk (below_step (bs2 HB GE183 GE185) hb); have NB183_192 := Aside0.mk ((bn BK183 hg : gb183 ≠ gb192)); have NB192_183 := Aside0.mk ((bm BK183 hg : gb192 ≠ gb183)); replace BK183 := nb BK183 hb; have NB185_192 := Aside0.mk ((bn BK185 hg : gb185 ≠ gb192)); have NB192_185 := Aside0.mk ((bm BK185 hg : gb192 ≠ gb185)); replace BK185 := nb BK185 hb; clear hb hbox hg; have hnb34 := NB192_183.out; have hnc34 := NB183_192.out; have hnb35 := NB192_185.out; have hnc35 := NB185_192.out; obtain ⟨hcz36_0, hcz36_1, hcz36_2, hcz36_3, hcz36_4⟩ := cz5 BK192; obtain ⟨hfz36_0, hfz36_1, hfz36_2, hfz36_3, hfz36_4⟩ := fz5 BK192; have hnb37 := NB185_183.out; have hnc37 := NB183_185.out; obtain ⟨hcz38_0, hcz38_1, hcz38_2, hcz38_3, hcz38_4⟩ := cz5 BK185; obtain ⟨hfz38_0, hfz38_1, hfz38_2, hfz38_3, hfz38_4⟩ := fz5 BK185) | (go_at_call 61; (with_reducible refine (spec_l12Overlap.calls ((rd_T71 y187 x48_3).f2.f0) ((rd_T71 y187 x48_3).f2.f1) ((rd_T71 l1 x19_1).f2.f0) ((rd_T71 l1 x19_1).f2.f1) true _ A31.out).mono ?_); rintro e w39 ⟨rfl, hb⟩; replace BK183 := Aside0.mk (blk_below (bf BK183 NB183_192) hb); replace BK185 := Aside0.mk (blk_below (bf BK185 NB185_192) hb); replace BK192 := Aside0.mk (blk_below (g := gb192) (o := .cells #[.int .i64 ((rd_T71 y187 x48_3).f0), .int .i64 ((rd_T71 y187 x48_3).f1), .int .i64 ((rd_T71 y187 x48_3).f2.f0), .int .i64 ((rd_T71 y187 x48_3).f2.f1), .int .i64 ((rd_T71 y187 x48_3).f3)] 71 (0, 0)) (by (with_reducible repeat (first | refine blk_drewN ?_ _ | refine blk_drew ?_ | refine blk_alloc ?_ _)); refine blk_put (cs := #[.int .i64 ((rd_T71 y187 x48_3).f0), .int .i64 ((rd_T71 y187 x48_3).f1), .int .i64 ((rd_T71 y187 x48_3).f2.f0), .int .i64 ((rd_T71 y187 x48_3).f2.f1), .int .i64 0]) ?_ 4 _ rfl; (with_reducible repeat (first | refine blk_drewN ?_ _ | refine blk_drew ?_ | refine blk_alloc ?_ _)); refine blk_put (cs := #[.int .i64 ((rd_T71 y187 x48_3).f0), .int .i64 ((rd_T71 y187 x48_3).f1), .int .i64 ((rd_T71 y187 x48_3).f2.f0), .int .i64 0, .int .i64 0]) ?_ 3 _ rfl; (with_reducible repeat (first | refine blk_drewN ?_ _ | refine blk_drew ?_ | refine blk_alloc ?_ _)); refine blk_put (cs := #[.int .i64 ((rd_T71 y187 x48_3).f0), .int .i64 ((rd_T71 y187 x48_3).f1), .int .i64 0, .int .i64 0, .int .i64 0]) ?_ 2 _ rfl; (with_reducible repeat (first | refine blk_drewN ?_ _ | refine blk_drew ?_ | refine blk_alloc ?_ _)); refine blk_put (cs := #[.int .i64 ((rd_T71 y187 x48_3).f0), .int .i64 0, .int .i64 0, .int .i64 0, .int .i64 0]) ?_ 1 _ rfl; (with_reducible repeat (first | refine blk_drewN ?_ _ | refine blk_drew ?_ | refine blk_alloc ?_ _)); refine blk_put (cs := #[.int .i64 0, .int .i64 0, .int .i64 0, .int .i64 0, .int .i64 0]) ?_ 0 _ rfl; (with_reducible repeat (first | refine blk_drewN ?_ _ | refine blk_drew ?_ | refine blk_alloc ?_ _)); exact BK192.out) hb); replace HB := Aside0.mk (below_step (bs3 HB GE183 GE185 GE192) hb); (try clear hb); (try clear hb2); (try clear hk); (try clear hi)))
                   go_ret2
                   exact ⟨by first | rfl | (simp [errW_none, errW_some] <;> rfl) | (simp [*, errW_none, errW_some] <;> rfl), bs3 HB GE183 GE185 GE192⟩
                  ·
                   replace c32 := Bool.eq_false_iff.mpr c32
                   subst c32
                   rw [if_neg (show ¬ (false = true) by decide)] at H
                   have H' := Aside0.mk H
                   clear H
                   have p191 : 0 ≤ (x48_3 : Int) := of_decide_eq_true (by first | (with_reducible assumption) | assumption)
                   have q191 : x48_3 < (y187.length : Int) := of_decide_eq_true (by first | (with_reducible assumption) | assumption)
                   obtain ⟨ad191, e191, hx191_0, hx191_1, hx191_2, hx191_3, hx191_4⟩ := at_T71 HR190.out x48_3 p191 q191
                   obtain rfl : ad184 = ad191 := (by injection e191)
                   replace hx191_0 := (HB.out.cell (World.block_lt_of_cell? w _ hx191_0)).trans hx191_0
                   replace hx191_1 := (HB.out.cell (World.block_lt_of_cell? w _ hx191_1)).trans hx191_1
                   replace hx191_2 := (HB.out.cell (World.block_lt_of_cell? w _ hx191_2)).trans hx191_2
                   replace hx191_3 := (HB.out.cell (World.block_lt_of_cell? w _ hx191_3)).trans hx191_3
                   replace hx191_4 := (HB.out.cell (World.block_lt_of_cell? w _ hx191_4)).trans hx191_4
                   replace p191 := eq_true p191
                   replace q191 := eq_true q191
                   go_wp2_with (first | ((with_reducible refine gate_dst (N := 10) rfl ?_); refine box_event ?hg (N := 10) ?hd (cs := #[.int .i64 0, .int .i64 0, .int .i64 0, .int .i64 0, .int .i64 0]) (t := 71) ?hr ?_; (case hd => rfl); (case hg => rfl); (case hr => first | (go_simp; done) | (go_simp; rfl)); intro gb192 hg w40 hbox hb; have BK192 := Aside0.mk (hbox); have GW192 := Aside0.mk ((by rw [hg]; exact (below_size (bs2 HB GE183 GE185)) : w.heap.size ≤ gb192)); have GE192 := Aside0.mk ((by rw [hg]; exact (below_size (bs2 HB GE183 GE185)) : w.heap.size ≤ gb192)); replace HB := Aside0.mk (below_step (bs2 HB GE183 GE185) hb); have NB183_192 := Aside0.mk ((bn BK183 hg : gb183 ≠ gb192)); have NB192_183 := Aside0.mk ((bm BK183 hg : gb192 ≠ gb183)); replace BK183 := nb BK183 hb; have NB185_192 := Aside0.mk ((bn BK185 hg : gb185 ≠ gb192)); have NB192_185 := Aside0.mk ((bm BK185 hg : gb192 ≠ gb185)); replace BK185 := nb BK185 hb; clear hb hbox hg; have hnb41 := NB192_183.out; have hnc41 := NB183_192.out; have hnb42 := NB192_185.out; have hnc42 := NB185_192.out; obtain ⟨hcz43_0, hcz43_1, hcz43_2, hcz43_3, hcz43_4⟩ := cz5 BK192; obtain ⟨hfz43_0, hfz43_1, hfz43_2, hfz43_3, hfz43_4⟩ := fz5 BK192; have hnb44 := NB185_183.out; have hnc44 := NB183_185.out; obtain ⟨hcz45_0, hcz45_1, hcz45_2, hcz45_3, hcz45_4⟩ := cz5 BK185; obtain ⟨hfz45_0, hfz45_1, hfz45_2, hfz45_3, hfz45_4⟩ := fz5 BK185) | (go_at_call 61; (with_reducible refine (spec_l12Overlap.calls ((rd_T71 y187 x48_3).f2.f0) ((rd_T71 y187 x48_3).f2.f1) ((rd_T71 l1 x19_1).f2.f0) ((rd_T71 l1 x19_1).f2.f1) false _ A31.out).mono ?_); rintro e w46 ⟨rfl, hb⟩; replace BK183 := Aside0.mk (blk_below (bf BK183 NB183_192) hb); replace BK185 := Aside0.mk (blk_below (bf BK185 NB185_192) hb); replace BK192 := Aside0.mk (blk_below (g := gb192) (o := .cells #[.int .i64 ((rd_T71 y187 x48_3).f0), .int .i64 ((rd_T71 y187 x48_3).f1), .int .i64 ((rd_T71 y187 x48_3).f2.f0), .int .i64 ((rd_T71 y187 x48_3).f2.f1), .int .i64 ((rd_T71 y187 x48_3).f3)] 71 (0, 0)) (by (with_reducible repeat (first | refine blk_drewN ?_ _ | refine blk_drew ?_ | refine blk_alloc ?_ _)); refine blk_put (cs := #[.int .i64 ((rd_T71 y187 x48_3).f0), .int .i64 ((rd_T71 y187 x48_3).f1), .int .i64 ((rd_T71 y187 x48_3).f2.f0), .int .i64 ((rd_T71 y187 x48_3).f2.f1), .int .i64 0]) ?_ 4 _ rfl; (with_reducible repeat (first | refine blk_drewN ?_ _ | refine blk_drew ?_ | refine blk_alloc ?_ _)); refine blk_put (cs := #[.int .i64 ((rd_T71 y187 x48_3).f0), .int .i64 ((rd_T71 y187 x48_3).f1), .int .i64 ((rd_T71 y187 x48_3).f2.f0), .int .i64 0, .int .i64 0]) ?_ 3 _ rfl; (with_reducible repeat (first | refine blk_drewN ?_ _ | refine blk_drew ?_ | refine blk_alloc ?_ _)); refine blk_put (cs := #[.int .i64 ((rd_T71 y187 x48_3).f0), .int .i64 ((rd_T71 y187 x48_3).f1), .int .i64 0, .int .i64 0, .int .i64 0]) ?_ 2 _ rfl; (with_reducible repeat (first | refine blk_drewN ?_ _ | refine blk_drew ?_ | refine blk_alloc ?_ _)); refine blk_put (cs := #[.int .i64 ((rd_T71 y187 x48_3).f0), .int .i64 0, .int .i64 0, .int .i64 0, .int .i64 0]) ?_ 1 _ rfl; (with_reducible repeat (first | refine blk_drewN ?_ _ | refine blk_drew ?_ | refine blk_alloc ?_ _)); refine blk_put (cs := #[.int .i64 0, .int .i64 0, .int .i64 0, .int .i64 0, .int .i64 0]) ?_ 0 _ rfl; (with_reducible repeat (first | refine blk_drewN ?_ _ | refine blk_drew ?_ | refine blk_alloc ?_ _)); exact BK192.out) hb); replace HB := Aside0.mk (below_step (bs3 HB GE183 GE185 GE192) hb); (try clear hb); (try clear hb2); (try clear hk); (try clear hi)))
                   go_roundg k3
                   case measure => have := HK1.out; have := HJ7.out; have := HK3.out; omega
                   case rel => exact ⟨(wrap64 (x48_3 + 1)), (by first | rfl | (simp; done) | (simp [*]; done)), H', ⟨by have := HK1.out; have := HJ7.out; have := HK3.out; omega⟩, ⟨bk BK183⟩, ⟨bk BK185⟩, ⟨bs3 HB GE183 GE185 GE192⟩⟩
                 ·
                  rw [if_neg c30] at H
                  have c30b0 : (((rd_T71 y187 x48_3).f0) == 1) = false := beq_eq_false_iff_ne.mpr c30
                  have c30b1 : (((rd_T71 y187 x48_3).f0) != 1) = true := bne_iff_ne.mpr c30
                  have H' := Aside0.mk H
                  clear H
                  have p191 : 0 ≤ (x48_3 : Int) := of_decide_eq_true (by first | (with_reducible assumption) | assumption)
                  have q191 : x48_3 < (y187.length : Int) := of_decide_eq_true (by first | (with_reducible assumption) | assumption)
                  obtain ⟨ad191, e191, hx191_0, hx191_1, hx191_2, hx191_3, hx191_4⟩ := at_T71 HR190.out x48_3 p191 q191
                  obtain rfl : ad184 = ad191 := (by injection e191)
                  replace hx191_0 := (HB.out.cell (World.block_lt_of_cell? w _ hx191_0)).trans hx191_0
                  replace hx191_1 := (HB.out.cell (World.block_lt_of_cell? w _ hx191_1)).trans hx191_1
                  replace hx191_2 := (HB.out.cell (World.block_lt_of_cell? w _ hx191_2)).trans hx191_2
                  replace hx191_3 := (HB.out.cell (World.block_lt_of_cell? w _ hx191_3)).trans hx191_3
                  replace hx191_4 := (HB.out.cell (World.block_lt_of_cell? w _ hx191_4)).trans hx191_4
                  replace p191 := eq_true p191
                  replace q191 := eq_true q191
                  go_wp2_with (first | ((with_reducible refine gate_dst (N := 10) rfl ?_); refine box_event ?hg (N := 10) ?hd (cs := #[.int .i64 0, .int .i64 0, .int .i64 0, .int .i64 0, .int .i64 0]) (t := 71) ?hr ?_; (case hd => rfl); (case hg => rfl); (case hr => first | (go_simp; done) | (go_simp; rfl)); intro gb192 hg w47 hbox hb; have BK192 := Aside0.mk (hbox); have GW192 := Aside0.mk ((by rw [hg]; exact (below_size (bs2 HB GE183 GE185)) : w.heap.size ≤ gb192)); have GE192 := Aside0.mk ((by rw [hg]; exact (below_size (bs2 HB GE183 GE185)) : w.heap.size ≤ gb192)); replace HB := Aside0.mk (below_step (bs2 HB GE183 GE185) hb); have NB183_192 := Aside0.mk ((bn BK183 hg : gb183 ≠ gb192)); have NB192_183 := Aside0.mk ((bm BK183 hg : gb192 ≠ gb183)); replace BK183 := nb BK183 hb; have NB185_192 := Aside0.mk ((bn BK185 hg : gb185 ≠ gb192)); have NB192_185 := Aside0.mk ((bm BK185 hg : gb192 ≠ gb185)); replace BK185 := nb BK185 hb; clear hb hbox hg; have hnb48 := NB192_183.out; have hnc48 := NB183_192.out; have hnb49 := NB192_185.out; have hnc49 := NB185_192.out; obtain ⟨hcz50_0, hcz50_1, hcz50_2, hcz50_3, hcz50_4⟩ := cz5 BK192; obtain ⟨hfz50_0, hfz50_1, hfz50_2, hfz50_3, hfz50_4⟩ := fz5 BK192))
                  go_roundg k3
                  case measure => have := HK1.out; have := HJ7.out; have := HK3.out; omega
                  case rel => exact ⟨(wrap64 (x48_3 + 1)), (by first | rfl | (simp; done) | (simp [*]; done)), H', ⟨by have := HK1.out; have := HJ7.out; have := HK3.out; omega⟩, ⟨bf BK183 NB183_192⟩, ⟨bf BK185 NB185_192⟩, ⟨bs3 HB GE183 GE185 GE192⟩⟩
                ·
                 rw [if_neg c29] at H
                 exact absurd H (by simp)
               ·
                rw [if_neg c28] at H
                exact absurd H (by simp)
              ·
               rw [if_neg c27] at H
               have c27b0 : decide (x48_3 < (y187.length : Int)) = false := decide_eq_false c27
               clear c27
               have H' := Aside0.mk H
               clear H
               have hnb51 := NB183_185.out
               have hnc51 := NB185_183.out
               obtain ⟨hcz52_0, hcz52_1, hcz52_2⟩ := cz3 BK183
               obtain ⟨hfz52_0, hfz52_1, hfz52_2⟩ := fz3 BK183
               go_wp2
               go_loopg [66] k3 (fun kq v66 w' => ∃ (x66_4 : Int), v66 = .int .i64 x66_4 ∧ Aside0 (spec_l12Items.l2 kq l1 x6_1 l1 (l1.length : Int) x19_1 l0_1 (l0_1.length : Int) x66_4 a0_0 l0_1 l0_2 ((rd_T71 l1 x19_1).f0) ((rd_T71 l1 x19_1).f1) ((rd_T71 l1 x19_1).f2.f0) ((rd_T71 l1 x19_1).f2.f1) ((rd_T71 l1 x19_1).f3) = some (r1, r2)) ∧ Aside0 (kq ≤ k3) ∧ Aside0 (w'.heap[gb183]? = some (.cells #[.int .i64 a0_0, (.slice A0_1 l0_1.length c0_1), (.slice A0_2 l0_2.length c0_2)] 24 (0, 0))) ∧ Aside0 (w'.heap[gb185]? = some (.cells #[.int .i64 ((rd_T71 l1 x19_1).f0), .int .i64 ((rd_T71 l1 x19_1).f1), .int .i64 ((rd_T71 l1 x19_1).f2.f0), .int .i64 ((rd_T71 l1 x19_1).f2.f1), .int .i64 ((rd_T71 l1 x19_1).f3)] 71 (0, 0))) ∧ Aside0 (Below w.heap.size w w'))
               case atStart => exact ⟨(0), (by first | rfl | (simp; done) | (simp [*]; done)), H', ⟨Nat.le_refl _⟩, ⟨bk BK183⟩, ⟨bk BK185⟩, ⟨bs2 HB GE183 GE185⟩⟩
               case round =>
                clear H'
                try clear c1
                try clear p1
                try clear q1
                try clear hx1
                try clear c2
                try clear p2
                try clear q2
                try clear c3
                try clear c4
                try clear c4b0
                try clear c5
                try clear c5b0
                try clear c6
                try clear c6b0
                try clear p6
                try clear c7
                try clear c7b0
                try clear c7b1
                try clear c10
                try clear c12
                try clear c12b0
                try clear c12b1
                try clear c13
                try clear c13b0
                try clear c13b1
                try clear c15
                try clear p18
                try clear q18
                try clear hx18
                try clear c19
                try clear p19
                try clear q19
                try clear hx19
                try clear c21
                try clear c23
                try clear c24
                try clear c24b0
                try clear c24b1
                try clear c25
                try clear c25b0
                try clear c25b1
                try clear q26
                try clear c27
                try clear c27b0
                try clear c28
                try clear c28b0
                try clear c29
                try clear c29b0
                try clear c30
                try clear c30b0
                try clear c30b1
                try clear c32
                try clear c34
                try clear c35
                try clear c37
                try clear c40
                try clear c41
                try clear c42
                try clear c44
                try clear c48
                try clear c49
                try clear c51
                try clear hcz11_0 hcz11_1 hcz11_2 hcz11_3 hcz11_4
                try clear hcz16_0 hcz16_1 hcz16_2 hcz16_3 hcz16_4
                try clear hcz17_0 hcz17_1 hcz17_2
                try clear hcz20_0 hcz20_1 hcz20_2 hcz20_3 hcz20_4
                try clear hcz22_0 hcz22_1 hcz22_2 hcz22_3 hcz22_4
                try clear hcz36_0 hcz36_1 hcz36_2 hcz36_3 hcz36_4
                try clear hcz38_0 hcz38_1 hcz38_2 hcz38_3 hcz38_4
                try clear hcz43_0 hcz43_1 hcz43_2 hcz43_3 hcz43_4
                try clear hcz45_0 hcz45_1 hcz45_2 hcz45_3 hcz45_4
                try clear hcz50_0 hcz50_1 hcz50_2 hcz50_3 hcz50_4
                try clear hcz52_0 hcz52_1 hcz52_2
                try clear hfz11_0 hfz11_1 hfz11_2 hfz11_3 hfz11_4
                try clear hfz16_0 hfz16_1 hfz16_2 hfz16_3 hfz16_4
                try clear hfz17_0 hfz17_1 hfz17_2
                try clear hfz20_0 hfz20_1 hfz20_2 hfz20_3 hfz20_4
                try clear hfz22_0 hfz22_1 hfz22_2 hfz22_3 hfz22_4
                try clear hfz36_0 hfz36_1 hfz36_2 hfz36_3 hfz36_4
                try clear hfz38_0 hfz38_1 hfz38_2 hfz38_3 hfz38_4
                try clear hfz43_0 hfz43_1 hfz43_2 hfz43_3 hfz43_4
                try clear hfz45_0 hfz45_1 hfz45_2 hfz45_3 hfz45_4
                try clear hfz50_0 hfz50_1 hfz50_2 hfz50_3 hfz50_4
                try clear hfz52_0 hfz52_1 hfz52_2
                try clear hx184_0
                try clear hx184_1
                try clear hx184_2
                try clear hx184_3
                try clear hx184_4
                try clear hx191_0
                try clear hx191_1
                try clear hx191_2
                try clear hx191_3
                try clear hx191_4
                try clear p1
                try clear p18
                try clear p184
                try clear p191
                try clear p2
                try clear q1
                try clear q18
                try clear q184
                try clear q191
                try clear q2
                try clear q26
                obtain ⟨x66_4, rfl, HA, HK4, BK183, BK185, HB⟩ := hrel
                cases gk with
                | zero => exact absurd HA.out (by simp [spec_l12Items.l2])
                | succ k4 =>
                 have H := HA.out
                 clear HA
                 simp only [spec_l12Items.l2] at H
                 by_cases c53 : x66_4 < (l0_1.length : Int)
                 ·
                  rw [if_pos c53] at H
                  have c53b0 : decide (x66_4 < (l0_1.length : Int)) = true := decide_eq_true c53
                  clear c53
                  by_cases c54 : 0 ≤ x66_4
                  ·
                   rw [if_pos c54] at H
                   have c54b0 : decide (0 ≤ x66_4) = true := decide_eq_true c54
                   clear c54
                   by_cases c55 : x66_4 < (l0_1.length : Int)
                   ·
                    rw [if_pos c55] at H
                    have c55b0 : decide (x66_4 < (l0_1.length : Int)) = true := decide_eq_true c55
                    clear c55
                    replace H := Option.bind_eq_some_iff.mp H
                    obtain ⟨t196, A560, H⟩ := H
                    replace H : (if t196 = true then (some (0, false)) else (spec_l12Items.l2 k4 l1 x6_1 l1 (l1.length : Int) x19_1 l0_1 (l0_1.length : Int) (wrap64 (x66_4 + 1)) a0_0 l0_1 l0_2 ((rd_T71 l1 x19_1).f0) ((rd_T71 l1 x19_1).f1) ((rd_T71 l1 x19_1).f2.f0) ((rd_T71 l1 x19_1).f2.f1) ((rd_T71 l1 x19_1).f3))) = some (r1, r2) := H
                    have A56 := Aside0.mk A560
                    clear A560
                    by_cases c57 : t196 = true
                    ·
                     subst c57
                     rw [if_pos rfl] at H
                     simp only [Option.some.injEq, Prod.mk.injEq] at H
                     obtain ⟨rfl, rfl⟩ := H
                     have p194 : 0 ≤ (x66_4 : Int) := of_decide_eq_true (by first | (with_reducible assumption) | assumption)
                     have q194 : x66_4 < (l0_1.length : Int) := of_decide_eq_true (by first | (with_reducible assumption) | assumption)
                     obtain ⟨ad194, e194, hx194_0, hx194_1⟩ := at_T53 HR0_1.out x66_4 p194 q194
                     cases e194
                     replace hx194_0 := (HB.out.cell (World.block_lt_of_cell? w _ hx194_0)).trans hx194_0
                     replace hx194_1 := (HB.out.cell (World.block_lt_of_cell? w _ hx194_1)).trans hx194_1
                     replace p194 := eq_true p194
                     replace q194 := eq_true q194
                     go_wp2_with (first | ((with_reducible refine gate_dst (N := 12) rfl ?_); refine box_event ?hg (N := 12) ?hd (cs := #[.int .i64 0, .int .i64 0]) (t := 53) ?hr ?_; (case hd => rfl); (case hg => rfl); (case hr => first | (go_simp; done) | (go_simp; rfl)); intro gb195 hg w58 hbox hb; have BK195 := Aside0.mk (hbox); have GW195 := Aside0.mk ((by rw [hg]; exact (below_size (bs2 HB GE183 GE185)) : w.heap.size ≤ gb195)); have GE195 := Aside0.mk ((by rw [hg]; exact (below_size (bs2 HB GE183 GE185)) : w.heap.size ≤ gb195)); replace HB := Aside0.mk (below_step (bs2 HB GE183 GE185) hb); have NB183_195 := Aside0.mk ((bn BK183 hg : gb183 ≠ gb195)); have NB195_183 := Aside0.mk ((bm BK183 hg : gb195 ≠ gb183)); replace BK183 := nb BK183 hb; have NB185_195 := Aside0.mk ((bn BK185 hg : gb185 ≠ gb195)); have NB195_185 := Aside0.mk ((bm BK185 hg : gb195 ≠ gb185)); replace BK185 := nb BK185 hb; clear hb hbox hg; have hnb59 := NB195_183.out; have hnc59 := NB183_195.out; have hnb60 := NB195_185.out; have hnc60 := NB185_195.out; obtain ⟨hcz61_0, hcz61_1⟩ := cz2 BK195; obtain ⟨hfz61_0, hfz61_1⟩ := fz2 BK195; have hnb62 := NB185_183.out; have hnc62 := NB183_185.out; obtain ⟨hcz63_0, hcz63_1, hcz63_2, hcz63_3, hcz63_4⟩ := cz5 BK185; obtain ⟨hfz63_0, hfz63_1, hfz63_2, hfz63_3, hfz63_4⟩ := fz5 BK185) | ((with_reducible refine gate_callee (f := 61) rfl ?_); refine gL (some 73) rfl rfl Try.func61 (by kernel_rfl) rfl #[.agg #[.int .i64 ((rd_T53 l0_1 x66_4).f0), .int .i64 ((rd_T53 l0_1 x66_4).f1)], .agg #[.int .i64 ((rd_T71 l1 x19_1).f2.f0), .int .i64 ((rd_T71 l1 x19_1).f2.f1)]] rfl ?_; (with_reducible refine (spec_l12Overlap.calls ((rd_T53 l0_1 x66_4).f0) ((rd_T53 l0_1 x66_4).f1) ((rd_T71 l1 x19_1).f2.f0) ((rd_T71 l1 x19_1).f2.f1) true _ A56.out).mono ?_); rintro e w64 ⟨rfl, hb⟩; refine ⟨_, rfl, ?_⟩; replace BK183 := Aside0.mk (blk_below (bf BK183 NB183_195) hb); replace BK185 := Aside0.mk (blk_below (bf BK185 NB185_195) hb); replace BK195 := Aside0.mk (blk_below (g := gb195) (o := .cells #[.int .i64 ((rd_T53 l0_1 x66_4).f0), .int .i64 ((rd_T53 l0_1 x66_4).f1)] 53 (0, 0)) (by (with_reducible repeat (first | refine blk_drewN ?_ _ | refine blk_drew ?_ | refine blk_alloc ?_ _)); refine blk_put (cs := #[.int .i64 ((rd_T53 l0_1 x66_4).f0), .int .i64 0]) ?_ 1 _ rfl; (with_reducible repeat (first | refine blk_drewN ?_ _ | refine blk_drew ?_ | refine blk_alloc ?_ _)); refine blk_put (cs := #[.int .i64 0, .int .i64 0]) ?_ 0 _ rfl; (with_reducible repeat (first | refine blk_drewN ?_ _ | refine blk_drew ?_ | refine blk_alloc ?_ _)); exact BK195.out) hb); replace HB := Aside0.mk (below_step (bs3 HB GE183 GE185 GE195) hb); (try clear hb); (try clear hb2); (try clear hk); (try clear hi)))
                     go_ret2
                     exact ⟨by first | rfl | (simp [errW_none, errW_some] <;> rfl) | (simp [*, errW_none, errW_some] <;> rfl), bs3 HB GE183 GE185 GE195⟩
                    ·
                     replace c57 := Bool.eq_false_iff.mpr c57
                     subst c57
                     rw [if_neg (show ¬ (false = true) by decide)] at H
                     have H' := Aside0.mk H
                     clear H
                     have p194 : 0 ≤ (x66_4 : Int) := of_decide_eq_true (by first | (with_reducible assumption) | assumption)
                     have q194 : x66_4 < (l0_1.length : Int) := of_decide_eq_true (by first | (with_reducible assumption) | assumption)
                     obtain ⟨ad194, e194, hx194_0, hx194_1⟩ := at_T53 HR0_1.out x66_4 p194 q194
                     cases e194
                     replace hx194_0 := (HB.out.cell (World.block_lt_of_cell? w _ hx194_0)).trans hx194_0
                     replace hx194_1 := (HB.out.cell (World.block_lt_of_cell? w _ hx194_1)).trans hx194_1
                     replace p194 := eq_true p194
                     replace q194 := eq_true q194
                     go_wp2_with (first | ((with_reducible refine gate_dst (N := 12) rfl ?_); refine box_event ?hg (N := 12) ?hd (cs := #[.int .i64 0, .int .i64 0]) (t := 53) ?hr ?_; (case hd => rfl); (case hg => rfl); (case hr => first | (go_simp; done) | (go_simp; rfl)); intro gb195 hg w65 hbox hb; have BK195 := Aside0.mk (hbox); have GW195 := Aside0.mk ((by rw [hg]; exact (below_size (bs2 HB GE183 GE185)) : w.heap.size ≤ gb195)); have GE195 := Aside0.mk ((by rw [hg]; exact (below_size (bs2 HB GE183 GE185)) : w.heap.size ≤ gb195)); replace HB := Aside0.mk (below_step (bs2 HB GE183 GE185) hb); have NB183_195 := Aside0.mk ((bn BK183 hg : gb183 ≠ gb195)); have NB195_183 := Aside0.mk ((bm BK183 hg : gb195 ≠ gb183)); replace BK183 := nb BK183 hb; have NB185_195 := Aside0.mk ((bn BK185 hg : gb185 ≠ gb195)); have NB195_185 := Aside0.mk ((bm BK185 hg : gb195 ≠ gb185)); replace BK185 := nb BK185 hb; clear hb hbox hg; have hnb66 := NB195_183.out; have hnc66 := NB183_195.out; have hnb67 := NB195_185.out; have hnc67 := NB185_195.out; obtain ⟨hcz68_0, hcz68_1⟩ := cz2 BK195; obtain ⟨hfz68_0, hfz68_1⟩ := fz2 BK195; have hnb69 := NB185_183.out; have hnc69 := NB183_185.out; obtain ⟨hcz70_0, hcz70_1, hcz70_2, hcz70_3, hcz70_4⟩ := cz5 BK185; obtain ⟨hfz70_0, hfz70_1, hfz70_2, hfz70_3, hfz70_4⟩ := fz5 BK185) | ((with_reducible refine gate_callee (f := 61) rfl ?_); refine gL (some 73) rfl rfl Try.func61 (by kernel_rfl) rfl #[.agg #[.int .i64 ((rd_T53 l0_1 x66_4).f0), .int .i64 ((rd_T53 l0_1 x66_4).f1)], .agg #[.int .i64 ((rd_T71 l1 x19_1).f2.f0), .int .i64 ((rd_T71 l1 x19_1).f2.f1)]] rfl ?_; (with_reducible refine (spec_l12Overlap.calls ((rd_T53 l0_1 x66_4).f0) ((rd_T53 l0_1 x66_4).f1) ((rd_T71 l1 x19_1).f2.f0) ((rd_T71 l1 x19_1).f2.f1) false _ A56.out).mono ?_); rintro e w71 ⟨rfl, hb⟩; refine ⟨_, rfl, ?_⟩; replace BK183 := Aside0.mk (blk_below (bf BK183 NB183_195) hb); replace BK185 := Aside0.mk (blk_below (bf BK185 NB185_195) hb); replace BK195 := Aside0.mk (blk_below (g := gb195) (o := .cells #[.int .i64 ((rd_T53 l0_1 x66_4).f0), .int .i64 ((rd_T53 l0_1 x66_4).f1)] 53 (0, 0)) (by (with_reducible repeat (first | refine blk_drewN ?_ _ | refine blk_drew ?_ | refine blk_alloc ?_ _)); refine blk_put (cs := #[.int .i64 ((rd_T53 l0_1 x66_4).f0), .int .i64 0]) ?_ 1 _ rfl; (with_reducible repeat (first | refine blk_drewN ?_ _ | refine blk_drew ?_ | refine blk_alloc ?_ _)); refine blk_put (cs := #[.int .i64 0, .int .i64 0]) ?_ 0 _ rfl; (with_reducible repeat (first | refine blk_drewN ?_ _ | refine blk_drew ?_ | refine blk_alloc ?_ _)); exact BK195.out) hb); replace HB := Aside0.mk (below_step (bs3 HB GE183 GE185 GE195) hb); (try clear hb); (try clear hb2); (try clear hk); (try clear hi)))
                     go_roundg k4
                     case measure => have := HK1.out; have := HJ7.out; have := HK3.out; have := HK4.out; omega
                     case rel => exact ⟨(wrap64 (x66_4 + 1)), (by first | rfl | (simp; done) | (simp [*]; done)), H', ⟨by have := HK1.out; have := HJ7.out; have := HK3.out; have := HK4.out; omega⟩, ⟨bk BK183⟩, ⟨bk BK185⟩, ⟨bs3 HB GE183 GE185 GE195⟩⟩
                   ·
                    rw [if_neg c55] at H
                    exact absurd H (by simp)
                  ·
                   rw [if_neg c54] at H
                   exact absurd H (by simp)
                 ·
                  rw [if_neg c53] at H
                  have c53b0 : decide (x66_4 < (l0_1.length : Int)) = false := decide_eq_false c53
                  clear c53
                  have H' := Aside0.mk H
                  clear H
                  go_wp2
                  go_roundg k4
                  case measure => have := HK1.out; have := HJ7.out; have := HK3.out; have := HK4.out; omega
                  case rel => exact ⟨(wrap64 (x6_1 + 1)), (wrap64 (x19_1 + 1)), (by first | rfl | (simp; done) | (simp [*]; done)), (by first | rfl | (simp; done) | (simp [*]; done)), H', ⟨by have := HK1.out; have := HJ7.out; have := HK3.out; have := HK4.out; omega⟩, ⟨bk BK183⟩, ⟨bs2 HB GE183 GE185⟩⟩
           ·
            rw [if_neg c25] at H
            exact absurd H (by simp)
          ·
           rw [if_neg c24] at H
           exact absurd H (by simp)
      ·
       rw [if_neg c7] at H
       have c7b0 : (((rd_T71 l1 x19_1).f0) == 1) = false := beq_eq_false_iff_ne.mpr c7
       have c7b1 : (((rd_T71 l1 x19_1).f0) != 1) = true := bne_iff_ne.mpr c7
       have c72b0 := eq_true (of_decide_eq_true (by first | (with_reducible assumption) | assumption) : 0 ≤ x19_1)
       by_cases c73 : x19_1 ≤ (l1.length : Int)
       ·
        rw [if_pos c73] at H
        have c73b0 := eq_true c73
        have c73b1 : decide (x19_1 ≤ (l1.length : Int)) = true := decide_eq_true c73
        clear c73
        obtain ⟨y197, hy197⟩ : ∃ y_ : List (S71), y_ = (l1.take (x19_1 : Int).toNat) := ⟨_, rfl⟩
        replace H : (spec_l12Items.l3 k1 l1 x6_1 0 (-1) l1 (l1.length : Int) x19_1 y197 (y197.length : Int) 0 a0_0 l0_1 l0_2 ((rd_T71 l1 x19_1).f0) ((rd_T71 l1 x19_1).f1) ((rd_T71 l1 x19_1).f2.f0) ((rd_T71 l1 x19_1).f2.f1) ((rd_T71 l1 x19_1).f3)) = some (r1, r2) := by first | (rw [hy197]; with_reducible exact H) | (have H2_ := (Option.bind_some _ _).symm.trans H; rw [hy197]; with_reducible exact H2_) | (have H2_ := (Option.bind_some _ _).symm.trans H; with_reducible exact H2_) | with_reducible exact H | (rw [hy197]; exact H) | exact H
        have Ny197 := Aside0.mk hy197
        clear hy197
        have H' := Aside0.mk H
        clear H
        have p184 : 0 ≤ (x19_1 : Int) := of_decide_eq_true (by first | (with_reducible assumption) | assumption)
        have q184 : x19_1 < (l1.length : Int) := of_decide_eq_true (by first | (with_reducible assumption) | assumption)
        obtain ⟨ad184, e184, hx184_0, hx184_1, hx184_2, hx184_3, hx184_4⟩ := at_T71 HR1.out x19_1 p184 q184
        cases e184
        replace hx184_0 := (HB.out.cell (World.block_lt_of_cell? w _ hx184_0)).trans hx184_0
        replace hx184_1 := (HB.out.cell (World.block_lt_of_cell? w _ hx184_1)).trans hx184_1
        replace hx184_2 := (HB.out.cell (World.block_lt_of_cell? w _ hx184_2)).trans hx184_2
        replace hx184_3 := (HB.out.cell (World.block_lt_of_cell? w _ hx184_3)).trans hx184_3
        replace hx184_4 := (HB.out.cell (World.block_lt_of_cell? w _ hx184_4)).trans hx184_4
        replace p184 := eq_true p184
        replace q184 := eq_true q184
        go_wp2_with (first | ((with_reducible refine gate_dst (N := 8) rfl ?_); refine box_event ?hg (N := 8) ?hd (cs := #[.int .i64 0, .int .i64 0, .int .i64 0, .int .i64 0, .int .i64 0]) (t := 71) ?hr ?_; (case hd => rfl); (case hg => rfl); (case hr => first | (go_simp; done) | (go_simp; rfl)); intro gb185 hg w74 hbox hb; have BK185 := Aside0.mk (hbox); have GW185 := Aside0.mk ((by rw [hg]; exact (below_size (bs1 HB GE183)) : w.heap.size ≤ gb185)); have GE185 := Aside0.mk ((by rw [hg]; exact (below_size (bs1 HB GE183)) : w.heap.size ≤ gb185)); replace HB := Aside0.mk (below_step (bs1 HB GE183) hb); have NB183_185 := Aside0.mk ((bn BK183 hg : gb183 ≠ gb185)); have NB185_183 := Aside0.mk ((bm BK183 hg : gb185 ≠ gb183)); replace BK183 := nb BK183 hb; clear hb hbox hg; have hnb75 := NB185_183.out; have hnc75 := NB183_185.out; obtain ⟨hcz76_0, hcz76_1, hcz76_2, hcz76_3, hcz76_4⟩ := cz5 BK185; obtain ⟨hfz76_0, hfz76_1, hfz76_2, hfz76_3, hfz76_4⟩ := fz5 BK185) | ((with_reducible refine gate_store (t := 71) (p := 8) rfl ?_); refine store_event (t := 71) (p := 8) (v := ?vo_w77) (w1 := (((((w74.setCell ⟨gb185, 0, none⟩ (.int .i64 ((rd_T71 l1 x19_1).f0))).setCell ⟨gb185, 1, none⟩ (.int .i64 ((rd_T71 l1 x19_1).f1))).setCell ⟨gb185, 2, none⟩ (.int .i64 ((rd_T71 l1 x19_1).f2.f0))).setCell ⟨gb185, 3, none⟩ (.int .i64 ((rd_T71 l1 x19_1).f2.f1))).setCell ⟨gb185, 4, none⟩ (.int .i64 ((rd_T71 l1 x19_1).f3)))) ?hg ?ho ?hn ?hr ?_; (case ho => rfl); (case hg => rfl); (case hn => rfl); (case hr => first | (go_simp; done) | (go_simp; rfl)); intro w77 hw; have n0_ : Aside0 (w77.heap[gb183]? = some (.cells #[.int .i64 a0_0, .slice A0_1 l0_1.length c0_1, .slice A0_2 l0_2.length c0_2] 24 (0, 0))) := ⟨(by rw [hw]; exact (bf BK183 NB183_185))⟩; have n1_ : Aside0 (w77.heap[gb185]? = some (.cells #[.int .i64 ((rd_T71 l1 x19_1).f0), .int .i64 ((rd_T71 l1 x19_1).f1), .int .i64 ((rd_T71 l1 x19_1).f2.f0), .int .i64 ((rd_T71 l1 x19_1).f2.f1), .int .i64 ((rd_T71 l1 x19_1).f3)] 71 (0, 0))) := ⟨(by rw [hw]; exact (by (with_reducible repeat (first | refine blk_drewN ?_ _ | refine blk_drew ?_ | refine blk_alloc ?_ _)); refine blk_put (cs := #[.int .i64 ((rd_T71 l1 x19_1).f0), .int .i64 ((rd_T71 l1 x19_1).f1), .int .i64 ((rd_T71 l1 x19_1).f2.f0), .int .i64 ((rd_T71 l1 x19_1).f2.f1), .int .i64 0]) ?_ 4 _ rfl; (with_reducible repeat (first | refine blk_drewN ?_ _ | refine blk_drew ?_ | refine blk_alloc ?_ _)); refine blk_put (cs := #[.int .i64 ((rd_T71 l1 x19_1).f0), .int .i64 ((rd_T71 l1 x19_1).f1), .int .i64 ((rd_T71 l1 x19_1).f2.f0), .int .i64 0, .int .i64 0]) ?_ 3 _ rfl; (with_reducible repeat (first | refine blk_drewN ?_ _ | refine blk_drew ?_ | refine blk_alloc ?_ _)); refine blk_put (cs := #[.int .i64 ((rd_T71 l1 x19_1).f0), .int .i64 ((rd_T71 l1 x19_1).f1), .int .i64 0, .int .i64 0, .int .i64 0]) ?_ 2 _ rfl; (with_reducible repeat (first | refine blk_drewN ?_ _ | refine blk_drew ?_ | refine blk_alloc ?_ _)); refine blk_put (cs := #[.int .i64 ((rd_T71 l1 x19_1).f0), .int .i64 0, .int .i64 0, .int .i64 0, .int .i64 0]) ?_ 1 _ rfl; (with_reducible repeat (first | refine blk_drewN ?_ _ | refine blk_drew ?_ | refine blk_alloc ?_ _)); refine blk_put (cs := #[.int .i64 0, .int .i64 0, .int .i64 0, .int .i64 0, .int .i64 0]) ?_ 0 _ rfl; (with_reducible repeat (first | refine blk_drewN ?_ _ | refine blk_drew ?_ | refine blk_alloc ?_ _)); exact BK185.out))⟩; have n2_ : Aside0 (Below w.heap.size w w77) := ⟨(by rw [hw]; exact (bs2 HB GE183 GE185))⟩; clear hw; clear BK183; clear BK185; clear HB; have BK183 := n0_; have BK185 := n1_; have HB := n2_; clear n0_ n1_ n2_; obtain ⟨hcz78_0, hcz78_1, hcz78_2, hcz78_3, hcz78_4⟩ := cz5 BK185; obtain ⟨hfz78_0, hfz78_1, hfz78_2, hfz78_3, hfz78_4⟩ := fz5 BK185; have q79 : (x19_1 : Int) ≤ ((l1.length : Int) : Int) := of_decide_eq_true (by first | (with_reducible assumption) | assumption); obtain ⟨i079, hi079, _, hsz79, _⟩ := info_parts info71; have hroom79 : l1.length ≤ c1 := HC1.out; have hC79 : Kd.C k71 _ (some ad184) l1.length l1 := HR1.out; have hcut79 := cut_to (P := Try.prog) 25 71 .i64 Try.underlying25 hi079 (some ad184) l1.length c1 x19_1 (of_decide_eq_true (by first | (with_reducible assumption) | assumption)) q79 hroom79; have hr79 := Kd.C_take (m := (x19_1 : Int).toNat) hC79 (by omega); have hy79 : y197.length = (x19_1 : Int).toNat := (by rw [Ny197.out, List.length_take]; omega); rw [← Ny197.out] at hr79; rw [← hy79] at hcut79; have HR200 := Aside0.mk hr79; have HC200 := Aside0.mk (show y197.length ≤ c1 from by omega); clear hr79 hC79 hroom79 hi079 hsz79; have KY79 := Aside0.mk hy79; clear hy79; replace q79 := eq_true q79))
        go_loopg [13, 14, 81] k1 (fun kq v13 v14 v81 w' => ∃ (x13_2 : Int) (x14_2 : Int) (x81_2 : Int), v13 = .int .i64 x13_2 ∧ v14 = .int .i64 x14_2 ∧ v81 = .int .i64 x81_2 ∧ Aside0 (spec_l12Items.l3 kq l1 x6_1 x13_2 x14_2 l1 (l1.length : Int) x19_1 y197 (y197.length : Int) x81_2 a0_0 l0_1 l0_2 ((rd_T71 l1 x19_1).f0) ((rd_T71 l1 x19_1).f1) ((rd_T71 l1 x19_1).f2.f0) ((rd_T71 l1 x19_1).f2.f1) ((rd_T71 l1 x19_1).f3) = some (r1, r2)) ∧ Aside0 (kq ≤ k1) ∧ Aside0 (w'.heap[gb183]? = some (.cells #[.int .i64 a0_0, (.slice A0_1 l0_1.length c0_1), (.slice A0_2 l0_2.length c0_2)] 24 (0, 0))) ∧ Aside0 (w'.heap[gb185]? = some (.cells #[.int .i64 ((rd_T71 l1 x19_1).f0), .int .i64 ((rd_T71 l1 x19_1).f1), .int .i64 ((rd_T71 l1 x19_1).f2.f0), .int .i64 ((rd_T71 l1 x19_1).f2.f1), .int .i64 ((rd_T71 l1 x19_1).f3)] 71 (0, 0))) ∧ Aside0 (Below w.heap.size w w'))
        case atStart => exact ⟨(0), ((-1)), (0), (by first | rfl | (simp; done) | (simp [*]; done)), (by first | rfl | (simp; done) | (simp [*]; done)), (by first | rfl | (simp; done) | (simp [*]; done)), H', ⟨Nat.le_refl _⟩, ⟨bk BK183⟩, ⟨bk BK185⟩, ⟨bs2 HB GE183 GE185⟩⟩
        case round =>
         clear H'
         try clear c1
         try clear p1
         try clear q1
         try clear hx1
         try clear c2
         try clear p2
         try clear q2
         try clear c3
         try clear c4
         try clear c4b0
         try clear c5
         try clear c5b0
         try clear c6
         try clear c6b0
         try clear p6
         try clear c7
         try clear c7b0
         try clear c7b1
         try clear q7
         try clear c10
         try clear c12
         try clear c12b0
         try clear c12b1
         try clear c13
         try clear c13b0
         try clear c13b1
         try clear c15
         try clear p18
         try clear q18
         try clear hx18
         try clear c19
         try clear p19
         try clear q19
         try clear hx19
         try clear c21
         try clear c23
         try clear c24
         try clear c24b0
         try clear c24b1
         try clear c25
         try clear c25b0
         try clear c25b1
         try clear q26
         try clear c27
         try clear c27b0
         try clear c28
         try clear c28b0
         try clear c29
         try clear c29b0
         try clear c30
         try clear c30b0
         try clear c30b1
         try clear c32
         try clear c34
         try clear c35
         try clear c37
         try clear c40
         try clear c41
         try clear c42
         try clear c44
         try clear c48
         try clear c49
         try clear c51
         try clear c53
         try clear c53b0
         try clear c54
         try clear c54b0
         try clear c55
         try clear c55b0
         try clear c57
         try clear c59
         try clear c60
         try clear c61
         try clear c62
         try clear p64
         try clear c66
         try clear c67
         try clear c69
         try clear c72
         try clear c72b0
         try clear c73
         try clear c73b0
         try clear c73b1
         try clear c75
         try clear q79
         try clear hcz11_0 hcz11_1 hcz11_2 hcz11_3 hcz11_4
         try clear hcz16_0 hcz16_1 hcz16_2 hcz16_3 hcz16_4
         try clear hcz17_0 hcz17_1 hcz17_2
         try clear hcz20_0 hcz20_1 hcz20_2 hcz20_3 hcz20_4
         try clear hcz22_0 hcz22_1 hcz22_2 hcz22_3 hcz22_4
         try clear hcz36_0 hcz36_1 hcz36_2 hcz36_3 hcz36_4
         try clear hcz38_0 hcz38_1 hcz38_2 hcz38_3 hcz38_4
         try clear hcz43_0 hcz43_1 hcz43_2 hcz43_3 hcz43_4
         try clear hcz45_0 hcz45_1 hcz45_2 hcz45_3 hcz45_4
         try clear hcz50_0 hcz50_1 hcz50_2 hcz50_3 hcz50_4
         try clear hcz52_0 hcz52_1 hcz52_2
         try clear hcz61_0 hcz61_1
         try clear hcz63_0 hcz63_1 hcz63_2 hcz63_3 hcz63_4
         try clear hcz68_0 hcz68_1
         try clear hcz70_0 hcz70_1 hcz70_2 hcz70_3 hcz70_4
         try clear hcz76_0 hcz76_1 hcz76_2 hcz76_3 hcz76_4
         try clear hcz78_0 hcz78_1 hcz78_2 hcz78_3 hcz78_4
         try clear hfz11_0 hfz11_1 hfz11_2 hfz11_3 hfz11_4
         try clear hfz16_0 hfz16_1 hfz16_2 hfz16_3 hfz16_4
         try clear hfz17_0 hfz17_1 hfz17_2
         try clear hfz20_0 hfz20_1 hfz20_2 hfz20_3 hfz20_4
         try clear hfz22_0 hfz22_1 hfz22_2 hfz22_3 hfz22_4
         try clear hfz36_0 hfz36_1 hfz36_2 hfz36_3 hfz36_4
         try clear hfz38_0 hfz38_1 hfz38_2 hfz38_3 hfz38_4
         try clear hfz43_0 hfz43_1 hfz43_2 hfz43_3 hfz43_4
         try clear hfz45_0 hfz45_1 hfz45_2 hfz45_3 hfz45_4
         try clear hfz50_0 hfz50_1 hfz50_2 hfz50_3 hfz50_4
         try clear hfz52_0 hfz52_1 hfz52_2
         try clear hfz61_0 hfz61_1
         try clear hfz63_0 hfz63_1 hfz63_2 hfz63_3 hfz63_4
         try clear hfz68_0 hfz68_1
         try clear hfz70_0 hfz70_1 hfz70_2 hfz70_3 hfz70_4
         try clear hfz76_0 hfz76_1 hfz76_2 hfz76_3 hfz76_4
         try clear hfz78_0 hfz78_1 hfz78_2 hfz78_3 hfz78_4
         try clear hx184_0
         try clear hx184_1
         try clear hx184_2
         try clear hx184_3
         try clear hx184_4
         try clear hx191_0
         try clear hx191_1
         try clear hx191_2
         try clear hx191_3
         try clear hx191_4
         try clear hx194_0
         try clear hx194_1
         try clear p1
         try clear p18
         try clear p184
         try clear p19
         try clear p191
         try clear p194
         try clear p2
         try clear p6
         try clear q1
         try clear q18
         try clear q184
         try clear q19
         try clear q191
         try clear q194
         try clear q2
         try clear q26
         try clear q79
         obtain ⟨x13_2, x14_2, x81_2, rfl, rfl, rfl, HA, HK2, BK183, BK185, HB⟩ := hrel
         cases gk with
         | zero => exact absurd HA.out (by simp [spec_l12Items.l3])
         | succ k2 =>
          have H := HA.out
          clear HA
          simp only [spec_l12Items.l3] at H
          by_cases c80 : x81_2 < (y197.length : Int)
          ·
           rw [if_pos c80] at H
           have c80b0 : decide (x81_2 < (y197.length : Int)) = true := decide_eq_true c80
           clear c80
           by_cases c81 : 0 ≤ x81_2
           ·
            rw [if_pos c81] at H
            have c81b0 : decide (0 ≤ x81_2) = true := decide_eq_true c81
            clear c81
            by_cases c82 : x81_2 < (y197.length : Int)
            ·
             rw [if_pos c82] at H
             have c82b0 : decide (x81_2 < (y197.length : Int)) = true := decide_eq_true c82
             clear c82
             by_cases c83 : ((rd_T71 y197 x81_2).f1) = ((rd_T71 l1 x19_1).f1)
             ·
              rw [if_pos c83] at H
              have c83b0 : (((rd_T71 y197 x81_2).f1) == ((rd_T71 l1 x19_1).f1)) = true := beq_iff_eq.mpr c83
              have c83b1 : (((rd_T71 y197 x81_2).f1) != ((rd_T71 l1 x19_1).f1)) = false := bne_eq_false_iff_eq.mpr c83
              clear c83
              by_cases c84 : ((rd_T71 y197 x81_2).f0) = 1
              ·
               rw [if_pos c84] at H
               have c84b0 : (((rd_T71 y197 x81_2).f0) == 1) = true := beq_iff_eq.mpr c84
               have c84b1 : (((rd_T71 y197 x81_2).f0) != 1) = false := bne_eq_false_iff_eq.mpr c84
               clear c84
               have H' := Aside0.mk H
               clear H
               have p202 : 0 ≤ (x81_2 : Int) := of_decide_eq_true (by first | (with_reducible assumption) | assumption)
               have q202 : x81_2 < (y197.length : Int) := of_decide_eq_true (by first | (with_reducible assumption) | assumption)
               obtain ⟨ad202, e202, hx202_0, hx202_1, hx202_2, hx202_3, hx202_4⟩ := at_T71 HR200.out x81_2 p202 q202
               obtain rfl : ad184 = ad202 := (by injection e202)
               replace hx202_0 := (HB.out.cell (World.block_lt_of_cell? w _ hx202_0)).trans hx202_0
               replace hx202_1 := (HB.out.cell (World.block_lt_of_cell? w _ hx202_1)).trans hx202_1
               replace hx202_2 := (HB.out.cell (World.block_lt_of_cell? w _ hx202_2)).trans hx202_2
               replace hx202_3 := (HB.out.cell (World.block_lt_of_cell? w _ hx202_3)).trans hx202_3
               replace hx202_4 := (HB.out.cell (World.block_lt_of_cell? w _ hx202_4)).trans hx202_4
               replace p202 := eq_true p202
               replace q202 := eq_true q202
               go_wp2_with (first | ((with_reducible refine gate_dst (N := 16) rfl ?_); refine box_event ?hg (N := 16) ?hd (cs := #[.int .i64 0, .int .i64 0, .int .i64 0, .int .i64 0, .int .i64 0]) (t := 71) ?hr ?_; (case hd => rfl); (case hg => rfl); (case hr => first | (go_simp; done) | (go_simp; rfl)); intro gb203 hg w85 hbox hb; have BK203 := Aside0.mk (hbox); have GW203 := Aside0.mk ((by rw [hg]; exact (below_size (bs2 HB GE183 GE185)) : w.heap.size ≤ gb203)); have GE203 := Aside0.mk ((by rw [hg]; exact (below_size (bs2 HB GE183 GE185)) : w.heap.size ≤ gb203)); replace HB := Aside0.mk (below_step (bs2 HB GE183 GE185) hb); have NB183_203 := Aside0.mk ((bn BK183 hg : gb183 ≠ gb203)); have NB203_183 := Aside0.mk ((bm BK183 hg : gb203 ≠ gb183)); replace BK183 := nb BK183 hb; have NB185_203 := Aside0.mk ((bn BK185 hg : gb185 ≠ gb203)); have NB203_185 := Aside0.mk ((bm BK185 hg : gb203 ≠ gb185)); replace BK185 := nb BK185 hb; clear hb hbox hg; have hnb86 := NB203_183.out; have hnc86 := NB183_203.out; have hnb87 := NB203_185.out; have hnc87 := NB185_203.out; obtain ⟨hcz88_0, hcz88_1, hcz88_2, hcz88_3, hcz88_4⟩ := cz5 BK203; obtain ⟨hfz88_0, hfz88_1, hfz88_2, hfz88_3, hfz88_4⟩ := fz5 BK203; have hnb89 := NB185_183.out; have hnc89 := NB183_185.out; obtain ⟨hcz90_0, hcz90_1, hcz90_2, hcz90_3, hcz90_4⟩ := cz5 BK185; obtain ⟨hfz90_0, hfz90_1, hfz90_2, hfz90_3, hfz90_4⟩ := fz5 BK185))
               go_roundg k2
               case measure => have := HK1.out; have := HK2.out; omega
               case rel => exact ⟨((rd_T71 y197 x81_2).f3), ((rd_T71 y197 x81_2).f2.f1), (wrap64 (x81_2 + 1)), (by first | rfl | (simp; done) | (simp [*]; done)), (by first | rfl | (simp; done) | (simp [*]; done)), (by first | rfl | (simp; done) | (simp [*]; done)), H', ⟨by have := HK1.out; have := HK2.out; omega⟩, ⟨bf BK183 NB183_203⟩, ⟨bf BK185 NB185_203⟩, ⟨bs3 HB GE183 GE185 GE203⟩⟩
              ·
               rw [if_neg c84] at H
               have c84b0 : (((rd_T71 y197 x81_2).f0) == 1) = false := beq_eq_false_iff_ne.mpr c84
               have c84b1 : (((rd_T71 y197 x81_2).f0) != 1) = true := bne_iff_ne.mpr c84
               have H' := Aside0.mk H
               clear H
               have p202 : 0 ≤ (x81_2 : Int) := of_decide_eq_true (by first | (with_reducible assumption) | assumption)
               have q202 : x81_2 < (y197.length : Int) := of_decide_eq_true (by first | (with_reducible assumption) | assumption)
               obtain ⟨ad202, e202, hx202_0, hx202_1, hx202_2, hx202_3, hx202_4⟩ := at_T71 HR200.out x81_2 p202 q202
               obtain rfl : ad184 = ad202 := (by injection e202)
               replace hx202_0 := (HB.out.cell (World.block_lt_of_cell? w _ hx202_0)).trans hx202_0
               replace hx202_1 := (HB.out.cell (World.block_lt_of_cell? w _ hx202_1)).trans hx202_1
               replace hx202_2 := (HB.out.cell (World.block_lt_of_cell? w _ hx202_2)).trans hx202_2
               replace hx202_3 := (HB.out.cell (World.block_lt_of_cell? w _ hx202_3)).trans hx202_3
               replace hx202_4 := (HB.out.cell (World.block_lt_of_cell? w _ hx202_4)).trans hx202_4
               replace p202 := eq_true p202
               replace q202 := eq_true q202
               go_wp2_with (first | ((with_reducible refine gate_dst (N := 16) rfl ?_); refine box_event ?hg (N := 16) ?hd (cs := #[.int .i64 0, .int .i64 0, .int .i64 0, .int .i64 0, .int .i64 0]) (t := 71) ?hr ?_; (case hd => rfl); (case hg => rfl); (case hr => first | (go_simp; done) | (go_simp; rfl)); intro gb203 hg w91 hbox hb; have BK203 := Aside0.mk (hbox); have GW203 := Aside0.mk ((by rw [hg]; exact (below_size (bs2 HB GE183 GE185)) : w.heap.size ≤ gb203)); have GE203 := Aside0.mk ((by rw [hg]; exact (below_size (bs2 HB GE183 GE185)) : w.heap.size ≤ gb203)); replace HB := Aside0.mk (below_step (bs2 HB GE183 GE185) hb); have NB183_203 := Aside0.mk ((bn BK183 hg : gb183 ≠ gb203)); have NB203_183 := Aside0.mk ((bm BK183 hg : gb203 ≠ gb183)); replace BK183 := nb BK183 hb; have NB185_203 := Aside0.mk ((bn BK185 hg : gb185 ≠ gb203)); have NB203_185 := Aside0.mk ((bm BK185 hg : gb203 ≠ gb185)); replace BK185 := nb BK185 hb; clear hb hbox hg; have hnb92 := NB203_183.out; have hnc92 := NB183_203.out; have hnb93 := NB203_185.out; have hnc93 := NB185_203.out; obtain ⟨hcz94_0, hcz94_1, hcz94_2, hcz94_3, hcz94_4⟩ := cz5 BK203; obtain ⟨hfz94_0, hfz94_1, hfz94_2, hfz94_3, hfz94_4⟩ := fz5 BK203; have hnb95 := NB185_183.out; have hnc95 := NB183_185.out; obtain ⟨hcz96_0, hcz96_1, hcz96_2, hcz96_3, hcz96_4⟩ := cz5 BK185; obtain ⟨hfz96_0, hfz96_1, hfz96_2, hfz96_3, hfz96_4⟩ := fz5 BK185))
               go_roundg k2
               case measure => have := HK1.out; have := HK2.out; omega
               case rel => exact ⟨((rd_T71 y197 x81_2).f3), (x14_2), (wrap64 (x81_2 + 1)), (by first | rfl | (simp; done) | (simp [*]; done)), (by first | rfl | (simp; done) | (simp [*]; done)), (by first | rfl | (simp; done) | (simp [*]; done)), H', ⟨by have := HK1.out; have := HK2.out; omega⟩, ⟨bf BK183 NB183_203⟩, ⟨bf BK185 NB185_203⟩, ⟨bs3 HB GE183 GE185 GE203⟩⟩
             ·
              rw [if_neg c83] at H
              have c83b0 : (((rd_T71 y197 x81_2).f1) == ((rd_T71 l1 x19_1).f1)) = false := beq_eq_false_iff_ne.mpr c83
              have c83b1 : (((rd_T71 y197 x81_2).f1) != ((rd_T71 l1 x19_1).f1)) = true := bne_iff_ne.mpr c83
              have H' := Aside0.mk H
              clear H
              have p202 : 0 ≤ (x81_2 : Int) := of_decide_eq_true (by first | (with_reducible assumption) | assumption)
              have q202 : x81_2 < (y197.length : Int) := of_decide_eq_true (by first | (with_reducible assumption) | assumption)
              obtain ⟨ad202, e202, hx202_0, hx202_1, hx202_2, hx202_3, hx202_4⟩ := at_T71 HR200.out x81_2 p202 q202
              obtain rfl : ad184 = ad202 := (by injection e202)
              replace hx202_0 := (HB.out.cell (World.block_lt_of_cell? w _ hx202_0)).trans hx202_0
              replace hx202_1 := (HB.out.cell (World.block_lt_of_cell? w _ hx202_1)).trans hx202_1
              replace hx202_2 := (HB.out.cell (World.block_lt_of_cell? w _ hx202_2)).trans hx202_2
              replace hx202_3 := (HB.out.cell (World.block_lt_of_cell? w _ hx202_3)).trans hx202_3
              replace hx202_4 := (HB.out.cell (World.block_lt_of_cell? w _ hx202_4)).trans hx202_4
              replace p202 := eq_true p202
              replace q202 := eq_true q202
              go_wp2_with (first | ((with_reducible refine gate_dst (N := 16) rfl ?_); refine box_event ?hg (N := 16) ?hd (cs := #[.int .i64 0, .int .i64 0, .int .i64 0, .int .i64 0, .int .i64 0]) (t := 71) ?hr ?_; (case hd => rfl); (case hg => rfl); (case hr => first | (go_simp; done) | (go_simp; rfl)); intro gb203 hg w97 hbox hb; have BK203 := Aside0.mk (hbox); have GW203 := Aside0.mk ((by rw [hg]; exact (below_size (bs2 HB GE183 GE185)) : w.heap.size ≤ gb203)); have GE203 := Aside0.mk ((by rw [hg]; exact (below_size (bs2 HB GE183 GE185)) : w.heap.size ≤ gb203)); replace HB := Aside0.mk (below_step (bs2 HB GE183 GE185) hb); have NB183_203 := Aside0.mk ((bn BK183 hg : gb183 ≠ gb203)); have NB203_183 := Aside0.mk ((bm BK183 hg : gb203 ≠ gb183)); replace BK183 := nb BK183 hb; have NB185_203 := Aside0.mk ((bn BK185 hg : gb185 ≠ gb203)); have NB203_185 := Aside0.mk ((bm BK185 hg : gb203 ≠ gb185)); replace BK185 := nb BK185 hb; clear hb hbox hg; have hnb98 := NB203_183.out; have hnc98 := NB183_203.out; have hnb99 := NB203_185.out; have hnc99 := NB185_203.out; obtain ⟨hcz100_0, hcz100_1, hcz100_2, hcz100_3, hcz100_4⟩ := cz5 BK203; obtain ⟨hfz100_0, hfz100_1, hfz100_2, hfz100_3, hfz100_4⟩ := fz5 BK203; have hnb101 := NB185_183.out; have hnc101 := NB183_185.out; obtain ⟨hcz102_0, hcz102_1, hcz102_2, hcz102_3, hcz102_4⟩ := cz5 BK185; obtain ⟨hfz102_0, hfz102_1, hfz102_2, hfz102_3, hfz102_4⟩ := fz5 BK185))
              go_roundg k2
              case measure => have := HK1.out; have := HK2.out; omega
              case rel => exact ⟨(x13_2), (x14_2), (wrap64 (x81_2 + 1)), (by first | rfl | (simp; done) | (simp [*]; done)), (by first | rfl | (simp; done) | (simp [*]; done)), (by first | rfl | (simp; done) | (simp [*]; done)), H', ⟨by have := HK1.out; have := HK2.out; omega⟩, ⟨bf BK183 NB183_203⟩, ⟨bf BK185 NB185_203⟩, ⟨bs3 HB GE183 GE185 GE203⟩⟩
            ·
             rw [if_neg c82] at H
             exact absurd H (by simp)
           ·
            rw [if_neg c81] at H
            exact absurd H (by simp)
          ·
           rw [if_neg c80] at H
           have c80b0 : decide (x81_2 < (y197.length : Int)) = false := decide_eq_false c80
           clear c80
           by_cases c103 : ((rd_T71 l1 x19_1).f0) = 2
           ·
            rw [if_pos c103] at H
            have c103b0 : (((rd_T71 l1 x19_1).f0) == 2) = true := beq_iff_eq.mpr c103
            have c103b1 : (((rd_T71 l1 x19_1).f0) != 2) = false := bne_eq_false_iff_eq.mpr c103
            clear c103
            by_cases c104 : (!(((rd_T71 l1 x19_1).f2.f0) == 0) || (!(((rd_T71 l1 x19_1).f2.f1) == 0))) = true
            ·
             rw [if_pos c104] at H
             have c104b0 : (!(((rd_T71 l1 x19_1).f2.f0) == 0) || (!(((rd_T71 l1 x19_1).f2.f1) == 0))) = true := c104
             clear c104
             simp only [Option.some.injEq, Prod.mk.injEq] at H
             obtain ⟨rfl, rfl⟩ := H
             have hnb105 := NB185_183.out
             have hnc105 := NB183_185.out
             obtain ⟨hcz106_0, hcz106_1, hcz106_2, hcz106_3, hcz106_4⟩ := cz5 BK185
             obtain ⟨hfz106_0, hfz106_1, hfz106_2, hfz106_3, hfz106_4⟩ := fz5 BK185
             go_wp2
             go_ret2
             exact ⟨by first | rfl | (simp [errW_none, errW_some] <;> rfl) | (simp [*, errW_none, errW_some] <;> rfl), bs2 HB GE183 GE185⟩
            ·
             rw [if_neg c104] at H
             have c104b0 : (!(((rd_T71 l1 x19_1).f2.f0) == 0) || (!(((rd_T71 l1 x19_1).f2.f1) == 0))) = false := by simpa using c104
             clear c104
             by_cases c107 : x14_2 < 0
             ·
              rw [if_pos c107] at H
              have c107b0 : decide (x14_2 < 0) = true := decide_eq_true c107
              clear c107
              simp only [Option.some.injEq, Prod.mk.injEq] at H
              obtain ⟨rfl, rfl⟩ := H
              have hnb108 := NB185_183.out
              have hnc108 := NB183_185.out
              obtain ⟨hcz109_0, hcz109_1, hcz109_2, hcz109_3, hcz109_4⟩ := cz5 BK185
              obtain ⟨hfz109_0, hfz109_1, hfz109_2, hfz109_3, hfz109_4⟩ := fz5 BK185
              go_wp2
              go_ret2
              exact ⟨by first | rfl | (simp [errW_none, errW_some] <;> rfl) | (simp [*, errW_none, errW_some] <;> rfl), bs2 HB GE183 GE185⟩
             ·
              rw [if_neg c107] at H
              have c107b0 : decide (x14_2 < 0) = false := decide_eq_false c107
              clear c107
              replace H := Option.bind_eq_some_iff.mp H
              obtain ⟨t201, A1100, H⟩ := H
              replace H : (if t201 = true then (spec_l12Items.l0 k2 l1 x6_1 l1 (l1.length : Int) (wrap64 (x19_1 + 1)) a0_0 l0_1 l0_2) else (some (0, false))) = some (r1, r2) := H
              have A110 := Aside0.mk A1100
              clear A1100
              by_cases c111 : t201 = true
              ·
               subst c111
               rw [if_pos rfl] at H
               have H' := Aside0.mk H
               clear H
               have hnb112 := NB185_183.out
               have hnc112 := NB183_185.out
               obtain ⟨hcz113_0, hcz113_1, hcz113_2, hcz113_3, hcz113_4⟩ := cz5 BK185
               obtain ⟨hfz113_0, hfz113_1, hfz113_2, hfz113_3, hfz113_4⟩ := fz5 BK185
               go_wp2_with (first | (go_at_call 30; (with_reducible refine (spec_l1In.calls ((rd_T71 l1 x19_1).f3) (wrap64 (x13_2 + 1)) x14_2 true _ A110.out).mono ?_); rintro e w' ⟨rfl, ⟨nd, rfl⟩⟩))
               go_roundg k2
               case measure => have := HK1.out; have := HK2.out; omega
               case rel => exact ⟨(x6_1), (wrap64 (x19_1 + 1)), (by first | rfl | (simp; done) | (simp [*]; done)), (by first | rfl | (simp; done) | (simp [*]; done)), H', ⟨by have := HK1.out; have := HK2.out; omega⟩, ⟨bk BK183⟩, ⟨bs2 HB GE183 GE185⟩⟩
              ·
               replace c111 := Bool.eq_false_iff.mpr c111
               subst c111
               rw [if_neg (show ¬ (false = true) by decide)] at H
               simp only [Option.some.injEq, Prod.mk.injEq] at H
               obtain ⟨rfl, rfl⟩ := H
               have hnb114 := NB185_183.out
               have hnc114 := NB183_185.out
               obtain ⟨hcz115_0, hcz115_1, hcz115_2, hcz115_3, hcz115_4⟩ := cz5 BK185
               obtain ⟨hfz115_0, hfz115_1, hfz115_2, hfz115_3, hfz115_4⟩ := fz5 BK185
               go_wp2_with (first | (go_at_call 30; (with_reducible refine (spec_l1In.calls ((rd_T71 l1 x19_1).f3) (wrap64 (x13_2 + 1)) x14_2 false _ A110.out).mono ?_); rintro e w' ⟨rfl, ⟨nd, rfl⟩⟩))
               go_ret2
               exact ⟨by first | rfl | (simp [errW_none, errW_some] <;> rfl) | (simp [*, errW_none, errW_some] <;> rfl), bs2 HB GE183 GE185⟩
           ·
            rw [if_neg c103] at H
            have c103b0 : (((rd_T71 l1 x19_1).f0) == 2) = false := beq_eq_false_iff_ne.mpr c103
            have c103b1 : (((rd_T71 l1 x19_1).f0) != 2) = true := bne_iff_ne.mpr c103
            simp only [Option.some.injEq, Prod.mk.injEq] at H
            obtain ⟨rfl, rfl⟩ := H
            have hnb116 := NB185_183.out
            have hnc116 := NB183_185.out
            obtain ⟨hcz117_0, hcz117_1, hcz117_2, hcz117_3, hcz117_4⟩ := cz5 BK185
            obtain ⟨hfz117_0, hfz117_1, hfz117_2, hfz117_3, hfz117_4⟩ := fz5 BK185
            go_wp2
            go_ret2
            exact ⟨by first | rfl | (simp [errW_none, errW_some] <;> rfl) | (simp [*, errW_none, errW_some] <;> rfl), bs2 HB GE183 GE185⟩
       ·
        rw [if_neg c73] at H
        exact absurd H (by simp)
     ·
      rw [if_neg c6] at H
      exact absurd H (by simp)
    ·
     rw [if_neg c5] at H
     exact absurd H (by simp)
   ·
    rw [if_neg c4] at H
    have c4b0 : decide (x19_1 < (l1.length : Int)) = false := decide_eq_false c4
    clear c4
    simp only [Option.some.injEq, Prod.mk.injEq] at H
    obtain ⟨rfl, rfl⟩ := H
    go_wp2
    go_ret2
    exact ⟨by first | rfl | (simp [errW_none, errW_some] <;> rfl) | (simp [*, errW_none, errW_some] <;> rfl), bs1 HB GE183⟩

/-! ### spec_GoodWork: function 15 -/
def spec_GoodWork.f (k : Nat) (a0_0 : Int) (l0_1 : List (S53)) (l0_2 : List (S53)) (a0_3 : Int) (l0_4 : List (S71)) : Option (Bool) := (spec_GoodFree.f k a0_0 l0_1 l0_2).bind fun t205 => (if t205 = true then ((spec_l12Items.f k a0_0 l0_1 l0_2 l0_4).bind fun bt206 => (if bt206.2 = true then (some (bt206.1 == a0_3)) else (some false))) else (some false))
theorem spec_GoodWork.mono : ∀ a0 a1 a2 a3 a4 k, LeO (spec_GoodWork.f k a0 a1 a2 a3 a4) (spec_GoodWork.f (k + 1) a0 a1 a2 a3 a4) := by
 intro a0 a1 a2 a3 a4 k
 unfold spec_GoodWork.f
 repeat' first
   | (with_reducible exact spec_GoodFree.mono _ _ _ _)
   | (with_reducible exact spec_l12Items.mono _ _ _ _ _)
   | (with_reducible exact LeO.refl _)
   | (with_reducible exact LeO.none _)
   | (with_reducible refine LeO.ite ?_ ?_)
   | (with_reducible refine LeO.bind ?_ (fun _ => ?_))
   | exact spec_GoodFree.mono _ _ _ _
   | exact spec_l12Items.mono _ _ _ _ _
   | exact LeO.none _
   | refine LeO.ite ?_ ?_
   | refine LeO.bind ?_ (fun _ => ?_)
set_option maxHeartbeats 8000000 in
set_option maxRecDepth 100000 in
theorem spec_GoodWork.calls (k : Nat) (a0_0 : Int) (A0_1 : Option Addr) (c0_1 : Nat) (l0_1 : List (S53)) (A0_2 : Option Addr) (c0_2 : Nat) (l0_2 : List (S53)) (a0_3 : Int) (A0_4 : Option Addr) (c0_4 : Nat) (l0_4 : List (S71)) (r : Bool) (w : World) (hr0_1 : Kd.C k53 w A0_1 l0_1.length l0_1) (hc0_1 : l0_1.length ≤ c0_1) (hr0_2 : Kd.C k53 w A0_2 l0_2.length l0_2) (hc0_2 : l0_2.length ≤ c0_2) (hr0_4 : Kd.C k71 w A0_4 l0_4.length l0_4) (hc0_4 : l0_4.length ≤ c0_4) (h : spec_GoodWork.f k a0_0 l0_1 l0_2 a0_3 l0_4 = some r) :
  Calls Try.prog 15 #[.agg #[.int .i64 a0_0, .slice A0_1 l0_1.length c0_1, .slice A0_2 l0_2.length c0_2, .int .i64 a0_3, .slice A0_4 l0_4.length c0_4]] w fun e w' => e = .returned (.bool r) ∧ Below w.heap.size w w' := by
 have hu27 := Try.underlying27
 have hu24 := Try.underlying24
 have HR0_1 := Aside0.mk hr0_1
 have HC0_1 := Aside0.mk hc0_1
 clear hr0_1 hc0_1
 have HR0_2 := Aside0.mk hr0_2
 have HC0_2 := Aside0.mk hc0_2
 clear hr0_2 hc0_2
 have HR0_4 := Aside0.mk hr0_4
 have HC0_4 := Aside0.mk hc0_4
 clear hr0_4 hc0_4
 have HB := Aside0.mk (Below.refl w.heap.size w)
 have H : ((spec_GoodFree.f k a0_0 l0_1 l0_2).bind fun t205 => (if t205 = true then ((spec_l12Items.f k a0_0 l0_1 l0_2 l0_4).bind fun bt206 => (if bt206.2 = true then (some (bt206.1 == a0_3)) else (some false))) else (some false))) = some r := h
 clear h
 replace H := Option.bind_eq_some_iff.mp H
 obtain ⟨t205, A20, H⟩ := H
 replace H : (if t205 = true then ((spec_l12Items.f k a0_0 l0_1 l0_2 l0_4).bind fun bt206 => (if bt206.2 = true then (some (bt206.1 == a0_3)) else (some false))) else (some false)) = some r := H
 have A2 := Aside0.mk A20
 clear A20
 by_cases c3 : t205 = true
 ·
  subst c3
  rw [if_pos rfl] at H
  replace H := Option.bind_eq_some_iff.mp H
  obtain ⟨⟨t206, t207⟩, A40, H⟩ := H
  replace H : (if t207 = true then (some (t206 == a0_3)) else (some false)) = some r := H
  have A4 := Aside0.mk A40
  clear A40
  by_cases c5 : t207 = true
  ·
   subst c5
   rw [if_pos rfl] at H
   obtain rfl := Option.some.inj H
   go_enter Try.func15, Try.ntmps15
   go_wp2_with (first | ((with_reducible refine gate_dst (N := 1) rfl ?_); refine box_event ?hg (N := 1) ?hd (cs := #[.int .i64 a0_0, .slice A0_1 l0_1.length c0_1, .slice A0_2 l0_2.length c0_2, .int .i64 a0_3, .slice A0_4 l0_4.length c0_4]) (t := 27) ?hr ?_; (case hd => rfl); (case hg => rfl); (case hr => first | (go_simp; done) | (go_simp; rfl)); intro gb204 hg w6 hbox hb; have BK204 := Aside0.mk (hbox); have GW204 := Aside0.mk ((by rw [hg]; exact (below_size (bs HB)) : w.heap.size ≤ gb204)); have GE204 := Aside0.mk ((by rw [hg]; exact (below_size (bs HB)) : w.heap.size ≤ gb204)); replace HB := Aside0.mk (below_step (bs HB) hb); clear hb hbox hg; obtain ⟨hcz7_0, hcz7_1, hcz7_2, hcz7_3, hcz7_4⟩ := cz5 BK204; obtain ⟨hfz7_0, hfz7_1, hfz7_2, hfz7_3, hfz7_4⟩ := fz5 BK204) | ((with_reducible refine gate_callee (f := 39) rfl ?_); refine gL (some 7) rfl rfl Try.func39 (by kernel_rfl) rfl #[.agg #[.int .i64 a0_0, .slice A0_1 l0_1.length c0_1, .slice A0_2 l0_2.length c0_2]] rfl ?_; (with_reducible refine (spec_GoodFree.calls k a0_0 _ _ l0_1 _ _ l0_2 true _ ?side1 ?side2 ?side3 ?side4 A2.out).mono ?_); (case side1 => exact cb HR0_1 HB); (case side2 => exact HC0_1.out); (case side3 => exact cb HR0_2 HB); (case side4 => exact HC0_2.out); rintro e w8 ⟨rfl, hb⟩; refine ⟨_, rfl, ?_⟩; replace BK204 := nb BK204 hb; replace HB := Aside0.mk (below_step (bs1 HB GE204) hb); (try clear hb); (try clear hb2); (try clear hk); (try clear hi); obtain ⟨hcz9_0, hcz9_1, hcz9_2, hcz9_3, hcz9_4⟩ := cz5 BK204; obtain ⟨hfz9_0, hfz9_1, hfz9_2, hfz9_3, hfz9_4⟩ := fz5 BK204) | ((with_reducible refine gate_callee (f := 40) rfl ?_); refine gL (some 14) rfl rfl Try.func40 (by kernel_rfl) rfl #[.agg #[.int .i64 a0_0, .slice A0_1 l0_1.length c0_1, .slice A0_2 l0_2.length c0_2], .slice A0_4 l0_4.length c0_4] rfl ?_; (with_reducible refine (spec_l12Items.calls k a0_0 _ _ l0_1 _ _ l0_2 _ _ l0_4 t206 true _ ?side1 ?side2 ?side3 ?side4 ?side5 ?side6 A4.out).mono ?_); (case side1 => exact cb HR0_1 HB); (case side2 => exact HC0_1.out); (case side3 => exact cb HR0_2 HB); (case side4 => exact HC0_2.out); (case side5 => exact cb HR0_4 HB); (case side6 => exact HC0_4.out); rintro e w10 ⟨rfl, hb⟩; refine ⟨_, rfl, ?_⟩; replace BK204 := nb BK204 hb; replace HB := Aside0.mk (below_step (bs1 HB GE204) hb); (try clear hb); (try clear hb2); (try clear hk); (try clear hi); obtain ⟨hcz11_0, hcz11_1, hcz11_2, hcz11_3, hcz11_4⟩ := cz5 BK204; obtain ⟨hfz11_0, hfz11_1, hfz11_2, hfz11_3, hfz11_4⟩ := fz5 BK204))
   go_ret
   exact ⟨by first | rfl | (simp [errW_none, errW_some] <;> rfl) | (simp [*, errW_none, errW_some] <;> rfl), bs1 HB GE204⟩
  ·
   replace c5 := Bool.eq_false_iff.mpr c5
   subst c5
   rw [if_neg (show ¬ (false = true) by decide)] at H
   obtain rfl := Option.some.inj H
   go_enter Try.func15, Try.ntmps15
   go_wp2_with (first | ((with_reducible refine gate_dst (N := 1) rfl ?_); refine box_event ?hg (N := 1) ?hd (cs := #[.int .i64 a0_0, .slice A0_1 l0_1.length c0_1, .slice A0_2 l0_2.length c0_2, .int .i64 a0_3, .slice A0_4 l0_4.length c0_4]) (t := 27) ?hr ?_; (case hd => rfl); (case hg => rfl); (case hr => first | (go_simp; done) | (go_simp; rfl)); intro gb204 hg w12 hbox hb; have BK204 := Aside0.mk (hbox); have GW204 := Aside0.mk ((by rw [hg]; exact (below_size (bs HB)) : w.heap.size ≤ gb204)); have GE204 := Aside0.mk ((by rw [hg]; exact (below_size (bs HB)) : w.heap.size ≤ gb204)); replace HB := Aside0.mk (below_step (bs HB) hb); clear hb hbox hg; obtain ⟨hcz13_0, hcz13_1, hcz13_2, hcz13_3, hcz13_4⟩ := cz5 BK204; obtain ⟨hfz13_0, hfz13_1, hfz13_2, hfz13_3, hfz13_4⟩ := fz5 BK204) | ((with_reducible refine gate_callee (f := 39) rfl ?_); refine gL (some 7) rfl rfl Try.func39 (by kernel_rfl) rfl #[.agg #[.int .i64 a0_0, .slice A0_1 l0_1.length c0_1, .slice A0_2 l0_2.length c0_2]] rfl ?_; (with_reducible refine (spec_GoodFree.calls k a0_0 _ _ l0_1 _ _ l0_2 true _ ?side1 ?side2 ?side3 ?side4 A2.out).mono ?_); (case side1 => exact cb HR0_1 HB); (case side2 => exact HC0_1.out); (case side3 => exact cb HR0_2 HB); (case side4 => exact HC0_2.out); rintro e w14 ⟨rfl, hb⟩; refine ⟨_, rfl, ?_⟩; replace BK204 := nb BK204 hb; replace HB := Aside0.mk (below_step (bs1 HB GE204) hb); (try clear hb); (try clear hb2); (try clear hk); (try clear hi); obtain ⟨hcz15_0, hcz15_1, hcz15_2, hcz15_3, hcz15_4⟩ := cz5 BK204; obtain ⟨hfz15_0, hfz15_1, hfz15_2, hfz15_3, hfz15_4⟩ := fz5 BK204) | ((with_reducible refine gate_callee (f := 40) rfl ?_); refine gL (some 14) rfl rfl Try.func40 (by kernel_rfl) rfl #[.agg #[.int .i64 a0_0, .slice A0_1 l0_1.length c0_1, .slice A0_2 l0_2.length c0_2], .slice A0_4 l0_4.length c0_4] rfl ?_; (with_reducible refine (spec_l12Items.calls k a0_0 _ _ l0_1 _ _ l0_2 _ _ l0_4 t206 false _ ?side1 ?side2 ?side3 ?side4 ?side5 ?side6 A4.out).mono ?_); (case side1 => exact cb HR0_1 HB); (case side2 => exact HC0_1.out); (case side3 => exact cb HR0_2 HB); (case side4 => exact HC0_2.out); (case side5 => exact cb HR0_4 HB); (case side6 => exact HC0_4.out); rintro e w16 ⟨rfl, hb⟩; refine ⟨_, rfl, ?_⟩; replace BK204 := nb BK204 hb; replace HB := Aside0.mk (below_step (bs1 HB GE204) hb); (try clear hb); (try clear hb2); (try clear hk); (try clear hi)))
   go_ret
   exact ⟨by first | rfl | (simp [errW_none, errW_some] <;> rfl) | (simp [*, errW_none, errW_some] <;> rfl), bs1 HB GE204⟩
 ·
  replace c3 := Bool.eq_false_iff.mpr c3
  subst c3
  rw [if_neg (show ¬ (false = true) by decide)] at H
  obtain rfl := Option.some.inj H
  go_enter Try.func15, Try.ntmps15
  go_wp2_with (first | ((with_reducible refine gate_dst (N := 1) rfl ?_); refine box_event ?hg (N := 1) ?hd (cs := #[.int .i64 a0_0, .slice A0_1 l0_1.length c0_1, .slice A0_2 l0_2.length c0_2, .int .i64 a0_3, .slice A0_4 l0_4.length c0_4]) (t := 27) ?hr ?_; (case hd => rfl); (case hg => rfl); (case hr => first | (go_simp; done) | (go_simp; rfl)); intro gb204 hg w17 hbox hb; have BK204 := Aside0.mk (hbox); have GW204 := Aside0.mk ((by rw [hg]; exact (below_size (bs HB)) : w.heap.size ≤ gb204)); have GE204 := Aside0.mk ((by rw [hg]; exact (below_size (bs HB)) : w.heap.size ≤ gb204)); replace HB := Aside0.mk (below_step (bs HB) hb); clear hb hbox hg; obtain ⟨hcz18_0, hcz18_1, hcz18_2, hcz18_3, hcz18_4⟩ := cz5 BK204; obtain ⟨hfz18_0, hfz18_1, hfz18_2, hfz18_3, hfz18_4⟩ := fz5 BK204) | ((with_reducible refine gate_callee (f := 39) rfl ?_); refine gL (some 7) rfl rfl Try.func39 (by kernel_rfl) rfl #[.agg #[.int .i64 a0_0, .slice A0_1 l0_1.length c0_1, .slice A0_2 l0_2.length c0_2]] rfl ?_; (with_reducible refine (spec_GoodFree.calls k a0_0 _ _ l0_1 _ _ l0_2 false _ ?side1 ?side2 ?side3 ?side4 A2.out).mono ?_); (case side1 => exact cb HR0_1 HB); (case side2 => exact HC0_1.out); (case side3 => exact cb HR0_2 HB); (case side4 => exact HC0_2.out); rintro e w19 ⟨rfl, hb⟩; refine ⟨_, rfl, ?_⟩; replace BK204 := nb BK204 hb; replace HB := Aside0.mk (below_step (bs1 HB GE204) hb); (try clear hb); (try clear hb2); (try clear hk); (try clear hi)))
  go_ret
  exact ⟨by first | rfl | (simp [errW_none, errW_some] <;> rfl) | (simp [*, errW_none, errW_some] <;> rfl), bs1 HB GE204⟩

/-! ### laws_toExtent: function 26 -/
def laws_toExtent.f (a0_0 : Int) (a0_1 : Int) : Option (Int × Int) := some (a0_0, a0_1)
set_option maxHeartbeats 8000000 in
set_option maxRecDepth 100000 in
theorem laws_toExtent.calls (a0_0 : Int) (a0_1 : Int) (r1 : Int) (r2 : Int) (w : World) (h : laws_toExtent.f a0_0 a0_1 = some (r1, r2)) :
  Calls Try.prog 26 #[.agg #[.int .i64 a0_0, .int .i64 a0_1]] w fun e w' => e = .returned (.agg #[.int .i64 r1, .int .i64 r2]) ∧ Below w.heap.size w w' := by
 have hu50 := Try.underlying50
 have hu53 := Try.underlying53
 have HB := Aside0.mk (Below.refl w.heap.size w)
 have H : (some (a0_0, a0_1)) = some (r1, r2) := h
 clear h
 simp only [Option.some.injEq, Prod.mk.injEq] at H
 obtain ⟨rfl, rfl⟩ := H
 go_enter Try.func26, Try.ntmps26
 go_wp2_with (first | ((with_reducible refine gate_dst (N := 1) rfl ?_); refine box_event ?hg (N := 1) ?hd (cs := #[.int .i64 a0_0, .int .i64 a0_1]) (t := 50) ?hr ?_; (case hd => rfl); (case hg => rfl); (case hr => first | (go_simp; done) | (go_simp; rfl)); intro gb208 hg w2 hbox hb; have BK208 := Aside0.mk (hbox); have GW208 := Aside0.mk ((by rw [hg]; exact (below_size (bs HB)) : w.heap.size ≤ gb208)); have GE208 := Aside0.mk ((by rw [hg]; exact (below_size (bs HB)) : w.heap.size ≤ gb208)); replace HB := Aside0.mk (below_step (bs HB) hb); clear hb hbox hg) | ((with_reducible refine gate_dst (N := 2) rfl ?_); refine box_event ?hg (N := 2) ?hd (cs := #[.int .i64 0, .int .i64 0]) (t := 53) ?hr ?_; (case hd => rfl); (case hg => rfl); (case hr => first | (go_simp; done) | (go_simp; rfl)); intro gb209 hg w3 hbox hb; have BK209 := Aside0.mk (hbox); have GW209 := Aside0.mk ((by rw [hg]; exact (below_size (bs1 HB GE208)) : w.heap.size ≤ gb209)); have GE209 := Aside0.mk ((by rw [hg]; exact (below_size (bs1 HB GE208)) : w.heap.size ≤ gb209)); replace HB := Aside0.mk (below_step (bs1 HB GE208) hb); have NB208_209 := Aside0.mk ((bn BK208 hg : gb208 ≠ gb209)); have NB209_208 := Aside0.mk ((bm BK208 hg : gb209 ≠ gb208)); replace BK208 := nb BK208 hb; clear hb hbox hg) | ((with_reducible refine gate_dst (N := 3) rfl ?_); refine box_event ?hg (N := 3) ?hd (cs := #[.int .i64 0, .int .i64 0]) (t := 53) ?hr ?_; (case hd => rfl); (case hg => rfl); (case hr => first | (go_simp; done) | (go_simp; rfl)); intro gb210 hg w4 hbox hb; have BK210 := Aside0.mk (hbox); have GW210 := Aside0.mk ((by rw [hg]; exact (below_size (bs2 HB GE208 GE209)) : w.heap.size ≤ gb210)); have GE210 := Aside0.mk ((by rw [hg]; exact (below_size (bs2 HB GE208 GE209)) : w.heap.size ≤ gb210)); replace HB := Aside0.mk (below_step (bs2 HB GE208 GE209) hb); have NB208_210 := Aside0.mk ((bn BK208 hg : gb208 ≠ gb210)); have NB210_208 := Aside0.mk ((bm BK208 hg : gb210 ≠ gb208)); replace BK208 := nb BK208 hb; have NB209_210 := Aside0.mk ((bn BK209 hg : gb209 ≠ gb210)); have NB210_209 := Aside0.mk ((bm BK209 hg : gb210 ≠ gb209)); replace BK209 := nb BK209 hb; clear hb hbox hg; have hnb5 := NB208_209.out; have hnc5 := NB209_208.out; have hnb6 := NB208_210.out; have hnc6 := NB210_208.out; obtain ⟨hcz7_0, hcz7_1⟩ := cz2 BK208; obtain ⟨hfz7_0, hfz7_1⟩ := fz2 BK208; have hnb8 := NB210_209.out; have hnc8 := NB209_210.out; obtain ⟨hcz9_0, hcz9_1⟩ := cz2 BK210; obtain ⟨hfz9_0, hfz9_1⟩ := fz2 BK210; obtain ⟨hcz10_0, hcz10_1⟩ := cz2 BK209; obtain ⟨hfz10_0, hfz10_1⟩ := fz2 BK209))
 refine bodyPost_ret (results_cell_row rfl _ _ gb209 53 #[.int .i64 a0_0, .int .i64 a0_1] (0, 0) _ rfl (by (with_reducible repeat (first | refine blk_drewN ?_ _ | refine blk_drew ?_ | refine blk_alloc ?_ _)); refine blk_put (cs := #[.int .i64 a0_0, .int .i64 0]) ?_ 1 _ rfl; (with_reducible repeat (first | refine blk_drewN ?_ _ | refine blk_drew ?_ | refine blk_alloc ?_ _)); refine blk_put (cs := #[.int .i64 0, .int .i64 0]) ?_ 0 _ rfl; (with_reducible repeat (first | refine blk_drewN ?_ _ | refine blk_drew ?_ | refine blk_alloc ?_ _)); refine blk_far ?_ NB209_210.out _; (with_reducible repeat (first | refine blk_drewN ?_ _ | refine blk_drew ?_ | refine blk_alloc ?_ _)); refine blk_far ?_ NB209_210.out _; (with_reducible repeat (first | refine blk_drewN ?_ _ | refine blk_drew ?_ | refine blk_alloc ?_ _)); exact BK209.out) Try.underlying53 rfl (by kernel_rfl)) rfl ?_
 exact ⟨by first | rfl | (simp [errW_none, errW_some] <;> rfl) | (simp [*, errW_none, errW_some] <;> rfl), bs3 HB GE208 GE209 GE210⟩

/-! ### laws_toExtentS: function 62 -/
def laws_toExtentS.l0 : Nat → List (S50) → List (S53) → Int → Option ((List (S53)))
 | 0, _, _, _ => none
 | k + 1, x0, x3, x4 => if x4 < (x0.length : Int) then (if 0 ≤ x4 then ((laws_toExtent.f ((rd_T50 x0 x4).f0) ((rd_T50 x0 x4).f1)).bind fun bt215 => (if x4 < (x3.length : Int) then (laws_toExtentS.l0 k x0 (x3.set (x4 : Int).toNat (⟨bt215.1, bt215.2⟩ : S53)) (wrap64 (x4 + 1))) else (none))) else (none)) else (some x3)
def laws_toExtentS.f (k : Nat) (l0 : List (S50)) : Option ((List (S53))) := if 0 ≤ (l0.length : Int) then (if ((l0.length : Int) : Int).toNat ≤ 17592186044416 then (laws_toExtentS.l0 k l0 (List.replicate ((l0.length : Int) : Int).toNat z53) 0) else (none)) else (none)
theorem laws_toExtentS.mono_l : ∀ k, (∀ y0 y1 y2, LeO (laws_toExtentS.l0 k y0 y1 y2) (laws_toExtentS.l0 (k + 1) y0 y1 y2))
 | 0 => fun _ _ _ r h => by simp [laws_toExtentS.l0] at h
 | k + 1 => by
  have ih0 := laws_toExtentS.mono_l k
  ·
   intro y0 y1 y2
   unfold laws_toExtentS.l0
   repeat' first
   | (with_reducible exact ih0 _ _ _)
   | (with_reducible exact LeO.refl _)
   | (with_reducible exact LeO.none _)
   | (with_reducible refine LeO.ite ?_ ?_)
   | (with_reducible refine LeO.bind ?_ (fun _ => ?_))
   | exact ih0 _ _ _
   | exact LeO.none _
   | refine LeO.ite ?_ ?_
   | refine LeO.bind ?_ (fun _ => ?_)
theorem laws_toExtentS.mono : ∀ a0 k, LeO (laws_toExtentS.f k a0) (laws_toExtentS.f (k + 1) a0) := by
 intro a0 k
 have ih0 := laws_toExtentS.mono_l k
 unfold laws_toExtentS.f
 repeat' first
   | (with_reducible exact ih0 _ _ _)
   | (with_reducible exact LeO.refl _)
   | (with_reducible exact LeO.none _)
   | (with_reducible refine LeO.ite ?_ ?_)
   | (with_reducible refine LeO.bind ?_ (fun _ => ?_))
   | exact ih0 _ _ _
   | exact LeO.none _
   | refine LeO.ite ?_ ?_
   | refine LeO.bind ?_ (fun _ => ?_)
set_option maxHeartbeats 8000000 in
set_option maxRecDepth 100000 in
theorem laws_toExtentS.calls (k : Nat) (A0 : Option Addr) (c0 : Nat) (l0 : List (S50)) (r : List (S53)) (w : World) (hr0 : Kd.C k50 w A0 l0.length l0) (hc0 : l0.length ≤ c0) (h : laws_toExtentS.f k l0 = some r) :
  Calls Try.prog 62 #[.slice A0 l0.length c0] w fun e w' => ∃ v0_ : Value, e = .returned (v0_) ∧ Kd.R k53 53 w' w.heap.size (fun _ => True) v0_ r ∧ Below w.heap.size w w' := by
 have hu50 := Try.underlying50
 have hu53 := Try.underlying53
 have HR0 := Aside0.mk hr0
 have HC0 := Aside0.mk hc0
 clear hr0 hc0
 have HB := Aside0.mk (Below.refl w.heap.size w)
 have H : (if 0 ≤ (l0.length : Int) then (if ((l0.length : Int) : Int).toNat ≤ 17592186044416 then (laws_toExtentS.l0 k l0 (List.replicate ((l0.length : Int) : Int).toNat z53) 0) else (none)) else (none)) = some r := h
 clear h
 by_cases c2 : 0 ≤ (l0.length : Int)
 ·
  rw [if_pos c2] at H
  have c2b0 := eq_true c2
  have c2b1 : decide (0 ≤ (l0.length : Int)) = true := decide_eq_true c2
  clear c2
  by_cases c3 : ((l0.length : Int) : Int).toNat ≤ 17592186044416
  ·
   rw [if_pos c3] at H
   have c3b0 := eq_true c3
   have c3b1 : decide (((l0.length : Int) : Int).toNat ≤ 17592186044416) = true := decide_eq_true c3
   clear c3
   obtain ⟨y211, hy211⟩ : ∃ y_ : List (S53), y_ = (List.replicate ((l0.length : Int) : Int).toNat z53) := ⟨_, rfl⟩
   replace H : (laws_toExtentS.l0 k l0 y211 0) = some r := by first | (rw [hy211]; with_reducible exact H) | (have H2_ := (Option.bind_some _ _).symm.trans H; rw [hy211]; with_reducible exact H2_) | (have H2_ := (Option.bind_some _ _).symm.trans H; with_reducible exact H2_) | with_reducible exact H | (rw [hy211]; exact H) | exact H
   have Ny211 := Aside0.mk hy211
   clear hy211
   have H' := Aside0.mk H
   clear H
   go_enter Try.func62, Try.ntmps62
   go_wp2_with (first | ((with_reducible refine gate_dst (N := 7) rfl ?_); refine Kd.R_make k53 _ 53 rfl (N := 7) rfl 22 _ _ rfl (l0.length : Int) rfl rfl Try.underlying22 (.agg #[(.int .i64 0), (.int .i64 0)]) 16 info53 rfl (by decide) (by omega) z53 (ok := fun _ => True) (okp := fun _ => True) (k53_mkM _ _ _ z53 ) (fun _ hk => hk) trivial (of_decide_eq_true (by first | (with_reducible assumption) | assumption)) (Nat.le_trans (Nat.mul_le_mul_right _ (of_decide_eq_true (by first | (with_reducible assumption) | assumption) : (l0.length : Int).toNat ≤ 17592186044416)) (by omega)) (Below.refl _ _) (Nat.le_refl _) ?_; intro v212 w4 ho5 hb hg_ hnew_; clear hg_ hnew_; (first | rw [← Ny211.out] at ho5 | (simp only [Int.reduceToNat] at ho5; rw [← Ny211.out] at ho5)); have HO213 := Aside0.mk (Kd.R_lower ho5 (below_size (bs HB))); replace HB := Aside0.mk (below_step (bs HB) hb); clear hb ho5))
   go_loopg [4] k (fun kq v4 w' => ∃ (x3_1 : List (S53)) (x4_1 : Int), v4 = .int .i64 x4_1 ∧ Aside0 (laws_toExtentS.l0 kq l0 x3_1 x4_1 = some r) ∧ Aside0 (kq ≤ k) ∧ Aside0 (Kd.R k53 53 w' w.heap.size (fun _ => True) v212 x3_1) ∧ Aside0 (Below w.heap.size w w'))
   case atStart => exact ⟨(y211), (0), (by first | rfl | (simp; done) | (simp [*]; done)), H', ⟨Nat.le_refl _⟩, ⟨rr HO213.out⟩, ⟨bs HB⟩⟩
   case round =>
    clear H'
    try clear c2
    try clear c2b0
    try clear c2b1
    try clear p2
    try clear c3
    try clear c3b0
    try clear c3b1
    obtain ⟨x3_1, x4_1, rfl, HA, HK1, HO_3, HB⟩ := hrel
    cases gk with
    | zero => exact absurd HA.out (by simp [laws_toExtentS.l0])
    | succ k1 =>
     have H := HA.out
     clear HA
     simp only [laws_toExtentS.l0] at H
     by_cases c6 : x4_1 < (l0.length : Int)
     ·
      rw [if_pos c6] at H
      have c6b0 : decide (x4_1 < (l0.length : Int)) = true := decide_eq_true c6
      clear c6
      by_cases c7 : 0 ≤ x4_1
      ·
       rw [if_pos c7] at H
       have c7b0 : decide (0 ≤ x4_1) = true := decide_eq_true c7
       clear c7
       replace H := Option.bind_eq_some_iff.mp H
       obtain ⟨⟨t215, t216⟩, A80, H⟩ := H
       replace H : (if x4_1 < (x3_1.length : Int) then (laws_toExtentS.l0 k1 l0 (x3_1.set (x4_1 : Int).toNat (⟨t215, t216⟩ : S53)) (wrap64 (x4_1 + 1))) else (none)) = some r := H
       have A8 := Aside0.mk A80
       clear A80
       by_cases c9 : x4_1 < (x3_1.length : Int)
       ·
        rw [if_pos c9] at H
        have c9b0 : decide (x4_1 < (x3_1.length : Int)) = true := decide_eq_true c9
        clear c9
        obtain ⟨y217, hy217⟩ : ∃ y_ : List (S53), y_ = (x3_1.set (x4_1 : Int).toNat (⟨t215, t216⟩ : S53)) := ⟨_, rfl⟩
        replace H : (laws_toExtentS.l0 k1 l0 y217 (wrap64 (x4_1 + 1))) = some r := by first | (rw [hy217]; with_reducible exact H) | (have H2_ := (Option.bind_some _ _).symm.trans H; rw [hy217]; with_reducible exact H2_) | (have H2_ := (Option.bind_some _ _).symm.trans H; with_reducible exact H2_) | with_reducible exact H | (rw [hy217]; exact H) | exact H
        have Ny217 := Aside0.mk hy217
        clear hy217
        have H' := Aside0.mk H
        clear H
        have p214 : 0 ≤ (x4_1 : Int) := of_decide_eq_true (by first | (with_reducible assumption) | assumption)
        have q214 : x4_1 < (l0.length : Int) := of_decide_eq_true (by first | (with_reducible assumption) | assumption)
        obtain ⟨ad214, e214, hx214_0, hx214_1⟩ := at_T50 HR0.out x4_1 p214 q214
        cases e214
        replace hx214_0 := (HB.out.cell (World.block_lt_of_cell? w _ hx214_0)).trans hx214_0
        replace hx214_1 := (HB.out.cell (World.block_lt_of_cell? w _ hx214_1)).trans hx214_1
        replace p214 := eq_true p214
        replace q214 := eq_true q214
        go_wp2_with (first | ((with_reducible refine gate_callee (f := 26) rfl ?_); refine gL (some 20) rfl rfl Try.func26 (by kernel_rfl) rfl #[.agg #[.int .i64 ((rd_T50 l0 x4_1).f0), .int .i64 ((rd_T50 l0 x4_1).f1)]] rfl ?_; (with_reducible refine (laws_toExtent.calls ((rd_T50 l0 x4_1).f0) ((rd_T50 l0 x4_1).f1) t215 t216 _ A8.out).mono ?_); rintro e w11 ⟨rfl, hb⟩; refine ⟨_, rfl, ?_⟩; replace HO_3 := nr HO_3 hb; replace HB := Aside0.mk (below_step (bs HB) hb); (try clear hb); (try clear hb2); (try clear hk); (try clear hi); have p10 : 0 ≤ (x4_1 : Int) := of_decide_eq_true (by first | (with_reducible assumption) | assumption); have q10 : (x4_1 : Int) < ((x3_1.length : Int) : Int) := of_decide_eq_true (by first | (with_reducible assumption) | assumption); obtain ⟨go10, co10, eo10, gb10, gl10, cl10, HG10⟩ := Kd.R_form HO_3.out (by omega); (first | cases eo10 | (injection eo10 with ea_ en_ ec_; (first | subst ea_ | (injection ea_ with ea_; subst ea_)); subst ec_; clear en_)); have GB10 := Aside0.mk gb10; have GG10 := Aside0.mk HG10; clear gb10 gl10 HG10; obtain ⟨ce10, hcl10, hM10, hcc10, hfr10⟩ := Kd.R_elem HO_3.out z53 (x4_1 : Int) p10 q10; obtain rfl := k53_openM hM10; have hx10_0 : w11.cell? ⟨go10, (x4_1 : Int).toNat * 2, none⟩ = some (.int .i64 ((rd_T53 x3_1 x4_1).f0)) := hcc10 0 _ rfl; have hx10_1 : w11.cell? ⟨go10, (x4_1 : Int).toNat * 2 + 1, none⟩ = some (.int .i64 ((rd_T53 x3_1 x4_1).f1)) := hcc10 1 _ rfl; have hf10_0 : w11.frozen? ⟨go10, (x4_1 : Int).toNat * 2, none⟩ = false := hfr10 0; have hf10_1 : w11.frozen? ⟨go10, (x4_1 : Int).toNat * 2 + 1, none⟩ = false := hfr10 1; clear hcl10 hcc10 hfr10 hM10; replace p10 := eq_true p10; replace q10 := eq_true q10; have HX12 := Aside0.mk (show Kd.R k53 53 w11 w.heap.size (fun _ => True) (.slice (some ⟨go10, 0, none⟩) x3_1.length co10) x3_1 from (rr HO_3.out)); obtain ⟨ce12, hcl12, hM12, hcc12, hfr12⟩ := Kd.R_elem HX12.out z53 (x4_1 : Int) (of_decide_eq_true (by first | (with_reducible assumption) | assumption)) (by have h_ : (x4_1 : Int) < ((x3_1.length : Int) : Int) := of_decide_eq_true (by first | (with_reducible assumption) | assumption); first | exact h_ | (have e_ := (Kd.R_reads' HO_3.out).1; omega) | simpa using h_); obtain rfl := k53_openM hM12; have HP12 := Kd.R_seg HX12.out (x4_1 : Int) (of_decide_eq_true (by first | (with_reducible assumption) | assumption)) (by have h_ : (x4_1 : Int) < ((x3_1.length : Int) : Int) := of_decide_eq_true (by first | (with_reducible assumption) | assumption); first | exact h_ | (have e_ := (Kd.R_reads' HO_3.out).1; omega) | simpa using h_) (seg := [.int .i64 t215, .int .i64 t216]) (j := 0) hcl12 hcc12 (show 2 ≤ 2 from by decide) (x' := (⟨t215, t216⟩ : S53)) (k53_mkM _ _ _ (⟨t215, t216⟩ : S53) ) (fun _ hk => hk); have hx12_0 := hcc12 0 _ rfl; (try simp only [show (k53).sz = 2 from rfl, Nat.mul_one, Nat.add_zero] at hx12_0); have hf12_0 := hfr12 0; (try simp only [show (k53).sz = 2 from rfl, Nat.mul_one, Nat.add_zero] at hf12_0); have hx12_1 := hcc12 1 _ rfl; (try simp only [show (k53).sz = 2 from rfl, Nat.mul_one, Nat.add_zero] at hx12_1); have hf12_1 := hfr12 1; (try simp only [show (k53).sz = 2 from rfl, Nat.mul_one, Nat.add_zero] at hf12_1); clear hcl12 hcc12 hfr12 hM12) | ((with_reducible refine gate_store (t := 53) (p := 21) rfl ?_); refine store_event (t := 53) (p := 21) (v := ?vo_w13) (w1 := ((w11.setCell ⟨go10, (x4_1 : Int).toNat * 2, none⟩ (.int .i64 t215)).setCell ⟨go10, (x4_1 : Int).toNat * 2 + 1, none⟩ (.int .i64 t216))) ?hg ?ho ?hn ?hr ?_; (case ho => rfl); (case hg => rfl); (case hn => rfl); (case hr => first | (go_simp; done) | (go_simp; rfl)); intro w13 hw; have hg : w11.grownBy w13 (some go10) := (by rw [hw]; exact HP12.2); have hp_ : Kd.R k53 53 w13 w.heap.size (fun _ => True) (.slice (some ⟨go10, 0, none⟩) x3_1.length co10) y217 := (by rw [hw, Ny217.out]; exact HP12.1); clear HP12; replace HO_3 := Aside0.mk (hp_); replace HB := Aside0.mk ((by rw [hw]; exact below_set (below_set (HB.out) GB10.out) GB10.out : Below w.heap.size w w13)); clear hg hw hp_))
        go_roundg k1
        case measure => have := HK1.out; omega
        case rel => exact ⟨(y217), (wrap64 (x4_1 + 1)), (by first | rfl | (simp; done) | (simp [*]; done)), H', ⟨by have := HK1.out; omega⟩, ⟨rr HO_3.out⟩, ⟨bs HB⟩⟩
       ·
        rw [if_neg c9] at H
        exact absurd H (by simp)
      ·
       rw [if_neg c7] at H
       exact absurd H (by simp)
     ·
      rw [if_neg c6] at H
      have c6b0 : decide (x4_1 < (l0.length : Int)) = false := decide_eq_false c6
      clear c6
      obtain rfl := Option.some.inj H
      go_wp2
      go_ret
      exact ⟨_, by first | rfl | (simp [errW_none, errW_some] <;> rfl) | (simp [*, errW_none, errW_some] <;> rfl), by (with_reducible repeat (first | apply Kd.R_alloc | apply Kd.R_drewN | apply Kd.R_drew)); exact HO_3.out, bs HB⟩
  ·
   rw [if_neg c3] at H
   exact absurd H (by simp)
 ·
  rw [if_neg c2] at H
  exact absurd H (by simp)

/-! ### laws_toFree: function 41 -/
def laws_toFree.f (k : Nat) (a0_0 : Int) (l0_1 : List (S50)) (l0_2 : List (S50)) : Option (Int × (List (S53)) × (List (S53))) := (laws_toExtentS.f k l0_1).bind fun t221 => ((laws_toExtentS.f k l0_2).bind fun t224 => (some (a0_0, t221, t224)))
theorem laws_toFree.mono : ∀ a0 a1 a2 k, LeO (laws_toFree.f k a0 a1 a2) (laws_toFree.f (k + 1) a0 a1 a2) := by
 intro a0 a1 a2 k
 unfold laws_toFree.f
 repeat' first
   | (with_reducible exact laws_toExtentS.mono _ _)
   | (with_reducible exact LeO.refl _)
   | (with_reducible exact LeO.none _)
   | (with_reducible refine LeO.ite ?_ ?_)
   | (with_reducible refine LeO.bind ?_ (fun _ => ?_))
   | exact laws_toExtentS.mono _ _
   | exact LeO.none _
   | refine LeO.ite ?_ ?_
   | refine LeO.bind ?_ (fun _ => ?_)
set_option maxHeartbeats 8000000 in
set_option maxRecDepth 100000 in
theorem laws_toFree.calls (k : Nat) (a0_0 : Int) (A0_1 : Option Addr) (c0_1 : Nat) (l0_1 : List (S50)) (A0_2 : Option Addr) (c0_2 : Nat) (l0_2 : List (S50)) (r1 : Int) (r2 : List (S53)) (r3 : List (S53)) (w : World) (hr0_1 : Kd.C k50 w A0_1 l0_1.length l0_1) (hc0_1 : l0_1.length ≤ c0_1) (hr0_2 : Kd.C k50 w A0_2 l0_2.length l0_2) (hc0_2 : l0_2.length ≤ c0_2) (h : laws_toFree.f k a0_0 l0_1 l0_2 = some (r1, r2, r3)) :
  Calls Try.prog 41 #[.agg #[.int .i64 a0_0, .slice A0_1 l0_1.length c0_1, .slice A0_2 l0_2.length c0_2]] w fun e w' => ∃ v1_ v2_ : Value, e = .returned (.agg #[.int .i64 r1, v1_, v2_]) ∧ Kd.R k53 53 w' w.heap.size (fun k_ => some k_ ≠ (v2_ : Value).ownBlock) v1_ r2 ∧ Kd.R k53 53 w' w.heap.size (fun k_ => some k_ ≠ (v1_ : Value).ownBlock) v2_ r3 ∧ Below w.heap.size w w' := by
 have hu35 := Try.underlying35
 have hu24 := Try.underlying24
 have HR0_1 := Aside0.mk hr0_1
 have HC0_1 := Aside0.mk hc0_1
 clear hr0_1 hc0_1
 have HR0_2 := Aside0.mk hr0_2
 have HC0_2 := Aside0.mk hc0_2
 clear hr0_2 hc0_2
 have HB := Aside0.mk (Below.refl w.heap.size w)
 have H : ((laws_toExtentS.f k l0_1).bind fun t221 => ((laws_toExtentS.f k l0_2).bind fun t224 => (some (a0_0, t221, t224)))) = some (r1, r2, r3) := h
 clear h
 replace H := Option.bind_eq_some_iff.mp H
 obtain ⟨t221, A20, H⟩ := H
 replace H : ((laws_toExtentS.f k l0_2).bind fun t224 => (some (a0_0, t221, t224))) = some (r1, r2, r3) := H
 have A2 := Aside0.mk A20
 clear A20
 replace H := Option.bind_eq_some_iff.mp H
 obtain ⟨t224, A30, H⟩ := H
 replace H : (some (a0_0, t221, t224)) = some (r1, r2, r3) := H
 have A3 := Aside0.mk A30
 clear A30
 simp only [Option.some.injEq, Prod.mk.injEq] at H
 obtain ⟨rfl, rfl, rfl⟩ := H
 go_enter Try.func41, Try.ntmps41
 go_wp2_with (first | ((with_reducible refine gate_dst (N := 1) rfl ?_); refine box_event ?hg (N := 1) ?hd (cs := #[.int .i64 a0_0, .slice A0_1 l0_1.length c0_1, .slice A0_2 l0_2.length c0_2]) (t := 35) ?hr ?_; (case hd => rfl); (case hg => rfl); (case hr => first | (go_simp; done) | (go_simp; rfl)); intro gb218 hg w4 hbox hb; have BK218 := Aside0.mk (hbox); have GW218 := Aside0.mk ((by rw [hg]; exact (below_size (bs HB)) : w.heap.size ≤ gb218)); have GE218 := Aside0.mk ((by rw [hg]; exact (below_size (bs HB)) : w.heap.size ≤ gb218)); replace HB := Aside0.mk (below_step (bs HB) hb); clear hb hbox hg) | ((with_reducible refine gate_dst (N := 2) rfl ?_); refine box_event ?hg (N := 2) ?hd (cs := #[.int .i64 0, .slice none 0 0, .slice none 0 0]) (t := 24) ?hr ?_; (case hd => rfl); (case hg => rfl); (case hr => first | (go_simp; done) | (go_simp; rfl)); intro gb219 hg w5 hbox hb; have BK219 := Aside0.mk (hbox); have GW219 := Aside0.mk ((by rw [hg]; exact (below_size (bs1 HB GE218)) : w.heap.size ≤ gb219)); have GE219 := Aside0.mk ((by rw [hg]; exact (below_size (bs1 HB GE218)) : w.heap.size ≤ gb219)); replace HB := Aside0.mk (below_step (bs1 HB GE218) hb); have NB218_219 := Aside0.mk ((bn BK218 hg : gb218 ≠ gb219)); have NB219_218 := Aside0.mk ((bm BK218 hg : gb219 ≠ gb218)); replace BK218 := nb BK218 hb; clear hb hbox hg) | ((with_reducible refine gate_dst (N := 3) rfl ?_); refine box_event ?hg (N := 3) ?hd (cs := #[.int .i64 0, .slice none 0 0, .slice none 0 0]) (t := 24) ?hr ?_; (case hd => rfl); (case hg => rfl); (case hr => first | (go_simp; done) | (go_simp; rfl)); intro gb220 hg w6 hbox hb; have BK220 := Aside0.mk (hbox); have GW220 := Aside0.mk ((by rw [hg]; exact (below_size (bs2 HB GE218 GE219)) : w.heap.size ≤ gb220)); have GE220 := Aside0.mk ((by rw [hg]; exact (below_size (bs2 HB GE218 GE219)) : w.heap.size ≤ gb220)); replace HB := Aside0.mk (below_step (bs2 HB GE218 GE219) hb); have NB218_220 := Aside0.mk ((bn BK218 hg : gb218 ≠ gb220)); have NB220_218 := Aside0.mk ((bm BK218 hg : gb220 ≠ gb218)); replace BK218 := nb BK218 hb; have NB219_220 := Aside0.mk ((bn BK219 hg : gb219 ≠ gb220)); have NB220_219 := Aside0.mk ((bm BK219 hg : gb220 ≠ gb219)); replace BK219 := nb BK219 hb; clear hb hbox hg; have hnb7 := NB218_219.out; have hnc7 := NB219_218.out; have hnb8 := NB218_220.out; have hnc8 := NB220_218.out; obtain ⟨hcz9_0, hcz9_1, hcz9_2⟩ := cz3 BK218; obtain ⟨hfz9_0, hfz9_1, hfz9_2⟩ := fz3 BK218; have hnb10 := NB220_219.out; have hnc10 := NB219_220.out; obtain ⟨hcz11_0, hcz11_1, hcz11_2⟩ := cz3 BK220; obtain ⟨hfz11_0, hfz11_1, hfz11_2⟩ := fz3 BK220) | ((with_reducible refine gate_callee (f := 62) rfl ?_); refine gL (some 9) rfl rfl Try.func62 (by kernel_rfl) rfl #[.slice A0_1 l0_1.length c0_1] rfl ?_; (with_reducible refine (laws_toExtentS.calls k _ _ l0_1 t221 _ ?side1 ?side2 A2.out).mono ?_); (case side1 => exact Kd.C_below HR0_1.out (bs3 HB GE218 GE219 GE220)); (case side2 => exact HC0_1.out); rintro e w12 ⟨v222, rfl, ho0, hb⟩; refine ⟨_, rfl, ?_⟩; have HO223 := Aside0.mk (Kd.R_lower ho0 (below_size (bs3 HB GE218 GE219 GE220))); replace BK218 := Aside0.mk (blk_below (bf BK218 NB218_220) hb); replace BK219 := Aside0.mk (blk_below (bf BK219 NB219_220) hb); replace BK220 := Aside0.mk (blk_below (g := gb220) (o := .cells #[.int .i64 a0_0, .slice none 0 0, .slice none 0 0] 24 (0, 0)) (by (with_reducible repeat (first | refine blk_drewN ?_ _ | refine blk_drew ?_ | refine blk_alloc ?_ _)); refine blk_put (cs := #[.int .i64 0, .slice none 0 0, .slice none 0 0]) ?_ 0 _ rfl; (with_reducible repeat (first | refine blk_drewN ?_ _ | refine blk_drew ?_ | refine blk_alloc ?_ _)); exact BK220.out) hb); replace HB := Aside0.mk (below_step (bs3 HB GE218 GE219 GE220) hb); (try clear hb); (try clear hb2); (try clear hk); (try clear hi); (try clear ho0); obtain ⟨Ao13, co13, eo13⟩ := Kd.R_slice HO223.out; subst eo13; obtain ⟨hcz14_0, hcz14_1, hcz14_2⟩ := cz3 BK220; obtain ⟨hfz14_0, hfz14_1, hfz14_2⟩ := fz3 BK220; obtain ⟨hcz15_0, hcz15_1, hcz15_2⟩ := cz3 BK218; obtain ⟨hfz15_0, hfz15_1, hfz15_2⟩ := fz3 BK218) | ((with_reducible refine gate_callee (f := 62) rfl ?_); refine gL (some 13) rfl rfl Try.func62 (by kernel_rfl) rfl #[.slice A0_2 l0_2.length c0_2] rfl ?_; (with_reducible refine (laws_toExtentS.calls k _ _ l0_2 t224 _ ?side1 ?side2 A3.out).mono ?_); (case side1 => exact Kd.C_below HR0_2.out (bs3 HB GE218 GE219 GE220)); (case side2 => exact HC0_2.out); rintro e w16 ⟨v225, rfl, ho0, hb⟩; refine ⟨_, rfl, ?_⟩; have HO226 := Aside0.mk (Kd.R_lower (Kd.R_new' ho0 (Kd.R_lt (rf HO223 BK220))) (below_size (bs3 HB GE218 GE219 GE220))); replace HO223 := Aside0.mk (Kd.R_elder' (rf HO223 BK220) (Kd.R_base ho0) hb); replace BK218 := Aside0.mk (blk_below (bf BK218 NB218_220) hb); replace BK219 := Aside0.mk (blk_below (bf BK219 NB219_220) hb); replace BK220 := Aside0.mk (blk_below (g := gb220) (o := .cells #[.int .i64 a0_0, .slice Ao13 t221.length co13, .slice none 0 0] 24 (0, 0)) (by (with_reducible repeat (first | refine blk_drewN ?_ _ | refine blk_drew ?_ | refine blk_alloc ?_ _)); refine blk_put (cs := #[.int .i64 a0_0, .slice none 0 0, .slice none 0 0]) ?_ 1 _ rfl; (with_reducible repeat (first | refine blk_drewN ?_ _ | refine blk_drew ?_ | refine blk_alloc ?_ _)); exact BK220.out) hb); replace HB := Aside0.mk (below_step (bs3 HB GE218 GE219 GE220) hb); (try clear hb); (try clear hb2); (try clear hk); (try clear hi); (try clear ho0); obtain ⟨Ao17, co17, eo17⟩ := Kd.R_slice HO226.out; subst eo17; obtain ⟨hcz18_0, hcz18_1, hcz18_2⟩ := cz3 BK220; obtain ⟨hfz18_0, hfz18_1, hfz18_2⟩ := fz3 BK220; obtain ⟨hcz19_0, hcz19_1, hcz19_2⟩ := cz3 BK219; obtain ⟨hfz19_0, hfz19_1, hfz19_2⟩ := fz3 BK219))
 refine bodyPost_ret (results_cell_row rfl _ _ gb219 24 #[.int .i64 a0_0, .slice Ao13 t221.length co13, .slice Ao17 t224.length co17] (0, 0) _ rfl (by (with_reducible repeat (first | refine blk_drewN ?_ _ | refine blk_drew ?_ | refine blk_alloc ?_ _)); refine blk_put (cs := #[.int .i64 a0_0, .slice Ao13 t221.length co13, .slice none 0 0]) ?_ 2 _ rfl; (with_reducible repeat (first | refine blk_drewN ?_ _ | refine blk_drew ?_ | refine blk_alloc ?_ _)); refine blk_put (cs := #[.int .i64 a0_0, .slice none 0 0, .slice none 0 0]) ?_ 1 _ rfl; (with_reducible repeat (first | refine blk_drewN ?_ _ | refine blk_drew ?_ | refine blk_alloc ?_ _)); refine blk_put (cs := #[.int .i64 0, .slice none 0 0, .slice none 0 0]) ?_ 0 _ rfl; (with_reducible repeat (first | refine blk_drewN ?_ _ | refine blk_drew ?_ | refine blk_alloc ?_ _)); refine blk_far ?_ NB219_220.out _; (with_reducible repeat (first | refine blk_drewN ?_ _ | refine blk_drew ?_ | refine blk_alloc ?_ _)); exact BK219.out) Try.underlying24 rfl (by kernel_rfl)) rfl ?_
 exact ⟨_, _, by first | rfl | (simp [errW_none, errW_some] <;> rfl) | (simp [*, errW_none, errW_some] <;> rfl), by (with_reducible repeat (first | apply Kd.R_alloc | apply Kd.R_drewN | apply Kd.R_drew)); exact Kd.R_mono (Kd.R_far (p := ⟨gb219, 2, none⟩) (Kd.R_far (p := ⟨gb219, 1, none⟩) (Kd.R_far (p := ⟨gb219, 0, none⟩) (Kd.R_far (p := ⟨gb220, 2, none⟩) (Kd.R_types (Kd.R_types HO223.out BK220.out (by decide)) BK219.out (by decide)) (fun _ hk => hk.1.2) (.slice Ao17 t224.length co17)) (fun _ hk => hk.2) (.int .i64 a0_0)) (fun _ hk => hk.2) (.slice Ao13 t221.length co13)) (fun _ hk => hk.2) (.slice Ao17 t224.length co17)) (fun _ hk => hk.1.1.2), by (with_reducible repeat (first | apply Kd.R_alloc | apply Kd.R_drewN | apply Kd.R_drew)); exact Kd.R_mono (Kd.R_far (p := ⟨gb219, 2, none⟩) (Kd.R_far (p := ⟨gb219, 1, none⟩) (Kd.R_far (p := ⟨gb219, 0, none⟩) (Kd.R_far (p := ⟨gb220, 2, none⟩) (Kd.R_types (Kd.R_types HO226.out BK220.out (by decide)) BK219.out (by decide)) (fun _ hk => hk.1.2) (.slice Ao17 t224.length co17)) (fun _ hk => hk.2) (.int .i64 a0_0)) (fun _ hk => hk.2) (.slice Ao13 t221.length co13)) (fun _ hk => hk.2) (.slice Ao17 t224.length co17)) (fun _ hk => hk.1.1.2), bs3 HB GE218 GE219 GE220⟩

/-! ### laws_toItem: function 63 -/
def laws_toItem.f (a0_0 : Int) (a0_1 : Int) (a0_2 : Int) (a0_3 : Int) (a0_4 : Int) : Option (Int × Int × Int × Int × Int) := (laws_toExtent.f a0_2 a0_3).bind fun bt230 => (some (a0_0, a0_1, bt230.1, bt230.2, a0_4))
set_option maxHeartbeats 8000000 in
set_option maxRecDepth 100000 in
theorem laws_toItem.calls (a0_0 : Int) (a0_1 : Int) (a0_2 : Int) (a0_3 : Int) (a0_4 : Int) (r1 : Int) (r2 : Int) (r3 : Int) (r4 : Int) (r5 : Int) (w : World) (h : laws_toItem.f a0_0 a0_1 a0_2 a0_3 a0_4 = some (r1, r2, r3, r4, r5)) :
  Calls Try.prog 63 #[.agg #[.int .i64 a0_0, .int .i64 a0_1, .int .i64 a0_2, .int .i64 a0_3, .int .i64 a0_4]] w fun e w' => e = .returned (.agg #[.int .i64 r1, .int .i64 r2, .int .i64 r3, .int .i64 r4, .int .i64 r5]) ∧ Below w.heap.size w w' := by
 have hu88 := Try.underlying88
 have hu71 := Try.underlying71
 have hu50 := Try.underlying50
 have hu53 := Try.underlying53
 have HB := Aside0.mk (Below.refl w.heap.size w)
 have H : ((laws_toExtent.f a0_2 a0_3).bind fun bt230 => (some (a0_0, a0_1, bt230.1, bt230.2, a0_4))) = some (r1, r2, r3, r4, r5) := h
 clear h
 replace H := Option.bind_eq_some_iff.mp H
 obtain ⟨⟨t230, t231⟩, A20, H⟩ := H
 replace H : (some (a0_0, a0_1, t230, t231, a0_4)) = some (r1, r2, r3, r4, r5) := H
 have A2 := Aside0.mk A20
 clear A20
 simp only [Option.some.injEq, Prod.mk.injEq] at H
 obtain ⟨rfl, rfl, rfl, rfl, rfl⟩ := H
 go_enter Try.func63, Try.ntmps63
 go_wp2_with (first | ((with_reducible refine gate_dst (N := 1) rfl ?_); refine box_event ?hg (N := 1) ?hd (cs := #[.int .i64 a0_0, .int .i64 a0_1, .int .i64 a0_2, .int .i64 a0_3, .int .i64 a0_4]) (t := 88) ?hr ?_; (case hd => rfl); (case hg => rfl); (case hr => first | (go_simp; done) | (go_simp; rfl)); intro gb227 hg w3 hbox hb; have BK227 := Aside0.mk (hbox); have GW227 := Aside0.mk ((by rw [hg]; exact (below_size (bs HB)) : w.heap.size ≤ gb227)); have GE227 := Aside0.mk ((by rw [hg]; exact (below_size (bs HB)) : w.heap.size ≤ gb227)); replace HB := Aside0.mk (below_step (bs HB) hb); clear hb hbox hg) | ((with_reducible refine gate_dst (N := 2) rfl ?_); refine box_event ?hg (N := 2) ?hd (cs := #[.int .i64 0, .int .i64 0, .int .i64 0, .int .i64 0, .int .i64 0]) (t := 71) ?hr ?_; (case hd => rfl); (case hg => rfl); (case hr => first | (go_simp; done) | (go_simp; rfl)); intro gb228 hg w4 hbox hb; have BK228 := Aside0.mk (hbox); have GW228 := Aside0.mk ((by rw [hg]; exact (below_size (bs1 HB GE227)) : w.heap.size ≤ gb228)); have GE228 := Aside0.mk ((by rw [hg]; exact (below_size (bs1 HB GE227)) : w.heap.size ≤ gb228)); replace HB := Aside0.mk (below_step (bs1 HB GE227) hb); have NB227_228 := Aside0.mk ((bn BK227 hg : gb227 ≠ gb228)); have NB228_227 := Aside0.mk ((bm BK227 hg : gb228 ≠ gb227)); replace BK227 := nb BK227 hb; clear hb hbox hg) | ((with_reducible refine gate_dst (N := 3) rfl ?_); refine box_event ?hg (N := 3) ?hd (cs := #[.int .i64 0, .int .i64 0, .int .i64 0, .int .i64 0, .int .i64 0]) (t := 71) ?hr ?_; (case hd => rfl); (case hg => rfl); (case hr => first | (go_simp; done) | (go_simp; rfl)); intro gb229 hg w5 hbox hb; have BK229 := Aside0.mk (hbox); have GW229 := Aside0.mk ((by rw [hg]; exact (below_size (bs2 HB GE227 GE228)) : w.heap.size ≤ gb229)); have GE229 := Aside0.mk ((by rw [hg]; exact (below_size (bs2 HB GE227 GE228)) : w.heap.size ≤ gb229)); replace HB := Aside0.mk (below_step (bs2 HB GE227 GE228) hb); have NB227_229 := Aside0.mk ((bn BK227 hg : gb227 ≠ gb229)); have NB229_227 := Aside0.mk ((bm BK227 hg : gb229 ≠ gb227)); replace BK227 := nb BK227 hb; have NB228_229 := Aside0.mk ((bn BK228 hg : gb228 ≠ gb229)); have NB229_228 := Aside0.mk ((bm BK228 hg : gb229 ≠ gb228)); replace BK228 := nb BK228 hb; clear hb hbox hg; have hnb6 := NB227_228.out; have hnc6 := NB228_227.out; have hnb7 := NB227_229.out; have hnc7 := NB229_227.out; obtain ⟨hcz8_0, hcz8_1, hcz8_2, hcz8_3, hcz8_4⟩ := cz5 BK227; obtain ⟨hfz8_0, hfz8_1, hfz8_2, hfz8_3, hfz8_4⟩ := fz5 BK227; have hnb9 := NB229_228.out; have hnc9 := NB228_229.out; obtain ⟨hcz10_0, hcz10_1, hcz10_2, hcz10_3, hcz10_4⟩ := cz5 BK229; obtain ⟨hfz10_0, hfz10_1, hfz10_2, hfz10_3, hfz10_4⟩ := fz5 BK229) | ((with_reducible refine gate_callee (f := 26) rfl ?_); refine gL (some 12) rfl rfl Try.func26 (by kernel_rfl) rfl #[.agg #[.int .i64 a0_2, .int .i64 a0_3]] rfl ?_; (with_reducible refine (laws_toExtent.calls a0_2 a0_3 t230 t231 _ A2.out).mono ?_); rintro e w11 ⟨rfl, hb⟩; refine ⟨_, rfl, ?_⟩; replace BK227 := Aside0.mk (blk_below (bf BK227 NB227_229) hb); replace BK228 := Aside0.mk (blk_below (bf BK228 NB228_229) hb); replace BK229 := Aside0.mk (blk_below (g := gb229) (o := .cells #[.int .i64 a0_0, .int .i64 a0_1, .int .i64 0, .int .i64 0, .int .i64 0] 71 (0, 0)) (by (with_reducible repeat (first | refine blk_drewN ?_ _ | refine blk_drew ?_ | refine blk_alloc ?_ _)); refine blk_put (cs := #[.int .i64 a0_0, .int .i64 0, .int .i64 0, .int .i64 0, .int .i64 0]) ?_ 1 _ rfl; (with_reducible repeat (first | refine blk_drewN ?_ _ | refine blk_drew ?_ | refine blk_alloc ?_ _)); refine blk_put (cs := #[.int .i64 0, .int .i64 0, .int .i64 0, .int .i64 0, .int .i64 0]) ?_ 0 _ rfl; (with_reducible repeat (first | refine blk_drewN ?_ _ | refine blk_drew ?_ | refine blk_alloc ?_ _)); exact BK229.out) hb); replace HB := Aside0.mk (below_step (bs3 HB GE227 GE228 GE229) hb); (try clear hb); (try clear hb2); (try clear hk); (try clear hi); obtain ⟨hcz12_0, hcz12_1, hcz12_2, hcz12_3, hcz12_4⟩ := cz5 BK229; obtain ⟨hfz12_0, hfz12_1, hfz12_2, hfz12_3, hfz12_4⟩ := fz5 BK229; obtain ⟨hcz13_0, hcz13_1, hcz13_2, hcz13_3, hcz13_4⟩ := cz5 BK227; obtain ⟨hfz13_0, hfz13_1, hfz13_2, hfz13_3, hfz13_4⟩ := fz5 BK227; obtain ⟨hcz14_0, hcz14_1, hcz14_2, hcz14_3, hcz14_4⟩ := cz5 BK228; obtain ⟨hfz14_0, hfz14_1, hfz14_2, hfz14_3, hfz14_4⟩ := fz5 BK228))
 refine bodyPost_ret (results_cell_row rfl _ _ gb228 71 #[.int .i64 a0_0, .int .i64 a0_1, .int .i64 t230, .int .i64 t231, .int .i64 a0_4] (0, 0) _ rfl (by (with_reducible repeat (first | refine blk_drewN ?_ _ | refine blk_drew ?_ | refine blk_alloc ?_ _)); refine blk_put (cs := #[.int .i64 a0_0, .int .i64 a0_1, .int .i64 t230, .int .i64 t231, .int .i64 0]) ?_ 4 _ rfl; (with_reducible repeat (first | refine blk_drewN ?_ _ | refine blk_drew ?_ | refine blk_alloc ?_ _)); refine blk_put (cs := #[.int .i64 a0_0, .int .i64 a0_1, .int .i64 t230, .int .i64 0, .int .i64 0]) ?_ 3 _ rfl; (with_reducible repeat (first | refine blk_drewN ?_ _ | refine blk_drew ?_ | refine blk_alloc ?_ _)); refine blk_put (cs := #[.int .i64 a0_0, .int .i64 a0_1, .int .i64 0, .int .i64 0, .int .i64 0]) ?_ 2 _ rfl; (with_reducible repeat (first | refine blk_drewN ?_ _ | refine blk_drew ?_ | refine blk_alloc ?_ _)); refine blk_put (cs := #[.int .i64 a0_0, .int .i64 0, .int .i64 0, .int .i64 0, .int .i64 0]) ?_ 1 _ rfl; (with_reducible repeat (first | refine blk_drewN ?_ _ | refine blk_drew ?_ | refine blk_alloc ?_ _)); refine blk_put (cs := #[.int .i64 0, .int .i64 0, .int .i64 0, .int .i64 0, .int .i64 0]) ?_ 0 _ rfl; (with_reducible repeat (first | refine blk_drewN ?_ _ | refine blk_drew ?_ | refine blk_alloc ?_ _)); refine blk_far ?_ NB228_229.out _; (with_reducible repeat (first | refine blk_drewN ?_ _ | refine blk_drew ?_ | refine blk_alloc ?_ _)); refine blk_far ?_ NB228_229.out _; (with_reducible repeat (first | refine blk_drewN ?_ _ | refine blk_drew ?_ | refine blk_alloc ?_ _)); refine blk_far ?_ NB228_229.out _; (with_reducible repeat (first | refine blk_drewN ?_ _ | refine blk_drew ?_ | refine blk_alloc ?_ _)); exact BK228.out) Try.underlying71 rfl (by kernel_rfl)) rfl ?_
 exact ⟨by first | rfl | (simp [errW_none, errW_some] <;> rfl) | (simp [*, errW_none, errW_some] <;> rfl), bs3 HB GE227 GE228 GE229⟩

/-! ### laws_toItemS: function 42 -/
def laws_toItemS.l0 : Nat → List (S88) → List (S71) → Int → Option ((List (S71)))
 | 0, _, _, _ => none
 | k + 1, x0, x3, x4 => if x4 < (x0.length : Int) then (if 0 ≤ x4 then ((laws_toItem.f ((rd_T88 x0 x4).f0) ((rd_T88 x0 x4).f1) ((rd_T88 x0 x4).f2.f0) ((rd_T88 x0 x4).f2.f1) ((rd_T88 x0 x4).f3)).bind fun bt236 => (if x4 < (x3.length : Int) then (laws_toItemS.l0 k x0 (x3.set (x4 : Int).toNat (⟨bt236.1, bt236.2.1, (⟨bt236.2.2.1, bt236.2.2.2.1⟩ : S53), bt236.2.2.2.2⟩ : S71)) (wrap64 (x4 + 1))) else (none))) else (none)) else (some x3)
def laws_toItemS.f (k : Nat) (l0 : List (S88)) : Option ((List (S71))) := if 0 ≤ (l0.length : Int) then (if ((l0.length : Int) : Int).toNat ≤ 7036874417766 then (laws_toItemS.l0 k l0 (List.replicate ((l0.length : Int) : Int).toNat z71) 0) else (none)) else (none)
theorem laws_toItemS.mono_l : ∀ k, (∀ y0 y1 y2, LeO (laws_toItemS.l0 k y0 y1 y2) (laws_toItemS.l0 (k + 1) y0 y1 y2))
 | 0 => fun _ _ _ r h => by simp [laws_toItemS.l0] at h
 | k + 1 => by
  have ih0 := laws_toItemS.mono_l k
  ·
   intro y0 y1 y2
   unfold laws_toItemS.l0
   repeat' first
   | (with_reducible exact ih0 _ _ _)
   | (with_reducible exact LeO.refl _)
   | (with_reducible exact LeO.none _)
   | (with_reducible refine LeO.ite ?_ ?_)
   | (with_reducible refine LeO.bind ?_ (fun _ => ?_))
   | exact ih0 _ _ _
   | exact LeO.none _
   | refine LeO.ite ?_ ?_
   | refine LeO.bind ?_ (fun _ => ?_)
theorem laws_toItemS.mono : ∀ a0 k, LeO (laws_toItemS.f k a0) (laws_toItemS.f (k + 1) a0) := by
 intro a0 k
 have ih0 := laws_toItemS.mono_l k
 unfold laws_toItemS.f
 repeat' first
   | (with_reducible exact ih0 _ _ _)
   | (with_reducible exact LeO.refl _)
   | (with_reducible exact LeO.none _)
   | (with_reducible refine LeO.ite ?_ ?_)
   | (with_reducible refine LeO.bind ?_ (fun _ => ?_))
   | exact ih0 _ _ _
   | exact LeO.none _
   | refine LeO.ite ?_ ?_
   | refine LeO.bind ?_ (fun _ => ?_)
set_option maxHeartbeats 8000000 in
set_option maxRecDepth 100000 in
theorem laws_toItemS.calls (k : Nat) (A0 : Option Addr) (c0 : Nat) (l0 : List (S88)) (r : List (S71)) (w : World) (hr0 : Kd.C k88 w A0 l0.length l0) (hc0 : l0.length ≤ c0) (h : laws_toItemS.f k l0 = some r) :
  Calls Try.prog 42 #[.slice A0 l0.length c0] w fun e w' => ∃ v0_ : Value, e = .returned (v0_) ∧ Kd.R k71 71 w' w.heap.size (fun _ => True) v0_ r ∧ Below w.heap.size w w' := by
 have hu88 := Try.underlying88
 have hu71 := Try.underlying71
 have HR0 := Aside0.mk hr0
 have HC0 := Aside0.mk hc0
 clear hr0 hc0
 have HB := Aside0.mk (Below.refl w.heap.size w)
 have H : (if 0 ≤ (l0.length : Int) then (if ((l0.length : Int) : Int).toNat ≤ 7036874417766 then (laws_toItemS.l0 k l0 (List.replicate ((l0.length : Int) : Int).toNat z71) 0) else (none)) else (none)) = some r := h
 clear h
 by_cases c2 : 0 ≤ (l0.length : Int)
 ·
  rw [if_pos c2] at H
  have c2b0 := eq_true c2
  have c2b1 : decide (0 ≤ (l0.length : Int)) = true := decide_eq_true c2
  clear c2
  by_cases c3 : ((l0.length : Int) : Int).toNat ≤ 7036874417766
  ·
   rw [if_pos c3] at H
   have c3b0 := eq_true c3
   have c3b1 : decide (((l0.length : Int) : Int).toNat ≤ 7036874417766) = true := decide_eq_true c3
   clear c3
   obtain ⟨y232, hy232⟩ : ∃ y_ : List (S71), y_ = (List.replicate ((l0.length : Int) : Int).toNat z71) := ⟨_, rfl⟩
   replace H : (laws_toItemS.l0 k l0 y232 0) = some r := by first | (rw [hy232]; with_reducible exact H) | (have H2_ := (Option.bind_some _ _).symm.trans H; rw [hy232]; with_reducible exact H2_) | (have H2_ := (Option.bind_some _ _).symm.trans H; with_reducible exact H2_) | with_reducible exact H | (rw [hy232]; exact H) | exact H
   have Ny232 := Aside0.mk hy232
   clear hy232
   have H' := Aside0.mk H
   clear H
   go_enter Try.func42, Try.ntmps42
   go_wp2_with (first | ((with_reducible refine gate_dst (N := 7) rfl ?_); refine Kd.R_make k71 _ 71 rfl (N := 7) rfl 25 _ _ rfl (l0.length : Int) rfl rfl Try.underlying25 (.agg #[(.int .i64 0), (.int .i64 0), (.int .i64 0), (.int .i64 0), (.int .i64 0)]) 40 info71 rfl (by decide) (by omega) z71 (ok := fun _ => True) (okp := fun _ => True) (k71_mkM _ _ _ z71 ) (fun _ hk => hk) trivial (of_decide_eq_true (by first | (with_reducible assumption) | assumption)) (Nat.le_trans (Nat.mul_le_mul_right _ (of_decide_eq_true (by first | (with_reducible assumption) | assumption) : (l0.length : Int).toNat ≤ 7036874417766)) (by omega)) (Below.refl _ _) (Nat.le_refl _) ?_; intro v233 w4 ho5 hb hg_ hnew_; clear hg_ hnew_; (first | rw [← Ny232.out] at ho5 | (simp only [Int.reduceToNat] at ho5; rw [← Ny232.out] at ho5)); have HO234 := Aside0.mk (Kd.R_lower ho5 (below_size (bs HB))); replace HB := Aside0.mk (below_step (bs HB) hb); clear hb ho5))
   go_loopg [4] k (fun kq v4 w' => ∃ (x3_1 : List (S71)) (x4_1 : Int), v4 = .int .i64 x4_1 ∧ Aside0 (laws_toItemS.l0 kq l0 x3_1 x4_1 = some r) ∧ Aside0 (kq ≤ k) ∧ Aside0 (Kd.R k71 71 w' w.heap.size (fun _ => True) v233 x3_1) ∧ Aside0 (Below w.heap.size w w'))
   case atStart => exact ⟨(y232), (0), (by first | rfl | (simp; done) | (simp [*]; done)), H', ⟨Nat.le_refl _⟩, ⟨rr HO234.out⟩, ⟨bs HB⟩⟩
   case round =>
    clear H'
    try clear c2
    try clear c2b0
    try clear c2b1
    try clear p2
    try clear c3
    try clear c3b0
    try clear c3b1
    try clear c4
    obtain ⟨x3_1, x4_1, rfl, HA, HK1, HO_3, HB⟩ := hrel
    cases gk with
    | zero => exact absurd HA.out (by simp [laws_toItemS.l0])
    | succ k1 =>
     have H := HA.out
     clear HA
     simp only [laws_toItemS.l0] at H
     by_cases c6 : x4_1 < (l0.length : Int)
     ·
      rw [if_pos c6] at H
      have c6b0 : decide (x4_1 < (l0.length : Int)) = true := decide_eq_true c6
      clear c6
      by_cases c7 : 0 ≤ x4_1
      ·
       rw [if_pos c7] at H
       have c7b0 : decide (0 ≤ x4_1) = true := decide_eq_true c7
       clear c7
       replace H := Option.bind_eq_some_iff.mp H
       obtain ⟨⟨t236, t237, t238, t239, t240⟩, A80, H⟩ := H
       replace H : (if x4_1 < (x3_1.length : Int) then (laws_toItemS.l0 k1 l0 (x3_1.set (x4_1 : Int).toNat (⟨t236, t237, (⟨t238, t239⟩ : S53), t240⟩ : S71)) (wrap64 (x4_1 + 1))) else (none)) = some r := H
       have A8 := Aside0.mk A80
       clear A80
       by_cases c9 : x4_1 < (x3_1.length : Int)
       ·
        rw [if_pos c9] at H
        have c9b0 : decide (x4_1 < (x3_1.length : Int)) = true := decide_eq_true c9
        clear c9
        obtain ⟨y241, hy241⟩ : ∃ y_ : List (S71), y_ = (x3_1.set (x4_1 : Int).toNat (⟨t236, t237, (⟨t238, t239⟩ : S53), t240⟩ : S71)) := ⟨_, rfl⟩
        replace H : (laws_toItemS.l0 k1 l0 y241 (wrap64 (x4_1 + 1))) = some r := by first | (rw [hy241]; with_reducible exact H) | (have H2_ := (Option.bind_some _ _).symm.trans H; rw [hy241]; with_reducible exact H2_) | (have H2_ := (Option.bind_some _ _).symm.trans H; with_reducible exact H2_) | with_reducible exact H | (rw [hy241]; exact H) | exact H
        have Ny241 := Aside0.mk hy241
        clear hy241
        have H' := Aside0.mk H
        clear H
        have p235 : 0 ≤ (x4_1 : Int) := of_decide_eq_true (by first | (with_reducible assumption) | assumption)
        have q235 : x4_1 < (l0.length : Int) := of_decide_eq_true (by first | (with_reducible assumption) | assumption)
        obtain ⟨ad235, e235, hx235_0, hx235_1, hx235_2, hx235_3, hx235_4⟩ := at_T88 HR0.out x4_1 p235 q235
        cases e235
        replace hx235_0 := (HB.out.cell (World.block_lt_of_cell? w _ hx235_0)).trans hx235_0
        replace hx235_1 := (HB.out.cell (World.block_lt_of_cell? w _ hx235_1)).trans hx235_1
        replace hx235_2 := (HB.out.cell (World.block_lt_of_cell? w _ hx235_2)).trans hx235_2
        replace hx235_3 := (HB.out.cell (World.block_lt_of_cell? w _ hx235_3)).trans hx235_3
        replace hx235_4 := (HB.out.cell (World.block_lt_of_cell? w _ hx235_4)).trans hx235_4
        replace p235 := eq_true p235
        replace q235 := eq_true q235
        go_wp2_with (first | ((with_reducible refine gate_callee (f := 63) rfl ?_); refine gL (some 20) rfl rfl Try.func63 (by kernel_rfl) rfl #[.agg #[.int .i64 ((rd_T88 l0 x4_1).f0), .int .i64 ((rd_T88 l0 x4_1).f1), .int .i64 ((rd_T88 l0 x4_1).f2.f0), .int .i64 ((rd_T88 l0 x4_1).f2.f1), .int .i64 ((rd_T88 l0 x4_1).f3)]] rfl ?_; (with_reducible refine (laws_toItem.calls ((rd_T88 l0 x4_1).f0) ((rd_T88 l0 x4_1).f1) ((rd_T88 l0 x4_1).f2.f0) ((rd_T88 l0 x4_1).f2.f1) ((rd_T88 l0 x4_1).f3) t236 t237 t238 t239 t240 _ A8.out).mono ?_); rintro e w11 ⟨rfl, hb⟩; refine ⟨_, rfl, ?_⟩; replace HO_3 := nr HO_3 hb; replace HB := Aside0.mk (below_step (bs HB) hb); (try clear hb); (try clear hb2); (try clear hk); (try clear hi); have p10 : 0 ≤ (x4_1 : Int) := of_decide_eq_true (by first | (with_reducible assumption) | assumption); have q10 : (x4_1 : Int) < ((x3_1.length : Int) : Int) := of_decide_eq_true (by first | (with_reducible assumption) | assumption); obtain ⟨go10, co10, eo10, gb10, gl10, cl10, HG10⟩ := Kd.R_form HO_3.out (by omega); (first | cases eo10 | (injection eo10 with ea_ en_ ec_; (first | subst ea_ | (injection ea_ with ea_; subst ea_)); subst ec_; clear en_)); have GB10 := Aside0.mk gb10; have GG10 := Aside0.mk HG10; clear gb10 gl10 HG10; obtain ⟨ce10, hcl10, hM10, hcc10, hfr10⟩ := Kd.R_elem HO_3.out z71 (x4_1 : Int) p10 q10; obtain rfl := k71_openM hM10; have hx10_0 : w11.cell? ⟨go10, (x4_1 : Int).toNat * 5, none⟩ = some (.int .i64 ((rd_T71 x3_1 x4_1).f0)) := hcc10 0 _ rfl; have hx10_1 : w11.cell? ⟨go10, (x4_1 : Int).toNat * 5 + 1, none⟩ = some (.int .i64 ((rd_T71 x3_1 x4_1).f1)) := hcc10 1 _ rfl; have hx10_2 : w11.cell? ⟨go10, (x4_1 : Int).toNat * 5 + 2, none⟩ = some (.int .i64 ((rd_T71 x3_1 x4_1).f2.f0)) := hcc10 2 _ rfl; have hx10_3 : w11.cell? ⟨go10, (x4_1 : Int).toNat * 5 + 3, none⟩ = some (.int .i64 ((rd_T71 x3_1 x4_1).f2.f1)) := hcc10 3 _ rfl; have hx10_4 : w11.cell? ⟨go10, (x4_1 : Int).toNat * 5 + 4, none⟩ = some (.int .i64 ((rd_T71 x3_1 x4_1).f3)) := hcc10 4 _ rfl; have hf10_0 : w11.frozen? ⟨go10, (x4_1 : Int).toNat * 5, none⟩ = false := hfr10 0; have hf10_1 : w11.frozen? ⟨go10, (x4_1 : Int).toNat * 5 + 1, none⟩ = false := hfr10 1; have hf10_2 : w11.frozen? ⟨go10, (x4_1 : Int).toNat * 5 + 2, none⟩ = false := hfr10 2; have hf10_3 : w11.frozen? ⟨go10, (x4_1 : Int).toNat * 5 + 3, none⟩ = false := hfr10 3; have hf10_4 : w11.frozen? ⟨go10, (x4_1 : Int).toNat * 5 + 4, none⟩ = false := hfr10 4; clear hcl10 hcc10 hfr10 hM10; replace p10 := eq_true p10; replace q10 := eq_true q10; have HX12 := Aside0.mk (show Kd.R k71 71 w11 w.heap.size (fun _ => True) (.slice (some ⟨go10, 0, none⟩) x3_1.length co10) x3_1 from (rr HO_3.out)); obtain ⟨ce12, hcl12, hM12, hcc12, hfr12⟩ := Kd.R_elem HX12.out z71 (x4_1 : Int) (of_decide_eq_true (by first | (with_reducible assumption) | assumption)) (by have h_ : (x4_1 : Int) < ((x3_1.length : Int) : Int) := of_decide_eq_true (by first | (with_reducible assumption) | assumption); first | exact h_ | (have e_ := (Kd.R_reads' HO_3.out).1; omega) | simpa using h_); obtain rfl := k71_openM hM12; have HP12 := Kd.R_seg HX12.out (x4_1 : Int) (of_decide_eq_true (by first | (with_reducible assumption) | assumption)) (by have h_ : (x4_1 : Int) < ((x3_1.length : Int) : Int) := of_decide_eq_true (by first | (with_reducible assumption) | assumption); first | exact h_ | (have e_ := (Kd.R_reads' HO_3.out).1; omega) | simpa using h_) (seg := [.int .i64 t236, .int .i64 t237, .int .i64 t238, .int .i64 t239, .int .i64 t240]) (j := 0) hcl12 hcc12 (show 5 ≤ 5 from by decide) (x' := (⟨t236, t237, (⟨t238, t239⟩ : S53), t240⟩ : S71)) (k71_mkM _ _ _ (⟨t236, t237, (⟨t238, t239⟩ : S53), t240⟩ : S71) ) (fun _ hk => hk); have hx12_0 := hcc12 0 _ rfl; (try simp only [show (k71).sz = 5 from rfl, Nat.mul_one, Nat.add_zero] at hx12_0); have hf12_0 := hfr12 0; (try simp only [show (k71).sz = 5 from rfl, Nat.mul_one, Nat.add_zero] at hf12_0); have hx12_1 := hcc12 1 _ rfl; (try simp only [show (k71).sz = 5 from rfl, Nat.mul_one, Nat.add_zero] at hx12_1); have hf12_1 := hfr12 1; (try simp only [show (k71).sz = 5 from rfl, Nat.mul_one, Nat.add_zero] at hf12_1); have hx12_2 := hcc12 2 _ rfl; (try simp only [show (k71).sz = 5 from rfl, Nat.mul_one, Nat.add_zero] at hx12_2); have hf12_2 := hfr12 2; (try simp only [show (k71).sz = 5 from rfl, Nat.mul_one, Nat.add_zero] at hf12_2); have hx12_3 := hcc12 3 _ rfl; (try simp only [show (k71).sz = 5 from rfl, Nat.mul_one, Nat.add_zero] at hx12_3); have hf12_3 := hfr12 3; (try simp only [show (k71).sz = 5 from rfl, Nat.mul_one, Nat.add_zero] at hf12_3); have hx12_4 := hcc12 4 _ rfl; (try simp only [show (k71).sz = 5 from rfl, Nat.mul_one, Nat.add_zero] at hx12_4); have hf12_4 := hfr12 4; (try simp only [show (k71).sz = 5 from rfl, Nat.mul_one, Nat.add_zero] at hf12_4); clear hcl12 hcc12 hfr12 hM12) | ((with_reducible refine gate_store (t := 71) (p := 21) rfl ?_); refine store_event (t := 71) (p := 21) (v := ?vo_w13) (w1 := (((((w11.setCell ⟨go10, (x4_1 : Int).toNat * 5, none⟩ (.int .i64 t236)).setCell ⟨go10, (x4_1 : Int).toNat * 5 + 1, none⟩ (.int .i64 t237)).setCell ⟨go10, (x4_1 : Int).toNat * 5 + 2, none⟩ (.int .i64 t238)).setCell ⟨go10, (x4_1 : Int).toNat * 5 + 3, none⟩ (.int .i64 t239)).setCell ⟨go10, (x4_1 : Int).toNat * 5 + 4, none⟩ (.int .i64 t240))) ?hg ?ho ?hn ?hr ?_; (case ho => rfl); (case hg => rfl); (case hn => rfl); (case hr => first | (go_simp; done) | (go_simp; rfl)); intro w13 hw; have hg : w11.grownBy w13 (some go10) := (by rw [hw]; exact HP12.2); have hp_ : Kd.R k71 71 w13 w.heap.size (fun _ => True) (.slice (some ⟨go10, 0, none⟩) x3_1.length co10) y241 := (by rw [hw, Ny241.out]; exact HP12.1); clear HP12; replace HO_3 := Aside0.mk (hp_); replace HB := Aside0.mk ((by rw [hw]; exact below_set (below_set (below_set (below_set (below_set (HB.out) GB10.out) GB10.out) GB10.out) GB10.out) GB10.out : Below w.heap.size w w13)); clear hg hw hp_))
        go_roundg k1
        case measure => have := HK1.out; omega
        case rel => exact ⟨(y241), (wrap64 (x4_1 + 1)), (by first | rfl | (simp; done) | (simp [*]; done)), H', ⟨by have := HK1.out; omega⟩, ⟨rr HO_3.out⟩, ⟨bs HB⟩⟩
       ·
        rw [if_neg c9] at H
        exact absurd H (by simp)
      ·
       rw [if_neg c7] at H
       exact absurd H (by simp)
     ·
      rw [if_neg c6] at H
      have c6b0 : decide (x4_1 < (l0.length : Int)) = false := decide_eq_false c6
      clear c6
      obtain rfl := Option.some.inj H
      go_wp2
      go_ret
      exact ⟨_, by first | rfl | (simp [errW_none, errW_some] <;> rfl) | (simp [*, errW_none, errW_some] <;> rfl), by (with_reducible repeat (first | apply Kd.R_alloc | apply Kd.R_drewN | apply Kd.R_drew)); exact HO_3.out, bs HB⟩
  ·
   rw [if_neg c3] at H
   exact absurd H (by simp)
 ·
  rw [if_neg c2] at H
  exact absurd H (by simp)

/-! ### laws_toWork: function 16 -/
def laws_toWork.f (k : Nat) (a0_0 : Int) (l0_1 : List (S50)) (l0_2 : List (S50)) (a0_3 : Int) (l0_4 : List (S88)) : Option (Int × (List (S53)) × (List (S53)) × Int × (List (S71))) := (laws_toFree.f k a0_0 l0_1 l0_2).bind fun bt245 => ((laws_toItemS.f k l0_4).bind fun t252 => (some (bt245.1, bt245.2.1, bt245.2.2, a0_3, t252)))
theorem laws_toWork.mono : ∀ a0 a1 a2 a3 a4 k, LeO (laws_toWork.f k a0 a1 a2 a3 a4) (laws_toWork.f (k + 1) a0 a1 a2 a3 a4) := by
 intro a0 a1 a2 a3 a4 k
 unfold laws_toWork.f
 repeat' first
   | (with_reducible exact laws_toFree.mono _ _ _ _)
   | (with_reducible exact laws_toItemS.mono _ _)
   | (with_reducible exact LeO.refl _)
   | (with_reducible exact LeO.none _)
   | (with_reducible refine LeO.ite ?_ ?_)
   | (with_reducible refine LeO.bind ?_ (fun _ => ?_))
   | exact laws_toFree.mono _ _ _ _
   | exact laws_toItemS.mono _ _
   | exact LeO.none _
   | refine LeO.ite ?_ ?_
   | refine LeO.bind ?_ (fun _ => ?_)
set_option maxHeartbeats 8000000 in
set_option maxRecDepth 100000 in
theorem laws_toWork.calls (k : Nat) (a0_0 : Int) (A0_1 : Option Addr) (c0_1 : Nat) (l0_1 : List (S50)) (A0_2 : Option Addr) (c0_2 : Nat) (l0_2 : List (S50)) (a0_3 : Int) (A0_4 : Option Addr) (c0_4 : Nat) (l0_4 : List (S88)) (r1 : Int) (r2 : List (S53)) (r3 : List (S53)) (r4 : Int) (r5 : List (S71)) (w : World) (hr0_1 : Kd.C k50 w A0_1 l0_1.length l0_1) (hc0_1 : l0_1.length ≤ c0_1) (hr0_2 : Kd.C k50 w A0_2 l0_2.length l0_2) (hc0_2 : l0_2.length ≤ c0_2) (hr0_4 : Kd.C k88 w A0_4 l0_4.length l0_4) (hc0_4 : l0_4.length ≤ c0_4) (h : laws_toWork.f k a0_0 l0_1 l0_2 a0_3 l0_4 = some (r1, r2, r3, r4, r5)) :
  Calls Try.prog 16 #[.agg #[.int .i64 a0_0, .slice A0_1 l0_1.length c0_1, .slice A0_2 l0_2.length c0_2, .int .i64 a0_3, .slice A0_4 l0_4.length c0_4]] w fun e w' => ∃ v1_ v2_ v4_ : Value, e = .returned (.agg #[.int .i64 r1, v1_, v2_, .int .i64 r4, v4_]) ∧ Kd.R k53 53 w' w.heap.size (fun k_ => some k_ ≠ (v2_ : Value).ownBlock) v1_ r2 ∧ Kd.R k53 53 w' w.heap.size (fun k_ => some k_ ≠ (v1_ : Value).ownBlock) v2_ r3 ∧ Kd.R k71 71 w' w.heap.size (fun _ => True) v4_ r5 ∧ Below w.heap.size w w' := by
 have hu38 := Try.underlying38
 have hu27 := Try.underlying27
 have hu35 := Try.underlying35
 have hu24 := Try.underlying24
 have HR0_1 := Aside0.mk hr0_1
 have HC0_1 := Aside0.mk hc0_1
 clear hr0_1 hc0_1
 have HR0_2 := Aside0.mk hr0_2
 have HC0_2 := Aside0.mk hc0_2
 clear hr0_2 hc0_2
 have HR0_4 := Aside0.mk hr0_4
 have HC0_4 := Aside0.mk hc0_4
 clear hr0_4 hc0_4
 have HB := Aside0.mk (Below.refl w.heap.size w)
 have H : ((laws_toFree.f k a0_0 l0_1 l0_2).bind fun bt245 => ((laws_toItemS.f k l0_4).bind fun t252 => (some (bt245.1, bt245.2.1, bt245.2.2, a0_3, t252)))) = some (r1, r2, r3, r4, r5) := h
 clear h
 replace H := Option.bind_eq_some_iff.mp H
 obtain ⟨⟨t245, t246, t249⟩, A20, H⟩ := H
 replace H : ((laws_toItemS.f k l0_4).bind fun t252 => (some (t245, t246, t249, a0_3, t252))) = some (r1, r2, r3, r4, r5) := H
 have A2 := Aside0.mk A20
 clear A20
 replace H := Option.bind_eq_some_iff.mp H
 obtain ⟨t252, A30, H⟩ := H
 replace H : (some (t245, t246, t249, a0_3, t252)) = some (r1, r2, r3, r4, r5) := H
 have A3 := Aside0.mk A30
 clear A30
 simp only [Option.some.injEq, Prod.mk.injEq] at H
 obtain ⟨rfl, rfl, rfl, rfl, rfl⟩ := H
 go_enter Try.func16, Try.ntmps16
 go_wp2_with (first | ((with_reducible refine gate_dst (N := 1) rfl ?_); refine box_event ?hg (N := 1) ?hd (cs := #[.int .i64 a0_0, .slice A0_1 l0_1.length c0_1, .slice A0_2 l0_2.length c0_2, .int .i64 a0_3, .slice A0_4 l0_4.length c0_4]) (t := 38) ?hr ?_; (case hd => rfl); (case hg => rfl); (case hr => first | (go_simp; done) | (go_simp; rfl)); intro gb242 hg w4 hbox hb; have BK242 := Aside0.mk (hbox); have GW242 := Aside0.mk ((by rw [hg]; exact (below_size (bs HB)) : w.heap.size ≤ gb242)); have GE242 := Aside0.mk ((by rw [hg]; exact (below_size (bs HB)) : w.heap.size ≤ gb242)); replace HB := Aside0.mk (below_step (bs HB) hb); clear hb hbox hg) | ((with_reducible refine gate_dst (N := 2) rfl ?_); refine box_event ?hg (N := 2) ?hd (cs := #[.int .i64 0, .slice none 0 0, .slice none 0 0, .int .i64 0, .slice none 0 0]) (t := 27) ?hr ?_; (case hd => rfl); (case hg => rfl); (case hr => first | (go_simp; done) | (go_simp; rfl)); intro gb243 hg w5 hbox hb; have BK243 := Aside0.mk (hbox); have GW243 := Aside0.mk ((by rw [hg]; exact (below_size (bs1 HB GE242)) : w.heap.size ≤ gb243)); have GE243 := Aside0.mk ((by rw [hg]; exact (below_size (bs1 HB GE242)) : w.heap.size ≤ gb243)); replace HB := Aside0.mk (below_step (bs1 HB GE242) hb); have NB242_243 := Aside0.mk ((bn BK242 hg : gb242 ≠ gb243)); have NB243_242 := Aside0.mk ((bm BK242 hg : gb243 ≠ gb242)); replace BK242 := nb BK242 hb; clear hb hbox hg) | ((with_reducible refine gate_dst (N := 3) rfl ?_); refine box_event ?hg (N := 3) ?hd (cs := #[.int .i64 0, .slice none 0 0, .slice none 0 0, .int .i64 0, .slice none 0 0]) (t := 27) ?hr ?_; (case hd => rfl); (case hg => rfl); (case hr => first | (go_simp; done) | (go_simp; rfl)); intro gb244 hg w6 hbox hb; have BK244 := Aside0.mk (hbox); have GW244 := Aside0.mk ((by rw [hg]; exact (below_size (bs2 HB GE242 GE243)) : w.heap.size ≤ gb244)); have GE244 := Aside0.mk ((by rw [hg]; exact (below_size (bs2 HB GE242 GE243)) : w.heap.size ≤ gb244)); replace HB := Aside0.mk (below_step (bs2 HB GE242 GE243) hb); have NB242_244 := Aside0.mk ((bn BK242 hg : gb242 ≠ gb244)); have NB244_242 := Aside0.mk ((bm BK242 hg : gb244 ≠ gb242)); replace BK242 := nb BK242 hb; have NB243_244 := Aside0.mk ((bn BK243 hg : gb243 ≠ gb244)); have NB244_243 := Aside0.mk ((bm BK243 hg : gb244 ≠ gb243)); replace BK243 := nb BK243 hb; clear hb hbox hg; have hnb7 := NB242_243.out; have hnc7 := NB243_242.out; have hnb8 := NB242_244.out; have hnc8 := NB244_242.out; obtain ⟨hcz9_0, hcz9_1, hcz9_2, hcz9_3, hcz9_4⟩ := cz5 BK242; obtain ⟨hfz9_0, hfz9_1, hfz9_2, hfz9_3, hfz9_4⟩ := fz5 BK242) | ((with_reducible refine gate_callee (f := 41) rfl ?_); refine gL (some 6) rfl rfl Try.func41 (by kernel_rfl) rfl #[.agg #[.int .i64 a0_0, .slice A0_1 l0_1.length c0_1, .slice A0_2 l0_2.length c0_2]] rfl ?_; (with_reducible refine (laws_toFree.calls k a0_0 _ _ l0_1 _ _ l0_2 t245 t246 t249 _ ?side1 ?side2 ?side3 ?side4 A2.out).mono ?_); (case side1 => exact cb HR0_1 HB); (case side2 => exact HC0_1.out); (case side3 => exact cb HR0_2 HB); (case side4 => exact HC0_2.out); rintro e w10 ⟨v247, v250, rfl, ho0, ho1, hb⟩; refine ⟨_, rfl, ?_⟩; have HO248 := Aside0.mk (Kd.R_lower ho0 (below_size (bs3 HB GE242 GE243 GE244))); have HO251 := Aside0.mk (Kd.R_lower ho1 (below_size (bs3 HB GE242 GE243 GE244))); replace BK242 := nb BK242 hb; replace BK243 := nb BK243 hb; replace BK244 := nb BK244 hb; replace HB := Aside0.mk (below_step (bs3 HB GE242 GE243 GE244) hb); (try clear hb); (try clear hb2); (try clear hk); (try clear hi); (try clear ho0); (try clear ho1); have hnb11 := NB244_243.out; have hnc11 := NB243_244.out; obtain ⟨hcz12_0, hcz12_1, hcz12_2, hcz12_3, hcz12_4⟩ := cz5 BK244; obtain ⟨hfz12_0, hfz12_1, hfz12_2, hfz12_3, hfz12_4⟩ := fz5 BK244; obtain ⟨Ao13, co13, eo13⟩ := Kd.R_slice HO248.out; subst eo13; obtain ⟨Ao14, co14, eo14⟩ := Kd.R_slice HO251.out; subst eo14; obtain ⟨hcz15_0, hcz15_1, hcz15_2, hcz15_3, hcz15_4⟩ := cz5 BK242; obtain ⟨hfz15_0, hfz15_1, hfz15_2, hfz15_3, hfz15_4⟩ := fz5 BK242) | ((with_reducible refine gate_callee (f := 42) rfl ?_); refine gL (some 13) rfl rfl Try.func42 (by kernel_rfl) rfl #[.slice A0_4 l0_4.length c0_4] rfl ?_; (with_reducible refine (laws_toItemS.calls k _ _ l0_4 t252 _ ?side1 ?side2 A3.out).mono ?_); (case side1 => exact Kd.C_below HR0_4.out (bs3 HB GE242 GE243 GE244)); (case side2 => exact HC0_4.out); rintro e w16 ⟨v253, rfl, ho0, hb⟩; refine ⟨_, rfl, ?_⟩; replace HO248 := nf HO248 BK244 hb; replace HO251 := nf HO251 BK244 hb; have HO254 := Aside0.mk (Kd.R_lower ho0 (below_size (bs3 HB GE242 GE243 GE244))); replace BK242 := Aside0.mk (blk_below (bf BK242 NB242_244) hb); replace BK243 := Aside0.mk (blk_below (bf BK243 NB243_244) hb); replace BK244 := Aside0.mk (blk_below (g := gb244) (o := .cells #[.int .i64 t245, .slice Ao13 t246.length co13, .slice Ao14 t249.length co14, .int .i64 a0_3, .slice none 0 0] 27 (0, 0)) (by (with_reducible repeat (first | refine blk_drewN ?_ _ | refine blk_drew ?_ | refine blk_alloc ?_ _)); refine blk_put (cs := #[.int .i64 t245, .slice Ao13 t246.length co13, .slice Ao14 t249.length co14, .int .i64 0, .slice none 0 0]) ?_ 3 _ rfl; (with_reducible repeat (first | refine blk_drewN ?_ _ | refine blk_drew ?_ | refine blk_alloc ?_ _)); refine blk_put (cs := #[.int .i64 t245, .slice Ao13 t246.length co13, .slice none 0 0, .int .i64 0, .slice none 0 0]) ?_ 2 _ rfl; (with_reducible repeat (first | refine blk_drewN ?_ _ | refine blk_drew ?_ | refine blk_alloc ?_ _)); refine blk_put (cs := #[.int .i64 t245, .slice none 0 0, .slice none 0 0, .int .i64 0, .slice none 0 0]) ?_ 1 _ rfl; (with_reducible repeat (first | refine blk_drewN ?_ _ | refine blk_drew ?_ | refine blk_alloc ?_ _)); refine blk_put (cs := #[.int .i64 0, .slice none 0 0, .slice none 0 0, .int .i64 0, .slice none 0 0]) ?_ 0 _ rfl; (with_reducible repeat (first | refine blk_drewN ?_ _ | refine blk_drew ?_ | refine blk_alloc ?_ _)); exact BK244.out) hb); replace HB := Aside0.mk (below_step (bs3 HB GE242 GE243 GE244) hb); (try clear hb); (try clear hb2); (try clear hk); (try clear hi); (try clear ho0); obtain ⟨Ao17, co17, eo17⟩ := Kd.R_slice HO254.out; subst eo17; obtain ⟨hcz18_0, hcz18_1, hcz18_2, hcz18_3, hcz18_4⟩ := cz5 BK244; obtain ⟨hfz18_0, hfz18_1, hfz18_2, hfz18_3, hfz18_4⟩ := fz5 BK244; obtain ⟨hcz19_0, hcz19_1, hcz19_2, hcz19_3, hcz19_4⟩ := cz5 BK243; obtain ⟨hfz19_0, hfz19_1, hfz19_2, hfz19_3, hfz19_4⟩ := fz5 BK243))
 refine bodyPost_ret (results_cell_row rfl _ _ gb243 27 #[.int .i64 t245, .slice Ao13 t246.length co13, .slice Ao14 t249.length co14, .int .i64 a0_3, .slice Ao17 t252.length co17] (0, 0) _ rfl (by (with_reducible repeat (first | refine blk_drewN ?_ _ | refine blk_drew ?_ | refine blk_alloc ?_ _)); refine blk_put (cs := #[.int .i64 t245, .slice Ao13 t246.length co13, .slice Ao14 t249.length co14, .int .i64 a0_3, .slice none 0 0]) ?_ 4 _ rfl; (with_reducible repeat (first | refine blk_drewN ?_ _ | refine blk_drew ?_ | refine blk_alloc ?_ _)); refine blk_put (cs := #[.int .i64 t245, .slice Ao13 t246.length co13, .slice Ao14 t249.length co14, .int .i64 0, .slice none 0 0]) ?_ 3 _ rfl; (with_reducible repeat (first | refine blk_drewN ?_ _ | refine blk_drew ?_ | refine blk_alloc ?_ _)); refine blk_put (cs := #[.int .i64 t245, .slice Ao13 t246.length co13, .slice none 0 0, .int .i64 0, .slice none 0 0]) ?_ 2 _ rfl; (with_reducible repeat (first | refine blk_drewN ?_ _ | refine blk_drew ?_ | refine blk_alloc ?_ _)); refine blk_put (cs := #[.int .i64 t245, .slice none 0 0, .slice none 0 0, .int .i64 0, .slice none 0 0]) ?_ 1 _ rfl; (with_reducible repeat (first | refine blk_drewN ?_ _ | refine blk_drew ?_ | refine blk_alloc ?_ _)); refine blk_put (cs := #[.int .i64 0, .slice none 0 0, .slice none 0 0, .int .i64 0, .slice none 0 0]) ?_ 0 _ rfl; (with_reducible repeat (first | refine blk_drewN ?_ _ | refine blk_drew ?_ | refine blk_alloc ?_ _)); refine blk_far ?_ NB243_244.out _; (with_reducible repeat (first | refine blk_drewN ?_ _ | refine blk_drew ?_ | refine blk_alloc ?_ _)); exact BK243.out) Try.underlying27 rfl (by kernel_rfl)) rfl ?_
 exact ⟨_, _, _, by first | rfl | (simp [errW_none, errW_some] <;> rfl) | (simp [*, errW_none, errW_some] <;> rfl), by (with_reducible repeat (first | apply Kd.R_alloc | apply Kd.R_drewN | apply Kd.R_drew)); exact Kd.R_mono (Kd.R_far (p := ⟨gb243, 4, none⟩) (Kd.R_far (p := ⟨gb243, 3, none⟩) (Kd.R_far (p := ⟨gb243, 2, none⟩) (Kd.R_far (p := ⟨gb243, 1, none⟩) (Kd.R_far (p := ⟨gb243, 0, none⟩) (Kd.R_far (p := ⟨gb244, 4, none⟩) (Kd.R_types (Kd.R_types HO248.out BK244.out (by decide)) BK243.out (by decide)) (fun _ hk => hk.1.2) (.slice Ao17 t252.length co17)) (fun _ hk => hk.2) (.int .i64 t245)) (fun _ hk => hk.2) (.slice Ao13 t246.length co13)) (fun _ hk => hk.2) (.slice Ao14 t249.length co14)) (fun _ hk => hk.2) (.int .i64 a0_3)) (fun _ hk => hk.2) (.slice Ao17 t252.length co17)) (fun _ hk => hk.1.1), by (with_reducible repeat (first | apply Kd.R_alloc | apply Kd.R_drewN | apply Kd.R_drew)); exact Kd.R_mono (Kd.R_far (p := ⟨gb243, 4, none⟩) (Kd.R_far (p := ⟨gb243, 3, none⟩) (Kd.R_far (p := ⟨gb243, 2, none⟩) (Kd.R_far (p := ⟨gb243, 1, none⟩) (Kd.R_far (p := ⟨gb243, 0, none⟩) (Kd.R_far (p := ⟨gb244, 4, none⟩) (Kd.R_types (Kd.R_types HO251.out BK244.out (by decide)) BK243.out (by decide)) (fun _ hk => hk.1.2) (.slice Ao17 t252.length co17)) (fun _ hk => hk.2) (.int .i64 t245)) (fun _ hk => hk.2) (.slice Ao13 t246.length co13)) (fun _ hk => hk.2) (.slice Ao14 t249.length co14)) (fun _ hk => hk.2) (.int .i64 a0_3)) (fun _ hk => hk.2) (.slice Ao17 t252.length co17)) (fun _ hk => hk.1.1), by (with_reducible repeat (first | apply Kd.R_alloc | apply Kd.R_drewN | apply Kd.R_drew)); exact Kd.R_mono (Kd.R_far (p := ⟨gb243, 4, none⟩) (Kd.R_far (p := ⟨gb243, 3, none⟩) (Kd.R_far (p := ⟨gb243, 2, none⟩) (Kd.R_far (p := ⟨gb243, 1, none⟩) (Kd.R_far (p := ⟨gb243, 0, none⟩) (Kd.R_far (p := ⟨gb244, 4, none⟩) (Kd.R_types (Kd.R_types HO254.out BK244.out (by decide)) BK243.out (by decide)) (fun _ hk => hk.1.2) (.slice Ao17 t252.length co17)) (fun _ hk => hk.2) (.int .i64 t245)) (fun _ hk => hk.2) (.slice Ao13 t246.length co13)) (fun _ hk => hk.2) (.slice Ao14 t249.length co14)) (fun _ hk => hk.2) (.int .i64 a0_3)) (fun _ hk => hk.2) (.slice Ao17 t252.length co17)) (fun _ hk => trivial), bs3 HB GE242 GE243 GE244⟩

/-! ### impl_within: function 32 -/
def impl_within.f (a0 : Int) (a1 : Int) (a2 : Int) : Option (Bool) := if a0 ≥ a1 then (some (decide (a0 ≤ a2))) else (some false)
set_option maxHeartbeats 8000000 in
set_option maxRecDepth 100000 in
theorem impl_within.calls (a0 : Int) (a1 : Int) (a2 : Int) (r : Bool) (w : World) (h : impl_within.f a0 a1 a2 = some r) :
  Calls Try.prog 32 #[.int .i64 a0, .int .i64 a1, .int .i64 a2] w fun e w' => e = .returned (.bool r) ∧ Drawn0 w w' := by
 have H : (if a0 ≥ a1 then (some (decide (a0 ≤ a2))) else (some false)) = some r := h
 clear h
 by_cases c4 : a0 ≥ a1
 ·
  rw [if_pos c4] at H
  have c4b0 : decide (a1 ≤ a0) = true := decide_eq_true c4
  clear c4
  obtain rfl := Option.some.inj H
  go_enter Try.func32, Try.ntmps32
  go_wp2
  go_ret
  exact ⟨by first | rfl | (simp; done) | (simp [*]; done), by repeat (first | exact Drawn0.refl _ | apply Drawn0.step)⟩
 ·
  rw [if_neg c4] at H
  have c4b0 : decide (a1 ≤ a0) = false := decide_eq_false c4
  clear c4
  obtain rfl := Option.some.inj H
  go_enter Try.func32, Try.ntmps32
  go_wp2
  go_ret
  exact ⟨by first | rfl | (simp; done) | (simp [*]; done), by repeat (first | exact Drawn0.refl _ | apply Drawn0.step)⟩

/-! ### impl_Extent_51: function 51 -/
-- slices.Clone: a copy in a row of the call's own; of nil: nil.
def impl_Extent_51.f (l0 : List (S53)) : Option (List (S53)) := if l0.length * 16 ≤ 140737488355328 then some l0 else none
set_option maxRecDepth 100000 in
theorem impl_Extent_51.calls (A0 : Option Addr) (c0 : Nat) (l0 : List (S53)) (r : List (S53)) (w : World) (hr0 : Kd.C k53 w A0 l0.length l0) (hc0 : l0.length ≤ c0) (h : impl_Extent_51.f l0 = some r) :
    Calls Try.prog 51 #[.slice A0 l0.length c0] w fun e w' => ∃ v0_ : Value, e = .returned (v0_) ∧ Kd.R k53 53 w' w.heap.size (fun _ => True) v0_ r ∧ Below w.heap.size w w' := by
  have hus := Try.underlying22
  have huu : ∀ w, Sem.run Try.prog (underlying 22) w = .ok (TypeDesc.slice 53) w := run_underlying hus
  have hee : ∀ (w : World) (a : Option Addr) (n c n' c' : Nat), (binOp .eql 22 (.slice a n c) (.slice none n' c')).run Try.prog w = .ok (.bool a.isNone) w := fun w a n c n' c' => Lib.run_eql_slice_nil w _ _ a n c n' c' hus
  unfold impl_Extent_51.f at h
  by_cases hl : l0.length * 16 ≤ 140737488355328
  · rw [if_pos hl] at h
    obtain rfl := Option.some.inj h
    have hR := Aside0.mk hr0
    have hL := Aside0.mk hl
    clear hr0 h hl
    rcases A0 with _ | ad
    · have h0 : l0 = [] := by
        rcases Nat.eq_zero_or_pos l0.length with h0 | h0
        · exact List.eq_nil_of_length_eq_zero h0
        · obtain ⟨ad, h, _⟩ := hR.out.2.2 h0
          cases h
      subst h0
      go_enter Try.func51, Try.ntmps51
      go_wp2
      go_ret
      exact ⟨_, rfl, Kd.R_nil _ _ _ _ _, Below.refl _ _⟩
    · go_enter Try.func51, Try.ntmps51
      go_wp2_with (first
        | ((with_reducible refine gate_dst (N := 5) rfl ?_); refine Kd.R_lit k53 _ 53 ?hg (N := 5) ?hd (xs := ([] : List (S53))) (inner := []) (ok := fun _ => True) (okp := fun _ => True) ?hr ?hp (fun _ hk => hk) trivial (Below.refl _ _) (Nat.le_refl _) (by simp) ?_; (case hd => rfl); (case hg => rfl); (case hr => first | (go_simp; done) | (go_simp; rfl)); (case hp => exact (Reps.none _ _)); intro v391 w4 ho5 hb hg_ hnew_; clear hg_ hnew_; have n0_ := Aside0.mk (Kd.R_lower ho5 (Nat.le_refl _)); have n1_ := Aside0.mk hb; clear ho5 hb)
        | ((with_reducible refine gate_builtin (b := .append) (xs := #[.tmp 5, .tmp 6]) rfl ?_); at_builtin; refine Kd.R_append_rows k53 (w0 := w) w.heap.size rfl (.tmp 5) (.tmp 6) 22 53 (.agg #[(.int .i64 0), (.int .i64 0)]) 16 rfl hus info53 rfl (by decide) (by omega) v391 ([] : List (S53)) l0 _ _ _ (fun _ => True) (fun _ => False) rfl rfl ?aO ?aR (fun _ _ h => h) (fun _ h => h.elim) ?aF ?aB ?aS ?aL ?_; (case aR => exact Kd.C_below hR.out n1_.out); (case aB => exact n1_.out); (case aF => exact (fun _ _ => trivial)); (case aO => exact n0_.out); (case aS => exact n1_.out.size); (case aL => have := hL.out; simp only [List.length_nil, Nat.zero_add]; omega); intro v394 w6 ho hb hg hat; rw [List.nil_append] at ho; have m0_ := Aside0.mk ho; have m1_ := Aside0.mk hb; clear n0_ n1_ ho hb hg hat))
      go_ret
      exact ⟨_, rfl, m0_.out, m1_.out⟩
  · rw [if_neg hl] at h
    cases h

/-! ### cmp_Or_int: function 72 -/
def cmp_Or_int.l0 : Nat → Int → List Int → Int → Int → Option (Int)
 | 0, _, _, _, _ => none
 | k + 1, x3, x6, x7, x8 => if x8 < x7 then (if 0 ≤ x8 then (if x8 < (x6.length : Int) then (if (rd x6 x8) = x3 then (cmp_Or_int.l0 k x3 x6 x7 (wrap64 (x8 + 1))) else (some (rd x6 x8))) else (none)) else (none)) else (some x3)
def cmp_Or_int.f (k : Nat) (l0 : List Int) : Option (Int) := cmp_Or_int.l0 k 0 l0 (l0.length : Int) 0
theorem cmp_Or_int.mono_l : ∀ k, (∀ y0 y1 y2 y3, LeO (cmp_Or_int.l0 k y0 y1 y2 y3) (cmp_Or_int.l0 (k + 1) y0 y1 y2 y3))
 | 0 => fun _ _ _ _ r h => by simp [cmp_Or_int.l0] at h
 | k + 1 => by
  have ih0 := cmp_Or_int.mono_l k
  ·
   intro y0 y1 y2 y3
   unfold cmp_Or_int.l0
   repeat' first
   | (with_reducible exact ih0 _ _ _ _)
   | (with_reducible exact LeO.refl _)
   | (with_reducible exact LeO.none _)
   | (with_reducible refine LeO.ite ?_ ?_)
   | (with_reducible refine LeO.bind ?_ (fun _ => ?_))
   | exact ih0 _ _ _ _
   | exact LeO.none _
   | refine LeO.ite ?_ ?_
   | refine LeO.bind ?_ (fun _ => ?_)
theorem cmp_Or_int.mono : ∀ a0 k, LeO (cmp_Or_int.f k a0) (cmp_Or_int.f (k + 1) a0) := by
 intro a0 k
 have ih0 := cmp_Or_int.mono_l k
 unfold cmp_Or_int.f
 repeat' first
   | (with_reducible exact ih0 _ _ _ _)
   | (with_reducible exact LeO.refl _)
   | (with_reducible exact LeO.none _)
   | (with_reducible refine LeO.ite ?_ ?_)
   | (with_reducible refine LeO.bind ?_ (fun _ => ?_))
   | exact ih0 _ _ _ _
   | exact LeO.none _
   | refine LeO.ite ?_ ?_
   | refine LeO.bind ?_ (fun _ => ?_)
set_option maxHeartbeats 8000000 in
set_option maxRecDepth 100000 in
theorem cmp_Or_int.calls (k : Nat) (A0 : Option Addr) (c0 : Nat) (l0 : List Int) (r : Int) (w : World) (hr0 : Kd.C (Kd.int .i64) w A0 l0.length l0) (hc0 : l0.length ≤ c0) (h : cmp_Or_int.f k l0 = some r) :
  Calls Try.prog 72 #[.slice A0 l0.length c0] w fun e w' => e = .returned (.int .i64 r) ∧ Drawn0 w w' := by
 have HR0 := Aside0.mk hr0
 have HC0 := Aside0.mk hc0
 clear hr0 hc0
 have H : (cmp_Or_int.l0 k 0 l0 (l0.length : Int) 0) = some r := h
 clear h
 have H' := Aside0.mk H
 clear H
 go_enter Try.func72, Try.ntmps72
 go_wp2
 go_loopg [8] k (fun kq v8 w' => ∃ (x8_1 : Int), v8 = .int .i64 x8_1 ∧ Aside0 (cmp_Or_int.l0 kq 0 l0 (l0.length : Int) x8_1 = some r) ∧ Aside0 (kq ≤ k) ∧ Drawn0 w w')
 case atStart => exact ⟨(0), (by first | rfl | (simp; done) | (simp [*]; done)), H', ⟨Nat.le_refl _⟩, by repeat (first | exact Drawn0.refl _ | apply Drawn0.step)⟩
 case round =>
  clear H'
  obtain ⟨x8_1, rfl, HA, HK1, ⟨m1, rfl⟩⟩ := hrel
  cases gk with
  | zero => exact absurd HA.out (by simp [cmp_Or_int.l0])
  | succ k1 =>
   have H := HA.out
   clear HA
   simp only [cmp_Or_int.l0] at H
   by_cases c2 : x8_1 < (l0.length : Int)
   ·
    rw [if_pos c2] at H
    have c2b0 : decide (x8_1 < (l0.length : Int)) = true := decide_eq_true c2
    clear c2
    by_cases c3 : 0 ≤ x8_1
    ·
     rw [if_pos c3] at H
     have c3b0 : decide (0 ≤ x8_1) = true := decide_eq_true c3
     clear c3
     by_cases c4 : x8_1 < (l0.length : Int)
     ·
      rw [if_pos c4] at H
      have c4b0 : decide (x8_1 < (l0.length : Int)) = true := decide_eq_true c4
      clear c4
      by_cases c5 : (rd l0 x8_1) = 0
      ·
       rw [if_pos c5] at H
       have c5b0 : ((rd l0 x8_1) == 0) = true := beq_iff_eq.mpr c5
       have c5b1 : ((rd l0 x8_1) != 0) = false := bne_eq_false_iff_eq.mpr c5
       clear c5
       have H' := Aside0.mk H
       clear H
       have p257 : 0 ≤ (x8_1 : Int) := of_decide_eq_true (by first | (with_reducible assumption) | assumption)
       have q257 : x8_1 < (l0.length : Int) := of_decide_eq_true (by first | (with_reducible assumption) | assumption)
       obtain ⟨ad257, e257, hx257_0⟩ := Kd.at_int HR0.out x8_1 p257 q257
       cases e257
       replace p257 := eq_true p257
       replace q257 := eq_true q257
       go_wp2
       go_roundg k1
       case measure => have := HK1.out; omega
       case rel => exact ⟨(wrap64 (x8_1 + 1)), (by first | rfl | (simp; done) | (simp [*]; done)), H', ⟨by have := HK1.out; omega⟩, by repeat (first | exact Drawn0.refl _ | apply Drawn0.step)⟩
      ·
       rw [if_neg c5] at H
       have c5b0 : ((rd l0 x8_1) == 0) = false := beq_eq_false_iff_ne.mpr c5
       have c5b1 : ((rd l0 x8_1) != 0) = true := bne_iff_ne.mpr c5
       obtain rfl := Option.some.inj H
       have p257 : 0 ≤ (x8_1 : Int) := of_decide_eq_true (by first | (with_reducible assumption) | assumption)
       have q257 : x8_1 < (l0.length : Int) := of_decide_eq_true (by first | (with_reducible assumption) | assumption)
       obtain ⟨ad257, e257, hx257_0⟩ := Kd.at_int HR0.out x8_1 p257 q257
       cases e257
       replace p257 := eq_true p257
       replace q257 := eq_true q257
       go_wp2
       go_ret
       exact ⟨by first | rfl | (simp; done) | (simp [*]; done), by repeat (first | exact Drawn0.refl _ | apply Drawn0.step)⟩
     ·
      rw [if_neg c4] at H
      exact absurd H (by simp)
    ·
     rw [if_neg c3] at H
     exact absurd H (by simp)
   ·
    rw [if_neg c2] at H
    have c2b0 : decide (x8_1 < (l0.length : Int)) = false := decide_eq_false c2
    clear c2
    obtain rfl := Option.some.inj H
    go_wp2
    go_ret
    exact ⟨by first | rfl | (simp; done) | (simp [*]; done), by repeat (first | exact Drawn0.refl _ | apply Drawn0.step)⟩

/-! ### cmp_isNaN_int: function 91 -/
def cmp_isNaN_int.f (a0 : Int) : Option (Bool) := some (a0 != a0)
set_option maxHeartbeats 8000000 in
set_option maxRecDepth 100000 in
theorem cmp_isNaN_int.calls (a0 : Int) (r : Bool) (w : World) (h : cmp_isNaN_int.f a0 = some r) :
  Calls Try.prog 91 #[.int .i64 a0] w fun e w' => e = .returned (.bool r) ∧ Drawn0 w w' := by
 have H : (some (a0 != a0)) = some r := h
 clear h
 obtain rfl := Option.some.inj H
 go_enter Try.func91, Try.ntmps91
 go_wp2
 go_ret
 exact ⟨by first | rfl | (simp; done) | (simp [*]; done), by repeat (first | exact Drawn0.refl _ | apply Drawn0.step)⟩

/-! ### cmp_Compare_int: function 73 -/
def cmp_Compare_int.f (a0 : Int) (a1 : Int) : Option (Int) := (cmp_isNaN_int.f a0).bind fun t258 => ((cmp_isNaN_int.f a1).bind fun t259 => (if t258 = true then (if t259 = true then (some 0) else (some (-1))) else (if t259 = true then (some 1) else (if a0 < a1 then (some (-1)) else (if a0 > a1 then (some 1) else (some 0))))))
set_option maxHeartbeats 8000000 in
set_option maxRecDepth 100000 in
theorem cmp_Compare_int.calls (a0 : Int) (a1 : Int) (r : Int) (w : World) (h : cmp_Compare_int.f a0 a1 = some r) :
  Calls Try.prog 73 #[.int .i64 a0, .int .i64 a1] w fun e w' => e = .returned (.int .i64 r) ∧ Drawn0 w w' := by
 have H : ((cmp_isNaN_int.f a0).bind fun t258 => ((cmp_isNaN_int.f a1).bind fun t259 => (if t258 = true then (if t259 = true then (some 0) else (some (-1))) else (if t259 = true then (some 1) else (if a0 < a1 then (some (-1)) else (if a0 > a1 then (some 1) else (some 0))))))) = some r := h
 clear h
 replace H := Option.bind_eq_some_iff.mp H
 obtain ⟨t258, A30, H⟩ := H
 replace H : ((cmp_isNaN_int.f a1).bind fun t259 => (if t258 = true then (if t259 = true then (some 0) else (some (-1))) else (if t259 = true then (some 1) else (if a0 < a1 then (some (-1)) else (if a0 > a1 then (some 1) else (some 0)))))) = some r := H
 have A3 := Aside0.mk A30
 clear A30
 replace H := Option.bind_eq_some_iff.mp H
 obtain ⟨t259, A40, H⟩ := H
 replace H : (if t258 = true then (if t259 = true then (some 0) else (some (-1))) else (if t259 = true then (some 1) else (if a0 < a1 then (some (-1)) else (if a0 > a1 then (some 1) else (some 0))))) = some r := H
 have A4 := Aside0.mk A40
 clear A40
 by_cases c5 : t258 = true
 ·
  subst c5
  rw [if_pos rfl] at H
  by_cases c6 : t259 = true
  ·
   subst c6
   rw [if_pos rfl] at H
   obtain rfl := Option.some.inj H
   go_enter Try.func73, Try.ntmps73
   go_wp2_with (first | ((with_reducible refine gate_callee (f := 91) rfl ?_); refine gL (some 8) rfl rfl Try.func91 (by kernel_rfl) rfl #[.int .i64 a0] rfl ?_; (with_reducible refine (cmp_isNaN_int.calls a0 true _ A3.out).mono ?_); rintro e w' ⟨rfl, ⟨nd, rfl⟩⟩; refine ⟨_, rfl, ?_⟩) | ((with_reducible refine gate_callee (f := 91) rfl ?_); refine gL (some 10) rfl rfl Try.func91 (by kernel_rfl) rfl #[.int .i64 a1] rfl ?_; (with_reducible refine (cmp_isNaN_int.calls a1 true _ A4.out).mono ?_); rintro e w' ⟨rfl, ⟨nd, rfl⟩⟩; refine ⟨_, rfl, ?_⟩))
   go_ret
   exact ⟨by first | rfl | (simp; done) | (simp [*]; done), by repeat (first | exact Drawn0.refl _ | apply Drawn0.step)⟩
  ·
   replace c6 := Bool.eq_false_iff.mpr c6
   subst c6
   rw [if_neg (show ¬ (false = true) by decide)] at H
   obtain rfl := Option.some.inj H
   go_enter Try.func73, Try.ntmps73
   go_wp2_with (first | ((with_reducible refine gate_callee (f := 91) rfl ?_); refine gL (some 8) rfl rfl Try.func91 (by kernel_rfl) rfl #[.int .i64 a0] rfl ?_; (with_reducible refine (cmp_isNaN_int.calls a0 true _ A3.out).mono ?_); rintro e w' ⟨rfl, ⟨nd, rfl⟩⟩; refine ⟨_, rfl, ?_⟩) | ((with_reducible refine gate_callee (f := 91) rfl ?_); refine gL (some 10) rfl rfl Try.func91 (by kernel_rfl) rfl #[.int .i64 a1] rfl ?_; (with_reducible refine (cmp_isNaN_int.calls a1 false _ A4.out).mono ?_); rintro e w' ⟨rfl, ⟨nd, rfl⟩⟩; refine ⟨_, rfl, ?_⟩))
   go_ret
   exact ⟨by first | rfl | (simp; done) | (simp [*]; done), by repeat (first | exact Drawn0.refl _ | apply Drawn0.step)⟩
 ·
  replace c5 := Bool.eq_false_iff.mpr c5
  subst c5
  rw [if_neg (show ¬ (false = true) by decide)] at H
  by_cases c7 : t259 = true
  ·
   subst c7
   rw [if_pos rfl] at H
   obtain rfl := Option.some.inj H
   go_enter Try.func73, Try.ntmps73
   go_wp2_with (first | ((with_reducible refine gate_callee (f := 91) rfl ?_); refine gL (some 8) rfl rfl Try.func91 (by kernel_rfl) rfl #[.int .i64 a0] rfl ?_; (with_reducible refine (cmp_isNaN_int.calls a0 false _ A3.out).mono ?_); rintro e w' ⟨rfl, ⟨nd, rfl⟩⟩; refine ⟨_, rfl, ?_⟩) | ((with_reducible refine gate_callee (f := 91) rfl ?_); refine gL (some 10) rfl rfl Try.func91 (by kernel_rfl) rfl #[.int .i64 a1] rfl ?_; (with_reducible refine (cmp_isNaN_int.calls a1 true _ A4.out).mono ?_); rintro e w' ⟨rfl, ⟨nd, rfl⟩⟩; refine ⟨_, rfl, ?_⟩))
   go_ret
   exact ⟨by first | rfl | (simp; done) | (simp [*]; done), by repeat (first | exact Drawn0.refl _ | apply Drawn0.step)⟩
  ·
   replace c7 := Bool.eq_false_iff.mpr c7
   subst c7
   rw [if_neg (show ¬ (false = true) by decide)] at H
   by_cases c8 : a0 < a1
   ·
    rw [if_pos c8] at H
    have c8b0 : decide (a0 < a1) = true := decide_eq_true c8
    clear c8
    obtain rfl := Option.some.inj H
    go_enter Try.func73, Try.ntmps73
    go_wp2_with (first | ((with_reducible refine gate_callee (f := 91) rfl ?_); refine gL (some 8) rfl rfl Try.func91 (by kernel_rfl) rfl #[.int .i64 a0] rfl ?_; (with_reducible refine (cmp_isNaN_int.calls a0 false _ A3.out).mono ?_); rintro e w' ⟨rfl, ⟨nd, rfl⟩⟩; refine ⟨_, rfl, ?_⟩) | ((with_reducible refine gate_callee (f := 91) rfl ?_); refine gL (some 10) rfl rfl Try.func91 (by kernel_rfl) rfl #[.int .i64 a1] rfl ?_; (with_reducible refine (cmp_isNaN_int.calls a1 false _ A4.out).mono ?_); rintro e w' ⟨rfl, ⟨nd, rfl⟩⟩; refine ⟨_, rfl, ?_⟩))
    go_ret
    exact ⟨by first | rfl | (simp; done) | (simp [*]; done), by repeat (first | exact Drawn0.refl _ | apply Drawn0.step)⟩
   ·
    rw [if_neg c8] at H
    have c8b0 : decide (a0 < a1) = false := decide_eq_false c8
    clear c8
    by_cases c9 : a0 > a1
    ·
     rw [if_pos c9] at H
     have c9b0 : decide (a1 < a0) = true := decide_eq_true c9
     clear c9
     obtain rfl := Option.some.inj H
     go_enter Try.func73, Try.ntmps73
     go_wp2_with (first | ((with_reducible refine gate_callee (f := 91) rfl ?_); refine gL (some 8) rfl rfl Try.func91 (by kernel_rfl) rfl #[.int .i64 a0] rfl ?_; (with_reducible refine (cmp_isNaN_int.calls a0 false _ A3.out).mono ?_); rintro e w' ⟨rfl, ⟨nd, rfl⟩⟩; refine ⟨_, rfl, ?_⟩) | ((with_reducible refine gate_callee (f := 91) rfl ?_); refine gL (some 10) rfl rfl Try.func91 (by kernel_rfl) rfl #[.int .i64 a1] rfl ?_; (with_reducible refine (cmp_isNaN_int.calls a1 false _ A4.out).mono ?_); rintro e w' ⟨rfl, ⟨nd, rfl⟩⟩; refine ⟨_, rfl, ?_⟩))
     go_ret
     exact ⟨by first | rfl | (simp; done) | (simp [*]; done), by repeat (first | exact Drawn0.refl _ | apply Drawn0.step)⟩
    ·
     rw [if_neg c9] at H
     have c9b0 : decide (a1 < a0) = false := decide_eq_false c9
     clear c9
     obtain rfl := Option.some.inj H
     go_enter Try.func73, Try.ntmps73
     go_wp2_with (first | ((with_reducible refine gate_callee (f := 91) rfl ?_); refine gL (some 8) rfl rfl Try.func91 (by kernel_rfl) rfl #[.int .i64 a0] rfl ?_; (with_reducible refine (cmp_isNaN_int.calls a0 false _ A3.out).mono ?_); rintro e w' ⟨rfl, ⟨nd, rfl⟩⟩; refine ⟨_, rfl, ?_⟩) | ((with_reducible refine gate_callee (f := 91) rfl ?_); refine gL (some 10) rfl rfl Try.func91 (by kernel_rfl) rfl #[.int .i64 a1] rfl ?_; (with_reducible refine (cmp_isNaN_int.calls a1 false _ A4.out).mono ?_); rintro e w' ⟨rfl, ⟨nd, rfl⟩⟩; refine ⟨_, rfl, ?_⟩))
     go_ret
     exact ⟨by first | rfl | (simp; done) | (simp [*]; done), by repeat (first | exact Drawn0.refl _ | apply Drawn0.step)⟩

/-! ### impl_compareSizes: function 53 -/
def impl_compareSizes.f (k : Nat) (a0_0 : Int) (a0_1 : Int) (a1_0 : Int) (a1_1 : Int) : Option (Int) := (cmp_Compare_int.f a0_1 a1_1).bind fun t262 => ((cmp_Compare_int.f a0_0 a1_0).bind fun t263 => ((cmp_Or_int.f k (([t262, t263] : List Int))).bind fun t267 => (some t267)))
theorem impl_compareSizes.mono : ∀ a0 a1 a2 a3 k, LeO (impl_compareSizes.f k a0 a1 a2 a3) (impl_compareSizes.f (k + 1) a0 a1 a2 a3) := by
 intro a0 a1 a2 a3 k
 unfold impl_compareSizes.f
 repeat' first
   | (with_reducible exact cmp_Or_int.mono _ _)
   | (with_reducible exact LeO.refl _)
   | (with_reducible exact LeO.none _)
   | (with_reducible refine LeO.ite ?_ ?_)
   | (with_reducible refine LeO.bind ?_ (fun _ => ?_))
   | exact cmp_Or_int.mono _ _
   | exact LeO.none _
   | refine LeO.ite ?_ ?_
   | refine LeO.bind ?_ (fun _ => ?_)
def impl_compareSizes.T1 : Bool × List (List Nat × List Nat) := (true, [([], []), ([0], [0]), ([], []), ([2], [2]), ([1, 3], [1, 3]), ([], []), ([5], [5]), ([], []), ([7], [7]), ([6, 8, 4], [6, 8]), ([4, 9], [4, 9]), ([10, 9], [10]), ([11, 11, 0, 1, 2, 3, 4, 5, 6, 7, 8, 9, 10, 11], [11])])
def impl_compareSizes.B1 : List Nat := [0, 1, 0, 4, 15, 0, 32, 0, 128, 511, 1023, 2047, 4095]
theorem impl_compareSizes.tab1 : rtab .any (opsOf Try.f53 1) = impl_compareSizes.T1 := by kernel_rfl
theorem impl_compareSizes.bits1 : waitsOk impl_compareSizes.T1.2 impl_compareSizes.B1 = true := by kernel_rfl
set_option maxHeartbeats 8000000 in
set_option maxRecDepth 100000 in
theorem impl_compareSizes.calls (k : Nat) (a0_0 : Int) (a0_1 : Int) (a1_0 : Int) (a1_1 : Int) (r : Int) (w : World) (h : impl_compareSizes.f k a0_0 a0_1 a1_0 a1_1 = some r) :
  Calls Try.prog 53 #[.agg #[.int .i64 a0_0, .int .i64 a0_1], .agg #[.int .i64 a1_0, .int .i64 a1_1]] w fun e w' => e = .returned (.int .i64 r) ∧ Below w.heap.size w w' := by
 have hu53 := Try.underlying53
 have HB := Aside0.mk (Below.refl w.heap.size w)
 have H : ((cmp_Compare_int.f a0_1 a1_1).bind fun t262 => ((cmp_Compare_int.f a0_0 a1_0).bind fun t263 => ((cmp_Or_int.f k (([t262, t263] : List Int))).bind fun t267 => (some t267)))) = some r := h
 clear h
 replace H := Option.bind_eq_some_iff.mp H
 obtain ⟨t262, A30, H⟩ := H
 replace H : ((cmp_Compare_int.f a0_0 a1_0).bind fun t263 => ((cmp_Or_int.f k (([t262, t263] : List Int))).bind fun t267 => (some t267))) = some r := H
 have A3 := Aside0.mk A30
 clear A30
 replace H := Option.bind_eq_some_iff.mp H
 obtain ⟨t263, A40, H⟩ := H
 replace H : ((cmp_Or_int.f k (([t262, t263] : List Int))).bind fun t267 => (some t267)) = some r := H
 have A4 := Aside0.mk A40
 clear A40
 obtain ⟨y264, hy264⟩ : ∃ y_ : List Int, y_ = (([t262, t263] : List Int)) := ⟨_, rfl⟩
 replace H : ((cmp_Or_int.f k y264).bind fun t267 => (some t267)) = some r := by first | (rw [hy264]; with_reducible exact H) | (have H2_ := (Option.bind_some _ _).symm.trans H; rw [hy264]; with_reducible exact H2_) | (have H2_ := (Option.bind_some _ _).symm.trans H; with_reducible exact H2_) | with_reducible exact H | (rw [hy264]; exact H) | exact H
 have Ny264 := Aside0.mk hy264
 clear hy264
 replace H := Option.bind_eq_some_iff.mp H
 obtain ⟨t267, A50, H⟩ := H
 replace H : (some t267) = some r := H
 have A5 := Aside0.mk A50
 clear A50
 obtain rfl := Option.some.inj H
 go_enter Try.func53, Try.ntmps53
 try go_wp2_with (first | ((with_reducible refine gate_dst (N := 2) rfl ?_); refine box_event ?hg (N := 2) ?hd (cs := #[.int .i64 a0_0, .int .i64 a0_1]) (t := 53) ?hr ?_; (case hd => rfl); (case hg => rfl); (case hr => first | (go_simp; done) | (go_simp; rfl)); intro gb260 hg w6 hbox hb; have BK260 := Aside0.mk (hbox); have GW260 := Aside0.mk ((by rw [hg]; exact (below_size (bs HB)) : w.heap.size ≤ gb260)); have GE260 := Aside0.mk ((by rw [hg]; exact (below_size (bs HB)) : w.heap.size ≤ gb260)); replace HB := Aside0.mk (below_step (bs HB) hb); clear hb hbox hg) | ((with_reducible refine gate_dst (N := 3) rfl ?_); refine box_event ?hg (N := 3) ?hd (cs := #[.int .i64 a1_0, .int .i64 a1_1]) (t := 53) ?hr ?_; (case hd => rfl); (case hg => rfl); (case hr => first | (go_simp; done) | (go_simp; rfl)); intro gb261 hg w7 hbox hb; have BK261 := Aside0.mk (hbox); have GW261 := Aside0.mk ((by rw [hg]; exact (below_size (bs1 HB GE260)) : w.heap.size ≤ gb261)); have GE261 := Aside0.mk ((by rw [hg]; exact (below_size (bs1 HB GE260)) : w.heap.size ≤ gb261)); replace HB := Aside0.mk (below_step (bs1 HB GE260) hb); have NB260_261 := Aside0.mk ((bn BK260 hg : gb260 ≠ gb261)); have NB261_260 := Aside0.mk ((bm BK260 hg : gb261 ≠ gb260)); replace BK260 := nb BK260 hb; clear hb hbox hg))
 have n0_ := Aside0.mk (blk_drew BK260.out)
 have n1_ := Aside0.mk (blk_drew BK261.out)
 have n2_ := Aside0.mk (below_drew1 HB.out)
 clear BK260
 clear BK261
 clear HB
 have BK260 := n0_
 have BK261 := n1_
 have HB := n2_
 clear n0_ n1_ n2_
 refine start_ (n := 13) (S := fun w' => w'.cell? ⟨gb260, 0, none⟩ = some (.int .i64 a0_0) ∧ w'.cell? ⟨gb260, 1, none⟩ = some (.int .i64 a0_1) ∧ w'.cell? ⟨gb261, 0, none⟩ = some (.int .i64 a1_0) ∧ w'.cell? ⟨gb261, 1, none⟩ = some (.int .i64 a1_1)) (ds := []) #[false, false, false, false, false, false, false, false, false, false, false, false, false] (by kernel_rfl) rfl rfl ⟨(blk_cell BK260.out 0).trans rfl, (blk_cell BK260.out 1).trans rfl, (blk_cell BK261.out 0).trans rfl, (blk_cell BK261.out 1).trans rfl⟩ (fun hHeld => ?_); refine with_tabW impl_compareSizes.tab1 impl_compareSizes.bits1 (fun HT_ HW_ => ?_)
 generalize w7.drew = w8 at BK260 BK261 HB hHeld ⊢
 refine pureS 0 5 HT_.out ?_
 refine pureS 2 7 HT_.out ?_
 refine pureS 5 10 HT_.out ?_
 refine pureS 7 12 HT_.out ?_
 refine takeS 1 6 HT_.out HW_.out hHeld (hr := by rintro w' ⟨s0, s1, s2, s3⟩; go_simp; with_reducible rfl) (h := ?_)
 refine takeS 3 8 HT_.out HW_.out hHeld (hr := by rintro w' ⟨s0, s1, s2, s3⟩; go_simp; with_reducible rfl) (h := ?_)
 refine takeS 6 11 HT_.out HW_.out hHeld (hr := by rintro w' ⟨s0, s1, s2, s3⟩; go_simp; with_reducible rfl) (h := ?_)
 refine takeS 8 13 HT_.out HW_.out hHeld (hr := by rintro w' ⟨s0, s1, s2, s3⟩; go_simp; with_reducible rfl) (h := ?_)
 refine one_ (i := 4) (N := some 9) #[true, true, true, true, true, true, true, true, true, false, false, false, false] rfl rfl (one_of HT_.out (by kernel_rfl)) (by decide) (fun K hK => ?_)
 refine goes_ Try.func73 (by kernel_rfl) rfl #[.int .i64 a0_1, .int .i64 a1_1] (by rfl) rfl rfl (by (try simp only [List.map_toArray, List.map_cons, List.map_nil]); first | done | rfl | (simp only [List.length_drop, List.length_take]; rfl)) ?_
 with_reducible refine (cmp_Compare_int.calls a0_1 a1_1 t262 _ A3.out).mono ?_
 rintro e w' ⟨rfl, ⟨nd, rfl⟩⟩
 refine ⟨_, rfl, ?_⟩
 refine hK.out _ _ ⟨(blk_cell BK260.out 0).trans rfl, (blk_cell BK260.out 1).trans rfl, (blk_cell BK261.out 0).trans rfl, (blk_cell BK261.out 1).trans rfl⟩ (fun hHeld => ?_)
 clear hK K
 refine norm_ (a' := ?_) ?_ ?_
 rotate_left
 ·
  show Act.put _ (some 9) _ = _
  simp only [Act.put, List.setIfInBounds_toArray, List.set_cons_zero, List.set_cons_succ, i64_w, i32_w]
  rfl
 refine one_ (i := 9) (N := some 14) #[true, true, true, true, true, true, true, true, true, true, false, false, false] rfl rfl (one_of HT_.out (by kernel_rfl)) (by decide) (fun K hK => ?_)
 refine goes_ Try.func73 (by kernel_rfl) rfl #[.int .i64 a0_0, .int .i64 a1_0] (by rfl) rfl rfl (by (try simp only [List.map_toArray, List.map_cons, List.map_nil]); first | done | rfl | (simp only [List.length_drop, List.length_take]; rfl)) ?_
 with_reducible refine (cmp_Compare_int.calls a0_0 a1_0 t263 _ A4.out).mono ?_
 rintro e w' ⟨rfl, ⟨nd, rfl⟩⟩
 refine ⟨_, rfl, ?_⟩
 refine hK.out _ _ ⟨(blk_cell BK260.out 0).trans rfl, (blk_cell BK260.out 1).trans rfl, (blk_cell BK261.out 0).trans rfl, (blk_cell BK261.out 1).trans rfl⟩ (fun hHeld => ?_)
 clear hK K
 refine norm_ (a' := ?_) ?_ ?_
 rotate_left
 ·
  show Act.put _ (some 14) _ = _
  simp only [Act.put, List.setIfInBounds_toArray, List.set_cons_zero, List.set_cons_succ, i64_w, i32_w]
  rfl
 refine one_ (i := 10) (N := some 15) #[true, true, true, true, true, true, true, true, true, true, true, false, false] rfl rfl (one_of HT_.out (by kernel_rfl)) (by decide) (fun K hK => ?_)
 refine Kd.R_lit_step (Kd.int .i64) _ 3 ?hg (N := 15) ?hd (xs := ([t262, t263] : List Int)) (inner := [.int .i64 t262, .int .i64 t263]) (ok := fun _ => True) (okp := fun _ => True) ?hr ?hp (fun _ hk => hk) trivial (Below.refl _ _) (Nat.le_refl _) (by simp) ?_; (case hd => rfl); (case hg => rfl); (case hr => first | (go_simp; done) | (go_simp; rfl)); (case hp => exact (Reps.one (show Kd.M (Kd.int .i64) _ _ _ t262 [.int .i64 t262] from rfl) (Reps.one (show Kd.M (Kd.int .i64) _ _ _ t263 [.int .i64 t263] from rfl) (Reps.none _ _))))
 intro v265 w9 ho10 hb hg_ hnew_
 clear hg_ hnew_
 (first | rw [← Ny264.out] at ho10 | (simp only [Int.reduceToNat] at ho10; rw [← Ny264.out] at ho10))
 have n0_ := Aside0.mk (Kd.R_lower ho10 (below_size (bs2 HB GE260 GE261)))
 have n1_ := Aside0.mk (bb BK260 hb)
 have n2_ := Aside0.mk (bb BK261 hb)
 have n3_ := Aside0.mk (below_step (bs2 HB GE260 GE261) hb)
 clear BK260
 clear BK261
 clear HB
 have HO266 := n0_
 have BK260 := n1_
 have BK261 := n2_
 have HB := n3_
 clear n0_ n1_ n2_ n3_
 clear hb ho10
 obtain ⟨Ao11, co11, eo11⟩ := Kd.R_slice HO266.out
 (first | subst eo11 | (injection eo11 with f1_ f2_ f3_; have f4_ := f1_.symm; have f5_ := f3_.symm; clear f1_ f2_ f3_; subst f4_; subst f5_))
 refine hK.out _ _ ⟨(blk_cell BK260.out 0).trans rfl, (blk_cell BK260.out 1).trans rfl, (blk_cell BK261.out 0).trans rfl, (blk_cell BK261.out 1).trans rfl⟩ (fun hHeld => ?_)
 clear hK K
 refine norm_ (a' := ?_) ?_ ?_
 rotate_left
 ·
  show Act.put _ (some 15) _ = _
  simp only [Act.put, List.setIfInBounds_toArray, List.set_cons_zero, List.set_cons_succ, i64_w, i32_w]
  rfl
 refine one_ (i := 11) (N := some 16) #[true, true, true, true, true, true, true, true, true, true, true, true, false] rfl rfl (one_of HT_.out (by kernel_rfl)) (by decide) (fun K hK => ?_)
 refine goes_ Try.func72 (by kernel_rfl) rfl #[.slice Ao11 y264.length co11] (by rfl) rfl rfl (by (try simp only [List.map_toArray, List.map_cons, List.map_nil]); first | done | rfl | (simp only [List.length_drop, List.length_take]; rfl)) ?_
 with_reducible refine (cmp_Or_int.calls k _ _ y264 t267 _ ?side1 ?side2 A5.out).mono ?_
 (case side1 => exact rc0 HO266)
 (case side2 => exact (Kd.R_reads' HO266.out).2.1)
 rintro e w' ⟨rfl, ⟨nd, rfl⟩⟩
 refine ⟨_, rfl, ?_⟩
 refine hK.out _ _ ⟨(blk_cell BK260.out 0).trans rfl, (blk_cell BK260.out 1).trans rfl, (blk_cell BK261.out 0).trans rfl, (blk_cell BK261.out 1).trans rfl⟩ (fun hHeld => ?_)
 clear hK K
 refine norm_ (a' := ?_) ?_ ?_
 rotate_left
 ·
  show Act.put _ (some 16) _ = _
  simp only [Act.put, List.setIfInBounds_toArray, List.set_cons_zero, List.set_cons_succ, i64_w, i32_w]
  rfl
 refine pureS 12 4 HT_.out ?_
 refine done_ (done_of HT_.out (by kernel_rfl)) ?_
 try go_wp2
 go_ret
 exact ⟨by first | rfl | (simp [errW_none, errW_some] <;> rfl) | (simp [*, errW_none, errW_some] <;> rfl), bs2 HB GE260 GE261⟩
set_option maxHeartbeats 8000000 in
set_option maxRecDepth 100000 in
theorem impl_compareSizes.exact (k : Nat) (a0_0 : Int) (a0_1 : Int) (a1_0 : Int) (a1_1 : Int) (r : Int) (w : World) (h : impl_compareSizes.f k a0_0 a0_1 a1_0 a1_1 = some r) :
  Calls Try.prog 53 #[.agg #[.int .i64 a0_0, .int .i64 a0_1], .agg #[.int .i64 a1_0, .int .i64 a1_1]] w fun e w' => e = .returned (.int .i64 r) ∧ Below w.heap.size w w' ∧ w.drawn ≤ w'.drawn := by
 have DR := Aside0.mk (Nat.le_refl w.drawn)
 have hu53 := Try.underlying53
 have HB := Aside0.mk (Below.refl w.heap.size w)
 have H : ((cmp_Compare_int.f a0_1 a1_1).bind fun t262 => ((cmp_Compare_int.f a0_0 a1_0).bind fun t263 => ((cmp_Or_int.f k (([t262, t263] : List Int))).bind fun t267 => (some t267)))) = some r := h
 clear h
 replace H := Option.bind_eq_some_iff.mp H
 obtain ⟨t262, A30, H⟩ := H
 replace H : ((cmp_Compare_int.f a0_0 a1_0).bind fun t263 => ((cmp_Or_int.f k (([t262, t263] : List Int))).bind fun t267 => (some t267))) = some r := H
 have A3 := Aside0.mk A30
 clear A30
 replace H := Option.bind_eq_some_iff.mp H
 obtain ⟨t263, A40, H⟩ := H
 replace H : ((cmp_Or_int.f k (([t262, t263] : List Int))).bind fun t267 => (some t267)) = some r := H
 have A4 := Aside0.mk A40
 clear A40
 obtain ⟨y264, hy264⟩ : ∃ y_ : List Int, y_ = (([t262, t263] : List Int)) := ⟨_, rfl⟩
 replace H : ((cmp_Or_int.f k y264).bind fun t267 => (some t267)) = some r := by first | (rw [hy264]; with_reducible exact H) | (have H2_ := (Option.bind_some _ _).symm.trans H; rw [hy264]; with_reducible exact H2_) | (have H2_ := (Option.bind_some _ _).symm.trans H; with_reducible exact H2_) | with_reducible exact H | (rw [hy264]; exact H) | exact H
 have Ny264 := Aside0.mk hy264
 clear hy264
 replace H := Option.bind_eq_some_iff.mp H
 obtain ⟨t267, A50, H⟩ := H
 replace H : (some t267) = some r := H
 have A5 := Aside0.mk A50
 clear A50
 obtain rfl := Option.some.inj H
 go_enter Try.func53, Try.ntmps53
 try go_wp2_with (first | ((with_reducible refine gate_dst (N := 2) rfl ?_); refine box_eventD ?hg (N := 2) ?hd (cs := #[.int .i64 a0_0, .int .i64 a0_1]) (t := 53) ?hr ?_; (case hd => rfl); (case hg => rfl); (case hr => first | (go_simp; done) | (go_simp; rfl)); intro gb260 hg w6 hbox hb hdr_; replace DR := Aside0.mk (Nat.le_trans DR.out (Nat.le_of_eq hdr_.symm)); clear hdr_; have BK260 := Aside0.mk (hbox); have GW260 := Aside0.mk ((by rw [hg]; exact (below_size (bs HB)) : w.heap.size ≤ gb260)); have GE260 := Aside0.mk ((by rw [hg]; exact (below_size (bs HB)) : w.heap.size ≤ gb260)); replace HB := Aside0.mk (below_step (bs HB) hb); clear hb hbox hg) | ((with_reducible refine gate_dst (N := 3) rfl ?_); refine box_eventD ?hg (N := 3) ?hd (cs := #[.int .i64 a1_0, .int .i64 a1_1]) (t := 53) ?hr ?_; (case hd => rfl); (case hg => rfl); (case hr => first | (go_simp; done) | (go_simp; rfl)); intro gb261 hg w7 hbox hb hdr_; replace DR := Aside0.mk (Nat.le_trans DR.out (Nat.le_of_eq hdr_.symm)); clear hdr_; have BK261 := Aside0.mk (hbox); have GW261 := Aside0.mk ((by rw [hg]; exact (below_size (bs1 HB GE260)) : w.heap.size ≤ gb261)); have GE261 := Aside0.mk ((by rw [hg]; exact (below_size (bs1 HB GE260)) : w.heap.size ≤ gb261)); replace HB := Aside0.mk (below_step (bs1 HB GE260) hb); have NB260_261 := Aside0.mk ((bn BK260 hg : gb260 ≠ gb261)); have NB261_260 := Aside0.mk ((bm BK260 hg : gb261 ≠ gb260)); replace BK260 := nb BK260 hb; clear hb hbox hg))
 have n0_ := Aside0.mk (blk_drew BK260.out)
 have n1_ := Aside0.mk (blk_drew BK261.out)
 have n2_ := Aside0.mk (below_drew1 HB.out)
 clear BK260
 clear BK261
 clear HB
 have BK260 := n0_
 have BK261 := n1_
 have HB := n2_
 clear n0_ n1_ n2_
 refine start_ (n := 13) (S := fun w' => w'.cell? ⟨gb260, 0, none⟩ = some (.int .i64 a0_0) ∧ w'.cell? ⟨gb260, 1, none⟩ = some (.int .i64 a0_1) ∧ w'.cell? ⟨gb261, 0, none⟩ = some (.int .i64 a1_0) ∧ w'.cell? ⟨gb261, 1, none⟩ = some (.int .i64 a1_1)) (ds := []) #[false, false, false, false, false, false, false, false, false, false, false, false, false] (by kernel_rfl) rfl rfl ⟨(blk_cell BK260.out 0).trans rfl, (blk_cell BK260.out 1).trans rfl, (blk_cell BK261.out 0).trans rfl, (blk_cell BK261.out 1).trans rfl⟩ (fun hHeld => ?_); refine with_tabW impl_compareSizes.tab1 impl_compareSizes.bits1 (fun HT_ HW_ => ?_)
 have DR2 : w.drawn ≤ (w7.drew).drawn := Nat.le_trans DR.out (Nat.le_succ _)
 replace DR := Aside0.mk DR2
 clear DR2
 generalize w7.drew = w8 at DR BK260 BK261 HB hHeld ⊢
 refine pureS 0 5 HT_.out ?_
 refine pureS 2 7 HT_.out ?_
 refine pureS 5 10 HT_.out ?_
 refine pureS 7 12 HT_.out ?_
 refine takeS 1 6 HT_.out HW_.out hHeld (hr := by rintro w' ⟨s0, s1, s2, s3⟩; go_simp; with_reducible rfl) (h := ?_)
 refine takeS 3 8 HT_.out HW_.out hHeld (hr := by rintro w' ⟨s0, s1, s2, s3⟩; go_simp; with_reducible rfl) (h := ?_)
 refine takeS 6 11 HT_.out HW_.out hHeld (hr := by rintro w' ⟨s0, s1, s2, s3⟩; go_simp; with_reducible rfl) (h := ?_)
 refine takeS 8 13 HT_.out HW_.out hHeld (hr := by rintro w' ⟨s0, s1, s2, s3⟩; go_simp; with_reducible rfl) (h := ?_)
 refine one_ (i := 4) (N := some 9) #[true, true, true, true, true, true, true, true, true, false, false, false, false] rfl rfl (one_of HT_.out (by kernel_rfl)) (by decide) (fun K hK => ?_)
 refine goes_ Try.func73 (by kernel_rfl) rfl #[.int .i64 a0_1, .int .i64 a1_1] (by rfl) rfl rfl (by (try simp only [List.map_toArray, List.map_cons, List.map_nil]); first | done | rfl | (simp only [List.length_drop, List.length_take]; rfl)) ?_
 with_reducible refine (cmp_Compare_int.calls a0_1 a1_1 t262 _ A3.out).mono ?_
 rintro e w' ⟨rfl, ⟨nd, rfl⟩⟩
 refine ⟨_, rfl, ?_⟩
 refine hK.out _ _ ⟨(blk_cell BK260.out 0).trans rfl, (blk_cell BK260.out 1).trans rfl, (blk_cell BK261.out 0).trans rfl, (blk_cell BK261.out 1).trans rfl⟩ (fun hHeld => ?_)
 clear hK K
 refine norm_ (a' := ?_) ?_ ?_
 rotate_left
 ·
  show Act.put _ (some 9) _ = _
  simp only [Act.put, List.setIfInBounds_toArray, List.set_cons_zero, List.set_cons_succ, i64_w, i32_w]
  rfl
 refine one_ (i := 9) (N := some 14) #[true, true, true, true, true, true, true, true, true, true, false, false, false] rfl rfl (one_of HT_.out (by kernel_rfl)) (by decide) (fun K hK => ?_)
 refine goes_ Try.func73 (by kernel_rfl) rfl #[.int .i64 a0_0, .int .i64 a1_0] (by rfl) rfl rfl (by (try simp only [List.map_toArray, List.map_cons, List.map_nil]); first | done | rfl | (simp only [List.length_drop, List.length_take]; rfl)) ?_
 with_reducible refine (cmp_Compare_int.calls a0_0 a1_0 t263 _ A4.out).mono ?_
 rintro e w' ⟨rfl, ⟨nd, rfl⟩⟩
 refine ⟨_, rfl, ?_⟩
 refine hK.out _ _ ⟨(blk_cell BK260.out 0).trans rfl, (blk_cell BK260.out 1).trans rfl, (blk_cell BK261.out 0).trans rfl, (blk_cell BK261.out 1).trans rfl⟩ (fun hHeld => ?_)
 clear hK K
 refine norm_ (a' := ?_) ?_ ?_
 rotate_left
 ·
  show Act.put _ (some 14) _ = _
  simp only [Act.put, List.setIfInBounds_toArray, List.set_cons_zero, List.set_cons_succ, i64_w, i32_w]
  rfl
 refine one_ (i := 10) (N := some 15) #[true, true, true, true, true, true, true, true, true, true, true, false, false] rfl rfl (one_of HT_.out (by kernel_rfl)) (by decide) (fun K hK => ?_)
 refine Kd.R_lit_stepD (Kd.int .i64) _ 3 ?hg (N := 15) ?hd (xs := ([t262, t263] : List Int)) (inner := [.int .i64 t262, .int .i64 t263]) (ok := fun _ => True) (okp := fun _ => True) ?hr ?hp (fun _ hk => hk) trivial (Below.refl _ _) (Nat.le_refl _) (by simp) ?_; (case hd => rfl); (case hg => rfl); (case hr => first | (go_simp; done) | (go_simp; rfl)); (case hp => exact (Reps.one (show Kd.M (Kd.int .i64) _ _ _ t262 [.int .i64 t262] from rfl) (Reps.one (show Kd.M (Kd.int .i64) _ _ _ t263 [.int .i64 t263] from rfl) (Reps.none _ _))))
 intro v265 w9 ho10 hb hg_ hnew_ hdr_
 have DR2 : w.drawn ≤ w9.drawn := by have h1_ := DR.out; rw [hdr_]; simp only [World.drewN]; omega
 replace DR := Aside0.mk DR2
 clear DR2 hdr_
 clear hg_ hnew_
 (first | rw [← Ny264.out] at ho10 | (simp only [Int.reduceToNat] at ho10; rw [← Ny264.out] at ho10))
 have n0_ := Aside0.mk (Kd.R_lower ho10 (below_size (bs2 HB GE260 GE261)))
 have n1_ := Aside0.mk (bb BK260 hb)
 have n2_ := Aside0.mk (bb BK261 hb)
 have n3_ := Aside0.mk (below_step (bs2 HB GE260 GE261) hb)
 clear BK260
 clear BK261
 clear HB
 have HO266 := n0_
 have BK260 := n1_
 have BK261 := n2_
 have HB := n3_
 clear n0_ n1_ n2_ n3_
 clear hb ho10
 obtain ⟨Ao11, co11, eo11⟩ := Kd.R_slice HO266.out
 (first | subst eo11 | (injection eo11 with f1_ f2_ f3_; have f4_ := f1_.symm; have f5_ := f3_.symm; clear f1_ f2_ f3_; subst f4_; subst f5_))
 refine hK.out _ _ ⟨(blk_cell BK260.out 0).trans rfl, (blk_cell BK260.out 1).trans rfl, (blk_cell BK261.out 0).trans rfl, (blk_cell BK261.out 1).trans rfl⟩ (fun hHeld => ?_)
 clear hK K
 refine norm_ (a' := ?_) ?_ ?_
 rotate_left
 ·
  show Act.put _ (some 15) _ = _
  simp only [Act.put, List.setIfInBounds_toArray, List.set_cons_zero, List.set_cons_succ, i64_w, i32_w]
  rfl
 refine one_ (i := 11) (N := some 16) #[true, true, true, true, true, true, true, true, true, true, true, true, false] rfl rfl (one_of HT_.out (by kernel_rfl)) (by decide) (fun K hK => ?_)
 refine goes_ Try.func72 (by kernel_rfl) rfl #[.slice Ao11 y264.length co11] (by rfl) rfl rfl (by (try simp only [List.map_toArray, List.map_cons, List.map_nil]); first | done | rfl | (simp only [List.length_drop, List.length_take]; rfl)) ?_
 with_reducible refine (cmp_Or_int.calls k _ _ y264 t267 _ ?side1 ?side2 A5.out).mono ?_
 (case side1 => exact rc0 HO266)
 (case side2 => exact (Kd.R_reads' HO266.out).2.1)
 rintro e w' ⟨rfl, ⟨nd, rfl⟩⟩
 refine ⟨_, rfl, ?_⟩
 refine hK.out _ _ ⟨(blk_cell BK260.out 0).trans rfl, (blk_cell BK260.out 1).trans rfl, (blk_cell BK261.out 0).trans rfl, (blk_cell BK261.out 1).trans rfl⟩ (fun hHeld => ?_)
 clear hK K
 refine norm_ (a' := ?_) ?_ ?_
 rotate_left
 ·
  show Act.put _ (some 16) _ = _
  simp only [Act.put, List.setIfInBounds_toArray, List.set_cons_zero, List.set_cons_succ, i64_w, i32_w]
  rfl
 refine pureS 12 4 HT_.out ?_
 refine done_ (done_of HT_.out (by kernel_rfl)) ?_
 try go_wp2
 go_ret
 exact ⟨by first | rfl | (simp [errW_none, errW_some] <;> rfl) | (simp [*, errW_none, errW_some] <;> rfl), bs2 HB GE260 GE261, by have h1_ := DR.out; first | exact h1_ | (simp only [World.drewN]; omega)⟩

/-! ### slices_SortFunc_impl_Extent_at_impl_compareSizes: function 52 at given function values -/
-- slices.SortFunc at compareSizes: the row, sorted by length and place. By the shelf's contract (Derived.Shelf.SlSortCmp) at this program's own numbers.
def leSizes (x y : S53) : Bool := decide (x.f1 < y.f1 ∨ x.f1 = y.f1 ∧ x.f0 ≤ y.f0)
def slices_SortFunc_impl_Extent_at_impl_compareSizes.f (l0 : List S53) : Option (List S53) := if l0.length ≤ 1048576 then some (l0.mergeSort leSizes) else none
def cmpInts (a b : Int) : Int := if a < b then -1 else if a > b then 1 else 0
def cmpSizes (x y : S53) : Int := if cmpInts x.f1 y.f1 = 0 then cmpInts x.f0 y.f0 else cmpInts x.f1 y.f1
theorem cmpInts_eq (a b : Int) : cmp_Compare_int.f a b = some (cmpInts a b) := by
  unfold cmp_Compare_int.f cmp_isNaN_int.f cmpInts
  have e : (a != a) = false := by simp
  have e2 : (b != b) = false := by simp
  rw [e, e2]
  simp only [Option.bind_some, Bool.false_eq_true, if_false]
  by_cases h1 : a < b
  · rw [if_pos h1, if_pos h1]
  · rw [if_neg h1, if_neg h1]
    by_cases h2 : a > b
    · rw [if_pos h2, if_pos h2]
    · rw [if_neg h2, if_neg h2]
theorem cmpOr_eq (a b : Int) : cmp_Or_int.f 3 [a, b] = some (if a = 0 then b else a) := by
  have w1 : wrap64 (0 + 1) = 1 := by unfold wrap64; omega
  have w2 : wrap64 (1 + 1) = 2 := by unfold wrap64; omega
  unfold cmp_Or_int.f
  have l : (([a, b] : List Int).length : Int) = 2 := rfl
  rw [l, cmp_Or_int.l0, if_pos (by decide), if_pos (by decide), l, if_pos (by decide), show rd [a, b] 0 = a from rfl]
  by_cases h : a = 0
  · rw [if_pos h, if_pos h, w1, cmp_Or_int.l0, if_pos (by decide), if_pos (by decide), l, if_pos (by decide), show rd [a, b] 1 = b from rfl]
    by_cases h2 : b = 0
    · rw [if_pos h2, w2, cmp_Or_int.l0, if_neg (by decide), h2]
    · rw [if_neg h2]
  · rw [if_neg h, if_neg h]
theorem cmpSizes_eq (x y : S53) : impl_compareSizes.f 3 x.f0 x.f1 y.f0 y.f1 = some (cmpSizes x y) := by
  unfold impl_compareSizes.f
  rw [cmpInts_eq, Option.bind_some, cmpInts_eq, Option.bind_some, cmpOr_eq, Option.bind_some]
  rfl
theorem cmpInts_lt (a b : Int) : cmpInts a b < 0 ↔ a < b := by
  unfold cmpInts
  split
  · omega
  · split <;> omega
theorem cmpInts_zero (a b : Int) : cmpInts a b = 0 ↔ a = b := by
  unfold cmpInts
  split
  · omega
  · split <;> omega
theorem cmpSizes_lt (x y : S53) : Go.Proofs.ltOf cmpSizes x y = decide (x.f1 < y.f1 ∨ x.f1 = y.f1 ∧ x.f0 < y.f0) := by
  unfold Go.Proofs.ltOf cmpSizes
  refine decide_eq_decide.2 ?_
  by_cases h : cmpInts x.f1 y.f1 = 0
  · rw [if_pos h, cmpInts_lt]
    have := (cmpInts_zero _ _).1 h
    omega
  · rw [if_neg h, cmpInts_lt]
    have : x.f1 ≠ y.f1 := fun e => h ((cmpInts_zero _ _).2 e)
    omega
def encSizes (x : S53) : List Value := [.int .i64 x.f0, .int .i64 x.f1]
instance : Inhabited S53 := ⟨z53⟩
theorem swoSizes : Go.Sort.SWO (Go.Proofs.ltOf cmpSizes) where
  irrefl x := by rw [cmpSizes_lt]; simp
  trans x y z h1 h2 := by rw [cmpSizes_lt] at *; simp only [decide_eq_true_eq] at *; omega
  ntrans x y z h1 h2 := by rw [cmpSizes_lt] at *; simp only [decide_eq_false_iff_not] at *; omega
theorem totSizes (x y : S53) (h1 : Go.Proofs.ltOf cmpSizes x y = false) (h2 : Go.Proofs.ltOf cmpSizes y x = false) : x = y := by
  rw [cmpSizes_lt] at *
  simp only [decide_eq_false_iff_not] at *
  obtain ⟨a, b⟩ := x
  obtain ⟨c, d⟩ := y
  simp only at *
  rw [show a = c by omega, show b = d by omega]
theorem leSizes_eq : (fun x y => !(Go.Proofs.ltOf cmpSizes) y x) = leSizes := by
  funext x y
  rw [cmpSizes_lt]
  unfold leSizes
  rw [Bool.eq_iff_iff, Bool.not_eq_true', decide_eq_false_iff_not, decide_eq_true_iff]
  omega
set_option maxRecDepth 100000 in
theorem slices_SortFunc_impl_Extent_at_impl_compareSizes.calls (P0_ : Nat → Prop) (u9000_ : Value) (l0 : List S53) (r : List S53) (w0 w : World) (hB : Below w0.heap.size w0 w) (ho0 : Kd.R k53 53 w w0.heap.size P0_ u9000_ l0) (h : slices_SortFunc_impl_Extent_at_impl_compareSizes.f l0 = some r) :
    Calls Try.prog 52 #[u9000_, .func (.func 53) #[] #[]] w fun e w' => e = .returned (.tuple #[]) ∧ Kd.R k53 53 w' w0.heap.size (fun k_ => (P0_ k_ ∨ w.heap.size ≤ k_)) u9000_ r ∧ Below w0.heap.size w0 w' ∧ Kept w w' (fun k_ => P0_ k_) := by
  unfold slices_SortFunc_impl_Extent_at_impl_compareSizes.f at h
  by_cases hl0 : l0.length ≤ 1048576
  case neg => rw [if_neg hl0] at h; cases h
  rw [if_pos hl0] at h
  obtain rfl := Option.some.inj h
  rcases holdsK_of_R (d := k53) encSizes (fun _ => rfl) (by decide) (fun hm => k53_openM hm) ho0 with ⟨rfl, rfl⟩ | ⟨g, cap, cur, rfl, hb, hok, hlt, hg, hc, hm, hs, hH⟩
  · refine (Go.Proofs.AnyF.slices_SortFunc_none Go.Proofs.Ytakgjdckolllaaa.Srt.sortEx none 0 _ w).mono fun e w' hp => ?_
    obtain ⟨rfl, rfl⟩ := hp
    exact ⟨rfl, by simpa using Kd.R_nil _ _ _ _ _, hB, Kept.refl _ _⟩
  · have eg : ∀ args w, (callFunc 53 args).run Try.prog w = .ok (.enter 53 args) w := Go.Proofs.enters_of Try.func53 (by kernel_rfl) rfl
    have hcmp : Go.Proofs.CmpLays Try.prog 53 #[] encSizes 2 cmpSizes g 0 l0.toArray.size w := fun m os dk _ x y =>
      (impl_compareSizes.exact 3 x.f0 x.f1 y.f0 y.f1 _ _ (cmpSizes_eq x y)).mono fun e w' hp => ⟨hp.1, grow_of_below hp.2.1 hp.2.2⟩
    have hm' : cap ≤ 9223372036854775807 := hm
    have hsz : l0.toArray.size < 4611686018427387904 := by
      rw [List.size_toArray]
      omega
    have hcon := Go.Proofs.AnyQ.slices_SortFunc_total Go.Proofs.Ytakgjdckolllaaa.Srt.sortEx 2 Try.isAgg53 Try.sizeOf53 encSizes (fun _ => rfl) (fun x v hv => by simp [encSizes] at hv; rcases hv with rfl | rfl <;> rfl) cmpSizes swoSizes 53 #[] g 0 cap l0.toArray w eg hcmp hH hlt hsz totSizes
    refine Calls.mono (show Calls Try.prog 52 #[.slice (some ⟨g, 0, none⟩) l0.length cap, .func (.func 53) #[] #[]] w _ from hcon) fun e w' hp => ?_
    obtain ⟨rfl, n, os, rfl⟩ := hp
    rw [leSizes_eq]
    have := R_of_sort (d := k53) encSizes (fun _ => rfl) (by decide) (fun W base ok x => k53_mkM W base ok x) hB hb hok hlt hg hc hm hs (l0.mergeSort leSizes).toArray (by simp) n os
    have h1 := this.1
    simp at h1
    exact ⟨rfl, h1, this.2.1, this.2.2⟩

/-! ### impl_freeOf: function 33 -/
def impl_freeOf.f (a0 : Int) (l1 : List (S53)) : Option (Int × (List (S53)) × (List (S53))) := (impl_Extent_51.f l1).bind fun t269 => ((slices_SortFunc_impl_Extent_at_impl_compareSizes.f t269).bind fun t272 => (some (a0, l1, t272)))
set_option maxHeartbeats 8000000 in
set_option maxRecDepth 100000 in
theorem impl_freeOf.calls (a0 : Int) (P1_ : Nat → Prop) (A1 : Option Addr) (c1 : Nat) (l1 : List (S53)) (r1 : Int) (r2 : List (S53)) (r3 : List (S53)) (w : World) (hs1 : Kd.V k53 53 w w.heap.size (fun k_ => P1_ k_) (.slice A1 l1.length c1) l1) (h : impl_freeOf.f a0 l1 = some (r1, r2, r3)) :
  Calls Try.prog 33 #[.int .i64 a0, .slice A1 l1.length c1] w fun e w' => ∃ v1_ v2_ : Value, e = .returned (.agg #[.int .i64 r1, v1_, v2_]) ∧ Kd.V k53 53 w' w.heap.size (fun k_ => (P1_ k_ ∨ w.heap.size ≤ k_) ∧ some k_ ≠ (v2_ : Value).ownBlock) v1_ r2 ∧ Kd.R k53 53 w' w.heap.size (fun k_ => (w.heap.size ≤ k_)) v2_ r3 ∧ Below w.heap.size w w' := by
 have hu24 := Try.underlying24
 have HO1 := Aside0.mk (show Kd.V k53 53 w w.heap.size (fun k_ => (P1_ k_ ∨ w.heap.size ≤ k_)) (.slice A1 l1.length c1) l1 from Kd.V_mono hs1 (fun k_ hk => .inl hk))
 have HB := Aside0.mk (Below.refl w.heap.size w)
 have H : ((impl_Extent_51.f l1).bind fun t269 => ((slices_SortFunc_impl_Extent_at_impl_compareSizes.f t269).bind fun t272 => (some (a0, l1, t272)))) = some (r1, r2, r3) := h
 clear h
 replace H := Option.bind_eq_some_iff.mp H
 obtain ⟨t269, A30, H⟩ := H
 replace H : ((slices_SortFunc_impl_Extent_at_impl_compareSizes.f t269).bind fun t272 => (some (a0, l1, t272))) = some (r1, r2, r3) := H
 have A3 := Aside0.mk A30
 clear A30
 replace H := Option.bind_eq_some_iff.mp H
 obtain ⟨t272, A40, H⟩ := H
 replace H : (some (a0, l1, t272)) = some (r1, r2, r3) := H
 have A4 := Aside0.mk A40
 clear A40
 simp only [Option.some.injEq, Prod.mk.injEq] at H
 obtain ⟨rfl, rfl, rfl⟩ := H
 go_enter Try.func33, Try.ntmps33
 go_wp2_with (first | ((with_reducible refine gate_dst (N := 4) rfl ?_); refine box_event ?hg (N := 4) ?hd (cs := #[.int .i64 0, .slice none 0 0, .slice none 0 0]) (t := 24) ?hr ?_; (case hd => rfl); (case hg => rfl); (case hr => first | (go_simp; done) | (go_simp; rfl)); intro gb268 hg w5 hbox hb; replace HO1 := Aside0.mk (Kd.V_below (Kd.V_elderB (by (with_reducible repeat (first | apply Kd.V_alloc | apply Kd.V_drewN | apply Kd.V_drew)); exact HO1.out) gb268 (Nat.le_of_eq hg.symm)) hb); have BK268 := Aside0.mk (hbox); have GW268 := Aside0.mk ((by rw [hg]; exact (below_size (bs HB)) : w.heap.size ≤ gb268)); have GE268 := Aside0.mk ((by rw [hg]; exact (below_size (bs HB)) : w.heap.size ≤ gb268)); replace HB := Aside0.mk (below_step (bs HB) hb); clear hb hbox hg) | ((with_reducible refine gate_callee (f := 51) rfl ?_); refine gL (some 7) rfl rfl Try.func51 (by kernel_rfl) rfl #[.slice A1 l1.length c1] rfl ?_; (with_reducible refine (impl_Extent_51.calls _ _ l1 t269 _ ?side1 ?side2 A3.out).mono ?_); (case side1 => repeat (first | exact (Kd.V_reads' HO1.out).2.2 | (with_reducible refine Kd.C_alloc ?_ _) | (with_reducible refine Kd.C_drewN ?_ _) | (with_reducible refine Kd.C_drew ?_))); (case side2 => exact (Kd.V_reads' HO1.out).2.1); rintro e w6 ⟨v270, rfl, ho0, hb⟩; refine ⟨_, rfl, ?_⟩; replace HO1 := Aside0.mk (Kd.V_elder' (by (with_reducible repeat (first | apply Kd.V_alloc | apply Kd.V_drewN | apply Kd.V_drew)); exact HO1.out) (Kd.R_base ho0) hb); have HO271 := Aside0.mk (Kd.R_lower (Kd.R_newM (M := fun k_ => (w.heap.size ≤ k_)) ho0 (below_size (bs1 HB GE268)) (fun k_ h_ => h_)) (below_size (bs1 HB GE268))); replace BK268 := nb BK268 hb; replace HB := Aside0.mk (below_step (bs1 HB GE268) hb); (try clear hb); (try clear hb2); (try clear hk); (try clear hi); (try clear ho0); obtain ⟨Ao7, co7, eo7⟩ := Kd.R_slice HO271.out; subst eo7) | ((with_reducible refine gate_callee (f := 52) rfl ?_); refine gL (some 9) rfl rfl Try.func52 (by kernel_rfl) rfl #[.slice Ao7 t269.length co7, .func (.func 53) #[] #[]] rfl ?_; (with_reducible refine (slices_SortFunc_impl_Extent_at_impl_compareSizes.calls (fun k_ => some k_ = (.slice Ao7 t269.length co7 : Value).ownBlock) (.slice Ao7 t269.length co7) t269  t272 w _ ?side1 ?side2 A4.out).mono ?_); (case side1 => repeat (first | (with_reducible first | exact HB.out | apply below_alloc | apply pw_below_drewN | apply below_drew1 | refine below_set ?_ GE268.out) | exact HB.out)); (case side2 => exact Kd.R_tight rfl HO271.out); rintro e w8 ⟨rfl, hy0, hb, hkp⟩; refine ⟨_, rfl, ?_⟩; replace HO1 := Aside0.mk (Kd.V_mono (ok' := fun k_ => (P1_ k_ ∨ w.heap.size ≤ k_) ∧ some k_ ≠ (.slice Ao7 t269.length co7 : Value).ownBlock ∧ k_ ≠ gb268) (Kd.V_keptB (HO1.out) hkp (fun k_ hk_ hs_ => (hk_.2) hs_)) (fun k_ hk_ => ⟨hk_.1.1.1, hk_.1.2, hk_.1.1.2⟩)); replace BK268 := Aside0.mk (blk_kept (bk BK268) hkp (fun hs_ => (fun e_ => (Kd.R_ne HO271.out BK268.out (by decide)) e_) hs_)); replace HO271 := Aside0.mk (Kd.R_reok rfl hy0 (fun k_ e_ => HO271.out.1 k_ e_)); replace HB := Aside0.mk (hb); (try clear hb); (try clear hkp); (try clear hy0); obtain ⟨hcz9_0, hcz9_1, hcz9_2⟩ := cz3 BK268; obtain ⟨hfz9_0, hfz9_1, hfz9_2⟩ := fz3 BK268))
 refine bodyPost_ret (results_cell_row rfl _ _ gb268 24 #[.int .i64 a0, .slice A1 l1.length c1, .slice Ao7 t269.length co7] (0, 0) _ rfl (by (with_reducible repeat (first | refine blk_drewN ?_ _ | refine blk_drew ?_ | refine blk_alloc ?_ _)); refine blk_put (cs := #[.int .i64 a0, .slice A1 l1.length c1, .slice none 0 0]) ?_ 2 _ rfl; (with_reducible repeat (first | refine blk_drewN ?_ _ | refine blk_drew ?_ | refine blk_alloc ?_ _)); refine blk_put (cs := #[.int .i64 a0, .slice none 0 0, .slice none 0 0]) ?_ 1 _ rfl; (with_reducible repeat (first | refine blk_drewN ?_ _ | refine blk_drew ?_ | refine blk_alloc ?_ _)); refine blk_put (cs := #[.int .i64 0, .slice none 0 0, .slice none 0 0]) ?_ 0 _ rfl; (with_reducible repeat (first | refine blk_drewN ?_ _ | refine blk_drew ?_ | refine blk_alloc ?_ _)); exact BK268.out) Try.underlying24 rfl (by kernel_rfl)) rfl ?_
 exact ⟨_, _, by first | rfl | (simp [errW_none, errW_some] <;> rfl) | (simp [*, errW_none, errW_some] <;> rfl), by (with_reducible repeat (first | apply Kd.V_alloc | apply Kd.V_drewN | apply Kd.V_drew)); exact Kd.V_mono (Kd.V_far (p := ⟨gb268, 2, none⟩) (Kd.V_far (p := ⟨gb268, 1, none⟩) (Kd.V_far (p := ⟨gb268, 0, none⟩) (Kd.V_mono HO1.out (fun k_ hk => (⟨hk, hk.2.2⟩ : _ ∧ k_ ≠ gb268))) (fun _ hk => hk.2) (.int .i64 a0)) (fun _ hk => hk.2) (.slice A1 l1.length c1)) (fun _ hk => hk.2) (.slice Ao7 t269.length co7)) (fun _ hk => ⟨hk.1.1, hk.1.2.1⟩), by (with_reducible repeat (first | apply Kd.R_alloc | apply Kd.R_drewN | apply Kd.R_drew)); exact Kd.R_mono (Kd.R_far (p := ⟨gb268, 2, none⟩) (Kd.R_far (p := ⟨gb268, 1, none⟩) (Kd.R_far (p := ⟨gb268, 0, none⟩) (Kd.R_types HO271.out BK268.out (by decide)) (fun _ hk => hk.2) (.int .i64 a0)) (fun _ hk => hk.2) (.slice A1 l1.length c1)) (fun _ hk => hk.2) (.slice Ao7 t269.length co7)) (fun _ hk => hk.1.1), bs1 HB GE268⟩

/-! ### impl_isExtent: function 78 -/
def impl_isExtent.f (a0_0 : Int) (a0_1 : Int) (a1 : Int) : Option (Bool) := (impl_within.f a0_0 0 (wrap64 (a1 - 1))).bind fun t274 => (if t274 = true then ((impl_within.f a0_1 1 (wrap64 (a1 - a0_0))).bind fun t275 => (some t275)) else (some false))
set_option maxHeartbeats 8000000 in
set_option maxRecDepth 100000 in
theorem impl_isExtent.calls (a0_0 : Int) (a0_1 : Int) (a1 : Int) (r : Bool) (w : World) (h : impl_isExtent.f a0_0 a0_1 a1 = some r) :
  Calls Try.prog 78 #[.agg #[.int .i64 a0_0, .int .i64 a0_1], .int .i64 a1] w fun e w' => e = .returned (.bool r) ∧ Below w.heap.size w w' := by
 have hu53 := Try.underlying53
 have HB := Aside0.mk (Below.refl w.heap.size w)
 have H : ((impl_within.f a0_0 0 (wrap64 (a1 - 1))).bind fun t274 => (if t274 = true then ((impl_within.f a0_1 1 (wrap64 (a1 - a0_0))).bind fun t275 => (some t275)) else (some false))) = some r := h
 clear h
 replace H := Option.bind_eq_some_iff.mp H
 obtain ⟨t274, A30, H⟩ := H
 replace H : (if t274 = true then ((impl_within.f a0_1 1 (wrap64 (a1 - a0_0))).bind fun t275 => (some t275)) else (some false)) = some r := H
 have A3 := Aside0.mk A30
 clear A30
 by_cases c4 : t274 = true
 ·
  subst c4
  rw [if_pos rfl] at H
  replace H := Option.bind_eq_some_iff.mp H
  obtain ⟨t275, A50, H⟩ := H
  replace H : (some t275) = some r := H
  have A5 := Aside0.mk A50
  clear A50
  obtain rfl := Option.some.inj H
  go_enter Try.func78, Try.ntmps78
  go_wp2_with (first | ((with_reducible refine gate_dst (N := 2) rfl ?_); refine box_event ?hg (N := 2) ?hd (cs := #[.int .i64 a0_0, .int .i64 a0_1]) (t := 53) ?hr ?_; (case hd => rfl); (case hg => rfl); (case hr => first | (go_simp; done) | (go_simp; rfl)); intro gb273 hg w6 hbox hb; have BK273 := Aside0.mk (hbox); have GW273 := Aside0.mk ((by rw [hg]; exact (below_size (bs HB)) : w.heap.size ≤ gb273)); have GE273 := Aside0.mk ((by rw [hg]; exact (below_size (bs HB)) : w.heap.size ≤ gb273)); replace HB := Aside0.mk (below_step (bs HB) hb); clear hb hbox hg; obtain ⟨hcz7_0, hcz7_1⟩ := cz2 BK273; obtain ⟨hfz7_0, hfz7_1⟩ := fz2 BK273) | ((with_reducible refine gate_callee (f := 32) rfl ?_); refine gL (some 9) rfl rfl Try.func32 (by kernel_rfl) rfl #[.int .i64 a0_0, .int .i64 0, .int .i64 (wrap64 (a1 - 1))] rfl ?_; (with_reducible refine (impl_within.calls a0_0 0 (wrap64 (a1 - 1)) true _ A3.out).mono ?_); rintro e w' ⟨rfl, ⟨nd, rfl⟩⟩; refine ⟨_, rfl, ?_⟩) | (go_at_call 32; (with_reducible refine (impl_within.calls a0_1 1 (wrap64 (a1 - a0_0)) t275 _ A5.out).mono ?_); rintro e w' ⟨rfl, ⟨nd, rfl⟩⟩))
  go_ret
  exact ⟨by first | rfl | (simp [errW_none, errW_some] <;> rfl) | (simp [*, errW_none, errW_some] <;> rfl), bs1 HB GE273⟩
 ·
  replace c4 := Bool.eq_false_iff.mpr c4
  subst c4
  rw [if_neg (show ¬ (false = true) by decide)] at H
  obtain rfl := Option.some.inj H
  go_enter Try.func78, Try.ntmps78
  go_wp2_with (first | ((with_reducible refine gate_dst (N := 2) rfl ?_); refine box_event ?hg (N := 2) ?hd (cs := #[.int .i64 a0_0, .int .i64 a0_1]) (t := 53) ?hr ?_; (case hd => rfl); (case hg => rfl); (case hr => first | (go_simp; done) | (go_simp; rfl)); intro gb273 hg w8 hbox hb; have BK273 := Aside0.mk (hbox); have GW273 := Aside0.mk ((by rw [hg]; exact (below_size (bs HB)) : w.heap.size ≤ gb273)); have GE273 := Aside0.mk ((by rw [hg]; exact (below_size (bs HB)) : w.heap.size ≤ gb273)); replace HB := Aside0.mk (below_step (bs HB) hb); clear hb hbox hg; obtain ⟨hcz9_0, hcz9_1⟩ := cz2 BK273; obtain ⟨hfz9_0, hfz9_1⟩ := fz2 BK273) | ((with_reducible refine gate_callee (f := 32) rfl ?_); refine gL (some 9) rfl rfl Try.func32 (by kernel_rfl) rfl #[.int .i64 a0_0, .int .i64 0, .int .i64 (wrap64 (a1 - 1))] rfl ?_; (with_reducible refine (impl_within.calls a0_0 0 (wrap64 (a1 - 1)) false _ A3.out).mono ?_); rintro e w' ⟨rfl, ⟨nd, rfl⟩⟩; refine ⟨_, rfl, ?_⟩))
  go_ret
  exact ⟨by first | rfl | (simp [errW_none, errW_some] <;> rfl) | (simp [*, errW_none, errW_some] <;> rfl), bs1 HB GE273⟩

end Go.Proofs.Ytakgjdckolllaaa.G
