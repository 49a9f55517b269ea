-- Printed by a program of this session (drive.py, by way of the kit's print). Not trusted: Lean checks it.
import Derived.Test.YtakgjdckolllaaaG0
import Derived.Test.YtakgjdckolllaaaG2
import Derived.Test.YtakgjdckolllaaaG3
import Derived.Test.YtakgjdckolllaaaG5
namespace Go.Proofs.Ytakgjdckolllaaa.G
open Go.RowKit Go.Proofs.YtakgjdckolllaaaW.PrintWords Go.Proofs.YtakgjdckolllaaaW.PrintLast Go.Proofs.YtakgjdckolllaaaW.PrintMore
attribute [local go_sem] max2_int min2_int max_two min_two max_three min_three max_four min_four   -- for this text's walks alone
set_option linter.unusedVariables false
set_option linter.unusedSimpArgs false

/-! ### laws_markItemS: function 21 -/
def laws_markItemS.l0 : Nat → List (S71) → Int → Int → Option (Int × (List (S71)))
 | 0, _, _, _ => none
 | k + 1, x0, x1, x5 => if x5 < (x0.length : Int) then (if 0 ≤ x5 then ((some (x0.set (x5 : Int).toNat (⟨x1, (rd_T71 x0 x5).f1, (⟨(rd_T71 x0 x5).f2.f0, (rd_T71 x0 x5).f2.f1⟩ : S53), (rd_T71 x0 x5).f3⟩ : S71) : List (S71))).bind fun y362 => ((some (y362.set (x5 : Int).toNat (⟨(rd_T71 y362 x5).f0, wrap64 (x1 + 1), (⟨(rd_T71 y362 x5).f2.f0, (rd_T71 y362 x5).f2.f1⟩ : S53), (rd_T71 y362 x5).f3⟩ : S71) : List (S71))).bind fun y363 => ((some (y363.set (x5 : Int).toNat (⟨(rd_T71 y363 x5).f0, (rd_T71 y363 x5).f1, (⟨wrap64 ((wrap64 (x1 + 1)) + 1), (rd_T71 y363 x5).f2.f1⟩ : S53), (rd_T71 y363 x5).f3⟩ : S71) : List (S71))).bind fun y364 => ((some (y364.set (x5 : Int).toNat (⟨(rd_T71 y364 x5).f0, (rd_T71 y364 x5).f1, (⟨(rd_T71 y364 x5).f2.f0, wrap64 ((wrap64 ((wrap64 (x1 + 1)) + 1)) + 1)⟩ : S53), (rd_T71 y364 x5).f3⟩ : S71) : List (S71))).bind fun y365 => (laws_markItemS.l0 k (y365.set (x5 : Int).toNat (⟨(rd_T71 y365 x5).f0, (rd_T71 y365 x5).f1, (⟨(rd_T71 y365 x5).f2.f0, (rd_T71 y365 x5).f2.f1⟩ : S53), wrap64 ((wrap64 ((wrap64 ((wrap64 (x1 + 1)) + 1)) + 1)) + 1)⟩ : S71)) (wrap64 ((wrap64 ((wrap64 ((wrap64 ((wrap64 (x1 + 1)) + 1)) + 1)) + 1)) + 1)) (wrap64 (x5 + 1))))))) else (none)) else (some (x1, x0))
def laws_markItemS.f (k : Nat) (l0 : List (S71)) (a1 : Int) : Option (Int × (List (S71))) := laws_markItemS.l0 k l0 a1 0
theorem laws_markItemS.mono_l : ∀ k, (∀ y0 y1 y2, LeO (laws_markItemS.l0 k y0 y1 y2) (laws_markItemS.l0 (k + 1) y0 y1 y2))
 | 0 => fun _ _ _ r h => by simp [laws_markItemS.l0] at h
 | k + 1 => by
  have ih0 := laws_markItemS.mono_l k
  ·
   intro y0 y1 y2
   unfold laws_markItemS.l0
   repeat' first
   | (with_reducible exact ih0 _ _ _)
   | (with_reducible exact LeO.refl _)
   | (with_reducible exact LeO.none _)
   | (with_reducible refine LeO.ite ?_ ?_)
   | (with_reducible refine LeO.bind ?_ (fun _ => ?_))
   | exact ih0 _ _ _
   | exact LeO.none _
   | refine LeO.ite ?_ ?_
   | refine LeO.bind ?_ (fun _ => ?_)
theorem laws_markItemS.mono : ∀ a0 a1 k, LeO (laws_markItemS.f k a0 a1) (laws_markItemS.f (k + 1) a0 a1) := by
 intro a0 a1 k
 have ih0 := laws_markItemS.mono_l k
 unfold laws_markItemS.f
 repeat' first
   | (with_reducible exact ih0 _ _ _)
   | (with_reducible exact LeO.refl _)
   | (with_reducible exact LeO.none _)
   | (with_reducible refine LeO.ite ?_ ?_)
   | (with_reducible refine LeO.bind ?_ (fun _ => ?_))
   | exact ih0 _ _ _
   | exact LeO.none _
   | refine LeO.ite ?_ ?_
   | refine LeO.bind ?_ (fun _ => ?_)
set_option maxHeartbeats 8000000 in
set_option maxRecDepth 100000 in
theorem laws_markItemS.calls (k : Nat) (P0_ : Nat → Prop) (u9000_ : Value) (l0 : List (S71)) (a1 : Int) (r1 : Int) (r2 : List (S71)) (w0 w : World) (hB : Below w0.heap.size w0 w) (ho0 : Kd.R k71 71 w w0.heap.size P0_ u9000_ l0) (h : laws_markItemS.f k l0 a1 = some (r1, r2)) :
  Calls Try.prog 21 #[u9000_, .int .i64 a1] w fun e w' => e = .returned (.int .i64 r1) ∧ Kd.R k71 71 w' w0.heap.size (fun k_ => (P0_ k_ ∨ w.heap.size ≤ k_)) u9000_ r2 ∧ Below w0.heap.size w0 w' ∧ Kept w w' (fun k_ => P0_ k_) := by
 have HO0 := Aside0.mk (show Kd.R k71 71 w w0.heap.size (fun k_ => (P0_ k_ ∨ w.heap.size ≤ k_)) u9000_ l0 from Kd.R_mono ho0 (fun k_ hk => (.inl hk)))
 have HK := Aside0.mk (Kept.refl w (fun k_ => P0_ k_))
 have HW0 := Aside0.mk hB.size
 have HB := Aside0.mk hB
 clear hB
 have H : (laws_markItemS.l0 k l0 a1 0) = some (r1, r2) := h
 clear h
 have H' := Aside0.mk H
 clear H
 go_enter Try.func21, Try.ntmps21
 go_wp2
 go_loopg [1, 5] k (fun kq v1 v5 w' => ∃ (x0_1 : List (S71)) (x1_1 : Int) (x5_1 : Int), v1 = .int .i64 x1_1 ∧ v5 = .int .i64 x5_1 ∧ Aside0 (laws_markItemS.l0 kq x0_1 x1_1 x5_1 = some (r1, r2)) ∧ Aside0 (kq ≤ k) ∧ Aside0 (Kd.R k71 71 w' w0.heap.size (fun k_ => (P0_ k_ ∨ w.heap.size ≤ k_)) u9000_ x0_1) ∧ Aside0 (Kept w w' (fun k_ => P0_ k_)) ∧ Aside0 (Below w0.heap.size w0 w'))
 case atStart => exact ⟨(l0), (a1), (0), (by first | rfl | (simp; done) | (simp [*]; done)), (by first | rfl | (simp; done) | (simp [*]; done)), H', ⟨Nat.le_refl _⟩, ⟨rr HO0.out⟩, ⟨by repeat (first | (with_reducible first | exact HK.out | apply Kept.alloc | apply Kept.drewN | apply Kept.drew) | exact HK.out)⟩, ⟨bs HB⟩⟩
 case round =>
  clear H'
  try clear c2
  try clear p2
  obtain ⟨x0_1, x1_1, x5_1, rfl, rfl, HA, HK1, HO_0, HK, HB⟩ := hrel
  cases gk with
  | zero => exact absurd HA.out (by simp [laws_markItemS.l0])
  | succ k1 =>
   have H := HA.out
   clear HA
   simp only [laws_markItemS.l0] at H
   by_cases c3 : x5_1 < (x0_1.length : Int)
   ·
    rw [if_pos c3] at H
    have c3b0 : decide (x5_1 < (x0_1.length : Int)) = true := decide_eq_true c3
    clear c3
    by_cases c4 : 0 ≤ x5_1
    ·
     rw [if_pos c4] at H
     have c4b0 : decide (0 ≤ x5_1) = true := decide_eq_true c4
     clear c4
     obtain ⟨y362, hy362⟩ : ∃ y_ : List (S71), y_ = (x0_1.set (x5_1 : Int).toNat (⟨x1_1, (rd_T71 x0_1 x5_1).f1, (⟨(rd_T71 x0_1 x5_1).f2.f0, (rd_T71 x0_1 x5_1).f2.f1⟩ : S53), (rd_T71 x0_1 x5_1).f3⟩ : S71)) := ⟨_, rfl⟩
     replace H : ((some (y362.set (x5_1 : Int).toNat (⟨(rd_T71 y362 x5_1).f0, wrap64 (x1_1 + 1), (⟨(rd_T71 y362 x5_1).f2.f0, (rd_T71 y362 x5_1).f2.f1⟩ : S53), (rd_T71 y362 x5_1).f3⟩ : S71) : List (S71))).bind fun y363 => ((some (y363.set (x5_1 : Int).toNat (⟨(rd_T71 y363 x5_1).f0, (rd_T71 y363 x5_1).f1, (⟨wrap64 ((wrap64 (x1_1 + 1)) + 1), (rd_T71 y363 x5_1).f2.f1⟩ : S53), (rd_T71 y363 x5_1).f3⟩ : S71) : List (S71))).bind fun y364 => ((some (y364.set (x5_1 : Int).toNat (⟨(rd_T71 y364 x5_1).f0, (rd_T71 y364 x5_1).f1, (⟨(rd_T71 y364 x5_1).f2.f0, wrap64 ((wrap64 ((wrap64 (x1_1 + 1)) + 1)) + 1)⟩ : S53), (rd_T71 y364 x5_1).f3⟩ : S71) : List (S71))).bind fun y365 => (laws_markItemS.l0 k1 (y365.set (x5_1 : Int).toNat (⟨(rd_T71 y365 x5_1).f0, (rd_T71 y365 x5_1).f1, (⟨(rd_T71 y365 x5_1).f2.f0, (rd_T71 y365 x5_1).f2.f1⟩ : S53), wrap64 ((wrap64 ((wrap64 ((wrap64 (x1_1 + 1)) + 1)) + 1)) + 1)⟩ : S71)) (wrap64 ((wrap64 ((wrap64 ((wrap64 ((wrap64 (x1_1 + 1)) + 1)) + 1)) + 1)) + 1)) (wrap64 (x5_1 + 1)))))) = some (r1, r2) := by first | (rw [hy362]; with_reducible exact H) | (have H2_ := (Option.bind_some _ _).symm.trans H; rw [hy362]; with_reducible exact H2_) | (have H2_ := (Option.bind_some _ _).symm.trans H; with_reducible exact H2_) | with_reducible exact H | (rw [hy362]; exact H) | exact H
     have Ny362 := Aside0.mk hy362
     clear hy362
     obtain ⟨y363, hy363⟩ : ∃ y_ : List (S71), y_ = (y362.set (x5_1 : Int).toNat (⟨(rd_T71 y362 x5_1).f0, wrap64 (x1_1 + 1), (⟨(rd_T71 y362 x5_1).f2.f0, (rd_T71 y362 x5_1).f2.f1⟩ : S53), (rd_T71 y362 x5_1).f3⟩ : S71)) := ⟨_, rfl⟩
     replace H : ((some (y363.set (x5_1 : Int).toNat (⟨(rd_T71 y363 x5_1).f0, (rd_T71 y363 x5_1).f1, (⟨wrap64 ((wrap64 (x1_1 + 1)) + 1), (rd_T71 y363 x5_1).f2.f1⟩ : S53), (rd_T71 y363 x5_1).f3⟩ : S71) : List (S71))).bind fun y364 => ((some (y364.set (x5_1 : Int).toNat (⟨(rd_T71 y364 x5_1).f0, (rd_T71 y364 x5_1).f1, (⟨(rd_T71 y364 x5_1).f2.f0, wrap64 ((wrap64 ((wrap64 (x1_1 + 1)) + 1)) + 1)⟩ : S53), (rd_T71 y364 x5_1).f3⟩ : S71) : List (S71))).bind fun y365 => (laws_markItemS.l0 k1 (y365.set (x5_1 : Int).toNat (⟨(rd_T71 y365 x5_1).f0, (rd_T71 y365 x5_1).f1, (⟨(rd_T71 y365 x5_1).f2.f0, (rd_T71 y365 x5_1).f2.f1⟩ : S53), wrap64 ((wrap64 ((wrap64 ((wrap64 (x1_1 + 1)) + 1)) + 1)) + 1)⟩ : S71)) (wrap64 ((wrap64 ((wrap64 ((wrap64 ((wrap64 (x1_1 + 1)) + 1)) + 1)) + 1)) + 1)) (wrap64 (x5_1 + 1))))) = some (r1, r2) := by first | (rw [hy363]; with_reducible exact H) | (have H2_ := (Option.bind_some _ _).symm.trans H; rw [hy363]; with_reducible exact H2_) | (have H2_ := (Option.bind_some _ _).symm.trans H; with_reducible exact H2_) | with_reducible exact H | (rw [hy363]; exact H) | exact H
     have Ny363 := Aside0.mk hy363
     clear hy363
     obtain ⟨y364, hy364⟩ : ∃ y_ : List (S71), y_ = (y363.set (x5_1 : Int).toNat (⟨(rd_T71 y363 x5_1).f0, (rd_T71 y363 x5_1).f1, (⟨wrap64 ((wrap64 (x1_1 + 1)) + 1), (rd_T71 y363 x5_1).f2.f1⟩ : S53), (rd_T71 y363 x5_1).f3⟩ : S71)) := ⟨_, rfl⟩
     replace H : ((some (y364.set (x5_1 : Int).toNat (⟨(rd_T71 y364 x5_1).f0, (rd_T71 y364 x5_1).f1, (⟨(rd_T71 y364 x5_1).f2.f0, wrap64 ((wrap64 ((wrap64 (x1_1 + 1)) + 1)) + 1)⟩ : S53), (rd_T71 y364 x5_1).f3⟩ : S71) : List (S71))).bind fun y365 => (laws_markItemS.l0 k1 (y365.set (x5_1 : Int).toNat (⟨(rd_T71 y365 x5_1).f0, (rd_T71 y365 x5_1).f1, (⟨(rd_T71 y365 x5_1).f2.f0, (rd_T71 y365 x5_1).f2.f1⟩ : S53), wrap64 ((wrap64 ((wrap64 ((wrap64 (x1_1 + 1)) + 1)) + 1)) + 1)⟩ : S71)) (wrap64 ((wrap64 ((wrap64 ((wrap64 ((wrap64 (x1_1 + 1)) + 1)) + 1)) + 1)) + 1)) (wrap64 (x5_1 + 1)))) = some (r1, r2) := by first | (rw [hy364]; with_reducible exact H) | (have H2_ := (Option.bind_some _ _).symm.trans H; rw [hy364]; with_reducible exact H2_) | (have H2_ := (Option.bind_some _ _).symm.trans H; with_reducible exact H2_) | with_reducible exact H | (rw [hy364]; exact H) | exact H
     have Ny364 := Aside0.mk hy364
     clear hy364
     obtain ⟨y365, hy365⟩ : ∃ y_ : List (S71), y_ = (y364.set (x5_1 : Int).toNat (⟨(rd_T71 y364 x5_1).f0, (rd_T71 y364 x5_1).f1, (⟨(rd_T71 y364 x5_1).f2.f0, wrap64 ((wrap64 ((wrap64 (x1_1 + 1)) + 1)) + 1)⟩ : S53), (rd_T71 y364 x5_1).f3⟩ : S71)) := ⟨_, rfl⟩
     replace H : (laws_markItemS.l0 k1 (y365.set (x5_1 : Int).toNat (⟨(rd_T71 y365 x5_1).f0, (rd_T71 y365 x5_1).f1, (⟨(rd_T71 y365 x5_1).f2.f0, (rd_T71 y365 x5_1).f2.f1⟩ : S53), wrap64 ((wrap64 ((wrap64 ((wrap64 (x1_1 + 1)) + 1)) + 1)) + 1)⟩ : S71)) (wrap64 ((wrap64 ((wrap64 ((wrap64 ((wrap64 (x1_1 + 1)) + 1)) + 1)) + 1)) + 1)) (wrap64 (x5_1 + 1))) = some (r1, r2) := by first | (rw [hy365]; with_reducible exact H) | (have H2_ := (Option.bind_some _ _).symm.trans H; rw [hy365]; with_reducible exact H2_) | (have H2_ := (Option.bind_some _ _).symm.trans H; with_reducible exact H2_) | with_reducible exact H | (rw [hy365]; exact H) | exact H
     have Ny365 := Aside0.mk hy365
     clear hy365
     obtain ⟨y366, hy366⟩ : ∃ y_ : List (S71), y_ = (y365.set (x5_1 : Int).toNat (⟨(rd_T71 y365 x5_1).f0, (rd_T71 y365 x5_1).f1, (⟨(rd_T71 y365 x5_1).f2.f0, (rd_T71 y365 x5_1).f2.f1⟩ : S53), wrap64 ((wrap64 ((wrap64 ((wrap64 (x1_1 + 1)) + 1)) + 1)) + 1)⟩ : S71)) := ⟨_, rfl⟩
     replace H : (laws_markItemS.l0 k1 y366 (wrap64 ((wrap64 ((wrap64 ((wrap64 ((wrap64 (x1_1 + 1)) + 1)) + 1)) + 1)) + 1)) (wrap64 (x5_1 + 1))) = some (r1, r2) := by first | (rw [hy366]; with_reducible exact H) | (have H2_ := (Option.bind_some _ _).symm.trans H; rw [hy366]; with_reducible exact H2_) | (have H2_ := (Option.bind_some _ _).symm.trans H; with_reducible exact H2_) | with_reducible exact H | (rw [hy366]; exact H) | exact H
     have Ny366 := Aside0.mk hy366
     clear hy366
     have H' := Aside0.mk H
     clear H
     obtain ⟨Ao10, co10, eo10⟩ := Kd.R_slice HO_0.out
     subst eo10
     have p5 : 0 ≤ (x5_1 : Int) := of_decide_eq_true (by first | (with_reducible assumption) | assumption)
     have q5 : (x5_1 : Int) < ((x0_1.length : Int) : Int) := of_decide_eq_true (by first | (with_reducible assumption) | assumption)
     obtain ⟨go5, co5, eo5, gb5, gl5, cl5, HG5⟩ := Kd.R_form HO_0.out (by omega)
     (first | cases eo5 | (injection eo5 with ea_ en_ ec_; (first | subst ea_ | (injection ea_ with ea_; subst ea_)); subst ec_; clear en_))
     have GB5 := Aside0.mk gb5
     have GG5 := Aside0.mk HG5
     clear gb5 gl5 HG5
     have HMgo5 := Aside0.mk (show (P0_ go5 ∨ w.heap.size ≤ go5) from (HO_0.out.1 _ rfl))
     obtain ⟨ce5, hcl5, hM5, hcc5, hfr5⟩ := Kd.R_elem HO_0.out z71 (x5_1 : Int) p5 q5
     obtain rfl := k71_openM hM5
     have hx5_0 : wr.cell? ⟨go5, (x5_1 : Int).toNat * 5, none⟩ = some (.int .i64 ((rd_T71 x0_1 x5_1).f0)) := hcc5 0 _ rfl
     have hx5_1 : wr.cell? ⟨go5, (x5_1 : Int).toNat * 5 + 1, none⟩ = some (.int .i64 ((rd_T71 x0_1 x5_1).f1)) := hcc5 1 _ rfl
     have hx5_2 : wr.cell? ⟨go5, (x5_1 : Int).toNat * 5 + 2, none⟩ = some (.int .i64 ((rd_T71 x0_1 x5_1).f2.f0)) := hcc5 2 _ rfl
     have hx5_3 : wr.cell? ⟨go5, (x5_1 : Int).toNat * 5 + 3, none⟩ = some (.int .i64 ((rd_T71 x0_1 x5_1).f2.f1)) := hcc5 3 _ rfl
     have hx5_4 : wr.cell? ⟨go5, (x5_1 : Int).toNat * 5 + 4, none⟩ = some (.int .i64 ((rd_T71 x0_1 x5_1).f3)) := hcc5 4 _ rfl
     have hf5_0 : wr.frozen? ⟨go5, (x5_1 : Int).toNat * 5, none⟩ = false := hfr5 0
     have hf5_1 : wr.frozen? ⟨go5, (x5_1 : Int).toNat * 5 + 1, none⟩ = false := hfr5 1
     have hf5_2 : wr.frozen? ⟨go5, (x5_1 : Int).toNat * 5 + 2, none⟩ = false := hfr5 2
     have hf5_3 : wr.frozen? ⟨go5, (x5_1 : Int).toNat * 5 + 3, none⟩ = false := hfr5 3
     have hf5_4 : wr.frozen? ⟨go5, (x5_1 : Int).toNat * 5 + 4, none⟩ = false := hfr5 4
     clear hcl5 hcc5 hfr5 hM5
     replace p5 := eq_true p5
     replace q5 := eq_true q5
     have HX11 := Aside0.mk (show Kd.R k71 71 wr w0.heap.size (fun k_ => (P0_ k_ ∨ w.heap.size ≤ k_)) (.slice (some ⟨go5, 0, none⟩) x0_1.length co10) x0_1 from (rr HO_0.out))
     obtain ⟨ce11, hcl11, hM11, hcc11, hfr11⟩ := Kd.R_elem HX11.out z71 (x5_1 : Int) (of_decide_eq_true (by first | (with_reducible assumption) | assumption)) (by have h_ : (x5_1 : Int) < ((x0_1.length : Int) : Int) := of_decide_eq_true (by first | (with_reducible assumption) | assumption); first | exact h_ | (have e_ := (Kd.R_reads' HO_0.out).1; omega) | simpa using h_)
     obtain rfl := k71_openM hM11
     have HP11 := Kd.R_seg HX11.out (x5_1 : Int) (of_decide_eq_true (by first | (with_reducible assumption) | assumption)) (by have h_ : (x5_1 : Int) < ((x0_1.length : Int) : Int) := of_decide_eq_true (by first | (with_reducible assumption) | assumption); first | exact h_ | (have e_ := (Kd.R_reads' HO_0.out).1; omega) | simpa using h_) (seg := [.int .i64 x1_1]) (j := 0) hcl11 hcc11 (show 1 ≤ 5 from by decide) (x' := (⟨x1_1, (rd_T71 x0_1 x5_1).f1, (⟨(rd_T71 x0_1 x5_1).f2.f0, (rd_T71 x0_1 x5_1).f2.f1⟩ : S53), (rd_T71 x0_1 x5_1).f3⟩ : S71)) (k71_mkM _ _ _ (⟨x1_1, (rd_T71 x0_1 x5_1).f1, (⟨(rd_T71 x0_1 x5_1).f2.f0, (rd_T71 x0_1 x5_1).f2.f1⟩ : S53), (rd_T71 x0_1 x5_1).f3⟩ : S71) ) (fun _ hk => hk)
     have hx11_0 := hcc11 0 _ rfl
     (try simp only [show (k71).sz = 5 from rfl, Nat.mul_one, Nat.add_zero] at hx11_0)
     have hf11_0 := hfr11 0
     (try simp only [show (k71).sz = 5 from rfl, Nat.mul_one, Nat.add_zero] at hf11_0)
     clear hcl11 hcc11 hfr11 hM11
     go_wp2_with (first | ((with_reducible refine gate_store (t := 3) (p := 16) rfl ?_); refine store_event (t := 3) (p := 16) (v := ?vo_w12) (w1 := (wr.setCell ⟨go5, (x5_1 : Int).toNat * 5, none⟩ (.int .i64 x1_1))) ?hg ?ho ?hn ?hr ?_; (case ho => rfl); (case hg => rfl); (case hn => rfl); (case hr => first | (go_simp; done) | (go_simp; rfl)); intro w12 hw; have hg : wr.grownBy w12 (some go5) := (by rw [hw]; exact HP11.2); have hp_ : Kd.R k71 71 w12 w0.heap.size (fun k_ => (P0_ k_ ∨ w.heap.size ≤ k_)) (.slice (some ⟨go5, 0, none⟩) x0_1.length co10) y362 := (by rw [hw, Ny362.out]; exact HP11.1); clear HP11; replace HB := Aside0.mk ((by rw [hw]; exact below_set (HB.out) GB5.out : Below w0.heap.size w0 w12)); replace HK := Aside0.mk (Kept.of_grown (S := (fun k_ => P0_ k_)) hg (by repeat (first | (with_reducible first | exact HK.out | apply Kept.alloc | apply Kept.drewN | apply Kept.drew) | exact HK.out)) (fun k_ e_ => (HO_0.out.1 k_ e_))); replace HO_0 := Aside0.mk (hp_); clear hg hw hp_; have p6 : 0 ≤ (x5_1 : Int) := of_decide_eq_true (by first | (with_reducible assumption) | assumption); have q6 : (x5_1 : Int) < ((x0_1.length : Int) : Int) := of_decide_eq_true (by first | (with_reducible assumption) | assumption); obtain ⟨ce6, hcl6, hM6, hcc6, hfr6⟩ := Kd.R_elem HO_0.out z71 (x5_1 : Int) p6 q6; obtain rfl := k71_openM hM6; have hx6_0 : w12.cell? ⟨go5, (x5_1 : Int).toNat * 5, none⟩ = some (.int .i64 ((rd_T71 y362 x5_1).f0)) := hcc6 0 _ rfl; have hx6_1 : w12.cell? ⟨go5, (x5_1 : Int).toNat * 5 + 1, none⟩ = some (.int .i64 ((rd_T71 y362 x5_1).f1)) := hcc6 1 _ rfl; have hx6_2 : w12.cell? ⟨go5, (x5_1 : Int).toNat * 5 + 2, none⟩ = some (.int .i64 ((rd_T71 y362 x5_1).f2.f0)) := hcc6 2 _ rfl; have hx6_3 : w12.cell? ⟨go5, (x5_1 : Int).toNat * 5 + 3, none⟩ = some (.int .i64 ((rd_T71 y362 x5_1).f2.f1)) := hcc6 3 _ rfl; have hx6_4 : w12.cell? ⟨go5, (x5_1 : Int).toNat * 5 + 4, none⟩ = some (.int .i64 ((rd_T71 y362 x5_1).f3)) := hcc6 4 _ rfl; have hf6_0 : w12.frozen? ⟨go5, (x5_1 : Int).toNat * 5, none⟩ = false := hfr6 0; have hf6_1 : w12.frozen? ⟨go5, (x5_1 : Int).toNat * 5 + 1, none⟩ = false := hfr6 1; have hf6_2 : w12.frozen? ⟨go5, (x5_1 : Int).toNat * 5 + 2, none⟩ = false := hfr6 2; have hf6_3 : w12.frozen? ⟨go5, (x5_1 : Int).toNat * 5 + 3, none⟩ = false := hfr6 3; have hf6_4 : w12.frozen? ⟨go5, (x5_1 : Int).toNat * 5 + 4, none⟩ = false := hfr6 4; clear hcl6 hcc6 hfr6 hM6; replace p6 := eq_true p6; replace q6 := eq_true q6; have HX13 := Aside0.mk (show Kd.R k71 71 w12 w0.heap.size (fun k_ => (P0_ k_ ∨ w.heap.size ≤ k_)) (.slice (some ⟨go5, 0, none⟩) x0_1.length co10) y362 from (rr HO_0.out)); obtain ⟨ce13, hcl13, hM13, hcc13, hfr13⟩ := Kd.R_elem HX13.out z71 (x5_1 : Int) (of_decide_eq_true (by first | (with_reducible assumption) | assumption)) (by have h_ : (x5_1 : Int) < ((x0_1.length : Int) : Int) := of_decide_eq_true (by first | (with_reducible assumption) | assumption); first | exact h_ | (have e_ := (Kd.R_reads' HO_0.out).1; omega) | simpa using h_); obtain rfl := k71_openM hM13; have HP13 := Kd.R_seg HX13.out (x5_1 : Int) (of_decide_eq_true (by first | (with_reducible assumption) | assumption)) (by have h_ : (x5_1 : Int) < ((x0_1.length : Int) : Int) := of_decide_eq_true (by first | (with_reducible assumption) | assumption); first | exact h_ | (have e_ := (Kd.R_reads' HO_0.out).1; omega) | simpa using h_) (seg := [.int .i64 (wrap64 (x1_1 + 1))]) (j := 1) hcl13 hcc13 (show 2 ≤ 5 from by decide) (x' := (⟨(rd_T71 y362 x5_1).f0, wrap64 (x1_1 + 1), (⟨(rd_T71 y362 x5_1).f2.f0, (rd_T71 y362 x5_1).f2.f1⟩ : S53), (rd_T71 y362 x5_1).f3⟩ : S71)) (k71_mkM _ _ _ (⟨(rd_T71 y362 x5_1).f0, wrap64 (x1_1 + 1), (⟨(rd_T71 y362 x5_1).f2.f0, (rd_T71 y362 x5_1).f2.f1⟩ : S53), (rd_T71 y362 x5_1).f3⟩ : S71) ) (fun _ hk => hk); have hx13_1 := hcc13 1 _ rfl; (try simp only [show (k71).sz = 5 from rfl, Nat.mul_one, Nat.add_zero] at hx13_1); have hf13_1 := hfr13 1; (try simp only [show (k71).sz = 5 from rfl, Nat.mul_one, Nat.add_zero] at hf13_1); clear hcl13 hcc13 hfr13 hM13) | ((with_reducible refine gate_store (t := 3) (p := 23) rfl ?_); refine store_event (t := 3) (p := 23) (v := ?vo_w14) (w1 := (w12.setCell ⟨go5, (x5_1 : Int).toNat * 5 + 1, none⟩ (.int .i64 (wrap64 (x1_1 + 1))))) ?hg ?ho ?hn ?hr ?_; (case ho => rfl); (case hg => rfl); (case hn => rfl); (case hr => first | (go_simp; done) | (go_simp; rfl)); intro w14 hw; have hg : w12.grownBy w14 (some go5) := (by rw [hw]; exact HP13.2); have hp_ : Kd.R k71 71 w14 w0.heap.size (fun k_ => (P0_ k_ ∨ w.heap.size ≤ k_)) (.slice (some ⟨go5, 0, none⟩) x0_1.length co10) y363 := (by rw [hw, Ny363.out]; exact HP13.1); clear HP13; replace HB := Aside0.mk ((by rw [hw]; exact below_set (HB.out) GB5.out : Below w0.heap.size w0 w14)); replace HK := Aside0.mk (Kept.of_grown (S := (fun k_ => P0_ k_)) hg (by repeat (first | (with_reducible first | exact HK.out | apply Kept.alloc | apply Kept.drewN | apply Kept.drew) | exact HK.out)) (fun k_ e_ => (HO_0.out.1 k_ e_))); replace HO_0 := Aside0.mk (hp_); clear hg hw hp_; have p7 : 0 ≤ (x5_1 : Int) := of_decide_eq_true (by first | (with_reducible assumption) | assumption); have q7 : (x5_1 : Int) < ((x0_1.length : Int) : Int) := of_decide_eq_true (by first | (with_reducible assumption) | assumption); obtain ⟨ce7, hcl7, hM7, hcc7, hfr7⟩ := Kd.R_elem HO_0.out z71 (x5_1 : Int) p7 q7; obtain rfl := k71_openM hM7; have hx7_0 : w14.cell? ⟨go5, (x5_1 : Int).toNat * 5, none⟩ = some (.int .i64 ((rd_T71 y363 x5_1).f0)) := hcc7 0 _ rfl; have hx7_1 : w14.cell? ⟨go5, (x5_1 : Int).toNat * 5 + 1, none⟩ = some (.int .i64 ((rd_T71 y363 x5_1).f1)) := hcc7 1 _ rfl; have hx7_2 : w14.cell? ⟨go5, (x5_1 : Int).toNat * 5 + 2, none⟩ = some (.int .i64 ((rd_T71 y363 x5_1).f2.f0)) := hcc7 2 _ rfl; have hx7_3 : w14.cell? ⟨go5, (x5_1 : Int).toNat * 5 + 3, none⟩ = some (.int .i64 ((rd_T71 y363 x5_1).f2.f1)) := hcc7 3 _ rfl; have hx7_4 : w14.cell? ⟨go5, (x5_1 : Int).toNat * 5 + 4, none⟩ = some (.int .i64 ((rd_T71 y363 x5_1).f3)) := hcc7 4 _ rfl; have hf7_0 : w14.frozen? ⟨go5, (x5_1 : Int).toNat * 5, none⟩ = false := hfr7 0; have hf7_1 : w14.frozen? ⟨go5, (x5_1 : Int).toNat * 5 + 1, none⟩ = false := hfr7 1; have hf7_2 : w14.frozen? ⟨go5, (x5_1 : Int).toNat * 5 + 2, none⟩ = false := hfr7 2; have hf7_3 : w14.frozen? ⟨go5, (x5_1 : Int).toNat * 5 + 3, none⟩ = false := hfr7 3; have hf7_4 : w14.frozen? ⟨go5, (x5_1 : Int).toNat * 5 + 4, none⟩ = false := hfr7 4; clear hcl7 hcc7 hfr7 hM7; replace p7 := eq_true p7; replace q7 := eq_true q7; have HX15 := Aside0.mk (show Kd.R k71 71 w14 w0.heap.size (fun k_ => (P0_ k_ ∨ w.heap.size ≤ k_)) (.slice (some ⟨go5, 0, none⟩) x0_1.length co10) y363 from (rr HO_0.out)); obtain ⟨ce15, hcl15, hM15, hcc15, hfr15⟩ := Kd.R_elem HX15.out z71 (x5_1 : Int) (of_decide_eq_true (by first | (with_reducible assumption) | assumption)) (by have h_ : (x5_1 : Int) < ((x0_1.length : Int) : Int) := of_decide_eq_true (by first | (with_reducible assumption) | assumption); first | exact h_ | (have e_ := (Kd.R_reads' HO_0.out).1; omega) | simpa using h_); obtain rfl := k71_openM hM15; have HP15 := Kd.R_seg HX15.out (x5_1 : Int) (of_decide_eq_true (by first | (with_reducible assumption) | assumption)) (by have h_ : (x5_1 : Int) < ((x0_1.length : Int) : Int) := of_decide_eq_true (by first | (with_reducible assumption) | assumption); first | exact h_ | (have e_ := (Kd.R_reads' HO_0.out).1; omega) | simpa using h_) (seg := [.int .i64 (wrap64 ((wrap64 (x1_1 + 1)) + 1))]) (j := 2) hcl15 hcc15 (show 3 ≤ 5 from by decide) (x' := (⟨(rd_T71 y363 x5_1).f0, (rd_T71 y363 x5_1).f1, (⟨wrap64 ((wrap64 (x1_1 + 1)) + 1), (rd_T71 y363 x5_1).f2.f1⟩ : S53), (rd_T71 y363 x5_1).f3⟩ : S71)) (k71_mkM _ _ _ (⟨(rd_T71 y363 x5_1).f0, (rd_T71 y363 x5_1).f1, (⟨wrap64 ((wrap64 (x1_1 + 1)) + 1), (rd_T71 y363 x5_1).f2.f1⟩ : S53), (rd_T71 y363 x5_1).f3⟩ : S71) ) (fun _ hk => hk); have hx15_2 := hcc15 2 _ rfl; (try simp only [show (k71).sz = 5 from rfl, Nat.mul_one, Nat.add_zero] at hx15_2); have hf15_2 := hfr15 2; (try simp only [show (k71).sz = 5 from rfl, Nat.mul_one, Nat.add_zero] at hf15_2); clear hcl15 hcc15 hfr15 hM15) | ((with_reducible refine gate_store (t := 3) (p := 31) rfl ?_); refine store_event (t := 3) (p := 31) (v := ?vo_w16) (w1 := (w14.setCell ⟨go5, (x5_1 : Int).toNat * 5 + 2, none⟩ (.int .i64 (wrap64 ((wrap64 (x1_1 + 1)) + 1))))) ?hg ?ho ?hn ?hr ?_; (case ho => rfl); (case hg => rfl); (case hn => rfl); (case hr => first | (go_simp; done) | (go_simp; rfl)); intro w16 hw; have hg : w14.grownBy w16 (some go5) := (by rw [hw]; exact HP15.2); have hp_ : Kd.R k71 71 w16 w0.heap.size (fun k_ => (P0_ k_ ∨ w.heap.size ≤ k_)) (.slice (some ⟨go5, 0, none⟩) x0_1.length co10) y364 := (by rw [hw, Ny364.out]; exact HP15.1); clear HP15; replace HB := Aside0.mk ((by rw [hw]; exact below_set (HB.out) GB5.out : Below w0.heap.size w0 w16)); replace HK := Aside0.mk (Kept.of_grown (S := (fun k_ => P0_ k_)) hg (by repeat (first | (with_reducible first | exact HK.out | apply Kept.alloc | apply Kept.drewN | apply Kept.drew) | exact HK.out)) (fun k_ e_ => (HO_0.out.1 k_ e_))); replace HO_0 := Aside0.mk (hp_); clear hg hw hp_; have p8 : 0 ≤ (x5_1 : Int) := of_decide_eq_true (by first | (with_reducible assumption) | assumption); have q8 : (x5_1 : Int) < ((x0_1.length : Int) : Int) := of_decide_eq_true (by first | (with_reducible assumption) | assumption); obtain ⟨ce8, hcl8, hM8, hcc8, hfr8⟩ := Kd.R_elem HO_0.out z71 (x5_1 : Int) p8 q8; obtain rfl := k71_openM hM8; have hx8_0 : w16.cell? ⟨go5, (x5_1 : Int).toNat * 5, none⟩ = some (.int .i64 ((rd_T71 y364 x5_1).f0)) := hcc8 0 _ rfl; have hx8_1 : w16.cell? ⟨go5, (x5_1 : Int).toNat * 5 + 1, none⟩ = some (.int .i64 ((rd_T71 y364 x5_1).f1)) := hcc8 1 _ rfl; have hx8_2 : w16.cell? ⟨go5, (x5_1 : Int).toNat * 5 + 2, none⟩ = some (.int .i64 ((rd_T71 y364 x5_1).f2.f0)) := hcc8 2 _ rfl; have hx8_3 : w16.cell? ⟨go5, (x5_1 : Int).toNat * 5 + 3, none⟩ = some (.int .i64 ((rd_T71 y364 x5_1).f2.f1)) := hcc8 3 _ rfl; have hx8_4 : w16.cell? ⟨go5, (x5_1 : Int).toNat * 5 + 4, none⟩ = some (.int .i64 ((rd_T71 y364 x5_1).f3)) := hcc8 4 _ rfl; have hf8_0 : w16.frozen? ⟨go5, (x5_1 : Int).toNat * 5, none⟩ = false := hfr8 0; have hf8_1 : w16.frozen? ⟨go5, (x5_1 : Int).toNat * 5 + 1, none⟩ = false := hfr8 1; have hf8_2 : w16.frozen? ⟨go5, (x5_1 : Int).toNat * 5 + 2, none⟩ = false := hfr8 2; have hf8_3 : w16.frozen? ⟨go5, (x5_1 : Int).toNat * 5 + 3, none⟩ = false := hfr8 3; have hf8_4 : w16.frozen? ⟨go5, (x5_1 : Int).toNat * 5 + 4, none⟩ = false := hfr8 4; clear hcl8 hcc8 hfr8 hM8; replace p8 := eq_true p8; replace q8 := eq_true q8; have HX17 := Aside0.mk (show Kd.R k71 71 w16 w0.heap.size (fun k_ => (P0_ k_ ∨ w.heap.size ≤ k_)) (.slice (some ⟨go5, 0, none⟩) x0_1.length co10) y364 from (rr HO_0.out)); obtain ⟨ce17, hcl17, hM17, hcc17, hfr17⟩ := Kd.R_elem HX17.out z71 (x5_1 : Int) (of_decide_eq_true (by first | (with_reducible assumption) | assumption)) (by have h_ : (x5_1 : Int) < ((x0_1.length : Int) : Int) := of_decide_eq_true (by first | (with_reducible assumption) | assumption); first | exact h_ | (have e_ := (Kd.R_reads' HO_0.out).1; omega) | simpa using h_); obtain rfl := k71_openM hM17; have HP17 := Kd.R_seg HX17.out (x5_1 : Int) (of_decide_eq_true (by first | (with_reducible assumption) | assumption)) (by have h_ : (x5_1 : Int) < ((x0_1.length : Int) : Int) := of_decide_eq_true (by first | (with_reducible assumption) | assumption); first | exact h_ | (have e_ := (Kd.R_reads' HO_0.out).1; omega) | simpa using h_) (seg := [.int .i64 (wrap64 ((wrap64 ((wrap64 (x1_1 + 1)) + 1)) + 1))]) (j := 3) hcl17 hcc17 (show 4 ≤ 5 from by decide) (x' := (⟨(rd_T71 y364 x5_1).f0, (rd_T71 y364 x5_1).f1, (⟨(rd_T71 y364 x5_1).f2.f0, wrap64 ((wrap64 ((wrap64 (x1_1 + 1)) + 1)) + 1)⟩ : S53), (rd_T71 y364 x5_1).f3⟩ : S71)) (k71_mkM _ _ _ (⟨(rd_T71 y364 x5_1).f0, (rd_T71 y364 x5_1).f1, (⟨(rd_T71 y364 x5_1).f2.f0, wrap64 ((wrap64 ((wrap64 (x1_1 + 1)) + 1)) + 1)⟩ : S53), (rd_T71 y364 x5_1).f3⟩ : S71) ) (fun _ hk => hk); have hx17_3 := hcc17 3 _ rfl; (try simp only [show (k71).sz = 5 from rfl, Nat.mul_one, Nat.add_zero] at hx17_3); have hf17_3 := hfr17 3; (try simp only [show (k71).sz = 5 from rfl, Nat.mul_one, Nat.add_zero] at hf17_3); clear hcl17 hcc17 hfr17 hM17) | ((with_reducible refine gate_store (t := 3) (p := 39) rfl ?_); refine store_event (t := 3) (p := 39) (v := ?vo_w18) (w1 := (w16.setCell ⟨go5, (x5_1 : Int).toNat * 5 + 3, none⟩ (.int .i64 (wrap64 ((wrap64 ((wrap64 (x1_1 + 1)) + 1)) + 1))))) ?hg ?ho ?hn ?hr ?_; (case ho => rfl); (case hg => rfl); (case hn => rfl); (case hr => first | (go_simp; done) | (go_simp; rfl)); intro w18 hw; have hg : w16.grownBy w18 (some go5) := (by rw [hw]; exact HP17.2); have hp_ : Kd.R k71 71 w18 w0.heap.size (fun k_ => (P0_ k_ ∨ w.heap.size ≤ k_)) (.slice (some ⟨go5, 0, none⟩) x0_1.length co10) y365 := (by rw [hw, Ny365.out]; exact HP17.1); clear HP17; replace HB := Aside0.mk ((by rw [hw]; exact below_set (HB.out) GB5.out : Below w0.heap.size w0 w18)); replace HK := Aside0.mk (Kept.of_grown (S := (fun k_ => P0_ k_)) hg (by repeat (first | (with_reducible first | exact HK.out | apply Kept.alloc | apply Kept.drewN | apply Kept.drew) | exact HK.out)) (fun k_ e_ => (HO_0.out.1 k_ e_))); replace HO_0 := Aside0.mk (hp_); clear hg hw hp_; have p9 : 0 ≤ (x5_1 : Int) := of_decide_eq_true (by first | (with_reducible assumption) | assumption); have q9 : (x5_1 : Int) < ((x0_1.length : Int) : Int) := of_decide_eq_true (by first | (with_reducible assumption) | assumption); obtain ⟨ce9, hcl9, hM9, hcc9, hfr9⟩ := Kd.R_elem HO_0.out z71 (x5_1 : Int) p9 q9; obtain rfl := k71_openM hM9; have hx9_0 : w18.cell? ⟨go5, (x5_1 : Int).toNat * 5, none⟩ = some (.int .i64 ((rd_T71 y365 x5_1).f0)) := hcc9 0 _ rfl; have hx9_1 : w18.cell? ⟨go5, (x5_1 : Int).toNat * 5 + 1, none⟩ = some (.int .i64 ((rd_T71 y365 x5_1).f1)) := hcc9 1 _ rfl; have hx9_2 : w18.cell? ⟨go5, (x5_1 : Int).toNat * 5 + 2, none⟩ = some (.int .i64 ((rd_T71 y365 x5_1).f2.f0)) := hcc9 2 _ rfl; have hx9_3 : w18.cell? ⟨go5, (x5_1 : Int).toNat * 5 + 3, none⟩ = some (.int .i64 ((rd_T71 y365 x5_1).f2.f1)) := hcc9 3 _ rfl; have hx9_4 : w18.cell? ⟨go5, (x5_1 : Int).toNat * 5 + 4, none⟩ = some (.int .i64 ((rd_T71 y365 x5_1).f3)) := hcc9 4 _ rfl; have hf9_0 : w18.frozen? ⟨go5, (x5_1 : Int).toNat * 5, none⟩ = false := hfr9 0; have hf9_1 : w18.frozen? ⟨go5, (x5_1 : Int).toNat * 5 + 1, none⟩ = false := hfr9 1; have hf9_2 : w18.frozen? ⟨go5, (x5_1 : Int).toNat * 5 + 2, none⟩ = false := hfr9 2; have hf9_3 : w18.frozen? ⟨go5, (x5_1 : Int).toNat * 5 + 3, none⟩ = false := hfr9 3; have hf9_4 : w18.frozen? ⟨go5, (x5_1 : Int).toNat * 5 + 4, none⟩ = false := hfr9 4; clear hcl9 hcc9 hfr9 hM9; replace p9 := eq_true p9; replace q9 := eq_true q9; have HX19 := Aside0.mk (show Kd.R k71 71 w18 w0.heap.size (fun k_ => (P0_ k_ ∨ w.heap.size ≤ k_)) (.slice (some ⟨go5, 0, none⟩) x0_1.length co10) y365 from (rr HO_0.out)); obtain ⟨ce19, hcl19, hM19, hcc19, hfr19⟩ := Kd.R_elem HX19.out z71 (x5_1 : Int) (of_decide_eq_true (by first | (with_reducible assumption) | assumption)) (by have h_ : (x5_1 : Int) < ((x0_1.length : Int) : Int) := of_decide_eq_true (by first | (with_reducible assumption) | assumption); first | exact h_ | (have e_ := (Kd.R_reads' HO_0.out).1; omega) | simpa using h_); obtain rfl := k71_openM hM19; have HP19 := Kd.R_seg HX19.out (x5_1 : Int) (of_decide_eq_true (by first | (with_reducible assumption) | assumption)) (by have h_ : (x5_1 : Int) < ((x0_1.length : Int) : Int) := of_decide_eq_true (by first | (with_reducible assumption) | assumption); first | exact h_ | (have e_ := (Kd.R_reads' HO_0.out).1; omega) | simpa using h_) (seg := [.int .i64 (wrap64 ((wrap64 ((wrap64 ((wrap64 (x1_1 + 1)) + 1)) + 1)) + 1))]) (j := 4) hcl19 hcc19 (show 5 ≤ 5 from by decide) (x' := (⟨(rd_T71 y365 x5_1).f0, (rd_T71 y365 x5_1).f1, (⟨(rd_T71 y365 x5_1).f2.f0, (rd_T71 y365 x5_1).f2.f1⟩ : S53), wrap64 ((wrap64 ((wrap64 ((wrap64 (x1_1 + 1)) + 1)) + 1)) + 1)⟩ : S71)) (k71_mkM _ _ _ (⟨(rd_T71 y365 x5_1).f0, (rd_T71 y365 x5_1).f1, (⟨(rd_T71 y365 x5_1).f2.f0, (rd_T71 y365 x5_1).f2.f1⟩ : S53), wrap64 ((wrap64 ((wrap64 ((wrap64 (x1_1 + 1)) + 1)) + 1)) + 1)⟩ : S71) ) (fun _ hk => hk); have hx19_4 := hcc19 4 _ rfl; (try simp only [show (k71).sz = 5 from rfl, Nat.mul_one, Nat.add_zero] at hx19_4); have hf19_4 := hfr19 4; (try simp only [show (k71).sz = 5 from rfl, Nat.mul_one, Nat.add_zero] at hf19_4); clear hcl19 hcc19 hfr19 hM19) | ((with_reducible refine gate_store (t := 3) (p := 46) rfl ?_); refine store_event (t := 3) (p := 46) (v := ?vo_w20) (w1 := (w18.setCell ⟨go5, (x5_1 : Int).toNat * 5 + 4, none⟩ (.int .i64 (wrap64 ((wrap64 ((wrap64 ((wrap64 (x1_1 + 1)) + 1)) + 1)) + 1))))) ?hg ?ho ?hn ?hr ?_; (case ho => rfl); (case hg => rfl); (case hn => rfl); (case hr => first | (go_simp; done) | (go_simp; rfl)); intro w20 hw; have hg : w18.grownBy w20 (some go5) := (by rw [hw]; exact HP19.2); have hp_ : Kd.R k71 71 w20 w0.heap.size (fun k_ => (P0_ k_ ∨ w.heap.size ≤ k_)) (.slice (some ⟨go5, 0, none⟩) x0_1.length co10) y366 := (by rw [hw, Ny366.out]; exact HP19.1); clear HP19; replace HB := Aside0.mk ((by rw [hw]; exact below_set (HB.out) GB5.out : Below w0.heap.size w0 w20)); replace HK := Aside0.mk (Kept.of_grown (S := (fun k_ => P0_ k_)) hg (by repeat (first | (with_reducible first | exact HK.out | apply Kept.alloc | apply Kept.drewN | apply Kept.drew) | exact HK.out)) (fun k_ e_ => (HO_0.out.1 k_ e_))); replace HO_0 := Aside0.mk (hp_); clear hg hw hp_))
     go_roundg k1
     case measure => have := HK1.out; omega
     case rel => exact ⟨(y366), (wrap64 ((wrap64 ((wrap64 ((wrap64 ((wrap64 (x1_1 + 1)) + 1)) + 1)) + 1)) + 1)), (wrap64 (x5_1 + 1)), (by first | rfl | (simp; done) | (simp [*]; done)), (by first | rfl | (simp; done) | (simp [*]; done)), H', ⟨by have := HK1.out; omega⟩, ⟨rr HO_0.out⟩, ⟨by repeat (first | (with_reducible first | exact HK.out | apply Kept.alloc | apply Kept.drewN | apply Kept.drew) | exact HK.out)⟩, ⟨bs HB⟩⟩
    ·
     rw [if_neg c4] at H
     exact absurd H (by simp)
   ·
    rw [if_neg c3] at H
    have c3b0 : decide (x5_1 < (x0_1.length : Int)) = false := decide_eq_false c3
    clear c3
    simp only [Option.some.injEq, Prod.mk.injEq] at H
    obtain ⟨rfl, rfl⟩ := H
    obtain ⟨Ao21, co21, eo21⟩ := Kd.R_slice HO_0.out
    subst eo21
    go_wp2
    go_ret
    exact ⟨by first | rfl | (simp [errW_none, errW_some] <;> rfl) | (simp [*, errW_none, errW_some] <;> rfl), by (with_reducible repeat (first | apply Kd.R_alloc | apply Kd.R_drewN | apply Kd.R_drew)); exact HO_0.out, bs HB, by repeat (first | (with_reducible first | exact HK.out | apply Kept.alloc | apply Kept.drewN | apply Kept.drew) | exact HK.out)⟩

/-! ### laws_markExtentS: function 55 -/
def laws_markExtentS.l0 : Nat → List (S53) → Int → Int → Option (Int × (List (S53)))
 | 0, _, _, _ => none
 | k + 1, x0, x1, x5 => if x5 < (x0.length : Int) then (if 0 ≤ x5 then ((some (x0.set (x5 : Int).toNat (⟨x1, (rd_T53 x0 x5).f1⟩ : S53) : List (S53))).bind fun y367 => (laws_markExtentS.l0 k (y367.set (x5 : Int).toNat (⟨(rd_T53 y367 x5).f0, wrap64 (x1 + 1)⟩ : S53)) (wrap64 ((wrap64 (x1 + 1)) + 1)) (wrap64 (x5 + 1)))) else (none)) else (some (x1, x0))
def laws_markExtentS.f (k : Nat) (l0 : List (S53)) (a1 : Int) : Option (Int × (List (S53))) := laws_markExtentS.l0 k l0 a1 0
theorem laws_markExtentS.mono_l : ∀ k, (∀ y0 y1 y2, LeO (laws_markExtentS.l0 k y0 y1 y2) (laws_markExtentS.l0 (k + 1) y0 y1 y2))
 | 0 => fun _ _ _ r h => by simp [laws_markExtentS.l0] at h
 | k + 1 => by
  have ih0 := laws_markExtentS.mono_l k
  ·
   intro y0 y1 y2
   unfold laws_markExtentS.l0
   repeat' first
   | (with_reducible exact ih0 _ _ _)
   | (with_reducible exact LeO.refl _)
   | (with_reducible exact LeO.none _)
   | (with_reducible refine LeO.ite ?_ ?_)
   | (with_reducible refine LeO.bind ?_ (fun _ => ?_))
   | exact ih0 _ _ _
   | exact LeO.none _
   | refine LeO.ite ?_ ?_
   | refine LeO.bind ?_ (fun _ => ?_)
theorem laws_markExtentS.mono : ∀ a0 a1 k, LeO (laws_markExtentS.f k a0 a1) (laws_markExtentS.f (k + 1) a0 a1) := by
 intro a0 a1 k
 have ih0 := laws_markExtentS.mono_l k
 unfold laws_markExtentS.f
 repeat' first
   | (with_reducible exact ih0 _ _ _)
   | (with_reducible exact LeO.refl _)
   | (with_reducible exact LeO.none _)
   | (with_reducible refine LeO.ite ?_ ?_)
   | (with_reducible refine LeO.bind ?_ (fun _ => ?_))
   | exact ih0 _ _ _
   | exact LeO.none _
   | refine LeO.ite ?_ ?_
   | refine LeO.bind ?_ (fun _ => ?_)
set_option maxHeartbeats 8000000 in
set_option maxRecDepth 100000 in
theorem laws_markExtentS.calls (k : Nat) (P0_ : Nat → Prop) (u9000_ : Value) (l0 : List (S53)) (a1 : Int) (r1 : Int) (r2 : List (S53)) (w0 w : World) (hB : Below w0.heap.size w0 w) (ho0 : Kd.R k53 53 w w0.heap.size P0_ u9000_ l0) (h : laws_markExtentS.f k l0 a1 = some (r1, r2)) :
  Calls Try.prog 55 #[u9000_, .int .i64 a1] w fun e w' => e = .returned (.int .i64 r1) ∧ Kd.R k53 53 w' w0.heap.size (fun k_ => (P0_ k_ ∨ w.heap.size ≤ k_)) u9000_ r2 ∧ Below w0.heap.size w0 w' ∧ Kept w w' (fun k_ => P0_ k_) := by
 have HO0 := Aside0.mk (show Kd.R k53 53 w w0.heap.size (fun k_ => (P0_ k_ ∨ w.heap.size ≤ k_)) u9000_ l0 from Kd.R_mono ho0 (fun k_ hk => (.inl hk)))
 have HK := Aside0.mk (Kept.refl w (fun k_ => P0_ k_))
 have HW0 := Aside0.mk hB.size
 have HB := Aside0.mk hB
 clear hB
 have H : (laws_markExtentS.l0 k l0 a1 0) = some (r1, r2) := h
 clear h
 have H' := Aside0.mk H
 clear H
 go_enter Try.func55, Try.ntmps55
 go_wp2
 go_loopg [1, 5] k (fun kq v1 v5 w' => ∃ (x0_1 : List (S53)) (x1_1 : Int) (x5_1 : Int), v1 = .int .i64 x1_1 ∧ v5 = .int .i64 x5_1 ∧ Aside0 (laws_markExtentS.l0 kq x0_1 x1_1 x5_1 = some (r1, r2)) ∧ Aside0 (kq ≤ k) ∧ Aside0 (Kd.R k53 53 w' w0.heap.size (fun k_ => (P0_ k_ ∨ w.heap.size ≤ k_)) u9000_ x0_1) ∧ Aside0 (Kept w w' (fun k_ => P0_ k_)) ∧ Aside0 (Below w0.heap.size w0 w'))
 case atStart => exact ⟨(l0), (a1), (0), (by first | rfl | (simp; done) | (simp [*]; done)), (by first | rfl | (simp; done) | (simp [*]; done)), H', ⟨Nat.le_refl _⟩, ⟨rr HO0.out⟩, ⟨by repeat (first | (with_reducible first | exact HK.out | apply Kept.alloc | apply Kept.drewN | apply Kept.drew) | exact HK.out)⟩, ⟨bs HB⟩⟩
 case round =>
  clear H'
  try clear p2
  obtain ⟨x0_1, x1_1, x5_1, rfl, rfl, HA, HK1, HO_0, HK, HB⟩ := hrel
  cases gk with
  | zero => exact absurd HA.out (by simp [laws_markExtentS.l0])
  | succ k1 =>
   have H := HA.out
   clear HA
   simp only [laws_markExtentS.l0] at H
   by_cases c3 : x5_1 < (x0_1.length : Int)
   ·
    rw [if_pos c3] at H
    have c3b0 : decide (x5_1 < (x0_1.length : Int)) = true := decide_eq_true c3
    clear c3
    by_cases c4 : 0 ≤ x5_1
    ·
     rw [if_pos c4] at H
     have c4b0 : decide (0 ≤ x5_1) = true := decide_eq_true c4
     clear c4
     obtain ⟨y367, hy367⟩ : ∃ y_ : List (S53), y_ = (x0_1.set (x5_1 : Int).toNat (⟨x1_1, (rd_T53 x0_1 x5_1).f1⟩ : S53)) := ⟨_, rfl⟩
     replace H : (laws_markExtentS.l0 k1 (y367.set (x5_1 : Int).toNat (⟨(rd_T53 y367 x5_1).f0, wrap64 (x1_1 + 1)⟩ : S53)) (wrap64 ((wrap64 (x1_1 + 1)) + 1)) (wrap64 (x5_1 + 1))) = some (r1, r2) := by first | (rw [hy367]; with_reducible exact H) | (have H2_ := (Option.bind_some _ _).symm.trans H; rw [hy367]; with_reducible exact H2_) | (have H2_ := (Option.bind_some _ _).symm.trans H; with_reducible exact H2_) | with_reducible exact H | (rw [hy367]; exact H) | exact H
     have Ny367 := Aside0.mk hy367
     clear hy367
     obtain ⟨y368, hy368⟩ : ∃ y_ : List (S53), y_ = (y367.set (x5_1 : Int).toNat (⟨(rd_T53 y367 x5_1).f0, wrap64 (x1_1 + 1)⟩ : S53)) := ⟨_, rfl⟩
     replace H : (laws_markExtentS.l0 k1 y368 (wrap64 ((wrap64 (x1_1 + 1)) + 1)) (wrap64 (x5_1 + 1))) = some (r1, r2) := by first | (rw [hy368]; with_reducible exact H) | (have H2_ := (Option.bind_some _ _).symm.trans H; rw [hy368]; with_reducible exact H2_) | (have H2_ := (Option.bind_some _ _).symm.trans H; with_reducible exact H2_) | with_reducible exact H | (rw [hy368]; exact H) | exact H
     have Ny368 := Aside0.mk hy368
     clear hy368
     have H' := Aside0.mk H
     clear H
     obtain ⟨Ao7, co7, eo7⟩ := Kd.R_slice HO_0.out
     subst eo7
     have p5 : 0 ≤ (x5_1 : Int) := of_decide_eq_true (by first | (with_reducible assumption) | assumption)
     have q5 : (x5_1 : Int) < ((x0_1.length : Int) : Int) := of_decide_eq_true (by first | (with_reducible assumption) | assumption)
     obtain ⟨go5, co5, eo5, gb5, gl5, cl5, HG5⟩ := Kd.R_form HO_0.out (by omega)
     (first | cases eo5 | (injection eo5 with ea_ en_ ec_; (first | subst ea_ | (injection ea_ with ea_; subst ea_)); subst ec_; clear en_))
     have GB5 := Aside0.mk gb5
     have GG5 := Aside0.mk HG5
     clear gb5 gl5 HG5
     have HMgo5 := Aside0.mk (show (P0_ go5 ∨ w.heap.size ≤ go5) from (HO_0.out.1 _ rfl))
     obtain ⟨ce5, hcl5, hM5, hcc5, hfr5⟩ := Kd.R_elem HO_0.out z53 (x5_1 : Int) p5 q5
     obtain rfl := k53_openM hM5
     have hx5_0 : wr.cell? ⟨go5, (x5_1 : Int).toNat * 2, none⟩ = some (.int .i64 ((rd_T53 x0_1 x5_1).f0)) := hcc5 0 _ rfl
     have hx5_1 : wr.cell? ⟨go5, (x5_1 : Int).toNat * 2 + 1, none⟩ = some (.int .i64 ((rd_T53 x0_1 x5_1).f1)) := hcc5 1 _ rfl
     have hf5_0 : wr.frozen? ⟨go5, (x5_1 : Int).toNat * 2, none⟩ = false := hfr5 0
     have hf5_1 : wr.frozen? ⟨go5, (x5_1 : Int).toNat * 2 + 1, none⟩ = false := hfr5 1
     clear hcl5 hcc5 hfr5 hM5
     replace p5 := eq_true p5
     replace q5 := eq_true q5
     have HX8 := Aside0.mk (show Kd.R k53 53 wr w0.heap.size (fun k_ => (P0_ k_ ∨ w.heap.size ≤ k_)) (.slice (some ⟨go5, 0, none⟩) x0_1.length co7) x0_1 from (rr HO_0.out))
     obtain ⟨ce8, hcl8, hM8, hcc8, hfr8⟩ := Kd.R_elem HX8.out z53 (x5_1 : Int) (of_decide_eq_true (by first | (with_reducible assumption) | assumption)) (by have h_ : (x5_1 : Int) < ((x0_1.length : Int) : Int) := of_decide_eq_true (by first | (with_reducible assumption) | assumption); first | exact h_ | (have e_ := (Kd.R_reads' HO_0.out).1; omega) | simpa using h_)
     obtain rfl := k53_openM hM8
     have HP8 := Kd.R_seg HX8.out (x5_1 : Int) (of_decide_eq_true (by first | (with_reducible assumption) | assumption)) (by have h_ : (x5_1 : Int) < ((x0_1.length : Int) : Int) := of_decide_eq_true (by first | (with_reducible assumption) | assumption); first | exact h_ | (have e_ := (Kd.R_reads' HO_0.out).1; omega) | simpa using h_) (seg := [.int .i64 x1_1]) (j := 0) hcl8 hcc8 (show 1 ≤ 2 from by decide) (x' := (⟨x1_1, (rd_T53 x0_1 x5_1).f1⟩ : S53)) (k53_mkM _ _ _ (⟨x1_1, (rd_T53 x0_1 x5_1).f1⟩ : S53) ) (fun _ hk => hk)
     have hx8_0 := hcc8 0 _ rfl
     (try simp only [show (k53).sz = 2 from rfl, Nat.mul_one, Nat.add_zero] at hx8_0)
     have hf8_0 := hfr8 0
     (try simp only [show (k53).sz = 2 from rfl, Nat.mul_one, Nat.add_zero] at hf8_0)
     clear hcl8 hcc8 hfr8 hM8
     go_wp2_with (first | ((with_reducible refine gate_store (t := 3) (p := 16) rfl ?_); refine store_event (t := 3) (p := 16) (v := ?vo_w9) (w1 := (wr.setCell ⟨go5, (x5_1 : Int).toNat * 2, none⟩ (.int .i64 x1_1))) ?hg ?ho ?hn ?hr ?_; (case ho => rfl); (case hg => rfl); (case hn => rfl); (case hr => first | (go_simp; done) | (go_simp; rfl)); intro w9 hw; have hg : wr.grownBy w9 (some go5) := (by rw [hw]; exact HP8.2); have hp_ : Kd.R k53 53 w9 w0.heap.size (fun k_ => (P0_ k_ ∨ w.heap.size ≤ k_)) (.slice (some ⟨go5, 0, none⟩) x0_1.length co7) y367 := (by rw [hw, Ny367.out]; exact HP8.1); clear HP8; replace HB := Aside0.mk ((by rw [hw]; exact below_set (HB.out) GB5.out : Below w0.heap.size w0 w9)); replace HK := Aside0.mk (Kept.of_grown (S := (fun k_ => P0_ k_)) hg (by repeat (first | (with_reducible first | exact HK.out | apply Kept.alloc | apply Kept.drewN | apply Kept.drew) | exact HK.out)) (fun k_ e_ => (HO_0.out.1 k_ e_))); replace HO_0 := Aside0.mk (hp_); clear hg hw hp_; have p6 : 0 ≤ (x5_1 : Int) := of_decide_eq_true (by first | (with_reducible assumption) | assumption); have q6 : (x5_1 : Int) < ((x0_1.length : Int) : Int) := of_decide_eq_true (by first | (with_reducible assumption) | assumption); obtain ⟨ce6, hcl6, hM6, hcc6, hfr6⟩ := Kd.R_elem HO_0.out z53 (x5_1 : Int) p6 q6; obtain rfl := k53_openM hM6; have hx6_0 : w9.cell? ⟨go5, (x5_1 : Int).toNat * 2, none⟩ = some (.int .i64 ((rd_T53 y367 x5_1).f0)) := hcc6 0 _ rfl; have hx6_1 : w9.cell? ⟨go5, (x5_1 : Int).toNat * 2 + 1, none⟩ = some (.int .i64 ((rd_T53 y367 x5_1).f1)) := hcc6 1 _ rfl; have hf6_0 : w9.frozen? ⟨go5, (x5_1 : Int).toNat * 2, none⟩ = false := hfr6 0; have hf6_1 : w9.frozen? ⟨go5, (x5_1 : Int).toNat * 2 + 1, none⟩ = false := hfr6 1; clear hcl6 hcc6 hfr6 hM6; replace p6 := eq_true p6; replace q6 := eq_true q6; have HX10 := Aside0.mk (show Kd.R k53 53 w9 w0.heap.size (fun k_ => (P0_ k_ ∨ w.heap.size ≤ k_)) (.slice (some ⟨go5, 0, none⟩) x0_1.length co7) y367 from (rr HO_0.out)); obtain ⟨ce10, hcl10, hM10, hcc10, hfr10⟩ := Kd.R_elem HX10.out z53 (x5_1 : Int) (of_decide_eq_true (by first | (with_reducible assumption) | assumption)) (by have h_ : (x5_1 : Int) < ((x0_1.length : Int) : Int) := of_decide_eq_true (by first | (with_reducible assumption) | assumption); first | exact h_ | (have e_ := (Kd.R_reads' HO_0.out).1; omega) | simpa using h_); obtain rfl := k53_openM hM10; have HP10 := Kd.R_seg HX10.out (x5_1 : Int) (of_decide_eq_true (by first | (with_reducible assumption) | assumption)) (by have h_ : (x5_1 : Int) < ((x0_1.length : Int) : Int) := of_decide_eq_true (by first | (with_reducible assumption) | assumption); first | exact h_ | (have e_ := (Kd.R_reads' HO_0.out).1; omega) | simpa using h_) (seg := [.int .i64 (wrap64 (x1_1 + 1))]) (j := 1) hcl10 hcc10 (show 2 ≤ 2 from by decide) (x' := (⟨(rd_T53 y367 x5_1).f0, wrap64 (x1_1 + 1)⟩ : S53)) (k53_mkM _ _ _ (⟨(rd_T53 y367 x5_1).f0, wrap64 (x1_1 + 1)⟩ : S53) ) (fun _ hk => hk); have hx10_1 := hcc10 1 _ rfl; (try simp only [show (k53).sz = 2 from rfl, Nat.mul_one, Nat.add_zero] at hx10_1); have hf10_1 := hfr10 1; (try simp only [show (k53).sz = 2 from rfl, Nat.mul_one, Nat.add_zero] at hf10_1); clear hcl10 hcc10 hfr10 hM10) | ((with_reducible refine gate_store (t := 3) (p := 23) rfl ?_); refine store_event (t := 3) (p := 23) (v := ?vo_w11) (w1 := (w9.setCell ⟨go5, (x5_1 : Int).toNat * 2 + 1, none⟩ (.int .i64 (wrap64 (x1_1 + 1))))) ?hg ?ho ?hn ?hr ?_; (case ho => rfl); (case hg => rfl); (case hn => rfl); (case hr => first | (go_simp; done) | (go_simp; rfl)); intro w11 hw; have hg : w9.grownBy w11 (some go5) := (by rw [hw]; exact HP10.2); have hp_ : Kd.R k53 53 w11 w0.heap.size (fun k_ => (P0_ k_ ∨ w.heap.size ≤ k_)) (.slice (some ⟨go5, 0, none⟩) x0_1.length co7) y368 := (by rw [hw, Ny368.out]; exact HP10.1); clear HP10; replace HB := Aside0.mk ((by rw [hw]; exact below_set (HB.out) GB5.out : Below w0.heap.size w0 w11)); replace HK := Aside0.mk (Kept.of_grown (S := (fun k_ => P0_ k_)) hg (by repeat (first | (with_reducible first | exact HK.out | apply Kept.alloc | apply Kept.drewN | apply Kept.drew) | exact HK.out)) (fun k_ e_ => (HO_0.out.1 k_ e_))); replace HO_0 := Aside0.mk (hp_); clear hg hw hp_))
     go_roundg k1
     case measure => have := HK1.out; omega
     case rel => exact ⟨(y368), (wrap64 ((wrap64 (x1_1 + 1)) + 1)), (wrap64 (x5_1 + 1)), (by first | rfl | (simp; done) | (simp [*]; done)), (by first | rfl | (simp; done) | (simp [*]; done)), H', ⟨by have := HK1.out; omega⟩, ⟨rr HO_0.out⟩, ⟨by repeat (first | (with_reducible first | exact HK.out | apply Kept.alloc | apply Kept.drewN | apply Kept.drew) | exact HK.out)⟩, ⟨bs HB⟩⟩
    ·
     rw [if_neg c4] at H
     exact absurd H (by simp)
   ·
    rw [if_neg c3] at H
    have c3b0 : decide (x5_1 < (x0_1.length : Int)) = false := decide_eq_false c3
    clear c3
    simp only [Option.some.injEq, Prod.mk.injEq] at H
    obtain ⟨rfl, rfl⟩ := H
    obtain ⟨Ao12, co12, eo12⟩ := Kd.R_slice HO_0.out
    subst eo12
    go_wp2
    go_ret
    exact ⟨by first | rfl | (simp [errW_none, errW_some] <;> rfl) | (simp [*, errW_none, errW_some] <;> rfl), by (with_reducible repeat (first | apply Kd.R_alloc | apply Kd.R_drewN | apply Kd.R_drew)); exact HO_0.out, bs HB, by repeat (first | (with_reducible first | exact HK.out | apply Kept.alloc | apply Kept.drewN | apply Kept.drew) | exact HK.out)⟩

/-! ### laws_markFree: function 35 -/
def laws_markFree.f (k : Nat) (a0_0 : Int) (l0_1 : List (S53)) (l0_2 : List (S53)) (a1 : Int) : Option (Int × (List (S53)) × (List (S53))) := (laws_markExtentS.f k l0_1 a1).bind fun bt370 => ((laws_markExtentS.f k l0_2 bt370.1).bind fun bt372 => (some (bt372.1, bt370.2, bt372.2)))
theorem laws_markFree.mono : ∀ a0 a1 a2 a3 k, LeO (laws_markFree.f k a0 a1 a2 a3) (laws_markFree.f (k + 1) a0 a1 a2 a3) := by
 intro a0 a1 a2 a3 k
 unfold laws_markFree.f
 repeat' first
   | (with_reducible exact laws_markExtentS.mono _ _ _)
   | (with_reducible exact LeO.refl _)
   | (with_reducible exact LeO.none _)
   | (with_reducible refine LeO.ite ?_ ?_)
   | (with_reducible refine LeO.bind ?_ (fun _ => ?_))
   | exact laws_markExtentS.mono _ _ _
   | exact LeO.none _
   | refine LeO.ite ?_ ?_
   | refine LeO.bind ?_ (fun _ => ?_)
set_option maxHeartbeats 8000000 in
set_option maxRecDepth 100000 in
theorem laws_markFree.calls (k : Nat) (a0_0 : Int) (P0_1_ : Nat → Prop) (u9000_ : Value) (l0_1 : List (S53)) (P0_2_ : Nat → Prop) (u9001_ : Value) (l0_2 : List (S53)) (a1 : Int) (r1 : Int) (r2 : List (S53)) (r3 : List (S53)) (w0 w : World) (hB : Below w0.heap.size w0 w) (ho0_1 : Kd.R k53 53 w w0.heap.size P0_1_ u9000_ l0_1) (hp0_1_0_2 : ∀ k_, P0_1_ k_ → ¬ P0_2_ k_) (ho0_2 : Kd.R k53 53 w w0.heap.size P0_2_ u9001_ l0_2) (hp0_2_0_1 : ∀ k_, P0_2_ k_ → ¬ P0_1_ k_) (h : laws_markFree.f k a0_0 l0_1 l0_2 a1 = some (r1, r2, r3)) :
  Calls Try.prog 35 #[.agg #[.int .i64 a0_0, u9000_, u9001_], .int .i64 a1] w fun e w' => e = .returned (.int .i64 r1) ∧ Kd.R k53 53 w' w0.heap.size (fun k_ => ((P0_1_ k_ ∨ P0_2_ k_) ∨ w.heap.size ≤ k_)) u9000_ r2 ∧ Kd.R k53 53 w' w0.heap.size (fun k_ => ((P0_1_ k_ ∨ P0_2_ k_) ∨ w.heap.size ≤ k_)) u9001_ r3 ∧ Below w0.heap.size w0 w' ∧ Kept w w' (fun k_ => P0_1_ k_ ∨ P0_2_ k_) := by
 have hu24 := Try.underlying24
 have HO0_1 := Aside0.mk (show Kd.R k53 53 w w0.heap.size (fun k_ => ((P0_1_ k_ ∨ P0_2_ k_) ∨ w.heap.size ≤ k_) ∧ some k_ ≠ (u9001_ : Value).ownBlock) u9000_ l0_1 from Kd.R_mono ho0_1 (fun k_ hk => ⟨(.inl (.inl hk)), fun e_ => hp0_1_0_2 k_ hk (ho0_2.1 k_ e_.symm)⟩))
 have HO0_2 := Aside0.mk (show Kd.R k53 53 w w0.heap.size (fun k_ => ((P0_1_ k_ ∨ P0_2_ k_) ∨ w.heap.size ≤ k_) ∧ some k_ ≠ (u9000_ : Value).ownBlock) u9001_ l0_2 from Kd.R_mono ho0_2 (fun k_ hk => ⟨(.inl (.inr hk)), fun e_ => hp0_2_0_1 k_ hk (ho0_1.1 k_ e_.symm)⟩))
 have HK := Aside0.mk (Kept.refl w (fun k_ => P0_1_ k_ ∨ P0_2_ k_))
 have HW0 := Aside0.mk hB.size
 have HB := Aside0.mk hB
 clear hB
 have H : ((laws_markExtentS.f k l0_1 a1).bind fun bt370 => ((laws_markExtentS.f k l0_2 bt370.1).bind fun bt372 => (some (bt372.1, bt370.2, bt372.2)))) = some (r1, r2, r3) := h
 clear h
 replace H := Option.bind_eq_some_iff.mp H
 obtain ⟨⟨t370, t371⟩, A30, H⟩ := H
 replace H : ((laws_markExtentS.f k l0_2 t370).bind fun bt372 => (some (bt372.1, t371, bt372.2))) = some (r1, r2, r3) := H
 have A3 := Aside0.mk A30
 clear A30
 replace H := Option.bind_eq_some_iff.mp H
 obtain ⟨⟨t372, t373⟩, A40, H⟩ := H
 replace H : (some (t372, t371, t373)) = some (r1, r2, r3) := H
 have A4 := Aside0.mk A40
 clear A40
 simp only [Option.some.injEq, Prod.mk.injEq] at H
 obtain ⟨rfl, rfl, rfl⟩ := H
 obtain ⟨Ao5, co5, eo5⟩ := Kd.R_slice HO0_1.out
 subst eo5
 obtain ⟨Ao6, co6, eo6⟩ := Kd.R_slice HO0_2.out
 subst eo6
 go_enter Try.func35, Try.ntmps35
 go_wp2_with (first | ((with_reducible refine gate_dst (N := 2) rfl ?_); refine box_event ?hg (N := 2) ?hd (cs := #[.int .i64 a0_0, .slice Ao5 l0_1.length co5, .slice Ao6 l0_2.length co6]) (t := 24) ?hr ?_; (case hd => rfl); (case hg => rfl); (case hr => first | (go_simp; done) | (go_simp; rfl)); intro gb369 hg w7 hbox hb; replace HO0_1 := nr HO0_1 hb; replace HO0_2 := nr HO0_2 hb; have BK369 := Aside0.mk (hbox); have GW369 := Aside0.mk ((by rw [hg]; exact (by first | exact HK.out.1 | exact (show Kept w _ (fun k_ => P0_1_ k_ ∨ P0_2_ k_) from by repeat (first | (with_reducible first | exact HK.out | apply Kept.alloc | apply Kept.drewN | apply Kept.drew) | exact HK.out)).1) : w.heap.size ≤ gb369)); replace HK := Aside0.mk (Kept.below (S := (fun k_ => P0_1_ k_ ∨ P0_2_ k_)) (by repeat (first | (with_reducible first | exact HK.out | apply Kept.alloc | apply Kept.drewN | apply Kept.drew) | exact HK.out)) hb); have GE369 := Aside0.mk ((by rw [hg]; exact (below_size (bs HB)) : w0.heap.size ≤ gb369)); replace HB := Aside0.mk (below_step (bs HB) hb); clear hb hbox hg; obtain ⟨hcz8_0, hcz8_1, hcz8_2⟩ := cz3 BK369; obtain ⟨hfz8_0, hfz8_1, hfz8_2⟩ := fz3 BK369) | ((with_reducible refine gate_callee (f := 55) rfl ?_); refine gL (some 8) rfl rfl Try.func55 (by kernel_rfl) rfl #[.slice Ao5 l0_1.length co5, .int .i64 a1] rfl ?_; (with_reducible refine (laws_markExtentS.calls k (fun k_ => some k_ = (.slice Ao5 l0_1.length co5 : Value).ownBlock) (.slice Ao5 l0_1.length co5) l0_1 a1 t370 t371 w0 _ ?side1 ?side2 A3.out).mono ?_); (case side1 => repeat (first | (with_reducible first | exact HB.out | apply below_alloc | apply pw_below_drewN | apply below_drew1 | refine below_set ?_ GE369.out) | exact HB.out)); (case side2 => exact Kd.R_tight rfl HO0_1.out); rintro e w9 ⟨rfl, hy0, hb, hkp⟩; refine ⟨_, rfl, ?_⟩; replace HO0_2 := Aside0.mk (Kd.R_mono (ok' := fun k_ => ((P0_1_ k_ ∨ P0_2_ k_) ∨ w.heap.size ≤ k_) ∧ some k_ ≠ (.slice Ao5 l0_1.length co5 : Value).ownBlock) (Kd.R_keptB (HO0_2.out) hkp (fun k_ hk_ hs_ => (hk_.2) hs_)) (fun k_ hk_ => ⟨hk_.1.1, hk_.1.2⟩)); replace BK369 := Aside0.mk (blk_kept (bk BK369) hkp (fun hs_ => (fun e_ => (Kd.R_ne HO0_1.out BK369.out (by decide)) e_) hs_)); replace HK := Aside0.mk (Kept.then_ (S := (fun k_ => P0_1_ k_ ∨ P0_2_ k_)) (by repeat (first | (with_reducible first | exact HK.out | apply Kept.alloc | apply Kept.drewN | apply Kept.drew | refine Kept.setCell ?_ (.inr GW369.out) _) | exact HK.out)) hkp (fun k_ hs_ => (fun e_ => (HO0_1.out.1 k_ e_.symm).1) hs_)); replace HO0_1 := Aside0.mk (Kd.R_reok rfl hy0 (fun k_ e_ => HO0_1.out.1 k_ e_)); replace HB := Aside0.mk (hb); (try clear hb); (try clear hkp); (try clear hy0); obtain ⟨hcz10_0, hcz10_1, hcz10_2⟩ := cz3 BK369; obtain ⟨hfz10_0, hfz10_1, hfz10_2⟩ := fz3 BK369) | ((with_reducible refine gate_callee (f := 55) rfl ?_); refine gL (some 12) rfl rfl Try.func55 (by kernel_rfl) rfl #[.slice Ao6 l0_2.length co6, .int .i64 t370] rfl ?_; (with_reducible refine (laws_markExtentS.calls k (fun k_ => some k_ = (.slice Ao6 l0_2.length co6 : Value).ownBlock) (.slice Ao6 l0_2.length co6) l0_2 t370 t372 t373 w0 _ ?side1 ?side2 A4.out).mono ?_); (case side1 => repeat (first | (with_reducible first | exact HB.out | apply below_alloc | apply pw_below_drewN | apply below_drew1 | refine below_set ?_ GE369.out) | exact HB.out)); (case side2 => exact Kd.R_tight rfl HO0_2.out); rintro e w11 ⟨rfl, hy0, hb, hkp⟩; refine ⟨_, rfl, ?_⟩; replace HO0_1 := Aside0.mk (Kd.R_mono (ok' := fun k_ => ((P0_1_ k_ ∨ P0_2_ k_) ∨ w.heap.size ≤ k_) ∧ some k_ ≠ (.slice Ao6 l0_2.length co6 : Value).ownBlock) (Kd.R_keptB (HO0_1.out) hkp (fun k_ hk_ hs_ => (hk_.2) hs_)) (fun k_ hk_ => ⟨hk_.1.1, hk_.1.2⟩)); replace BK369 := Aside0.mk (blk_kept (bk BK369) hkp (fun hs_ => (fun e_ => (Kd.R_ne HO0_2.out BK369.out (by decide)) e_) hs_)); replace HK := Aside0.mk (Kept.then_ (S := (fun k_ => P0_1_ k_ ∨ P0_2_ k_)) (by repeat (first | (with_reducible first | exact HK.out | apply Kept.alloc | apply Kept.drewN | apply Kept.drew | refine Kept.setCell ?_ (.inr GW369.out) _) | exact HK.out)) hkp (fun k_ hs_ => (fun e_ => (HO0_2.out.1 k_ e_.symm).1) hs_)); replace HO0_2 := Aside0.mk (Kd.R_reok rfl hy0 (fun k_ e_ => HO0_2.out.1 k_ e_)); replace HB := Aside0.mk (hb); (try clear hb); (try clear hkp); (try clear hy0)))
 go_ret
 exact ⟨by first | rfl | (simp [errW_none, errW_some] <;> rfl) | (simp [*, errW_none, errW_some] <;> rfl), by (with_reducible repeat (first | apply Kd.R_alloc | apply Kd.R_drewN | apply Kd.R_drew)); exact Kd.R_mono HO0_1.out (fun _ hk => hk.1), by (with_reducible repeat (first | apply Kd.R_alloc | apply Kd.R_drewN | apply Kd.R_drew)); exact Kd.R_mono HO0_2.out (fun _ hk => hk.1), bs1 HB GE369, by repeat (first | (with_reducible first | exact HK.out | apply Kept.alloc | apply Kept.drewN | apply Kept.drew | refine Kept.setCell ?_ (.inr GW369.out) _) | exact HK.out)⟩

/-! ### laws_markWork: function 12 -/
def laws_markWork.f (k : Nat) (a0_0 : Int) (l0_1 : List (S53)) (l0_2 : List (S53)) (a0_3 : Int) (l0_4 : List (S71)) (a1 : Int) : Option (Int × (List (S53)) × (List (S53)) × (List (S71))) := (laws_markFree.f k a0_0 l0_1 l0_2 a1).bind fun bt375 => ((laws_markItemS.f k l0_4 bt375.1).bind fun bt378 => (some (bt378.1, bt375.2.1, bt375.2.2, bt378.2)))
theorem laws_markWork.mono : ∀ a0 a1 a2 a3 a4 a5 k, LeO (laws_markWork.f k a0 a1 a2 a3 a4 a5) (laws_markWork.f (k + 1) a0 a1 a2 a3 a4 a5) := by
 intro a0 a1 a2 a3 a4 a5 k
 unfold laws_markWork.f
 repeat' first
   | (with_reducible exact laws_markFree.mono _ _ _ _ _)
   | (with_reducible exact laws_markItemS.mono _ _ _)
   | (with_reducible exact LeO.refl _)
   | (with_reducible exact LeO.none _)
   | (with_reducible refine LeO.ite ?_ ?_)
   | (with_reducible refine LeO.bind ?_ (fun _ => ?_))
   | exact laws_markFree.mono _ _ _ _ _
   | exact laws_markItemS.mono _ _ _
   | exact LeO.none _
   | refine LeO.ite ?_ ?_
   | refine LeO.bind ?_ (fun _ => ?_)
set_option maxHeartbeats 8000000 in
set_option maxRecDepth 100000 in
theorem laws_markWork.calls (k : Nat) (a0_0 : Int) (P0_1_ : Nat → Prop) (u9000_ : Value) (l0_1 : List (S53)) (P0_2_ : Nat → Prop) (u9001_ : Value) (l0_2 : List (S53)) (a0_3 : Int) (P0_4_ : Nat → Prop) (u9002_ : Value) (l0_4 : List (S71)) (a1 : Int) (r1 : Int) (r2 : List (S53)) (r3 : List (S53)) (r4 : List (S71)) (w0 w : World) (hB : Below w0.heap.size w0 w) (ho0_1 : Kd.R k53 53 w w0.heap.size P0_1_ u9000_ l0_1) (hp0_1_0_2 : ∀ k_, P0_1_ k_ → ¬ P0_2_ k_) (ho0_2 : Kd.R k53 53 w w0.heap.size P0_2_ u9001_ l0_2) (hp0_2_0_1 : ∀ k_, P0_2_ k_ → ¬ P0_1_ k_) (ho0_4 : Kd.R k71 71 w w0.heap.size P0_4_ u9002_ l0_4) (h : laws_markWork.f k a0_0 l0_1 l0_2 a0_3 l0_4 a1 = some (r1, r2, r3, r4)) :
  Calls Try.prog 12 #[.agg #[.int .i64 a0_0, u9000_, u9001_, .int .i64 a0_3, u9002_], .int .i64 a1] w fun e w' => e = .returned (.int .i64 r1) ∧ Kd.R k53 53 w' w0.heap.size (fun k_ => ((P0_1_ k_ ∨ P0_2_ k_ ∨ P0_4_ k_) ∨ w.heap.size ≤ k_)) u9000_ r2 ∧ Kd.R k53 53 w' w0.heap.size (fun k_ => ((P0_1_ k_ ∨ P0_2_ k_ ∨ P0_4_ k_) ∨ w.heap.size ≤ k_)) u9001_ r3 ∧ Kd.R k71 71 w' w0.heap.size (fun k_ => ((P0_1_ k_ ∨ P0_2_ k_ ∨ P0_4_ k_) ∨ w.heap.size ≤ k_)) u9002_ r4 ∧ Below w0.heap.size w0 w' ∧ Kept w w' (fun k_ => P0_1_ k_ ∨ P0_2_ k_ ∨ P0_4_ k_) := by
 have hu27 := Try.underlying27
 have hu24 := Try.underlying24
 have HO0_1 := Aside0.mk (show Kd.R k53 53 w w0.heap.size (fun k_ => ((P0_1_ k_ ∨ P0_2_ k_ ∨ P0_4_ k_) ∨ w.heap.size ≤ k_) ∧ some k_ ≠ (u9001_ : Value).ownBlock) u9000_ l0_1 from Kd.R_mono ho0_1 (fun k_ hk => ⟨(.inl (.inl hk)), fun e_ => hp0_1_0_2 k_ hk (ho0_2.1 k_ e_.symm)⟩))
 have HO0_2 := Aside0.mk (show Kd.R k53 53 w w0.heap.size (fun k_ => ((P0_1_ k_ ∨ P0_2_ k_ ∨ P0_4_ k_) ∨ w.heap.size ≤ k_) ∧ some k_ ≠ (u9000_ : Value).ownBlock) u9001_ l0_2 from Kd.R_mono ho0_2 (fun k_ hk => ⟨(.inl (.inr (.inl hk))), fun e_ => hp0_2_0_1 k_ hk (ho0_1.1 k_ e_.symm)⟩))
 have HO0_4 := Aside0.mk (show Kd.R k71 71 w w0.heap.size (fun k_ => ((P0_1_ k_ ∨ P0_2_ k_ ∨ P0_4_ k_) ∨ w.heap.size ≤ k_)) u9002_ l0_4 from Kd.R_mono ho0_4 (fun k_ hk => (.inl (.inr (.inr hk)))))
 have HK := Aside0.mk (Kept.refl w (fun k_ => P0_1_ k_ ∨ P0_2_ k_ ∨ P0_4_ k_))
 have HW0 := Aside0.mk hB.size
 have HB := Aside0.mk hB
 clear hB
 have H : ((laws_markFree.f k a0_0 l0_1 l0_2 a1).bind fun bt375 => ((laws_markItemS.f k l0_4 bt375.1).bind fun bt378 => (some (bt378.1, bt375.2.1, bt375.2.2, bt378.2)))) = some (r1, r2, r3, r4) := h
 clear h
 replace H := Option.bind_eq_some_iff.mp H
 obtain ⟨⟨t375, t376, t377⟩, A30, H⟩ := H
 replace H : ((laws_markItemS.f k l0_4 t375).bind fun bt378 => (some (bt378.1, t376, t377, bt378.2))) = some (r1, r2, r3, r4) := H
 have A3 := Aside0.mk A30
 clear A30
 replace H := Option.bind_eq_some_iff.mp H
 obtain ⟨⟨t378, t379⟩, A40, H⟩ := H
 replace H : (some (t378, t376, t377, t379)) = some (r1, r2, r3, r4) := H
 have A4 := Aside0.mk A40
 clear A40
 simp only [Option.some.injEq, Prod.mk.injEq] at H
 obtain ⟨rfl, rfl, rfl, rfl⟩ := H
 obtain ⟨Ao5, co5, eo5⟩ := Kd.R_slice HO0_1.out
 subst eo5
 obtain ⟨Ao6, co6, eo6⟩ := Kd.R_slice HO0_2.out
 subst eo6
 obtain ⟨Ao7, co7, eo7⟩ := Kd.R_slice HO0_4.out
 subst eo7
 go_enter Try.func12, Try.ntmps12
 go_wp2_with (first | ((with_reducible refine gate_dst (N := 2) rfl ?_); refine box_event ?hg (N := 2) ?hd (cs := #[.int .i64 a0_0, .slice Ao5 l0_1.length co5, .slice Ao6 l0_2.length co6, .int .i64 a0_3, .slice Ao7 l0_4.length co7]) (t := 27) ?hr ?_; (case hd => rfl); (case hg => rfl); (case hr => first | (go_simp; done) | (go_simp; rfl)); intro gb374 hg w8 hbox hb; replace HO0_1 := nr HO0_1 hb; replace HO0_2 := nr HO0_2 hb; replace HO0_4 := nr HO0_4 hb; have BK374 := Aside0.mk (hbox); have GW374 := Aside0.mk ((by rw [hg]; exact (by first | exact HK.out.1 | exact (show Kept w _ (fun k_ => P0_1_ k_ ∨ P0_2_ k_ ∨ P0_4_ k_) from by repeat (first | (with_reducible first | exact HK.out | apply Kept.alloc | apply Kept.drewN | apply Kept.drew) | exact HK.out)).1) : w.heap.size ≤ gb374)); replace HK := Aside0.mk (Kept.below (S := (fun k_ => P0_1_ k_ ∨ P0_2_ k_ ∨ P0_4_ k_)) (by repeat (first | (with_reducible first | exact HK.out | apply Kept.alloc | apply Kept.drewN | apply Kept.drew) | exact HK.out)) hb); have GE374 := Aside0.mk ((by rw [hg]; exact (below_size (bs HB)) : w0.heap.size ≤ gb374)); replace HB := Aside0.mk (below_step (bs HB) hb); clear hb hbox hg; obtain ⟨hcz9_0, hcz9_1, hcz9_2, hcz9_3, hcz9_4⟩ := cz5 BK374; obtain ⟨hfz9_0, hfz9_1, hfz9_2, hfz9_3, hfz9_4⟩ := fz5 BK374) | ((with_reducible refine gate_callee (f := 35) rfl ?_); refine gL (some 8) rfl rfl Try.func35 (by kernel_rfl) rfl #[.agg #[.int .i64 a0_0, .slice Ao5 l0_1.length co5, .slice Ao6 l0_2.length co6], .int .i64 a1] rfl ?_; (with_reducible refine (laws_markFree.calls k a0_0 (fun k_ => some k_ = (.slice Ao5 l0_1.length co5 : Value).ownBlock) (.slice Ao5 l0_1.length co5) l0_1 (fun k_ => some k_ = (.slice Ao6 l0_2.length co6 : Value).ownBlock) (.slice Ao6 l0_2.length co6) l0_2 a1 t375 t376 t377 w0 _ ?side1 ?side2 ?side3 ?side4 ?side5 A3.out).mono ?_); (case side1 => repeat (first | (with_reducible first | exact HB.out | apply below_alloc | apply pw_below_drewN | apply below_drew1 | refine below_set ?_ GE374.out) | exact HB.out)); (case side2 => exact Kd.R_tight rfl HO0_1.out); (case side3 => exact fun k_ e_ => (HO0_1.out.1 k_ e_.symm).2); (case side4 => exact Kd.R_tight rfl HO0_2.out); (case side5 => exact fun k_ e_ => (HO0_2.out.1 k_ e_.symm).2); rintro e w10 ⟨rfl, hy0, hy1, hb, hkp⟩; refine ⟨_, rfl, ?_⟩; replace HO0_4 := Aside0.mk (Kd.R_mono (ok' := fun k_ => ((P0_1_ k_ ∨ P0_2_ k_ ∨ P0_4_ k_) ∨ w.heap.size ≤ k_)) (Kd.R_keptB ((Kd.R_apart' (Kd.R_apart' HO0_4.out (Kd.R_typed HO0_1.out) (by decide)) (Kd.R_typed HO0_2.out) (by decide))) hkp (fun k_ hk_ hs_ => Or.elim hs_ (fun e_ => (hk_.1.2) e_) (fun e_ => (hk_.2) e_))) (fun k_ hk_ => hk_.1.1.1)); replace BK374 := Aside0.mk (blk_kept (bk BK374) hkp (fun hs_ => Or.elim hs_ (fun e_ => (fun e_ => (Kd.R_ne HO0_1.out BK374.out (by decide)) e_) e_) (fun e_ => (fun e_ => (Kd.R_ne HO0_2.out BK374.out (by decide)) e_) e_))); replace HK := Aside0.mk (Kept.then_ (S := (fun k_ => P0_1_ k_ ∨ P0_2_ k_ ∨ P0_4_ k_)) (by repeat (first | (with_reducible first | exact HK.out | apply Kept.alloc | apply Kept.drewN | apply Kept.drew | refine Kept.setCell ?_ (.inr GW374.out) _) | exact HK.out)) hkp (fun k_ hs_ => Or.elim hs_ (fun e_ => (fun e_ => (HO0_1.out.1 k_ e_.symm).1) e_) (fun e_ => (fun e_ => (HO0_2.out.1 k_ e_.symm).1) e_))); replace HO0_1 := Aside0.mk (Kd.R_reok rfl hy0 (fun k_ e_ => HO0_1.out.1 k_ e_)); replace HO0_2 := Aside0.mk (Kd.R_reok rfl hy1 (fun k_ e_ => HO0_2.out.1 k_ e_)); replace HB := Aside0.mk (hb); (try clear hb); (try clear hkp); (try clear hy0); (try clear hy1); obtain ⟨hcz11_0, hcz11_1, hcz11_2, hcz11_3, hcz11_4⟩ := cz5 BK374; obtain ⟨hfz11_0, hfz11_1, hfz11_2, hfz11_3, hfz11_4⟩ := fz5 BK374) | ((with_reducible refine gate_callee (f := 21) rfl ?_); refine gL (some 12) rfl rfl Try.func21 (by kernel_rfl) rfl #[.slice Ao7 l0_4.length co7, .int .i64 t375] rfl ?_; (with_reducible refine (laws_markItemS.calls k (fun k_ => some k_ = (.slice Ao7 l0_4.length co7 : Value).ownBlock) (.slice Ao7 l0_4.length co7) l0_4 t375 t378 t379 w0 _ ?side1 ?side2 A4.out).mono ?_); (case side1 => repeat (first | (with_reducible first | exact HB.out | apply below_alloc | apply pw_below_drewN | apply below_drew1 | refine below_set ?_ GE374.out) | exact HB.out)); (case side2 => exact Kd.R_tight rfl HO0_4.out); rintro e w12 ⟨rfl, hy0, hb, hkp⟩; refine ⟨_, rfl, ?_⟩; replace HO0_1 := Aside0.mk (Kd.R_mono (ok' := fun k_ => ((P0_1_ k_ ∨ P0_2_ k_ ∨ P0_4_ k_) ∨ w.heap.size ≤ k_) ∧ some k_ ≠ (.slice Ao6 l0_2.length co6 : Value).ownBlock) (Kd.R_keptB ((Kd.R_apart' HO0_1.out (Kd.R_typed HO0_4.out) (by decide))) hkp (fun k_ hk_ hs_ => (hk_.2) hs_)) (fun k_ hk_ => ⟨hk_.1.1.1, hk_.1.1.2⟩)); replace HO0_2 := Aside0.mk (Kd.R_mono (ok' := fun k_ => ((P0_1_ k_ ∨ P0_2_ k_ ∨ P0_4_ k_) ∨ w.heap.size ≤ k_) ∧ some k_ ≠ (.slice Ao5 l0_1.length co5 : Value).ownBlock) (Kd.R_keptB ((Kd.R_apart' HO0_2.out (Kd.R_typed HO0_4.out) (by decide))) hkp (fun k_ hk_ hs_ => (hk_.2) hs_)) (fun k_ hk_ => ⟨hk_.1.1.1, hk_.1.1.2⟩)); replace BK374 := Aside0.mk (blk_kept (bk BK374) hkp (fun hs_ => (fun e_ => (Kd.R_ne HO0_4.out BK374.out (by decide)) e_) hs_)); replace HK := Aside0.mk (Kept.then_ (S := (fun k_ => P0_1_ k_ ∨ P0_2_ k_ ∨ P0_4_ k_)) (by repeat (first | (with_reducible first | exact HK.out | apply Kept.alloc | apply Kept.drewN | apply Kept.drew | refine Kept.setCell ?_ (.inr GW374.out) _) | exact HK.out)) hkp (fun k_ hs_ => (fun e_ => (HO0_4.out.1 k_ e_.symm)) hs_)); replace HO0_4 := Aside0.mk (Kd.R_reok rfl hy0 (fun k_ e_ => HO0_4.out.1 k_ e_)); replace HB := Aside0.mk (hb); (try clear hb); (try clear hkp); (try clear hy0)))
 go_ret
 exact ⟨by first | rfl | (simp [errW_none, errW_some] <;> rfl) | (simp [*, errW_none, errW_some] <;> rfl), by (with_reducible repeat (first | apply Kd.R_alloc | apply Kd.R_drewN | apply Kd.R_drew)); exact Kd.R_mono HO0_1.out (fun _ hk => hk.1), by (with_reducible repeat (first | apply Kd.R_alloc | apply Kd.R_drewN | apply Kd.R_drew)); exact Kd.R_mono HO0_2.out (fun _ hk => hk.1), by (with_reducible repeat (first | apply Kd.R_alloc | apply Kd.R_drewN | apply Kd.R_drew)); exact HO0_4.out, bs1 HB GE374, by repeat (first | (with_reducible first | exact HK.out | apply Kept.alloc | apply Kept.drewN | apply Kept.drew | refine Kept.setCell ?_ (.inr GW374.out) _) | exact HK.out)⟩

/-! ### spec_OpenOf: function 18 -/
def spec_OpenOf.f (k : Nat) (a0_0 : Int) (l0_1 : List (S53)) (l0_2 : List (S53)) (a0_3 : Int) (l0_4 : List (S71)) : Option ((List (S71)) × Bool) := (spec_GoodWork.f k a0_0 l0_1 l0_2 a0_3 l0_4).bind fun t388 => (if t388 = true then ((spec_l12Open.f k l0_4).bind fun t389 => (some (t389, true))) else (some (([] : List (S71)), false)))
theorem spec_OpenOf.mono : ∀ a0 a1 a2 a3 a4 k, LeO (spec_OpenOf.f k a0 a1 a2 a3 a4) (spec_OpenOf.f (k + 1) a0 a1 a2 a3 a4) := by
 intro a0 a1 a2 a3 a4 k
 unfold spec_OpenOf.f
 repeat' first
   | (with_reducible exact spec_GoodWork.mono _ _ _ _ _ _)
   | (with_reducible exact spec_l12Open.mono _ _)
   | (with_reducible exact LeO.refl _)
   | (with_reducible exact LeO.none _)
   | (with_reducible refine LeO.ite ?_ ?_)
   | (with_reducible refine LeO.bind ?_ (fun _ => ?_))
   | exact spec_GoodWork.mono _ _ _ _ _ _
   | exact spec_l12Open.mono _ _
   | exact LeO.none _
   | refine LeO.ite ?_ ?_
   | refine LeO.bind ?_ (fun _ => ?_)
set_option maxHeartbeats 8000000 in
set_option maxRecDepth 100000 in
theorem spec_OpenOf.calls (k : Nat) (a0_0 : Int) (A0_1 : Option Addr) (c0_1 : Nat) (l0_1 : List (S53)) (A0_2 : Option Addr) (c0_2 : Nat) (l0_2 : List (S53)) (a0_3 : Int) (A0_4 : Option Addr) (c0_4 : Nat) (l0_4 : List (S71)) (r1 : List (S71)) (r2 : Bool) (w : World) (hr0_1 : Kd.C k53 w A0_1 l0_1.length l0_1) (hc0_1 : l0_1.length ≤ c0_1) (hr0_2 : Kd.C k53 w A0_2 l0_2.length l0_2) (hc0_2 : l0_2.length ≤ c0_2) (hr0_4 : Kd.C k71 w A0_4 l0_4.length l0_4) (hc0_4 : l0_4.length ≤ c0_4) (h : spec_OpenOf.f k a0_0 l0_1 l0_2 a0_3 l0_4 = some (r1, r2)) :
  Calls Try.prog 18 #[.agg #[.int .i64 a0_0, .slice A0_1 l0_1.length c0_1, .slice A0_2 l0_2.length c0_2, .int .i64 a0_3, .slice A0_4 l0_4.length c0_4]] w fun e w' => ∃ v0_ : Value, e = .returned (.tuple #[v0_, .bool r2]) ∧ Kd.R k71 71 w' w.heap.size (fun _ => True) v0_ r1 ∧ Below w.heap.size w w' := by
 have hu27 := Try.underlying27
 have HR0_1 := Aside0.mk hr0_1
 have HC0_1 := Aside0.mk hc0_1
 clear hr0_1 hc0_1
 have HR0_2 := Aside0.mk hr0_2
 have HC0_2 := Aside0.mk hc0_2
 clear hr0_2 hc0_2
 have HR0_4 := Aside0.mk hr0_4
 have HC0_4 := Aside0.mk hc0_4
 clear hr0_4 hc0_4
 have HB := Aside0.mk (Below.refl w.heap.size w)
 have H : ((spec_GoodWork.f k a0_0 l0_1 l0_2 a0_3 l0_4).bind fun t388 => (if t388 = true then ((spec_l12Open.f k l0_4).bind fun t389 => (some (t389, true))) else (some (([] : List (S71)), false)))) = some (r1, r2) := h
 clear h
 replace H := Option.bind_eq_some_iff.mp H
 obtain ⟨t388, A20, H⟩ := H
 replace H : (if t388 = true then ((spec_l12Open.f k l0_4).bind fun t389 => (some (t389, true))) else (some (([] : List (S71)), false))) = some (r1, r2) := H
 have A2 := Aside0.mk A20
 clear A20
 by_cases c3 : t388 = true
 ·
  subst c3
  rw [if_pos rfl] at H
  replace H := Option.bind_eq_some_iff.mp H
  obtain ⟨t389, A40, H⟩ := H
  replace H : (some (t389, true)) = some (r1, r2) := H
  have A4 := Aside0.mk A40
  clear A40
  simp only [Option.some.injEq, Prod.mk.injEq] at H
  obtain ⟨rfl, rfl⟩ := H
  go_enter Try.func18, Try.ntmps18
  go_wp2_with (first | ((with_reducible refine gate_dst (N := 1) rfl ?_); refine box_event ?hg (N := 1) ?hd (cs := #[.int .i64 a0_0, .slice A0_1 l0_1.length c0_1, .slice A0_2 l0_2.length c0_2, .int .i64 a0_3, .slice A0_4 l0_4.length c0_4]) (t := 27) ?hr ?_; (case hd => rfl); (case hg => rfl); (case hr => first | (go_simp; done) | (go_simp; rfl)); intro gb387 hg w5 hbox hb; have BK387 := Aside0.mk (hbox); have GW387 := Aside0.mk ((by rw [hg]; exact (below_size (bs HB)) : w.heap.size ≤ gb387)); have GE387 := Aside0.mk ((by rw [hg]; exact (below_size (bs HB)) : w.heap.size ≤ gb387)); replace HB := Aside0.mk (below_step (bs HB) hb); clear hb hbox hg; obtain ⟨hcz6_0, hcz6_1, hcz6_2, hcz6_3, hcz6_4⟩ := cz5 BK387; obtain ⟨hfz6_0, hfz6_1, hfz6_2, hfz6_3, hfz6_4⟩ := fz5 BK387) | ((with_reducible refine gate_callee (f := 15) rfl ?_); refine gL (some 5) rfl rfl Try.func15 (by kernel_rfl) rfl #[.agg #[.int .i64 a0_0, .slice A0_1 l0_1.length c0_1, .slice A0_2 l0_2.length c0_2, .int .i64 a0_3, .slice A0_4 l0_4.length c0_4]] rfl ?_; (with_reducible refine (spec_GoodWork.calls k a0_0 _ _ l0_1 _ _ l0_2 a0_3 _ _ l0_4 true _ ?side1 ?side2 ?side3 ?side4 ?side5 ?side6 A2.out).mono ?_); (case side1 => exact cb HR0_1 HB); (case side2 => exact HC0_1.out); (case side3 => exact cb HR0_2 HB); (case side4 => exact HC0_2.out); (case side5 => exact cb HR0_4 HB); (case side6 => exact HC0_4.out); rintro e w7 ⟨rfl, hb⟩; refine ⟨_, rfl, ?_⟩; replace BK387 := nb BK387 hb; replace HB := Aside0.mk (below_step (bs1 HB GE387) hb); (try clear hb); (try clear hb2); (try clear hk); (try clear hi); obtain ⟨hcz8_0, hcz8_1, hcz8_2, hcz8_3, hcz8_4⟩ := cz5 BK387; obtain ⟨hfz8_0, hfz8_1, hfz8_2, hfz8_3, hfz8_4⟩ := fz5 BK387) | ((with_reducible refine gate_callee (f := 44) rfl ?_); refine gL (some 9) rfl rfl Try.func44 (by kernel_rfl) rfl #[.slice A0_4 l0_4.length c0_4] rfl ?_; (with_reducible refine (spec_l12Open.calls k _ _ l0_4 t389 _ ?side1 ?side2 A4.out).mono ?_); (case side1 => exact cb HR0_4 HB); (case side2 => exact HC0_4.out); rintro e w9 ⟨v390, rfl, ho0, hb⟩; refine ⟨_, rfl, ?_⟩; have HO391 := Aside0.mk (Kd.R_lower ho0 (below_size (bs1 HB GE387))); replace BK387 := nb BK387 hb; replace HB := Aside0.mk (below_step (bs1 HB GE387) hb); (try clear hb); (try clear hb2); (try clear hk); (try clear hi); (try clear ho0)))
  go_ret2
  exact ⟨_, by first | rfl | (simp [errW_none, errW_some] <;> rfl) | (simp [*, errW_none, errW_some] <;> rfl), by (with_reducible repeat (first | apply Kd.R_alloc | apply Kd.R_drewN | apply Kd.R_drew)); exact HO391.out, bs1 HB GE387⟩
 ·
  replace c3 := Bool.eq_false_iff.mpr c3
  subst c3
  rw [if_neg (show ¬ (false = true) by decide)] at H
  simp only [Option.some.injEq, Prod.mk.injEq] at H
  obtain ⟨rfl, rfl⟩ := H
  go_enter Try.func18, Try.ntmps18
  go_wp2_with (first | ((with_reducible refine gate_dst (N := 1) rfl ?_); refine box_event ?hg (N := 1) ?hd (cs := #[.int .i64 a0_0, .slice A0_1 l0_1.length c0_1, .slice A0_2 l0_2.length c0_2, .int .i64 a0_3, .slice A0_4 l0_4.length c0_4]) (t := 27) ?hr ?_; (case hd => rfl); (case hg => rfl); (case hr => first | (go_simp; done) | (go_simp; rfl)); intro gb387 hg w10 hbox hb; have BK387 := Aside0.mk (hbox); have GW387 := Aside0.mk ((by rw [hg]; exact (below_size (bs HB)) : w.heap.size ≤ gb387)); have GE387 := Aside0.mk ((by rw [hg]; exact (below_size (bs HB)) : w.heap.size ≤ gb387)); replace HB := Aside0.mk (below_step (bs HB) hb); clear hb hbox hg; obtain ⟨hcz11_0, hcz11_1, hcz11_2, hcz11_3, hcz11_4⟩ := cz5 BK387; obtain ⟨hfz11_0, hfz11_1, hfz11_2, hfz11_3, hfz11_4⟩ := fz5 BK387) | ((with_reducible refine gate_callee (f := 15) rfl ?_); refine gL (some 5) rfl rfl Try.func15 (by kernel_rfl) rfl #[.agg #[.int .i64 a0_0, .slice A0_1 l0_1.length c0_1, .slice A0_2 l0_2.length c0_2, .int .i64 a0_3, .slice A0_4 l0_4.length c0_4]] rfl ?_; (with_reducible refine (spec_GoodWork.calls k a0_0 _ _ l0_1 _ _ l0_2 a0_3 _ _ l0_4 false _ ?side1 ?side2 ?side3 ?side4 ?side5 ?side6 A2.out).mono ?_); (case side1 => exact cb HR0_1 HB); (case side2 => exact HC0_1.out); (case side3 => exact cb HR0_2 HB); (case side4 => exact HC0_2.out); (case side5 => exact cb HR0_4 HB); (case side6 => exact HC0_4.out); rintro e w12 ⟨rfl, hb⟩; refine ⟨_, rfl, ?_⟩; replace BK387 := nb BK387 hb; replace HB := Aside0.mk (below_step (bs1 HB GE387) hb); (try clear hb); (try clear hb2); (try clear hk); (try clear hi)))
  go_ret2
  exact ⟨_, by first | rfl | (simp [errW_none, errW_some] <;> rfl) | (simp [*, errW_none, errW_some] <;> rfl), by first | exact Kd.R_nil _ _ _ _ _ | exact Kd.N_nil _ _ _ _ _ | exact Kd.V_nil _ _ _ _ _ | exact Kd.Q_nil _ _ _ _ _ | exact Kd.S_nil _ _ _ _ _, bs1 HB GE387⟩

/-! ### laws_heldItemS: function 22 -/
def laws_heldItemS.l0 : Nat → List (S71) → Int → Int → Option (Int)
 | 0, _, _, _ => none
 | k + 1, x0, x1, x5 => if x5 < (x0.length : Int) then (if 0 ≤ x5 then (if ((rd_T71 x0 x5).f0) = x1 then (if ((rd_T71 x0 x5).f1) = (wrap64 (x1 + 1)) then (if ((rd_T71 x0 x5).f2.f0) = (wrap64 ((wrap64 (x1 + 1)) + 1)) then (if ((rd_T71 x0 x5).f2.f1) = (wrap64 ((wrap64 ((wrap64 (x1 + 1)) + 1)) + 1)) then (if ((rd_T71 x0 x5).f3) = (wrap64 ((wrap64 ((wrap64 ((wrap64 (x1 + 1)) + 1)) + 1)) + 1)) then (laws_heldItemS.l0 k x0 (wrap64 ((wrap64 ((wrap64 ((wrap64 ((wrap64 (x1 + 1)) + 1)) + 1)) + 1)) + 1)) (wrap64 (x5 + 1))) else (some (-1))) else (some (-1))) else (some (-1))) else (some (-1))) else (some (-1))) else (none)) else (some x1)
def laws_heldItemS.f (k : Nat) (l0 : List (S71)) (a1 : Int) : Option (Int) := laws_heldItemS.l0 k l0 a1 0
theorem laws_heldItemS.mono_l : ∀ k, (∀ y0 y1 y2, LeO (laws_heldItemS.l0 k y0 y1 y2) (laws_heldItemS.l0 (k + 1) y0 y1 y2))
 | 0 => fun _ _ _ r h => by simp [laws_heldItemS.l0] at h
 | k + 1 => by
  have ih0 := laws_heldItemS.mono_l k
  ·
   intro y0 y1 y2
   unfold laws_heldItemS.l0
   repeat' first
   | (with_reducible exact ih0 _ _ _)
   | (with_reducible exact LeO.refl _)
   | (with_reducible exact LeO.none _)
   | (with_reducible refine LeO.ite ?_ ?_)
   | (with_reducible refine LeO.bind ?_ (fun _ => ?_))
   | exact ih0 _ _ _
   | exact LeO.none _
   | refine LeO.ite ?_ ?_
   | refine LeO.bind ?_ (fun _ => ?_)
theorem laws_heldItemS.mono : ∀ a0 a1 k, LeO (laws_heldItemS.f k a0 a1) (laws_heldItemS.f (k + 1) a0 a1) := by
 intro a0 a1 k
 have ih0 := laws_heldItemS.mono_l k
 unfold laws_heldItemS.f
 repeat' first
   | (with_reducible exact ih0 _ _ _)
   | (with_reducible exact LeO.refl _)
   | (with_reducible exact LeO.none _)
   | (with_reducible refine LeO.ite ?_ ?_)
   | (with_reducible refine LeO.bind ?_ (fun _ => ?_))
   | exact ih0 _ _ _
   | exact LeO.none _
   | refine LeO.ite ?_ ?_
   | refine LeO.bind ?_ (fun _ => ?_)
set_option maxHeartbeats 8000000 in
set_option maxRecDepth 100000 in
theorem laws_heldItemS.calls (k : Nat) (A0 : Option Addr) (c0 : Nat) (l0 : List (S71)) (a1 : Int) (r : Int) (w : World) (hr0 : Kd.C k71 w A0 l0.length l0) (hc0 : l0.length ≤ c0) (h : laws_heldItemS.f k l0 a1 = some r) :
  Calls Try.prog 22 #[.slice A0 l0.length c0, .int .i64 a1] w fun e w' => e = .returned (.int .i64 r) ∧ Drawn0 w w' := by
 have HR0 := Aside0.mk hr0
 have HC0 := Aside0.mk hc0
 clear hr0 hc0
 have H : (laws_heldItemS.l0 k l0 a1 0) = some r := h
 clear h
 have H' := Aside0.mk H
 clear H
 go_enter Try.func22, Try.ntmps22
 go_wp2
 go_loopg [1, 5] k (fun kq v1 v5 w' => ∃ (x1_1 : Int) (x5_1 : Int), v1 = .int .i64 x1_1 ∧ v5 = .int .i64 x5_1 ∧ Aside0 (laws_heldItemS.l0 kq l0 x1_1 x5_1 = some r) ∧ Aside0 (kq ≤ k) ∧ Drawn0 w w')
 case atStart => exact ⟨(a1), (0), (by first | rfl | (simp; done) | (simp [*]; done)), (by first | rfl | (simp; done) | (simp [*]; done)), H', ⟨Nat.le_refl _⟩, by repeat (first | exact Drawn0.refl _ | apply Drawn0.step)⟩
 case round =>
  clear H'
  try clear c2
  try clear p2
  obtain ⟨x1_1, x5_1, rfl, rfl, HA, HK1, ⟨m1, rfl⟩⟩ := hrel
  cases gk with
  | zero => exact absurd HA.out (by simp [laws_heldItemS.l0])
  | succ k1 =>
   have H := HA.out
   clear HA
   simp only [laws_heldItemS.l0] at H
   by_cases c3 : x5_1 < (l0.length : Int)
   ·
    rw [if_pos c3] at H
    have c3b0 : decide (x5_1 < (l0.length : Int)) = true := decide_eq_true c3
    clear c3
    by_cases c4 : 0 ≤ x5_1
    ·
     rw [if_pos c4] at H
     have c4b0 : decide (0 ≤ x5_1) = true := decide_eq_true c4
     clear c4
     by_cases c5 : ((rd_T71 l0 x5_1).f0) = x1_1
     ·
      rw [if_pos c5] at H
      have c5b0 : (((rd_T71 l0 x5_1).f0) == x1_1) = true := beq_iff_eq.mpr c5
      have c5b1 : (((rd_T71 l0 x5_1).f0) != x1_1) = false := bne_eq_false_iff_eq.mpr c5
      clear c5
      by_cases c6 : ((rd_T71 l0 x5_1).f1) = (wrap64 (x1_1 + 1))
      ·
       rw [if_pos c6] at H
       have c6b0 : (((rd_T71 l0 x5_1).f1) == (wrap64 (x1_1 + 1))) = true := beq_iff_eq.mpr c6
       have c6b1 : (((rd_T71 l0 x5_1).f1) != (wrap64 (x1_1 + 1))) = false := bne_eq_false_iff_eq.mpr c6
       clear c6
       by_cases c7 : ((rd_T71 l0 x5_1).f2.f0) = (wrap64 ((wrap64 (x1_1 + 1)) + 1))
       ·
        rw [if_pos c7] at H
        have c7b0 : (((rd_T71 l0 x5_1).f2.f0) == (wrap64 ((wrap64 (x1_1 + 1)) + 1))) = true := beq_iff_eq.mpr c7
        have c7b1 : (((rd_T71 l0 x5_1).f2.f0) != (wrap64 ((wrap64 (x1_1 + 1)) + 1))) = false := bne_eq_false_iff_eq.mpr c7
        clear c7
        by_cases c8 : ((rd_T71 l0 x5_1).f2.f1) = (wrap64 ((wrap64 ((wrap64 (x1_1 + 1)) + 1)) + 1))
        ·
         rw [if_pos c8] at H
         have c8b0 : (((rd_T71 l0 x5_1).f2.f1) == (wrap64 ((wrap64 ((wrap64 (x1_1 + 1)) + 1)) + 1))) = true := beq_iff_eq.mpr c8
         have c8b1 : (((rd_T71 l0 x5_1).f2.f1) != (wrap64 ((wrap64 ((wrap64 (x1_1 + 1)) + 1)) + 1))) = false := bne_eq_false_iff_eq.mpr c8
         clear c8
         by_cases c9 : ((rd_T71 l0 x5_1).f3) = (wrap64 ((wrap64 ((wrap64 ((wrap64 (x1_1 + 1)) + 1)) + 1)) + 1))
         ·
          rw [if_pos c9] at H
          have c9b0 : (((rd_T71 l0 x5_1).f3) == (wrap64 ((wrap64 ((wrap64 ((wrap64 (x1_1 + 1)) + 1)) + 1)) + 1))) = true := beq_iff_eq.mpr c9
          have c9b1 : (((rd_T71 l0 x5_1).f3) != (wrap64 ((wrap64 ((wrap64 ((wrap64 (x1_1 + 1)) + 1)) + 1)) + 1))) = false := bne_eq_false_iff_eq.mpr c9
          clear c9
          have H' := Aside0.mk H
          clear H
          have p413 : 0 ≤ (x5_1 : Int) := of_decide_eq_true (by first | (with_reducible assumption) | assumption)
          have q413 : x5_1 < (l0.length : Int) := of_decide_eq_true (by first | (with_reducible assumption) | assumption)
          obtain ⟨ad413, e413, hx413_0, hx413_1, hx413_2, hx413_3, hx413_4⟩ := at_T71 HR0.out x5_1 p413 q413
          cases e413
          replace p413 := eq_true p413
          replace q413 := eq_true q413
          have p414 : 0 ≤ (x5_1 : Int) := of_decide_eq_true (by first | (with_reducible assumption) | assumption)
          have q414 : x5_1 < (l0.length : Int) := of_decide_eq_true (by first | (with_reducible assumption) | assumption)
          obtain ⟨ad414, e414, hx414_0, hx414_1, hx414_2, hx414_3, hx414_4⟩ := at_T71 HR0.out x5_1 p414 q414
          obtain rfl : ad413 = ad414 := (by injection e414)
          replace p414 := eq_true p414
          replace q414 := eq_true q414
          have p415 : 0 ≤ (x5_1 : Int) := of_decide_eq_true (by first | (with_reducible assumption) | assumption)
          have q415 : x5_1 < (l0.length : Int) := of_decide_eq_true (by first | (with_reducible assumption) | assumption)
          obtain ⟨ad415, e415, hx415_0, hx415_1, hx415_2, hx415_3, hx415_4⟩ := at_T71 HR0.out x5_1 p415 q415
          obtain rfl : ad413 = ad415 := (by injection e415)
          replace p415 := eq_true p415
          replace q415 := eq_true q415
          have p416 : 0 ≤ (x5_1 : Int) := of_decide_eq_true (by first | (with_reducible assumption) | assumption)
          have q416 : x5_1 < (l0.length : Int) := of_decide_eq_true (by first | (with_reducible assumption) | assumption)
          obtain ⟨ad416, e416, hx416_0, hx416_1, hx416_2, hx416_3, hx416_4⟩ := at_T71 HR0.out x5_1 p416 q416
          obtain rfl : ad413 = ad416 := (by injection e416)
          replace p416 := eq_true p416
          replace q416 := eq_true q416
          have p417 : 0 ≤ (x5_1 : Int) := of_decide_eq_true (by first | (with_reducible assumption) | assumption)
          have q417 : x5_1 < (l0.length : Int) := of_decide_eq_true (by first | (with_reducible assumption) | assumption)
          obtain ⟨ad417, e417, hx417_0, hx417_1, hx417_2, hx417_3, hx417_4⟩ := at_T71 HR0.out x5_1 p417 q417
          obtain rfl : ad413 = ad417 := (by injection e417)
          replace p417 := eq_true p417
          replace q417 := eq_true q417
          go_wp2
          go_roundg k1
          case measure => have := HK1.out; omega
          case rel => exact ⟨(wrap64 ((wrap64 ((wrap64 ((wrap64 ((wrap64 (x1_1 + 1)) + 1)) + 1)) + 1)) + 1)), (wrap64 (x5_1 + 1)), (by first | rfl | (simp; done) | (simp [*]; done)), (by first | rfl | (simp; done) | (simp [*]; done)), H', ⟨by have := HK1.out; omega⟩, by repeat (first | exact Drawn0.refl _ | apply Drawn0.step)⟩
         ·
          rw [if_neg c9] at H
          have c9b0 : (((rd_T71 l0 x5_1).f3) == (wrap64 ((wrap64 ((wrap64 ((wrap64 (x1_1 + 1)) + 1)) + 1)) + 1))) = false := beq_eq_false_iff_ne.mpr c9
          have c9b1 : (((rd_T71 l0 x5_1).f3) != (wrap64 ((wrap64 ((wrap64 ((wrap64 (x1_1 + 1)) + 1)) + 1)) + 1))) = true := bne_iff_ne.mpr c9
          obtain rfl := Option.some.inj H
          have p413 : 0 ≤ (x5_1 : Int) := of_decide_eq_true (by first | (with_reducible assumption) | assumption)
          have q413 : x5_1 < (l0.length : Int) := of_decide_eq_true (by first | (with_reducible assumption) | assumption)
          obtain ⟨ad413, e413, hx413_0, hx413_1, hx413_2, hx413_3, hx413_4⟩ := at_T71 HR0.out x5_1 p413 q413
          cases e413
          replace p413 := eq_true p413
          replace q413 := eq_true q413
          have p414 : 0 ≤ (x5_1 : Int) := of_decide_eq_true (by first | (with_reducible assumption) | assumption)
          have q414 : x5_1 < (l0.length : Int) := of_decide_eq_true (by first | (with_reducible assumption) | assumption)
          obtain ⟨ad414, e414, hx414_0, hx414_1, hx414_2, hx414_3, hx414_4⟩ := at_T71 HR0.out x5_1 p414 q414
          obtain rfl : ad413 = ad414 := (by injection e414)
          replace p414 := eq_true p414
          replace q414 := eq_true q414
          have p415 : 0 ≤ (x5_1 : Int) := of_decide_eq_true (by first | (with_reducible assumption) | assumption)
          have q415 : x5_1 < (l0.length : Int) := of_decide_eq_true (by first | (with_reducible assumption) | assumption)
          obtain ⟨ad415, e415, hx415_0, hx415_1, hx415_2, hx415_3, hx415_4⟩ := at_T71 HR0.out x5_1 p415 q415
          obtain rfl : ad413 = ad415 := (by injection e415)
          replace p415 := eq_true p415
          replace q415 := eq_true q415
          have p416 : 0 ≤ (x5_1 : Int) := of_decide_eq_true (by first | (with_reducible assumption) | assumption)
          have q416 : x5_1 < (l0.length : Int) := of_decide_eq_true (by first | (with_reducible assumption) | assumption)
          obtain ⟨ad416, e416, hx416_0, hx416_1, hx416_2, hx416_3, hx416_4⟩ := at_T71 HR0.out x5_1 p416 q416
          obtain rfl : ad413 = ad416 := (by injection e416)
          replace p416 := eq_true p416
          replace q416 := eq_true q416
          have p417 : 0 ≤ (x5_1 : Int) := of_decide_eq_true (by first | (with_reducible assumption) | assumption)
          have q417 : x5_1 < (l0.length : Int) := of_decide_eq_true (by first | (with_reducible assumption) | assumption)
          obtain ⟨ad417, e417, hx417_0, hx417_1, hx417_2, hx417_3, hx417_4⟩ := at_T71 HR0.out x5_1 p417 q417
          obtain rfl : ad413 = ad417 := (by injection e417)
          replace p417 := eq_true p417
          replace q417 := eq_true q417
          go_wp2
          go_ret
          exact ⟨by first | rfl | (simp; done) | (simp [*]; done), by repeat (first | exact Drawn0.refl _ | apply Drawn0.step)⟩
        ·
         rw [if_neg c8] at H
         have c8b0 : (((rd_T71 l0 x5_1).f2.f1) == (wrap64 ((wrap64 ((wrap64 (x1_1 + 1)) + 1)) + 1))) = false := beq_eq_false_iff_ne.mpr c8
         have c8b1 : (((rd_T71 l0 x5_1).f2.f1) != (wrap64 ((wrap64 ((wrap64 (x1_1 + 1)) + 1)) + 1))) = true := bne_iff_ne.mpr c8
         obtain rfl := Option.some.inj H
         have p413 : 0 ≤ (x5_1 : Int) := of_decide_eq_true (by first | (with_reducible assumption) | assumption)
         have q413 : x5_1 < (l0.length : Int) := of_decide_eq_true (by first | (with_reducible assumption) | assumption)
         obtain ⟨ad413, e413, hx413_0, hx413_1, hx413_2, hx413_3, hx413_4⟩ := at_T71 HR0.out x5_1 p413 q413
         cases e413
         replace p413 := eq_true p413
         replace q413 := eq_true q413
         have p414 : 0 ≤ (x5_1 : Int) := of_decide_eq_true (by first | (with_reducible assumption) | assumption)
         have q414 : x5_1 < (l0.length : Int) := of_decide_eq_true (by first | (with_reducible assumption) | assumption)
         obtain ⟨ad414, e414, hx414_0, hx414_1, hx414_2, hx414_3, hx414_4⟩ := at_T71 HR0.out x5_1 p414 q414
         obtain rfl : ad413 = ad414 := (by injection e414)
         replace p414 := eq_true p414
         replace q414 := eq_true q414
         have p415 : 0 ≤ (x5_1 : Int) := of_decide_eq_true (by first | (with_reducible assumption) | assumption)
         have q415 : x5_1 < (l0.length : Int) := of_decide_eq_true (by first | (with_reducible assumption) | assumption)
         obtain ⟨ad415, e415, hx415_0, hx415_1, hx415_2, hx415_3, hx415_4⟩ := at_T71 HR0.out x5_1 p415 q415
         obtain rfl : ad413 = ad415 := (by injection e415)
         replace p415 := eq_true p415
         replace q415 := eq_true q415
         have p416 : 0 ≤ (x5_1 : Int) := of_decide_eq_true (by first | (with_reducible assumption) | assumption)
         have q416 : x5_1 < (l0.length : Int) := of_decide_eq_true (by first | (with_reducible assumption) | assumption)
         obtain ⟨ad416, e416, hx416_0, hx416_1, hx416_2, hx416_3, hx416_4⟩ := at_T71 HR0.out x5_1 p416 q416
         obtain rfl : ad413 = ad416 := (by injection e416)
         replace p416 := eq_true p416
         replace q416 := eq_true q416
         go_wp2
         go_ret
         exact ⟨by first | rfl | (simp; done) | (simp [*]; done), by repeat (first | exact Drawn0.refl _ | apply Drawn0.step)⟩
       ·
        rw [if_neg c7] at H
        have c7b0 : (((rd_T71 l0 x5_1).f2.f0) == (wrap64 ((wrap64 (x1_1 + 1)) + 1))) = false := beq_eq_false_iff_ne.mpr c7
        have c7b1 : (((rd_T71 l0 x5_1).f2.f0) != (wrap64 ((wrap64 (x1_1 + 1)) + 1))) = true := bne_iff_ne.mpr c7
        obtain rfl := Option.some.inj H
        have p413 : 0 ≤ (x5_1 : Int) := of_decide_eq_true (by first | (with_reducible assumption) | assumption)
        have q413 : x5_1 < (l0.length : Int) := of_decide_eq_true (by first | (with_reducible assumption) | assumption)
        obtain ⟨ad413, e413, hx413_0, hx413_1, hx413_2, hx413_3, hx413_4⟩ := at_T71 HR0.out x5_1 p413 q413
        cases e413
        replace p413 := eq_true p413
        replace q413 := eq_true q413
        have p414 : 0 ≤ (x5_1 : Int) := of_decide_eq_true (by first | (with_reducible assumption) | assumption)
        have q414 : x5_1 < (l0.length : Int) := of_decide_eq_true (by first | (with_reducible assumption) | assumption)
        obtain ⟨ad414, e414, hx414_0, hx414_1, hx414_2, hx414_3, hx414_4⟩ := at_T71 HR0.out x5_1 p414 q414
        obtain rfl : ad413 = ad414 := (by injection e414)
        replace p414 := eq_true p414
        replace q414 := eq_true q414
        have p415 : 0 ≤ (x5_1 : Int) := of_decide_eq_true (by first | (with_reducible assumption) | assumption)
        have q415 : x5_1 < (l0.length : Int) := of_decide_eq_true (by first | (with_reducible assumption) | assumption)
        obtain ⟨ad415, e415, hx415_0, hx415_1, hx415_2, hx415_3, hx415_4⟩ := at_T71 HR0.out x5_1 p415 q415
        obtain rfl : ad413 = ad415 := (by injection e415)
        replace p415 := eq_true p415
        replace q415 := eq_true q415
        go_wp2
        go_ret
        exact ⟨by first | rfl | (simp; done) | (simp [*]; done), by repeat (first | exact Drawn0.refl _ | apply Drawn0.step)⟩
      ·
       rw [if_neg c6] at H
       have c6b0 : (((rd_T71 l0 x5_1).f1) == (wrap64 (x1_1 + 1))) = false := beq_eq_false_iff_ne.mpr c6
       have c6b1 : (((rd_T71 l0 x5_1).f1) != (wrap64 (x1_1 + 1))) = true := bne_iff_ne.mpr c6
       obtain rfl := Option.some.inj H
       have p413 : 0 ≤ (x5_1 : Int) := of_decide_eq_true (by first | (with_reducible assumption) | assumption)
       have q413 : x5_1 < (l0.length : Int) := of_decide_eq_true (by first | (with_reducible assumption) | assumption)
       obtain ⟨ad413, e413, hx413_0, hx413_1, hx413_2, hx413_3, hx413_4⟩ := at_T71 HR0.out x5_1 p413 q413
       cases e413
       replace p413 := eq_true p413
       replace q413 := eq_true q413
       have p414 : 0 ≤ (x5_1 : Int) := of_decide_eq_true (by first | (with_reducible assumption) | assumption)
       have q414 : x5_1 < (l0.length : Int) := of_decide_eq_true (by first | (with_reducible assumption) | assumption)
       obtain ⟨ad414, e414, hx414_0, hx414_1, hx414_2, hx414_3, hx414_4⟩ := at_T71 HR0.out x5_1 p414 q414
       obtain rfl : ad413 = ad414 := (by injection e414)
       replace p414 := eq_true p414
       replace q414 := eq_true q414
       go_wp2
       go_ret
       exact ⟨by first | rfl | (simp; done) | (simp [*]; done), by repeat (first | exact Drawn0.refl _ | apply Drawn0.step)⟩
     ·
      rw [if_neg c5] at H
      have c5b0 : (((rd_T71 l0 x5_1).f0) == x1_1) = false := beq_eq_false_iff_ne.mpr c5
      have c5b1 : (((rd_T71 l0 x5_1).f0) != x1_1) = true := bne_iff_ne.mpr c5
      obtain rfl := Option.some.inj H
      have p413 : 0 ≤ (x5_1 : Int) := of_decide_eq_true (by first | (with_reducible assumption) | assumption)
      have q413 : x5_1 < (l0.length : Int) := of_decide_eq_true (by first | (with_reducible assumption) | assumption)
      obtain ⟨ad413, e413, hx413_0, hx413_1, hx413_2, hx413_3, hx413_4⟩ := at_T71 HR0.out x5_1 p413 q413
      cases e413
      replace p413 := eq_true p413
      replace q413 := eq_true q413
      go_wp2
      go_ret
      exact ⟨by first | rfl | (simp; done) | (simp [*]; done), by repeat (first | exact Drawn0.refl _ | apply Drawn0.step)⟩
    ·
     rw [if_neg c4] at H
     exact absurd H (by simp)
   ·
    rw [if_neg c3] at H
    have c3b0 : decide (x5_1 < (l0.length : Int)) = false := decide_eq_false c3
    clear c3
    obtain rfl := Option.some.inj H
    go_wp2
    go_ret
    exact ⟨by first | rfl | (simp; done) | (simp [*]; done), by repeat (first | exact Drawn0.refl _ | apply Drawn0.step)⟩

/-! ### laws_FnExactOpenOf: function 5 -/
mutual
def laws_FnExactOpenOf.j0 : Nat → List (S71) → Bool → List (S71) → Bool → Bool → Int → List (S50) → List (S50) → Int → List (S88) → Int → List (S53) → List (S53) → Int → List (S71) → Option (Bool)
 | 0, _, _, _, _, _, _, _, _, _, _, _, _, _, _, _ => none
 | k + 1, x4, x5, x7, x8, x40, x419000, x419001, x419002, x419003, x419004, x447000, x447001, x447002, x447003, x447004 => if x40 = true then (some false) else ((laws_toWork.f k x419000 x419001 x419002 x419003 x419004).bind fun bt452 => ((laws_eqWork.f k x447000 x447001 x447002 x447003 x447004 bt452.1 bt452.2.1 bt452.2.2.1 bt452.2.2.2.1 bt452.2.2.2.2).bind fun t463 => (if t463 = true then ((laws_markWork.f k x447000 x447001 x447002 x447003 x447004 1).bind fun bt464 => (if bt464.1 < 0 then (laws_FnExactOpenOf.j1 k x4 x5 x7 true x419000 x419001 x419002 x419003 x419004) else ((laws_eqItemS.f k x7 x4).bind fun t468 => (if t468 = true then (laws_FnExactOpenOf.j1 k x4 x5 x7 (x8 != x5) x419000 x419001 x419002 x419003 x419004) else (laws_FnExactOpenOf.j1 k x4 x5 x7 true x419000 x419001 x419002 x419003 x419004))))) else (some false))))
def laws_FnExactOpenOf.j1 : Nat → List (S71) → Bool → List (S71) → Bool → Int → List (S50) → List (S50) → Int → List (S88) → Option (Bool)
 | 0, _, _, _, _, _, _, _, _, _ => none
 | k + 1, x4, x5, x7, x61, x419000, x419001, x419002, x419003, x419004 => if x61 = true then (some false) else ((laws_markItemS.f k x7 1).bind fun bt469 => ((laws_heldItemS.f k bt469.2 1).bind fun t471 => (if t471 < 0 then (some false) else (if t471 = bt469.1 then ((laws_toWork.f k x419000 x419001 x419002 x419003 x419004).bind fun bt472 => ((impl_OpenOf.f k bt472.1 bt472.2.1 bt472.2.2.1 bt472.2.2.2.1 bt472.2.2.2.2).bind fun bt483 => ((laws_eqItemS.f k bt483.1 x4).bind fun t487 => (if t487 = true then (laws_FnExactOpenOf.j2 k bt469.2 bt469.1 (bt483.2 != x5)) else (laws_FnExactOpenOf.j2 k bt469.2 bt469.1 true))))) else (some false)))))
def laws_FnExactOpenOf.j2 : Nat → List (S71) → Int → Bool → Option (Bool)
 | 0, _, _, _ => none
 | k + 1, x7, x10, x87 => if x87 = true then (some false) else ((laws_heldItemS.f k x7 1).bind fun t488 => (if t488 < 0 then (some false) else (if t488 = x10 then (some true) else (some false))))
end
def laws_FnExactOpenOf.f (k : Nat) (a0_0 : Int) (l0_1 : List (S50)) (l0_2 : List (S50)) (a0_3 : Int) (l0_4 : List (S88)) : Option (Bool) := (laws_szWork.f a0_0 l0_1 l0_2 a0_3 l0_4 1048576).bind fun t419 => (if t419 < 0 then (some true) else ((laws_toWork.f k a0_0 l0_1 l0_2 a0_3 l0_4).bind fun bt420 => ((spec_OpenOf.f k bt420.1 bt420.2.1 bt420.2.2.1 bt420.2.2.2.1 bt420.2.2.2.2).bind fun bt431 => ((laws_toWork.f k a0_0 l0_1 l0_2 a0_3 l0_4).bind fun bt435 => ((impl_OpenOf.f k bt435.1 bt435.2.1 bt435.2.2.1 bt435.2.2.2.1 bt435.2.2.2.2).bind fun bt447 => ((laws_eqItemS.f k bt447.1 bt431.1).bind fun t451 => (if t451 = true then (laws_FnExactOpenOf.j0 k bt431.1 bt431.2 bt447.1 bt447.2 (bt447.2 != bt431.2) a0_0 l0_1 l0_2 a0_3 l0_4 bt435.1 bt435.2.1 bt435.2.2.1 bt435.2.2.2.1 bt435.2.2.2.2) else (laws_FnExactOpenOf.j0 k bt431.1 bt431.2 bt447.1 bt447.2 true a0_0 l0_1 l0_2 a0_3 l0_4 bt435.1 bt435.2.1 bt435.2.2.1 bt435.2.2.2.1 bt435.2.2.2.2))))))))
theorem laws_FnExactOpenOf.mono_l : ∀ k, (∀ y0 y1 y2 y3 y4 y5 y6 y7 y8 y9 y10 y11 y12 y13 y14, LeO (laws_FnExactOpenOf.j0 k y0 y1 y2 y3 y4 y5 y6 y7 y8 y9 y10 y11 y12 y13 y14) (laws_FnExactOpenOf.j0 (k + 1) y0 y1 y2 y3 y4 y5 y6 y7 y8 y9 y10 y11 y12 y13 y14)) ∧ (∀ y0 y1 y2 y3 y4 y5 y6 y7 y8, LeO (laws_FnExactOpenOf.j1 k y0 y1 y2 y3 y4 y5 y6 y7 y8) (laws_FnExactOpenOf.j1 (k + 1) y0 y1 y2 y3 y4 y5 y6 y7 y8)) ∧ (∀ y0 y1 y2, LeO (laws_FnExactOpenOf.j2 k y0 y1 y2) (laws_FnExactOpenOf.j2 (k + 1) y0 y1 y2))
 | 0 => ⟨fun _ _ _ _ _ _ _ _ _ _ _ _ _ _ _ r h => by simp [laws_FnExactOpenOf.j0] at h, fun _ _ _ _ _ _ _ _ _ r h => by simp [laws_FnExactOpenOf.j1] at h, fun _ _ _ r h => by simp [laws_FnExactOpenOf.j2] at h⟩
 | k + 1 => by
  obtain ⟨ih0, ih1, ih2⟩ := laws_FnExactOpenOf.mono_l k
  refine ⟨?_, ?_, ?_⟩
  ·
   intro y0 y1 y2 y3 y4 y5 y6 y7 y8 y9 y10 y11 y12 y13 y14
   unfold laws_FnExactOpenOf.j0
   repeat' first
   | (with_reducible exact ih0 _ _ _ _ _ _ _ _ _ _ _ _ _ _ _)
   | (with_reducible exact ih1 _ _ _ _ _ _ _ _ _)
   | (with_reducible exact ih2 _ _ _)
   | (with_reducible exact impl_OpenOf.mono _ _ _ _ _ _)
   | (with_reducible exact laws_eqItemS.mono _ _ _)
   | (with_reducible exact laws_eqWork.mono _ _ _ _ _ _ _ _ _ _ _)
   | (with_reducible exact laws_heldItemS.mono _ _ _)
   | (with_reducible exact laws_markItemS.mono _ _ _)
   | (with_reducible exact laws_markWork.mono _ _ _ _ _ _ _)
   | (with_reducible exact laws_toWork.mono _ _ _ _ _ _)
   | (with_reducible exact spec_OpenOf.mono _ _ _ _ _ _)
   | (with_reducible exact LeO.refl _)
   | (with_reducible exact LeO.none _)
   | (with_reducible refine LeO.ite ?_ ?_)
   | (with_reducible refine LeO.bind ?_ (fun _ => ?_))
   | exact ih0 _ _ _ _ _ _ _ _ _ _ _ _ _ _ _
   | exact ih1 _ _ _ _ _ _ _ _ _
   | exact ih2 _ _ _
   | exact impl_OpenOf.mono _ _ _ _ _ _
   | exact laws_eqItemS.mono _ _ _
   | exact laws_eqWork.mono _ _ _ _ _ _ _ _ _ _ _
   | exact laws_heldItemS.mono _ _ _
   | exact laws_markItemS.mono _ _ _
   | exact laws_markWork.mono _ _ _ _ _ _ _
   | exact laws_toWork.mono _ _ _ _ _ _
   | exact spec_OpenOf.mono _ _ _ _ _ _
   | exact LeO.none _
   | refine LeO.ite ?_ ?_
   | refine LeO.bind ?_ (fun _ => ?_)
  ·
   intro y0 y1 y2 y3 y4 y5 y6 y7 y8
   unfold laws_FnExactOpenOf.j1
   repeat' first
   | (with_reducible exact ih0 _ _ _ _ _ _ _ _ _ _ _ _ _ _ _)
   | (with_reducible exact ih1 _ _ _ _ _ _ _ _ _)
   | (with_reducible exact ih2 _ _ _)
   | (with_reducible exact impl_OpenOf.mono _ _ _ _ _ _)
   | (with_reducible exact laws_eqItemS.mono _ _ _)
   | (with_reducible exact laws_eqWork.mono _ _ _ _ _ _ _ _ _ _ _)
   | (with_reducible exact laws_heldItemS.mono _ _ _)
   | (with_reducible exact laws_markItemS.mono _ _ _)
   | (with_reducible exact laws_markWork.mono _ _ _ _ _ _ _)
   | (with_reducible exact laws_toWork.mono _ _ _ _ _ _)
   | (with_reducible exact spec_OpenOf.mono _ _ _ _ _ _)
   | (with_reducible exact LeO.refl _)
   | (with_reducible exact LeO.none _)
   | (with_reducible refine LeO.ite ?_ ?_)
   | (with_reducible refine LeO.bind ?_ (fun _ => ?_))
   | exact ih0 _ _ _ _ _ _ _ _ _ _ _ _ _ _ _
   | exact ih1 _ _ _ _ _ _ _ _ _
   | exact ih2 _ _ _
   | exact impl_OpenOf.mono _ _ _ _ _ _
   | exact laws_eqItemS.mono _ _ _
   | exact laws_eqWork.mono _ _ _ _ _ _ _ _ _ _ _
   | exact laws_heldItemS.mono _ _ _
   | exact laws_markItemS.mono _ _ _
   | exact laws_markWork.mono _ _ _ _ _ _ _
   | exact laws_toWork.mono _ _ _ _ _ _
   | exact spec_OpenOf.mono _ _ _ _ _ _
   | exact LeO.none _
   | refine LeO.ite ?_ ?_
   | refine LeO.bind ?_ (fun _ => ?_)
  ·
   intro y0 y1 y2
   unfold laws_FnExactOpenOf.j2
   repeat' first
   | (with_reducible exact ih0 _ _ _ _ _ _ _ _ _ _ _ _ _ _ _)
   | (with_reducible exact ih1 _ _ _ _ _ _ _ _ _)
   | (with_reducible exact ih2 _ _ _)
   | (with_reducible exact impl_OpenOf.mono _ _ _ _ _ _)
   | (with_reducible exact laws_eqItemS.mono _ _ _)
   | (with_reducible exact laws_eqWork.mono _ _ _ _ _ _ _ _ _ _ _)
   | (with_reducible exact laws_heldItemS.mono _ _ _)
   | (with_reducible exact laws_markItemS.mono _ _ _)
   | (with_reducible exact laws_markWork.mono _ _ _ _ _ _ _)
   | (with_reducible exact laws_toWork.mono _ _ _ _ _ _)
   | (with_reducible exact spec_OpenOf.mono _ _ _ _ _ _)
   | (with_reducible exact LeO.refl _)
   | (with_reducible exact LeO.none _)
   | (with_reducible refine LeO.ite ?_ ?_)
   | (with_reducible refine LeO.bind ?_ (fun _ => ?_))
   | exact ih0 _ _ _ _ _ _ _ _ _ _ _ _ _ _ _
   | exact ih1 _ _ _ _ _ _ _ _ _
   | exact ih2 _ _ _
   | exact impl_OpenOf.mono _ _ _ _ _ _
   | exact laws_eqItemS.mono _ _ _
   | exact laws_eqWork.mono _ _ _ _ _ _ _ _ _ _ _
   | exact laws_heldItemS.mono _ _ _
   | exact laws_markItemS.mono _ _ _
   | exact laws_markWork.mono _ _ _ _ _ _ _
   | exact laws_toWork.mono _ _ _ _ _ _
   | exact spec_OpenOf.mono _ _ _ _ _ _
   | exact LeO.none _
   | refine LeO.ite ?_ ?_
   | refine LeO.bind ?_ (fun _ => ?_)
theorem laws_FnExactOpenOf.mono : ∀ a0 a1 a2 a3 a4 k, LeO (laws_FnExactOpenOf.f k a0 a1 a2 a3 a4) (laws_FnExactOpenOf.f (k + 1) a0 a1 a2 a3 a4) := by
 intro a0 a1 a2 a3 a4 k
 obtain ⟨ih0, ih1, ih2⟩ := laws_FnExactOpenOf.mono_l k
 unfold laws_FnExactOpenOf.f
 repeat' first
   | (with_reducible exact ih0 _ _ _ _ _ _ _ _ _ _ _ _ _ _ _)
   | (with_reducible exact ih1 _ _ _ _ _ _ _ _ _)
   | (with_reducible exact ih2 _ _ _)
   | (with_reducible exact impl_OpenOf.mono _ _ _ _ _ _)
   | (with_reducible exact laws_eqItemS.mono _ _ _)
   | (with_reducible exact laws_eqWork.mono _ _ _ _ _ _ _ _ _ _ _)
   | (with_reducible exact laws_heldItemS.mono _ _ _)
   | (with_reducible exact laws_markItemS.mono _ _ _)
   | (with_reducible exact laws_markWork.mono _ _ _ _ _ _ _)
   | (with_reducible exact laws_toWork.mono _ _ _ _ _ _)
   | (with_reducible exact spec_OpenOf.mono _ _ _ _ _ _)
   | (with_reducible exact LeO.refl _)
   | (with_reducible exact LeO.none _)
   | (with_reducible refine LeO.ite ?_ ?_)
   | (with_reducible refine LeO.bind ?_ (fun _ => ?_))
   | exact ih0 _ _ _ _ _ _ _ _ _ _ _ _ _ _ _
   | exact ih1 _ _ _ _ _ _ _ _ _
   | exact ih2 _ _ _
   | exact impl_OpenOf.mono _ _ _ _ _ _
   | exact laws_eqItemS.mono _ _ _
   | exact laws_eqWork.mono _ _ _ _ _ _ _ _ _ _ _
   | exact laws_heldItemS.mono _ _ _
   | exact laws_markItemS.mono _ _ _
   | exact laws_markWork.mono _ _ _ _ _ _ _
   | exact laws_toWork.mono _ _ _ _ _ _
   | exact spec_OpenOf.mono _ _ _ _ _ _
   | exact LeO.none _
   | refine LeO.ite ?_ ?_
   | refine LeO.bind ?_ (fun _ => ?_)
set_option maxHeartbeats 8000000 in
set_option maxRecDepth 100000 in
theorem laws_FnExactOpenOf.calls (k : Nat) (a0_0 : Int) (A0_1 : Option Addr) (c0_1 : Nat) (l0_1 : List (S50)) (A0_2 : Option Addr) (c0_2 : Nat) (l0_2 : List (S50)) (a0_3 : Int) (A0_4 : Option Addr) (c0_4 : Nat) (l0_4 : List (S88)) (r : Bool) (w : World) (hr0_1 : Kd.C k50 w A0_1 l0_1.length l0_1) (hc0_1 : l0_1.length ≤ c0_1) (hr0_2 : Kd.C k50 w A0_2 l0_2.length l0_2) (hc0_2 : l0_2.length ≤ c0_2) (hr0_4 : Kd.C k88 w A0_4 l0_4.length l0_4) (hc0_4 : l0_4.length ≤ c0_4) (h : laws_FnExactOpenOf.f k a0_0 l0_1 l0_2 a0_3 l0_4 = some r) :
  Calls Try.prog 5 #[.agg #[.int .i64 a0_0, .slice A0_1 l0_1.length c0_1, .slice A0_2 l0_2.length c0_2, .int .i64 a0_3, .slice A0_4 l0_4.length c0_4]] w fun e w' => e = .returned (.bool r) ∧ Below w.heap.size w w' := by
 have hu38 := Try.underlying38
 have hu27 := Try.underlying27
 have HR0_1 := Aside0.mk hr0_1
 have HC0_1 := Aside0.mk hc0_1
 clear hr0_1 hc0_1
 have HR0_2 := Aside0.mk hr0_2
 have HC0_2 := Aside0.mk hc0_2
 clear hr0_2 hc0_2
 have HR0_4 := Aside0.mk hr0_4
 have HC0_4 := Aside0.mk hc0_4
 clear hr0_4 hc0_4
 have HB := Aside0.mk (Below.refl w.heap.size w)
 have H : ((laws_szWork.f a0_0 l0_1 l0_2 a0_3 l0_4 1048576).bind fun t419 => (if t419 < 0 then (some true) else ((laws_toWork.f k a0_0 l0_1 l0_2 a0_3 l0_4).bind fun bt420 => ((spec_OpenOf.f k bt420.1 bt420.2.1 bt420.2.2.1 bt420.2.2.2.1 bt420.2.2.2.2).bind fun bt431 => ((laws_toWork.f k a0_0 l0_1 l0_2 a0_3 l0_4).bind fun bt435 => ((impl_OpenOf.f k bt435.1 bt435.2.1 bt435.2.2.1 bt435.2.2.2.1 bt435.2.2.2.2).bind fun bt447 => ((laws_eqItemS.f k bt447.1 bt431.1).bind fun t451 => (if t451 = true then (laws_FnExactOpenOf.j0 k bt431.1 bt431.2 bt447.1 bt447.2 (bt447.2 != bt431.2) a0_0 l0_1 l0_2 a0_3 l0_4 bt435.1 bt435.2.1 bt435.2.2.1 bt435.2.2.2.1 bt435.2.2.2.2) else (laws_FnExactOpenOf.j0 k bt431.1 bt431.2 bt447.1 bt447.2 true a0_0 l0_1 l0_2 a0_3 l0_4 bt435.1 bt435.2.1 bt435.2.2.1 bt435.2.2.2.1 bt435.2.2.2.2))))))))) = some r := h
 clear h
 replace H := Option.bind_eq_some_iff.mp H
 obtain ⟨t419, A20, H⟩ := H
 replace H : (if t419 < 0 then (some true) else ((laws_toWork.f k a0_0 l0_1 l0_2 a0_3 l0_4).bind fun bt420 => ((spec_OpenOf.f k bt420.1 bt420.2.1 bt420.2.2.1 bt420.2.2.2.1 bt420.2.2.2.2).bind fun bt431 => ((laws_toWork.f k a0_0 l0_1 l0_2 a0_3 l0_4).bind fun bt435 => ((impl_OpenOf.f k bt435.1 bt435.2.1 bt435.2.2.1 bt435.2.2.2.1 bt435.2.2.2.2).bind fun bt447 => ((laws_eqItemS.f k bt447.1 bt431.1).bind fun t451 => (if t451 = true then (laws_FnExactOpenOf.j0 k bt431.1 bt431.2 bt447.1 bt447.2 (bt447.2 != bt431.2) a0_0 l0_1 l0_2 a0_3 l0_4 bt435.1 bt435.2.1 bt435.2.2.1 bt435.2.2.2.1 bt435.2.2.2.2) else (laws_FnExactOpenOf.j0 k bt431.1 bt431.2 bt447.1 bt447.2 true a0_0 l0_1 l0_2 a0_3 l0_4 bt435.1 bt435.2.1 bt435.2.2.1 bt435.2.2.2.1 bt435.2.2.2.2)))))))) = some r := H
 have A2 := Aside0.mk A20
 clear A20
 by_cases c3 : t419 < 0
 ·
  rw [if_pos c3] at H
  have c3b0 : decide (t419 < 0) = true := decide_eq_true c3
  clear c3
  obtain rfl := Option.some.inj H
  go_enter Try.func5, Try.ntmps5
  go_wp2_with (first | ((with_reducible refine gate_dst (N := 1) rfl ?_); refine box_event ?hg (N := 1) ?hd (cs := #[.int .i64 a0_0, .slice A0_1 l0_1.length c0_1, .slice A0_2 l0_2.length c0_2, .int .i64 a0_3, .slice A0_4 l0_4.length c0_4]) (t := 38) ?hr ?_; (case hd => rfl); (case hg => rfl); (case hr => first | (go_simp; done) | (go_simp; rfl)); intro gb418 hg w4 hbox hb; have BK418 := Aside0.mk (hbox); have GW418 := Aside0.mk ((by rw [hg]; exact (below_size (bs HB)) : w.heap.size ≤ gb418)); have GE418 := Aside0.mk ((by rw [hg]; exact (below_size (bs HB)) : w.heap.size ≤ gb418)); replace HB := Aside0.mk (below_step (bs HB) hb); clear hb hbox hg; obtain ⟨hcz5_0, hcz5_1, hcz5_2, hcz5_3, hcz5_4⟩ := cz5 BK418; obtain ⟨hfz5_0, hfz5_1, hfz5_2, hfz5_3, hfz5_4⟩ := fz5 BK418) | ((with_reducible refine gate_callee (f := 14) rfl ?_); refine gL (some 16) rfl rfl Try.func14 (by kernel_rfl) rfl #[.agg #[.int .i64 a0_0, .slice A0_1 l0_1.length c0_1, .slice A0_2 l0_2.length c0_2, .int .i64 a0_3, .slice A0_4 l0_4.length c0_4], .int .i64 1048576] rfl ?_; (with_reducible refine (laws_szWork.calls a0_0 _ _ l0_1 _ _ l0_2 a0_3 _ _ l0_4 1048576 t419 _ ?side1 ?side2 ?side3 ?side4 ?side5 ?side6 A2.out).mono ?_); (case side1 => exact cb HR0_1 HB); (case side2 => exact HC0_1.out); (case side3 => exact cb HR0_2 HB); (case side4 => exact HC0_2.out); (case side5 => exact cb HR0_4 HB); (case side6 => exact HC0_4.out); rintro e w6 ⟨rfl, hb⟩; refine ⟨_, rfl, ?_⟩; replace BK418 := nb BK418 hb; replace HB := Aside0.mk (below_step (bs1 HB GE418) hb); (try clear hb); (try clear hb2); (try clear hk); (try clear hi)))
  go_ret
  exact ⟨by first | rfl | (simp [errW_none, errW_some] <;> rfl) | (simp [*, errW_none, errW_some] <;> rfl), bs1 HB GE418⟩
 ·
  rw [if_neg c3] at H
  have c3b0 : decide (t419 < 0) = false := decide_eq_false c3
  clear c3
  replace H := Option.bind_eq_some_iff.mp H
  obtain ⟨⟨t420, t421, t424, t427, t428⟩, A70, H⟩ := H
  replace H : ((spec_OpenOf.f k t420 t421 t424 t427 t428).bind fun bt431 => ((laws_toWork.f k a0_0 l0_1 l0_2 a0_3 l0_4).bind fun bt435 => ((impl_OpenOf.f k bt435.1 bt435.2.1 bt435.2.2.1 bt435.2.2.2.1 bt435.2.2.2.2).bind fun bt447 => ((laws_eqItemS.f k bt447.1 bt431.1).bind fun t451 => (if t451 = true then (laws_FnExactOpenOf.j0 k bt431.1 bt431.2 bt447.1 bt447.2 (bt447.2 != bt431.2) a0_0 l0_1 l0_2 a0_3 l0_4 bt435.1 bt435.2.1 bt435.2.2.1 bt435.2.2.2.1 bt435.2.2.2.2) else (laws_FnExactOpenOf.j0 k bt431.1 bt431.2 bt447.1 bt447.2 true a0_0 l0_1 l0_2 a0_3 l0_4 bt435.1 bt435.2.1 bt435.2.2.1 bt435.2.2.2.1 bt435.2.2.2.2)))))) = some r := H
  have A7 := Aside0.mk A70
  clear A70
  replace H := Option.bind_eq_some_iff.mp H
  obtain ⟨⟨t431, t434⟩, A80, H⟩ := H
  replace H : ((laws_toWork.f k a0_0 l0_1 l0_2 a0_3 l0_4).bind fun bt435 => ((impl_OpenOf.f k bt435.1 bt435.2.1 bt435.2.2.1 bt435.2.2.2.1 bt435.2.2.2.2).bind fun bt447 => ((laws_eqItemS.f k bt447.1 t431).bind fun t451 => (if t451 = true then (laws_FnExactOpenOf.j0 k t431 t434 bt447.1 bt447.2 (bt447.2 != t434) a0_0 l0_1 l0_2 a0_3 l0_4 bt435.1 bt435.2.1 bt435.2.2.1 bt435.2.2.2.1 bt435.2.2.2.2) else (laws_FnExactOpenOf.j0 k t431 t434 bt447.1 bt447.2 true a0_0 l0_1 l0_2 a0_3 l0_4 bt435.1 bt435.2.1 bt435.2.2.1 bt435.2.2.2.1 bt435.2.2.2.2))))) = some r := H
  have A8 := Aside0.mk A80
  clear A80
  replace H := Option.bind_eq_some_iff.mp H
  obtain ⟨⟨t435, t436, t439, t442, t443⟩, A90, H⟩ := H
  replace H : ((impl_OpenOf.f k t435 t436 t439 t442 t443).bind fun bt447 => ((laws_eqItemS.f k bt447.1 t431).bind fun t451 => (if t451 = true then (laws_FnExactOpenOf.j0 k t431 t434 bt447.1 bt447.2 (bt447.2 != t434) a0_0 l0_1 l0_2 a0_3 l0_4 t435 t436 t439 t442 t443) else (laws_FnExactOpenOf.j0 k t431 t434 bt447.1 bt447.2 true a0_0 l0_1 l0_2 a0_3 l0_4 t435 t436 t439 t442 t443)))) = some r := H
  have A9 := Aside0.mk A90
  clear A90
  replace H := Option.bind_eq_some_iff.mp H
  obtain ⟨⟨t447, t450⟩, A100, H⟩ := H
  replace H : ((laws_eqItemS.f k t447 t431).bind fun t451 => (if t451 = true then (laws_FnExactOpenOf.j0 k t431 t434 t447 t450 (t450 != t434) a0_0 l0_1 l0_2 a0_3 l0_4 t435 t436 t439 t442 t443) else (laws_FnExactOpenOf.j0 k t431 t434 t447 t450 true a0_0 l0_1 l0_2 a0_3 l0_4 t435 t436 t439 t442 t443))) = some r := H
  have A10 := Aside0.mk A100
  clear A100
  have HC11 := Aside0.mk H
  clear H
  go_enter Try.func5, Try.ntmps5
  go_upto_region 8 with (first | ((with_reducible refine gate_dst (N := 1) rfl ?_); refine box_event ?hg (N := 1) ?hd (cs := #[.int .i64 a0_0, .slice A0_1 l0_1.length c0_1, .slice A0_2 l0_2.length c0_2, .int .i64 a0_3, .slice A0_4 l0_4.length c0_4]) (t := 38) ?hr ?_; (case hd => rfl); (case hg => rfl); (case hr => first | (go_simp; done) | (go_simp; rfl)); intro gb418 hg w12 hbox hb; have BK418 := Aside0.mk (hbox); have GW418 := Aside0.mk ((by rw [hg]; exact (below_size (bs HB)) : w.heap.size ≤ gb418)); have GE418 := Aside0.mk ((by rw [hg]; exact (below_size (bs HB)) : w.heap.size ≤ gb418)); replace HB := Aside0.mk (below_step (bs HB) hb); clear hb hbox hg; obtain ⟨hcz13_0, hcz13_1, hcz13_2, hcz13_3, hcz13_4⟩ := cz5 BK418; obtain ⟨hfz13_0, hfz13_1, hfz13_2, hfz13_3, hfz13_4⟩ := fz5 BK418) | ((with_reducible refine gate_callee (f := 14) rfl ?_); refine gL (some 16) rfl rfl Try.func14 (by kernel_rfl) rfl #[.agg #[.int .i64 a0_0, .slice A0_1 l0_1.length c0_1, .slice A0_2 l0_2.length c0_2, .int .i64 a0_3, .slice A0_4 l0_4.length c0_4], .int .i64 1048576] rfl ?_; (with_reducible refine (laws_szWork.calls a0_0 _ _ l0_1 _ _ l0_2 a0_3 _ _ l0_4 1048576 t419 _ ?side1 ?side2 ?side3 ?side4 ?side5 ?side6 A2.out).mono ?_); (case side1 => exact cb HR0_1 HB); (case side2 => exact HC0_1.out); (case side3 => exact cb HR0_2 HB); (case side4 => exact HC0_2.out); (case side5 => exact cb HR0_4 HB); (case side6 => exact HC0_4.out); rintro e w14 ⟨rfl, hb⟩; refine ⟨_, rfl, ?_⟩; replace BK418 := nb BK418 hb; replace HB := Aside0.mk (below_step (bs1 HB GE418) hb); (try clear hb); (try clear hb2); (try clear hk); (try clear hi); obtain ⟨hcz15_0, hcz15_1, hcz15_2, hcz15_3, hcz15_4⟩ := cz5 BK418; obtain ⟨hfz15_0, hfz15_1, hfz15_2, hfz15_3, hfz15_4⟩ := fz5 BK418) | ((with_reducible refine gate_callee (f := 16) rfl ?_); refine gL (some 21) rfl rfl Try.func16 (by kernel_rfl) rfl #[.agg #[.int .i64 a0_0, .slice A0_1 l0_1.length c0_1, .slice A0_2 l0_2.length c0_2, .int .i64 a0_3, .slice A0_4 l0_4.length c0_4]] rfl ?_; (with_reducible refine (laws_toWork.calls k a0_0 _ _ l0_1 _ _ l0_2 a0_3 _ _ l0_4 t420 t421 t424 t427 t428 _ ?side1 ?side2 ?side3 ?side4 ?side5 ?side6 A7.out).mono ?_); (case side1 => exact cb HR0_1 HB); (case side2 => exact HC0_1.out); (case side3 => exact cb HR0_2 HB); (case side4 => exact HC0_2.out); (case side5 => exact cb HR0_4 HB); (case side6 => exact HC0_4.out); rintro e w16 ⟨v422, v425, v429, rfl, ho0, ho1, ho2, hb⟩; refine ⟨_, rfl, ?_⟩; have HO423 := Aside0.mk (Kd.R_lower ho0 (below_size (bs1 HB GE418))); have HO426 := Aside0.mk (Kd.R_lower ho1 (below_size (bs1 HB GE418))); have HO430 := Aside0.mk (Kd.R_lower ho2 (below_size (bs1 HB GE418))); replace BK418 := nb BK418 hb; replace HB := Aside0.mk (below_step (bs1 HB GE418) hb); (try clear hb); (try clear hb2); (try clear hk); (try clear hi); (try clear ho0); (try clear ho1); (try clear ho2); obtain ⟨Ao17, co17, eo17⟩ := Kd.R_slice HO423.out; subst eo17; obtain ⟨Ao18, co18, eo18⟩ := Kd.R_slice HO426.out; subst eo18; obtain ⟨Ao19, co19, eo19⟩ := Kd.R_slice HO430.out; subst eo19) | ((with_reducible refine gate_callee (f := 18) rfl ?_); refine gL (some 22) rfl rfl Try.func18 (by kernel_rfl) rfl #[.agg #[.int .i64 t420, .slice Ao17 t421.length co17, .slice Ao18 t424.length co18, .int .i64 t427, .slice Ao19 t428.length co19]] rfl ?_; (with_reducible refine (spec_OpenOf.calls k t420 _ _ t421 _ _ t424 t427 _ _ t428 t431 t434 _ ?side1 ?side2 ?side3 ?side4 ?side5 ?side6 A8.out).mono ?_); (case side1 => exact rc0 HO423); (case side2 => exact (Kd.R_reads' HO423.out).2.1); (case side3 => exact rc0 HO426); (case side4 => exact (Kd.R_reads' HO426.out).2.1); (case side5 => exact rc0 HO430); (case side6 => exact (Kd.R_reads' HO430.out).2.1); rintro e w20 ⟨v432, rfl, ho0, hb⟩; refine ⟨_, rfl, ?_⟩; replace HO423 := nr HO423 hb; replace HO426 := nr HO426 hb; have HO433 := Aside0.mk (Kd.R_lower (Kd.R_new' ho0 (Kd.R_lt (rr HO430.out))) (below_size (bs1 HB GE418))); replace HO430 := Aside0.mk (Kd.R_elder' (rr HO430.out) (Kd.R_base ho0) hb); replace BK418 := nb BK418 hb; replace HB := Aside0.mk (below_step (bs1 HB GE418) hb); (try clear hb); (try clear hb2); (try clear hk); (try clear hi); (try clear ho0); obtain ⟨hcz21_0, hcz21_1, hcz21_2, hcz21_3, hcz21_4⟩ := cz5 BK418; obtain ⟨hfz21_0, hfz21_1, hfz21_2, hfz21_3, hfz21_4⟩ := fz5 BK418) | ((with_reducible refine gate_callee (f := 16) rfl ?_); refine gL (some 26) rfl rfl Try.func16 (by kernel_rfl) rfl #[.agg #[.int .i64 a0_0, .slice A0_1 l0_1.length c0_1, .slice A0_2 l0_2.length c0_2, .int .i64 a0_3, .slice A0_4 l0_4.length c0_4]] rfl ?_; (with_reducible refine (laws_toWork.calls k a0_0 _ _ l0_1 _ _ l0_2 a0_3 _ _ l0_4 t435 t436 t439 t442 t443 _ ?side1 ?side2 ?side3 ?side4 ?side5 ?side6 A9.out).mono ?_); (case side1 => exact cb HR0_1 HB); (case side2 => exact HC0_1.out); (case side3 => exact cb HR0_2 HB); (case side4 => exact HC0_2.out); (case side5 => exact cb HR0_4 HB); (case side6 => exact HC0_4.out); rintro e w22 ⟨v437, v440, v444, rfl, ho0, ho1, ho2, hb⟩; refine ⟨_, rfl, ?_⟩; have HO438 := Aside0.mk (Kd.R_lower (Kd.R_new' (Kd.R_new' ho0 (Kd.R_lt (rr HO423.out))) (Kd.R_lt (rr HO426.out))) (below_size (bs1 HB GE418))); have HO441 := Aside0.mk (Kd.R_lower (Kd.R_new' (Kd.R_new' ho1 (Kd.R_lt (rr HO423.out))) (Kd.R_lt (rr HO426.out))) (below_size (bs1 HB GE418))); replace HO423 := Aside0.mk (Kd.R_mono (Kd.R_told (Kd.R_told (Kd.R_old (rr HO423.out) hb) (Kd.R_base ho0)) (Kd.R_base ho1)) (fun _ h_ => h_.1)); replace HO426 := Aside0.mk (Kd.R_mono (Kd.R_told (Kd.R_told (Kd.R_old (rr HO426.out) hb) (Kd.R_base ho0)) (Kd.R_base ho1)) (fun _ h_ => h_.1)); have HO445 := Aside0.mk (Kd.R_lower (Kd.R_new' (Kd.R_new' ho2 (Kd.R_lt (rr HO430.out))) (Kd.R_lt (rr HO433.out))) (below_size (bs1 HB GE418))); replace HO430 := Aside0.mk (Kd.R_elder' (rr HO430.out) (Kd.R_base ho2) hb); replace HO433 := Aside0.mk (Kd.R_elder' (rr HO433.out) (Kd.R_base ho2) hb); replace BK418 := nb BK418 hb; replace HB := Aside0.mk (below_step (bs1 HB GE418) hb); (try clear hb); (try clear hb2); (try clear hk); (try clear hi); (try clear ho0); (try clear ho1); (try clear ho2)) | ((with_reducible refine gate_dst (N := 6) rfl ?_); refine box_event ?hg (N := 6) ?hd (cs := #[.int .i64 0, .slice none 0 0, .slice none 0 0, .int .i64 0, .slice none 0 0]) (t := 27) ?hr ?_; (case hd => rfl); (case hg => rfl); (case hr => first | (go_simp; done) | (go_simp; rfl)); intro gb446 hg w23 hbox hb; replace HO423 := nr HO423 hb; replace HO426 := nr HO426 hb; replace HO430 := nr HO430 hb; replace HO433 := nr HO433 hb; replace HO438 := nr HO438 hb; replace HO441 := nr HO441 hb; replace HO445 := nr HO445 hb; have BK446 := Aside0.mk (hbox); have GW446 := Aside0.mk ((by rw [hg]; exact (below_size (bs1 HB GE418)) : w.heap.size ≤ gb446)); have GE446 := Aside0.mk ((by rw [hg]; exact (below_size (bs1 HB GE418)) : w.heap.size ≤ gb446)); replace HB := Aside0.mk (below_step (bs1 HB GE418) hb); have NB418_446 := Aside0.mk ((bn BK418 hg : gb418 ≠ gb446)); have NB446_418 := Aside0.mk ((bm BK418 hg : gb446 ≠ gb418)); replace BK418 := nb BK418 hb; clear hb hbox hg; have hnb24 := NB446_418.out; have hnc24 := NB418_446.out; obtain ⟨hcz25_0, hcz25_1, hcz25_2, hcz25_3, hcz25_4⟩ := cz5 BK446; obtain ⟨hfz25_0, hfz25_1, hfz25_2, hfz25_3, hfz25_4⟩ := fz5 BK446; obtain ⟨Ao26, co26, eo26⟩ := Kd.R_slice HO438.out; subst eo26; obtain ⟨Ao27, co27, eo27⟩ := Kd.R_slice HO441.out; subst eo27; obtain ⟨Ao28, co28, eo28⟩ := Kd.R_slice HO445.out; subst eo28) | ((with_reducible refine gate_callee (f := 19) rfl ?_); refine gL (some 29) rfl rfl Try.func19 (by kernel_rfl) rfl #[.agg #[.int .i64 t435, .slice Ao26 t436.length co26, .slice Ao27 t439.length co27, .int .i64 t442, .slice Ao28 t443.length co28]] rfl ?_; (with_reducible refine (impl_OpenOf.calls k t435 _ _ t436 _ _ t439 t442 _ _ t443 t447 t450 _ ?side1 ?side2 ?side3 ?side4 ?side5 ?side6 A10.out).mono ?_); (case side1 => exact rc HO438 BK446); (case side2 => exact (Kd.R_reads' HO438.out).2.1); (case side3 => exact rc HO441 BK446); (case side4 => exact (Kd.R_reads' HO441.out).2.1); (case side5 => exact rc HO445 BK446); (case side6 => exact (Kd.R_reads' HO445.out).2.1); rintro e w29 ⟨v448, rfl, ho0, hb⟩; refine ⟨_, rfl, ?_⟩; replace HO423 := nf HO423 BK446 hb; replace HO426 := nf HO426 BK446 hb; replace HO438 := nf HO438 BK446 hb; replace HO441 := nf HO441 BK446 hb; have HO449 := Aside0.mk (Kd.R_lower (Kd.R_new' (Kd.R_new' (Kd.R_new' ho0 (Kd.R_lt (rf HO430 BK446))) (Kd.R_lt (rf HO433 BK446))) (Kd.R_lt (rf HO445 BK446))) (below_size (bs2 HB GE418 GE446))); replace HO430 := Aside0.mk (Kd.R_elder' (rf HO430 BK446) (Kd.R_base ho0) hb); replace HO433 := Aside0.mk (Kd.R_elder' (rf HO433 BK446) (Kd.R_base ho0) hb); replace HO445 := Aside0.mk (Kd.R_elder' (rf HO445 BK446) (Kd.R_base ho0) hb); replace BK418 := Aside0.mk (blk_below (bf BK418 NB418_446) hb); replace BK446 := Aside0.mk (blk_below (g := gb446) (o := .cells #[.int .i64 t435, .slice Ao26 t436.length co26, .slice Ao27 t439.length co27, .int .i64 t442, .slice Ao28 t443.length co28] 27 (0, 0)) (by (with_reducible repeat (first | refine blk_drewN ?_ _ | refine blk_drew ?_ | refine blk_alloc ?_ _)); refine blk_put (cs := #[.int .i64 t435, .slice Ao26 t436.length co26, .slice Ao27 t439.length co27, .int .i64 t442, .slice none 0 0]) ?_ 4 _ rfl; (with_reducible repeat (first | refine blk_drewN ?_ _ | refine blk_drew ?_ | refine blk_alloc ?_ _)); refine blk_put (cs := #[.int .i64 t435, .slice Ao26 t436.length co26, .slice Ao27 t439.length co27, .int .i64 0, .slice none 0 0]) ?_ 3 _ rfl; (with_reducible repeat (first | refine blk_drewN ?_ _ | refine blk_drew ?_ | refine blk_alloc ?_ _)); refine blk_put (cs := #[.int .i64 t435, .slice Ao26 t436.length co26, .slice none 0 0, .int .i64 0, .slice none 0 0]) ?_ 2 _ rfl; (with_reducible repeat (first | refine blk_drewN ?_ _ | refine blk_drew ?_ | refine blk_alloc ?_ _)); refine blk_put (cs := #[.int .i64 t435, .slice none 0 0, .slice none 0 0, .int .i64 0, .slice none 0 0]) ?_ 1 _ rfl; (with_reducible repeat (first | refine blk_drewN ?_ _ | refine blk_drew ?_ | refine blk_alloc ?_ _)); refine blk_put (cs := #[.int .i64 0, .slice none 0 0, .slice none 0 0, .int .i64 0, .slice none 0 0]) ?_ 0 _ rfl; (with_reducible repeat (first | refine blk_drewN ?_ _ | refine blk_drew ?_ | refine blk_alloc ?_ _)); exact BK446.out) hb); replace HB := Aside0.mk (below_step (bs2 HB GE418 GE446) hb); (try clear hb); (try clear hb2); (try clear hk); (try clear hi); (try clear ho0)))
  (try simp only [Act.put, List.setIfInBounds_toArray, List.set_cons_zero, List.set_cons_succ])
  go_cut [40] (fun v40 wc => ∃ (kq : Nat) (x40_10 : Bool), v40 = .bool x40_10 ∧ Aside0 (laws_FnExactOpenOf.j0 kq t431 t434 t447 t450 x40_10 a0_0 l0_1 l0_2 a0_3 l0_4 t435 t436 t439 t442 t443 = some r) ∧ Aside0 (kq ≤ k) ∧ Aside0 (Kd.R k71 71 wc w.heap.size (fun k_ => some k_ ≠ (v448 : Value).ownBlock ∧ some k_ ≠ ((.slice Ao28 t443.length co28) : Value).ownBlock) v432 t431) ∧ Aside0 (Kd.R k71 71 wc w.heap.size (fun k_ => some k_ ≠ (v432 : Value).ownBlock ∧ some k_ ≠ ((.slice Ao28 t443.length co28) : Value).ownBlock) v448 t447) ∧ Aside0 (Kd.R k53 53 wc w.heap.size (fun k_ => some k_ ≠ ((.slice Ao27 t439.length co27) : Value).ownBlock) (.slice Ao26 t436.length co26) t436) ∧ Aside0 (Kd.R k53 53 wc w.heap.size (fun k_ => some k_ ≠ ((.slice Ao26 t436.length co26) : Value).ownBlock) (.slice Ao27 t439.length co27) t439) ∧ Aside0 (Kd.R k71 71 wc w.heap.size (fun k_ => some k_ ≠ (v432 : Value).ownBlock ∧ some k_ ≠ (v448 : Value).ownBlock) (.slice Ao28 t443.length co28) t443) ∧ Aside0 (wc.heap[gb418]? = some (.cells #[.int .i64 a0_0, (.slice A0_1 l0_1.length c0_1), (.slice A0_2 l0_2.length c0_2), .int .i64 a0_3, (.slice A0_4 l0_4.length c0_4)] 38 (0, 0))) ∧ Aside0 (wc.heap[gb446]? = some (.cells #[.int .i64 t435, (.slice Ao26 t436.length co26), (.slice Ao27 t439.length co27), .int .i64 t442, (.slice Ao28 t443.length co28)] 27 (0, 0))) ∧ Aside0 (Below w.heap.size w wc))
  case first =>
   have H := HC11.out
   clear HC11
   replace H := Option.bind_eq_some_iff.mp H
   obtain ⟨t451, A300, H⟩ := H
   replace H : (if t451 = true then (laws_FnExactOpenOf.j0 k t431 t434 t447 t450 (t450 != t434) a0_0 l0_1 l0_2 a0_3 l0_4 t435 t436 t439 t442 t443) else (laws_FnExactOpenOf.j0 k t431 t434 t447 t450 true a0_0 l0_1 l0_2 a0_3 l0_4 t435 t436 t439 t442 t443)) = some r := H
   have A30 := Aside0.mk A300
   clear A300
   by_cases c31 : t451 = true
   ·
    subst c31
    rw [if_pos rfl] at H
    have H' := Aside0.mk H
    clear H
    obtain ⟨Ao32, co32, eo32⟩ := Kd.R_slice HO449.out
    subst eo32
    obtain ⟨Ao33, co33, eo33⟩ := Kd.R_slice HO433.out
    subst eo33
    go_wp2_with (first | ((with_reducible refine gate_callee (f := 20) rfl ?_); refine gL (some 34) rfl rfl Try.func20 (by kernel_rfl) rfl #[.slice Ao32 t447.length co32, .slice Ao33 t431.length co33] rfl ?_; (with_reducible refine (laws_eqItemS.calls k _ _ t447 _ _ t431 true _ ?side1 ?side2 ?side3 ?side4 A30.out).mono ?_); (case side1 => exact rc0 HO449); (case side2 => exact (Kd.R_reads' HO449.out).2.1); (case side3 => exact rc0 HO433); (case side4 => exact (Kd.R_reads' HO433.out).2.1); rintro e w34 ⟨rfl, hb⟩; refine ⟨_, rfl, ?_⟩; replace HO423 := nr HO423 hb; replace HO426 := nr HO426 hb; replace HO430 := nr HO430 hb; replace HO433 := nr HO433 hb; replace HO438 := nr HO438 hb; replace HO441 := nr HO441 hb; replace HO445 := nr HO445 hb; replace HO449 := nr HO449 hb; replace BK418 := nb BK418 hb; replace BK446 := nb BK446 hb; replace HB := Aside0.mk (below_step (bs2 HB GE418 GE446) hb); (try clear hb); (try clear hb2); (try clear hk); (try clear hi)))
    go_meet
    case rel => exact ⟨_, ((t450 != t434)), (by first | rfl | (simp; done) | (simp [*]; done)), H', ⟨by first | omega | exact Nat.le_refl _⟩, rm HO433 (fun _ hk => ⟨hk.2, hk.1.2⟩), rm HO449 (fun _ hk => ⟨hk.1.2, hk.2⟩), rm HO438 (fun _ hk => hk.1.1), rm HO441 (fun _ hk => hk.1.1), rm HO445 (fun _ hk => ⟨hk.1.2, hk.2⟩), ⟨bk BK418⟩, ⟨bk BK446⟩, ⟨bs2 HB GE418 GE446⟩⟩
   ·
    replace c31 := Bool.eq_false_iff.mpr c31
    subst c31
    rw [if_neg (show ¬ (false = true) by decide)] at H
    have H' := Aside0.mk H
    clear H
    obtain ⟨Ao35, co35, eo35⟩ := Kd.R_slice HO449.out
    subst eo35
    obtain ⟨Ao36, co36, eo36⟩ := Kd.R_slice HO433.out
    subst eo36
    go_wp2_with (first | ((with_reducible refine gate_callee (f := 20) rfl ?_); refine gL (some 34) rfl rfl Try.func20 (by kernel_rfl) rfl #[.slice Ao35 t447.length co35, .slice Ao36 t431.length co36] rfl ?_; (with_reducible refine (laws_eqItemS.calls k _ _ t447 _ _ t431 false _ ?side1 ?side2 ?side3 ?side4 A30.out).mono ?_); (case side1 => exact rc0 HO449); (case side2 => exact (Kd.R_reads' HO449.out).2.1); (case side3 => exact rc0 HO433); (case side4 => exact (Kd.R_reads' HO433.out).2.1); rintro e w37 ⟨rfl, hb⟩; refine ⟨_, rfl, ?_⟩; replace HO423 := nr HO423 hb; replace HO426 := nr HO426 hb; replace HO430 := nr HO430 hb; replace HO433 := nr HO433 hb; replace HO438 := nr HO438 hb; replace HO441 := nr HO441 hb; replace HO445 := nr HO445 hb; replace HO449 := nr HO449 hb; replace BK418 := nb BK418 hb; replace BK446 := nb BK446 hb; replace HB := Aside0.mk (below_step (bs2 HB GE418 GE446) hb); (try clear hb); (try clear hb2); (try clear hk); (try clear hi)))
    go_meet
    case rel => exact ⟨_, (true), (by first | rfl | (simp; done) | (simp [*]; done)), H', ⟨by first | omega | exact Nat.le_refl _⟩, rm HO433 (fun _ hk => ⟨hk.2, hk.1.2⟩), rm HO449 (fun _ hk => ⟨hk.1.2, hk.2⟩), rm HO438 (fun _ hk => hk.1.1), rm HO441 (fun _ hk => hk.1.1), rm HO445 (fun _ hk => ⟨hk.1.2, hk.2⟩), ⟨bk BK418⟩, ⟨bk BK446⟩, ⟨bs2 HB GE418 GE446⟩⟩
  case rest =>
   clear HC11
   try clear c1
   try clear c2
   try clear p2
   try clear c3
   try clear c3b0
   try clear c5
   try clear c14
   try clear c16
   try clear c18
   try clear c19
   try clear c20
   try clear c24
   try clear c31
   try clear hcz13_0 hcz13_1 hcz13_2 hcz13_3 hcz13_4
   try clear hcz15_0 hcz15_1 hcz15_2 hcz15_3 hcz15_4
   try clear hcz21_0 hcz21_1 hcz21_2 hcz21_3 hcz21_4
   try clear hcz25_0 hcz25_1 hcz25_2 hcz25_3 hcz25_4
   try clear hcz5_0 hcz5_1 hcz5_2 hcz5_3 hcz5_4
   try clear hfz13_0 hfz13_1 hfz13_2 hfz13_3 hfz13_4
   try clear hfz15_0 hfz15_1 hfz15_2 hfz15_3 hfz15_4
   try clear hfz21_0 hfz21_1 hfz21_2 hfz21_3 hfz21_4
   try clear hfz25_0 hfz25_1 hfz25_2 hfz25_3 hfz25_4
   try clear hfz5_0 hfz5_1 hfz5_2 hfz5_3 hfz5_4
   obtain ⟨kq, x40_10, rfl, HA, HJ10, HO_4, HO_7, HO_447001, HO_447002, HO_447004, BK418, BK446, HB⟩ := hcut
   cases kq with
   | zero => exact absurd HA.out (by simp [laws_FnExactOpenOf.j0])
   | succ kj10 =>
    have H := HA.out
    clear HA
    simp only [laws_FnExactOpenOf.j0] at H
    by_cases c38 : x40_10 = true
    ·
     subst c38
     rw [if_pos rfl] at H
     obtain rfl := Option.some.inj H
     go_wp2
     go_ret
     exact ⟨by first | rfl | (simp [errW_none, errW_some] <;> rfl) | (simp [*, errW_none, errW_some] <;> rfl), bs2 HB GE418 GE446⟩
    ·
     replace c38 := Bool.eq_false_iff.mpr c38
     subst c38
     rw [if_neg (show ¬ (false = true) by decide)] at H
     replace H := Option.bind_eq_some_iff.mp H
     obtain ⟨⟨t452, t453, t456, t459, t460⟩, A390, H⟩ := H
     replace H : ((laws_eqWork.f kj10 t435 t436 t439 t442 t443 t452 t453 t456 t459 t460).bind fun t463 => (if t463 = true then ((laws_markWork.f kj10 t435 t436 t439 t442 t443 1).bind fun bt464 => (if bt464.1 < 0 then (laws_FnExactOpenOf.j1 kj10 t431 t434 t447 true a0_0 l0_1 l0_2 a0_3 l0_4) else ((laws_eqItemS.f kj10 t447 t431).bind fun t468 => (if t468 = true then (laws_FnExactOpenOf.j1 kj10 t431 t434 t447 (t450 != t434) a0_0 l0_1 l0_2 a0_3 l0_4) else (laws_FnExactOpenOf.j1 kj10 t431 t434 t447 true a0_0 l0_1 l0_2 a0_3 l0_4))))) else (some false))) = some r := H
     have A39 := Aside0.mk A390
     clear A390
     replace H := Option.bind_eq_some_iff.mp H
     obtain ⟨t463, A400, H⟩ := H
     replace H : (if t463 = true then ((laws_markWork.f kj10 t435 t436 t439 t442 t443 1).bind fun bt464 => (if bt464.1 < 0 then (laws_FnExactOpenOf.j1 kj10 t431 t434 t447 true a0_0 l0_1 l0_2 a0_3 l0_4) else ((laws_eqItemS.f kj10 t447 t431).bind fun t468 => (if t468 = true then (laws_FnExactOpenOf.j1 kj10 t431 t434 t447 (t450 != t434) a0_0 l0_1 l0_2 a0_3 l0_4) else (laws_FnExactOpenOf.j1 kj10 t431 t434 t447 true a0_0 l0_1 l0_2 a0_3 l0_4))))) else (some false)) = some r := H
     have A40 := Aside0.mk A400
     clear A400
     by_cases c41 : t463 = true
     ·
      subst c41
      rw [if_pos rfl] at H
      replace H := Option.bind_eq_some_iff.mp H
      obtain ⟨⟨t464, t465, t466, t467⟩, A420, H⟩ := H
      replace H : (if t464 < 0 then (laws_FnExactOpenOf.j1 kj10 t431 t434 t447 true a0_0 l0_1 l0_2 a0_3 l0_4) else ((laws_eqItemS.f kj10 t447 t431).bind fun t468 => (if t468 = true then (laws_FnExactOpenOf.j1 kj10 t431 t434 t447 (t450 != t434) a0_0 l0_1 l0_2 a0_3 l0_4) else (laws_FnExactOpenOf.j1 kj10 t431 t434 t447 true a0_0 l0_1 l0_2 a0_3 l0_4)))) = some r := H
      have A42 := Aside0.mk A420
      clear A420
      have HC43 := Aside0.mk H
      clear H
      try go_wp2
      have n0_ := Aside0.mk (Kd.R_drew HO_4.out)
      have n1_ := Aside0.mk (Kd.R_drew HO_7.out)
      have n2_ := Aside0.mk (Kd.R_drew HO_447001.out)
      have n3_ := Aside0.mk (Kd.R_drew HO_447002.out)
      have n4_ := Aside0.mk (Kd.R_drew HO_447004.out)
      have n5_ := Aside0.mk (blk_drew BK418.out)
      have n6_ := Aside0.mk (blk_drew BK446.out)
      have n7_ := Aside0.mk (below_drew1 HB.out)
      clear HO_4
      clear HO_7
      clear HO_447001
      clear HO_447002
      clear HO_447004
      clear BK418
      clear BK446
      clear HB
      have HO_4 := n0_
      have HO_7 := n1_
      have HO_447001 := n2_
      have HO_447002 := n3_
      have HO_447004 := n4_
      have BK418 := n5_
      have BK446 := n6_
      have HB := n7_
      clear n0_ n1_ n2_ n3_ n4_ n5_ n6_ n7_
      refine start_ (n := 5) (S := fun w' => w'.cell? ⟨gb446, 0, none⟩ = some (.int .i64 t435) ∧ w'.cell? ⟨gb446, 1, none⟩ = some (.slice Ao26 t436.length co26) ∧ w'.cell? ⟨gb446, 2, none⟩ = some (.slice Ao27 t439.length co27) ∧ w'.cell? ⟨gb446, 3, none⟩ = some (.int .i64 t442) ∧ w'.cell? ⟨gb446, 4, none⟩ = some (.slice Ao28 t443.length co28) ∧ w'.cell? ⟨gb418, 0, none⟩ = some (.int .i64 a0_0) ∧ w'.cell? ⟨gb418, 1, none⟩ = some (.slice A0_1 l0_1.length c0_1) ∧ w'.cell? ⟨gb418, 2, none⟩ = some (.slice A0_2 l0_2.length c0_2) ∧ w'.cell? ⟨gb418, 3, none⟩ = some (.int .i64 a0_3) ∧ w'.cell? ⟨gb418, 4, none⟩ = some (.slice A0_4 l0_4.length c0_4)) (ds := []) #[false, false, false, false, false] (by kernel_rfl) rfl rfl ⟨(blk_cell BK446.out 0).trans rfl, (blk_cell BK446.out 1).trans rfl, (blk_cell BK446.out 2).trans rfl, (blk_cell BK446.out 3).trans rfl, (blk_cell BK446.out 4).trans rfl, (blk_cell BK418.out 0).trans rfl, (blk_cell BK418.out 1).trans rfl, (blk_cell BK418.out 2).trans rfl, (blk_cell BK418.out 3).trans rfl, (blk_cell BK418.out 4).trans rfl⟩ (fun hHeld => ?_)
      generalize wc.drew = w44 at HO_4 HO_7 HO_447001 HO_447002 HO_447004 BK418 BK446 HB hHeld ⊢
      refine take_ (i := 0) (N := some 41) (v := ?_) (a' := ?_) #[true, false, false, false, false] rfl rfl (by kernel_rfl) (fun _ _ _ h => h) (Or.inl ⟨by rfl, ?_⟩) hHeld ?_ ?_
      rotate_left
      ·
       rintro w' ⟨s0, s1, s2, s3, s4, s5, s6, s7, s8, s9⟩
       go_simp
       with_reducible rfl
      rotate_left
      ·
       simp only [Act.put, List.setIfInBounds_toArray, List.set_cons_zero, List.set_cons_succ, i64_w, i32_w]
       rfl
      refine take_ (i := 1) (N := some 42) (v := ?_) (a' := ?_) #[true, true, false, false, false] rfl rfl (by kernel_rfl) (fun _ _ _ h => h) (Or.inl ⟨by rfl, ?_⟩) hHeld ?_ ?_
      rotate_left
      ·
       rintro w' ⟨s0, s1, s2, s3, s4, s5, s6, s7, s8, s9⟩
       go_simp
       with_reducible rfl
      rotate_left
      ·
       simp only [Act.put, List.setIfInBounds_toArray, List.set_cons_zero, List.set_cons_succ, i64_w, i32_w]
       rfl
      refine one_ (i := 2) (N := some 43) #[true, true, true, false, false] rfl rfl (by kernel_rfl) (by decide) (fun K hK => ?_)
      refine goes_ Try.func16 (by kernel_rfl) rfl #[.agg #[.int .i64 a0_0, .slice A0_1 l0_1.length c0_1, .slice A0_2 l0_2.length c0_2, .int .i64 a0_3, .slice A0_4 l0_4.length c0_4]] (by rfl) rfl rfl (by (try simp only [List.map_toArray, List.map_cons, List.map_nil]); first | done | rfl | (simp only [List.length_drop, List.length_take]; rfl)) ?_
      with_reducible refine (laws_toWork.calls kj10 a0_0 _ _ l0_1 _ _ l0_2 a0_3 _ _ l0_4 t452 t453 t456 t459 t460 _ ?side1 ?side2 ?side3 ?side4 ?side5 ?side6 A39.out).mono ?_
      (case side1 => exact cb HR0_1 HB)
      (case side2 => exact HC0_1.out)
      (case side3 => exact cb HR0_2 HB)
      (case side4 => exact HC0_2.out)
      (case side5 => exact cb HR0_4 HB)
      (case side6 => exact HC0_4.out)
      rintro e w45 ⟨v454, v457, v461, rfl, ho0, ho1, ho2, hb⟩
      refine ⟨_, rfl, ?_⟩
      have n0_ := Aside0.mk (Kd.R_elder' (rr HO_4.out) (Kd.R_base ho2) hb)
      have n1_ := Aside0.mk (Kd.R_elder' (rr HO_7.out) (Kd.R_base ho2) hb)
      have n2_ := Aside0.mk (Kd.R_mono (Kd.R_told (Kd.R_told (Kd.R_old (rr HO_447001.out) hb) (Kd.R_base ho0)) (Kd.R_base ho1)) (fun _ h_ => h_.1))
      have n3_ := Aside0.mk (Kd.R_mono (Kd.R_told (Kd.R_told (Kd.R_old (rr HO_447002.out) hb) (Kd.R_base ho0)) (Kd.R_base ho1)) (fun _ h_ => h_.1))
      have n4_ := Aside0.mk (Kd.R_elder' (rr HO_447004.out) (Kd.R_base ho2) hb)
      have n5_ := Aside0.mk (Kd.R_lower (Kd.R_new' (Kd.R_new' ho0 (Kd.R_lt (rr HO_447001.out))) (Kd.R_lt (rr HO_447002.out))) (below_size (bs2 HB GE418 GE446)))
      have n6_ := Aside0.mk (Kd.R_lower (Kd.R_new' (Kd.R_new' ho1 (Kd.R_lt (rr HO_447001.out))) (Kd.R_lt (rr HO_447002.out))) (below_size (bs2 HB GE418 GE446)))
      have n7_ := Aside0.mk (Kd.R_lower (Kd.R_new' (Kd.R_new' (Kd.R_new' ho2 (Kd.R_lt (rr HO_4.out))) (Kd.R_lt (rr HO_7.out))) (Kd.R_lt (rr HO_447004.out))) (below_size (bs2 HB GE418 GE446)))
      have n8_ := Aside0.mk (bb BK418 hb)
      have n9_ := Aside0.mk (bb BK446 hb)
      have n10_ := Aside0.mk (below_step (bs2 HB GE418 GE446) hb)
      clear HO_4
      clear HO_7
      clear HO_447001
      clear HO_447002
      clear HO_447004
      clear BK418
      clear BK446
      clear HB
      have HO_4 := n0_
      have HO_7 := n1_
      have HO_447001 := n2_
      have HO_447002 := n3_
      have HO_447004 := n4_
      have HO455 := n5_
      have HO458 := n6_
      have HO462 := n7_
      have BK418 := n8_
      have BK446 := n9_
      have HB := n10_
      clear n0_ n1_ n2_ n3_ n4_ n5_ n6_ n7_ n8_ n9_ n10_
      (try clear hb)
      (try clear hb2)
      (try clear hk)
      (try clear hi)
      (try clear ho0)
      (try clear ho1)
      (try clear ho2)
      obtain ⟨Ao46, co46, eo46⟩ := Kd.R_slice HO455.out
      (first | subst eo46 | (injection eo46 with f1_ f2_ f3_; have f4_ := f1_.symm; have f5_ := f3_.symm; clear f1_ f2_ f3_; subst f4_; subst f5_))
      obtain ⟨Ao47, co47, eo47⟩ := Kd.R_slice HO458.out
      (first | subst eo47 | (injection eo47 with f1_ f2_ f3_; have f4_ := f1_.symm; have f5_ := f3_.symm; clear f1_ f2_ f3_; subst f4_; subst f5_))
      obtain ⟨Ao48, co48, eo48⟩ := Kd.R_slice HO462.out
      (first | subst eo48 | (injection eo48 with f1_ f2_ f3_; have f4_ := f1_.symm; have f5_ := f3_.symm; clear f1_ f2_ f3_; subst f4_; subst f5_))
      refine hK.out _ _ ⟨(blk_cell BK446.out 0).trans rfl, (blk_cell BK446.out 1).trans rfl, (blk_cell BK446.out 2).trans rfl, (blk_cell BK446.out 3).trans rfl, (blk_cell BK446.out 4).trans rfl, (blk_cell BK418.out 0).trans rfl, (blk_cell BK418.out 1).trans rfl, (blk_cell BK418.out 2).trans rfl, (blk_cell BK418.out 3).trans rfl, (blk_cell BK418.out 4).trans rfl⟩ (fun hHeld => ?_)
      clear hK K
      refine norm_ (a' := ?_) ?_ ?_
      rotate_left
      ·
       show Act.put _ (some 43) _ = _
       simp only [Act.put, List.setIfInBounds_toArray, List.set_cons_zero, List.set_cons_succ, i64_w, i32_w]
       rfl
      refine one_ (i := 3) (N := some 44) #[true, true, true, true, false] rfl rfl (by kernel_rfl) (by decide) (fun K hK => ?_)
      refine goes_ Try.func11 (by kernel_rfl) rfl #[.agg #[.int .i64 t435, .slice Ao26 t436.length co26, .slice Ao27 t439.length co27, .int .i64 t442, .slice Ao28 t443.length co28], .agg #[.int .i64 t452, .slice Ao46 t453.length co46, .slice Ao47 t456.length co47, .int .i64 t459, .slice Ao48 t460.length co48]] (by rfl) rfl rfl (by (try simp only [List.map_toArray, List.map_cons, List.map_nil]); first | done | rfl | (simp only [List.length_drop, List.length_take]; rfl)) ?_
      with_reducible refine (laws_eqWork.calls kj10 t435 _ _ t436 _ _ t439 t442 _ _ t443 t452 _ _ t453 _ _ t456 t459 _ _ t460 true _ ?side1 ?side2 ?side3 ?side4 ?side5 ?side6 ?side7 ?side8 ?side9 ?side10 ?side11 ?side12 A40.out).mono ?_
      (case side1 => exact rc0 HO_447001)
      (case side2 => exact (Kd.R_reads' HO_447001.out).2.1)
      (case side3 => exact rc0 HO_447002)
      (case side4 => exact (Kd.R_reads' HO_447002.out).2.1)
      (case side5 => exact rc0 HO_447004)
      (case side6 => exact (Kd.R_reads' HO_447004.out).2.1)
      (case side7 => exact rc0 HO455)
      (case side8 => exact (Kd.R_reads' HO455.out).2.1)
      (case side9 => exact rc0 HO458)
      (case side10 => exact (Kd.R_reads' HO458.out).2.1)
      (case side11 => exact rc0 HO462)
      (case side12 => exact (Kd.R_reads' HO462.out).2.1)
      rintro e w49 ⟨rfl, hb⟩
      refine ⟨_, rfl, ?_⟩
      have n0_ := Aside0.mk (Kd.R_below (rr HO_4.out) hb)
      have n1_ := Aside0.mk (Kd.R_below (rr HO_7.out) hb)
      have n2_ := Aside0.mk (Kd.R_below (rr HO_447001.out) hb)
      have n3_ := Aside0.mk (Kd.R_below (rr HO_447002.out) hb)
      have n4_ := Aside0.mk (Kd.R_below (rr HO_447004.out) hb)
      have n5_ := Aside0.mk (Kd.R_below (rr HO455.out) hb)
      have n6_ := Aside0.mk (Kd.R_below (rr HO458.out) hb)
      have n7_ := Aside0.mk (Kd.R_below (rr HO462.out) hb)
      have n8_ := Aside0.mk (bb BK418 hb)
      have n9_ := Aside0.mk (bb BK446 hb)
      have n10_ := Aside0.mk (below_step (bs2 HB GE418 GE446) hb)
      clear HO_4
      clear HO_7
      clear HO_447001
      clear HO_447002
      clear HO_447004
      clear HO455
      clear HO458
      clear HO462
      clear BK418
      clear BK446
      clear HB
      have HO_4 := n0_
      have HO_7 := n1_
      have HO_447001 := n2_
      have HO_447002 := n3_
      have HO_447004 := n4_
      have HO455 := n5_
      have HO458 := n6_
      have HO462 := n7_
      have BK418 := n8_
      have BK446 := n9_
      have HB := n10_
      clear n0_ n1_ n2_ n3_ n4_ n5_ n6_ n7_ n8_ n9_ n10_
      (try clear hb)
      (try clear hb2)
      (try clear hk)
      (try clear hi)
      refine hK.out _ _ ⟨(blk_cell BK446.out 0).trans rfl, (blk_cell BK446.out 1).trans rfl, (blk_cell BK446.out 2).trans rfl, (blk_cell BK446.out 3).trans rfl, (blk_cell BK446.out 4).trans rfl, (blk_cell BK418.out 0).trans rfl, (blk_cell BK418.out 1).trans rfl, (blk_cell BK418.out 2).trans rfl, (blk_cell BK418.out 3).trans rfl, (blk_cell BK418.out 4).trans rfl⟩ (fun hHeld => ?_)
      clear hK K
      refine norm_ (a' := ?_) ?_ ?_
      rotate_left
      ·
       show Act.put _ (some 44) _ = _
       simp only [Act.put, List.setIfInBounds_toArray, List.set_cons_zero, List.set_cons_succ, i64_w, i32_w]
       rfl
      refine pure_ (i := 4) (N := some 45) (v := ?_) (a' := ?_) #[true, true, true, true, true] rfl rfl (by kernel_rfl) (fun _ _ _ h => h) (Or.inl ⟨by rfl, ?_⟩) ?_ ?_
      rotate_left
      ·
       intro w'
       go_simp
       with_reducible rfl
      rotate_left
      ·
       simp only [Act.put, List.setIfInBounds_toArray, List.set_cons_zero, List.set_cons_succ, i64_w, i32_w]
       rfl
      refine done_ (by kernel_rfl) ?_
      have hnb50 := NB446_418.out
      have hnc50 := NB418_446.out
      obtain ⟨hcz51_0, hcz51_1, hcz51_2, hcz51_3, hcz51_4⟩ := cz5 BK446
      obtain ⟨hfz51_0, hfz51_1, hfz51_2, hfz51_3, hfz51_4⟩ := fz5 BK446
      go_upto_region 14 with (first | ((with_reducible refine gate_callee (f := 12) rfl ?_); refine gL (some 48) rfl rfl Try.func12 (by kernel_rfl) rfl #[.agg #[.int .i64 t435, .slice Ao26 t436.length co26, .slice Ao27 t439.length co27, .int .i64 t442, .slice Ao28 t443.length co28], .int .i64 1] rfl ?_; (with_reducible refine (laws_markWork.calls kj10 t435 (fun k_ => some k_ = (.slice Ao26 t436.length co26 : Value).ownBlock) (.slice Ao26 t436.length co26) t436 (fun k_ => some k_ = (.slice Ao27 t439.length co27 : Value).ownBlock) (.slice Ao27 t439.length co27) t439 t442 (fun k_ => some k_ = (.slice Ao28 t443.length co28 : Value).ownBlock) (.slice Ao28 t443.length co28) t443 1 t464 t465 t466 t467 w _ ?side1 ?side2 ?side3 ?side4 ?side5 ?side6 A42.out).mono ?_); (case side1 => repeat (first | (with_reducible first | exact HB.out | apply below_alloc | apply pw_below_drewN | apply below_drew1 | refine below_set ?_ GE418.out | refine below_set ?_ GE446.out) | exact HB.out)); (case side2 => exact Kd.R_tight rfl HO_447001.out); (case side3 => exact fun k_ e_ => (HO_447001.out.1 k_ e_.symm).1.1); (case side4 => exact Kd.R_tight rfl HO_447002.out); (case side5 => exact fun k_ e_ => (HO_447002.out.1 k_ e_.symm).1.1); (case side6 => exact Kd.R_tight rfl HO_447004.out); rintro e w52 ⟨rfl, hy0, hy1, hy2, hb, hkp⟩; refine ⟨_, rfl, ?_⟩; replace HO_4 := Aside0.mk (Kd.R_mono (ok' := fun k_ => some k_ ≠ (v448 : Value).ownBlock ∧ some k_ ≠ (.slice Ao28 t443.length co28 : Value).ownBlock ∧ some k_ ≠ (.slice Ao48 t460.length co48 : Value).ownBlock) (Kd.R_keptB ((Kd.R_apart' (Kd.R_apart' HO_4.out (Kd.R_typed HO_447001.out) (by decide)) (Kd.R_typed HO_447002.out) (by decide))) hkp (fun k_ hk_ hs_ => Or.elim hs_ (fun e_ => (hk_.1.2) e_) (fun e_ => Or.elim e_ (fun e_ => (hk_.2) e_) (fun e_ => (hk_.1.1.1.2) e_)))) (fun k_ hk_ => ⟨hk_.1.1.1.1.1, hk_.1.1.1.1.2, hk_.1.1.1.2⟩)); replace HO_7 := Aside0.mk (Kd.R_mono (ok' := fun k_ => some k_ ≠ (v432 : Value).ownBlock ∧ some k_ ≠ (.slice Ao28 t443.length co28 : Value).ownBlock ∧ some k_ ≠ (.slice Ao48 t460.length co48 : Value).ownBlock) (Kd.R_keptB ((Kd.R_apart' (Kd.R_apart' HO_7.out (Kd.R_typed HO_447001.out) (by decide)) (Kd.R_typed HO_447002.out) (by decide))) hkp (fun k_ hk_ hs_ => Or.elim hs_ (fun e_ => (hk_.1.2) e_) (fun e_ => Or.elim e_ (fun e_ => (hk_.2) e_) (fun e_ => (hk_.1.1.1.2) e_)))) (fun k_ hk_ => ⟨hk_.1.1.1.1.1, hk_.1.1.1.1.2, hk_.1.1.1.2⟩)); replace BK418 := Aside0.mk (blk_kept (bk BK418) hkp (fun hs_ => Or.elim hs_ (fun e_ => (fun e_ => (Kd.R_ne HO_447001.out BK418.out (by decide)) e_) e_) (fun e_ => Or.elim e_ (fun e_ => (fun e_ => (Kd.R_ne HO_447002.out BK418.out (by decide)) e_) e_) (fun e_ => (fun e_ => (Kd.R_ne HO_447004.out BK418.out (by decide)) e_) e_)))); replace BK446 := Aside0.mk (blk_kept (bk BK446) hkp (fun hs_ => Or.elim hs_ (fun e_ => (fun e_ => (Kd.R_ne HO_447001.out BK446.out (by decide)) e_) e_) (fun e_ => Or.elim e_ (fun e_ => (fun e_ => (Kd.R_ne HO_447002.out BK446.out (by decide)) e_) e_) (fun e_ => (fun e_ => (Kd.R_ne HO_447004.out BK446.out (by decide)) e_) e_)))); replace HO455 := Aside0.mk (Kd.R_mono (ok' := fun k_ => some k_ ≠ (.slice Ao26 t436.length co26 : Value).ownBlock ∧ some k_ ≠ (.slice Ao27 t439.length co27 : Value).ownBlock ∧ some k_ ≠ (.slice Ao47 t456.length co47 : Value).ownBlock) (Kd.R_keptB ((Kd.R_apart' HO455.out (Kd.R_typed HO_447004.out) (by decide))) hkp (fun k_ hk_ hs_ => Or.elim hs_ (fun e_ => (hk_.1.1.2) e_) (fun e_ => Or.elim e_ (fun e_ => (hk_.1.2) e_) (fun e_ => (hk_.2) e_)))) (fun k_ hk_ => ⟨hk_.1.1.1.2, hk_.1.1.2, hk_.1.1.1.1⟩)); replace HO458 := Aside0.mk (Kd.R_mono (ok' := fun k_ => some k_ ≠ (.slice Ao26 t436.length co26 : Value).ownBlock ∧ some k_ ≠ (.slice Ao27 t439.length co27 : Value).ownBlock ∧ some k_ ≠ (.slice Ao46 t453.length co46 : Value).ownBlock) (Kd.R_keptB ((Kd.R_apart' HO458.out (Kd.R_typed HO_447004.out) (by decide))) hkp (fun k_ hk_ hs_ => Or.elim hs_ (fun e_ => (hk_.1.1.2) e_) (fun e_ => Or.elim e_ (fun e_ => (hk_.1.2) e_) (fun e_ => (hk_.2) e_)))) (fun k_ hk_ => ⟨hk_.1.1.1.2, hk_.1.1.2, hk_.1.1.1.1⟩)); replace HO_447004 := Aside0.mk (Kd.R_reok rfl hy2 (fun k_ e_ => HO_447004.out.1 k_ e_)); replace HO462 := Aside0.mk (Kd.R_mono (ok' := fun k_ => some k_ ≠ (v432 : Value).ownBlock ∧ some k_ ≠ (v448 : Value).ownBlock ∧ some k_ ≠ (.slice Ao28 t443.length co28 : Value).ownBlock) (Kd.R_keptB ((Kd.R_apart' (Kd.R_apart' HO462.out (Kd.R_typed HO_447001.out) (by decide)) (Kd.R_typed HO_447002.out) (by decide))) hkp (fun k_ hk_ hs_ => Or.elim hs_ (fun e_ => (hk_.1.2) e_) (fun e_ => Or.elim e_ (fun e_ => (hk_.2) e_) (fun e_ => (hk_.1.1.2) e_)))) (fun k_ hk_ => ⟨hk_.1.1.1.1.1.2, hk_.1.1.1.1.2, hk_.1.1.1.2⟩)); replace HO_447001 := Aside0.mk (Kd.R_reok rfl hy0 (fun k_ e_ => HO_447001.out.1 k_ e_)); replace HO_447002 := Aside0.mk (Kd.R_reok rfl hy1 (fun k_ e_ => HO_447002.out.1 k_ e_)); replace HB := Aside0.mk (hb); (try clear hb); (try clear hkp); (try clear hy0); (try clear hy1); (try clear hy2)))
      (try simp only [Act.put, List.setIfInBounds_toArray, List.set_cons_zero, List.set_cons_succ])
      go_cut [61] (fun v61 wc => ∃ (kq : Nat) (x61_42 : Bool), v61 = .bool x61_42 ∧ Aside0 (laws_FnExactOpenOf.j1 kq t431 t434 t447 x61_42 a0_0 l0_1 l0_2 a0_3 l0_4 = some r) ∧ Aside0 (kq ≤ kj10) ∧ Aside0 (Kd.R k71 71 wc w.heap.size (fun k_ => some k_ ≠ (v448 : Value).ownBlock ∧ some k_ ≠ ((.slice Ao28 t443.length co28) : Value).ownBlock) v432 t431) ∧ Aside0 (Kd.R k71 71 wc w.heap.size (fun k_ => some k_ ≠ (v432 : Value).ownBlock ∧ some k_ ≠ ((.slice Ao28 t443.length co28) : Value).ownBlock) v448 t447) ∧ Aside0 (Kd.R k53 53 wc w.heap.size (fun k_ => some k_ ≠ ((.slice Ao27 t439.length co27) : Value).ownBlock) (.slice Ao26 t436.length co26) t465) ∧ Aside0 (Kd.R k53 53 wc w.heap.size (fun k_ => some k_ ≠ ((.slice Ao26 t436.length co26) : Value).ownBlock) (.slice Ao27 t439.length co27) t466) ∧ Aside0 (Kd.R k71 71 wc w.heap.size (fun k_ => some k_ ≠ (v432 : Value).ownBlock ∧ some k_ ≠ (v448 : Value).ownBlock) (.slice Ao28 t443.length co28) t467) ∧ Aside0 (wc.heap[gb418]? = some (.cells #[.int .i64 a0_0, (.slice A0_1 l0_1.length c0_1), (.slice A0_2 l0_2.length c0_2), .int .i64 a0_3, (.slice A0_4 l0_4.length c0_4)] 38 (0, 0))) ∧ Aside0 (wc.heap[gb446]? = some (.cells #[.int .i64 t435, (.slice Ao26 t436.length co26), (.slice Ao27 t439.length co27), .int .i64 t442, (.slice Ao28 t443.length co28)] 27 (0, 0))) ∧ Aside0 (Below w.heap.size w wc))
      case first =>
       have H := HC43.out
       clear HC43
       by_cases c53 : t464 < 0
       ·
        rw [if_pos c53] at H
        have c53b0 : decide (t464 < 0) = true := decide_eq_true c53
        clear c53
        (first | rw [c53b0] | (simp only [i64_w, i32_w]; rw [c53b0]) | (simp only [c53b2, Bool.not_false, Bool.not_true]) | skip)
        have H' := Aside0.mk H
        clear H
        go_wp2
        go_meet
        case rel => exact ⟨_, (true), (by first | rfl | (simp; done) | (simp [*]; done)), H', ⟨by have := HJ10.out; first | omega | exact Nat.le_refl _⟩, rm HO_4 (fun _ hk => ⟨hk.1, hk.2.1⟩), rm HO_7 (fun _ hk => ⟨hk.1, hk.2.1⟩), rm HO_447001 (fun _ hk => hk.1.1), rm HO_447002 (fun _ hk => hk.1.1), rm HO_447004 (fun _ hk => ⟨hk.1.1, hk.1.2⟩), ⟨bk BK418⟩, ⟨bk BK446⟩, ⟨bs2 HB GE418 GE446⟩⟩
       ·
        rw [if_neg c53] at H
        have c53b0 : decide (t464 < 0) = false := decide_eq_false c53
        clear c53
        (first | rw [c53b0] | (simp only [i64_w, i32_w]; rw [c53b0]) | (simp only [c53b2, Bool.not_false, Bool.not_true]) | skip)
        replace H := Option.bind_eq_some_iff.mp H
        obtain ⟨t468, A540, H⟩ := H
        replace H : (if t468 = true then (laws_FnExactOpenOf.j1 kj10 t431 t434 t447 (t450 != t434) a0_0 l0_1 l0_2 a0_3 l0_4) else (laws_FnExactOpenOf.j1 kj10 t431 t434 t447 true a0_0 l0_1 l0_2 a0_3 l0_4)) = some r := H
        have A54 := Aside0.mk A540
        clear A540
        by_cases c55 : t468 = true
        ·
         subst c55
         rw [if_pos rfl] at H
         have H' := Aside0.mk H
         clear H
         obtain ⟨Ao56, co56, eo56⟩ := Kd.R_slice HO_7.out
         subst eo56
         obtain ⟨Ao57, co57, eo57⟩ := Kd.R_slice HO_4.out
         subst eo57
         go_wp2_with (first | (go_at_call 20; (with_reducible refine (laws_eqItemS.calls kj10 _ _ t447 _ _ t431 true _ ?side1 ?side2 ?side3 ?side4 A54.out).mono ?_); (case side1 => exact rc0 HO_7); (case side2 => exact (Kd.R_reads' HO_7.out).2.1); (case side3 => exact rc0 HO_4); (case side4 => exact (Kd.R_reads' HO_4.out).2.1); rintro e w58 ⟨rfl, hb⟩; replace HO_4 := nr HO_4 hb; replace HO_7 := nr HO_7 hb; replace HO_447001 := nr HO_447001 hb; replace HO_447002 := nr HO_447002 hb; replace HO_447004 := nr HO_447004 hb; replace HO455 := nr HO455 hb; replace HO458 := nr HO458 hb; replace HO462 := nr HO462 hb; replace BK418 := nb BK418 hb; replace BK446 := nb BK446 hb; replace HB := Aside0.mk (below_step (bs2 HB GE418 GE446) hb); (try clear hb); (try clear hb2); (try clear hk); (try clear hi)))
         go_meet
         case rel => exact ⟨_, ((t450 != t434)), (by first | rfl | (simp; done) | (simp [*]; done)), H', ⟨by have := HJ10.out; first | omega | exact Nat.le_refl _⟩, rm HO_4 (fun _ hk => ⟨hk.1, hk.2.1⟩), rm HO_7 (fun _ hk => ⟨hk.1, hk.2.1⟩), rm HO_447001 (fun _ hk => hk.1.1), rm HO_447002 (fun _ hk => hk.1.1), rm HO_447004 (fun _ hk => ⟨hk.1.1, hk.1.2⟩), ⟨bk BK418⟩, ⟨bk BK446⟩, ⟨bs2 HB GE418 GE446⟩⟩
        ·
         replace c55 := Bool.eq_false_iff.mpr c55
         subst c55
         rw [if_neg (show ¬ (false = true) by decide)] at H
         have H' := Aside0.mk H
         clear H
         obtain ⟨Ao59, co59, eo59⟩ := Kd.R_slice HO_7.out
         subst eo59
         obtain ⟨Ao60, co60, eo60⟩ := Kd.R_slice HO_4.out
         subst eo60
         go_wp2_with (first | (go_at_call 20; (with_reducible refine (laws_eqItemS.calls kj10 _ _ t447 _ _ t431 false _ ?side1 ?side2 ?side3 ?side4 A54.out).mono ?_); (case side1 => exact rc0 HO_7); (case side2 => exact (Kd.R_reads' HO_7.out).2.1); (case side3 => exact rc0 HO_4); (case side4 => exact (Kd.R_reads' HO_4.out).2.1); rintro e w61 ⟨rfl, hb⟩; replace HO_4 := nr HO_4 hb; replace HO_7 := nr HO_7 hb; replace HO_447001 := nr HO_447001 hb; replace HO_447002 := nr HO_447002 hb; replace HO_447004 := nr HO_447004 hb; replace HO455 := nr HO455 hb; replace HO458 := nr HO458 hb; replace HO462 := nr HO462 hb; replace BK418 := nb BK418 hb; replace BK446 := nb BK446 hb; replace HB := Aside0.mk (below_step (bs2 HB GE418 GE446) hb); (try clear hb); (try clear hb2); (try clear hk); (try clear hi)))
         go_meet
         case rel => exact ⟨_, (true), (by first | rfl | (simp; done) | (simp [*]; done)), H', ⟨by have := HJ10.out; first | omega | exact Nat.le_refl _⟩, rm HO_4 (fun _ hk => ⟨hk.1, hk.2.1⟩), rm HO_7 (fun _ hk => ⟨hk.1, hk.2.1⟩), rm HO_447001 (fun _ hk => hk.1.1), rm HO_447002 (fun _ hk => hk.1.1), rm HO_447004 (fun _ hk => ⟨hk.1.1, hk.1.2⟩), ⟨bk BK418⟩, ⟨bk BK446⟩, ⟨bs2 HB GE418 GE446⟩⟩
      case rest =>
       clear HC43
       try clear c1
       try clear c2
       try clear p2
       try clear c3
       try clear c3b0
       try clear c4
       try clear c5
       try clear c11
       try clear c12
       try clear c14
       try clear c16
       try clear c18
       try clear c19
       try clear c20
       try clear c24
       try clear c31
       try clear c38
       try clear c41
       try clear c50
       try clear c53
       try clear c53b0
       try clear c55
       try clear hcz13_0 hcz13_1 hcz13_2 hcz13_3 hcz13_4
       try clear hcz15_0 hcz15_1 hcz15_2 hcz15_3 hcz15_4
       try clear hcz21_0 hcz21_1 hcz21_2 hcz21_3 hcz21_4
       try clear hcz25_0 hcz25_1 hcz25_2 hcz25_3 hcz25_4
       try clear hcz51_0 hcz51_1 hcz51_2 hcz51_3 hcz51_4
       try clear hcz5_0 hcz5_1 hcz5_2 hcz5_3 hcz5_4
       try clear hfz13_0 hfz13_1 hfz13_2 hfz13_3 hfz13_4
       try clear hfz15_0 hfz15_1 hfz15_2 hfz15_3 hfz15_4
       try clear hfz21_0 hfz21_1 hfz21_2 hfz21_3 hfz21_4
       try clear hfz25_0 hfz25_1 hfz25_2 hfz25_3 hfz25_4
       try clear hfz51_0 hfz51_1 hfz51_2 hfz51_3 hfz51_4
       try clear hfz5_0 hfz5_1 hfz5_2 hfz5_3 hfz5_4
       try clear p2
       obtain ⟨kq, x61_42, rfl, HA, HJ42, HO_4, HO_7, HO_447001, HO_447002, HO_447004, BK418, BK446, HB⟩ := hcut
       have hl447001_42 := (Kd.R_reads' HO_447001.out).1
       rw [hl447001_42] at HO_447001
       (try simp only [hl447001_42])
       (try simp only [hl447001_42] at BK418)
       (try simp only [hl447001_42] at BK446)
       (try simp only [hl447001_42] at HO_4)
       (try simp only [hl447001_42] at HO_7)
       (try simp only [hl447001_42] at HO_447002)
       (try simp only [hl447001_42] at HO_447004)
       have hl447002_42 := (Kd.R_reads' HO_447002.out).1
       rw [hl447002_42] at HO_447002
       (try simp only [hl447002_42])
       (try simp only [hl447002_42] at BK418)
       (try simp only [hl447002_42] at BK446)
       (try simp only [hl447002_42] at HO_4)
       (try simp only [hl447002_42] at HO_7)
       (try simp only [hl447002_42] at HO_447001)
       (try simp only [hl447002_42] at HO_447004)
       have hl447004_42 := (Kd.R_reads' HO_447004.out).1
       rw [hl447004_42] at HO_447004
       (try simp only [hl447004_42])
       (try simp only [hl447004_42] at BK418)
       (try simp only [hl447004_42] at BK446)
       (try simp only [hl447004_42] at HO_4)
       (try simp only [hl447004_42] at HO_7)
       (try simp only [hl447004_42] at HO_447001)
       (try simp only [hl447004_42] at HO_447002)
       cases kq with
       | zero => exact absurd HA.out (by simp [laws_FnExactOpenOf.j1])
       | succ kj42 =>
        have H := HA.out
        clear HA
        simp only [laws_FnExactOpenOf.j1] at H
        by_cases c62 : x61_42 = true
        ·
         subst c62
         rw [if_pos rfl] at H
         obtain rfl := Option.some.inj H
         go_wp2
         go_ret
         exact ⟨by first | rfl | (simp [errW_none, errW_some] <;> rfl) | (simp [*, errW_none, errW_some] <;> rfl), bs2 HB GE418 GE446⟩
        ·
         replace c62 := Bool.eq_false_iff.mpr c62
         subst c62
         rw [if_neg (show ¬ (false = true) by decide)] at H
         replace H := Option.bind_eq_some_iff.mp H
         obtain ⟨⟨t469, t470⟩, A630, H⟩ := H
         replace H : ((laws_heldItemS.f kj42 t470 1).bind fun t471 => (if t471 < 0 then (some false) else (if t471 = t469 then ((laws_toWork.f kj42 a0_0 l0_1 l0_2 a0_3 l0_4).bind fun bt472 => ((impl_OpenOf.f kj42 bt472.1 bt472.2.1 bt472.2.2.1 bt472.2.2.2.1 bt472.2.2.2.2).bind fun bt483 => ((laws_eqItemS.f kj42 bt483.1 t431).bind fun t487 => (if t487 = true then (laws_FnExactOpenOf.j2 kj42 t470 t469 (bt483.2 != t434)) else (laws_FnExactOpenOf.j2 kj42 t470 t469 true))))) else (some false)))) = some r := H
         have A63 := Aside0.mk A630
         clear A630
         replace H := Option.bind_eq_some_iff.mp H
         obtain ⟨t471, A640, H⟩ := H
         replace H : (if t471 < 0 then (some false) else (if t471 = t469 then ((laws_toWork.f kj42 a0_0 l0_1 l0_2 a0_3 l0_4).bind fun bt472 => ((impl_OpenOf.f kj42 bt472.1 bt472.2.1 bt472.2.2.1 bt472.2.2.2.1 bt472.2.2.2.2).bind fun bt483 => ((laws_eqItemS.f kj42 bt483.1 t431).bind fun t487 => (if t487 = true then (laws_FnExactOpenOf.j2 kj42 t470 t469 (bt483.2 != t434)) else (laws_FnExactOpenOf.j2 kj42 t470 t469 true))))) else (some false))) = some r := H
         have A64 := Aside0.mk A640
         clear A640
         by_cases c65 : t471 < 0
         ·
          rw [if_pos c65] at H
          have c65b0 : decide (t471 < 0) = true := decide_eq_true c65
          clear c65
          obtain rfl := Option.some.inj H
          obtain ⟨Ao66, co66, eo66⟩ := Kd.R_slice HO_7.out
          subst eo66
          go_wp2_with (first | ((with_reducible refine gate_callee (f := 21) rfl ?_); refine gL (some 64) rfl rfl Try.func21 (by kernel_rfl) rfl #[.slice Ao66 t447.length co66, .int .i64 1] rfl ?_; (with_reducible refine (laws_markItemS.calls kj42 (fun k_ => some k_ = (.slice Ao66 t447.length co66 : Value).ownBlock) (.slice Ao66 t447.length co66) t447 1 t469 t470 w _ ?side1 ?side2 A63.out).mono ?_); (case side1 => repeat (first | (with_reducible first | exact HB.out | apply below_alloc | apply pw_below_drewN | apply below_drew1 | refine below_set ?_ GE418.out | refine below_set ?_ GE446.out) | exact HB.out)); (case side2 => exact Kd.R_tight rfl HO_7.out); rintro e w67 ⟨rfl, hy0, hb, hkp⟩; refine ⟨_, rfl, ?_⟩; replace HO_4 := Aside0.mk (Kd.R_mono (ok' := fun k_ => some k_ ≠ (.slice Ao66 t447.length co66 : Value).ownBlock ∧ some k_ ≠ (.slice Ao28 t467.length co28 : Value).ownBlock) (Kd.R_keptB (HO_4.out) hkp (fun k_ hk_ hs_ => (hk_.1) hs_)) (fun k_ hk_ => ⟨hk_.1.1, hk_.1.2⟩)); replace HO_447001 := Aside0.mk (Kd.R_mono (ok' := fun k_ => some k_ ≠ (.slice Ao27 t466.length co27 : Value).ownBlock) (Kd.R_keptB ((Kd.R_apart' HO_447001.out (Kd.R_typed HO_7.out) (by decide))) hkp (fun k_ hk_ hs_ => (hk_.2) hs_)) (fun k_ hk_ => hk_.1.1)); replace HO_447002 := Aside0.mk (Kd.R_mono (ok' := fun k_ => some k_ ≠ (.slice Ao26 t465.length co26 : Value).ownBlock) (Kd.R_keptB ((Kd.R_apart' HO_447002.out (Kd.R_typed HO_7.out) (by decide))) hkp (fun k_ hk_ hs_ => (hk_.2) hs_)) (fun k_ hk_ => hk_.1.1)); replace HO_447004 := Aside0.mk (Kd.R_mono (ok' := fun k_ => some k_ ≠ (v432 : Value).ownBlock ∧ some k_ ≠ (.slice Ao66 t447.length co66 : Value).ownBlock) (Kd.R_keptB (HO_447004.out) hkp (fun k_ hk_ hs_ => (hk_.2) hs_)) (fun k_ hk_ => ⟨hk_.1.1, hk_.1.2⟩)); replace BK418 := Aside0.mk (blk_kept (bk BK418) hkp (fun hs_ => (fun e_ => (Kd.R_ne HO_7.out BK418.out (by decide)) e_) hs_)); replace BK446 := Aside0.mk (blk_kept (bk BK446) hkp (fun hs_ => (fun e_ => (Kd.R_ne HO_7.out BK446.out (by decide)) e_) hs_)); replace HO_7 := Aside0.mk (Kd.R_reok rfl hy0 (fun k_ e_ => HO_7.out.1 k_ e_)); replace HB := Aside0.mk (hb); (try clear hb); (try clear hkp); (try clear hy0)) | ((with_reducible refine gate_callee (f := 22) rfl ?_); refine goesL_ (some 67) rfl rfl Try.func22 (by kernel_rfl) rfl #[.slice Ao66 t470.length co66, .int .i64 1] rfl (by (try simp only [List.map_toArray, List.map_cons, List.map_nil]); first | done | (rw [show t470.length = t447.length from (Kd.R_reads' HO_7.out).1.symm] <;> rfl) | rfl | (simp only [List.length_drop, List.length_take]; rfl)) ?_; (with_reducible refine (laws_heldItemS.calls kj42 _ _ t470 1 t471 _ ?side1 ?side2 A64.out).mono ?_); (case side1 => exact rc0 HO_7); (case side2 => rw [show t470.length = t447.length from (Kd.R_reads' HO_7.out).1.symm]; exact (Kd.R_reads' HO_7.out).2.1); rintro e w' ⟨rfl, ⟨nd, rfl⟩⟩; refine ⟨_, rfl, ?_⟩))
          go_ret
          exact ⟨by first | rfl | (simp [errW_none, errW_some] <;> rfl) | (simp [*, errW_none, errW_some] <;> rfl), bs2 HB GE418 GE446⟩
         ·
          rw [if_neg c65] at H
          have c65b0 : decide (t471 < 0) = false := decide_eq_false c65
          clear c65
          by_cases c68 : t471 = t469
          ·
           rw [if_pos c68] at H
           have c68b0 : (t471 == t469) = true := beq_iff_eq.mpr c68
           have c68b1 : (t471 != t469) = false := bne_eq_false_iff_eq.mpr c68
           clear c68
           replace H := Option.bind_eq_some_iff.mp H
           obtain ⟨⟨t472, t473, t476, t479, t480⟩, A690, H⟩ := H
           replace H : ((impl_OpenOf.f kj42 t472 t473 t476 t479 t480).bind fun bt483 => ((laws_eqItemS.f kj42 bt483.1 t431).bind fun t487 => (if t487 = true then (laws_FnExactOpenOf.j2 kj42 t470 t469 (bt483.2 != t434)) else (laws_FnExactOpenOf.j2 kj42 t470 t469 true)))) = some r := H
           have A69 := Aside0.mk A690
           clear A690
           replace H := Option.bind_eq_some_iff.mp H
           obtain ⟨⟨t483, t486⟩, A700, H⟩ := H
           replace H : ((laws_eqItemS.f kj42 t483 t431).bind fun t487 => (if t487 = true then (laws_FnExactOpenOf.j2 kj42 t470 t469 (t486 != t434)) else (laws_FnExactOpenOf.j2 kj42 t470 t469 true))) = some r := H
           have A70 := Aside0.mk A700
           clear A700
           have HC71 := Aside0.mk H
           clear H
           obtain ⟨Ao72, co72, eo72⟩ := Kd.R_slice HO_7.out
           subst eo72
           go_upto_region 25 with (first | ((with_reducible refine gate_callee (f := 21) rfl ?_); refine gL (some 64) rfl rfl Try.func21 (by kernel_rfl) rfl #[.slice Ao72 t447.length co72, .int .i64 1] rfl ?_; (with_reducible refine (laws_markItemS.calls kj42 (fun k_ => some k_ = (.slice Ao72 t447.length co72 : Value).ownBlock) (.slice Ao72 t447.length co72) t447 1 t469 t470 w _ ?side1 ?side2 A63.out).mono ?_); (case side1 => repeat (first | (with_reducible first | exact HB.out | apply below_alloc | apply pw_below_drewN | apply below_drew1 | refine below_set ?_ GE418.out | refine below_set ?_ GE446.out) | exact HB.out)); (case side2 => exact Kd.R_tight rfl HO_7.out); rintro e w73 ⟨rfl, hy0, hb, hkp⟩; refine ⟨_, rfl, ?_⟩; replace HO_4 := Aside0.mk (Kd.R_mono (ok' := fun k_ => some k_ ≠ (.slice Ao72 t447.length co72 : Value).ownBlock ∧ some k_ ≠ (.slice Ao28 t467.length co28 : Value).ownBlock) (Kd.R_keptB (HO_4.out) hkp (fun k_ hk_ hs_ => (hk_.1) hs_)) (fun k_ hk_ => ⟨hk_.1.1, hk_.1.2⟩)); replace HO_447001 := Aside0.mk (Kd.R_mono (ok' := fun k_ => some k_ ≠ (.slice Ao27 t466.length co27 : Value).ownBlock) (Kd.R_keptB ((Kd.R_apart' HO_447001.out (Kd.R_typed HO_7.out) (by decide))) hkp (fun k_ hk_ hs_ => (hk_.2) hs_)) (fun k_ hk_ => hk_.1.1)); replace HO_447002 := Aside0.mk (Kd.R_mono (ok' := fun k_ => some k_ ≠ (.slice Ao26 t465.length co26 : Value).ownBlock) (Kd.R_keptB ((Kd.R_apart' HO_447002.out (Kd.R_typed HO_7.out) (by decide))) hkp (fun k_ hk_ hs_ => (hk_.2) hs_)) (fun k_ hk_ => hk_.1.1)); replace HO_447004 := Aside0.mk (Kd.R_mono (ok' := fun k_ => some k_ ≠ (v432 : Value).ownBlock ∧ some k_ ≠ (.slice Ao72 t447.length co72 : Value).ownBlock) (Kd.R_keptB (HO_447004.out) hkp (fun k_ hk_ hs_ => (hk_.2) hs_)) (fun k_ hk_ => ⟨hk_.1.1, hk_.1.2⟩)); replace BK418 := Aside0.mk (blk_kept (bk BK418) hkp (fun hs_ => (fun e_ => (Kd.R_ne HO_7.out BK418.out (by decide)) e_) hs_)); replace BK446 := Aside0.mk (blk_kept (bk BK446) hkp (fun hs_ => (fun e_ => (Kd.R_ne HO_7.out BK446.out (by decide)) e_) hs_)); replace HO_7 := Aside0.mk (Kd.R_reok rfl hy0 (fun k_ e_ => HO_7.out.1 k_ e_)); replace HB := Aside0.mk (hb); (try clear hb); (try clear hkp); (try clear hy0)) | ((with_reducible refine gate_callee (f := 22) rfl ?_); refine goesL_ (some 67) rfl rfl Try.func22 (by kernel_rfl) rfl #[.slice Ao72 t470.length co72, .int .i64 1] rfl (by (try simp only [List.map_toArray, List.map_cons, List.map_nil]); first | done | (rw [show t470.length = t447.length from (Kd.R_reads' HO_7.out).1.symm] <;> rfl) | rfl | (simp only [List.length_drop, List.length_take]; rfl)) ?_; (with_reducible refine (laws_heldItemS.calls kj42 _ _ t470 1 t471 _ ?side1 ?side2 A64.out).mono ?_); (case side1 => exact rc0 HO_7); (case side2 => rw [show t470.length = t447.length from (Kd.R_reads' HO_7.out).1.symm]; exact (Kd.R_reads' HO_7.out).2.1); rintro e w' ⟨rfl, ⟨nd, rfl⟩⟩; refine ⟨_, rfl, ?_⟩; have hnb74 := NB418_446.out; have hnc74 := NB446_418.out; obtain ⟨hcz75_0, hcz75_1, hcz75_2, hcz75_3, hcz75_4⟩ := cz5 BK418; obtain ⟨hfz75_0, hfz75_1, hfz75_2, hfz75_3, hfz75_4⟩ := fz5 BK418) | ((with_reducible refine gate_callee (f := 16) rfl ?_); refine gL (some 75) rfl rfl Try.func16 (by kernel_rfl) rfl #[.agg #[.int .i64 a0_0, .slice A0_1 l0_1.length c0_1, .slice A0_2 l0_2.length c0_2, .int .i64 a0_3, .slice A0_4 l0_4.length c0_4]] rfl ?_; (with_reducible refine (laws_toWork.calls kj42 a0_0 _ _ l0_1 _ _ l0_2 a0_3 _ _ l0_4 t472 t473 t476 t479 t480 _ ?side1 ?side2 ?side3 ?side4 ?side5 ?side6 A69.out).mono ?_); (case side1 => repeat (first | exact (Kd.C_below HR0_1.out (bs2 HB GE418 GE446)) | (with_reducible refine Kd.C_alloc ?_ _) | (with_reducible refine Kd.C_drewN ?_ _) | (with_reducible refine Kd.C_drew ?_))); (case side2 => exact HC0_1.out); (case side3 => repeat (first | exact (Kd.C_below HR0_2.out (bs2 HB GE418 GE446)) | (with_reducible refine Kd.C_alloc ?_ _) | (with_reducible refine Kd.C_drewN ?_ _) | (with_reducible refine Kd.C_drew ?_))); (case side4 => exact HC0_2.out); (case side5 => repeat (first | exact (Kd.C_below HR0_4.out (bs2 HB GE418 GE446)) | (with_reducible refine Kd.C_alloc ?_ _) | (with_reducible refine Kd.C_drewN ?_ _) | (with_reducible refine Kd.C_drew ?_))); (case side6 => exact HC0_4.out); rintro e w76 ⟨v474, v477, v481, rfl, ho0, ho1, ho2, hb⟩; refine ⟨_, rfl, ?_⟩; have HO475 := Aside0.mk (Kd.R_lower (Kd.R_new' (Kd.R_new' ho0 (Kd.R_lt (rr HO_447001.out))) (Kd.R_lt (rr HO_447002.out))) (below_size (bs2 HB GE418 GE446))); have HO478 := Aside0.mk (Kd.R_lower (Kd.R_new' (Kd.R_new' ho1 (Kd.R_lt (rr HO_447001.out))) (Kd.R_lt (rr HO_447002.out))) (below_size (bs2 HB GE418 GE446))); replace HO_447001 := Aside0.mk (Kd.R_mono (Kd.R_told (Kd.R_told (Kd.R_old (rr HO_447001.out) hb) (Kd.R_base ho0)) (Kd.R_base ho1)) (fun _ h_ => h_.1)); replace HO_447002 := Aside0.mk (Kd.R_mono (Kd.R_told (Kd.R_told (Kd.R_old (rr HO_447002.out) hb) (Kd.R_base ho0)) (Kd.R_base ho1)) (fun _ h_ => h_.1)); have HO482 := Aside0.mk (Kd.R_lower (Kd.R_new' (Kd.R_new' (Kd.R_new' ho2 (Kd.R_lt (rr HO_4.out))) (Kd.R_lt (rr HO_7.out))) (Kd.R_lt (rr HO_447004.out))) (below_size (bs2 HB GE418 GE446))); replace HO_4 := Aside0.mk (Kd.R_elder' (rr HO_4.out) (Kd.R_base ho2) hb); replace HO_7 := Aside0.mk (Kd.R_elder' (rr HO_7.out) (Kd.R_base ho2) hb); replace HO_447004 := Aside0.mk (Kd.R_elder' (rr HO_447004.out) (Kd.R_base ho2) hb); replace BK418 := nb BK418 hb; replace BK446 := nb BK446 hb; replace HB := Aside0.mk (below_step (bs2 HB GE418 GE446) hb); (try clear hb); (try clear hb2); (try clear hk); (try clear hi); (try clear ho0); (try clear ho1); (try clear ho2); obtain ⟨Ao77, co77, eo77⟩ := Kd.R_slice HO475.out; subst eo77; obtain ⟨Ao78, co78, eo78⟩ := Kd.R_slice HO478.out; subst eo78; obtain ⟨Ao79, co79, eo79⟩ := Kd.R_slice HO482.out; subst eo79) | ((with_reducible refine gate_callee (f := 19) rfl ?_); refine gL (some 76) rfl rfl Try.func19 (by kernel_rfl) rfl #[.agg #[.int .i64 t472, .slice Ao77 t473.length co77, .slice Ao78 t476.length co78, .int .i64 t479, .slice Ao79 t480.length co79]] rfl ?_; (with_reducible refine (impl_OpenOf.calls kj42 t472 _ _ t473 _ _ t476 t479 _ _ t480 t483 t486 _ ?side1 ?side2 ?side3 ?side4 ?side5 ?side6 A70.out).mono ?_); (case side1 => exact rc0 HO475); (case side2 => exact (Kd.R_reads' HO475.out).2.1); (case side3 => exact rc0 HO478); (case side4 => exact (Kd.R_reads' HO478.out).2.1); (case side5 => exact rc0 HO482); (case side6 => exact (Kd.R_reads' HO482.out).2.1); rintro e w80 ⟨v484, rfl, ho0, hb⟩; refine ⟨_, rfl, ?_⟩; replace HO_447001 := nr HO_447001 hb; replace HO_447002 := nr HO_447002 hb; replace HO475 := nr HO475 hb; replace HO478 := nr HO478 hb; have HO485 := Aside0.mk (Kd.R_lower (Kd.R_new' (Kd.R_new' (Kd.R_new' (Kd.R_new' ho0 (Kd.R_lt (rr HO_4.out))) (Kd.R_lt (rr HO_7.out))) (Kd.R_lt (rr HO_447004.out))) (Kd.R_lt (rr HO482.out))) (below_size (bs2 HB GE418 GE446))); replace HO_4 := Aside0.mk (Kd.R_elder' (rr HO_4.out) (Kd.R_base ho0) hb); replace HO_7 := Aside0.mk (Kd.R_elder' (rr HO_7.out) (Kd.R_base ho0) hb); replace HO_447004 := Aside0.mk (Kd.R_elder' (rr HO_447004.out) (Kd.R_base ho0) hb); replace HO482 := Aside0.mk (Kd.R_elder' (rr HO482.out) (Kd.R_base ho0) hb); replace BK418 := nb BK418 hb; replace BK446 := nb BK446 hb; replace HB := Aside0.mk (below_step (bs2 HB GE418 GE446) hb); (try clear hb); (try clear hb2); (try clear hk); (try clear hi); (try clear ho0)))
           (try simp only [Act.put, List.setIfInBounds_toArray, List.set_cons_zero, List.set_cons_succ])
           go_cut [87] (fun v87 wc => ∃ (kq : Nat) (x87_70 : Bool), v87 = .bool x87_70 ∧ Aside0 (laws_FnExactOpenOf.j2 kq t470 t469 x87_70 = some r) ∧ Aside0 (kq ≤ kj42) ∧ Aside0 (Kd.R k71 71 wc w.heap.size (fun k_ => some k_ ≠ ((.slice Ao28 t467.length co28) : Value).ownBlock) (.slice Ao72 t447.length co72) t470) ∧ Aside0 (Kd.R k53 53 wc w.heap.size (fun k_ => some k_ ≠ ((.slice Ao27 t466.length co27) : Value).ownBlock) (.slice Ao26 t465.length co26) t465) ∧ Aside0 (Kd.R k53 53 wc w.heap.size (fun k_ => some k_ ≠ ((.slice Ao26 t465.length co26) : Value).ownBlock) (.slice Ao27 t466.length co27) t466) ∧ Aside0 (Kd.R k71 71 wc w.heap.size (fun k_ => some k_ ≠ ((.slice Ao72 t447.length co72) : Value).ownBlock) (.slice Ao28 t467.length co28) t467) ∧ Aside0 (wc.heap[gb418]? = some (.cells #[.int .i64 a0_0, (.slice A0_1 l0_1.length c0_1), (.slice A0_2 l0_2.length c0_2), .int .i64 a0_3, (.slice A0_4 l0_4.length c0_4)] 38 (0, 0))) ∧ Aside0 (wc.heap[gb446]? = some (.cells #[.int .i64 t435, (.slice Ao26 t465.length co26), (.slice Ao27 t466.length co27), .int .i64 t442, (.slice Ao28 t467.length co28)] 27 (0, 0))) ∧ Aside0 (Below w.heap.size w wc))
           case first =>
            have H := HC71.out
            clear HC71
            replace H := Option.bind_eq_some_iff.mp H
            obtain ⟨t487, A810, H⟩ := H
            replace H : (if t487 = true then (laws_FnExactOpenOf.j2 kj42 t470 t469 (t486 != t434)) else (laws_FnExactOpenOf.j2 kj42 t470 t469 true)) = some r := H
            have A81 := Aside0.mk A810
            clear A810
            by_cases c82 : t487 = true
            ·
             subst c82
             rw [if_pos rfl] at H
             have H' := Aside0.mk H
             clear H
             obtain ⟨Ao83, co83, eo83⟩ := Kd.R_slice HO485.out
             subst eo83
             obtain ⟨Ao84, co84, eo84⟩ := Kd.R_slice HO_4.out
             subst eo84
             go_wp2_with (first | ((with_reducible refine gate_callee (f := 20) rfl ?_); refine gL (some 81) rfl rfl Try.func20 (by kernel_rfl) rfl #[.slice Ao83 t483.length co83, .slice Ao84 t431.length co84] rfl ?_; (with_reducible refine (laws_eqItemS.calls kj42 _ _ t483 _ _ t431 true _ ?side1 ?side2 ?side3 ?side4 A81.out).mono ?_); (case side1 => exact rc0 HO485); (case side2 => exact (Kd.R_reads' HO485.out).2.1); (case side3 => exact rc0 HO_4); (case side4 => exact (Kd.R_reads' HO_4.out).2.1); rintro e w85 ⟨rfl, hb⟩; refine ⟨_, rfl, ?_⟩; replace HO_4 := nr HO_4 hb; replace HO_7 := nr HO_7 hb; replace HO_447001 := nr HO_447001 hb; replace HO_447002 := nr HO_447002 hb; replace HO_447004 := nr HO_447004 hb; replace HO475 := nr HO475 hb; replace HO478 := nr HO478 hb; replace HO482 := nr HO482 hb; replace HO485 := nr HO485 hb; replace BK418 := nb BK418 hb; replace BK446 := nb BK446 hb; replace HB := Aside0.mk (below_step (bs2 HB GE418 GE446) hb); (try clear hb); (try clear hb2); (try clear hk); (try clear hi)))
             go_meet
             case rel => exact ⟨_, ((t486 != t434)), (by first | rfl | (simp; done) | (simp [*]; done)), H', ⟨by have := HJ10.out; have := HJ42.out; first | omega | exact Nat.le_refl _⟩, ⟨by (try simp only [hl447001_42]); (try simp only [hl447002_42]); (try simp only [hl447004_42]); (with_reducible repeat (first | apply Kd.R_alloc | apply Kd.R_drewN | apply Kd.R_drew)); exact Kd.R_mono HO_7.out (fun _ hk => hk.1.1.2)⟩, ⟨by (try simp only [hl447001_42]); (try simp only [hl447002_42]); (try simp only [hl447004_42]); (with_reducible repeat (first | apply Kd.R_alloc | apply Kd.R_drewN | apply Kd.R_drew)); exact Kd.R_mono HO_447001.out (fun _ hk => hk.1.1)⟩, ⟨by (try simp only [hl447001_42]); (try simp only [hl447002_42]); (try simp only [hl447004_42]); (with_reducible repeat (first | apply Kd.R_alloc | apply Kd.R_drewN | apply Kd.R_drew)); exact Kd.R_mono HO_447002.out (fun _ hk => hk.1.1)⟩, ⟨by (try simp only [hl447001_42]); (try simp only [hl447002_42]); (try simp only [hl447004_42]); (with_reducible repeat (first | apply Kd.R_alloc | apply Kd.R_drewN | apply Kd.R_drew)); exact Kd.R_mono HO_447004.out (fun _ hk => hk.1.1.2)⟩, ⟨by (try simp only [hl447001_42]); (try simp only [hl447002_42]); (try simp only [hl447004_42]); (with_reducible repeat (first | refine blk_drewN ?_ _ | refine blk_drew ?_ | refine blk_alloc ?_ _)); exact BK418.out⟩, ⟨by (try simp only [hl447001_42]); (try simp only [hl447002_42]); (try simp only [hl447004_42]); (with_reducible repeat (first | refine blk_drewN ?_ _ | refine blk_drew ?_ | refine blk_alloc ?_ _)); exact BK446.out⟩, ⟨bs2 HB GE418 GE446⟩⟩
            ·
             replace c82 := Bool.eq_false_iff.mpr c82
             subst c82
             rw [if_neg (show ¬ (false = true) by decide)] at H
             have H' := Aside0.mk H
             clear H
             obtain ⟨Ao86, co86, eo86⟩ := Kd.R_slice HO485.out
             subst eo86
             obtain ⟨Ao87, co87, eo87⟩ := Kd.R_slice HO_4.out
             subst eo87
             go_wp2_with (first | ((with_reducible refine gate_callee (f := 20) rfl ?_); refine gL (some 81) rfl rfl Try.func20 (by kernel_rfl) rfl #[.slice Ao86 t483.length co86, .slice Ao87 t431.length co87] rfl ?_; (with_reducible refine (laws_eqItemS.calls kj42 _ _ t483 _ _ t431 false _ ?side1 ?side2 ?side3 ?side4 A81.out).mono ?_); (case side1 => exact rc0 HO485); (case side2 => exact (Kd.R_reads' HO485.out).2.1); (case side3 => exact rc0 HO_4); (case side4 => exact (Kd.R_reads' HO_4.out).2.1); rintro e w88 ⟨rfl, hb⟩; refine ⟨_, rfl, ?_⟩; replace HO_4 := nr HO_4 hb; replace HO_7 := nr HO_7 hb; replace HO_447001 := nr HO_447001 hb; replace HO_447002 := nr HO_447002 hb; replace HO_447004 := nr HO_447004 hb; replace HO475 := nr HO475 hb; replace HO478 := nr HO478 hb; replace HO482 := nr HO482 hb; replace HO485 := nr HO485 hb; replace BK418 := nb BK418 hb; replace BK446 := nb BK446 hb; replace HB := Aside0.mk (below_step (bs2 HB GE418 GE446) hb); (try clear hb); (try clear hb2); (try clear hk); (try clear hi)))
             go_meet
             case rel => exact ⟨_, (true), (by first | rfl | (simp; done) | (simp [*]; done)), H', ⟨by have := HJ10.out; have := HJ42.out; first | omega | exact Nat.le_refl _⟩, ⟨by (try simp only [hl447001_42]); (try simp only [hl447002_42]); (try simp only [hl447004_42]); (with_reducible repeat (first | apply Kd.R_alloc | apply Kd.R_drewN | apply Kd.R_drew)); exact Kd.R_mono HO_7.out (fun _ hk => hk.1.1.2)⟩, ⟨by (try simp only [hl447001_42]); (try simp only [hl447002_42]); (try simp only [hl447004_42]); (with_reducible repeat (first | apply Kd.R_alloc | apply Kd.R_drewN | apply Kd.R_drew)); exact Kd.R_mono HO_447001.out (fun _ hk => hk.1.1)⟩, ⟨by (try simp only [hl447001_42]); (try simp only [hl447002_42]); (try simp only [hl447004_42]); (with_reducible repeat (first | apply Kd.R_alloc | apply Kd.R_drewN | apply Kd.R_drew)); exact Kd.R_mono HO_447002.out (fun _ hk => hk.1.1)⟩, ⟨by (try simp only [hl447001_42]); (try simp only [hl447002_42]); (try simp only [hl447004_42]); (with_reducible repeat (first | apply Kd.R_alloc | apply Kd.R_drewN | apply Kd.R_drew)); exact Kd.R_mono HO_447004.out (fun _ hk => hk.1.1.2)⟩, ⟨by (try simp only [hl447001_42]); (try simp only [hl447002_42]); (try simp only [hl447004_42]); (with_reducible repeat (first | refine blk_drewN ?_ _ | refine blk_drew ?_ | refine blk_alloc ?_ _)); exact BK418.out⟩, ⟨by (try simp only [hl447001_42]); (try simp only [hl447002_42]); (try simp only [hl447004_42]); (with_reducible repeat (first | refine blk_drewN ?_ _ | refine blk_drew ?_ | refine blk_alloc ?_ _)); exact BK446.out⟩, ⟨bs2 HB GE418 GE446⟩⟩
           case rest =>
            clear HC71
            try clear c1
            try clear c2
            try clear p2
            try clear c3
            try clear c3b0
            try clear c4
            try clear c5
            try clear c6
            try clear c7
            try clear c8
            try clear c11
            try clear c12
            try clear c14
            try clear c16
            try clear c18
            try clear c19
            try clear c20
            try clear c21
            try clear c22
            try clear c24
            try clear c31
            try clear c38
            try clear c41
            try clear c50
            try clear c53
            try clear c53b0
            try clear c55
            try clear c62
            try clear c65
            try clear c65b0
            try clear c68
            try clear c68b0
            try clear c68b1
            try clear c74
            try clear c82
            try clear hcz13_0 hcz13_1 hcz13_2 hcz13_3 hcz13_4
            try clear hcz15_0 hcz15_1 hcz15_2 hcz15_3 hcz15_4
            try clear hcz21_0 hcz21_1 hcz21_2 hcz21_3 hcz21_4
            try clear hcz25_0 hcz25_1 hcz25_2 hcz25_3 hcz25_4
            try clear hcz51_0 hcz51_1 hcz51_2 hcz51_3 hcz51_4
            try clear hcz5_0 hcz5_1 hcz5_2 hcz5_3 hcz5_4
            try clear hcz75_0 hcz75_1 hcz75_2 hcz75_3 hcz75_4
            try clear hfz13_0 hfz13_1 hfz13_2 hfz13_3 hfz13_4
            try clear hfz15_0 hfz15_1 hfz15_2 hfz15_3 hfz15_4
            try clear hfz21_0 hfz21_1 hfz21_2 hfz21_3 hfz21_4
            try clear hfz25_0 hfz25_1 hfz25_2 hfz25_3 hfz25_4
            try clear hfz51_0 hfz51_1 hfz51_2 hfz51_3 hfz51_4
            try clear hfz5_0 hfz5_1 hfz5_2 hfz5_3 hfz5_4
            try clear hfz75_0 hfz75_1 hfz75_2 hfz75_3 hfz75_4
            try clear p2
            obtain ⟨kq, x87_70, rfl, HA, HJ70, HO_7, HO_447001, HO_447002, HO_447004, BK418, BK446, HB⟩ := hcut
            have hl7_70 := (Kd.R_reads' HO_7.out).1
            rw [hl7_70] at HO_7
            (try simp only [hl7_70])
            (try simp only [hl7_70] at BK418)
            (try simp only [hl7_70] at BK446)
            (try simp only [hl7_70] at HO_447001)
            (try simp only [hl7_70] at HO_447002)
            (try simp only [hl7_70] at HO_447004)
            cases kq with
            | zero => exact absurd HA.out (by simp [laws_FnExactOpenOf.j2])
            | succ kj70 =>
             have H := HA.out
             clear HA
             simp only [laws_FnExactOpenOf.j2] at H
             by_cases c89 : x87_70 = true
             ·
              subst c89
              rw [if_pos rfl] at H
              obtain rfl := Option.some.inj H
              go_wp2
              go_ret
              exact ⟨by first | rfl | (simp [errW_none, errW_some] <;> rfl) | (simp [*, errW_none, errW_some] <;> rfl), bs2 HB GE418 GE446⟩
             ·
              replace c89 := Bool.eq_false_iff.mpr c89
              subst c89
              rw [if_neg (show ¬ (false = true) by decide)] at H
              replace H := Option.bind_eq_some_iff.mp H
              obtain ⟨t488, A900, H⟩ := H
              replace H : (if t488 < 0 then (some false) else (if t488 = t469 then (some true) else (some false))) = some r := H
              have A90 := Aside0.mk A900
              clear A900
              by_cases c91 : t488 < 0
              ·
               rw [if_pos c91] at H
               have c91b0 : decide (t488 < 0) = true := decide_eq_true c91
               clear c91
               obtain rfl := Option.some.inj H
               go_wp2_with (first | ((with_reducible refine gate_callee (f := 22) rfl ?_); refine gL (some 90) rfl rfl Try.func22 (by kernel_rfl) rfl #[.slice Ao72 t470.length co72, .int .i64 1] rfl ?_; (with_reducible refine (laws_heldItemS.calls kj70 _ _ t470 1 t488 _ ?side1 ?side2 A90.out).mono ?_); (case side1 => exact rc0 HO_7); (case side2 => exact (Kd.R_reads' HO_7.out).2.1); rintro e w' ⟨rfl, ⟨nd, rfl⟩⟩; refine ⟨_, rfl, ?_⟩))
               go_ret
               exact ⟨by first | rfl | (simp [errW_none, errW_some] <;> rfl) | (simp [*, errW_none, errW_some] <;> rfl), bs2 HB GE418 GE446⟩
              ·
               rw [if_neg c91] at H
               have c91b0 : decide (t488 < 0) = false := decide_eq_false c91
               clear c91
               by_cases c92 : t488 = t469
               ·
                rw [if_pos c92] at H
                have c92b0 : (t488 == t469) = true := beq_iff_eq.mpr c92
                have c92b1 : (t488 != t469) = false := bne_eq_false_iff_eq.mpr c92
                clear c92
                obtain rfl := Option.some.inj H
                go_wp2_with (first | ((with_reducible refine gate_callee (f := 22) rfl ?_); refine gL (some 90) rfl rfl Try.func22 (by kernel_rfl) rfl #[.slice Ao72 t470.length co72, .int .i64 1] rfl ?_; (with_reducible refine (laws_heldItemS.calls kj70 _ _ t470 1 t488 _ ?side1 ?side2 A90.out).mono ?_); (case side1 => exact rc0 HO_7); (case side2 => exact (Kd.R_reads' HO_7.out).2.1); rintro e w' ⟨rfl, ⟨nd, rfl⟩⟩; refine ⟨_, rfl, ?_⟩))
                go_ret
                exact ⟨by first | rfl | (simp [errW_none, errW_some] <;> rfl) | (simp [*, errW_none, errW_some] <;> rfl), bs2 HB GE418 GE446⟩
               ·
                rw [if_neg c92] at H
                have c92b0 : (t488 == t469) = false := beq_eq_false_iff_ne.mpr c92
                have c92b1 : (t488 != t469) = true := bne_iff_ne.mpr c92
                obtain rfl := Option.some.inj H
                go_wp2_with (first | ((with_reducible refine gate_callee (f := 22) rfl ?_); refine gL (some 90) rfl rfl Try.func22 (by kernel_rfl) rfl #[.slice Ao72 t470.length co72, .int .i64 1] rfl ?_; (with_reducible refine (laws_heldItemS.calls kj70 _ _ t470 1 t488 _ ?side1 ?side2 A90.out).mono ?_); (case side1 => exact rc0 HO_7); (case side2 => exact (Kd.R_reads' HO_7.out).2.1); rintro e w' ⟨rfl, ⟨nd, rfl⟩⟩; refine ⟨_, rfl, ?_⟩))
                go_ret
                exact ⟨by first | rfl | (simp [errW_none, errW_some] <;> rfl) | (simp [*, errW_none, errW_some] <;> rfl), bs2 HB GE418 GE446⟩
          ·
           rw [if_neg c68] at H
           have c68b0 : (t471 == t469) = false := beq_eq_false_iff_ne.mpr c68
           have c68b1 : (t471 != t469) = true := bne_iff_ne.mpr c68
           obtain rfl := Option.some.inj H
           obtain ⟨Ao93, co93, eo93⟩ := Kd.R_slice HO_7.out
           subst eo93
           go_wp2_with (first | ((with_reducible refine gate_callee (f := 21) rfl ?_); refine gL (some 64) rfl rfl Try.func21 (by kernel_rfl) rfl #[.slice Ao93 t447.length co93, .int .i64 1] rfl ?_; (with_reducible refine (laws_markItemS.calls kj42 (fun k_ => some k_ = (.slice Ao93 t447.length co93 : Value).ownBlock) (.slice Ao93 t447.length co93) t447 1 t469 t470 w _ ?side1 ?side2 A63.out).mono ?_); (case side1 => repeat (first | (with_reducible first | exact HB.out | apply below_alloc | apply pw_below_drewN | apply below_drew1 | refine below_set ?_ GE418.out | refine below_set ?_ GE446.out) | exact HB.out)); (case side2 => exact Kd.R_tight rfl HO_7.out); rintro e w94 ⟨rfl, hy0, hb, hkp⟩; refine ⟨_, rfl, ?_⟩; replace HO_4 := Aside0.mk (Kd.R_mono (ok' := fun k_ => some k_ ≠ (.slice Ao93 t447.length co93 : Value).ownBlock ∧ some k_ ≠ (.slice Ao28 t467.length co28 : Value).ownBlock) (Kd.R_keptB (HO_4.out) hkp (fun k_ hk_ hs_ => (hk_.1) hs_)) (fun k_ hk_ => ⟨hk_.1.1, hk_.1.2⟩)); replace HO_447001 := Aside0.mk (Kd.R_mono (ok' := fun k_ => some k_ ≠ (.slice Ao27 t466.length co27 : Value).ownBlock) (Kd.R_keptB ((Kd.R_apart' HO_447001.out (Kd.R_typed HO_7.out) (by decide))) hkp (fun k_ hk_ hs_ => (hk_.2) hs_)) (fun k_ hk_ => hk_.1.1)); replace HO_447002 := Aside0.mk (Kd.R_mono (ok' := fun k_ => some k_ ≠ (.slice Ao26 t465.length co26 : Value).ownBlock) (Kd.R_keptB ((Kd.R_apart' HO_447002.out (Kd.R_typed HO_7.out) (by decide))) hkp (fun k_ hk_ hs_ => (hk_.2) hs_)) (fun k_ hk_ => hk_.1.1)); replace HO_447004 := Aside0.mk (Kd.R_mono (ok' := fun k_ => some k_ ≠ (v432 : Value).ownBlock ∧ some k_ ≠ (.slice Ao93 t447.length co93 : Value).ownBlock) (Kd.R_keptB (HO_447004.out) hkp (fun k_ hk_ hs_ => (hk_.2) hs_)) (fun k_ hk_ => ⟨hk_.1.1, hk_.1.2⟩)); replace BK418 := Aside0.mk (blk_kept (bk BK418) hkp (fun hs_ => (fun e_ => (Kd.R_ne HO_7.out BK418.out (by decide)) e_) hs_)); replace BK446 := Aside0.mk (blk_kept (bk BK446) hkp (fun hs_ => (fun e_ => (Kd.R_ne HO_7.out BK446.out (by decide)) e_) hs_)); replace HO_7 := Aside0.mk (Kd.R_reok rfl hy0 (fun k_ e_ => HO_7.out.1 k_ e_)); replace HB := Aside0.mk (hb); (try clear hb); (try clear hkp); (try clear hy0)) | ((with_reducible refine gate_callee (f := 22) rfl ?_); refine goesL_ (some 67) rfl rfl Try.func22 (by kernel_rfl) rfl #[.slice Ao93 t470.length co93, .int .i64 1] rfl (by (try simp only [List.map_toArray, List.map_cons, List.map_nil]); first | done | (rw [show t470.length = t447.length from (Kd.R_reads' HO_7.out).1.symm] <;> rfl) | rfl | (simp only [List.length_drop, List.length_take]; rfl)) ?_; (with_reducible refine (laws_heldItemS.calls kj42 _ _ t470 1 t471 _ ?side1 ?side2 A64.out).mono ?_); (case side1 => exact rc0 HO_7); (case side2 => rw [show t470.length = t447.length from (Kd.R_reads' HO_7.out).1.symm]; exact (Kd.R_reads' HO_7.out).2.1); rintro e w' ⟨rfl, ⟨nd, rfl⟩⟩; refine ⟨_, rfl, ?_⟩))
           go_ret
           exact ⟨by first | rfl | (simp [errW_none, errW_some] <;> rfl) | (simp [*, errW_none, errW_some] <;> rfl), bs2 HB GE418 GE446⟩
     ·
      replace c41 := Bool.eq_false_iff.mpr c41
      subst c41
      rw [if_neg (show ¬ (false = true) by decide)] at H
      obtain rfl := Option.some.inj H
      try go_wp2
      have n0_ := Aside0.mk (Kd.R_drew HO_4.out)
      have n1_ := Aside0.mk (Kd.R_drew HO_7.out)
      have n2_ := Aside0.mk (Kd.R_drew HO_447001.out)
      have n3_ := Aside0.mk (Kd.R_drew HO_447002.out)
      have n4_ := Aside0.mk (Kd.R_drew HO_447004.out)
      have n5_ := Aside0.mk (blk_drew BK418.out)
      have n6_ := Aside0.mk (blk_drew BK446.out)
      have n7_ := Aside0.mk (below_drew1 HB.out)
      clear HO_4
      clear HO_7
      clear HO_447001
      clear HO_447002
      clear HO_447004
      clear BK418
      clear BK446
      clear HB
      have HO_4 := n0_
      have HO_7 := n1_
      have HO_447001 := n2_
      have HO_447002 := n3_
      have HO_447004 := n4_
      have BK418 := n5_
      have BK446 := n6_
      have HB := n7_
      clear n0_ n1_ n2_ n3_ n4_ n5_ n6_ n7_
      refine start_ (n := 5) (S := fun w' => w'.cell? ⟨gb446, 0, none⟩ = some (.int .i64 t435) ∧ w'.cell? ⟨gb446, 1, none⟩ = some (.slice Ao26 t436.length co26) ∧ w'.cell? ⟨gb446, 2, none⟩ = some (.slice Ao27 t439.length co27) ∧ w'.cell? ⟨gb446, 3, none⟩ = some (.int .i64 t442) ∧ w'.cell? ⟨gb446, 4, none⟩ = some (.slice Ao28 t443.length co28) ∧ w'.cell? ⟨gb418, 0, none⟩ = some (.int .i64 a0_0) ∧ w'.cell? ⟨gb418, 1, none⟩ = some (.slice A0_1 l0_1.length c0_1) ∧ w'.cell? ⟨gb418, 2, none⟩ = some (.slice A0_2 l0_2.length c0_2) ∧ w'.cell? ⟨gb418, 3, none⟩ = some (.int .i64 a0_3) ∧ w'.cell? ⟨gb418, 4, none⟩ = some (.slice A0_4 l0_4.length c0_4)) (ds := []) #[false, false, false, false, false] (by kernel_rfl) rfl rfl ⟨(blk_cell BK446.out 0).trans rfl, (blk_cell BK446.out 1).trans rfl, (blk_cell BK446.out 2).trans rfl, (blk_cell BK446.out 3).trans rfl, (blk_cell BK446.out 4).trans rfl, (blk_cell BK418.out 0).trans rfl, (blk_cell BK418.out 1).trans rfl, (blk_cell BK418.out 2).trans rfl, (blk_cell BK418.out 3).trans rfl, (blk_cell BK418.out 4).trans rfl⟩ (fun hHeld => ?_)
      generalize wc.drew = w95 at HO_4 HO_7 HO_447001 HO_447002 HO_447004 BK418 BK446 HB hHeld ⊢
      refine take_ (i := 0) (N := some 41) (v := ?_) (a' := ?_) #[true, false, false, false, false] rfl rfl (by kernel_rfl) (fun _ _ _ h => h) (Or.inl ⟨by rfl, ?_⟩) hHeld ?_ ?_
      rotate_left
      ·
       rintro w' ⟨s0, s1, s2, s3, s4, s5, s6, s7, s8, s9⟩
       go_simp
       with_reducible rfl
      rotate_left
      ·
       simp only [Act.put, List.setIfInBounds_toArray, List.set_cons_zero, List.set_cons_succ, i64_w, i32_w]
       rfl
      refine take_ (i := 1) (N := some 42) (v := ?_) (a' := ?_) #[true, true, false, false, false] rfl rfl (by kernel_rfl) (fun _ _ _ h => h) (Or.inl ⟨by rfl, ?_⟩) hHeld ?_ ?_
      rotate_left
      ·
       rintro w' ⟨s0, s1, s2, s3, s4, s5, s6, s7, s8, s9⟩
       go_simp
       with_reducible rfl
      rotate_left
      ·
       simp only [Act.put, List.setIfInBounds_toArray, List.set_cons_zero, List.set_cons_succ, i64_w, i32_w]
       rfl
      refine one_ (i := 2) (N := some 43) #[true, true, true, false, false] rfl rfl (by kernel_rfl) (by decide) (fun K hK => ?_)
      refine goes_ Try.func16 (by kernel_rfl) rfl #[.agg #[.int .i64 a0_0, .slice A0_1 l0_1.length c0_1, .slice A0_2 l0_2.length c0_2, .int .i64 a0_3, .slice A0_4 l0_4.length c0_4]] (by rfl) rfl rfl (by (try simp only [List.map_toArray, List.map_cons, List.map_nil]); first | done | rfl | (simp only [List.length_drop, List.length_take]; rfl)) ?_
      with_reducible refine (laws_toWork.calls kj10 a0_0 _ _ l0_1 _ _ l0_2 a0_3 _ _ l0_4 t452 t453 t456 t459 t460 _ ?side1 ?side2 ?side3 ?side4 ?side5 ?side6 A39.out).mono ?_
      (case side1 => exact cb HR0_1 HB)
      (case side2 => exact HC0_1.out)
      (case side3 => exact cb HR0_2 HB)
      (case side4 => exact HC0_2.out)
      (case side5 => exact cb HR0_4 HB)
      (case side6 => exact HC0_4.out)
      rintro e w96 ⟨v454, v457, v461, rfl, ho0, ho1, ho2, hb⟩
      refine ⟨_, rfl, ?_⟩
      have n0_ := Aside0.mk (Kd.R_elder' (rr HO_4.out) (Kd.R_base ho2) hb)
      have n1_ := Aside0.mk (Kd.R_elder' (rr HO_7.out) (Kd.R_base ho2) hb)
      have n2_ := Aside0.mk (Kd.R_mono (Kd.R_told (Kd.R_told (Kd.R_old (rr HO_447001.out) hb) (Kd.R_base ho0)) (Kd.R_base ho1)) (fun _ h_ => h_.1))
      have n3_ := Aside0.mk (Kd.R_mono (Kd.R_told (Kd.R_told (Kd.R_old (rr HO_447002.out) hb) (Kd.R_base ho0)) (Kd.R_base ho1)) (fun _ h_ => h_.1))
      have n4_ := Aside0.mk (Kd.R_elder' (rr HO_447004.out) (Kd.R_base ho2) hb)
      have n5_ := Aside0.mk (Kd.R_lower (Kd.R_new' (Kd.R_new' ho0 (Kd.R_lt (rr HO_447001.out))) (Kd.R_lt (rr HO_447002.out))) (below_size (bs2 HB GE418 GE446)))
      have n6_ := Aside0.mk (Kd.R_lower (Kd.R_new' (Kd.R_new' ho1 (Kd.R_lt (rr HO_447001.out))) (Kd.R_lt (rr HO_447002.out))) (below_size (bs2 HB GE418 GE446)))
      have n7_ := Aside0.mk (Kd.R_lower (Kd.R_new' (Kd.R_new' (Kd.R_new' ho2 (Kd.R_lt (rr HO_4.out))) (Kd.R_lt (rr HO_7.out))) (Kd.R_lt (rr HO_447004.out))) (below_size (bs2 HB GE418 GE446)))
      have n8_ := Aside0.mk (bb BK418 hb)
      have n9_ := Aside0.mk (bb BK446 hb)
      have n10_ := Aside0.mk (below_step (bs2 HB GE418 GE446) hb)
      clear HO_4
      clear HO_7
      clear HO_447001
      clear HO_447002
      clear HO_447004
      clear BK418
      clear BK446
      clear HB
      have HO_4 := n0_
      have HO_7 := n1_
      have HO_447001 := n2_
      have HO_447002 := n3_
      have HO_447004 := n4_
      have HO455 := n5_
      have HO458 := n6_
      have HO462 := n7_
      have BK418 := n8_
      have BK446 := n9_
      have HB := n10_
      clear n0_ n1_ n2_ n3_ n4_ n5_ n6_ n7_ n8_ n9_ n10_
      (try clear hb)
      (try clear hb2)
      (try clear hk)
      (try clear hi)
      (try clear ho0)
      (try clear ho1)
      (try clear ho2)
      obtain ⟨Ao97, co97, eo97⟩ := Kd.R_slice HO455.out
      (first | subst eo97 | (injection eo97 with f1_ f2_ f3_; have f4_ := f1_.symm; have f5_ := f3_.symm; clear f1_ f2_ f3_; subst f4_; subst f5_))
      obtain ⟨Ao98, co98, eo98⟩ := Kd.R_slice HO458.out
      (first | subst eo98 | (injection eo98 with f1_ f2_ f3_; have f4_ := f1_.symm; have f5_ := f3_.symm; clear f1_ f2_ f3_; subst f4_; subst f5_))
      obtain ⟨Ao99, co99, eo99⟩ := Kd.R_slice HO462.out
      (first | subst eo99 | (injection eo99 with f1_ f2_ f3_; have f4_ := f1_.symm; have f5_ := f3_.symm; clear f1_ f2_ f3_; subst f4_; subst f5_))
      refine hK.out _ _ ⟨(blk_cell BK446.out 0).trans rfl, (blk_cell BK446.out 1).trans rfl, (blk_cell BK446.out 2).trans rfl, (blk_cell BK446.out 3).trans rfl, (blk_cell BK446.out 4).trans rfl, (blk_cell BK418.out 0).trans rfl, (blk_cell BK418.out 1).trans rfl, (blk_cell BK418.out 2).trans rfl, (blk_cell BK418.out 3).trans rfl, (blk_cell BK418.out 4).trans rfl⟩ (fun hHeld => ?_)
      clear hK K
      refine norm_ (a' := ?_) ?_ ?_
      rotate_left
      ·
       show Act.put _ (some 43) _ = _
       simp only [Act.put, List.setIfInBounds_toArray, List.set_cons_zero, List.set_cons_succ, i64_w, i32_w]
       rfl
      refine one_ (i := 3) (N := some 44) #[true, true, true, true, false] rfl rfl (by kernel_rfl) (by decide) (fun K hK => ?_)
      refine goes_ Try.func11 (by kernel_rfl) rfl #[.agg #[.int .i64 t435, .slice Ao26 t436.length co26, .slice Ao27 t439.length co27, .int .i64 t442, .slice Ao28 t443.length co28], .agg #[.int .i64 t452, .slice Ao97 t453.length co97, .slice Ao98 t456.length co98, .int .i64 t459, .slice Ao99 t460.length co99]] (by rfl) rfl rfl (by (try simp only [List.map_toArray, List.map_cons, List.map_nil]); first | done | rfl | (simp only [List.length_drop, List.length_take]; rfl)) ?_
      with_reducible refine (laws_eqWork.calls kj10 t435 _ _ t436 _ _ t439 t442 _ _ t443 t452 _ _ t453 _ _ t456 t459 _ _ t460 false _ ?side1 ?side2 ?side3 ?side4 ?side5 ?side6 ?side7 ?side8 ?side9 ?side10 ?side11 ?side12 A40.out).mono ?_
      (case side1 => exact rc0 HO_447001)
      (case side2 => exact (Kd.R_reads' HO_447001.out).2.1)
      (case side3 => exact rc0 HO_447002)
      (case side4 => exact (Kd.R_reads' HO_447002.out).2.1)
      (case side5 => exact rc0 HO_447004)
      (case side6 => exact (Kd.R_reads' HO_447004.out).2.1)
      (case side7 => exact rc0 HO455)
      (case side8 => exact (Kd.R_reads' HO455.out).2.1)
      (case side9 => exact rc0 HO458)
      (case side10 => exact (Kd.R_reads' HO458.out).2.1)
      (case side11 => exact rc0 HO462)
      (case side12 => exact (Kd.R_reads' HO462.out).2.1)
      rintro e w100 ⟨rfl, hb⟩
      refine ⟨_, rfl, ?_⟩
      have n0_ := Aside0.mk (Kd.R_below (rr HO_4.out) hb)
      have n1_ := Aside0.mk (Kd.R_below (rr HO_7.out) hb)
      have n2_ := Aside0.mk (Kd.R_below (rr HO_447001.out) hb)
      have n3_ := Aside0.mk (Kd.R_below (rr HO_447002.out) hb)
      have n4_ := Aside0.mk (Kd.R_below (rr HO_447004.out) hb)
      have n5_ := Aside0.mk (Kd.R_below (rr HO455.out) hb)
      have n6_ := Aside0.mk (Kd.R_below (rr HO458.out) hb)
      have n7_ := Aside0.mk (Kd.R_below (rr HO462.out) hb)
      have n8_ := Aside0.mk (bb BK418 hb)
      have n9_ := Aside0.mk (bb BK446 hb)
      have n10_ := Aside0.mk (below_step (bs2 HB GE418 GE446) hb)
      clear HO_4
      clear HO_7
      clear HO_447001
      clear HO_447002
      clear HO_447004
      clear HO455
      clear HO458
      clear HO462
      clear BK418
      clear BK446
      clear HB
      have HO_4 := n0_
      have HO_7 := n1_
      have HO_447001 := n2_
      have HO_447002 := n3_
      have HO_447004 := n4_
      have HO455 := n5_
      have HO458 := n6_
      have HO462 := n7_
      have BK418 := n8_
      have BK446 := n9_
      have HB := n10_
      clear n0_ n1_ n2_ n3_ n4_ n5_ n6_ n7_ n8_ n9_ n10_
      (try clear hb)
      (try clear hb2)
      (try clear hk)
      (try clear hi)
      refine hK.out _ _ ⟨(blk_cell BK446.out 0).trans rfl, (blk_cell BK446.out 1).trans rfl, (blk_cell BK446.out 2).trans rfl, (blk_cell BK446.out 3).trans rfl, (blk_cell BK446.out 4).trans rfl, (blk_cell BK418.out 0).trans rfl, (blk_cell BK418.out 1).trans rfl, (blk_cell BK418.out 2).trans rfl, (blk_cell BK418.out 3).trans rfl, (blk_cell BK418.out 4).trans rfl⟩ (fun hHeld => ?_)
      clear hK K
      refine norm_ (a' := ?_) ?_ ?_
      rotate_left
      ·
       show Act.put _ (some 44) _ = _
       simp only [Act.put, List.setIfInBounds_toArray, List.set_cons_zero, List.set_cons_succ, i64_w, i32_w]
       rfl
      refine pure_ (i := 4) (N := some 45) (v := ?_) (a' := ?_) #[true, true, true, true, true] rfl rfl (by kernel_rfl) (fun _ _ _ h => h) (Or.inl ⟨by rfl, ?_⟩) ?_ ?_
      rotate_left
      ·
       intro w'
       go_simp
       with_reducible rfl
      rotate_left
      ·
       simp only [Act.put, List.setIfInBounds_toArray, List.set_cons_zero, List.set_cons_succ, i64_w, i32_w]
       rfl
      refine done_ (by kernel_rfl) ?_
      try go_wp2
      go_ret
      exact ⟨by first | rfl | (simp [errW_none, errW_some] <;> rfl) | (simp [*, errW_none, errW_some] <;> rfl), bs2 HB GE418 GE446⟩

/-- THE ONE PURE STATEMENT of laws_FnExactOpenOf. -/
def laws_FnExactOpenOf.Pure : Prop := ∀ (a0_0 : Int) (l0_1 : List (S50)) (l0_2 : List (S50)) (a0_3 : Int) (l0_4 : List (S88)), ok38 (⟨(⟨a0_0, l0_1, l0_2⟩ : S35), a0_3, l0_4⟩ : S38) → ∃ k, laws_FnExactOpenOf.f k a0_0 l0_1 l0_2 a0_3 l0_4 = some true

end Go.Proofs.Ytakgjdckolllaaa.G
