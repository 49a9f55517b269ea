-- Printed by a program of this session (drive.py, by way of the kit's print). Not trusted: Lean checks it.
import Derived.Test.YtakgjdckolllaaaG0
import Derived.Test.YtakgjdckolllaaaG1
namespace Go.Proofs.Ytakgjdckolllaaa.G
open Go.RowKit Go.Proofs.YtakgjdckolllaaaW.PrintWords Go.Proofs.YtakgjdckolllaaaW.PrintLast Go.Proofs.YtakgjdckolllaaaW.PrintMore
attribute [local go_sem] max2_int min2_int max_two min_two max_three min_three max_four min_four   -- for this text's walks alone
set_option linter.unusedVariables false
set_option linter.unusedSimpArgs false

/-! ### laws_markItemS: function 21 -/
def laws_markItemS.l0 : Nat → List (S71) → Int → Int → Option (Int × (List (S71)))
 | 0, _, _, _ => none
 | k + 1, x0, x1, x5 => if x5 < (x0.length : Int) then (if 0 ≤ x5 then ((some (x0.set (x5 : Int).toNat (⟨x1, (rd_T71 x0 x5).f1, (⟨(rd_T71 x0 x5).f2.f0, (rd_T71 x0 x5).f2.f1⟩ : S53), (rd_T71 x0 x5).f3⟩ : S71) : List (S71))).bind fun y206 => ((some (y206.set (x5 : Int).toNat (⟨(rd_T71 y206 x5).f0, wrap64 (x1 + 1), (⟨(rd_T71 y206 x5).f2.f0, (rd_T71 y206 x5).f2.f1⟩ : S53), (rd_T71 y206 x5).f3⟩ : S71) : List (S71))).bind fun y207 => ((some (y207.set (x5 : Int).toNat (⟨(rd_T71 y207 x5).f0, (rd_T71 y207 x5).f1, (⟨wrap64 ((wrap64 (x1 + 1)) + 1), (rd_T71 y207 x5).f2.f1⟩ : S53), (rd_T71 y207 x5).f3⟩ : S71) : List (S71))).bind fun y208 => ((some (y208.set (x5 : Int).toNat (⟨(rd_T71 y208 x5).f0, (rd_T71 y208 x5).f1, (⟨(rd_T71 y208 x5).f2.f0, wrap64 ((wrap64 ((wrap64 (x1 + 1)) + 1)) + 1)⟩ : S53), (rd_T71 y208 x5).f3⟩ : S71) : List (S71))).bind fun y209 => (laws_markItemS.l0 k (y209.set (x5 : Int).toNat (⟨(rd_T71 y209 x5).f0, (rd_T71 y209 x5).f1, (⟨(rd_T71 y209 x5).f2.f0, (rd_T71 y209 x5).f2.f1⟩ : S53), wrap64 ((wrap64 ((wrap64 ((wrap64 (x1 + 1)) + 1)) + 1)) + 1)⟩ : S71)) (wrap64 ((wrap64 ((wrap64 ((wrap64 ((wrap64 (x1 + 1)) + 1)) + 1)) + 1)) + 1)) (wrap64 (x5 + 1))))))) else (none)) else (some (x1, x0))
def laws_markItemS.f (k : Nat) (l0 : List (S71)) (a1 : Int) : Option (Int × (List (S71))) := laws_markItemS.l0 k l0 a1 0
theorem laws_markItemS.mono_l : ∀ k, (∀ y0 y1 y2, LeO (laws_markItemS.l0 k y0 y1 y2) (laws_markItemS.l0 (k + 1) y0 y1 y2))
 | 0 => fun _ _ _ r h => by simp [laws_markItemS.l0] at h
 | k + 1 => by
  have ih0 := laws_markItemS.mono_l k
  ·
   intro y0 y1 y2
   unfold laws_markItemS.l0
   repeat' first
   | (with_reducible exact ih0 _ _ _)
   | (with_reducible exact LeO.refl _)
   | (with_reducible exact LeO.none _)
   | (with_reducible refine LeO.ite ?_ ?_)
   | (with_reducible refine LeO.bind ?_ (fun _ => ?_))
   | exact ih0 _ _ _
   | exact LeO.none _
   | refine LeO.ite ?_ ?_
   | refine LeO.bind ?_ (fun _ => ?_)
theorem laws_markItemS.mono : ∀ a0 a1 k, LeO (laws_markItemS.f k a0 a1) (laws_markItemS.f (k + 1) a0 a1) := by
 intro a0 a1 k
 have ih0 := laws_markItemS.mono_l k
 unfold laws_markItemS.f
 repeat' first
   | (with_reducible exact ih0 _ _ _)
   | (with_reducible exact LeO.refl _)
   | (with_reducible exact LeO.none _)
   | (with_reducible refine LeO.ite ?_ ?_)
   | (with_reducible refine LeO.bind ?_ (fun _ => ?_))
   | exact ih0 _ _ _
   | exact LeO.none _
   | refine LeO.ite ?_ ?_
   | refine LeO.bind ?_ (fun _ => ?_)
set_option maxHeartbeats 8000000 in
set_option maxRecDepth 100000 in
theorem laws_markItemS.calls (k : Nat) (P0_ : Nat → Prop) (u9000_ : Value) (l0 : List (S71)) (a1 : Int) (r1 : Int) (r2 : List (S71)) (w0 w : World) (hB : Below w0.heap.size w0 w) (ho0 : Kd.R k71 71 w w0.heap.size P0_ u9000_ l0) (h : laws_markItemS.f k l0 a1 = some (r1, r2)) :
  Calls Try.prog 21 #[u9000_, .int .i64 a1] w fun e w' => e = .returned (.int .i64 r1) ∧ Kd.R k71 71 w' w0.heap.size (fun k_ => (P0_ k_ ∨ w.heap.size ≤ k_)) u9000_ r2 ∧ Below w0.heap.size w0 w' ∧ Kept w w' (fun k_ => P0_ k_) := by
 have HO0 := Aside0.mk (show Kd.R k71 71 w w0.heap.size (fun k_ => (P0_ k_ ∨ w.heap.size ≤ k_)) u9000_ l0 from Kd.R_mono ho0 (fun k_ hk => (.inl hk)))
 have HK := Aside0.mk (Kept.refl w (fun k_ => P0_ k_))
 have HW0 := Aside0.mk hB.size
 have HB := Aside0.mk hB
 clear hB
 have H : (laws_markItemS.l0 k l0 a1 0) = some (r1, r2) := h
 clear h
 have H' := Aside0.mk H
 clear H
 go_enter Try.func21, Try.ntmps21
 go_wp2
 go_loopg [1, 5] k (fun kq v1 v5 w' => ∃ (x0_1 : List (S71)) (x1_1 : Int) (x5_1 : Int), v1 = .int .i64 x1_1 ∧ v5 = .int .i64 x5_1 ∧ Aside0 (laws_markItemS.l0 kq x0_1 x1_1 x5_1 = some (r1, r2)) ∧ Aside0 (kq ≤ k) ∧ Aside0 (Kd.R k71 71 w' w0.heap.size (fun k_ => (P0_ k_ ∨ w.heap.size ≤ k_)) u9000_ x0_1) ∧ Aside0 (Kept w w' (fun k_ => P0_ k_)) ∧ Aside0 (Below w0.heap.size w0 w'))
 case atStart => exact ⟨(l0), (a1), (0), (by first | rfl | (simp; done) | (simp [*]; done)), (by first | rfl | (simp; done) | (simp [*]; done)), H', ⟨Nat.le_refl _⟩, ⟨rr HO0.out⟩, ⟨by repeat (first | (with_reducible first | exact HK.out | apply Kept.alloc | apply Kept.drewN | apply Kept.drew) | exact HK.out)⟩, ⟨bs HB⟩⟩
 case round =>
  clear H'
  try clear c2
  try clear p2
  obtain ⟨x0_1, x1_1, x5_1, rfl, rfl, HA, HK1, HO_0, HK, HB⟩ := hrel
  cases gk with
  | zero => exact absurd HA.out (by simp [laws_markItemS.l0])
  | succ k1 =>
   have H := HA.out
   clear HA
   simp only [laws_markItemS.l0] at H
   by_cases c3 : x5_1 < (x0_1.length : Int)
   ·
    rw [if_pos c3] at H
    have c3b0 : decide (x5_1 < (x0_1.length : Int)) = true := decide_eq_true c3
    clear c3
    by_cases c4 : 0 ≤ x5_1
    ·
     rw [if_pos c4] at H
     have c4b0 : decide (0 ≤ x5_1) = true := decide_eq_true c4
     clear c4
     obtain ⟨y206, hy206⟩ : ∃ y_ : List (S71), y_ = (x0_1.set (x5_1 : Int).toNat (⟨x1_1, (rd_T71 x0_1 x5_1).f1, (⟨(rd_T71 x0_1 x5_1).f2.f0, (rd_T71 x0_1 x5_1).f2.f1⟩ : S53), (rd_T71 x0_1 x5_1).f3⟩ : S71)) := ⟨_, rfl⟩
     replace H : ((some (y206.set (x5_1 : Int).toNat (⟨(rd_T71 y206 x5_1).f0, wrap64 (x1_1 + 1), (⟨(rd_T71 y206 x5_1).f2.f0, (rd_T71 y206 x5_1).f2.f1⟩ : S53), (rd_T71 y206 x5_1).f3⟩ : S71) : List (S71))).bind fun y207 => ((some (y207.set (x5_1 : Int).toNat (⟨(rd_T71 y207 x5_1).f0, (rd_T71 y207 x5_1).f1, (⟨wrap64 ((wrap64 (x1_1 + 1)) + 1), (rd_T71 y207 x5_1).f2.f1⟩ : S53), (rd_T71 y207 x5_1).f3⟩ : S71) : List (S71))).bind fun y208 => ((some (y208.set (x5_1 : Int).toNat (⟨(rd_T71 y208 x5_1).f0, (rd_T71 y208 x5_1).f1, (⟨(rd_T71 y208 x5_1).f2.f0, wrap64 ((wrap64 ((wrap64 (x1_1 + 1)) + 1)) + 1)⟩ : S53), (rd_T71 y208 x5_1).f3⟩ : S71) : List (S71))).bind fun y209 => (laws_markItemS.l0 k1 (y209.set (x5_1 : Int).toNat (⟨(rd_T71 y209 x5_1).f0, (rd_T71 y209 x5_1).f1, (⟨(rd_T71 y209 x5_1).f2.f0, (rd_T71 y209 x5_1).f2.f1⟩ : S53), wrap64 ((wrap64 ((wrap64 ((wrap64 (x1_1 + 1)) + 1)) + 1)) + 1)⟩ : S71)) (wrap64 ((wrap64 ((wrap64 ((wrap64 ((wrap64 (x1_1 + 1)) + 1)) + 1)) + 1)) + 1)) (wrap64 (x5_1 + 1)))))) = some (r1, r2) := by first | (rw [hy206]; with_reducible exact H) | (have H2_ := (Option.bind_some _ _).symm.trans H; rw [hy206]; with_reducible exact H2_) | (have H2_ := (Option.bind_some _ _).symm.trans H; with_reducible exact H2_) | with_reducible exact H | (rw [hy206]; exact H) | exact H
     have Ny206 := Aside0.mk hy206
     clear hy206
     obtain ⟨y207, hy207⟩ : ∃ y_ : List (S71), y_ = (y206.set (x5_1 : Int).toNat (⟨(rd_T71 y206 x5_1).f0, wrap64 (x1_1 + 1), (⟨(rd_T71 y206 x5_1).f2.f0, (rd_T71 y206 x5_1).f2.f1⟩ : S53), (rd_T71 y206 x5_1).f3⟩ : S71)) := ⟨_, rfl⟩
     replace H : ((some (y207.set (x5_1 : Int).toNat (⟨(rd_T71 y207 x5_1).f0, (rd_T71 y207 x5_1).f1, (⟨wrap64 ((wrap64 (x1_1 + 1)) + 1), (rd_T71 y207 x5_1).f2.f1⟩ : S53), (rd_T71 y207 x5_1).f3⟩ : S71) : List (S71))).bind fun y208 => ((some (y208.set (x5_1 : Int).toNat (⟨(rd_T71 y208 x5_1).f0, (rd_T71 y208 x5_1).f1, (⟨(rd_T71 y208 x5_1).f2.f0, wrap64 ((wrap64 ((wrap64 (x1_1 + 1)) + 1)) + 1)⟩ : S53), (rd_T71 y208 x5_1).f3⟩ : S71) : List (S71))).bind fun y209 => (laws_markItemS.l0 k1 (y209.set (x5_1 : Int).toNat (⟨(rd_T71 y209 x5_1).f0, (rd_T71 y209 x5_1).f1, (⟨(rd_T71 y209 x5_1).f2.f0, (rd_T71 y209 x5_1).f2.f1⟩ : S53), wrap64 ((wrap64 ((wrap64 ((wrap64 (x1_1 + 1)) + 1)) + 1)) + 1)⟩ : S71)) (wrap64 ((wrap64 ((wrap64 ((wrap64 ((wrap64 (x1_1 + 1)) + 1)) + 1)) + 1)) + 1)) (wrap64 (x5_1 + 1))))) = some (r1, r2) := by first | (rw [hy207]; with_reducible exact H) | (have H2_ := (Option.bind_some _ _).symm.trans H; rw [hy207]; with_reducible exact H2_) | (have H2_ := (Option.bind_some _ _).symm.trans H; with_reducible exact H2_) | with_reducible exact H | (rw [hy207]; exact H) | exact H
     have Ny207 := Aside0.mk hy207
     clear hy207
     obtain ⟨y208, hy208⟩ : ∃ y_ : List (S71), y_ = (y207.set (x5_1 : Int).toNat (⟨(rd_T71 y207 x5_1).f0, (rd_T71 y207 x5_1).f1, (⟨wrap64 ((wrap64 (x1_1 + 1)) + 1), (rd_T71 y207 x5_1).f2.f1⟩ : S53), (rd_T71 y207 x5_1).f3⟩ : S71)) := ⟨_, rfl⟩
     replace H : ((some (y208.set (x5_1 : Int).toNat (⟨(rd_T71 y208 x5_1).f0, (rd_T71 y208 x5_1).f1, (⟨(rd_T71 y208 x5_1).f2.f0, wrap64 ((wrap64 ((wrap64 (x1_1 + 1)) + 1)) + 1)⟩ : S53), (rd_T71 y208 x5_1).f3⟩ : S71) : List (S71))).bind fun y209 => (laws_markItemS.l0 k1 (y209.set (x5_1 : Int).toNat (⟨(rd_T71 y209 x5_1).f0, (rd_T71 y209 x5_1).f1, (⟨(rd_T71 y209 x5_1).f2.f0, (rd_T71 y209 x5_1).f2.f1⟩ : S53), wrap64 ((wrap64 ((wrap64 ((wrap64 (x1_1 + 1)) + 1)) + 1)) + 1)⟩ : S71)) (wrap64 ((wrap64 ((wrap64 ((wrap64 ((wrap64 (x1_1 + 1)) + 1)) + 1)) + 1)) + 1)) (wrap64 (x5_1 + 1)))) = some (r1, r2) := by first | (rw [hy208]; with_reducible exact H) | (have H2_ := (Option.bind_some _ _).symm.trans H; rw [hy208]; with_reducible exact H2_) | (have H2_ := (Option.bind_some _ _).symm.trans H; with_reducible exact H2_) | with_reducible exact H | (rw [hy208]; exact H) | exact H
     have Ny208 := Aside0.mk hy208
     clear hy208
     obtain ⟨y209, hy209⟩ : ∃ y_ : List (S71), y_ = (y208.set (x5_1 : Int).toNat (⟨(rd_T71 y208 x5_1).f0, (rd_T71 y208 x5_1).f1, (⟨(rd_T71 y208 x5_1).f2.f0, wrap64 ((wrap64 ((wrap64 (x1_1 + 1)) + 1)) + 1)⟩ : S53), (rd_T71 y208 x5_1).f3⟩ : S71)) := ⟨_, rfl⟩
     replace H : (laws_markItemS.l0 k1 (y209.set (x5_1 : Int).toNat (⟨(rd_T71 y209 x5_1).f0, (rd_T71 y209 x5_1).f1, (⟨(rd_T71 y209 x5_1).f2.f0, (rd_T71 y209 x5_1).f2.f1⟩ : S53), wrap64 ((wrap64 ((wrap64 ((wrap64 (x1_1 + 1)) + 1)) + 1)) + 1)⟩ : S71)) (wrap64 ((wrap64 ((wrap64 ((wrap64 ((wrap64 (x1_1 + 1)) + 1)) + 1)) + 1)) + 1)) (wrap64 (x5_1 + 1))) = some (r1, r2) := by first | (rw [hy209]; with_reducible exact H) | (have H2_ := (Option.bind_some _ _).symm.trans H; rw [hy209]; with_reducible exact H2_) | (have H2_ := (Option.bind_some _ _).symm.trans H; with_reducible exact H2_) | with_reducible exact H | (rw [hy209]; exact H) | exact H
     have Ny209 := Aside0.mk hy209
     clear hy209
     obtain ⟨y210, hy210⟩ : ∃ y_ : List (S71), y_ = (y209.set (x5_1 : Int).toNat (⟨(rd_T71 y209 x5_1).f0, (rd_T71 y209 x5_1).f1, (⟨(rd_T71 y209 x5_1).f2.f0, (rd_T71 y209 x5_1).f2.f1⟩ : S53), wrap64 ((wrap64 ((wrap64 ((wrap64 (x1_1 + 1)) + 1)) + 1)) + 1)⟩ : S71)) := ⟨_, rfl⟩
     replace H : (laws_markItemS.l0 k1 y210 (wrap64 ((wrap64 ((wrap64 ((wrap64 ((wrap64 (x1_1 + 1)) + 1)) + 1)) + 1)) + 1)) (wrap64 (x5_1 + 1))) = some (r1, r2) := by first | (rw [hy210]; with_reducible exact H) | (have H2_ := (Option.bind_some _ _).symm.trans H; rw [hy210]; with_reducible exact H2_) | (have H2_ := (Option.bind_some _ _).symm.trans H; with_reducible exact H2_) | with_reducible exact H | (rw [hy210]; exact H) | exact H
     have Ny210 := Aside0.mk hy210
     clear hy210
     have H' := Aside0.mk H
     clear H
     obtain ⟨Ao10, co10, eo10⟩ := Kd.R_slice HO_0.out
     subst eo10
     have p5 : 0 ≤ (x5_1 : Int) := of_decide_eq_true (by first | (with_reducible assumption) | assumption)
     have q5 : (x5_1 : Int) < ((x0_1.length : Int) : Int) := of_decide_eq_true (by first | (with_reducible assumption) | assumption)
     obtain ⟨go5, co5, eo5, gb5, gl5, cl5, HG5⟩ := Kd.R_form HO_0.out (by omega)
     (first | cases eo5 | (injection eo5 with ea_ en_ ec_; (first | subst ea_ | (injection ea_ with ea_; subst ea_)); subst ec_; clear en_))
     have GB5 := Aside0.mk gb5
     have GG5 := Aside0.mk HG5
     clear gb5 gl5 HG5
     have HMgo5 := Aside0.mk (show (P0_ go5 ∨ w.heap.size ≤ go5) from (HO_0.out.1 _ rfl))
     obtain ⟨ce5, hcl5, hM5, hcc5, hfr5⟩ := Kd.R_elem HO_0.out z71 (x5_1 : Int) p5 q5
     obtain rfl := k71_openM hM5
     have hx5_0 : wr.cell? ⟨go5, (x5_1 : Int).toNat * 5, none⟩ = some (.int .i64 ((rd_T71 x0_1 x5_1).f0)) := hcc5 0 _ rfl
     have hx5_1 : wr.cell? ⟨go5, (x5_1 : Int).toNat * 5 + 1, none⟩ = some (.int .i64 ((rd_T71 x0_1 x5_1).f1)) := hcc5 1 _ rfl
     have hx5_2 : wr.cell? ⟨go5, (x5_1 : Int).toNat * 5 + 2, none⟩ = some (.int .i64 ((rd_T71 x0_1 x5_1).f2.f0)) := hcc5 2 _ rfl
     have hx5_3 : wr.cell? ⟨go5, (x5_1 : Int).toNat * 5 + 3, none⟩ = some (.int .i64 ((rd_T71 x0_1 x5_1).f2.f1)) := hcc5 3 _ rfl
     have hx5_4 : wr.cell? ⟨go5, (x5_1 : Int).toNat * 5 + 4, none⟩ = some (.int .i64 ((rd_T71 x0_1 x5_1).f3)) := hcc5 4 _ rfl
     have hf5_0 : wr.frozen? ⟨go5, (x5_1 : Int).toNat * 5, none⟩ = false := hfr5 0
     have hf5_1 : wr.frozen? ⟨go5, (x5_1 : Int).toNat * 5 + 1, none⟩ = false := hfr5 1
     have hf5_2 : wr.frozen? ⟨go5, (x5_1 : Int).toNat * 5 + 2, none⟩ = false := hfr5 2
     have hf5_3 : wr.frozen? ⟨go5, (x5_1 : Int).toNat * 5 + 3, none⟩ = false := hfr5 3
     have hf5_4 : wr.frozen? ⟨go5, (x5_1 : Int).toNat * 5 + 4, none⟩ = false := hfr5 4
     clear hcl5 hcc5 hfr5 hM5
     replace p5 := eq_true p5
     replace q5 := eq_true q5
     have HX11 := Aside0.mk (show Kd.R k71 71 wr w0.heap.size (fun k_ => (P0_ k_ ∨ w.heap.size ≤ k_)) (.slice (some ⟨go5, 0, none⟩) x0_1.length co10) x0_1 from (rr HO_0.out))
     obtain ⟨ce11, hcl11, hM11, hcc11, hfr11⟩ := Kd.R_elem HX11.out z71 (x5_1 : Int) (of_decide_eq_true (by first | (with_reducible assumption) | assumption)) (by have h_ : (x5_1 : Int) < ((x0_1.length : Int) : Int) := of_decide_eq_true (by first | (with_reducible assumption) | assumption); first | exact h_ | (have e_ := (Kd.R_reads' HO_0.out).1; omega) | simpa using h_)
     obtain rfl := k71_openM hM11
     have HP11 := Kd.R_seg HX11.out (x5_1 : Int) (of_decide_eq_true (by first | (with_reducible assumption) | assumption)) (by have h_ : (x5_1 : Int) < ((x0_1.length : Int) : Int) := of_decide_eq_true (by first | (with_reducible assumption) | assumption); first | exact h_ | (have e_ := (Kd.R_reads' HO_0.out).1; omega) | simpa using h_) (seg := [.int .i64 x1_1]) (j := 0) hcl11 hcc11 (show 1 ≤ 5 from by decide) (x' := (⟨x1_1, (rd_T71 x0_1 x5_1).f1, (⟨(rd_T71 x0_1 x5_1).f2.f0, (rd_T71 x0_1 x5_1).f2.f1⟩ : S53), (rd_T71 x0_1 x5_1).f3⟩ : S71)) (k71_mkM _ _ _ (⟨x1_1, (rd_T71 x0_1 x5_1).f1, (⟨(rd_T71 x0_1 x5_1).f2.f0, (rd_T71 x0_1 x5_1).f2.f1⟩ : S53), (rd_T71 x0_1 x5_1).f3⟩ : S71) ) (fun _ hk => hk)
     have hx11_0 := hcc11 0 _ rfl
     (try simp only [show (k71).sz = 5 from rfl, Nat.mul_one, Nat.add_zero] at hx11_0)
     have hf11_0 := hfr11 0
     (try simp only [show (k71).sz = 5 from rfl, Nat.mul_one, Nat.add_zero] at hf11_0)
     clear hcl11 hcc11 hfr11 hM11
     go_wp2_with (first | ((with_reducible refine gate_store (t := 3) (p := 16) rfl ?_); refine store_event (t := 3) (p := 16) (v := ?vo_w12) (w1 := (wr.setCell ⟨go5, (x5_1 : Int).toNat * 5, none⟩ (.int .i64 x1_1))) ?hg ?ho ?hn ?hr ?_; (case ho => rfl); (case hg => rfl); (case hn => rfl); (case hr => first | (go_simp; done) | (go_simp; rfl)); intro w12 hw; have hg : wr.grownBy w12 (some go5) := (by rw [hw]; exact HP11.2); have hp_ : Kd.R k71 71 w12 w0.heap.size (fun k_ => (P0_ k_ ∨ w.heap.size ≤ k_)) (.slice (some ⟨go5, 0, none⟩) x0_1.length co10) y206 := (by rw [hw, Ny206.out]; exact HP11.1); clear HP11; replace HB := Aside0.mk ((by rw [hw]; exact below_set (HB.out) GB5.out : Below w0.heap.size w0 w12)); replace HK := Aside0.mk (Kept.of_grown (S := (fun k_ => P0_ k_)) hg (by repeat (first | (with_reducible first | exact HK.out | apply Kept.alloc | apply Kept.drewN | apply Kept.drew) | exact HK.out)) (fun k_ e_ => (HO_0.out.1 k_ e_))); replace HO_0 := Aside0.mk (hp_); clear hg hw hp_; have p6 : 0 ≤ (x5_1 : Int) := of_decide_eq_true (by first | (with_reducible assumption) | assumption); have q6 : (x5_1 : Int) < ((x0_1.length : Int) : Int) := of_decide_eq_true (by first | (with_reducible assumption) | assumption); obtain ⟨ce6, hcl6, hM6, hcc6, hfr6⟩ := Kd.R_elem HO_0.out z71 (x5_1 : Int) p6 q6; obtain rfl := k71_openM hM6; have hx6_0 : w12.cell? ⟨go5, (x5_1 : Int).toNat * 5, none⟩ = some (.int .i64 ((rd_T71 y206 x5_1).f0)) := hcc6 0 _ rfl; have hx6_1 : w12.cell? ⟨go5, (x5_1 : Int).toNat * 5 + 1, none⟩ = some (.int .i64 ((rd_T71 y206 x5_1).f1)) := hcc6 1 _ rfl; have hx6_2 : w12.cell? ⟨go5, (x5_1 : Int).toNat * 5 + 2, none⟩ = some (.int .i64 ((rd_T71 y206 x5_1).f2.f0)) := hcc6 2 _ rfl; have hx6_3 : w12.cell? ⟨go5, (x5_1 : Int).toNat * 5 + 3, none⟩ = some (.int .i64 ((rd_T71 y206 x5_1).f2.f1)) := hcc6 3 _ rfl; have hx6_4 : w12.cell? ⟨go5, (x5_1 : Int).toNat * 5 + 4, none⟩ = some (.int .i64 ((rd_T71 y206 x5_1).f3)) := hcc6 4 _ rfl; have hf6_0 : w12.frozen? ⟨go5, (x5_1 : Int).toNat * 5, none⟩ = false := hfr6 0; have hf6_1 : w12.frozen? ⟨go5, (x5_1 : Int).toNat * 5 + 1, none⟩ = false := hfr6 1; have hf6_2 : w12.frozen? ⟨go5, (x5_1 : Int).toNat * 5 + 2, none⟩ = false := hfr6 2; have hf6_3 : w12.frozen? ⟨go5, (x5_1 : Int).toNat * 5 + 3, none⟩ = false := hfr6 3; have hf6_4 : w12.frozen? ⟨go5, (x5_1 : Int).toNat * 5 + 4, none⟩ = false := hfr6 4; clear hcl6 hcc6 hfr6 hM6; replace p6 := eq_true p6; replace q6 := eq_true q6; have HX13 := Aside0.mk (show Kd.R k71 71 w12 w0.heap.size (fun k_ => (P0_ k_ ∨ w.heap.size ≤ k_)) (.slice (some ⟨go5, 0, none⟩) x0_1.length co10) y206 from (rr HO_0.out)); obtain ⟨ce13, hcl13, hM13, hcc13, hfr13⟩ := Kd.R_elem HX13.out z71 (x5_1 : Int) (of_decide_eq_true (by first | (with_reducible assumption) | assumption)) (by have h_ : (x5_1 : Int) < ((x0_1.length : Int) : Int) := of_decide_eq_true (by first | (with_reducible assumption) | assumption); first | exact h_ | (have e_ := (Kd.R_reads' HO_0.out).1; omega) | simpa using h_); obtain rfl := k71_openM hM13; have HP13 := Kd.R_seg HX13.out (x5_1 : Int) (of_decide_eq_true (by first | (with_reducible assumption) | assumption)) (by have h_ : (x5_1 : Int) < ((x0_1.length : Int) : Int) := of_decide_eq_true (by first | (with_reducible assumption) | assumption); first | exact h_ | (have e_ := (Kd.R_reads' HO_0.out).1; omega) | simpa using h_) (seg := [.int .i64 (wrap64 (x1_1 + 1))]) (j := 1) hcl13 hcc13 (show 2 ≤ 5 from by decide) (x' := (⟨(rd_T71 y206 x5_1).f0, wrap64 (x1_1 + 1), (⟨(rd_T71 y206 x5_1).f2.f0, (rd_T71 y206 x5_1).f2.f1⟩ : S53), (rd_T71 y206 x5_1).f3⟩ : S71)) (k71_mkM _ _ _ (⟨(rd_T71 y206 x5_1).f0, wrap64 (x1_1 + 1), (⟨(rd_T71 y206 x5_1).f2.f0, (rd_T71 y206 x5_1).f2.f1⟩ : S53), (rd_T71 y206 x5_1).f3⟩ : S71) ) (fun _ hk => hk); have hx13_1 := hcc13 1 _ rfl; (try simp only [show (k71).sz = 5 from rfl, Nat.mul_one, Nat.add_zero] at hx13_1); have hf13_1 := hfr13 1; (try simp only [show (k71).sz = 5 from rfl, Nat.mul_one, Nat.add_zero] at hf13_1); clear hcl13 hcc13 hfr13 hM13) | ((with_reducible refine gate_store (t := 3) (p := 23) rfl ?_); refine store_event (t := 3) (p := 23) (v := ?vo_w14) (w1 := (w12.setCell ⟨go5, (x5_1 : Int).toNat * 5 + 1, none⟩ (.int .i64 (wrap64 (x1_1 + 1))))) ?hg ?ho ?hn ?hr ?_; (case ho => rfl); (case hg => rfl); (case hn => rfl); (case hr => first | (go_simp; done) | (go_simp; rfl)); intro w14 hw; have hg : w12.grownBy w14 (some go5) := (by rw [hw]; exact HP13.2); have hp_ : Kd.R k71 71 w14 w0.heap.size (fun k_ => (P0_ k_ ∨ w.heap.size ≤ k_)) (.slice (some ⟨go5, 0, none⟩) x0_1.length co10) y207 := (by rw [hw, Ny207.out]; exact HP13.1); clear HP13; replace HB := Aside0.mk ((by rw [hw]; exact below_set (HB.out) GB5.out : Below w0.heap.size w0 w14)); replace HK := Aside0.mk (Kept.of_grown (S := (fun k_ => P0_ k_)) hg (by repeat (first | (with_reducible first | exact HK.out | apply Kept.alloc | apply Kept.drewN | apply Kept.drew) | exact HK.out)) (fun k_ e_ => (HO_0.out.1 k_ e_))); replace HO_0 := Aside0.mk (hp_); clear hg hw hp_; have p7 : 0 ≤ (x5_1 : Int) := of_decide_eq_true (by first | (with_reducible assumption) | assumption); have q7 : (x5_1 : Int) < ((x0_1.length : Int) : Int) := of_decide_eq_true (by first | (with_reducible assumption) | assumption); obtain ⟨ce7, hcl7, hM7, hcc7, hfr7⟩ := Kd.R_elem HO_0.out z71 (x5_1 : Int) p7 q7; obtain rfl := k71_openM hM7; have hx7_0 : w14.cell? ⟨go5, (x5_1 : Int).toNat * 5, none⟩ = some (.int .i64 ((rd_T71 y207 x5_1).f0)) := hcc7 0 _ rfl; have hx7_1 : w14.cell? ⟨go5, (x5_1 : Int).toNat * 5 + 1, none⟩ = some (.int .i64 ((rd_T71 y207 x5_1).f1)) := hcc7 1 _ rfl; have hx7_2 : w14.cell? ⟨go5, (x5_1 : Int).toNat * 5 + 2, none⟩ = some (.int .i64 ((rd_T71 y207 x5_1).f2.f0)) := hcc7 2 _ rfl; have hx7_3 : w14.cell? ⟨go5, (x5_1 : Int).toNat * 5 + 3, none⟩ = some (.int .i64 ((rd_T71 y207 x5_1).f2.f1)) := hcc7 3 _ rfl; have hx7_4 : w14.cell? ⟨go5, (x5_1 : Int).toNat * 5 + 4, none⟩ = some (.int .i64 ((rd_T71 y207 x5_1).f3)) := hcc7 4 _ rfl; have hf7_0 : w14.frozen? ⟨go5, (x5_1 : Int).toNat * 5, none⟩ = false := hfr7 0; have hf7_1 : w14.frozen? ⟨go5, (x5_1 : Int).toNat * 5 + 1, none⟩ = false := hfr7 1; have hf7_2 : w14.frozen? ⟨go5, (x5_1 : Int).toNat * 5 + 2, none⟩ = false := hfr7 2; have hf7_3 : w14.frozen? ⟨go5, (x5_1 : Int).toNat * 5 + 3, none⟩ = false := hfr7 3; have hf7_4 : w14.frozen? ⟨go5, (x5_1 : Int).toNat * 5 + 4, none⟩ = false := hfr7 4; clear hcl7 hcc7 hfr7 hM7; replace p7 := eq_true p7; replace q7 := eq_true q7; have HX15 := Aside0.mk (show Kd.R k71 71 w14 w0.heap.size (fun k_ => (P0_ k_ ∨ w.heap.size ≤ k_)) (.slice (some ⟨go5, 0, none⟩) x0_1.length co10) y207 from (rr HO_0.out)); obtain ⟨ce15, hcl15, hM15, hcc15, hfr15⟩ := Kd.R_elem HX15.out z71 (x5_1 : Int) (of_decide_eq_true (by first | (with_reducible assumption) | assumption)) (by have h_ : (x5_1 : Int) < ((x0_1.length : Int) : Int) := of_decide_eq_true (by first | (with_reducible assumption) | assumption); first | exact h_ | (have e_ := (Kd.R_reads' HO_0.out).1; omega) | simpa using h_); obtain rfl := k71_openM hM15; have HP15 := Kd.R_seg HX15.out (x5_1 : Int) (of_decide_eq_true (by first | (with_reducible assumption) | assumption)) (by have h_ : (x5_1 : Int) < ((x0_1.length : Int) : Int) := of_decide_eq_true (by first | (with_reducible assumption) | assumption); first | exact h_ | (have e_ := (Kd.R_reads' HO_0.out).1; omega) | simpa using h_) (seg := [.int .i64 (wrap64 ((wrap64 (x1_1 + 1)) + 1))]) (j := 2) hcl15 hcc15 (show 3 ≤ 5 from by decide) (x' := (⟨(rd_T71 y207 x5_1).f0, (rd_T71 y207 x5_1).f1, (⟨wrap64 ((wrap64 (x1_1 + 1)) + 1), (rd_T71 y207 x5_1).f2.f1⟩ : S53), (rd_T71 y207 x5_1).f3⟩ : S71)) (k71_mkM _ _ _ (⟨(rd_T71 y207 x5_1).f0, (rd_T71 y207 x5_1).f1, (⟨wrap64 ((wrap64 (x1_1 + 1)) + 1), (rd_T71 y207 x5_1).f2.f1⟩ : S53), (rd_T71 y207 x5_1).f3⟩ : S71) ) (fun _ hk => hk); have hx15_2 := hcc15 2 _ rfl; (try simp only [show (k71).sz = 5 from rfl, Nat.mul_one, Nat.add_zero] at hx15_2); have hf15_2 := hfr15 2; (try simp only [show (k71).sz = 5 from rfl, Nat.mul_one, Nat.add_zero] at hf15_2); clear hcl15 hcc15 hfr15 hM15) | ((with_reducible refine gate_store (t := 3) (p := 31) rfl ?_); refine store_event (t := 3) (p := 31) (v := ?vo_w16) (w1 := (w14.setCell ⟨go5, (x5_1 : Int).toNat * 5 + 2, none⟩ (.int .i64 (wrap64 ((wrap64 (x1_1 + 1)) + 1))))) ?hg ?ho ?hn ?hr ?_; (case ho => rfl); (case hg => rfl); (case hn => rfl); (case hr => first | (go_simp; done) | (go_simp; rfl)); intro w16 hw; have hg : w14.grownBy w16 (some go5) := (by rw [hw]; exact HP15.2); have hp_ : Kd.R k71 71 w16 w0.heap.size (fun k_ => (P0_ k_ ∨ w.heap.size ≤ k_)) (.slice (some ⟨go5, 0, none⟩) x0_1.length co10) y208 := (by rw [hw, Ny208.out]; exact HP15.1); clear HP15; replace HB := Aside0.mk ((by rw [hw]; exact below_set (HB.out) GB5.out : Below w0.heap.size w0 w16)); replace HK := Aside0.mk (Kept.of_grown (S := (fun k_ => P0_ k_)) hg (by repeat (first | (with_reducible first | exact HK.out | apply Kept.alloc | apply Kept.drewN | apply Kept.drew) | exact HK.out)) (fun k_ e_ => (HO_0.out.1 k_ e_))); replace HO_0 := Aside0.mk (hp_); clear hg hw hp_; have p8 : 0 ≤ (x5_1 : Int) := of_decide_eq_true (by first | (with_reducible assumption) | assumption); have q8 : (x5_1 : Int) < ((x0_1.length : Int) : Int) := of_decide_eq_true (by first | (with_reducible assumption) | assumption); obtain ⟨ce8, hcl8, hM8, hcc8, hfr8⟩ := Kd.R_elem HO_0.out z71 (x5_1 : Int) p8 q8; obtain rfl := k71_openM hM8; have hx8_0 : w16.cell? ⟨go5, (x5_1 : Int).toNat * 5, none⟩ = some (.int .i64 ((rd_T71 y208 x5_1).f0)) := hcc8 0 _ rfl; have hx8_1 : w16.cell? ⟨go5, (x5_1 : Int).toNat * 5 + 1, none⟩ = some (.int .i64 ((rd_T71 y208 x5_1).f1)) := hcc8 1 _ rfl; have hx8_2 : w16.cell? ⟨go5, (x5_1 : Int).toNat * 5 + 2, none⟩ = some (.int .i64 ((rd_T71 y208 x5_1).f2.f0)) := hcc8 2 _ rfl; have hx8_3 : w16.cell? ⟨go5, (x5_1 : Int).toNat * 5 + 3, none⟩ = some (.int .i64 ((rd_T71 y208 x5_1).f2.f1)) := hcc8 3 _ rfl; have hx8_4 : w16.cell? ⟨go5, (x5_1 : Int).toNat * 5 + 4, none⟩ = some (.int .i64 ((rd_T71 y208 x5_1).f3)) := hcc8 4 _ rfl; have hf8_0 : w16.frozen? ⟨go5, (x5_1 : Int).toNat * 5, none⟩ = false := hfr8 0; have hf8_1 : w16.frozen? ⟨go5, (x5_1 : Int).toNat * 5 + 1, none⟩ = false := hfr8 1; have hf8_2 : w16.frozen? ⟨go5, (x5_1 : Int).toNat * 5 + 2, none⟩ = false := hfr8 2; have hf8_3 : w16.frozen? ⟨go5, (x5_1 : Int).toNat * 5 + 3, none⟩ = false := hfr8 3; have hf8_4 : w16.frozen? ⟨go5, (x5_1 : Int).toNat * 5 + 4, none⟩ = false := hfr8 4; clear hcl8 hcc8 hfr8 hM8; replace p8 := eq_true p8; replace q8 := eq_true q8; have HX17 := Aside0.mk (show Kd.R k71 71 w16 w0.heap.size (fun k_ => (P0_ k_ ∨ w.heap.size ≤ k_)) (.slice (some ⟨go5, 0, none⟩) x0_1.length co10) y208 from (rr HO_0.out)); obtain ⟨ce17, hcl17, hM17, hcc17, hfr17⟩ := Kd.R_elem HX17.out z71 (x5_1 : Int) (of_decide_eq_true (by first | (with_reducible assumption) | assumption)) (by have h_ : (x5_1 : Int) < ((x0_1.length : Int) : Int) := of_decide_eq_true (by first | (with_reducible assumption) | assumption); first | exact h_ | (have e_ := (Kd.R_reads' HO_0.out).1; omega) | simpa using h_); obtain rfl := k71_openM hM17; have HP17 := Kd.R_seg HX17.out (x5_1 : Int) (of_decide_eq_true (by first | (with_reducible assumption) | assumption)) (by have h_ : (x5_1 : Int) < ((x0_1.length : Int) : Int) := of_decide_eq_true (by first | (with_reducible assumption) | assumption); first | exact h_ | (have e_ := (Kd.R_reads' HO_0.out).1; omega) | simpa using h_) (seg := [.int .i64 (wrap64 ((wrap64 ((wrap64 (x1_1 + 1)) + 1)) + 1))]) (j := 3) hcl17 hcc17 (show 4 ≤ 5 from by decide) (x' := (⟨(rd_T71 y208 x5_1).f0, (rd_T71 y208 x5_1).f1, (⟨(rd_T71 y208 x5_1).f2.f0, wrap64 ((wrap64 ((wrap64 (x1_1 + 1)) + 1)) + 1)⟩ : S53), (rd_T71 y208 x5_1).f3⟩ : S71)) (k71_mkM _ _ _ (⟨(rd_T71 y208 x5_1).f0, (rd_T71 y208 x5_1).f1, (⟨(rd_T71 y208 x5_1).f2.f0, wrap64 ((wrap64 ((wrap64 (x1_1 + 1)) + 1)) + 1)⟩ : S53), (rd_T71 y208 x5_1).f3⟩ : S71) ) (fun _ hk => hk); have hx17_3 := hcc17 3 _ rfl; (try simp only [show (k71).sz = 5 from rfl, Nat.mul_one, Nat.add_zero] at hx17_3); have hf17_3 := hfr17 3; (try simp only [show (k71).sz = 5 from rfl, Nat.mul_one, Nat.add_zero] at hf17_3); clear hcl17 hcc17 hfr17 hM17) | ((with_reducible refine gate_store (t := 3) (p := 39) rfl ?_); refine store_event (t := 3) (p := 39) (v := ?vo_w18) (w1 := (w16.setCell ⟨go5, (x5_1 : Int).toNat * 5 + 3, none⟩ (.int .i64 (wrap64 ((wrap64 ((wrap64 (x1_1 + 1)) + 1)) + 1))))) ?hg ?ho ?hn ?hr ?_; (case ho => rfl); (case hg => rfl); (case hn => rfl); (case hr => first | (go_simp; done) | (go_simp; rfl)); intro w18 hw; have hg : w16.grownBy w18 (some go5) := (by rw [hw]; exact HP17.2); have hp_ : Kd.R k71 71 w18 w0.heap.size (fun k_ => (P0_ k_ ∨ w.heap.size ≤ k_)) (.slice (some ⟨go5, 0, none⟩) x0_1.length co10) y209 := (by rw [hw, Ny209.out]; exact HP17.1); clear HP17; replace HB := Aside0.mk ((by rw [hw]; exact below_set (HB.out) GB5.out : Below w0.heap.size w0 w18)); replace HK := Aside0.mk (Kept.of_grown (S := (fun k_ => P0_ k_)) hg (by repeat (first | (with_reducible first | exact HK.out | apply Kept.alloc | apply Kept.drewN | apply Kept.drew) | exact HK.out)) (fun k_ e_ => (HO_0.out.1 k_ e_))); replace HO_0 := Aside0.mk (hp_); clear hg hw hp_; have p9 : 0 ≤ (x5_1 : Int) := of_decide_eq_true (by first | (with_reducible assumption) | assumption); have q9 : (x5_1 : Int) < ((x0_1.length : Int) : Int) := of_decide_eq_true (by first | (with_reducible assumption) | assumption); obtain ⟨ce9, hcl9, hM9, hcc9, hfr9⟩ := Kd.R_elem HO_0.out z71 (x5_1 : Int) p9 q9; obtain rfl := k71_openM hM9; have hx9_0 : w18.cell? ⟨go5, (x5_1 : Int).toNat * 5, none⟩ = some (.int .i64 ((rd_T71 y209 x5_1).f0)) := hcc9 0 _ rfl; have hx9_1 : w18.cell? ⟨go5, (x5_1 : Int).toNat * 5 + 1, none⟩ = some (.int .i64 ((rd_T71 y209 x5_1).f1)) := hcc9 1 _ rfl; have hx9_2 : w18.cell? ⟨go5, (x5_1 : Int).toNat * 5 + 2, none⟩ = some (.int .i64 ((rd_T71 y209 x5_1).f2.f0)) := hcc9 2 _ rfl; have hx9_3 : w18.cell? ⟨go5, (x5_1 : Int).toNat * 5 + 3, none⟩ = some (.int .i64 ((rd_T71 y209 x5_1).f2.f1)) := hcc9 3 _ rfl; have hx9_4 : w18.cell? ⟨go5, (x5_1 : Int).toNat * 5 + 4, none⟩ = some (.int .i64 ((rd_T71 y209 x5_1).f3)) := hcc9 4 _ rfl; have hf9_0 : w18.frozen? ⟨go5, (x5_1 : Int).toNat * 5, none⟩ = false := hfr9 0; have hf9_1 : w18.frozen? ⟨go5, (x5_1 : Int).toNat * 5 + 1, none⟩ = false := hfr9 1; have hf9_2 : w18.frozen? ⟨go5, (x5_1 : Int).toNat * 5 + 2, none⟩ = false := hfr9 2; have hf9_3 : w18.frozen? ⟨go5, (x5_1 : Int).toNat * 5 + 3, none⟩ = false := hfr9 3; have hf9_4 : w18.frozen? ⟨go5, (x5_1 : Int).toNat * 5 + 4, none⟩ = false := hfr9 4; clear hcl9 hcc9 hfr9 hM9; replace p9 := eq_true p9; replace q9 := eq_true q9; have HX19 := Aside0.mk (show Kd.R k71 71 w18 w0.heap.size (fun k_ => (P0_ k_ ∨ w.heap.size ≤ k_)) (.slice (some ⟨go5, 0, none⟩) x0_1.length co10) y209 from (rr HO_0.out)); obtain ⟨ce19, hcl19, hM19, hcc19, hfr19⟩ := Kd.R_elem HX19.out z71 (x5_1 : Int) (of_decide_eq_true (by first | (with_reducible assumption) | assumption)) (by have h_ : (x5_1 : Int) < ((x0_1.length : Int) : Int) := of_decide_eq_true (by first | (with_reducible assumption) | assumption); first | exact h_ | (have e_ := (Kd.R_reads' HO_0.out).1; omega) | simpa using h_); obtain rfl := k71_openM hM19; have HP19 := Kd.R_seg HX19.out (x5_1 : Int) (of_decide_eq_true (by first | (with_reducible assumption) | assumption)) (by have h_ : (x5_1 : Int) < ((x0_1.length : Int) : Int) := of_decide_eq_true (by first | (with_reducible assumption) | assumption); first | exact h_ | (have e_ := (Kd.R_reads' HO_0.out).1; omega) | simpa using h_) (seg := [.int .i64 (wrap64 ((wrap64 ((wrap64 ((wrap64 (x1_1 + 1)) + 1)) + 1)) + 1))]) (j := 4) hcl19 hcc19 (show 5 ≤ 5 from by decide) (x' := (⟨(rd_T71 y209 x5_1).f0, (rd_T71 y209 x5_1).f1, (⟨(rd_T71 y209 x5_1).f2.f0, (rd_T71 y209 x5_1).f2.f1⟩ : S53), wrap64 ((wrap64 ((wrap64 ((wrap64 (x1_1 + 1)) + 1)) + 1)) + 1)⟩ : S71)) (k71_mkM _ _ _ (⟨(rd_T71 y209 x5_1).f0, (rd_T71 y209 x5_1).f1, (⟨(rd_T71 y209 x5_1).f2.f0, (rd_T71 y209 x5_1).f2.f1⟩ : S53), wrap64 ((wrap64 ((wrap64 ((wrap64 (x1_1 + 1)) + 1)) + 1)) + 1)⟩ : S71) ) (fun _ hk => hk); have hx19_4 := hcc19 4 _ rfl; (try simp only [show (k71).sz = 5 from rfl, Nat.mul_one, Nat.add_zero] at hx19_4); have hf19_4 := hfr19 4; (try simp only [show (k71).sz = 5 from rfl, Nat.mul_one, Nat.add_zero] at hf19_4); clear hcl19 hcc19 hfr19 hM19) | ((with_reducible refine gate_store (t := 3) (p := 46) rfl ?_); refine store_event (t := 3) (p := 46) (v := ?vo_w20) (w1 := (w18.setCell ⟨go5, (x5_1 : Int).toNat * 5 + 4, none⟩ (.int .i64 (wrap64 ((wrap64 ((wrap64 ((wrap64 (x1_1 + 1)) + 1)) + 1)) + 1))))) ?hg ?ho ?hn ?hr ?_; (case ho => rfl); (case hg => rfl); (case hn => rfl); (case hr => first | (go_simp; done) | (go_simp; rfl)); intro w20 hw; have hg : w18.grownBy w20 (some go5) := (by rw [hw]; exact HP19.2); have hp_ : Kd.R k71 71 w20 w0.heap.size (fun k_ => (P0_ k_ ∨ w.heap.size ≤ k_)) (.slice (some ⟨go5, 0, none⟩) x0_1.length co10) y210 := (by rw [hw, Ny210.out]; exact HP19.1); clear HP19; replace HB := Aside0.mk ((by rw [hw]; exact below_set (HB.out) GB5.out : Below w0.heap.size w0 w20)); replace HK := Aside0.mk (Kept.of_grown (S := (fun k_ => P0_ k_)) hg (by repeat (first | (with_reducible first | exact HK.out | apply Kept.alloc | apply Kept.drewN | apply Kept.drew) | exact HK.out)) (fun k_ e_ => (HO_0.out.1 k_ e_))); replace HO_0 := Aside0.mk (hp_); clear hg hw hp_))
     go_roundg k1
     case measure => have := HK1.out; omega
     case rel => exact ⟨(y210), (wrap64 ((wrap64 ((wrap64 ((wrap64 ((wrap64 (x1_1 + 1)) + 1)) + 1)) + 1)) + 1)), (wrap64 (x5_1 + 1)), (by first | rfl | (simp; done) | (simp [*]; done)), (by first | rfl | (simp; done) | (simp [*]; done)), H', ⟨by have := HK1.out; omega⟩, ⟨rr HO_0.out⟩, ⟨by repeat (first | (with_reducible first | exact HK.out | apply Kept.alloc | apply Kept.drewN | apply Kept.drew) | exact HK.out)⟩, ⟨bs HB⟩⟩
    ·
     rw [if_neg c4] at H
     exact absurd H (by simp)
   ·
    rw [if_neg c3] at H
    have c3b0 : decide (x5_1 < (x0_1.length : Int)) = false := decide_eq_false c3
    clear c3
    simp only [Option.some.injEq, Prod.mk.injEq] at H
    obtain ⟨rfl, rfl⟩ := H
    obtain ⟨Ao21, co21, eo21⟩ := Kd.R_slice HO_0.out
    subst eo21
    go_wp2
    go_ret
    exact ⟨by first | rfl | (simp [errW_none, errW_some] <;> rfl) | (simp [*, errW_none, errW_some] <;> rfl), by (with_reducible repeat (first | apply Kd.R_alloc | apply Kd.R_drewN | apply Kd.R_drew)); exact HO_0.out, bs HB, by repeat (first | (with_reducible first | exact HK.out | apply Kept.alloc | apply Kept.drewN | apply Kept.drew) | exact HK.out)⟩

/-! ### laws_markExtentS: function 55 -/
def laws_markExtentS.l0 : Nat → List (S53) → Int → Int → Option (Int × (List (S53)))
 | 0, _, _, _ => none
 | k + 1, x0, x1, x5 => if x5 < (x0.length : Int) then (if 0 ≤ x5 then ((some (x0.set (x5 : Int).toNat (⟨x1, (rd_T53 x0 x5).f1⟩ : S53) : List (S53))).bind fun y211 => (laws_markExtentS.l0 k (y211.set (x5 : Int).toNat (⟨(rd_T53 y211 x5).f0, wrap64 (x1 + 1)⟩ : S53)) (wrap64 ((wrap64 (x1 + 1)) + 1)) (wrap64 (x5 + 1)))) else (none)) else (some (x1, x0))
def laws_markExtentS.f (k : Nat) (l0 : List (S53)) (a1 : Int) : Option (Int × (List (S53))) := laws_markExtentS.l0 k l0 a1 0
theorem laws_markExtentS.mono_l : ∀ k, (∀ y0 y1 y2, LeO (laws_markExtentS.l0 k y0 y1 y2) (laws_markExtentS.l0 (k + 1) y0 y1 y2))
 | 0 => fun _ _ _ r h => by simp [laws_markExtentS.l0] at h
 | k + 1 => by
  have ih0 := laws_markExtentS.mono_l k
  ·
   intro y0 y1 y2
   unfold laws_markExtentS.l0
   repeat' first
   | (with_reducible exact ih0 _ _ _)
   | (with_reducible exact LeO.refl _)
   | (with_reducible exact LeO.none _)
   | (with_reducible refine LeO.ite ?_ ?_)
   | (with_reducible refine LeO.bind ?_ (fun _ => ?_))
   | exact ih0 _ _ _
   | exact LeO.none _
   | refine LeO.ite ?_ ?_
   | refine LeO.bind ?_ (fun _ => ?_)
theorem laws_markExtentS.mono : ∀ a0 a1 k, LeO (laws_markExtentS.f k a0 a1) (laws_markExtentS.f (k + 1) a0 a1) := by
 intro a0 a1 k
 have ih0 := laws_markExtentS.mono_l k
 unfold laws_markExtentS.f
 repeat' first
   | (with_reducible exact ih0 _ _ _)
   | (with_reducible exact LeO.refl _)
   | (with_reducible exact LeO.none _)
   | (with_reducible refine LeO.ite ?_ ?_)
   | (with_reducible refine LeO.bind ?_ (fun _ => ?_))
   | exact ih0 _ _ _
   | exact LeO.none _
   | refine LeO.ite ?_ ?_
   | refine LeO.bind ?_ (fun _ => ?_)
set_option maxHeartbeats 8000000 in
set_option maxRecDepth 100000 in
theorem laws_markExtentS.calls (k : Nat) (P0_ : Nat → Prop) (u9000_ : Value) (l0 : List (S53)) (a1 : Int) (r1 : Int) (r2 : List (S53)) (w0 w : World) (hB : Below w0.heap.size w0 w) (ho0 : Kd.R k53 53 w w0.heap.size P0_ u9000_ l0) (h : laws_markExtentS.f k l0 a1 = some (r1, r2)) :
  Calls Try.prog 55 #[u9000_, .int .i64 a1] w fun e w' => e = .returned (.int .i64 r1) ∧ Kd.R k53 53 w' w0.heap.size (fun k_ => (P0_ k_ ∨ w.heap.size ≤ k_)) u9000_ r2 ∧ Below w0.heap.size w0 w' ∧ Kept w w' (fun k_ => P0_ k_) := by
 have HO0 := Aside0.mk (show Kd.R k53 53 w w0.heap.size (fun k_ => (P0_ k_ ∨ w.heap.size ≤ k_)) u9000_ l0 from Kd.R_mono ho0 (fun k_ hk => (.inl hk)))
 have HK := Aside0.mk (Kept.refl w (fun k_ => P0_ k_))
 have HW0 := Aside0.mk hB.size
 have HB := Aside0.mk hB
 clear hB
 have H : (laws_markExtentS.l0 k l0 a1 0) = some (r1, r2) := h
 clear h
 have H' := Aside0.mk H
 clear H
 go_enter Try.func55, Try.ntmps55
 go_wp2
 go_loopg [1, 5] k (fun kq v1 v5 w' => ∃ (x0_1 : List (S53)) (x1_1 : Int) (x5_1 : Int), v1 = .int .i64 x1_1 ∧ v5 = .int .i64 x5_1 ∧ Aside0 (laws_markExtentS.l0 kq x0_1 x1_1 x5_1 = some (r1, r2)) ∧ Aside0 (kq ≤ k) ∧ Aside0 (Kd.R k53 53 w' w0.heap.size (fun k_ => (P0_ k_ ∨ w.heap.size ≤ k_)) u9000_ x0_1) ∧ Aside0 (Kept w w' (fun k_ => P0_ k_)) ∧ Aside0 (Below w0.heap.size w0 w'))
 case atStart => exact ⟨(l0), (a1), (0), (by first | rfl | (simp; done) | (simp [*]; done)), (by first | rfl | (simp; done) | (simp [*]; done)), H', ⟨Nat.le_refl _⟩, ⟨rr HO0.out⟩, ⟨by repeat (first | (with_reducible first | exact HK.out | apply Kept.alloc | apply Kept.drewN | apply Kept.drew) | exact HK.out)⟩, ⟨bs HB⟩⟩
 case round =>
  clear H'
  try clear p2
  obtain ⟨x0_1, x1_1, x5_1, rfl, rfl, HA, HK1, HO_0, HK, HB⟩ := hrel
  cases gk with
  | zero => exact absurd HA.out (by simp [laws_markExtentS.l0])
  | succ k1 =>
   have H := HA.out
   clear HA
   simp only [laws_markExtentS.l0] at H
   by_cases c3 : x5_1 < (x0_1.length : Int)
   ·
    rw [if_pos c3] at H
    have c3b0 : decide (x5_1 < (x0_1.length : Int)) = true := decide_eq_true c3
    clear c3
    by_cases c4 : 0 ≤ x5_1
    ·
     rw [if_pos c4] at H
     have c4b0 : decide (0 ≤ x5_1) = true := decide_eq_true c4
     clear c4
     obtain ⟨y211, hy211⟩ : ∃ y_ : List (S53), y_ = (x0_1.set (x5_1 : Int).toNat (⟨x1_1, (rd_T53 x0_1 x5_1).f1⟩ : S53)) := ⟨_, rfl⟩
     replace H : (laws_markExtentS.l0 k1 (y211.set (x5_1 : Int).toNat (⟨(rd_T53 y211 x5_1).f0, wrap64 (x1_1 + 1)⟩ : S53)) (wrap64 ((wrap64 (x1_1 + 1)) + 1)) (wrap64 (x5_1 + 1))) = some (r1, r2) := by first | (rw [hy211]; with_reducible exact H) | (have H2_ := (Option.bind_some _ _).symm.trans H; rw [hy211]; with_reducible exact H2_) | (have H2_ := (Option.bind_some _ _).symm.trans H; with_reducible exact H2_) | with_reducible exact H | (rw [hy211]; exact H) | exact H
     have Ny211 := Aside0.mk hy211
     clear hy211
     obtain ⟨y212, hy212⟩ : ∃ y_ : List (S53), y_ = (y211.set (x5_1 : Int).toNat (⟨(rd_T53 y211 x5_1).f0, wrap64 (x1_1 + 1)⟩ : S53)) := ⟨_, rfl⟩
     replace H : (laws_markExtentS.l0 k1 y212 (wrap64 ((wrap64 (x1_1 + 1)) + 1)) (wrap64 (x5_1 + 1))) = some (r1, r2) := by first | (rw [hy212]; with_reducible exact H) | (have H2_ := (Option.bind_some _ _).symm.trans H; rw [hy212]; with_reducible exact H2_) | (have H2_ := (Option.bind_some _ _).symm.trans H; with_reducible exact H2_) | with_reducible exact H | (rw [hy212]; exact H) | exact H
     have Ny212 := Aside0.mk hy212
     clear hy212
     have H' := Aside0.mk H
     clear H
     obtain ⟨Ao7, co7, eo7⟩ := Kd.R_slice HO_0.out
     subst eo7
     have p5 : 0 ≤ (x5_1 : Int) := of_decide_eq_true (by first | (with_reducible assumption) | assumption)
     have q5 : (x5_1 : Int) < ((x0_1.length : Int) : Int) := of_decide_eq_true (by first | (with_reducible assumption) | assumption)
     obtain ⟨go5, co5, eo5, gb5, gl5, cl5, HG5⟩ := Kd.R_form HO_0.out (by omega)
     (first | cases eo5 | (injection eo5 with ea_ en_ ec_; (first | subst ea_ | (injection ea_ with ea_; subst ea_)); subst ec_; clear en_))
     have GB5 := Aside0.mk gb5
     have GG5 := Aside0.mk HG5
     clear gb5 gl5 HG5
     have HMgo5 := Aside0.mk (show (P0_ go5 ∨ w.heap.size ≤ go5) from (HO_0.out.1 _ rfl))
     obtain ⟨ce5, hcl5, hM5, hcc5, hfr5⟩ := Kd.R_elem HO_0.out z53 (x5_1 : Int) p5 q5
     obtain rfl := k53_openM hM5
     have hx5_0 : wr.cell? ⟨go5, (x5_1 : Int).toNat * 2, none⟩ = some (.int .i64 ((rd_T53 x0_1 x5_1).f0)) := hcc5 0 _ rfl
     have hx5_1 : wr.cell? ⟨go5, (x5_1 : Int).toNat * 2 + 1, none⟩ = some (.int .i64 ((rd_T53 x0_1 x5_1).f1)) := hcc5 1 _ rfl
     have hf5_0 : wr.frozen? ⟨go5, (x5_1 : Int).toNat * 2, none⟩ = false := hfr5 0
     have hf5_1 : wr.frozen? ⟨go5, (x5_1 : Int).toNat * 2 + 1, none⟩ = false := hfr5 1
     clear hcl5 hcc5 hfr5 hM5
     replace p5 := eq_true p5
     replace q5 := eq_true q5
     have HX8 := Aside0.mk (show Kd.R k53 53 wr w0.heap.size (fun k_ => (P0_ k_ ∨ w.heap.size ≤ k_)) (.slice (some ⟨go5, 0, none⟩) x0_1.length co7) x0_1 from (rr HO_0.out))
     obtain ⟨ce8, hcl8, hM8, hcc8, hfr8⟩ := Kd.R_elem HX8.out z53 (x5_1 : Int) (of_decide_eq_true (by first | (with_reducible assumption) | assumption)) (by have h_ : (x5_1 : Int) < ((x0_1.length : Int) : Int) := of_decide_eq_true (by first | (with_reducible assumption) | assumption); first | exact h_ | (have e_ := (Kd.R_reads' HO_0.out).1; omega) | simpa using h_)
     obtain rfl := k53_openM hM8
     have HP8 := Kd.R_seg HX8.out (x5_1 : Int) (of_decide_eq_true (by first | (with_reducible assumption) | assumption)) (by have h_ : (x5_1 : Int) < ((x0_1.length : Int) : Int) := of_decide_eq_true (by first | (with_reducible assumption) | assumption); first | exact h_ | (have e_ := (Kd.R_reads' HO_0.out).1; omega) | simpa using h_) (seg := [.int .i64 x1_1]) (j := 0) hcl8 hcc8 (show 1 ≤ 2 from by decide) (x' := (⟨x1_1, (rd_T53 x0_1 x5_1).f1⟩ : S53)) (k53_mkM _ _ _ (⟨x1_1, (rd_T53 x0_1 x5_1).f1⟩ : S53) ) (fun _ hk => hk)
     have hx8_0 := hcc8 0 _ rfl
     (try simp only [show (k53).sz = 2 from rfl, Nat.mul_one, Nat.add_zero] at hx8_0)
     have hf8_0 := hfr8 0
     (try simp only [show (k53).sz = 2 from rfl, Nat.mul_one, Nat.add_zero] at hf8_0)
     clear hcl8 hcc8 hfr8 hM8
     go_wp2_with (first | ((with_reducible refine gate_store (t := 3) (p := 16) rfl ?_); refine store_event (t := 3) (p := 16) (v := ?vo_w9) (w1 := (wr.setCell ⟨go5, (x5_1 : Int).toNat * 2, none⟩ (.int .i64 x1_1))) ?hg ?ho ?hn ?hr ?_; (case ho => rfl); (case hg => rfl); (case hn => rfl); (case hr => first | (go_simp; done) | (go_simp; rfl)); intro w9 hw; have hg : wr.grownBy w9 (some go5) := (by rw [hw]; exact HP8.2); have hp_ : Kd.R k53 53 w9 w0.heap.size (fun k_ => (P0_ k_ ∨ w.heap.size ≤ k_)) (.slice (some ⟨go5, 0, none⟩) x0_1.length co7) y211 := (by rw [hw, Ny211.out]; exact HP8.1); clear HP8; replace HB := Aside0.mk ((by rw [hw]; exact below_set (HB.out) GB5.out : Below w0.heap.size w0 w9)); replace HK := Aside0.mk (Kept.of_grown (S := (fun k_ => P0_ k_)) hg (by repeat (first | (with_reducible first | exact HK.out | apply Kept.alloc | apply Kept.drewN | apply Kept.drew) | exact HK.out)) (fun k_ e_ => (HO_0.out.1 k_ e_))); replace HO_0 := Aside0.mk (hp_); clear hg hw hp_; have p6 : 0 ≤ (x5_1 : Int) := of_decide_eq_true (by first | (with_reducible assumption) | assumption); have q6 : (x5_1 : Int) < ((x0_1.length : Int) : Int) := of_decide_eq_true (by first | (with_reducible assumption) | assumption); obtain ⟨ce6, hcl6, hM6, hcc6, hfr6⟩ := Kd.R_elem HO_0.out z53 (x5_1 : Int) p6 q6; obtain rfl := k53_openM hM6; have hx6_0 : w9.cell? ⟨go5, (x5_1 : Int).toNat * 2, none⟩ = some (.int .i64 ((rd_T53 y211 x5_1).f0)) := hcc6 0 _ rfl; have hx6_1 : w9.cell? ⟨go5, (x5_1 : Int).toNat * 2 + 1, none⟩ = some (.int .i64 ((rd_T53 y211 x5_1).f1)) := hcc6 1 _ rfl; have hf6_0 : w9.frozen? ⟨go5, (x5_1 : Int).toNat * 2, none⟩ = false := hfr6 0; have hf6_1 : w9.frozen? ⟨go5, (x5_1 : Int).toNat * 2 + 1, none⟩ = false := hfr6 1; clear hcl6 hcc6 hfr6 hM6; replace p6 := eq_true p6; replace q6 := eq_true q6; have HX10 := Aside0.mk (show Kd.R k53 53 w9 w0.heap.size (fun k_ => (P0_ k_ ∨ w.heap.size ≤ k_)) (.slice (some ⟨go5, 0, none⟩) x0_1.length co7) y211 from (rr HO_0.out)); obtain ⟨ce10, hcl10, hM10, hcc10, hfr10⟩ := Kd.R_elem HX10.out z53 (x5_1 : Int) (of_decide_eq_true (by first | (with_reducible assumption) | assumption)) (by have h_ : (x5_1 : Int) < ((x0_1.length : Int) : Int) := of_decide_eq_true (by first | (with_reducible assumption) | assumption); first | exact h_ | (have e_ := (Kd.R_reads' HO_0.out).1; omega) | simpa using h_); obtain rfl := k53_openM hM10; have HP10 := Kd.R_seg HX10.out (x5_1 : Int) (of_decide_eq_true (by first | (with_reducible assumption) | assumption)) (by have h_ : (x5_1 : Int) < ((x0_1.length : Int) : Int) := of_decide_eq_true (by first | (with_reducible assumption) | assumption); first | exact h_ | (have e_ := (Kd.R_reads' HO_0.out).1; omega) | simpa using h_) (seg := [.int .i64 (wrap64 (x1_1 + 1))]) (j := 1) hcl10 hcc10 (show 2 ≤ 2 from by decide) (x' := (⟨(rd_T53 y211 x5_1).f0, wrap64 (x1_1 + 1)⟩ : S53)) (k53_mkM _ _ _ (⟨(rd_T53 y211 x5_1).f0, wrap64 (x1_1 + 1)⟩ : S53) ) (fun _ hk => hk); have hx10_1 := hcc10 1 _ rfl; (try simp only [show (k53).sz = 2 from rfl, Nat.mul_one, Nat.add_zero] at hx10_1); have hf10_1 := hfr10 1; (try simp only [show (k53).sz = 2 from rfl, Nat.mul_one, Nat.add_zero] at hf10_1); clear hcl10 hcc10 hfr10 hM10) | ((with_reducible refine gate_store (t := 3) (p := 23) rfl ?_); refine store_event (t := 3) (p := 23) (v := ?vo_w11) (w1 := (w9.setCell ⟨go5, (x5_1 : Int).toNat * 2 + 1, none⟩ (.int .i64 (wrap64 (x1_1 + 1))))) ?hg ?ho ?hn ?hr ?_; (case ho => rfl); (case hg => rfl); (case hn => rfl); (case hr => first | (go_simp; done) | (go_simp; rfl)); intro w11 hw; have hg : w9.grownBy w11 (some go5) := (by rw [hw]; exact HP10.2); have hp_ : Kd.R k53 53 w11 w0.heap.size (fun k_ => (P0_ k_ ∨ w.heap.size ≤ k_)) (.slice (some ⟨go5, 0, none⟩) x0_1.length co7) y212 := (by rw [hw, Ny212.out]; exact HP10.1); clear HP10; replace HB := Aside0.mk ((by rw [hw]; exact below_set (HB.out) GB5.out : Below w0.heap.size w0 w11)); replace HK := Aside0.mk (Kept.of_grown (S := (fun k_ => P0_ k_)) hg (by repeat (first | (with_reducible first | exact HK.out | apply Kept.alloc | apply Kept.drewN | apply Kept.drew) | exact HK.out)) (fun k_ e_ => (HO_0.out.1 k_ e_))); replace HO_0 := Aside0.mk (hp_); clear hg hw hp_))
     go_roundg k1
     case measure => have := HK1.out; omega
     case rel => exact ⟨(y212), (wrap64 ((wrap64 (x1_1 + 1)) + 1)), (wrap64 (x5_1 + 1)), (by first | rfl | (simp; done) | (simp [*]; done)), (by first | rfl | (simp; done) | (simp [*]; done)), H', ⟨by have := HK1.out; omega⟩, ⟨rr HO_0.out⟩, ⟨by repeat (first | (with_reducible first | exact HK.out | apply Kept.alloc | apply Kept.drewN | apply Kept.drew) | exact HK.out)⟩, ⟨bs HB⟩⟩
    ·
     rw [if_neg c4] at H
     exact absurd H (by simp)
   ·
    rw [if_neg c3] at H
    have c3b0 : decide (x5_1 < (x0_1.length : Int)) = false := decide_eq_false c3
    clear c3
    simp only [Option.some.injEq, Prod.mk.injEq] at H
    obtain ⟨rfl, rfl⟩ := H
    obtain ⟨Ao12, co12, eo12⟩ := Kd.R_slice HO_0.out
    subst eo12
    go_wp2
    go_ret
    exact ⟨by first | rfl | (simp [errW_none, errW_some] <;> rfl) | (simp [*, errW_none, errW_some] <;> rfl), by (with_reducible repeat (first | apply Kd.R_alloc | apply Kd.R_drewN | apply Kd.R_drew)); exact HO_0.out, bs HB, by repeat (first | (with_reducible first | exact HK.out | apply Kept.alloc | apply Kept.drewN | apply Kept.drew) | exact HK.out)⟩

/-! ### laws_markFree: function 35 -/
def laws_markFree.f (k : Nat) (a0_0 : Int) (l0_1 : List (S53)) (l0_2 : List (S53)) (a1 : Int) : Option (Int × (List (S53)) × (List (S53))) := (laws_markExtentS.f k l0_1 a1).bind fun bt214 => ((laws_markExtentS.f k l0_2 bt214.1).bind fun bt216 => (some (bt216.1, bt214.2, bt216.2)))
theorem laws_markFree.mono : ∀ a0 a1 a2 a3 k, LeO (laws_markFree.f k a0 a1 a2 a3) (laws_markFree.f (k + 1) a0 a1 a2 a3) := by
 intro a0 a1 a2 a3 k
 unfold laws_markFree.f
 repeat' first
   | (with_reducible exact laws_markExtentS.mono _ _ _)
   | (with_reducible exact LeO.refl _)
   | (with_reducible exact LeO.none _)
   | (with_reducible refine LeO.ite ?_ ?_)
   | (with_reducible refine LeO.bind ?_ (fun _ => ?_))
   | exact laws_markExtentS.mono _ _ _
   | exact LeO.none _
   | refine LeO.ite ?_ ?_
   | refine LeO.bind ?_ (fun _ => ?_)
set_option maxHeartbeats 8000000 in
set_option maxRecDepth 100000 in
theorem laws_markFree.calls (k : Nat) (a0_0 : Int) (P0_1_ : Nat → Prop) (u9000_ : Value) (l0_1 : List (S53)) (P0_2_ : Nat → Prop) (u9001_ : Value) (l0_2 : List (S53)) (a1 : Int) (r1 : Int) (r2 : List (S53)) (r3 : List (S53)) (w0 w : World) (hB : Below w0.heap.size w0 w) (ho0_1 : Kd.R k53 53 w w0.heap.size P0_1_ u9000_ l0_1) (hp0_1_0_2 : ∀ k_, P0_1_ k_ → ¬ P0_2_ k_) (ho0_2 : Kd.R k53 53 w w0.heap.size P0_2_ u9001_ l0_2) (hp0_2_0_1 : ∀ k_, P0_2_ k_ → ¬ P0_1_ k_) (h : laws_markFree.f k a0_0 l0_1 l0_2 a1 = some (r1, r2, r3)) :
  Calls Try.prog 35 #[.agg #[.int .i64 a0_0, u9000_, u9001_], .int .i64 a1] w fun e w' => e = .returned (.int .i64 r1) ∧ Kd.R k53 53 w' w0.heap.size (fun k_ => ((P0_1_ k_ ∨ P0_2_ k_) ∨ w.heap.size ≤ k_)) u9000_ r2 ∧ Kd.R k53 53 w' w0.heap.size (fun k_ => ((P0_1_ k_ ∨ P0_2_ k_) ∨ w.heap.size ≤ k_)) u9001_ r3 ∧ Below w0.heap.size w0 w' ∧ Kept w w' (fun k_ => P0_1_ k_ ∨ P0_2_ k_) := by
 have hu24 := Try.underlying24
 have HO0_1 := Aside0.mk (show Kd.R k53 53 w w0.heap.size (fun k_ => ((P0_1_ k_ ∨ P0_2_ k_) ∨ w.heap.size ≤ k_) ∧ some k_ ≠ (u9001_ : Value).ownBlock) u9000_ l0_1 from Kd.R_mono ho0_1 (fun k_ hk => ⟨(.inl (.inl hk)), fun e_ => hp0_1_0_2 k_ hk (ho0_2.1 k_ e_.symm)⟩))
 have HO0_2 := Aside0.mk (show Kd.R k53 53 w w0.heap.size (fun k_ => ((P0_1_ k_ ∨ P0_2_ k_) ∨ w.heap.size ≤ k_) ∧ some k_ ≠ (u9000_ : Value).ownBlock) u9001_ l0_2 from Kd.R_mono ho0_2 (fun k_ hk => ⟨(.inl (.inr hk)), fun e_ => hp0_2_0_1 k_ hk (ho0_1.1 k_ e_.symm)⟩))
 have HK := Aside0.mk (Kept.refl w (fun k_ => P0_1_ k_ ∨ P0_2_ k_))
 have HW0 := Aside0.mk hB.size
 have HB := Aside0.mk hB
 clear hB
 have H : ((laws_markExtentS.f k l0_1 a1).bind fun bt214 => ((laws_markExtentS.f k l0_2 bt214.1).bind fun bt216 => (some (bt216.1, bt214.2, bt216.2)))) = some (r1, r2, r3) := h
 clear h
 replace H := Option.bind_eq_some_iff.mp H
 obtain ⟨⟨t214, t215⟩, A30, H⟩ := H
 replace H : ((laws_markExtentS.f k l0_2 t214).bind fun bt216 => (some (bt216.1, t215, bt216.2))) = some (r1, r2, r3) := H
 have A3 := Aside0.mk A30
 clear A30
 replace H := Option.bind_eq_some_iff.mp H
 obtain ⟨⟨t216, t217⟩, A40, H⟩ := H
 replace H : (some (t216, t215, t217)) = some (r1, r2, r3) := H
 have A4 := Aside0.mk A40
 clear A40
 simp only [Option.some.injEq, Prod.mk.injEq] at H
 obtain ⟨rfl, rfl, rfl⟩ := H
 obtain ⟨Ao5, co5, eo5⟩ := Kd.R_slice HO0_1.out
 subst eo5
 obtain ⟨Ao6, co6, eo6⟩ := Kd.R_slice HO0_2.out
 subst eo6
 go_enter Try.func35, Try.ntmps35
 go_wp2_with (first | ((with_reducible refine gate_dst (N := 2) rfl ?_); refine box_event ?hg (N := 2) ?hd (cs := #[.int .i64 a0_0, .slice Ao5 l0_1.length co5, .slice Ao6 l0_2.length co6]) (t := 24) ?hr ?_; (case hd => rfl); (case hg => rfl); (case hr => first | (go_simp; done) | (go_simp; rfl)); intro gb213 hg w7 hbox hb; replace HO0_1 := nr HO0_1 hb; replace HO0_2 := nr HO0_2 hb; have BK213 := Aside0.mk (hbox); have GW213 := Aside0.mk ((by rw [hg]; exact (by first | exact HK.out.1 | exact (show Kept w _ (fun k_ => P0_1_ k_ ∨ P0_2_ k_) from by repeat (first | (with_reducible first | exact HK.out | apply Kept.alloc | apply Kept.drewN | apply Kept.drew) | exact HK.out)).1) : w.heap.size ≤ gb213)); replace HK := Aside0.mk (Kept.below (S := (fun k_ => P0_1_ k_ ∨ P0_2_ k_)) (by repeat (first | (with_reducible first | exact HK.out | apply Kept.alloc | apply Kept.drewN | apply Kept.drew) | exact HK.out)) hb); have GE213 := Aside0.mk ((by rw [hg]; exact (below_size (bs HB)) : w0.heap.size ≤ gb213)); replace HB := Aside0.mk (below_step (bs HB) hb); clear hb hbox hg; obtain ⟨hcz8_0, hcz8_1, hcz8_2⟩ := cz3 BK213; obtain ⟨hfz8_0, hfz8_1, hfz8_2⟩ := fz3 BK213) | ((with_reducible refine gate_callee (f := 55) rfl ?_); refine gL (some 8) rfl rfl Try.func55 (by kernel_rfl) rfl #[.slice Ao5 l0_1.length co5, .int .i64 a1] rfl ?_; (with_reducible refine (laws_markExtentS.calls k (fun k_ => some k_ = (.slice Ao5 l0_1.length co5 : Value).ownBlock) (.slice Ao5 l0_1.length co5) l0_1 a1 t214 t215 w0 _ ?side1 ?side2 A3.out).mono ?_); (case side1 => repeat (first | (with_reducible first | exact HB.out | apply below_alloc | apply pw_below_drewN | apply below_drew1 | refine below_set ?_ GE213.out) | exact HB.out)); (case side2 => exact Kd.R_tight rfl HO0_1.out); rintro e w9 ⟨rfl, hy0, hb, hkp⟩; refine ⟨_, rfl, ?_⟩; replace HO0_2 := Aside0.mk (Kd.R_mono (ok' := fun k_ => ((P0_1_ k_ ∨ P0_2_ k_) ∨ w.heap.size ≤ k_) ∧ some k_ ≠ (.slice Ao5 l0_1.length co5 : Value).ownBlock) (Kd.R_keptB (HO0_2.out) hkp (fun k_ hk_ hs_ => (hk_.2) hs_)) (fun k_ hk_ => ⟨hk_.1.1, hk_.1.2⟩)); replace BK213 := Aside0.mk (blk_kept (bk BK213) hkp (fun hs_ => (fun e_ => (Kd.R_ne HO0_1.out BK213.out (by decide)) e_) hs_)); replace HK := Aside0.mk (Kept.then_ (S := (fun k_ => P0_1_ k_ ∨ P0_2_ k_)) (by repeat (first | (with_reducible first | exact HK.out | apply Kept.alloc | apply Kept.drewN | apply Kept.drew | refine Kept.setCell ?_ (.inr GW213.out) _) | exact HK.out)) hkp (fun k_ hs_ => (fun e_ => (HO0_1.out.1 k_ e_.symm).1) hs_)); replace HO0_1 := Aside0.mk (Kd.R_reok rfl hy0 (fun k_ e_ => HO0_1.out.1 k_ e_)); replace HB := Aside0.mk (hb); (try clear hb); (try clear hkp); (try clear hy0); obtain ⟨hcz10_0, hcz10_1, hcz10_2⟩ := cz3 BK213; obtain ⟨hfz10_0, hfz10_1, hfz10_2⟩ := fz3 BK213) | ((with_reducible refine gate_callee (f := 55) rfl ?_); refine gL (some 12) rfl rfl Try.func55 (by kernel_rfl) rfl #[.slice Ao6 l0_2.length co6, .int .i64 t214] rfl ?_; (with_reducible refine (laws_markExtentS.calls k (fun k_ => some k_ = (.slice Ao6 l0_2.length co6 : Value).ownBlock) (.slice Ao6 l0_2.length co6) l0_2 t214 t216 t217 w0 _ ?side1 ?side2 A4.out).mono ?_); (case side1 => repeat (first | (with_reducible first | exact HB.out | apply below_alloc | apply pw_below_drewN | apply below_drew1 | refine below_set ?_ GE213.out) | exact HB.out)); (case side2 => exact Kd.R_tight rfl HO0_2.out); rintro e w11 ⟨rfl, hy0, hb, hkp⟩; refine ⟨_, rfl, ?_⟩; replace HO0_1 := Aside0.mk (Kd.R_mono (ok' := fun k_ => ((P0_1_ k_ ∨ P0_2_ k_) ∨ w.heap.size ≤ k_) ∧ some k_ ≠ (.slice Ao6 l0_2.length co6 : Value).ownBlock) (Kd.R_keptB (HO0_1.out) hkp (fun k_ hk_ hs_ => (hk_.2) hs_)) (fun k_ hk_ => ⟨hk_.1.1, hk_.1.2⟩)); replace BK213 := Aside0.mk (blk_kept (bk BK213) hkp (fun hs_ => (fun e_ => (Kd.R_ne HO0_2.out BK213.out (by decide)) e_) hs_)); replace HK := Aside0.mk (Kept.then_ (S := (fun k_ => P0_1_ k_ ∨ P0_2_ k_)) (by repeat (first | (with_reducible first | exact HK.out | apply Kept.alloc | apply Kept.drewN | apply Kept.drew | refine Kept.setCell ?_ (.inr GW213.out) _) | exact HK.out)) hkp (fun k_ hs_ => (fun e_ => (HO0_2.out.1 k_ e_.symm).1) hs_)); replace HO0_2 := Aside0.mk (Kd.R_reok rfl hy0 (fun k_ e_ => HO0_2.out.1 k_ e_)); replace HB := Aside0.mk (hb); (try clear hb); (try clear hkp); (try clear hy0)))
 go_ret
 exact ⟨by first | rfl | (simp [errW_none, errW_some] <;> rfl) | (simp [*, errW_none, errW_some] <;> rfl), by (with_reducible repeat (first | apply Kd.R_alloc | apply Kd.R_drewN | apply Kd.R_drew)); exact Kd.R_mono HO0_1.out (fun _ hk => hk.1), by (with_reducible repeat (first | apply Kd.R_alloc | apply Kd.R_drewN | apply Kd.R_drew)); exact Kd.R_mono HO0_2.out (fun _ hk => hk.1), bs1 HB GE213, by repeat (first | (with_reducible first | exact HK.out | apply Kept.alloc | apply Kept.drewN | apply Kept.drew | refine Kept.setCell ?_ (.inr GW213.out) _) | exact HK.out)⟩

/-! ### laws_markWork: function 12 -/
def laws_markWork.f (k : Nat) (a0_0 : Int) (l0_1 : List (S53)) (l0_2 : List (S53)) (a0_3 : Int) (l0_4 : List (S71)) (a1 : Int) : Option (Int × (List (S53)) × (List (S53)) × (List (S71))) := (laws_markFree.f k a0_0 l0_1 l0_2 a1).bind fun bt219 => ((laws_markItemS.f k l0_4 bt219.1).bind fun bt222 => (some (bt222.1, bt219.2.1, bt219.2.2, bt222.2)))
theorem laws_markWork.mono : ∀ a0 a1 a2 a3 a4 a5 k, LeO (laws_markWork.f k a0 a1 a2 a3 a4 a5) (laws_markWork.f (k + 1) a0 a1 a2 a3 a4 a5) := by
 intro a0 a1 a2 a3 a4 a5 k
 unfold laws_markWork.f
 repeat' first
   | (with_reducible exact laws_markFree.mono _ _ _ _ _)
   | (with_reducible exact laws_markItemS.mono _ _ _)
   | (with_reducible exact LeO.refl _)
   | (with_reducible exact LeO.none _)
   | (with_reducible refine LeO.ite ?_ ?_)
   | (with_reducible refine LeO.bind ?_ (fun _ => ?_))
   | exact laws_markFree.mono _ _ _ _ _
   | exact laws_markItemS.mono _ _ _
   | exact LeO.none _
   | refine LeO.ite ?_ ?_
   | refine LeO.bind ?_ (fun _ => ?_)
set_option maxHeartbeats 8000000 in
set_option maxRecDepth 100000 in
theorem laws_markWork.calls (k : Nat) (a0_0 : Int) (P0_1_ : Nat → Prop) (u9000_ : Value) (l0_1 : List (S53)) (P0_2_ : Nat → Prop) (u9001_ : Value) (l0_2 : List (S53)) (a0_3 : Int) (P0_4_ : Nat → Prop) (u9002_ : Value) (l0_4 : List (S71)) (a1 : Int) (r1 : Int) (r2 : List (S53)) (r3 : List (S53)) (r4 : List (S71)) (w0 w : World) (hB : Below w0.heap.size w0 w) (ho0_1 : Kd.R k53 53 w w0.heap.size P0_1_ u9000_ l0_1) (hp0_1_0_2 : ∀ k_, P0_1_ k_ → ¬ P0_2_ k_) (ho0_2 : Kd.R k53 53 w w0.heap.size P0_2_ u9001_ l0_2) (hp0_2_0_1 : ∀ k_, P0_2_ k_ → ¬ P0_1_ k_) (ho0_4 : Kd.R k71 71 w w0.heap.size P0_4_ u9002_ l0_4) (h : laws_markWork.f k a0_0 l0_1 l0_2 a0_3 l0_4 a1 = some (r1, r2, r3, r4)) :
  Calls Try.prog 12 #[.agg #[.int .i64 a0_0, u9000_, u9001_, .int .i64 a0_3, u9002_], .int .i64 a1] w fun e w' => e = .returned (.int .i64 r1) ∧ Kd.R k53 53 w' w0.heap.size (fun k_ => ((P0_1_ k_ ∨ P0_2_ k_ ∨ P0_4_ k_) ∨ w.heap.size ≤ k_)) u9000_ r2 ∧ Kd.R k53 53 w' w0.heap.size (fun k_ => ((P0_1_ k_ ∨ P0_2_ k_ ∨ P0_4_ k_) ∨ w.heap.size ≤ k_)) u9001_ r3 ∧ Kd.R k71 71 w' w0.heap.size (fun k_ => ((P0_1_ k_ ∨ P0_2_ k_ ∨ P0_4_ k_) ∨ w.heap.size ≤ k_)) u9002_ r4 ∧ Below w0.heap.size w0 w' ∧ Kept w w' (fun k_ => P0_1_ k_ ∨ P0_2_ k_ ∨ P0_4_ k_) := by
 have hu27 := Try.underlying27
 have hu24 := Try.underlying24
 have HO0_1 := Aside0.mk (show Kd.R k53 53 w w0.heap.size (fun k_ => ((P0_1_ k_ ∨ P0_2_ k_ ∨ P0_4_ k_) ∨ w.heap.size ≤ k_) ∧ some k_ ≠ (u9001_ : Value).ownBlock) u9000_ l0_1 from Kd.R_mono ho0_1 (fun k_ hk => ⟨(.inl (.inl hk)), fun e_ => hp0_1_0_2 k_ hk (ho0_2.1 k_ e_.symm)⟩))
 have HO0_2 := Aside0.mk (show Kd.R k53 53 w w0.heap.size (fun k_ => ((P0_1_ k_ ∨ P0_2_ k_ ∨ P0_4_ k_) ∨ w.heap.size ≤ k_) ∧ some k_ ≠ (u9000_ : Value).ownBlock) u9001_ l0_2 from Kd.R_mono ho0_2 (fun k_ hk => ⟨(.inl (.inr (.inl hk))), fun e_ => hp0_2_0_1 k_ hk (ho0_1.1 k_ e_.symm)⟩))
 have HO0_4 := Aside0.mk (show Kd.R k71 71 w w0.heap.size (fun k_ => ((P0_1_ k_ ∨ P0_2_ k_ ∨ P0_4_ k_) ∨ w.heap.size ≤ k_)) u9002_ l0_4 from Kd.R_mono ho0_4 (fun k_ hk => (.inl (.inr (.inr hk)))))
 have HK := Aside0.mk (Kept.refl w (fun k_ => P0_1_ k_ ∨ P0_2_ k_ ∨ P0_4_ k_))
 have HW0 := Aside0.mk hB.size
 have HB := Aside0.mk hB
 clear hB
 have H : ((laws_markFree.f k a0_0 l0_1 l0_2 a1).bind fun bt219 => ((laws_markItemS.f k l0_4 bt219.1).bind fun bt222 => (some (bt222.1, bt219.2.1, bt219.2.2, bt222.2)))) = some (r1, r2, r3, r4) := h
 clear h
 replace H := Option.bind_eq_some_iff.mp H
 obtain ⟨⟨t219, t220, t221⟩, A30, H⟩ := H
 replace H : ((laws_markItemS.f k l0_4 t219).bind fun bt222 => (some (bt222.1, t220, t221, bt222.2))) = some (r1, r2, r3, r4) := H
 have A3 := Aside0.mk A30
 clear A30
 replace H := Option.bind_eq_some_iff.mp H
 obtain ⟨⟨t222, t223⟩, A40, H⟩ := H
 replace H : (some (t222, t220, t221, t223)) = some (r1, r2, r3, r4) := H
 have A4 := Aside0.mk A40
 clear A40
 simp only [Option.some.injEq, Prod.mk.injEq] at H
 obtain ⟨rfl, rfl, rfl, rfl⟩ := H
 obtain ⟨Ao5, co5, eo5⟩ := Kd.R_slice HO0_1.out
 subst eo5
 obtain ⟨Ao6, co6, eo6⟩ := Kd.R_slice HO0_2.out
 subst eo6
 obtain ⟨Ao7, co7, eo7⟩ := Kd.R_slice HO0_4.out
 subst eo7
 go_enter Try.func12, Try.ntmps12
 go_wp2_with (first | ((with_reducible refine gate_dst (N := 2) rfl ?_); refine box_event ?hg (N := 2) ?hd (cs := #[.int .i64 a0_0, .slice Ao5 l0_1.length co5, .slice Ao6 l0_2.length co6, .int .i64 a0_3, .slice Ao7 l0_4.length co7]) (t := 27) ?hr ?_; (case hd => rfl); (case hg => rfl); (case hr => first | (go_simp; done) | (go_simp; rfl)); intro gb218 hg w8 hbox hb; replace HO0_1 := nr HO0_1 hb; replace HO0_2 := nr HO0_2 hb; replace HO0_4 := nr HO0_4 hb; have BK218 := Aside0.mk (hbox); have GW218 := Aside0.mk ((by rw [hg]; exact (by first | exact HK.out.1 | exact (show Kept w _ (fun k_ => P0_1_ k_ ∨ P0_2_ k_ ∨ P0_4_ k_) from by repeat (first | (with_reducible first | exact HK.out | apply Kept.alloc | apply Kept.drewN | apply Kept.drew) | exact HK.out)).1) : w.heap.size ≤ gb218)); replace HK := Aside0.mk (Kept.below (S := (fun k_ => P0_1_ k_ ∨ P0_2_ k_ ∨ P0_4_ k_)) (by repeat (first | (with_reducible first | exact HK.out | apply Kept.alloc | apply Kept.drewN | apply Kept.drew) | exact HK.out)) hb); have GE218 := Aside0.mk ((by rw [hg]; exact (below_size (bs HB)) : w0.heap.size ≤ gb218)); replace HB := Aside0.mk (below_step (bs HB) hb); clear hb hbox hg; obtain ⟨hcz9_0, hcz9_1, hcz9_2, hcz9_3, hcz9_4⟩ := cz5 BK218; obtain ⟨hfz9_0, hfz9_1, hfz9_2, hfz9_3, hfz9_4⟩ := fz5 BK218) | ((with_reducible refine gate_callee (f := 35) rfl ?_); refine gL (some 8) rfl rfl Try.func35 (by kernel_rfl) rfl #[.agg #[.int .i64 a0_0, .slice Ao5 l0_1.length co5, .slice Ao6 l0_2.length co6], .int .i64 a1] rfl ?_; (with_reducible refine (laws_markFree.calls k a0_0 (fun k_ => some k_ = (.slice Ao5 l0_1.length co5 : Value).ownBlock) (.slice Ao5 l0_1.length co5) l0_1 (fun k_ => some k_ = (.slice Ao6 l0_2.length co6 : Value).ownBlock) (.slice Ao6 l0_2.length co6) l0_2 a1 t219 t220 t221 w0 _ ?side1 ?side2 ?side3 ?side4 ?side5 A3.out).mono ?_); (case side1 => repeat (first | (with_reducible first | exact HB.out | apply below_alloc | apply pw_below_drewN | apply below_drew1 | refine below_set ?_ GE218.out) | exact HB.out)); (case side2 => exact Kd.R_tight rfl HO0_1.out); (case side3 => exact fun k_ e_ => (HO0_1.out.1 k_ e_.symm).2); (case side4 => exact Kd.R_tight rfl HO0_2.out); (case side5 => exact fun k_ e_ => (HO0_2.out.1 k_ e_.symm).2); rintro e w10 ⟨rfl, hy0, hy1, hb, hkp⟩; refine ⟨_, rfl, ?_⟩; replace HO0_4 := Aside0.mk (Kd.R_mono (ok' := fun k_ => ((P0_1_ k_ ∨ P0_2_ k_ ∨ P0_4_ k_) ∨ w.heap.size ≤ k_)) (Kd.R_keptB ((Kd.R_apart' (Kd.R_apart' HO0_4.out (Kd.R_typed HO0_1.out) (by decide)) (Kd.R_typed HO0_2.out) (by decide))) hkp (fun k_ hk_ hs_ => Or.elim hs_ (fun e_ => (hk_.1.2) e_) (fun e_ => (hk_.2) e_))) (fun k_ hk_ => hk_.1.1.1)); replace BK218 := Aside0.mk (blk_kept (bk BK218) hkp (fun hs_ => Or.elim hs_ (fun e_ => (fun e_ => (Kd.R_ne HO0_1.out BK218.out (by decide)) e_) e_) (fun e_ => (fun e_ => (Kd.R_ne HO0_2.out BK218.out (by decide)) e_) e_))); replace HK := Aside0.mk (Kept.then_ (S := (fun k_ => P0_1_ k_ ∨ P0_2_ k_ ∨ P0_4_ k_)) (by repeat (first | (with_reducible first | exact HK.out | apply Kept.alloc | apply Kept.drewN | apply Kept.drew | refine Kept.setCell ?_ (.inr GW218.out) _) | exact HK.out)) hkp (fun k_ hs_ => Or.elim hs_ (fun e_ => (fun e_ => (HO0_1.out.1 k_ e_.symm).1) e_) (fun e_ => (fun e_ => (HO0_2.out.1 k_ e_.symm).1) e_))); replace HO0_1 := Aside0.mk (Kd.R_reok rfl hy0 (fun k_ e_ => HO0_1.out.1 k_ e_)); replace HO0_2 := Aside0.mk (Kd.R_reok rfl hy1 (fun k_ e_ => HO0_2.out.1 k_ e_)); replace HB := Aside0.mk (hb); (try clear hb); (try clear hkp); (try clear hy0); (try clear hy1); obtain ⟨hcz11_0, hcz11_1, hcz11_2, hcz11_3, hcz11_4⟩ := cz5 BK218; obtain ⟨hfz11_0, hfz11_1, hfz11_2, hfz11_3, hfz11_4⟩ := fz5 BK218) | ((with_reducible refine gate_callee (f := 21) rfl ?_); refine gL (some 12) rfl rfl Try.func21 (by kernel_rfl) rfl #[.slice Ao7 l0_4.length co7, .int .i64 t219] rfl ?_; (with_reducible refine (laws_markItemS.calls k (fun k_ => some k_ = (.slice Ao7 l0_4.length co7 : Value).ownBlock) (.slice Ao7 l0_4.length co7) l0_4 t219 t222 t223 w0 _ ?side1 ?side2 A4.out).mono ?_); (case side1 => repeat (first | (with_reducible first | exact HB.out | apply below_alloc | apply pw_below_drewN | apply below_drew1 | refine below_set ?_ GE218.out) | exact HB.out)); (case side2 => exact Kd.R_tight rfl HO0_4.out); rintro e w12 ⟨rfl, hy0, hb, hkp⟩; refine ⟨_, rfl, ?_⟩; replace HO0_1 := Aside0.mk (Kd.R_mono (ok' := fun k_ => ((P0_1_ k_ ∨ P0_2_ k_ ∨ P0_4_ k_) ∨ w.heap.size ≤ k_) ∧ some k_ ≠ (.slice Ao6 l0_2.length co6 : Value).ownBlock) (Kd.R_keptB ((Kd.R_apart' HO0_1.out (Kd.R_typed HO0_4.out) (by decide))) hkp (fun k_ hk_ hs_ => (hk_.2) hs_)) (fun k_ hk_ => ⟨hk_.1.1.1, hk_.1.1.2⟩)); replace HO0_2 := Aside0.mk (Kd.R_mono (ok' := fun k_ => ((P0_1_ k_ ∨ P0_2_ k_ ∨ P0_4_ k_) ∨ w.heap.size ≤ k_) ∧ some k_ ≠ (.slice Ao5 l0_1.length co5 : Value).ownBlock) (Kd.R_keptB ((Kd.R_apart' HO0_2.out (Kd.R_typed HO0_4.out) (by decide))) hkp (fun k_ hk_ hs_ => (hk_.2) hs_)) (fun k_ hk_ => ⟨hk_.1.1.1, hk_.1.1.2⟩)); replace BK218 := Aside0.mk (blk_kept (bk BK218) hkp (fun hs_ => (fun e_ => (Kd.R_ne HO0_4.out BK218.out (by decide)) e_) hs_)); replace HK := Aside0.mk (Kept.then_ (S := (fun k_ => P0_1_ k_ ∨ P0_2_ k_ ∨ P0_4_ k_)) (by repeat (first | (with_reducible first | exact HK.out | apply Kept.alloc | apply Kept.drewN | apply Kept.drew | refine Kept.setCell ?_ (.inr GW218.out) _) | exact HK.out)) hkp (fun k_ hs_ => (fun e_ => (HO0_4.out.1 k_ e_.symm)) hs_)); replace HO0_4 := Aside0.mk (Kd.R_reok rfl hy0 (fun k_ e_ => HO0_4.out.1 k_ e_)); replace HB := Aside0.mk (hb); (try clear hb); (try clear hkp); (try clear hy0)))
 go_ret
 exact ⟨by first | rfl | (simp [errW_none, errW_some] <;> rfl) | (simp [*, errW_none, errW_some] <;> rfl), by (with_reducible repeat (first | apply Kd.R_alloc | apply Kd.R_drewN | apply Kd.R_drew)); exact Kd.R_mono HO0_1.out (fun _ hk => hk.1), by (with_reducible repeat (first | apply Kd.R_alloc | apply Kd.R_drewN | apply Kd.R_drew)); exact Kd.R_mono HO0_2.out (fun _ hk => hk.1), by (with_reducible repeat (first | apply Kd.R_alloc | apply Kd.R_drewN | apply Kd.R_drew)); exact HO0_4.out, bs1 HB GE218, by repeat (first | (with_reducible first | exact HK.out | apply Kept.alloc | apply Kept.drewN | apply Kept.drew | refine Kept.setCell ?_ (.inr GW218.out) _) | exact HK.out)⟩

/-! ### laws_heldItemS: function 22 -/
def laws_heldItemS.l0 : Nat → List (S71) → Int → Int → Option (Int)
 | 0, _, _, _ => none
 | k + 1, x0, x1, x5 => if x5 < (x0.length : Int) then (if 0 ≤ x5 then (if ((rd_T71 x0 x5).f0) = x1 then (if ((rd_T71 x0 x5).f1) = (wrap64 (x1 + 1)) then (if ((rd_T71 x0 x5).f2.f0) = (wrap64 ((wrap64 (x1 + 1)) + 1)) then (if ((rd_T71 x0 x5).f2.f1) = (wrap64 ((wrap64 ((wrap64 (x1 + 1)) + 1)) + 1)) then (if ((rd_T71 x0 x5).f3) = (wrap64 ((wrap64 ((wrap64 ((wrap64 (x1 + 1)) + 1)) + 1)) + 1)) then (laws_heldItemS.l0 k x0 (wrap64 ((wrap64 ((wrap64 ((wrap64 ((wrap64 (x1 + 1)) + 1)) + 1)) + 1)) + 1)) (wrap64 (x5 + 1))) else (some (-1))) else (some (-1))) else (some (-1))) else (some (-1))) else (some (-1))) else (none)) else (some x1)
def laws_heldItemS.f (k : Nat) (l0 : List (S71)) (a1 : Int) : Option (Int) := laws_heldItemS.l0 k l0 a1 0
theorem laws_heldItemS.mono_l : ∀ k, (∀ y0 y1 y2, LeO (laws_heldItemS.l0 k y0 y1 y2) (laws_heldItemS.l0 (k + 1) y0 y1 y2))
 | 0 => fun _ _ _ r h => by simp [laws_heldItemS.l0] at h
 | k + 1 => by
  have ih0 := laws_heldItemS.mono_l k
  ·
   intro y0 y1 y2
   unfold laws_heldItemS.l0
   repeat' first
   | (with_reducible exact ih0 _ _ _)
   | (with_reducible exact LeO.refl _)
   | (with_reducible exact LeO.none _)
   | (with_reducible refine LeO.ite ?_ ?_)
   | (with_reducible refine LeO.bind ?_ (fun _ => ?_))
   | exact ih0 _ _ _
   | exact LeO.none _
   | refine LeO.ite ?_ ?_
   | refine LeO.bind ?_ (fun _ => ?_)
theorem laws_heldItemS.mono : ∀ a0 a1 k, LeO (laws_heldItemS.f k a0 a1) (laws_heldItemS.f (k + 1) a0 a1) := by
 intro a0 a1 k
 have ih0 := laws_heldItemS.mono_l k
 unfold laws_heldItemS.f
 repeat' first
   | (with_reducible exact ih0 _ _ _)
   | (with_reducible exact LeO.refl _)
   | (with_reducible exact LeO.none _)
   | (with_reducible refine LeO.ite ?_ ?_)
   | (with_reducible refine LeO.bind ?_ (fun _ => ?_))
   | exact ih0 _ _ _
   | exact LeO.none _
   | refine LeO.ite ?_ ?_
   | refine LeO.bind ?_ (fun _ => ?_)
set_option maxHeartbeats 8000000 in
set_option maxRecDepth 100000 in
theorem laws_heldItemS.calls (k : Nat) (A0 : Option Addr) (c0 : Nat) (l0 : List (S71)) (a1 : Int) (r : Int) (w : World) (hr0 : Kd.C k71 w A0 l0.length l0) (hc0 : l0.length ≤ c0) (h : laws_heldItemS.f k l0 a1 = some r) :
  Calls Try.prog 22 #[.slice A0 l0.length c0, .int .i64 a1] w fun e w' => e = .returned (.int .i64 r) ∧ Drawn0 w w' := by
 have HR0 := Aside0.mk hr0
 have HC0 := Aside0.mk hc0
 clear hr0 hc0
 have H : (laws_heldItemS.l0 k l0 a1 0) = some r := h
 clear h
 have H' := Aside0.mk H
 clear H
 go_enter Try.func22, Try.ntmps22
 go_wp2
 go_loopg [1, 5] k (fun kq v1 v5 w' => ∃ (x1_1 : Int) (x5_1 : Int), v1 = .int .i64 x1_1 ∧ v5 = .int .i64 x5_1 ∧ Aside0 (laws_heldItemS.l0 kq l0 x1_1 x5_1 = some r) ∧ Aside0 (kq ≤ k) ∧ Drawn0 w w')
 case atStart => exact ⟨(a1), (0), (by first | rfl | (simp; done) | (simp [*]; done)), (by first | rfl | (simp; done) | (simp [*]; done)), H', ⟨Nat.le_refl _⟩, by repeat (first | exact Drawn0.refl _ | apply Drawn0.step)⟩
 case round =>
  clear H'
  try clear c2
  try clear p2
  obtain ⟨x1_1, x5_1, rfl, rfl, HA, HK1, ⟨m1, rfl⟩⟩ := hrel
  cases gk with
  | zero => exact absurd HA.out (by simp [laws_heldItemS.l0])
  | succ k1 =>
   have H := HA.out
   clear HA
   simp only [laws_heldItemS.l0] at H
   by_cases c3 : x5_1 < (l0.length : Int)
   ·
    rw [if_pos c3] at H
    have c3b0 : decide (x5_1 < (l0.length : Int)) = true := decide_eq_true c3
    clear c3
    by_cases c4 : 0 ≤ x5_1
    ·
     rw [if_pos c4] at H
     have c4b0 : decide (0 ≤ x5_1) = true := decide_eq_true c4
     clear c4
     by_cases c5 : ((rd_T71 l0 x5_1).f0) = x1_1
     ·
      rw [if_pos c5] at H
      have c5b0 : (((rd_T71 l0 x5_1).f0) == x1_1) = true := beq_iff_eq.mpr c5
      have c5b1 : (((rd_T71 l0 x5_1).f0) != x1_1) = false := bne_eq_false_iff_eq.mpr c5
      clear c5
      by_cases c6 : ((rd_T71 l0 x5_1).f1) = (wrap64 (x1_1 + 1))
      ·
       rw [if_pos c6] at H
       have c6b0 : (((rd_T71 l0 x5_1).f1) == (wrap64 (x1_1 + 1))) = true := beq_iff_eq.mpr c6
       have c6b1 : (((rd_T71 l0 x5_1).f1) != (wrap64 (x1_1 + 1))) = false := bne_eq_false_iff_eq.mpr c6
       clear c6
       by_cases c7 : ((rd_T71 l0 x5_1).f2.f0) = (wrap64 ((wrap64 (x1_1 + 1)) + 1))
       ·
        rw [if_pos c7] at H
        have c7b0 : (((rd_T71 l0 x5_1).f2.f0) == (wrap64 ((wrap64 (x1_1 + 1)) + 1))) = true := beq_iff_eq.mpr c7
        have c7b1 : (((rd_T71 l0 x5_1).f2.f0) != (wrap64 ((wrap64 (x1_1 + 1)) + 1))) = false := bne_eq_false_iff_eq.mpr c7
        clear c7
        by_cases c8 : ((rd_T71 l0 x5_1).f2.f1) = (wrap64 ((wrap64 ((wrap64 (x1_1 + 1)) + 1)) + 1))
        ·
         rw [if_pos c8] at H
         have c8b0 : (((rd_T71 l0 x5_1).f2.f1) == (wrap64 ((wrap64 ((wrap64 (x1_1 + 1)) + 1)) + 1))) = true := beq_iff_eq.mpr c8
         have c8b1 : (((rd_T71 l0 x5_1).f2.f1) != (wrap64 ((wrap64 ((wrap64 (x1_1 + 1)) + 1)) + 1))) = false := bne_eq_false_iff_eq.mpr c8
         clear c8
         by_cases c9 : ((rd_T71 l0 x5_1).f3) = (wrap64 ((wrap64 ((wrap64 ((wrap64 (x1_1 + 1)) + 1)) + 1)) + 1))
         ·
          rw [if_pos c9] at H
          have c9b0 : (((rd_T71 l0 x5_1).f3) == (wrap64 ((wrap64 ((wrap64 ((wrap64 (x1_1 + 1)) + 1)) + 1)) + 1))) = true := beq_iff_eq.mpr c9
          have c9b1 : (((rd_T71 l0 x5_1).f3) != (wrap64 ((wrap64 ((wrap64 ((wrap64 (x1_1 + 1)) + 1)) + 1)) + 1))) = false := bne_eq_false_iff_eq.mpr c9
          clear c9
          have H' := Aside0.mk H
          clear H
          have p224 : 0 ≤ (x5_1 : Int) := of_decide_eq_true (by first | (with_reducible assumption) | assumption)
          have q224 : x5_1 < (l0.length : Int) := of_decide_eq_true (by first | (with_reducible assumption) | assumption)
          obtain ⟨ad224, e224, hx224_0, hx224_1, hx224_2, hx224_3, hx224_4⟩ := at_T71 HR0.out x5_1 p224 q224
          cases e224
          replace p224 := eq_true p224
          replace q224 := eq_true q224
          have p225 : 0 ≤ (x5_1 : Int) := of_decide_eq_true (by first | (with_reducible assumption) | assumption)
          have q225 : x5_1 < (l0.length : Int) := of_decide_eq_true (by first | (with_reducible assumption) | assumption)
          obtain ⟨ad225, e225, hx225_0, hx225_1, hx225_2, hx225_3, hx225_4⟩ := at_T71 HR0.out x5_1 p225 q225
          obtain rfl : ad224 = ad225 := (by injection e225)
          replace p225 := eq_true p225
          replace q225 := eq_true q225
          have p226 : 0 ≤ (x5_1 : Int) := of_decide_eq_true (by first | (with_reducible assumption) | assumption)
          have q226 : x5_1 < (l0.length : Int) := of_decide_eq_true (by first | (with_reducible assumption) | assumption)
          obtain ⟨ad226, e226, hx226_0, hx226_1, hx226_2, hx226_3, hx226_4⟩ := at_T71 HR0.out x5_1 p226 q226
          obtain rfl : ad224 = ad226 := (by injection e226)
          replace p226 := eq_true p226
          replace q226 := eq_true q226
          have p227 : 0 ≤ (x5_1 : Int) := of_decide_eq_true (by first | (with_reducible assumption) | assumption)
          have q227 : x5_1 < (l0.length : Int) := of_decide_eq_true (by first | (with_reducible assumption) | assumption)
          obtain ⟨ad227, e227, hx227_0, hx227_1, hx227_2, hx227_3, hx227_4⟩ := at_T71 HR0.out x5_1 p227 q227
          obtain rfl : ad224 = ad227 := (by injection e227)
          replace p227 := eq_true p227
          replace q227 := eq_true q227
          have p228 : 0 ≤ (x5_1 : Int) := of_decide_eq_true (by first | (with_reducible assumption) | assumption)
          have q228 : x5_1 < (l0.length : Int) := of_decide_eq_true (by first | (with_reducible assumption) | assumption)
          obtain ⟨ad228, e228, hx228_0, hx228_1, hx228_2, hx228_3, hx228_4⟩ := at_T71 HR0.out x5_1 p228 q228
          obtain rfl : ad224 = ad228 := (by injection e228)
          replace p228 := eq_true p228
          replace q228 := eq_true q228
          go_wp2
          go_roundg k1
          case measure => have := HK1.out; omega
          case rel => exact ⟨(wrap64 ((wrap64 ((wrap64 ((wrap64 ((wrap64 (x1_1 + 1)) + 1)) + 1)) + 1)) + 1)), (wrap64 (x5_1 + 1)), (by first | rfl | (simp; done) | (simp [*]; done)), (by first | rfl | (simp; done) | (simp [*]; done)), H', ⟨by have := HK1.out; omega⟩, by repeat (first | exact Drawn0.refl _ | apply Drawn0.step)⟩
         ·
          rw [if_neg c9] at H
          have c9b0 : (((rd_T71 l0 x5_1).f3) == (wrap64 ((wrap64 ((wrap64 ((wrap64 (x1_1 + 1)) + 1)) + 1)) + 1))) = false := beq_eq_false_iff_ne.mpr c9
          have c9b1 : (((rd_T71 l0 x5_1).f3) != (wrap64 ((wrap64 ((wrap64 ((wrap64 (x1_1 + 1)) + 1)) + 1)) + 1))) = true := bne_iff_ne.mpr c9
          obtain rfl := Option.some.inj H
          have p224 : 0 ≤ (x5_1 : Int) := of_decide_eq_true (by first | (with_reducible assumption) | assumption)
          have q224 : x5_1 < (l0.length : Int) := of_decide_eq_true (by first | (with_reducible assumption) | assumption)
          obtain ⟨ad224, e224, hx224_0, hx224_1, hx224_2, hx224_3, hx224_4⟩ := at_T71 HR0.out x5_1 p224 q224
          cases e224
          replace p224 := eq_true p224
          replace q224 := eq_true q224
          have p225 : 0 ≤ (x5_1 : Int) := of_decide_eq_true (by first | (with_reducible assumption) | assumption)
          have q225 : x5_1 < (l0.length : Int) := of_decide_eq_true (by first | (with_reducible assumption) | assumption)
          obtain ⟨ad225, e225, hx225_0, hx225_1, hx225_2, hx225_3, hx225_4⟩ := at_T71 HR0.out x5_1 p225 q225
          obtain rfl : ad224 = ad225 := (by injection e225)
          replace p225 := eq_true p225
          replace q225 := eq_true q225
          have p226 : 0 ≤ (x5_1 : Int) := of_decide_eq_true (by first | (with_reducible assumption) | assumption)
          have q226 : x5_1 < (l0.length : Int) := of_decide_eq_true (by first | (with_reducible assumption) | assumption)
          obtain ⟨ad226, e226, hx226_0, hx226_1, hx226_2, hx226_3, hx226_4⟩ := at_T71 HR0.out x5_1 p226 q226
          obtain rfl : ad224 = ad226 := (by injection e226)
          replace p226 := eq_true p226
          replace q226 := eq_true q226
          have p227 : 0 ≤ (x5_1 : Int) := of_decide_eq_true (by first | (with_reducible assumption) | assumption)
          have q227 : x5_1 < (l0.length : Int) := of_decide_eq_true (by first | (with_reducible assumption) | assumption)
          obtain ⟨ad227, e227, hx227_0, hx227_1, hx227_2, hx227_3, hx227_4⟩ := at_T71 HR0.out x5_1 p227 q227
          obtain rfl : ad224 = ad227 := (by injection e227)
          replace p227 := eq_true p227
          replace q227 := eq_true q227
          have p228 : 0 ≤ (x5_1 : Int) := of_decide_eq_true (by first | (with_reducible assumption) | assumption)
          have q228 : x5_1 < (l0.length : Int) := of_decide_eq_true (by first | (with_reducible assumption) | assumption)
          obtain ⟨ad228, e228, hx228_0, hx228_1, hx228_2, hx228_3, hx228_4⟩ := at_T71 HR0.out x5_1 p228 q228
          obtain rfl : ad224 = ad228 := (by injection e228)
          replace p228 := eq_true p228
          replace q228 := eq_true q228
          go_wp2
          go_ret
          exact ⟨by first | rfl | (simp; done) | (simp [*]; done), by repeat (first | exact Drawn0.refl _ | apply Drawn0.step)⟩
        ·
         rw [if_neg c8] at H
         have c8b0 : (((rd_T71 l0 x5_1).f2.f1) == (wrap64 ((wrap64 ((wrap64 (x1_1 + 1)) + 1)) + 1))) = false := beq_eq_false_iff_ne.mpr c8
         have c8b1 : (((rd_T71 l0 x5_1).f2.f1) != (wrap64 ((wrap64 ((wrap64 (x1_1 + 1)) + 1)) + 1))) = true := bne_iff_ne.mpr c8
         obtain rfl := Option.some.inj H
         have p224 : 0 ≤ (x5_1 : Int) := of_decide_eq_true (by first | (with_reducible assumption) | assumption)
         have q224 : x5_1 < (l0.length : Int) := of_decide_eq_true (by first | (with_reducible assumption) | assumption)
         obtain ⟨ad224, e224, hx224_0, hx224_1, hx224_2, hx224_3, hx224_4⟩ := at_T71 HR0.out x5_1 p224 q224
         cases e224
         replace p224 := eq_true p224
         replace q224 := eq_true q224
         have p225 : 0 ≤ (x5_1 : Int) := of_decide_eq_true (by first | (with_reducible assumption) | assumption)
         have q225 : x5_1 < (l0.length : Int) := of_decide_eq_true (by first | (with_reducible assumption) | assumption)
         obtain ⟨ad225, e225, hx225_0, hx225_1, hx225_2, hx225_3, hx225_4⟩ := at_T71 HR0.out x5_1 p225 q225
         obtain rfl : ad224 = ad225 := (by injection e225)
         replace p225 := eq_true p225
         replace q225 := eq_true q225
         have p226 : 0 ≤ (x5_1 : Int) := of_decide_eq_true (by first | (with_reducible assumption) | assumption)
         have q226 : x5_1 < (l0.length : Int) := of_decide_eq_true (by first | (with_reducible assumption) | assumption)
         obtain ⟨ad226, e226, hx226_0, hx226_1, hx226_2, hx226_3, hx226_4⟩ := at_T71 HR0.out x5_1 p226 q226
         obtain rfl : ad224 = ad226 := (by injection e226)
         replace p226 := eq_true p226
         replace q226 := eq_true q226
         have p227 : 0 ≤ (x5_1 : Int) := of_decide_eq_true (by first | (with_reducible assumption) | assumption)
         have q227 : x5_1 < (l0.length : Int) := of_decide_eq_true (by first | (with_reducible assumption) | assumption)
         obtain ⟨ad227, e227, hx227_0, hx227_1, hx227_2, hx227_3, hx227_4⟩ := at_T71 HR0.out x5_1 p227 q227
         obtain rfl : ad224 = ad227 := (by injection e227)
         replace p227 := eq_true p227
         replace q227 := eq_true q227
         go_wp2
         go_ret
         exact ⟨by first | rfl | (simp; done) | (simp [*]; done), by repeat (first | exact Drawn0.refl _ | apply Drawn0.step)⟩
       ·
        rw [if_neg c7] at H
        have c7b0 : (((rd_T71 l0 x5_1).f2.f0) == (wrap64 ((wrap64 (x1_1 + 1)) + 1))) = false := beq_eq_false_iff_ne.mpr c7
        have c7b1 : (((rd_T71 l0 x5_1).f2.f0) != (wrap64 ((wrap64 (x1_1 + 1)) + 1))) = true := bne_iff_ne.mpr c7
        obtain rfl := Option.some.inj H
        have p224 : 0 ≤ (x5_1 : Int) := of_decide_eq_true (by first | (with_reducible assumption) | assumption)
        have q224 : x5_1 < (l0.length : Int) := of_decide_eq_true (by first | (with_reducible assumption) | assumption)
        obtain ⟨ad224, e224, hx224_0, hx224_1, hx224_2, hx224_3, hx224_4⟩ := at_T71 HR0.out x5_1 p224 q224
        cases e224
        replace p224 := eq_true p224
        replace q224 := eq_true q224
        have p225 : 0 ≤ (x5_1 : Int) := of_decide_eq_true (by first | (with_reducible assumption) | assumption)
        have q225 : x5_1 < (l0.length : Int) := of_decide_eq_true (by first | (with_reducible assumption) | assumption)
        obtain ⟨ad225, e225, hx225_0, hx225_1, hx225_2, hx225_3, hx225_4⟩ := at_T71 HR0.out x5_1 p225 q225
        obtain rfl : ad224 = ad225 := (by injection e225)
        replace p225 := eq_true p225
        replace q225 := eq_true q225
        have p226 : 0 ≤ (x5_1 : Int) := of_decide_eq_true (by first | (with_reducible assumption) | assumption)
        have q226 : x5_1 < (l0.length : Int) := of_decide_eq_true (by first | (with_reducible assumption) | assumption)
        obtain ⟨ad226, e226, hx226_0, hx226_1, hx226_2, hx226_3, hx226_4⟩ := at_T71 HR0.out x5_1 p226 q226
        obtain rfl : ad224 = ad226 := (by injection e226)
        replace p226 := eq_true p226
        replace q226 := eq_true q226
        go_wp2
        go_ret
        exact ⟨by first | rfl | (simp; done) | (simp [*]; done), by repeat (first | exact Drawn0.refl _ | apply Drawn0.step)⟩
      ·
       rw [if_neg c6] at H
       have c6b0 : (((rd_T71 l0 x5_1).f1) == (wrap64 (x1_1 + 1))) = false := beq_eq_false_iff_ne.mpr c6
       have c6b1 : (((rd_T71 l0 x5_1).f1) != (wrap64 (x1_1 + 1))) = true := bne_iff_ne.mpr c6
       obtain rfl := Option.some.inj H
       have p224 : 0 ≤ (x5_1 : Int) := of_decide_eq_true (by first | (with_reducible assumption) | assumption)
       have q224 : x5_1 < (l0.length : Int) := of_decide_eq_true (by first | (with_reducible assumption) | assumption)
       obtain ⟨ad224, e224, hx224_0, hx224_1, hx224_2, hx224_3, hx224_4⟩ := at_T71 HR0.out x5_1 p224 q224
       cases e224
       replace p224 := eq_true p224
       replace q224 := eq_true q224
       have p225 : 0 ≤ (x5_1 : Int) := of_decide_eq_true (by first | (with_reducible assumption) | assumption)
       have q225 : x5_1 < (l0.length : Int) := of_decide_eq_true (by first | (with_reducible assumption) | assumption)
       obtain ⟨ad225, e225, hx225_0, hx225_1, hx225_2, hx225_3, hx225_4⟩ := at_T71 HR0.out x5_1 p225 q225
       obtain rfl : ad224 = ad225 := (by injection e225)
       replace p225 := eq_true p225
       replace q225 := eq_true q225
       go_wp2
       go_ret
       exact ⟨by first | rfl | (simp; done) | (simp [*]; done), by repeat (first | exact Drawn0.refl _ | apply Drawn0.step)⟩
     ·
      rw [if_neg c5] at H
      have c5b0 : (((rd_T71 l0 x5_1).f0) == x1_1) = false := beq_eq_false_iff_ne.mpr c5
      have c5b1 : (((rd_T71 l0 x5_1).f0) != x1_1) = true := bne_iff_ne.mpr c5
      obtain rfl := Option.some.inj H
      have p224 : 0 ≤ (x5_1 : Int) := of_decide_eq_true (by first | (with_reducible assumption) | assumption)
      have q224 : x5_1 < (l0.length : Int) := of_decide_eq_true (by first | (with_reducible assumption) | assumption)
      obtain ⟨ad224, e224, hx224_0, hx224_1, hx224_2, hx224_3, hx224_4⟩ := at_T71 HR0.out x5_1 p224 q224
      cases e224
      replace p224 := eq_true p224
      replace q224 := eq_true q224
      go_wp2
      go_ret
      exact ⟨by first | rfl | (simp; done) | (simp [*]; done), by repeat (first | exact Drawn0.refl _ | apply Drawn0.step)⟩
    ·
     rw [if_neg c4] at H
     exact absurd H (by simp)
   ·
    rw [if_neg c3] at H
    have c3b0 : decide (x5_1 < (l0.length : Int)) = false := decide_eq_false c3
    clear c3
    obtain rfl := Option.some.inj H
    go_wp2
    go_ret
    exact ⟨by first | rfl | (simp; done) | (simp [*]; done), by repeat (first | exact Drawn0.refl _ | apply Drawn0.step)⟩

/-! ### laws_heldExtentS: function 56 -/
def laws_heldExtentS.l0 : Nat → List (S53) → Int → Int → Option (Int)
 | 0, _, _, _ => none
 | k + 1, x0, x1, x5 => if x5 < (x0.length : Int) then (if 0 ≤ x5 then (if ((rd_T53 x0 x5).f0) = x1 then (if ((rd_T53 x0 x5).f1) = (wrap64 (x1 + 1)) then (laws_heldExtentS.l0 k x0 (wrap64 ((wrap64 (x1 + 1)) + 1)) (wrap64 (x5 + 1))) else (some (-1))) else (some (-1))) else (none)) else (some x1)
def laws_heldExtentS.f (k : Nat) (l0 : List (S53)) (a1 : Int) : Option (Int) := laws_heldExtentS.l0 k l0 a1 0
theorem laws_heldExtentS.mono_l : ∀ k, (∀ y0 y1 y2, LeO (laws_heldExtentS.l0 k y0 y1 y2) (laws_heldExtentS.l0 (k + 1) y0 y1 y2))
 | 0 => fun _ _ _ r h => by simp [laws_heldExtentS.l0] at h
 | k + 1 => by
  have ih0 := laws_heldExtentS.mono_l k
  ·
   intro y0 y1 y2
   unfold laws_heldExtentS.l0
   repeat' first
   | (with_reducible exact ih0 _ _ _)
   | (with_reducible exact LeO.refl _)
   | (with_reducible exact LeO.none _)
   | (with_reducible refine LeO.ite ?_ ?_)
   | (with_reducible refine LeO.bind ?_ (fun _ => ?_))
   | exact ih0 _ _ _
   | exact LeO.none _
   | refine LeO.ite ?_ ?_
   | refine LeO.bind ?_ (fun _ => ?_)
theorem laws_heldExtentS.mono : ∀ a0 a1 k, LeO (laws_heldExtentS.f k a0 a1) (laws_heldExtentS.f (k + 1) a0 a1) := by
 intro a0 a1 k
 have ih0 := laws_heldExtentS.mono_l k
 unfold laws_heldExtentS.f
 repeat' first
   | (with_reducible exact ih0 _ _ _)
   | (with_reducible exact LeO.refl _)
   | (with_reducible exact LeO.none _)
   | (with_reducible refine LeO.ite ?_ ?_)
   | (with_reducible refine LeO.bind ?_ (fun _ => ?_))
   | exact ih0 _ _ _
   | exact LeO.none _
   | refine LeO.ite ?_ ?_
   | refine LeO.bind ?_ (fun _ => ?_)
set_option maxHeartbeats 8000000 in
set_option maxRecDepth 100000 in
theorem laws_heldExtentS.calls (k : Nat) (A0 : Option Addr) (c0 : Nat) (l0 : List (S53)) (a1 : Int) (r : Int) (w : World) (hr0 : Kd.C k53 w A0 l0.length l0) (hc0 : l0.length ≤ c0) (h : laws_heldExtentS.f k l0 a1 = some r) :
  Calls Try.prog 56 #[.slice A0 l0.length c0, .int .i64 a1] w fun e w' => e = .returned (.int .i64 r) ∧ Drawn0 w w' := by
 have HR0 := Aside0.mk hr0
 have HC0 := Aside0.mk hc0
 clear hr0 hc0
 have H : (laws_heldExtentS.l0 k l0 a1 0) = some r := h
 clear h
 have H' := Aside0.mk H
 clear H
 go_enter Try.func56, Try.ntmps56
 go_wp2
 go_loopg [1, 5] k (fun kq v1 v5 w' => ∃ (x1_1 : Int) (x5_1 : Int), v1 = .int .i64 x1_1 ∧ v5 = .int .i64 x5_1 ∧ Aside0 (laws_heldExtentS.l0 kq l0 x1_1 x5_1 = some r) ∧ Aside0 (kq ≤ k) ∧ Drawn0 w w')
 case atStart => exact ⟨(a1), (0), (by first | rfl | (simp; done) | (simp [*]; done)), (by first | rfl | (simp; done) | (simp [*]; done)), H', ⟨Nat.le_refl _⟩, by repeat (first | exact Drawn0.refl _ | apply Drawn0.step)⟩
 case round =>
  clear H'
  try clear p2
  obtain ⟨x1_1, x5_1, rfl, rfl, HA, HK1, ⟨m1, rfl⟩⟩ := hrel
  cases gk with
  | zero => exact absurd HA.out (by simp [laws_heldExtentS.l0])
  | succ k1 =>
   have H := HA.out
   clear HA
   simp only [laws_heldExtentS.l0] at H
   by_cases c3 : x5_1 < (l0.length : Int)
   ·
    rw [if_pos c3] at H
    have c3b0 : decide (x5_1 < (l0.length : Int)) = true := decide_eq_true c3
    clear c3
    by_cases c4 : 0 ≤ x5_1
    ·
     rw [if_pos c4] at H
     have c4b0 : decide (0 ≤ x5_1) = true := decide_eq_true c4
     clear c4
     by_cases c5 : ((rd_T53 l0 x5_1).f0) = x1_1
     ·
      rw [if_pos c5] at H
      have c5b0 : (((rd_T53 l0 x5_1).f0) == x1_1) = true := beq_iff_eq.mpr c5
      have c5b1 : (((rd_T53 l0 x5_1).f0) != x1_1) = false := bne_eq_false_iff_eq.mpr c5
      clear c5
      by_cases c6 : ((rd_T53 l0 x5_1).f1) = (wrap64 (x1_1 + 1))
      ·
       rw [if_pos c6] at H
       have c6b0 : (((rd_T53 l0 x5_1).f1) == (wrap64 (x1_1 + 1))) = true := beq_iff_eq.mpr c6
       have c6b1 : (((rd_T53 l0 x5_1).f1) != (wrap64 (x1_1 + 1))) = false := bne_eq_false_iff_eq.mpr c6
       clear c6
       have H' := Aside0.mk H
       clear H
       have p229 : 0 ≤ (x5_1 : Int) := of_decide_eq_true (by first | (with_reducible assumption) | assumption)
       have q229 : x5_1 < (l0.length : Int) := of_decide_eq_true (by first | (with_reducible assumption) | assumption)
       obtain ⟨ad229, e229, hx229_0, hx229_1⟩ := at_T53 HR0.out x5_1 p229 q229
       cases e229
       replace p229 := eq_true p229
       replace q229 := eq_true q229
       have p230 : 0 ≤ (x5_1 : Int) := of_decide_eq_true (by first | (with_reducible assumption) | assumption)
       have q230 : x5_1 < (l0.length : Int) := of_decide_eq_true (by first | (with_reducible assumption) | assumption)
       obtain ⟨ad230, e230, hx230_0, hx230_1⟩ := at_T53 HR0.out x5_1 p230 q230
       obtain rfl : ad229 = ad230 := (by injection e230)
       replace p230 := eq_true p230
       replace q230 := eq_true q230
       go_wp2
       go_roundg k1
       case measure => have := HK1.out; omega
       case rel => exact ⟨(wrap64 ((wrap64 (x1_1 + 1)) + 1)), (wrap64 (x5_1 + 1)), (by first | rfl | (simp; done) | (simp [*]; done)), (by first | rfl | (simp; done) | (simp [*]; done)), H', ⟨by have := HK1.out; omega⟩, by repeat (first | exact Drawn0.refl _ | apply Drawn0.step)⟩
      ·
       rw [if_neg c6] at H
       have c6b0 : (((rd_T53 l0 x5_1).f1) == (wrap64 (x1_1 + 1))) = false := beq_eq_false_iff_ne.mpr c6
       have c6b1 : (((rd_T53 l0 x5_1).f1) != (wrap64 (x1_1 + 1))) = true := bne_iff_ne.mpr c6
       obtain rfl := Option.some.inj H
       have p229 : 0 ≤ (x5_1 : Int) := of_decide_eq_true (by first | (with_reducible assumption) | assumption)
       have q229 : x5_1 < (l0.length : Int) := of_decide_eq_true (by first | (with_reducible assumption) | assumption)
       obtain ⟨ad229, e229, hx229_0, hx229_1⟩ := at_T53 HR0.out x5_1 p229 q229
       cases e229
       replace p229 := eq_true p229
       replace q229 := eq_true q229
       have p230 : 0 ≤ (x5_1 : Int) := of_decide_eq_true (by first | (with_reducible assumption) | assumption)
       have q230 : x5_1 < (l0.length : Int) := of_decide_eq_true (by first | (with_reducible assumption) | assumption)
       obtain ⟨ad230, e230, hx230_0, hx230_1⟩ := at_T53 HR0.out x5_1 p230 q230
       obtain rfl : ad229 = ad230 := (by injection e230)
       replace p230 := eq_true p230
       replace q230 := eq_true q230
       go_wp2
       go_ret
       exact ⟨by first | rfl | (simp; done) | (simp [*]; done), by repeat (first | exact Drawn0.refl _ | apply Drawn0.step)⟩
     ·
      rw [if_neg c5] at H
      have c5b0 : (((rd_T53 l0 x5_1).f0) == x1_1) = false := beq_eq_false_iff_ne.mpr c5
      have c5b1 : (((rd_T53 l0 x5_1).f0) != x1_1) = true := bne_iff_ne.mpr c5
      obtain rfl := Option.some.inj H
      have p229 : 0 ≤ (x5_1 : Int) := of_decide_eq_true (by first | (with_reducible assumption) | assumption)
      have q229 : x5_1 < (l0.length : Int) := of_decide_eq_true (by first | (with_reducible assumption) | assumption)
      obtain ⟨ad229, e229, hx229_0, hx229_1⟩ := at_T53 HR0.out x5_1 p229 q229
      cases e229
      replace p229 := eq_true p229
      replace q229 := eq_true q229
      go_wp2
      go_ret
      exact ⟨by first | rfl | (simp; done) | (simp [*]; done), by repeat (first | exact Drawn0.refl _ | apply Drawn0.step)⟩
    ·
     rw [if_neg c4] at H
     exact absurd H (by simp)
   ·
    rw [if_neg c3] at H
    have c3b0 : decide (x5_1 < (l0.length : Int)) = false := decide_eq_false c3
    clear c3
    obtain rfl := Option.some.inj H
    go_wp2
    go_ret
    exact ⟨by first | rfl | (simp; done) | (simp [*]; done), by repeat (first | exact Drawn0.refl _ | apply Drawn0.step)⟩

/-! ### laws_heldFree: function 36 -/
def laws_heldFree.f (k : Nat) (a0_0 : Int) (l0_1 : List (S53)) (l0_2 : List (S53)) (a1 : Int) : Option (Int) := (laws_heldExtentS.f k l0_1 a1).bind fun t232 => (if t232 < 0 then (some (-1)) else ((laws_heldExtentS.f k l0_2 t232).bind fun t233 => (if t233 < 0 then (some (-1)) else (some t233))))
theorem laws_heldFree.mono : ∀ a0 a1 a2 a3 k, LeO (laws_heldFree.f k a0 a1 a2 a3) (laws_heldFree.f (k + 1) a0 a1 a2 a3) := by
 intro a0 a1 a2 a3 k
 unfold laws_heldFree.f
 repeat' first
   | (with_reducible exact laws_heldExtentS.mono _ _ _)
   | (with_reducible exact LeO.refl _)
   | (with_reducible exact LeO.none _)
   | (with_reducible refine LeO.ite ?_ ?_)
   | (with_reducible refine LeO.bind ?_ (fun _ => ?_))
   | exact laws_heldExtentS.mono _ _ _
   | exact LeO.none _
   | refine LeO.ite ?_ ?_
   | refine LeO.bind ?_ (fun _ => ?_)
set_option maxHeartbeats 8000000 in
set_option maxRecDepth 100000 in
theorem laws_heldFree.calls (k : Nat) (a0_0 : Int) (A0_1 : Option Addr) (c0_1 : Nat) (l0_1 : List (S53)) (A0_2 : Option Addr) (c0_2 : Nat) (l0_2 : List (S53)) (a1 : Int) (r : Int) (w : World) (hr0_1 : Kd.C k53 w A0_1 l0_1.length l0_1) (hc0_1 : l0_1.length ≤ c0_1) (hr0_2 : Kd.C k53 w A0_2 l0_2.length l0_2) (hc0_2 : l0_2.length ≤ c0_2) (h : laws_heldFree.f k a0_0 l0_1 l0_2 a1 = some r) :
  Calls Try.prog 36 #[.agg #[.int .i64 a0_0, .slice A0_1 l0_1.length c0_1, .slice A0_2 l0_2.length c0_2], .int .i64 a1] w fun e w' => e = .returned (.int .i64 r) ∧ Below w.heap.size w w' := by
 have hu24 := Try.underlying24
 have HR0_1 := Aside0.mk hr0_1
 have HC0_1 := Aside0.mk hc0_1
 clear hr0_1 hc0_1
 have HR0_2 := Aside0.mk hr0_2
 have HC0_2 := Aside0.mk hc0_2
 clear hr0_2 hc0_2
 have HB := Aside0.mk (Below.refl w.heap.size w)
 have H : ((laws_heldExtentS.f k l0_1 a1).bind fun t232 => (if t232 < 0 then (some (-1)) else ((laws_heldExtentS.f k l0_2 t232).bind fun t233 => (if t233 < 0 then (some (-1)) else (some t233))))) = some r := h
 clear h
 replace H := Option.bind_eq_some_iff.mp H
 obtain ⟨t232, A30, H⟩ := H
 replace H : (if t232 < 0 then (some (-1)) else ((laws_heldExtentS.f k l0_2 t232).bind fun t233 => (if t233 < 0 then (some (-1)) else (some t233)))) = some r := H
 have A3 := Aside0.mk A30
 clear A30
 by_cases c4 : t232 < 0
 ·
  rw [if_pos c4] at H
  have c4b0 : decide (t232 < 0) = true := decide_eq_true c4
  clear c4
  obtain rfl := Option.some.inj H
  go_enter Try.func36, Try.ntmps36
  go_wp2_with (first | ((with_reducible refine gate_dst (N := 2) rfl ?_); refine box_event ?hg (N := 2) ?hd (cs := #[.int .i64 a0_0, .slice A0_1 l0_1.length c0_1, .slice A0_2 l0_2.length c0_2]) (t := 24) ?hr ?_; (case hd => rfl); (case hg => rfl); (case hr => first | (go_simp; done) | (go_simp; rfl)); intro gb231 hg w5 hbox hb; have BK231 := Aside0.mk (hbox); have GW231 := Aside0.mk ((by rw [hg]; exact (below_size (bs HB)) : w.heap.size ≤ gb231)); have GE231 := Aside0.mk ((by rw [hg]; exact (below_size (bs HB)) : w.heap.size ≤ gb231)); replace HB := Aside0.mk (below_step (bs HB) hb); clear hb hbox hg; obtain ⟨hcz6_0, hcz6_1, hcz6_2⟩ := cz3 BK231; obtain ⟨hfz6_0, hfz6_1, hfz6_2⟩ := fz3 BK231) | ((with_reducible refine gate_callee (f := 56) rfl ?_); refine gL (some 8) rfl rfl Try.func56 (by kernel_rfl) rfl #[.slice A0_1 l0_1.length c0_1, .int .i64 a1] rfl ?_; (with_reducible refine (laws_heldExtentS.calls k _ _ l0_1 a1 t232 _ ?side1 ?side2 A3.out).mono ?_); (case side1 => exact cb HR0_1 HB); (case side2 => exact HC0_1.out); rintro e w' ⟨rfl, ⟨nd, rfl⟩⟩; refine ⟨_, rfl, ?_⟩))
  go_ret
  exact ⟨by first | rfl | (simp [errW_none, errW_some] <;> rfl) | (simp [*, errW_none, errW_some] <;> rfl), bs1 HB GE231⟩
 ·
  rw [if_neg c4] at H
  have c4b0 : decide (t232 < 0) = false := decide_eq_false c4
  clear c4
  replace H := Option.bind_eq_some_iff.mp H
  obtain ⟨t233, A70, H⟩ := H
  replace H : (if t233 < 0 then (some (-1)) else (some t233)) = some r := H
  have A7 := Aside0.mk A70
  clear A70
  by_cases c8 : t233 < 0
  ·
   rw [if_pos c8] at H
   have c8b0 : decide (t233 < 0) = true := decide_eq_true c8
   clear c8
   obtain rfl := Option.some.inj H
   go_enter Try.func36, Try.ntmps36
   go_wp2_with (first | ((with_reducible refine gate_dst (N := 2) rfl ?_); refine box_event ?hg (N := 2) ?hd (cs := #[.int .i64 a0_0, .slice A0_1 l0_1.length c0_1, .slice A0_2 l0_2.length c0_2]) (t := 24) ?hr ?_; (case hd => rfl); (case hg => rfl); (case hr => first | (go_simp; done) | (go_simp; rfl)); intro gb231 hg w9 hbox hb; have BK231 := Aside0.mk (hbox); have GW231 := Aside0.mk ((by rw [hg]; exact (below_size (bs HB)) : w.heap.size ≤ gb231)); have GE231 := Aside0.mk ((by rw [hg]; exact (below_size (bs HB)) : w.heap.size ≤ gb231)); replace HB := Aside0.mk (below_step (bs HB) hb); clear hb hbox hg; obtain ⟨hcz10_0, hcz10_1, hcz10_2⟩ := cz3 BK231; obtain ⟨hfz10_0, hfz10_1, hfz10_2⟩ := fz3 BK231) | ((with_reducible refine gate_callee (f := 56) rfl ?_); refine gL (some 8) rfl rfl Try.func56 (by kernel_rfl) rfl #[.slice A0_1 l0_1.length c0_1, .int .i64 a1] rfl ?_; (with_reducible refine (laws_heldExtentS.calls k _ _ l0_1 a1 t232 _ ?side1 ?side2 A3.out).mono ?_); (case side1 => exact cb HR0_1 HB); (case side2 => exact HC0_1.out); rintro e w' ⟨rfl, ⟨nd, rfl⟩⟩; refine ⟨_, rfl, ?_⟩) | ((with_reducible refine gate_callee (f := 56) rfl ?_); refine gL (some 14) rfl rfl Try.func56 (by kernel_rfl) rfl #[.slice A0_2 l0_2.length c0_2, .int .i64 t232] rfl ?_; (with_reducible refine (laws_heldExtentS.calls k _ _ l0_2 t232 t233 _ ?side1 ?side2 A7.out).mono ?_); (case side1 => repeat (first | exact (Kd.C_below HR0_2.out (bs1 HB GE231)) | (with_reducible refine Kd.C_alloc ?_ _) | (with_reducible refine Kd.C_drewN ?_ _) | (with_reducible refine Kd.C_drew ?_))); (case side2 => exact HC0_2.out); rintro e w' ⟨rfl, ⟨nd, rfl⟩⟩; refine ⟨_, rfl, ?_⟩))
   go_ret
   exact ⟨by first | rfl | (simp [errW_none, errW_some] <;> rfl) | (simp [*, errW_none, errW_some] <;> rfl), bs1 HB GE231⟩
  ·
   rw [if_neg c8] at H
   have c8b0 : decide (t233 < 0) = false := decide_eq_false c8
   clear c8
   obtain rfl := Option.some.inj H
   go_enter Try.func36, Try.ntmps36
   go_wp2_with (first | ((with_reducible refine gate_dst (N := 2) rfl ?_); refine box_event ?hg (N := 2) ?hd (cs := #[.int .i64 a0_0, .slice A0_1 l0_1.length c0_1, .slice A0_2 l0_2.length c0_2]) (t := 24) ?hr ?_; (case hd => rfl); (case hg => rfl); (case hr => first | (go_simp; done) | (go_simp; rfl)); intro gb231 hg w11 hbox hb; have BK231 := Aside0.mk (hbox); have GW231 := Aside0.mk ((by rw [hg]; exact (below_size (bs HB)) : w.heap.size ≤ gb231)); have GE231 := Aside0.mk ((by rw [hg]; exact (below_size (bs HB)) : w.heap.size ≤ gb231)); replace HB := Aside0.mk (below_step (bs HB) hb); clear hb hbox hg; obtain ⟨hcz12_0, hcz12_1, hcz12_2⟩ := cz3 BK231; obtain ⟨hfz12_0, hfz12_1, hfz12_2⟩ := fz3 BK231) | ((with_reducible refine gate_callee (f := 56) rfl ?_); refine gL (some 8) rfl rfl Try.func56 (by kernel_rfl) rfl #[.slice A0_1 l0_1.length c0_1, .int .i64 a1] rfl ?_; (with_reducible refine (laws_heldExtentS.calls k _ _ l0_1 a1 t232 _ ?side1 ?side2 A3.out).mono ?_); (case side1 => exact cb HR0_1 HB); (case side2 => exact HC0_1.out); rintro e w' ⟨rfl, ⟨nd, rfl⟩⟩; refine ⟨_, rfl, ?_⟩) | ((with_reducible refine gate_callee (f := 56) rfl ?_); refine gL (some 14) rfl rfl Try.func56 (by kernel_rfl) rfl #[.slice A0_2 l0_2.length c0_2, .int .i64 t232] rfl ?_; (with_reducible refine (laws_heldExtentS.calls k _ _ l0_2 t232 t233 _ ?side1 ?side2 A7.out).mono ?_); (case side1 => repeat (first | exact (Kd.C_below HR0_2.out (bs1 HB GE231)) | (with_reducible refine Kd.C_alloc ?_ _) | (with_reducible refine Kd.C_drewN ?_ _) | (with_reducible refine Kd.C_drew ?_))); (case side2 => exact HC0_2.out); rintro e w' ⟨rfl, ⟨nd, rfl⟩⟩; refine ⟨_, rfl, ?_⟩))
   go_ret
   exact ⟨by first | rfl | (simp [errW_none, errW_some] <;> rfl) | (simp [*, errW_none, errW_some] <;> rfl), bs1 HB GE231⟩

/-! ### laws_heldWork: function 13 -/
def laws_heldWork.f (k : Nat) (a0_0 : Int) (l0_1 : List (S53)) (l0_2 : List (S53)) (a0_3 : Int) (l0_4 : List (S71)) (a1 : Int) : Option (Int) := (laws_heldFree.f k a0_0 l0_1 l0_2 a1).bind fun t235 => (if t235 < 0 then (some (-1)) else ((laws_heldItemS.f k l0_4 t235).bind fun t236 => (if t236 < 0 then (some (-1)) else (some t236))))
theorem laws_heldWork.mono : ∀ a0 a1 a2 a3 a4 a5 k, LeO (laws_heldWork.f k a0 a1 a2 a3 a4 a5) (laws_heldWork.f (k + 1) a0 a1 a2 a3 a4 a5) := by
 intro a0 a1 a2 a3 a4 a5 k
 unfold laws_heldWork.f
 repeat' first
   | (with_reducible exact laws_heldFree.mono _ _ _ _ _)
   | (with_reducible exact laws_heldItemS.mono _ _ _)
   | (with_reducible exact LeO.refl _)
   | (with_reducible exact LeO.none _)
   | (with_reducible refine LeO.ite ?_ ?_)
   | (with_reducible refine LeO.bind ?_ (fun _ => ?_))
   | exact laws_heldFree.mono _ _ _ _ _
   | exact laws_heldItemS.mono _ _ _
   | exact LeO.none _
   | refine LeO.ite ?_ ?_
   | refine LeO.bind ?_ (fun _ => ?_)
set_option maxHeartbeats 8000000 in
set_option maxRecDepth 100000 in
theorem laws_heldWork.calls (k : Nat) (a0_0 : Int) (A0_1 : Option Addr) (c0_1 : Nat) (l0_1 : List (S53)) (A0_2 : Option Addr) (c0_2 : Nat) (l0_2 : List (S53)) (a0_3 : Int) (A0_4 : Option Addr) (c0_4 : Nat) (l0_4 : List (S71)) (a1 : Int) (r : Int) (w : World) (hr0_1 : Kd.C k53 w A0_1 l0_1.length l0_1) (hc0_1 : l0_1.length ≤ c0_1) (hr0_2 : Kd.C k53 w A0_2 l0_2.length l0_2) (hc0_2 : l0_2.length ≤ c0_2) (hr0_4 : Kd.C k71 w A0_4 l0_4.length l0_4) (hc0_4 : l0_4.length ≤ c0_4) (h : laws_heldWork.f k a0_0 l0_1 l0_2 a0_3 l0_4 a1 = some r) :
  Calls Try.prog 13 #[.agg #[.int .i64 a0_0, .slice A0_1 l0_1.length c0_1, .slice A0_2 l0_2.length c0_2, .int .i64 a0_3, .slice A0_4 l0_4.length c0_4], .int .i64 a1] w fun e w' => e = .returned (.int .i64 r) ∧ Below w.heap.size w w' := by
 have hu27 := Try.underlying27
 have hu24 := Try.underlying24
 have HR0_1 := Aside0.mk hr0_1
 have HC0_1 := Aside0.mk hc0_1
 clear hr0_1 hc0_1
 have HR0_2 := Aside0.mk hr0_2
 have HC0_2 := Aside0.mk hc0_2
 clear hr0_2 hc0_2
 have HR0_4 := Aside0.mk hr0_4
 have HC0_4 := Aside0.mk hc0_4
 clear hr0_4 hc0_4
 have HB := Aside0.mk (Below.refl w.heap.size w)
 have H : ((laws_heldFree.f k a0_0 l0_1 l0_2 a1).bind fun t235 => (if t235 < 0 then (some (-1)) else ((laws_heldItemS.f k l0_4 t235).bind fun t236 => (if t236 < 0 then (some (-1)) else (some t236))))) = some r := h
 clear h
 replace H := Option.bind_eq_some_iff.mp H
 obtain ⟨t235, A30, H⟩ := H
 replace H : (if t235 < 0 then (some (-1)) else ((laws_heldItemS.f k l0_4 t235).bind fun t236 => (if t236 < 0 then (some (-1)) else (some t236)))) = some r := H
 have A3 := Aside0.mk A30
 clear A30
 by_cases c4 : t235 < 0
 ·
  rw [if_pos c4] at H
  have c4b0 : decide (t235 < 0) = true := decide_eq_true c4
  clear c4
  obtain rfl := Option.some.inj H
  go_enter Try.func13, Try.ntmps13
  go_wp2_with (first | ((with_reducible refine gate_dst (N := 2) rfl ?_); refine box_event ?hg (N := 2) ?hd (cs := #[.int .i64 a0_0, .slice A0_1 l0_1.length c0_1, .slice A0_2 l0_2.length c0_2, .int .i64 a0_3, .slice A0_4 l0_4.length c0_4]) (t := 27) ?hr ?_; (case hd => rfl); (case hg => rfl); (case hr => first | (go_simp; done) | (go_simp; rfl)); intro gb234 hg w5 hbox hb; have BK234 := Aside0.mk (hbox); have GW234 := Aside0.mk ((by rw [hg]; exact (below_size (bs HB)) : w.heap.size ≤ gb234)); have GE234 := Aside0.mk ((by rw [hg]; exact (below_size (bs HB)) : w.heap.size ≤ gb234)); replace HB := Aside0.mk (below_step (bs HB) hb); clear hb hbox hg; obtain ⟨hcz6_0, hcz6_1, hcz6_2, hcz6_3, hcz6_4⟩ := cz5 BK234; obtain ⟨hfz6_0, hfz6_1, hfz6_2, hfz6_3, hfz6_4⟩ := fz5 BK234) | ((with_reducible refine gate_callee (f := 36) rfl ?_); refine gL (some 8) rfl rfl Try.func36 (by kernel_rfl) rfl #[.agg #[.int .i64 a0_0, .slice A0_1 l0_1.length c0_1, .slice A0_2 l0_2.length c0_2], .int .i64 a1] rfl ?_; (with_reducible refine (laws_heldFree.calls k a0_0 _ _ l0_1 _ _ l0_2 a1 t235 _ ?side1 ?side2 ?side3 ?side4 A3.out).mono ?_); (case side1 => exact cb HR0_1 HB); (case side2 => exact HC0_1.out); (case side3 => exact cb HR0_2 HB); (case side4 => exact HC0_2.out); rintro e w7 ⟨rfl, hb⟩; refine ⟨_, rfl, ?_⟩; replace BK234 := nb BK234 hb; replace HB := Aside0.mk (below_step (bs1 HB GE234) hb); (try clear hb); (try clear hb2); (try clear hk); (try clear hi)))
  go_ret
  exact ⟨by first | rfl | (simp [errW_none, errW_some] <;> rfl) | (simp [*, errW_none, errW_some] <;> rfl), bs1 HB GE234⟩
 ·
  rw [if_neg c4] at H
  have c4b0 : decide (t235 < 0) = false := decide_eq_false c4
  clear c4
  replace H := Option.bind_eq_some_iff.mp H
  obtain ⟨t236, A80, H⟩ := H
  replace H : (if t236 < 0 then (some (-1)) else (some t236)) = some r := H
  have A8 := Aside0.mk A80
  clear A80
  by_cases c9 : t236 < 0
  ·
   rw [if_pos c9] at H
   have c9b0 : decide (t236 < 0) = true := decide_eq_true c9
   clear c9
   obtain rfl := Option.some.inj H
   go_enter Try.func13, Try.ntmps13
   go_wp2_with (first | ((with_reducible refine gate_dst (N := 2) rfl ?_); refine box_event ?hg (N := 2) ?hd (cs := #[.int .i64 a0_0, .slice A0_1 l0_1.length c0_1, .slice A0_2 l0_2.length c0_2, .int .i64 a0_3, .slice A0_4 l0_4.length c0_4]) (t := 27) ?hr ?_; (case hd => rfl); (case hg => rfl); (case hr => first | (go_simp; done) | (go_simp; rfl)); intro gb234 hg w10 hbox hb; have BK234 := Aside0.mk (hbox); have GW234 := Aside0.mk ((by rw [hg]; exact (below_size (bs HB)) : w.heap.size ≤ gb234)); have GE234 := Aside0.mk ((by rw [hg]; exact (below_size (bs HB)) : w.heap.size ≤ gb234)); replace HB := Aside0.mk (below_step (bs HB) hb); clear hb hbox hg; obtain ⟨hcz11_0, hcz11_1, hcz11_2, hcz11_3, hcz11_4⟩ := cz5 BK234; obtain ⟨hfz11_0, hfz11_1, hfz11_2, hfz11_3, hfz11_4⟩ := fz5 BK234) | ((with_reducible refine gate_callee (f := 36) rfl ?_); refine gL (some 8) rfl rfl Try.func36 (by kernel_rfl) rfl #[.agg #[.int .i64 a0_0, .slice A0_1 l0_1.length c0_1, .slice A0_2 l0_2.length c0_2], .int .i64 a1] rfl ?_; (with_reducible refine (laws_heldFree.calls k a0_0 _ _ l0_1 _ _ l0_2 a1 t235 _ ?side1 ?side2 ?side3 ?side4 A3.out).mono ?_); (case side1 => exact cb HR0_1 HB); (case side2 => exact HC0_1.out); (case side3 => exact cb HR0_2 HB); (case side4 => exact HC0_2.out); rintro e w12 ⟨rfl, hb⟩; refine ⟨_, rfl, ?_⟩; replace BK234 := nb BK234 hb; replace HB := Aside0.mk (below_step (bs1 HB GE234) hb); (try clear hb); (try clear hb2); (try clear hk); (try clear hi); obtain ⟨hcz13_0, hcz13_1, hcz13_2, hcz13_3, hcz13_4⟩ := cz5 BK234; obtain ⟨hfz13_0, hfz13_1, hfz13_2, hfz13_3, hfz13_4⟩ := fz5 BK234) | ((with_reducible refine gate_callee (f := 22) rfl ?_); refine gL (some 14) rfl rfl Try.func22 (by kernel_rfl) rfl #[.slice A0_4 l0_4.length c0_4, .int .i64 t235] rfl ?_; (with_reducible refine (laws_heldItemS.calls k _ _ l0_4 t235 t236 _ ?side1 ?side2 A8.out).mono ?_); (case side1 => exact cb HR0_4 HB); (case side2 => exact HC0_4.out); rintro e w' ⟨rfl, ⟨nd, rfl⟩⟩; refine ⟨_, rfl, ?_⟩))
   go_ret
   exact ⟨by first | rfl | (simp [errW_none, errW_some] <;> rfl) | (simp [*, errW_none, errW_some] <;> rfl), bs1 HB GE234⟩
  ·
   rw [if_neg c9] at H
   have c9b0 : decide (t236 < 0) = false := decide_eq_false c9
   clear c9
   obtain rfl := Option.some.inj H
   go_enter Try.func13, Try.ntmps13
   go_wp2_with (first | ((with_reducible refine gate_dst (N := 2) rfl ?_); refine box_event ?hg (N := 2) ?hd (cs := #[.int .i64 a0_0, .slice A0_1 l0_1.length c0_1, .slice A0_2 l0_2.length c0_2, .int .i64 a0_3, .slice A0_4 l0_4.length c0_4]) (t := 27) ?hr ?_; (case hd => rfl); (case hg => rfl); (case hr => first | (go_simp; done) | (go_simp; rfl)); intro gb234 hg w14 hbox hb; have BK234 := Aside0.mk (hbox); have GW234 := Aside0.mk ((by rw [hg]; exact (below_size (bs HB)) : w.heap.size ≤ gb234)); have GE234 := Aside0.mk ((by rw [hg]; exact (below_size (bs HB)) : w.heap.size ≤ gb234)); replace HB := Aside0.mk (below_step (bs HB) hb); clear hb hbox hg; obtain ⟨hcz15_0, hcz15_1, hcz15_2, hcz15_3, hcz15_4⟩ := cz5 BK234; obtain ⟨hfz15_0, hfz15_1, hfz15_2, hfz15_3, hfz15_4⟩ := fz5 BK234) | ((with_reducible refine gate_callee (f := 36) rfl ?_); refine gL (some 8) rfl rfl Try.func36 (by kernel_rfl) rfl #[.agg #[.int .i64 a0_0, .slice A0_1 l0_1.length c0_1, .slice A0_2 l0_2.length c0_2], .int .i64 a1] rfl ?_; (with_reducible refine (laws_heldFree.calls k a0_0 _ _ l0_1 _ _ l0_2 a1 t235 _ ?side1 ?side2 ?side3 ?side4 A3.out).mono ?_); (case side1 => exact cb HR0_1 HB); (case side2 => exact HC0_1.out); (case side3 => exact cb HR0_2 HB); (case side4 => exact HC0_2.out); rintro e w16 ⟨rfl, hb⟩; refine ⟨_, rfl, ?_⟩; replace BK234 := nb BK234 hb; replace HB := Aside0.mk (below_step (bs1 HB GE234) hb); (try clear hb); (try clear hb2); (try clear hk); (try clear hi); obtain ⟨hcz17_0, hcz17_1, hcz17_2, hcz17_3, hcz17_4⟩ := cz5 BK234; obtain ⟨hfz17_0, hfz17_1, hfz17_2, hfz17_3, hfz17_4⟩ := fz5 BK234) | ((with_reducible refine gate_callee (f := 22) rfl ?_); refine gL (some 14) rfl rfl Try.func22 (by kernel_rfl) rfl #[.slice A0_4 l0_4.length c0_4, .int .i64 t235] rfl ?_; (with_reducible refine (laws_heldItemS.calls k _ _ l0_4 t235 t236 _ ?side1 ?side2 A8.out).mono ?_); (case side1 => exact cb HR0_4 HB); (case side2 => exact HC0_4.out); rintro e w' ⟨rfl, ⟨nd, rfl⟩⟩; refine ⟨_, rfl, ?_⟩))
   go_ret
   exact ⟨by first | rfl | (simp [errW_none, errW_some] <;> rfl) | (simp [*, errW_none, errW_some] <;> rfl), bs1 HB GE234⟩

/-! ### laws_FnExactNewWork: function 3 -/
mutual
def laws_FnExactNewWork.j0 : Nat → Int → Bool → Bool → Int → List (S53) → List (S53) → Int → List (S71) → Int → List (S53) → List (S53) → Int → List (S71) → Option (Bool)
 | 0, _, _, _, _, _, _, _, _, _, _, _, _, _ => none
 | k + 1, x0, x4, x29, x250000, x250001, x250002, x250003, x250004, x263000, x263001, x263002, x263003, x263004 => if x29 = true then (some false) else ((laws_markWork.f k x263000 x263001 x263002 x263003 x263004 1).bind fun bt264 => ((laws_heldWork.f k x263000 bt264.2.1 bt264.2.2.1 x263003 bt264.2.2.2 1).bind fun t268 => (if t268 < 0 then (some false) else (if t268 = bt264.1 then ((impl_NewWork.f x0).bind fun bt269 => ((laws_eqWork.f k bt269.1 bt269.2.1 bt269.2.2.1 bt269.2.2.2.1 bt269.2.2.2.2.1 x250000 x250001 x250002 x250003 x250004).bind fun t282 => (if t282 = true then (laws_FnExactNewWork.j1 k bt264.1 (bt269.2.2.2.2.2 != x4) x263000 bt264.2.1 bt264.2.2.1 x263003 bt264.2.2.2) else (laws_FnExactNewWork.j1 k bt264.1 true x263000 bt264.2.1 bt264.2.2.1 x263003 bt264.2.2.2)))) else (some false)))))
def laws_FnExactNewWork.j1 : Nat → Int → Bool → Int → List (S53) → List (S53) → Int → List (S71) → Option (Bool)
 | 0, _, _, _, _, _, _, _ => none
 | k + 1, x7, x54, x263000, x263001, x263002, x263003, x263004 => if x54 = true then (some false) else ((laws_heldWork.f k x263000 x263001 x263002 x263003 x263004 1).bind fun t283 => (if t283 < 0 then (some false) else (if t283 = x7 then (some true) else (some false))))
end
def laws_FnExactNewWork.f (k : Nat) (a0 : Int) : Option (Bool) := (spec_NewWork.f k a0).bind fun bt237 => ((impl_NewWork.f a0).bind fun bt250 => ((laws_eqWork.f k bt250.1 bt250.2.1 bt250.2.2.1 bt250.2.2.2.1 bt250.2.2.2.2.1 bt237.1 bt237.2.1 bt237.2.2.1 bt237.2.2.2.1 bt237.2.2.2.2.1).bind fun t263 => (if t263 = true then (laws_FnExactNewWork.j0 k a0 bt237.2.2.2.2.2 (bt250.2.2.2.2.2 != bt237.2.2.2.2.2) bt237.1 bt237.2.1 bt237.2.2.1 bt237.2.2.2.1 bt237.2.2.2.2.1 bt250.1 bt250.2.1 bt250.2.2.1 bt250.2.2.2.1 bt250.2.2.2.2.1) else (laws_FnExactNewWork.j0 k a0 bt237.2.2.2.2.2 true bt237.1 bt237.2.1 bt237.2.2.1 bt237.2.2.2.1 bt237.2.2.2.2.1 bt250.1 bt250.2.1 bt250.2.2.1 bt250.2.2.2.1 bt250.2.2.2.2.1))))
theorem laws_FnExactNewWork.mono_l : ∀ k, (∀ y0 y1 y2 y3 y4 y5 y6 y7 y8 y9 y10 y11 y12, LeO (laws_FnExactNewWork.j0 k y0 y1 y2 y3 y4 y5 y6 y7 y8 y9 y10 y11 y12) (laws_FnExactNewWork.j0 (k + 1) y0 y1 y2 y3 y4 y5 y6 y7 y8 y9 y10 y11 y12)) ∧ (∀ y0 y1 y2 y3 y4 y5 y6, LeO (laws_FnExactNewWork.j1 k y0 y1 y2 y3 y4 y5 y6) (laws_FnExactNewWork.j1 (k + 1) y0 y1 y2 y3 y4 y5 y6))
 | 0 => ⟨fun _ _ _ _ _ _ _ _ _ _ _ _ _ r h => by simp [laws_FnExactNewWork.j0] at h, fun _ _ _ _ _ _ _ r h => by simp [laws_FnExactNewWork.j1] at h⟩
 | k + 1 => by
  obtain ⟨ih0, ih1⟩ := laws_FnExactNewWork.mono_l k
  refine ⟨?_, ?_⟩
  ·
   intro y0 y1 y2 y3 y4 y5 y6 y7 y8 y9 y10 y11 y12
   unfold laws_FnExactNewWork.j0
   repeat' first
   | (with_reducible exact ih0 _ _ _ _ _ _ _ _ _ _ _ _ _)
   | (with_reducible exact ih1 _ _ _ _ _ _ _)
   | (with_reducible exact laws_eqWork.mono _ _ _ _ _ _ _ _ _ _ _)
   | (with_reducible exact laws_heldWork.mono _ _ _ _ _ _ _)
   | (with_reducible exact laws_markWork.mono _ _ _ _ _ _ _)
   | (with_reducible exact spec_NewWork.mono _ _)
   | (with_reducible exact LeO.refl _)
   | (with_reducible exact LeO.none _)
   | (with_reducible refine LeO.ite ?_ ?_)
   | (with_reducible refine LeO.bind ?_ (fun _ => ?_))
   | exact ih0 _ _ _ _ _ _ _ _ _ _ _ _ _
   | exact ih1 _ _ _ _ _ _ _
   | exact laws_eqWork.mono _ _ _ _ _ _ _ _ _ _ _
   | exact laws_heldWork.mono _ _ _ _ _ _ _
   | exact laws_markWork.mono _ _ _ _ _ _ _
   | exact spec_NewWork.mono _ _
   | exact LeO.none _
   | refine LeO.ite ?_ ?_
   | refine LeO.bind ?_ (fun _ => ?_)
  ·
   intro y0 y1 y2 y3 y4 y5 y6
   unfold laws_FnExactNewWork.j1
   repeat' first
   | (with_reducible exact ih0 _ _ _ _ _ _ _ _ _ _ _ _ _)
   | (with_reducible exact ih1 _ _ _ _ _ _ _)
   | (with_reducible exact laws_eqWork.mono _ _ _ _ _ _ _ _ _ _ _)
   | (with_reducible exact laws_heldWork.mono _ _ _ _ _ _ _)
   | (with_reducible exact laws_markWork.mono _ _ _ _ _ _ _)
   | (with_reducible exact spec_NewWork.mono _ _)
   | (with_reducible exact LeO.refl _)
   | (with_reducible exact LeO.none _)
   | (with_reducible refine LeO.ite ?_ ?_)
   | (with_reducible refine LeO.bind ?_ (fun _ => ?_))
   | exact ih0 _ _ _ _ _ _ _ _ _ _ _ _ _
   | exact ih1 _ _ _ _ _ _ _
   | exact laws_eqWork.mono _ _ _ _ _ _ _ _ _ _ _
   | exact laws_heldWork.mono _ _ _ _ _ _ _
   | exact laws_markWork.mono _ _ _ _ _ _ _
   | exact spec_NewWork.mono _ _
   | exact LeO.none _
   | refine LeO.ite ?_ ?_
   | refine LeO.bind ?_ (fun _ => ?_)
theorem laws_FnExactNewWork.mono : ∀ a0 k, LeO (laws_FnExactNewWork.f k a0) (laws_FnExactNewWork.f (k + 1) a0) := by
 intro a0 k
 obtain ⟨ih0, ih1⟩ := laws_FnExactNewWork.mono_l k
 unfold laws_FnExactNewWork.f
 repeat' first
   | (with_reducible exact ih0 _ _ _ _ _ _ _ _ _ _ _ _ _)
   | (with_reducible exact ih1 _ _ _ _ _ _ _)
   | (with_reducible exact laws_eqWork.mono _ _ _ _ _ _ _ _ _ _ _)
   | (with_reducible exact laws_heldWork.mono _ _ _ _ _ _ _)
   | (with_reducible exact laws_markWork.mono _ _ _ _ _ _ _)
   | (with_reducible exact spec_NewWork.mono _ _)
   | (with_reducible exact LeO.refl _)
   | (with_reducible exact LeO.none _)
   | (with_reducible refine LeO.ite ?_ ?_)
   | (with_reducible refine LeO.bind ?_ (fun _ => ?_))
   | exact ih0 _ _ _ _ _ _ _ _ _ _ _ _ _
   | exact ih1 _ _ _ _ _ _ _
   | exact laws_eqWork.mono _ _ _ _ _ _ _ _ _ _ _
   | exact laws_heldWork.mono _ _ _ _ _ _ _
   | exact laws_markWork.mono _ _ _ _ _ _ _
   | exact spec_NewWork.mono _ _
   | exact LeO.none _
   | refine LeO.ite ?_ ?_
   | refine LeO.bind ?_ (fun _ => ?_)
set_option maxHeartbeats 8000000 in
set_option maxRecDepth 100000 in
theorem laws_FnExactNewWork.calls (k : Nat) (a0 : Int) (r : Bool) (w : World) (h : laws_FnExactNewWork.f k a0 = some r) :
  Calls Try.prog 3 #[.int .i64 a0] w fun e w' => e = .returned (.bool r) ∧ Below w.heap.size w w' := by
 have hu27 := Try.underlying27
 have HB := Aside0.mk (Below.refl w.heap.size w)
 have H : ((spec_NewWork.f k a0).bind fun bt237 => ((impl_NewWork.f a0).bind fun bt250 => ((laws_eqWork.f k bt250.1 bt250.2.1 bt250.2.2.1 bt250.2.2.2.1 bt250.2.2.2.2.1 bt237.1 bt237.2.1 bt237.2.2.1 bt237.2.2.2.1 bt237.2.2.2.2.1).bind fun t263 => (if t263 = true then (laws_FnExactNewWork.j0 k a0 bt237.2.2.2.2.2 (bt250.2.2.2.2.2 != bt237.2.2.2.2.2) bt237.1 bt237.2.1 bt237.2.2.1 bt237.2.2.2.1 bt237.2.2.2.2.1 bt250.1 bt250.2.1 bt250.2.2.1 bt250.2.2.2.1 bt250.2.2.2.2.1) else (laws_FnExactNewWork.j0 k a0 bt237.2.2.2.2.2 true bt237.1 bt237.2.1 bt237.2.2.1 bt237.2.2.2.1 bt237.2.2.2.2.1 bt250.1 bt250.2.1 bt250.2.2.1 bt250.2.2.2.1 bt250.2.2.2.2.1))))) = some r := h
 clear h
 replace H := Option.bind_eq_some_iff.mp H
 obtain ⟨⟨t237, t238, t241, t244, t245, t248⟩, A20, H⟩ := H
 replace H : ((impl_NewWork.f a0).bind fun bt250 => ((laws_eqWork.f k bt250.1 bt250.2.1 bt250.2.2.1 bt250.2.2.2.1 bt250.2.2.2.2.1 t237 t238 t241 t244 t245).bind fun t263 => (if t263 = true then (laws_FnExactNewWork.j0 k a0 t248 (bt250.2.2.2.2.2 != t248) t237 t238 t241 t244 t245 bt250.1 bt250.2.1 bt250.2.2.1 bt250.2.2.2.1 bt250.2.2.2.2.1) else (laws_FnExactNewWork.j0 k a0 t248 true t237 t238 t241 t244 t245 bt250.1 bt250.2.1 bt250.2.2.1 bt250.2.2.2.1 bt250.2.2.2.2.1)))) = some r := H
 have A2 := Aside0.mk A20
 clear A20
 replace H := Option.bind_eq_some_iff.mp H
 obtain ⟨⟨t250, t251, t254, t257, t258, t261⟩, A30, H⟩ := H
 replace H : ((laws_eqWork.f k t250 t251 t254 t257 t258 t237 t238 t241 t244 t245).bind fun t263 => (if t263 = true then (laws_FnExactNewWork.j0 k a0 t248 (t261 != t248) t237 t238 t241 t244 t245 t250 t251 t254 t257 t258) else (laws_FnExactNewWork.j0 k a0 t248 true t237 t238 t241 t244 t245 t250 t251 t254 t257 t258))) = some r := H
 have A3 := Aside0.mk A30
 clear A30
 have HC4 := Aside0.mk H
 clear H
 go_enter Try.func3, Try.ntmps3
 go_upto_region 3 with (first | ((with_reducible refine gate_callee (f := 9) rfl ?_); refine gL (some 13) rfl rfl Try.func9 (by kernel_rfl) rfl #[.int .i64 a0] rfl ?_; (with_reducible refine (spec_NewWork.calls k a0 t237 t238 t241 t244 t245 t248 _ A2.out).mono ?_); rintro e w5 ⟨v239, v242, v246, rfl, ho0, ho1, ho2, hb⟩; refine ⟨_, rfl, ?_⟩; have HO240 := Aside0.mk (Kd.R_lower ho0 (below_size (bs HB))); have HO243 := Aside0.mk (Kd.R_lower ho1 (below_size (bs HB))); have HO247 := Aside0.mk (Kd.R_lower ho2 (below_size (bs HB))); replace HB := Aside0.mk (below_step (bs HB) hb); (try clear hb); (try clear hb2); (try clear hk); (try clear hi); (try clear ho0); (try clear ho1); (try clear ho2)) | ((with_reducible refine gate_dst (N := 3) rfl ?_); refine box_event ?hg (N := 3) ?hd (cs := #[.int .i64 0, .slice none 0 0, .slice none 0 0, .int .i64 0, .slice none 0 0]) (t := 27) ?hr ?_; (case hd => rfl); (case hg => rfl); (case hr => first | (go_simp; done) | (go_simp; rfl)); intro gb249 hg w6 hbox hb; replace HO240 := nr HO240 hb; replace HO243 := nr HO243 hb; replace HO247 := nr HO247 hb; have BK249 := Aside0.mk (hbox); have GW249 := Aside0.mk ((by rw [hg]; exact (below_size (bs HB)) : w.heap.size ≤ gb249)); have GE249 := Aside0.mk ((by rw [hg]; exact (below_size (bs HB)) : w.heap.size ≤ gb249)); replace HB := Aside0.mk (below_step (bs HB) hb); clear hb hbox hg; obtain ⟨hcz7_0, hcz7_1, hcz7_2, hcz7_3, hcz7_4⟩ := cz5 BK249; obtain ⟨hfz7_0, hfz7_1, hfz7_2, hfz7_3, hfz7_4⟩ := fz5 BK249; obtain ⟨Ao8, co8, eo8⟩ := Kd.R_slice HO240.out; subst eo8; obtain ⟨Ao9, co9, eo9⟩ := Kd.R_slice HO243.out; subst eo9; obtain ⟨Ao10, co10, eo10⟩ := Kd.R_slice HO247.out; subst eo10) | ((with_reducible refine gate_callee (f := 10) rfl ?_); refine gL (some 18) rfl rfl Try.func10 (by kernel_rfl) rfl #[.int .i64 a0] rfl ?_; (with_reducible refine (impl_NewWork.calls a0 t250 t251 t254 t257 t258 t261 _ A3.out).mono ?_); rintro e w11 ⟨v252, v255, v259, rfl, ho0, ho1, ho2, hb⟩; refine ⟨_, rfl, ?_⟩; have HO253 := Aside0.mk (Kd.R_lower (Kd.R_new' (Kd.R_new' ho0 (Kd.R_lt (rf HO240 BK249))) (Kd.R_lt (rf HO243 BK249))) (below_size (bs1 HB GE249))); have HO256 := Aside0.mk (Kd.R_lower (Kd.R_new' (Kd.R_new' ho1 (Kd.R_lt (rf HO240 BK249))) (Kd.R_lt (rf HO243 BK249))) (below_size (bs1 HB GE249))); replace HO240 := Aside0.mk (Kd.R_mono (Kd.R_told (Kd.R_told (Kd.R_old (rf HO240 BK249) hb) (Kd.R_base ho0)) (Kd.R_base ho1)) (fun _ h_ => h_.1)); replace HO243 := Aside0.mk (Kd.R_mono (Kd.R_told (Kd.R_told (Kd.R_old (rf HO243 BK249) hb) (Kd.R_base ho0)) (Kd.R_base ho1)) (fun _ h_ => h_.1)); have HO260 := Aside0.mk (Kd.R_lower (Kd.R_new' ho2 (Kd.R_lt (rf HO247 BK249))) (below_size (bs1 HB GE249))); replace HO247 := Aside0.mk (Kd.R_elder' (rf HO247 BK249) (Kd.R_base ho2) hb); replace BK249 := Aside0.mk (blk_below (g := gb249) (o := .cells #[.int .i64 t237, .slice Ao8 t238.length co8, .slice Ao9 t241.length co9, .int .i64 t244, .slice Ao10 t245.length co10] 27 (0, 0)) (by (with_reducible repeat (first | refine blk_drewN ?_ _ | refine blk_drew ?_ | refine blk_alloc ?_ _)); refine blk_put (cs := #[.int .i64 t237, .slice Ao8 t238.length co8, .slice Ao9 t241.length co9, .int .i64 t244, .slice none 0 0]) ?_ 4 _ rfl; (with_reducible repeat (first | refine blk_drewN ?_ _ | refine blk_drew ?_ | refine blk_alloc ?_ _)); refine blk_put (cs := #[.int .i64 t237, .slice Ao8 t238.length co8, .slice Ao9 t241.length co9, .int .i64 0, .slice none 0 0]) ?_ 3 _ rfl; (with_reducible repeat (first | refine blk_drewN ?_ _ | refine blk_drew ?_ | refine blk_alloc ?_ _)); refine blk_put (cs := #[.int .i64 t237, .slice Ao8 t238.length co8, .slice none 0 0, .int .i64 0, .slice none 0 0]) ?_ 2 _ rfl; (with_reducible repeat (first | refine blk_drewN ?_ _ | refine blk_drew ?_ | refine blk_alloc ?_ _)); refine blk_put (cs := #[.int .i64 t237, .slice none 0 0, .slice none 0 0, .int .i64 0, .slice none 0 0]) ?_ 1 _ rfl; (with_reducible repeat (first | refine blk_drewN ?_ _ | refine blk_drew ?_ | refine blk_alloc ?_ _)); refine blk_put (cs := #[.int .i64 0, .slice none 0 0, .slice none 0 0, .int .i64 0, .slice none 0 0]) ?_ 0 _ rfl; (with_reducible repeat (first | refine blk_drewN ?_ _ | refine blk_drew ?_ | refine blk_alloc ?_ _)); exact BK249.out) hb); replace HB := Aside0.mk (below_step (bs1 HB GE249) hb); (try clear hb); (try clear hb2); (try clear hk); (try clear hi); (try clear ho0); (try clear ho1); (try clear ho2)) | ((with_reducible refine gate_dst (N := 5) rfl ?_); refine box_event ?hg (N := 5) ?hd (cs := #[.int .i64 0, .slice none 0 0, .slice none 0 0, .int .i64 0, .slice none 0 0]) (t := 27) ?hr ?_; (case hd => rfl); (case hg => rfl); (case hr => first | (go_simp; done) | (go_simp; rfl)); intro gb262 hg w12 hbox hb; replace HO240 := nr HO240 hb; replace HO243 := nr HO243 hb; replace HO247 := nr HO247 hb; replace HO253 := nr HO253 hb; replace HO256 := nr HO256 hb; replace HO260 := nr HO260 hb; have BK262 := Aside0.mk (hbox); have GW262 := Aside0.mk ((by rw [hg]; exact (below_size (bs1 HB GE249)) : w.heap.size ≤ gb262)); have GE262 := Aside0.mk ((by rw [hg]; exact (below_size (bs1 HB GE249)) : w.heap.size ≤ gb262)); replace HB := Aside0.mk (below_step (bs1 HB GE249) hb); have NB249_262 := Aside0.mk ((bn BK249 hg : gb249 ≠ gb262)); have NB262_249 := Aside0.mk ((bm BK249 hg : gb262 ≠ gb249)); replace BK249 := nb BK249 hb; clear hb hbox hg; have hnb13 := NB262_249.out; have hnc13 := NB249_262.out; obtain ⟨hcz14_0, hcz14_1, hcz14_2, hcz14_3, hcz14_4⟩ := cz5 BK262; obtain ⟨hfz14_0, hfz14_1, hfz14_2, hfz14_3, hfz14_4⟩ := fz5 BK262; obtain ⟨Ao15, co15, eo15⟩ := Kd.R_slice HO253.out; subst eo15; obtain ⟨Ao16, co16, eo16⟩ := Kd.R_slice HO256.out; subst eo16; obtain ⟨Ao17, co17, eo17⟩ := Kd.R_slice HO260.out; subst eo17))
 (try simp only [Act.put, List.setIfInBounds_toArray, List.set_cons_zero, List.set_cons_succ])
 go_cut [29] (fun v29 wc => ∃ (kq : Nat) (x29_3 : Bool), v29 = .bool x29_3 ∧ Aside0 (laws_FnExactNewWork.j0 kq a0 t248 x29_3 t237 t238 t241 t244 t245 t250 t251 t254 t257 t258 = some r) ∧ Aside0 (kq ≤ k) ∧ Aside0 (Kd.R k53 53 wc w.heap.size (fun k_ => some k_ ≠ ((.slice Ao9 t241.length co9) : Value).ownBlock ∧ some k_ ≠ ((.slice Ao15 t251.length co15) : Value).ownBlock ∧ some k_ ≠ ((.slice Ao16 t254.length co16) : Value).ownBlock) (.slice Ao8 t238.length co8) t238) ∧ Aside0 (Kd.R k53 53 wc w.heap.size (fun k_ => some k_ ≠ ((.slice Ao8 t238.length co8) : Value).ownBlock ∧ some k_ ≠ ((.slice Ao15 t251.length co15) : Value).ownBlock ∧ some k_ ≠ ((.slice Ao16 t254.length co16) : Value).ownBlock) (.slice Ao9 t241.length co9) t241) ∧ Aside0 (Kd.R k71 71 wc w.heap.size (fun k_ => some k_ ≠ ((.slice Ao17 t258.length co17) : Value).ownBlock) (.slice Ao10 t245.length co10) t245) ∧ Aside0 (Kd.R k53 53 wc w.heap.size (fun k_ => some k_ ≠ ((.slice Ao8 t238.length co8) : Value).ownBlock ∧ some k_ ≠ ((.slice Ao9 t241.length co9) : Value).ownBlock ∧ some k_ ≠ ((.slice Ao16 t254.length co16) : Value).ownBlock) (.slice Ao15 t251.length co15) t251) ∧ Aside0 (Kd.R k53 53 wc w.heap.size (fun k_ => some k_ ≠ ((.slice Ao8 t238.length co8) : Value).ownBlock ∧ some k_ ≠ ((.slice Ao9 t241.length co9) : Value).ownBlock ∧ some k_ ≠ ((.slice Ao15 t251.length co15) : Value).ownBlock) (.slice Ao16 t254.length co16) t254) ∧ Aside0 (Kd.R k71 71 wc w.heap.size (fun k_ => some k_ ≠ ((.slice Ao10 t245.length co10) : Value).ownBlock) (.slice Ao17 t258.length co17) t258) ∧ Aside0 (wc.heap[gb249]? = some (.cells #[.int .i64 t237, (.slice Ao8 t238.length co8), (.slice Ao9 t241.length co9), .int .i64 t244, (.slice Ao10 t245.length co10)] 27 (0, 0))) ∧ Aside0 (wc.heap[gb262]? = some (.cells #[.int .i64 t250, (.slice Ao15 t251.length co15), (.slice Ao16 t254.length co16), .int .i64 t257, (.slice Ao17 t258.length co17)] 27 (0, 0))) ∧ Aside0 (Below w.heap.size w wc))
 case first =>
  have H := HC4.out
  clear HC4
  replace H := Option.bind_eq_some_iff.mp H
  obtain ⟨t263, A180, H⟩ := H
  replace H : (if t263 = true then (laws_FnExactNewWork.j0 k a0 t248 (t261 != t248) t237 t238 t241 t244 t245 t250 t251 t254 t257 t258) else (laws_FnExactNewWork.j0 k a0 t248 true t237 t238 t241 t244 t245 t250 t251 t254 t257 t258)) = some r := H
  have A18 := Aside0.mk A180
  clear A180
  by_cases c19 : t263 = true
  ·
   subst c19
   rw [if_pos rfl] at H
   have H' := Aside0.mk H
   clear H
   have hnb20 := NB262_249.out
   have hnc20 := NB249_262.out
   obtain ⟨hcz21_0, hcz21_1, hcz21_2, hcz21_3, hcz21_4⟩ := cz5 BK262
   obtain ⟨hfz21_0, hfz21_1, hfz21_2, hfz21_3, hfz21_4⟩ := fz5 BK262
   obtain ⟨hcz22_0, hcz22_1, hcz22_2, hcz22_3, hcz22_4⟩ := cz5 BK249
   obtain ⟨hfz22_0, hfz22_1, hfz22_2, hfz22_3, hfz22_4⟩ := fz5 BK249
   go_wp2_with (first | ((with_reducible refine gate_callee (f := 11) rfl ?_); refine gL (some 23) rfl rfl Try.func11 (by kernel_rfl) rfl #[.agg #[.int .i64 t250, .slice Ao15 t251.length co15, .slice Ao16 t254.length co16, .int .i64 t257, .slice Ao17 t258.length co17], .agg #[.int .i64 t237, .slice Ao8 t238.length co8, .slice Ao9 t241.length co9, .int .i64 t244, .slice Ao10 t245.length co10]] rfl ?_; (with_reducible refine (laws_eqWork.calls k t250 _ _ t251 _ _ t254 t257 _ _ t258 t237 _ _ t238 _ _ t241 t244 _ _ t245 true _ ?side1 ?side2 ?side3 ?side4 ?side5 ?side6 ?side7 ?side8 ?side9 ?side10 ?side11 ?side12 A18.out).mono ?_); (case side1 => exact rc HO253 BK262); (case side2 => exact (Kd.R_reads' HO253.out).2.1); (case side3 => exact rc HO256 BK262); (case side4 => exact (Kd.R_reads' HO256.out).2.1); (case side5 => exact rc HO260 BK262); (case side6 => exact (Kd.R_reads' HO260.out).2.1); (case side7 => exact rc HO240 BK262); (case side8 => exact (Kd.R_reads' HO240.out).2.1); (case side9 => exact rc HO243 BK262); (case side10 => exact (Kd.R_reads' HO243.out).2.1); (case side11 => exact rc HO247 BK262); (case side12 => exact (Kd.R_reads' HO247.out).2.1); rintro e w23 ⟨rfl, hb⟩; refine ⟨_, rfl, ?_⟩; replace HO240 := nf HO240 BK262 hb; replace HO243 := nf HO243 BK262 hb; replace HO247 := nf HO247 BK262 hb; replace HO253 := nf HO253 BK262 hb; replace HO256 := nf HO256 BK262 hb; replace HO260 := nf HO260 BK262 hb; replace BK249 := Aside0.mk (blk_below (bf BK249 NB249_262) hb); replace BK262 := Aside0.mk (blk_below (g := gb262) (o := .cells #[.int .i64 t250, .slice Ao15 t251.length co15, .slice Ao16 t254.length co16, .int .i64 t257, .slice Ao17 t258.length co17] 27 (0, 0)) (by (with_reducible repeat (first | refine blk_drewN ?_ _ | refine blk_drew ?_ | refine blk_alloc ?_ _)); refine blk_put (cs := #[.int .i64 t250, .slice Ao15 t251.length co15, .slice Ao16 t254.length co16, .int .i64 t257, .slice none 0 0]) ?_ 4 _ rfl; (with_reducible repeat (first | refine blk_drewN ?_ _ | refine blk_drew ?_ | refine blk_alloc ?_ _)); refine blk_put (cs := #[.int .i64 t250, .slice Ao15 t251.length co15, .slice Ao16 t254.length co16, .int .i64 0, .slice none 0 0]) ?_ 3 _ rfl; (with_reducible repeat (first | refine blk_drewN ?_ _ | refine blk_drew ?_ | refine blk_alloc ?_ _)); refine blk_put (cs := #[.int .i64 t250, .slice Ao15 t251.length co15, .slice none 0 0, .int .i64 0, .slice none 0 0]) ?_ 2 _ rfl; (with_reducible repeat (first | refine blk_drewN ?_ _ | refine blk_drew ?_ | refine blk_alloc ?_ _)); refine blk_put (cs := #[.int .i64 t250, .slice none 0 0, .slice none 0 0, .int .i64 0, .slice none 0 0]) ?_ 1 _ rfl; (with_reducible repeat (first | refine blk_drewN ?_ _ | refine blk_drew ?_ | refine blk_alloc ?_ _)); refine blk_put (cs := #[.int .i64 0, .slice none 0 0, .slice none 0 0, .int .i64 0, .slice none 0 0]) ?_ 0 _ rfl; (with_reducible repeat (first | refine blk_drewN ?_ _ | refine blk_drew ?_ | refine blk_alloc ?_ _)); exact BK262.out) hb); replace HB := Aside0.mk (below_step (bs2 HB GE249 GE262) hb); (try clear hb); (try clear hb2); (try clear hk); (try clear hi)))
   go_meet
   case rel => exact ⟨_, ((t261 != t248)), (by first | rfl | (simp; done) | (simp [*]; done)), H', ⟨by first | omega | exact Nat.le_refl _⟩, rm HO240 (fun _ hk => ⟨hk.1.1, ⟨hk.1.2, hk.2⟩⟩), rm HO243 (fun _ hk => ⟨hk.1.1, ⟨hk.1.2, hk.2⟩⟩), rm HO247 (fun _ hk => hk.2), rm HO253 (fun _ hk => ⟨hk.1.2, ⟨hk.2, hk.1.1⟩⟩), rm HO256 (fun _ hk => ⟨hk.1.2, ⟨hk.2, hk.1.1⟩⟩), rm HO260 (fun _ hk => hk.2), ⟨bk BK249⟩, ⟨bk BK262⟩, ⟨bs2 HB GE249 GE262⟩⟩
  ·
   replace c19 := Bool.eq_false_iff.mpr c19
   subst c19
   rw [if_neg (show ¬ (false = true) by decide)] at H
   have H' := Aside0.mk H
   clear H
   have hnb24 := NB262_249.out
   have hnc24 := NB249_262.out
   obtain ⟨hcz25_0, hcz25_1, hcz25_2, hcz25_3, hcz25_4⟩ := cz5 BK262
   obtain ⟨hfz25_0, hfz25_1, hfz25_2, hfz25_3, hfz25_4⟩ := fz5 BK262
   obtain ⟨hcz26_0, hcz26_1, hcz26_2, hcz26_3, hcz26_4⟩ := cz5 BK249
   obtain ⟨hfz26_0, hfz26_1, hfz26_2, hfz26_3, hfz26_4⟩ := fz5 BK249
   go_wp2_with (first | ((with_reducible refine gate_callee (f := 11) rfl ?_); refine gL (some 23) rfl rfl Try.func11 (by kernel_rfl) rfl #[.agg #[.int .i64 t250, .slice Ao15 t251.length co15, .slice Ao16 t254.length co16, .int .i64 t257, .slice Ao17 t258.length co17], .agg #[.int .i64 t237, .slice Ao8 t238.length co8, .slice Ao9 t241.length co9, .int .i64 t244, .slice Ao10 t245.length co10]] rfl ?_; (with_reducible refine (laws_eqWork.calls k t250 _ _ t251 _ _ t254 t257 _ _ t258 t237 _ _ t238 _ _ t241 t244 _ _ t245 false _ ?side1 ?side2 ?side3 ?side4 ?side5 ?side6 ?side7 ?side8 ?side9 ?side10 ?side11 ?side12 A18.out).mono ?_); (case side1 => exact rc HO253 BK262); (case side2 => exact (Kd.R_reads' HO253.out).2.1); (case side3 => exact rc HO256 BK262); (case side4 => exact (Kd.R_reads' HO256.out).2.1); (case side5 => exact rc HO260 BK262); (case side6 => exact (Kd.R_reads' HO260.out).2.1); (case side7 => exact rc HO240 BK262); (case side8 => exact (Kd.R_reads' HO240.out).2.1); (case side9 => exact rc HO243 BK262); (case side10 => exact (Kd.R_reads' HO243.out).2.1); (case side11 => exact rc HO247 BK262); (case side12 => exact (Kd.R_reads' HO247.out).2.1); rintro e w27 ⟨rfl, hb⟩; refine ⟨_, rfl, ?_⟩; replace HO240 := nf HO240 BK262 hb; replace HO243 := nf HO243 BK262 hb; replace HO247 := nf HO247 BK262 hb; replace HO253 := nf HO253 BK262 hb; replace HO256 := nf HO256 BK262 hb; replace HO260 := nf HO260 BK262 hb; replace BK249 := Aside0.mk (blk_below (bf BK249 NB249_262) hb); replace BK262 := Aside0.mk (blk_below (g := gb262) (o := .cells #[.int .i64 t250, .slice Ao15 t251.length co15, .slice Ao16 t254.length co16, .int .i64 t257, .slice Ao17 t258.length co17] 27 (0, 0)) (by (with_reducible repeat (first | refine blk_drewN ?_ _ | refine blk_drew ?_ | refine blk_alloc ?_ _)); refine blk_put (cs := #[.int .i64 t250, .slice Ao15 t251.length co15, .slice Ao16 t254.length co16, .int .i64 t257, .slice none 0 0]) ?_ 4 _ rfl; (with_reducible repeat (first | refine blk_drewN ?_ _ | refine blk_drew ?_ | refine blk_alloc ?_ _)); refine blk_put (cs := #[.int .i64 t250, .slice Ao15 t251.length co15, .slice Ao16 t254.length co16, .int .i64 0, .slice none 0 0]) ?_ 3 _ rfl; (with_reducible repeat (first | refine blk_drewN ?_ _ | refine blk_drew ?_ | refine blk_alloc ?_ _)); refine blk_put (cs := #[.int .i64 t250, .slice Ao15 t251.length co15, .slice none 0 0, .int .i64 0, .slice none 0 0]) ?_ 2 _ rfl; (with_reducible repeat (first | refine blk_drewN ?_ _ | refine blk_drew ?_ | refine blk_alloc ?_ _)); refine blk_put (cs := #[.int .i64 t250, .slice none 0 0, .slice none 0 0, .int .i64 0, .slice none 0 0]) ?_ 1 _ rfl; (with_reducible repeat (first | refine blk_drewN ?_ _ | refine blk_drew ?_ | refine blk_alloc ?_ _)); refine blk_put (cs := #[.int .i64 0, .slice none 0 0, .slice none 0 0, .int .i64 0, .slice none 0 0]) ?_ 0 _ rfl; (with_reducible repeat (first | refine blk_drewN ?_ _ | refine blk_drew ?_ | refine blk_alloc ?_ _)); exact BK262.out) hb); replace HB := Aside0.mk (below_step (bs2 HB GE249 GE262) hb); (try clear hb); (try clear hb2); (try clear hk); (try clear hi)))
   go_meet
   case rel => exact ⟨_, (true), (by first | rfl | (simp; done) | (simp [*]; done)), H', ⟨by first | omega | exact Nat.le_refl _⟩, rm HO240 (fun _ hk => ⟨hk.1.1, ⟨hk.1.2, hk.2⟩⟩), rm HO243 (fun _ hk => ⟨hk.1.1, ⟨hk.1.2, hk.2⟩⟩), rm HO247 (fun _ hk => hk.2), rm HO253 (fun _ hk => ⟨hk.1.2, ⟨hk.2, hk.1.1⟩⟩), rm HO256 (fun _ hk => ⟨hk.1.2, ⟨hk.2, hk.1.1⟩⟩), rm HO260 (fun _ hk => hk.2), ⟨bk BK249⟩, ⟨bk BK262⟩, ⟨bs2 HB GE249 GE262⟩⟩
 case rest =>
  clear HC4
  try clear c1
  try clear c2
  try clear p2
  try clear c3
  try clear c9
  try clear c10
  try clear c11
  try clear c13
  try clear c19
  try clear c20
  try clear c24
  try clear hcz14_0 hcz14_1 hcz14_2 hcz14_3 hcz14_4
  try clear hcz21_0 hcz21_1 hcz21_2 hcz21_3 hcz21_4
  try clear hcz22_0 hcz22_1 hcz22_2 hcz22_3 hcz22_4
  try clear hcz25_0 hcz25_1 hcz25_2 hcz25_3 hcz25_4
  try clear hcz26_0 hcz26_1 hcz26_2 hcz26_3 hcz26_4
  try clear hcz7_0 hcz7_1 hcz7_2 hcz7_3 hcz7_4
  try clear hfz14_0 hfz14_1 hfz14_2 hfz14_3 hfz14_4
  try clear hfz21_0 hfz21_1 hfz21_2 hfz21_3 hfz21_4
  try clear hfz22_0 hfz22_1 hfz22_2 hfz22_3 hfz22_4
  try clear hfz25_0 hfz25_1 hfz25_2 hfz25_3 hfz25_4
  try clear hfz26_0 hfz26_1 hfz26_2 hfz26_3 hfz26_4
  try clear hfz7_0 hfz7_1 hfz7_2 hfz7_3 hfz7_4
  obtain ⟨kq, x29_3, rfl, HA, HJ3, HO_250001, HO_250002, HO_250004, HO_263001, HO_263002, HO_263004, BK249, BK262, HB⟩ := hcut
  cases kq with
  | zero => exact absurd HA.out (by simp [laws_FnExactNewWork.j0])
  | succ kj3 =>
   have H := HA.out
   clear HA
   simp only [laws_FnExactNewWork.j0] at H
   by_cases c28 : x29_3 = true
   ·
    subst c28
    rw [if_pos rfl] at H
    obtain rfl := Option.some.inj H
    go_wp2
    go_ret
    exact ⟨by first | rfl | (simp [errW_none, errW_some] <;> rfl) | (simp [*, errW_none, errW_some] <;> rfl), bs2 HB GE249 GE262⟩
   ·
    replace c28 := Bool.eq_false_iff.mpr c28
    subst c28
    rw [if_neg (show ¬ (false = true) by decide)] at H
    replace H := Option.bind_eq_some_iff.mp H
    obtain ⟨⟨t264, t265, t266, t267⟩, A290, H⟩ := H
    replace H : ((laws_heldWork.f kj3 t250 t265 t266 t257 t267 1).bind fun t268 => (if t268 < 0 then (some false) else (if t268 = t264 then ((impl_NewWork.f a0).bind fun bt269 => ((laws_eqWork.f kj3 bt269.1 bt269.2.1 bt269.2.2.1 bt269.2.2.2.1 bt269.2.2.2.2.1 t237 t238 t241 t244 t245).bind fun t282 => (if t282 = true then (laws_FnExactNewWork.j1 kj3 t264 (bt269.2.2.2.2.2 != t248) t250 t265 t266 t257 t267) else (laws_FnExactNewWork.j1 kj3 t264 true t250 t265 t266 t257 t267)))) else (some false)))) = some r := H
    have A29 := Aside0.mk A290
    clear A290
    replace H := Option.bind_eq_some_iff.mp H
    obtain ⟨t268, A300, H⟩ := H
    replace H : (if t268 < 0 then (some false) else (if t268 = t264 then ((impl_NewWork.f a0).bind fun bt269 => ((laws_eqWork.f kj3 bt269.1 bt269.2.1 bt269.2.2.1 bt269.2.2.2.1 bt269.2.2.2.2.1 t237 t238 t241 t244 t245).bind fun t282 => (if t282 = true then (laws_FnExactNewWork.j1 kj3 t264 (bt269.2.2.2.2.2 != t248) t250 t265 t266 t257 t267) else (laws_FnExactNewWork.j1 kj3 t264 true t250 t265 t266 t257 t267)))) else (some false))) = some r := H
    have A30 := Aside0.mk A300
    clear A300
    by_cases c31 : t268 < 0
    ·
     rw [if_pos c31] at H
     have c31b0 : decide (t268 < 0) = true := decide_eq_true c31
     clear c31
     obtain rfl := Option.some.inj H
     have hnb32 := NB262_249.out
     have hnc32 := NB249_262.out
     obtain ⟨hcz33_0, hcz33_1, hcz33_2, hcz33_3, hcz33_4⟩ := cz5 BK262
     obtain ⟨hfz33_0, hfz33_1, hfz33_2, hfz33_3, hfz33_4⟩ := fz5 BK262
     go_wp2_with (first | ((with_reducible refine gate_callee (f := 12) rfl ?_); refine gL (some 32) rfl rfl Try.func12 (by kernel_rfl) rfl #[.agg #[.int .i64 t250, .slice Ao15 t251.length co15, .slice Ao16 t254.length co16, .int .i64 t257, .slice Ao17 t258.length co17], .int .i64 1] rfl ?_; (with_reducible refine (laws_markWork.calls kj3 t250 (fun k_ => some k_ = (.slice Ao15 t251.length co15 : Value).ownBlock) (.slice Ao15 t251.length co15) t251 (fun k_ => some k_ = (.slice Ao16 t254.length co16 : Value).ownBlock) (.slice Ao16 t254.length co16) t254 t257 (fun k_ => some k_ = (.slice Ao17 t258.length co17 : Value).ownBlock) (.slice Ao17 t258.length co17) t258 1 t264 t265 t266 t267 w _ ?side1 ?side2 ?side3 ?side4 ?side5 ?side6 A29.out).mono ?_); (case side1 => repeat (first | (with_reducible first | exact HB.out | apply below_alloc | apply pw_below_drewN | apply below_drew1 | refine below_set ?_ GE249.out | refine below_set ?_ GE262.out) | exact HB.out)); (case side2 => exact Kd.R_tight rfl HO_263001.out); (case side3 => exact fun k_ e_ => (HO_263001.out.1 k_ e_.symm).2.2); (case side4 => exact Kd.R_tight rfl HO_263002.out); (case side5 => exact fun k_ e_ => (HO_263002.out.1 k_ e_.symm).2.2); (case side6 => exact Kd.R_tight rfl HO_263004.out); rintro e w34 ⟨rfl, hy0, hy1, hy2, hb, hkp⟩; refine ⟨_, rfl, ?_⟩; replace HO_250001 := Aside0.mk (Kd.R_mono (ok' := fun k_ => some k_ ≠ (.slice Ao9 t241.length co9 : Value).ownBlock ∧ some k_ ≠ (.slice Ao15 t251.length co15 : Value).ownBlock ∧ some k_ ≠ (.slice Ao16 t254.length co16 : Value).ownBlock) (Kd.R_keptB ((Kd.R_apart' HO_250001.out (Kd.R_typed HO_263004.out) (by decide))) hkp (fun k_ hk_ hs_ => Or.elim hs_ (fun e_ => (hk_.1.2.1) e_) (fun e_ => Or.elim e_ (fun e_ => (hk_.1.2.2) e_) (fun e_ => (hk_.2) e_)))) (fun k_ hk_ => ⟨hk_.1.1.1, hk_.1.1.2.1, hk_.1.1.2.2⟩)); replace HO_250002 := Aside0.mk (Kd.R_mono (ok' := fun k_ => some k_ ≠ (.slice Ao8 t238.length co8 : Value).ownBlock ∧ some k_ ≠ (.slice Ao15 t251.length co15 : Value).ownBlock ∧ some k_ ≠ (.slice Ao16 t254.length co16 : Value).ownBlock) (Kd.R_keptB ((Kd.R_apart' HO_250002.out (Kd.R_typed HO_263004.out) (by decide))) hkp (fun k_ hk_ hs_ => Or.elim hs_ (fun e_ => (hk_.1.2.1) e_) (fun e_ => Or.elim e_ (fun e_ => (hk_.1.2.2) e_) (fun e_ => (hk_.2) e_)))) (fun k_ hk_ => ⟨hk_.1.1.1, hk_.1.1.2.1, hk_.1.1.2.2⟩)); replace HO_250004 := Aside0.mk (Kd.R_mono (ok' := fun k_ => some k_ ≠ (.slice Ao17 t258.length co17 : Value).ownBlock) (Kd.R_keptB ((Kd.R_apart' (Kd.R_apart' HO_250004.out (Kd.R_typed HO_263001.out) (by decide)) (Kd.R_typed HO_263002.out) (by decide))) hkp (fun k_ hk_ hs_ => Or.elim hs_ (fun e_ => (hk_.1.2) e_) (fun e_ => Or.elim e_ (fun e_ => (hk_.2) e_) (fun e_ => (hk_.1.1) e_)))) (fun k_ hk_ => hk_.1.1.1)); replace BK249 := Aside0.mk (blk_kept (bk BK249) hkp (fun hs_ => Or.elim hs_ (fun e_ => (fun e_ => (Kd.R_ne HO_263001.out BK249.out (by decide)) e_) e_) (fun e_ => Or.elim e_ (fun e_ => (fun e_ => (Kd.R_ne HO_263002.out BK249.out (by decide)) e_) e_) (fun e_ => (fun e_ => (Kd.R_ne HO_263004.out BK249.out (by decide)) e_) e_)))); replace BK262 := Aside0.mk (blk_kept (bk BK262) hkp (fun hs_ => Or.elim hs_ (fun e_ => (fun e_ => (Kd.R_ne HO_263001.out BK262.out (by decide)) e_) e_) (fun e_ => Or.elim e_ (fun e_ => (fun e_ => (Kd.R_ne HO_263002.out BK262.out (by decide)) e_) e_) (fun e_ => (fun e_ => (Kd.R_ne HO_263004.out BK262.out (by decide)) e_) e_)))); replace HO_263001 := Aside0.mk (Kd.R_reok rfl hy0 (fun k_ e_ => HO_263001.out.1 k_ e_)); replace HO_263002 := Aside0.mk (Kd.R_reok rfl hy1 (fun k_ e_ => HO_263002.out.1 k_ e_)); replace HO_263004 := Aside0.mk (Kd.R_reok rfl hy2 (fun k_ e_ => HO_263004.out.1 k_ e_)); replace HB := Aside0.mk (hb); (try clear hb); (try clear hkp); (try clear hy0); (try clear hy1); (try clear hy2); obtain ⟨hcz35_0, hcz35_1, hcz35_2, hcz35_3, hcz35_4⟩ := cz5 BK262; obtain ⟨hfz35_0, hfz35_1, hfz35_2, hfz35_3, hfz35_4⟩ := fz5 BK262) | ((with_reducible refine gate_callee (f := 13) rfl ?_); refine goesL_ (some 35) rfl rfl Try.func13 (by kernel_rfl) rfl #[.agg #[.int .i64 t250, .slice Ao15 t265.length co15, .slice Ao16 t266.length co16, .int .i64 t257, .slice Ao17 t267.length co17], .int .i64 1] rfl (by (try simp only [List.map_toArray, List.map_cons, List.map_nil]); first | done | (rw [show t265.length = t251.length from (Kd.R_reads' HO_263001.out).1.symm, show t266.length = t254.length from (Kd.R_reads' HO_263002.out).1.symm, show t267.length = t258.length from (Kd.R_reads' HO_263004.out).1.symm] <;> rfl) | rfl | (simp only [List.length_drop, List.length_take]; rfl)) ?_; (with_reducible refine (laws_heldWork.calls kj3 t250 _ _ t265 _ _ t266 t257 _ _ t267 1 t268 _ ?side1 ?side2 ?side3 ?side4 ?side5 ?side6 A30.out).mono ?_); (case side1 => exact rc0 HO_263001); (case side2 => rw [show t265.length = t251.length from (Kd.R_reads' HO_263001.out).1.symm]; exact (Kd.R_reads' HO_263001.out).2.1); (case side3 => exact rc0 HO_263002); (case side4 => rw [show t266.length = t254.length from (Kd.R_reads' HO_263002.out).1.symm]; exact (Kd.R_reads' HO_263002.out).2.1); (case side5 => exact rc0 HO_263004); (case side6 => rw [show t267.length = t258.length from (Kd.R_reads' HO_263004.out).1.symm]; exact (Kd.R_reads' HO_263004.out).2.1); rintro e w36 ⟨rfl, hb⟩; refine ⟨_, rfl, ?_⟩; replace HO_250001 := nr HO_250001 hb; replace HO_250002 := nr HO_250002 hb; replace HO_250004 := nr HO_250004 hb; replace HO_263001 := nr HO_263001 hb; replace HO_263002 := nr HO_263002 hb; replace HO_263004 := nr HO_263004 hb; replace BK249 := nb BK249 hb; replace BK262 := nb BK262 hb; replace HB := Aside0.mk (below_step (bs2 HB GE249 GE262) hb); (try clear hb); (try clear hb2); (try clear hk); (try clear hi)))
     go_ret
     exact ⟨by first | rfl | (simp [errW_none, errW_some] <;> rfl) | (simp [*, errW_none, errW_some] <;> rfl), bs2 HB GE249 GE262⟩
    ·
     rw [if_neg c31] at H
     have c31b0 : decide (t268 < 0) = false := decide_eq_false c31
     clear c31
     by_cases c37 : t268 = t264
     ·
      rw [if_pos c37] at H
      have c37b0 : (t268 == t264) = true := beq_iff_eq.mpr c37
      have c37b1 : (t268 != t264) = false := bne_eq_false_iff_eq.mpr c37
      clear c37
      replace H := Option.bind_eq_some_iff.mp H
      obtain ⟨⟨t269, t270, t273, t276, t277, t280⟩, A380, H⟩ := H
      replace H : ((laws_eqWork.f kj3 t269 t270 t273 t276 t277 t237 t238 t241 t244 t245).bind fun t282 => (if t282 = true then (laws_FnExactNewWork.j1 kj3 t264 (t280 != t248) t250 t265 t266 t257 t267) else (laws_FnExactNewWork.j1 kj3 t264 true t250 t265 t266 t257 t267))) = some r := H
      have A38 := Aside0.mk A380
      clear A380
      have HC39 := Aside0.mk H
      clear H
      have hnb40 := NB262_249.out
      have hnc40 := NB249_262.out
      obtain ⟨hcz41_0, hcz41_1, hcz41_2, hcz41_3, hcz41_4⟩ := cz5 BK262
      obtain ⟨hfz41_0, hfz41_1, hfz41_2, hfz41_3, hfz41_4⟩ := fz5 BK262
      go_upto_region 14 with (first | ((with_reducible refine gate_callee (f := 12) rfl ?_); refine gL (some 32) rfl rfl Try.func12 (by kernel_rfl) rfl #[.agg #[.int .i64 t250, .slice Ao15 t251.length co15, .slice Ao16 t254.length co16, .int .i64 t257, .slice Ao17 t258.length co17], .int .i64 1] rfl ?_; (with_reducible refine (laws_markWork.calls kj3 t250 (fun k_ => some k_ = (.slice Ao15 t251.length co15 : Value).ownBlock) (.slice Ao15 t251.length co15) t251 (fun k_ => some k_ = (.slice Ao16 t254.length co16 : Value).ownBlock) (.slice Ao16 t254.length co16) t254 t257 (fun k_ => some k_ = (.slice Ao17 t258.length co17 : Value).ownBlock) (.slice Ao17 t258.length co17) t258 1 t264 t265 t266 t267 w _ ?side1 ?side2 ?side3 ?side4 ?side5 ?side6 A29.out).mono ?_); (case side1 => repeat (first | (with_reducible first | exact HB.out | apply below_alloc | apply pw_below_drewN | apply below_drew1 | refine below_set ?_ GE249.out | refine below_set ?_ GE262.out) | exact HB.out)); (case side2 => exact Kd.R_tight rfl HO_263001.out); (case side3 => exact fun k_ e_ => (HO_263001.out.1 k_ e_.symm).2.2); (case side4 => exact Kd.R_tight rfl HO_263002.out); (case side5 => exact fun k_ e_ => (HO_263002.out.1 k_ e_.symm).2.2); (case side6 => exact Kd.R_tight rfl HO_263004.out); rintro e w42 ⟨rfl, hy0, hy1, hy2, hb, hkp⟩; refine ⟨_, rfl, ?_⟩; replace HO_250001 := Aside0.mk (Kd.R_mono (ok' := fun k_ => some k_ ≠ (.slice Ao9 t241.length co9 : Value).ownBlock ∧ some k_ ≠ (.slice Ao15 t251.length co15 : Value).ownBlock ∧ some k_ ≠ (.slice Ao16 t254.length co16 : Value).ownBlock) (Kd.R_keptB ((Kd.R_apart' HO_250001.out (Kd.R_typed HO_263004.out) (by decide))) hkp (fun k_ hk_ hs_ => Or.elim hs_ (fun e_ => (hk_.1.2.1) e_) (fun e_ => Or.elim e_ (fun e_ => (hk_.1.2.2) e_) (fun e_ => (hk_.2) e_)))) (fun k_ hk_ => ⟨hk_.1.1.1, hk_.1.1.2.1, hk_.1.1.2.2⟩)); replace HO_250002 := Aside0.mk (Kd.R_mono (ok' := fun k_ => some k_ ≠ (.slice Ao8 t238.length co8 : Value).ownBlock ∧ some k_ ≠ (.slice Ao15 t251.length co15 : Value).ownBlock ∧ some k_ ≠ (.slice Ao16 t254.length co16 : Value).ownBlock) (Kd.R_keptB ((Kd.R_apart' HO_250002.out (Kd.R_typed HO_263004.out) (by decide))) hkp (fun k_ hk_ hs_ => Or.elim hs_ (fun e_ => (hk_.1.2.1) e_) (fun e_ => Or.elim e_ (fun e_ => (hk_.1.2.2) e_) (fun e_ => (hk_.2) e_)))) (fun k_ hk_ => ⟨hk_.1.1.1, hk_.1.1.2.1, hk_.1.1.2.2⟩)); replace HO_250004 := Aside0.mk (Kd.R_mono (ok' := fun k_ => some k_ ≠ (.slice Ao17 t258.length co17 : Value).ownBlock) (Kd.R_keptB ((Kd.R_apart' (Kd.R_apart' HO_250004.out (Kd.R_typed HO_263001.out) (by decide)) (Kd.R_typed HO_263002.out) (by decide))) hkp (fun k_ hk_ hs_ => Or.elim hs_ (fun e_ => (hk_.1.2) e_) (fun e_ => Or.elim e_ (fun e_ => (hk_.2) e_) (fun e_ => (hk_.1.1) e_)))) (fun k_ hk_ => hk_.1.1.1)); replace BK249 := Aside0.mk (blk_kept (bk BK249) hkp (fun hs_ => Or.elim hs_ (fun e_ => (fun e_ => (Kd.R_ne HO_263001.out BK249.out (by decide)) e_) e_) (fun e_ => Or.elim e_ (fun e_ => (fun e_ => (Kd.R_ne HO_263002.out BK249.out (by decide)) e_) e_) (fun e_ => (fun e_ => (Kd.R_ne HO_263004.out BK249.out (by decide)) e_) e_)))); replace BK262 := Aside0.mk (blk_kept (bk BK262) hkp (fun hs_ => Or.elim hs_ (fun e_ => (fun e_ => (Kd.R_ne HO_263001.out BK262.out (by decide)) e_) e_) (fun e_ => Or.elim e_ (fun e_ => (fun e_ => (Kd.R_ne HO_263002.out BK262.out (by decide)) e_) e_) (fun e_ => (fun e_ => (Kd.R_ne HO_263004.out BK262.out (by decide)) e_) e_)))); replace HO_263001 := Aside0.mk (Kd.R_reok rfl hy0 (fun k_ e_ => HO_263001.out.1 k_ e_)); replace HO_263002 := Aside0.mk (Kd.R_reok rfl hy1 (fun k_ e_ => HO_263002.out.1 k_ e_)); replace HO_263004 := Aside0.mk (Kd.R_reok rfl hy2 (fun k_ e_ => HO_263004.out.1 k_ e_)); replace HB := Aside0.mk (hb); (try clear hb); (try clear hkp); (try clear hy0); (try clear hy1); (try clear hy2); obtain ⟨hcz43_0, hcz43_1, hcz43_2, hcz43_3, hcz43_4⟩ := cz5 BK262; obtain ⟨hfz43_0, hfz43_1, hfz43_2, hfz43_3, hfz43_4⟩ := fz5 BK262) | ((with_reducible refine gate_callee (f := 13) rfl ?_); refine goesL_ (some 35) rfl rfl Try.func13 (by kernel_rfl) rfl #[.agg #[.int .i64 t250, .slice Ao15 t265.length co15, .slice Ao16 t266.length co16, .int .i64 t257, .slice Ao17 t267.length co17], .int .i64 1] rfl (by (try simp only [List.map_toArray, List.map_cons, List.map_nil]); first | done | (rw [show t265.length = t251.length from (Kd.R_reads' HO_263001.out).1.symm, show t266.length = t254.length from (Kd.R_reads' HO_263002.out).1.symm, show t267.length = t258.length from (Kd.R_reads' HO_263004.out).1.symm] <;> rfl) | rfl | (simp only [List.length_drop, List.length_take]; rfl)) ?_; (with_reducible refine (laws_heldWork.calls kj3 t250 _ _ t265 _ _ t266 t257 _ _ t267 1 t268 _ ?side1 ?side2 ?side3 ?side4 ?side5 ?side6 A30.out).mono ?_); (case side1 => exact rc0 HO_263001); (case side2 => rw [show t265.length = t251.length from (Kd.R_reads' HO_263001.out).1.symm]; exact (Kd.R_reads' HO_263001.out).2.1); (case side3 => exact rc0 HO_263002); (case side4 => rw [show t266.length = t254.length from (Kd.R_reads' HO_263002.out).1.symm]; exact (Kd.R_reads' HO_263002.out).2.1); (case side5 => exact rc0 HO_263004); (case side6 => rw [show t267.length = t258.length from (Kd.R_reads' HO_263004.out).1.symm]; exact (Kd.R_reads' HO_263004.out).2.1); rintro e w44 ⟨rfl, hb⟩; refine ⟨_, rfl, ?_⟩; replace HO_250001 := nr HO_250001 hb; replace HO_250002 := nr HO_250002 hb; replace HO_250004 := nr HO_250004 hb; replace HO_263001 := nr HO_263001 hb; replace HO_263002 := nr HO_263002 hb; replace HO_263004 := nr HO_263004 hb; replace BK249 := nb BK249 hb; replace BK262 := nb BK262 hb; replace HB := Aside0.mk (below_step (bs2 HB GE249 GE262) hb); (try clear hb); (try clear hb2); (try clear hk); (try clear hi)) | ((with_reducible refine gate_callee (f := 10) rfl ?_); refine gL (some 43) rfl rfl Try.func10 (by kernel_rfl) rfl #[.int .i64 a0] rfl ?_; (with_reducible refine (impl_NewWork.calls a0 t269 t270 t273 t276 t277 t280 _ A38.out).mono ?_); rintro e w45 ⟨v271, v274, v278, rfl, ho0, ho1, ho2, hb⟩; refine ⟨_, rfl, ?_⟩; have HO272 := Aside0.mk (Kd.R_lower (Kd.R_new' (Kd.R_new' (Kd.R_new' (Kd.R_new' ho0 (Kd.R_lt (rr HO_250001.out))) (Kd.R_lt (rr HO_250002.out))) (Kd.R_lt (rr HO_263001.out))) (Kd.R_lt (rr HO_263002.out))) (below_size (bs2 HB GE249 GE262))); have HO275 := Aside0.mk (Kd.R_lower (Kd.R_new' (Kd.R_new' (Kd.R_new' (Kd.R_new' ho1 (Kd.R_lt (rr HO_250001.out))) (Kd.R_lt (rr HO_250002.out))) (Kd.R_lt (rr HO_263001.out))) (Kd.R_lt (rr HO_263002.out))) (below_size (bs2 HB GE249 GE262))); replace HO_250001 := Aside0.mk (Kd.R_mono (Kd.R_told (Kd.R_told (Kd.R_old (rr HO_250001.out) hb) (Kd.R_base ho0)) (Kd.R_base ho1)) (fun _ h_ => h_.1)); replace HO_250002 := Aside0.mk (Kd.R_mono (Kd.R_told (Kd.R_told (Kd.R_old (rr HO_250002.out) hb) (Kd.R_base ho0)) (Kd.R_base ho1)) (fun _ h_ => h_.1)); replace HO_263001 := Aside0.mk (Kd.R_mono (Kd.R_told (Kd.R_told (Kd.R_old (rr HO_263001.out) hb) (Kd.R_base ho0)) (Kd.R_base ho1)) (fun _ h_ => h_.1)); replace HO_263002 := Aside0.mk (Kd.R_mono (Kd.R_told (Kd.R_told (Kd.R_old (rr HO_263002.out) hb) (Kd.R_base ho0)) (Kd.R_base ho1)) (fun _ h_ => h_.1)); have HO279 := Aside0.mk (Kd.R_lower (Kd.R_new' (Kd.R_new' ho2 (Kd.R_lt (rr HO_250004.out))) (Kd.R_lt (rr HO_263004.out))) (below_size (bs2 HB GE249 GE262))); replace HO_250004 := Aside0.mk (Kd.R_elder' (rr HO_250004.out) (Kd.R_base ho2) hb); replace HO_263004 := Aside0.mk (Kd.R_elder' (rr HO_263004.out) (Kd.R_base ho2) hb); replace BK249 := nb BK249 hb; replace BK262 := nb BK262 hb; replace HB := Aside0.mk (below_step (bs2 HB GE249 GE262) hb); (try clear hb); (try clear hb2); (try clear hk); (try clear hi); (try clear ho0); (try clear ho1); (try clear ho2)) | ((with_reducible refine gate_dst (N := 9) rfl ?_); refine box_event ?hg (N := 9) ?hd (cs := #[.int .i64 0, .slice none 0 0, .slice none 0 0, .int .i64 0, .slice none 0 0]) (t := 27) ?hr ?_; (case hd => rfl); (case hg => rfl); (case hr => first | (go_simp; done) | (go_simp; rfl)); intro gb281 hg w46 hbox hb; replace HO_250001 := nr HO_250001 hb; replace HO_250002 := nr HO_250002 hb; replace HO_250004 := nr HO_250004 hb; replace HO_263001 := nr HO_263001 hb; replace HO_263002 := nr HO_263002 hb; replace HO_263004 := nr HO_263004 hb; replace HO272 := nr HO272 hb; replace HO275 := nr HO275 hb; replace HO279 := nr HO279 hb; have BK281 := Aside0.mk (hbox); have GW281 := Aside0.mk ((by rw [hg]; exact (below_size (bs2 HB GE249 GE262)) : w.heap.size ≤ gb281)); have GE281 := Aside0.mk ((by rw [hg]; exact (below_size (bs2 HB GE249 GE262)) : w.heap.size ≤ gb281)); replace HB := Aside0.mk (below_step (bs2 HB GE249 GE262) hb); have NB249_281 := Aside0.mk ((bn BK249 hg : gb249 ≠ gb281)); have NB281_249 := Aside0.mk ((bm BK249 hg : gb281 ≠ gb249)); replace BK249 := nb BK249 hb; have NB262_281 := Aside0.mk ((bn BK262 hg : gb262 ≠ gb281)); have NB281_262 := Aside0.mk ((bm BK262 hg : gb281 ≠ gb262)); replace BK262 := nb BK262 hb; clear hb hbox hg; have hnb47 := NB281_249.out; have hnc47 := NB249_281.out; have hnb48 := NB281_262.out; have hnc48 := NB262_281.out; obtain ⟨hcz49_0, hcz49_1, hcz49_2, hcz49_3, hcz49_4⟩ := cz5 BK281; obtain ⟨hfz49_0, hfz49_1, hfz49_2, hfz49_3, hfz49_4⟩ := fz5 BK281; obtain ⟨Ao50, co50, eo50⟩ := Kd.R_slice HO272.out; subst eo50; obtain ⟨Ao51, co51, eo51⟩ := Kd.R_slice HO275.out; subst eo51; obtain ⟨Ao52, co52, eo52⟩ := Kd.R_slice HO279.out; subst eo52))
      (try simp only [Act.put, List.setIfInBounds_toArray, List.set_cons_zero, List.set_cons_succ])
      go_cut [54] (fun v54 wc => ∃ (kq : Nat) (x54_38 : Bool), v54 = .bool x54_38 ∧ Aside0 (laws_FnExactNewWork.j1 kq t264 x54_38 t250 t265 t266 t257 t267 = some r) ∧ Aside0 (kq ≤ kj3) ∧ Aside0 (Kd.R k53 53 wc w.heap.size (fun k_ => some k_ ≠ ((.slice Ao9 t241.length co9) : Value).ownBlock ∧ some k_ ≠ ((.slice Ao15 t251.length co15) : Value).ownBlock ∧ some k_ ≠ ((.slice Ao16 t254.length co16) : Value).ownBlock ∧ some k_ ≠ ((.slice Ao50 t270.length co50) : Value).ownBlock ∧ some k_ ≠ ((.slice Ao51 t273.length co51) : Value).ownBlock) (.slice Ao8 t238.length co8) t238) ∧ Aside0 (Kd.R k53 53 wc w.heap.size (fun k_ => some k_ ≠ ((.slice Ao8 t238.length co8) : Value).ownBlock ∧ some k_ ≠ ((.slice Ao15 t251.length co15) : Value).ownBlock ∧ some k_ ≠ ((.slice Ao16 t254.length co16) : Value).ownBlock ∧ some k_ ≠ ((.slice Ao50 t270.length co50) : Value).ownBlock ∧ some k_ ≠ ((.slice Ao51 t273.length co51) : Value).ownBlock) (.slice Ao9 t241.length co9) t241) ∧ Aside0 (Kd.R k71 71 wc w.heap.size (fun k_ => some k_ ≠ ((.slice Ao17 t258.length co17) : Value).ownBlock ∧ some k_ ≠ ((.slice Ao52 t277.length co52) : Value).ownBlock) (.slice Ao10 t245.length co10) t245) ∧ Aside0 (Kd.R k53 53 wc w.heap.size (fun k_ => some k_ ≠ ((.slice Ao8 t238.length co8) : Value).ownBlock ∧ some k_ ≠ ((.slice Ao9 t241.length co9) : Value).ownBlock ∧ some k_ ≠ ((.slice Ao16 t254.length co16) : Value).ownBlock ∧ some k_ ≠ ((.slice Ao50 t270.length co50) : Value).ownBlock ∧ some k_ ≠ ((.slice Ao51 t273.length co51) : Value).ownBlock) (.slice Ao15 t251.length co15) t265) ∧ Aside0 (Kd.R k53 53 wc w.heap.size (fun k_ => some k_ ≠ ((.slice Ao8 t238.length co8) : Value).ownBlock ∧ some k_ ≠ ((.slice Ao9 t241.length co9) : Value).ownBlock ∧ some k_ ≠ ((.slice Ao15 t251.length co15) : Value).ownBlock ∧ some k_ ≠ ((.slice Ao50 t270.length co50) : Value).ownBlock ∧ some k_ ≠ ((.slice Ao51 t273.length co51) : Value).ownBlock) (.slice Ao16 t254.length co16) t266) ∧ Aside0 (Kd.R k71 71 wc w.heap.size (fun k_ => some k_ ≠ ((.slice Ao10 t245.length co10) : Value).ownBlock ∧ some k_ ≠ ((.slice Ao52 t277.length co52) : Value).ownBlock) (.slice Ao17 t258.length co17) t267) ∧ Aside0 (Kd.R k53 53 wc w.heap.size (fun k_ => some k_ ≠ ((.slice Ao8 t238.length co8) : Value).ownBlock ∧ some k_ ≠ ((.slice Ao9 t241.length co9) : Value).ownBlock ∧ some k_ ≠ ((.slice Ao15 t251.length co15) : Value).ownBlock ∧ some k_ ≠ ((.slice Ao16 t254.length co16) : Value).ownBlock ∧ some k_ ≠ ((.slice Ao51 t273.length co51) : Value).ownBlock) (.slice Ao50 t270.length co50) t270) ∧ Aside0 (Kd.R k53 53 wc w.heap.size (fun k_ => some k_ ≠ ((.slice Ao8 t238.length co8) : Value).ownBlock ∧ some k_ ≠ ((.slice Ao9 t241.length co9) : Value).ownBlock ∧ some k_ ≠ ((.slice Ao15 t251.length co15) : Value).ownBlock ∧ some k_ ≠ ((.slice Ao16 t254.length co16) : Value).ownBlock ∧ some k_ ≠ ((.slice Ao50 t270.length co50) : Value).ownBlock) (.slice Ao51 t273.length co51) t273) ∧ Aside0 (Kd.R k71 71 wc w.heap.size (fun k_ => some k_ ≠ ((.slice Ao10 t245.length co10) : Value).ownBlock ∧ some k_ ≠ ((.slice Ao17 t258.length co17) : Value).ownBlock) (.slice Ao52 t277.length co52) t277) ∧ Aside0 (wc.heap[gb249]? = some (.cells #[.int .i64 t237, (.slice Ao8 t238.length co8), (.slice Ao9 t241.length co9), .int .i64 t244, (.slice Ao10 t245.length co10)] 27 (0, 0))) ∧ Aside0 (wc.heap[gb262]? = some (.cells #[.int .i64 t250, (.slice Ao15 t251.length co15), (.slice Ao16 t254.length co16), .int .i64 t257, (.slice Ao17 t258.length co17)] 27 (0, 0))) ∧ Aside0 (wc.heap[gb281]? = some (.cells #[.int .i64 t269, (.slice Ao50 t270.length co50), (.slice Ao51 t273.length co51), .int .i64 t276, (.slice Ao52 t277.length co52)] 27 (0, 0))) ∧ Aside0 (Below w.heap.size w wc))
      case first =>
       have H := HC39.out
       clear HC39
       replace H := Option.bind_eq_some_iff.mp H
       obtain ⟨t282, A530, H⟩ := H
       replace H : (if t282 = true then (laws_FnExactNewWork.j1 kj3 t264 (t280 != t248) t250 t265 t266 t257 t267) else (laws_FnExactNewWork.j1 kj3 t264 true t250 t265 t266 t257 t267)) = some r := H
       have A53 := Aside0.mk A530
       clear A530
       by_cases c54 : t282 = true
       ·
        subst c54
        rw [if_pos rfl] at H
        have H' := Aside0.mk H
        clear H
        have hnb55 := NB281_249.out
        have hnc55 := NB249_281.out
        have hnb56 := NB281_262.out
        have hnc56 := NB262_281.out
        obtain ⟨hcz57_0, hcz57_1, hcz57_2, hcz57_3, hcz57_4⟩ := cz5 BK281
        obtain ⟨hfz57_0, hfz57_1, hfz57_2, hfz57_3, hfz57_4⟩ := fz5 BK281
        have hnb58 := NB249_262.out
        have hnc58 := NB262_249.out
        obtain ⟨hcz59_0, hcz59_1, hcz59_2, hcz59_3, hcz59_4⟩ := cz5 BK249
        obtain ⟨hfz59_0, hfz59_1, hfz59_2, hfz59_3, hfz59_4⟩ := fz5 BK249
        go_wp2_with (first | ((with_reducible refine gate_callee (f := 11) rfl ?_); refine gL (some 48) rfl rfl Try.func11 (by kernel_rfl) rfl #[.agg #[.int .i64 t269, .slice Ao50 t270.length co50, .slice Ao51 t273.length co51, .int .i64 t276, .slice Ao52 t277.length co52], .agg #[.int .i64 t237, .slice Ao8 t238.length co8, .slice Ao9 t241.length co9, .int .i64 t244, .slice Ao10 t245.length co10]] rfl ?_; (with_reducible refine (laws_eqWork.calls kj3 t269 _ _ t270 _ _ t273 t276 _ _ t277 t237 _ _ t238 _ _ t241 t244 _ _ t245 true _ ?side1 ?side2 ?side3 ?side4 ?side5 ?side6 ?side7 ?side8 ?side9 ?side10 ?side11 ?side12 A53.out).mono ?_); (case side1 => exact rc HO272 BK281); (case side2 => exact (Kd.R_reads' HO272.out).2.1); (case side3 => exact rc HO275 BK281); (case side4 => exact (Kd.R_reads' HO275.out).2.1); (case side5 => exact rc HO279 BK281); (case side6 => exact (Kd.R_reads' HO279.out).2.1); (case side7 => exact rc HO_250001 BK281); (case side8 => exact (Kd.R_reads' HO_250001.out).2.1); (case side9 => exact rc HO_250002 BK281); (case side10 => exact (Kd.R_reads' HO_250002.out).2.1); (case side11 => exact rc HO_250004 BK281); (case side12 => exact (Kd.R_reads' HO_250004.out).2.1); rintro e w60 ⟨rfl, hb⟩; refine ⟨_, rfl, ?_⟩; replace HO_250001 := nf HO_250001 BK281 hb; replace HO_250002 := nf HO_250002 BK281 hb; replace HO_250004 := nf HO_250004 BK281 hb; replace HO_263001 := nf HO_263001 BK281 hb; replace HO_263002 := nf HO_263002 BK281 hb; replace HO_263004 := nf HO_263004 BK281 hb; replace HO272 := nf HO272 BK281 hb; replace HO275 := nf HO275 BK281 hb; replace HO279 := nf HO279 BK281 hb; replace BK249 := Aside0.mk (blk_below (bf BK249 NB249_281) hb); replace BK262 := Aside0.mk (blk_below (bf BK262 NB262_281) hb); replace BK281 := Aside0.mk (blk_below (g := gb281) (o := .cells #[.int .i64 t269, .slice Ao50 t270.length co50, .slice Ao51 t273.length co51, .int .i64 t276, .slice Ao52 t277.length co52] 27 (0, 0)) (by (with_reducible repeat (first | refine blk_drewN ?_ _ | refine blk_drew ?_ | refine blk_alloc ?_ _)); refine blk_put (cs := #[.int .i64 t269, .slice Ao50 t270.length co50, .slice Ao51 t273.length co51, .int .i64 t276, .slice none 0 0]) ?_ 4 _ rfl; (with_reducible repeat (first | refine blk_drewN ?_ _ | refine blk_drew ?_ | refine blk_alloc ?_ _)); refine blk_put (cs := #[.int .i64 t269, .slice Ao50 t270.length co50, .slice Ao51 t273.length co51, .int .i64 0, .slice none 0 0]) ?_ 3 _ rfl; (with_reducible repeat (first | refine blk_drewN ?_ _ | refine blk_drew ?_ | refine blk_alloc ?_ _)); refine blk_put (cs := #[.int .i64 t269, .slice Ao50 t270.length co50, .slice none 0 0, .int .i64 0, .slice none 0 0]) ?_ 2 _ rfl; (with_reducible repeat (first | refine blk_drewN ?_ _ | refine blk_drew ?_ | refine blk_alloc ?_ _)); refine blk_put (cs := #[.int .i64 t269, .slice none 0 0, .slice none 0 0, .int .i64 0, .slice none 0 0]) ?_ 1 _ rfl; (with_reducible repeat (first | refine blk_drewN ?_ _ | refine blk_drew ?_ | refine blk_alloc ?_ _)); refine blk_put (cs := #[.int .i64 0, .slice none 0 0, .slice none 0 0, .int .i64 0, .slice none 0 0]) ?_ 0 _ rfl; (with_reducible repeat (first | refine blk_drewN ?_ _ | refine blk_drew ?_ | refine blk_alloc ?_ _)); exact BK281.out) hb); replace HB := Aside0.mk (below_step (bs3 HB GE249 GE262 GE281) hb); (try clear hb); (try clear hb2); (try clear hk); (try clear hi)))
        go_meet
        case rel => exact ⟨_, ((t280 != t248)), (by first | rfl | (simp; done) | (simp [*]; done)), H', ⟨by have := HJ3.out; first | omega | exact Nat.le_refl _⟩, rm HO_250001 (fun _ hk => ⟨hk.1.1.1, ⟨hk.1.1.2.1, ⟨hk.1.1.2.2, ⟨hk.1.2, hk.2⟩⟩⟩⟩), rm HO_250002 (fun _ hk => ⟨hk.1.1.1, ⟨hk.1.1.2.1, ⟨hk.1.1.2.2, ⟨hk.1.2, hk.2⟩⟩⟩⟩), ⟨rr HO_250004.out⟩, rm HO_263001 (fun _ hk => ⟨hk.1.1.1, ⟨hk.1.1.2.1, ⟨hk.1.1.2.2, ⟨hk.1.2, hk.2⟩⟩⟩⟩), rm HO_263002 (fun _ hk => ⟨hk.1.1.1, ⟨hk.1.1.2.1, ⟨hk.1.1.2.2, ⟨hk.1.2, hk.2⟩⟩⟩⟩), ⟨rr HO_263004.out⟩, rm HO272 (fun _ hk => ⟨hk.1.1.1.2, ⟨hk.1.1.2, ⟨hk.1.2, ⟨hk.2, hk.1.1.1.1⟩⟩⟩⟩), rm HO275 (fun _ hk => ⟨hk.1.1.1.2, ⟨hk.1.1.2, ⟨hk.1.2, ⟨hk.2, hk.1.1.1.1⟩⟩⟩⟩), rm HO279 (fun _ hk => ⟨hk.1.2, hk.2⟩), ⟨bk BK249⟩, ⟨bk BK262⟩, ⟨bk BK281⟩, ⟨bs3 HB GE249 GE262 GE281⟩⟩
       ·
        replace c54 := Bool.eq_false_iff.mpr c54
        subst c54
        rw [if_neg (show ¬ (false = true) by decide)] at H
        have H' := Aside0.mk H
        clear H
        have hnb61 := NB281_249.out
        have hnc61 := NB249_281.out
        have hnb62 := NB281_262.out
        have hnc62 := NB262_281.out
        obtain ⟨hcz63_0, hcz63_1, hcz63_2, hcz63_3, hcz63_4⟩ := cz5 BK281
        obtain ⟨hfz63_0, hfz63_1, hfz63_2, hfz63_3, hfz63_4⟩ := fz5 BK281
        have hnb64 := NB249_262.out
        have hnc64 := NB262_249.out
        obtain ⟨hcz65_0, hcz65_1, hcz65_2, hcz65_3, hcz65_4⟩ := cz5 BK249
        obtain ⟨hfz65_0, hfz65_1, hfz65_2, hfz65_3, hfz65_4⟩ := fz5 BK249
        go_wp2_with (first | ((with_reducible refine gate_callee (f := 11) rfl ?_); refine gL (some 48) rfl rfl Try.func11 (by kernel_rfl) rfl #[.agg #[.int .i64 t269, .slice Ao50 t270.length co50, .slice Ao51 t273.length co51, .int .i64 t276, .slice Ao52 t277.length co52], .agg #[.int .i64 t237, .slice Ao8 t238.length co8, .slice Ao9 t241.length co9, .int .i64 t244, .slice Ao10 t245.length co10]] rfl ?_; (with_reducible refine (laws_eqWork.calls kj3 t269 _ _ t270 _ _ t273 t276 _ _ t277 t237 _ _ t238 _ _ t241 t244 _ _ t245 false _ ?side1 ?side2 ?side3 ?side4 ?side5 ?side6 ?side7 ?side8 ?side9 ?side10 ?side11 ?side12 A53.out).mono ?_); (case side1 => exact rc HO272 BK281); (case side2 => exact (Kd.R_reads' HO272.out).2.1); (case side3 => exact rc HO275 BK281); (case side4 => exact (Kd.R_reads' HO275.out).2.1); (case side5 => exact rc HO279 BK281); (case side6 => exact (Kd.R_reads' HO279.out).2.1); (case side7 => exact rc HO_250001 BK281); (case side8 => exact (Kd.R_reads' HO_250001.out).2.1); (case side9 => exact rc HO_250002 BK281); (case side10 => exact (Kd.R_reads' HO_250002.out).2.1); (case side11 => exact rc HO_250004 BK281); (case side12 => exact (Kd.R_reads' HO_250004.out).2.1); rintro e w66 ⟨rfl, hb⟩; refine ⟨_, rfl, ?_⟩; replace HO_250001 := nf HO_250001 BK281 hb; replace HO_250002 := nf HO_250002 BK281 hb; replace HO_250004 := nf HO_250004 BK281 hb; replace HO_263001 := nf HO_263001 BK281 hb; replace HO_263002 := nf HO_263002 BK281 hb; replace HO_263004 := nf HO_263004 BK281 hb; replace HO272 := nf HO272 BK281 hb; replace HO275 := nf HO275 BK281 hb; replace HO279 := nf HO279 BK281 hb; replace BK249 := Aside0.mk (blk_below (bf BK249 NB249_281) hb); replace BK262 := Aside0.mk (blk_below (bf BK262 NB262_281) hb); replace BK281 := Aside0.mk (blk_below (g := gb281) (o := .cells #[.int .i64 t269, .slice Ao50 t270.length co50, .slice Ao51 t273.length co51, .int .i64 t276, .slice Ao52 t277.length co52] 27 (0, 0)) (by (with_reducible repeat (first | refine blk_drewN ?_ _ | refine blk_drew ?_ | refine blk_alloc ?_ _)); refine blk_put (cs := #[.int .i64 t269, .slice Ao50 t270.length co50, .slice Ao51 t273.length co51, .int .i64 t276, .slice none 0 0]) ?_ 4 _ rfl; (with_reducible repeat (first | refine blk_drewN ?_ _ | refine blk_drew ?_ | refine blk_alloc ?_ _)); refine blk_put (cs := #[.int .i64 t269, .slice Ao50 t270.length co50, .slice Ao51 t273.length co51, .int .i64 0, .slice none 0 0]) ?_ 3 _ rfl; (with_reducible repeat (first | refine blk_drewN ?_ _ | refine blk_drew ?_ | refine blk_alloc ?_ _)); refine blk_put (cs := #[.int .i64 t269, .slice Ao50 t270.length co50, .slice none 0 0, .int .i64 0, .slice none 0 0]) ?_ 2 _ rfl; (with_reducible repeat (first | refine blk_drewN ?_ _ | refine blk_drew ?_ | refine blk_alloc ?_ _)); refine blk_put (cs := #[.int .i64 t269, .slice none 0 0, .slice none 0 0, .int .i64 0, .slice none 0 0]) ?_ 1 _ rfl; (with_reducible repeat (first | refine blk_drewN ?_ _ | refine blk_drew ?_ | refine blk_alloc ?_ _)); refine blk_put (cs := #[.int .i64 0, .slice none 0 0, .slice none 0 0, .int .i64 0, .slice none 0 0]) ?_ 0 _ rfl; (with_reducible repeat (first | refine blk_drewN ?_ _ | refine blk_drew ?_ | refine blk_alloc ?_ _)); exact BK281.out) hb); replace HB := Aside0.mk (below_step (bs3 HB GE249 GE262 GE281) hb); (try clear hb); (try clear hb2); (try clear hk); (try clear hi)))
        go_meet
        case rel => exact ⟨_, (true), (by first | rfl | (simp; done) | (simp [*]; done)), H', ⟨by have := HJ3.out; first | omega | exact Nat.le_refl _⟩, rm HO_250001 (fun _ hk => ⟨hk.1.1.1, ⟨hk.1.1.2.1, ⟨hk.1.1.2.2, ⟨hk.1.2, hk.2⟩⟩⟩⟩), rm HO_250002 (fun _ hk => ⟨hk.1.1.1, ⟨hk.1.1.2.1, ⟨hk.1.1.2.2, ⟨hk.1.2, hk.2⟩⟩⟩⟩), ⟨rr HO_250004.out⟩, rm HO_263001 (fun _ hk => ⟨hk.1.1.1, ⟨hk.1.1.2.1, ⟨hk.1.1.2.2, ⟨hk.1.2, hk.2⟩⟩⟩⟩), rm HO_263002 (fun _ hk => ⟨hk.1.1.1, ⟨hk.1.1.2.1, ⟨hk.1.1.2.2, ⟨hk.1.2, hk.2⟩⟩⟩⟩), ⟨rr HO_263004.out⟩, rm HO272 (fun _ hk => ⟨hk.1.1.1.2, ⟨hk.1.1.2, ⟨hk.1.2, ⟨hk.2, hk.1.1.1.1⟩⟩⟩⟩), rm HO275 (fun _ hk => ⟨hk.1.1.1.2, ⟨hk.1.1.2, ⟨hk.1.2, ⟨hk.2, hk.1.1.1.1⟩⟩⟩⟩), rm HO279 (fun _ hk => ⟨hk.1.2, hk.2⟩), ⟨bk BK249⟩, ⟨bk BK262⟩, ⟨bk BK281⟩, ⟨bs3 HB GE249 GE262 GE281⟩⟩
      case rest =>
       clear HC39
       try clear c1
       try clear c2
       try clear p2
       try clear c3
       try clear c4
       try clear c5
       try clear c6
       try clear c9
       try clear c10
       try clear c11
       try clear c12
       try clear c13
       try clear c19
       try clear c20
       try clear c24
       try clear c28
       try clear c31
       try clear c31b0
       try clear c32
       try clear c37
       try clear c37b0
       try clear c37b1
       try clear c40
       try clear c47
       try clear c48
       try clear c54
       try clear c55
       try clear c56
       try clear c58
       try clear c61
       try clear c62
       try clear c64
       try clear hcz14_0 hcz14_1 hcz14_2 hcz14_3 hcz14_4
       try clear hcz21_0 hcz21_1 hcz21_2 hcz21_3 hcz21_4
       try clear hcz22_0 hcz22_1 hcz22_2 hcz22_3 hcz22_4
       try clear hcz25_0 hcz25_1 hcz25_2 hcz25_3 hcz25_4
       try clear hcz26_0 hcz26_1 hcz26_2 hcz26_3 hcz26_4
       try clear hcz33_0 hcz33_1 hcz33_2 hcz33_3 hcz33_4
       try clear hcz35_0 hcz35_1 hcz35_2 hcz35_3 hcz35_4
       try clear hcz41_0 hcz41_1 hcz41_2 hcz41_3 hcz41_4
       try clear hcz43_0 hcz43_1 hcz43_2 hcz43_3 hcz43_4
       try clear hcz49_0 hcz49_1 hcz49_2 hcz49_3 hcz49_4
       try clear hcz57_0 hcz57_1 hcz57_2 hcz57_3 hcz57_4
       try clear hcz59_0 hcz59_1 hcz59_2 hcz59_3 hcz59_4
       try clear hcz63_0 hcz63_1 hcz63_2 hcz63_3 hcz63_4
       try clear hcz65_0 hcz65_1 hcz65_2 hcz65_3 hcz65_4
       try clear hcz7_0 hcz7_1 hcz7_2 hcz7_3 hcz7_4
       try clear hfz14_0 hfz14_1 hfz14_2 hfz14_3 hfz14_4
       try clear hfz21_0 hfz21_1 hfz21_2 hfz21_3 hfz21_4
       try clear hfz22_0 hfz22_1 hfz22_2 hfz22_3 hfz22_4
       try clear hfz25_0 hfz25_1 hfz25_2 hfz25_3 hfz25_4
       try clear hfz26_0 hfz26_1 hfz26_2 hfz26_3 hfz26_4
       try clear hfz33_0 hfz33_1 hfz33_2 hfz33_3 hfz33_4
       try clear hfz35_0 hfz35_1 hfz35_2 hfz35_3 hfz35_4
       try clear hfz41_0 hfz41_1 hfz41_2 hfz41_3 hfz41_4
       try clear hfz43_0 hfz43_1 hfz43_2 hfz43_3 hfz43_4
       try clear hfz49_0 hfz49_1 hfz49_2 hfz49_3 hfz49_4
       try clear hfz57_0 hfz57_1 hfz57_2 hfz57_3 hfz57_4
       try clear hfz59_0 hfz59_1 hfz59_2 hfz59_3 hfz59_4
       try clear hfz63_0 hfz63_1 hfz63_2 hfz63_3 hfz63_4
       try clear hfz65_0 hfz65_1 hfz65_2 hfz65_3 hfz65_4
       try clear hfz7_0 hfz7_1 hfz7_2 hfz7_3 hfz7_4
       try clear p2
       obtain ⟨kq, x54_38, rfl, HA, HJ38, HO_250001, HO_250002, HO_250004, HO_263001, HO_263002, HO_263004, HO_282001, HO_282002, HO_282004, BK249, BK262, BK281, HB⟩ := hcut
       have hl263001_38 := (Kd.R_reads' HO_263001.out).1
       rw [hl263001_38] at HO_263001
       (try simp only [hl263001_38])
       (try simp only [hl263001_38] at BK249)
       (try simp only [hl263001_38] at BK262)
       (try simp only [hl263001_38] at BK281)
       (try simp only [hl263001_38] at HO_250001)
       (try simp only [hl263001_38] at HO_250002)
       (try simp only [hl263001_38] at HO_250004)
       (try simp only [hl263001_38] at HO_263002)
       (try simp only [hl263001_38] at HO_263004)
       (try simp only [hl263001_38] at HO_282001)
       (try simp only [hl263001_38] at HO_282002)
       (try simp only [hl263001_38] at HO_282004)
       have hl263002_38 := (Kd.R_reads' HO_263002.out).1
       rw [hl263002_38] at HO_263002
       (try simp only [hl263002_38])
       (try simp only [hl263002_38] at BK249)
       (try simp only [hl263002_38] at BK262)
       (try simp only [hl263002_38] at BK281)
       (try simp only [hl263002_38] at HO_250001)
       (try simp only [hl263002_38] at HO_250002)
       (try simp only [hl263002_38] at HO_250004)
       (try simp only [hl263002_38] at HO_263001)
       (try simp only [hl263002_38] at HO_263004)
       (try simp only [hl263002_38] at HO_282001)
       (try simp only [hl263002_38] at HO_282002)
       (try simp only [hl263002_38] at HO_282004)
       have hl263004_38 := (Kd.R_reads' HO_263004.out).1
       rw [hl263004_38] at HO_263004
       (try simp only [hl263004_38])
       (try simp only [hl263004_38] at BK249)
       (try simp only [hl263004_38] at BK262)
       (try simp only [hl263004_38] at BK281)
       (try simp only [hl263004_38] at HO_250001)
       (try simp only [hl263004_38] at HO_250002)
       (try simp only [hl263004_38] at HO_250004)
       (try simp only [hl263004_38] at HO_263001)
       (try simp only [hl263004_38] at HO_263002)
       (try simp only [hl263004_38] at HO_282001)
       (try simp only [hl263004_38] at HO_282002)
       (try simp only [hl263004_38] at HO_282004)
       cases kq with
       | zero => exact absurd HA.out (by simp [laws_FnExactNewWork.j1])
       | succ kj38 =>
        have H := HA.out
        clear HA
        simp only [laws_FnExactNewWork.j1] at H
        by_cases c67 : x54_38 = true
        ·
         subst c67
         rw [if_pos rfl] at H
         obtain rfl := Option.some.inj H
         go_wp2
         go_ret
         exact ⟨by first | rfl | (simp [errW_none, errW_some] <;> rfl) | (simp [*, errW_none, errW_some] <;> rfl), bs3 HB GE249 GE262 GE281⟩
        ·
         replace c67 := Bool.eq_false_iff.mpr c67
         subst c67
         rw [if_neg (show ¬ (false = true) by decide)] at H
         replace H := Option.bind_eq_some_iff.mp H
         obtain ⟨t283, A680, H⟩ := H
         replace H : (if t283 < 0 then (some false) else (if t283 = t264 then (some true) else (some false))) = some r := H
         have A68 := Aside0.mk A680
         clear A680
         by_cases c69 : t283 < 0
         ·
          rw [if_pos c69] at H
          have c69b0 : decide (t283 < 0) = true := decide_eq_true c69
          clear c69
          obtain rfl := Option.some.inj H
          have hnb70 := NB262_249.out
          have hnc70 := NB249_262.out
          have hnb71 := NB262_281.out
          have hnc71 := NB281_262.out
          obtain ⟨hcz72_0, hcz72_1, hcz72_2, hcz72_3, hcz72_4⟩ := cz5 BK262
          obtain ⟨hfz72_0, hfz72_1, hfz72_2, hfz72_3, hfz72_4⟩ := fz5 BK262
          go_wp2_with (first | ((with_reducible refine gate_callee (f := 13) rfl ?_); refine gL (some 57) rfl rfl Try.func13 (by kernel_rfl) rfl #[.agg #[.int .i64 t250, .slice Ao15 t265.length co15, .slice Ao16 t266.length co16, .int .i64 t257, .slice Ao17 t267.length co17], .int .i64 1] rfl ?_; (with_reducible refine (laws_heldWork.calls kj38 t250 _ _ t265 _ _ t266 t257 _ _ t267 1 t283 _ ?side1 ?side2 ?side3 ?side4 ?side5 ?side6 A68.out).mono ?_); (case side1 => exact rc0 HO_263001); (case side2 => exact (Kd.R_reads' HO_263001.out).2.1); (case side3 => exact rc0 HO_263002); (case side4 => exact (Kd.R_reads' HO_263002.out).2.1); (case side5 => exact rc0 HO_263004); (case side6 => exact (Kd.R_reads' HO_263004.out).2.1); rintro e w73 ⟨rfl, hb⟩; refine ⟨_, rfl, ?_⟩; replace HO_250001 := nr HO_250001 hb; replace HO_250002 := nr HO_250002 hb; replace HO_250004 := nr HO_250004 hb; replace HO_263001 := nr HO_263001 hb; replace HO_263002 := nr HO_263002 hb; replace HO_263004 := nr HO_263004 hb; replace HO_282001 := nr HO_282001 hb; replace HO_282002 := nr HO_282002 hb; replace HO_282004 := nr HO_282004 hb; replace BK249 := nb BK249 hb; replace BK262 := nb BK262 hb; replace BK281 := nb BK281 hb; replace HB := Aside0.mk (below_step (bs3 HB GE249 GE262 GE281) hb); (try clear hb); (try clear hb2); (try clear hk); (try clear hi)))
          go_ret
          exact ⟨by first | rfl | (simp [errW_none, errW_some] <;> rfl) | (simp [*, errW_none, errW_some] <;> rfl), bs3 HB GE249 GE262 GE281⟩
         ·
          rw [if_neg c69] at H
          have c69b0 : decide (t283 < 0) = false := decide_eq_false c69
          clear c69
          by_cases c74 : t283 = t264
          ·
           rw [if_pos c74] at H
           have c74b0 : (t283 == t264) = true := beq_iff_eq.mpr c74
           have c74b1 : (t283 != t264) = false := bne_eq_false_iff_eq.mpr c74
           clear c74
           obtain rfl := Option.some.inj H
           have hnb75 := NB262_249.out
           have hnc75 := NB249_262.out
           have hnb76 := NB262_281.out
           have hnc76 := NB281_262.out
           obtain ⟨hcz77_0, hcz77_1, hcz77_2, hcz77_3, hcz77_4⟩ := cz5 BK262
           obtain ⟨hfz77_0, hfz77_1, hfz77_2, hfz77_3, hfz77_4⟩ := fz5 BK262
           go_wp2_with (first | ((with_reducible refine gate_callee (f := 13) rfl ?_); refine gL (some 57) rfl rfl Try.func13 (by kernel_rfl) rfl #[.agg #[.int .i64 t250, .slice Ao15 t265.length co15, .slice Ao16 t266.length co16, .int .i64 t257, .slice Ao17 t267.length co17], .int .i64 1] rfl ?_; (with_reducible refine (laws_heldWork.calls kj38 t250 _ _ t265 _ _ t266 t257 _ _ t267 1 t283 _ ?side1 ?side2 ?side3 ?side4 ?side5 ?side6 A68.out).mono ?_); (case side1 => exact rc0 HO_263001); (case side2 => exact (Kd.R_reads' HO_263001.out).2.1); (case side3 => exact rc0 HO_263002); (case side4 => exact (Kd.R_reads' HO_263002.out).2.1); (case side5 => exact rc0 HO_263004); (case side6 => exact (Kd.R_reads' HO_263004.out).2.1); rintro e w78 ⟨rfl, hb⟩; refine ⟨_, rfl, ?_⟩; replace HO_250001 := nr HO_250001 hb; replace HO_250002 := nr HO_250002 hb; replace HO_250004 := nr HO_250004 hb; replace HO_263001 := nr HO_263001 hb; replace HO_263002 := nr HO_263002 hb; replace HO_263004 := nr HO_263004 hb; replace HO_282001 := nr HO_282001 hb; replace HO_282002 := nr HO_282002 hb; replace HO_282004 := nr HO_282004 hb; replace BK249 := nb BK249 hb; replace BK262 := nb BK262 hb; replace BK281 := nb BK281 hb; replace HB := Aside0.mk (below_step (bs3 HB GE249 GE262 GE281) hb); (try clear hb); (try clear hb2); (try clear hk); (try clear hi)))
           go_ret
           exact ⟨by first | rfl | (simp [errW_none, errW_some] <;> rfl) | (simp [*, errW_none, errW_some] <;> rfl), bs3 HB GE249 GE262 GE281⟩
          ·
           rw [if_neg c74] at H
           have c74b0 : (t283 == t264) = false := beq_eq_false_iff_ne.mpr c74
           have c74b1 : (t283 != t264) = true := bne_iff_ne.mpr c74
           obtain rfl := Option.some.inj H
           have hnb79 := NB262_249.out
           have hnc79 := NB249_262.out
           have hnb80 := NB262_281.out
           have hnc80 := NB281_262.out
           obtain ⟨hcz81_0, hcz81_1, hcz81_2, hcz81_3, hcz81_4⟩ := cz5 BK262
           obtain ⟨hfz81_0, hfz81_1, hfz81_2, hfz81_3, hfz81_4⟩ := fz5 BK262
           go_wp2_with (first | ((with_reducible refine gate_callee (f := 13) rfl ?_); refine gL (some 57) rfl rfl Try.func13 (by kernel_rfl) rfl #[.agg #[.int .i64 t250, .slice Ao15 t265.length co15, .slice Ao16 t266.length co16, .int .i64 t257, .slice Ao17 t267.length co17], .int .i64 1] rfl ?_; (with_reducible refine (laws_heldWork.calls kj38 t250 _ _ t265 _ _ t266 t257 _ _ t267 1 t283 _ ?side1 ?side2 ?side3 ?side4 ?side5 ?side6 A68.out).mono ?_); (case side1 => exact rc0 HO_263001); (case side2 => exact (Kd.R_reads' HO_263001.out).2.1); (case side3 => exact rc0 HO_263002); (case side4 => exact (Kd.R_reads' HO_263002.out).2.1); (case side5 => exact rc0 HO_263004); (case side6 => exact (Kd.R_reads' HO_263004.out).2.1); rintro e w82 ⟨rfl, hb⟩; refine ⟨_, rfl, ?_⟩; replace HO_250001 := nr HO_250001 hb; replace HO_250002 := nr HO_250002 hb; replace HO_250004 := nr HO_250004 hb; replace HO_263001 := nr HO_263001 hb; replace HO_263002 := nr HO_263002 hb; replace HO_263004 := nr HO_263004 hb; replace HO_282001 := nr HO_282001 hb; replace HO_282002 := nr HO_282002 hb; replace HO_282004 := nr HO_282004 hb; replace BK249 := nb BK249 hb; replace BK262 := nb BK262 hb; replace BK281 := nb BK281 hb; replace HB := Aside0.mk (below_step (bs3 HB GE249 GE262 GE281) hb); (try clear hb); (try clear hb2); (try clear hk); (try clear hi)))
           go_ret
           exact ⟨by first | rfl | (simp [errW_none, errW_some] <;> rfl) | (simp [*, errW_none, errW_some] <;> rfl), bs3 HB GE249 GE262 GE281⟩
     ·
      rw [if_neg c37] at H
      have c37b0 : (t268 == t264) = false := beq_eq_false_iff_ne.mpr c37
      have c37b1 : (t268 != t264) = true := bne_iff_ne.mpr c37
      obtain rfl := Option.some.inj H
      have hnb83 := NB262_249.out
      have hnc83 := NB249_262.out
      obtain ⟨hcz84_0, hcz84_1, hcz84_2, hcz84_3, hcz84_4⟩ := cz5 BK262
      obtain ⟨hfz84_0, hfz84_1, hfz84_2, hfz84_3, hfz84_4⟩ := fz5 BK262
      go_wp2_with (first | ((with_reducible refine gate_callee (f := 12) rfl ?_); refine gL (some 32) rfl rfl Try.func12 (by kernel_rfl) rfl #[.agg #[.int .i64 t250, .slice Ao15 t251.length co15, .slice Ao16 t254.length co16, .int .i64 t257, .slice Ao17 t258.length co17], .int .i64 1] rfl ?_; (with_reducible refine (laws_markWork.calls kj3 t250 (fun k_ => some k_ = (.slice Ao15 t251.length co15 : Value).ownBlock) (.slice Ao15 t251.length co15) t251 (fun k_ => some k_ = (.slice Ao16 t254.length co16 : Value).ownBlock) (.slice Ao16 t254.length co16) t254 t257 (fun k_ => some k_ = (.slice Ao17 t258.length co17 : Value).ownBlock) (.slice Ao17 t258.length co17) t258 1 t264 t265 t266 t267 w _ ?side1 ?side2 ?side3 ?side4 ?side5 ?side6 A29.out).mono ?_); (case side1 => repeat (first | (with_reducible first | exact HB.out | apply below_alloc | apply pw_below_drewN | apply below_drew1 | refine below_set ?_ GE249.out | refine below_set ?_ GE262.out) | exact HB.out)); (case side2 => exact Kd.R_tight rfl HO_263001.out); (case side3 => exact fun k_ e_ => (HO_263001.out.1 k_ e_.symm).2.2); (case side4 => exact Kd.R_tight rfl HO_263002.out); (case side5 => exact fun k_ e_ => (HO_263002.out.1 k_ e_.symm).2.2); (case side6 => exact Kd.R_tight rfl HO_263004.out); rintro e w85 ⟨rfl, hy0, hy1, hy2, hb, hkp⟩; refine ⟨_, rfl, ?_⟩; replace HO_250001 := Aside0.mk (Kd.R_mono (ok' := fun k_ => some k_ ≠ (.slice Ao9 t241.length co9 : Value).ownBlock ∧ some k_ ≠ (.slice Ao15 t251.length co15 : Value).ownBlock ∧ some k_ ≠ (.slice Ao16 t254.length co16 : Value).ownBlock) (Kd.R_keptB ((Kd.R_apart' HO_250001.out (Kd.R_typed HO_263004.out) (by decide))) hkp (fun k_ hk_ hs_ => Or.elim hs_ (fun e_ => (hk_.1.2.1) e_) (fun e_ => Or.elim e_ (fun e_ => (hk_.1.2.2) e_) (fun e_ => (hk_.2) e_)))) (fun k_ hk_ => ⟨hk_.1.1.1, hk_.1.1.2.1, hk_.1.1.2.2⟩)); replace HO_250002 := Aside0.mk (Kd.R_mono (ok' := fun k_ => some k_ ≠ (.slice Ao8 t238.length co8 : Value).ownBlock ∧ some k_ ≠ (.slice Ao15 t251.length co15 : Value).ownBlock ∧ some k_ ≠ (.slice Ao16 t254.length co16 : Value).ownBlock) (Kd.R_keptB ((Kd.R_apart' HO_250002.out (Kd.R_typed HO_263004.out) (by decide))) hkp (fun k_ hk_ hs_ => Or.elim hs_ (fun e_ => (hk_.1.2.1) e_) (fun e_ => Or.elim e_ (fun e_ => (hk_.1.2.2) e_) (fun e_ => (hk_.2) e_)))) (fun k_ hk_ => ⟨hk_.1.1.1, hk_.1.1.2.1, hk_.1.1.2.2⟩)); replace HO_250004 := Aside0.mk (Kd.R_mono (ok' := fun k_ => some k_ ≠ (.slice Ao17 t258.length co17 : Value).ownBlock) (Kd.R_keptB ((Kd.R_apart' (Kd.R_apart' HO_250004.out (Kd.R_typed HO_263001.out) (by decide)) (Kd.R_typed HO_263002.out) (by decide))) hkp (fun k_ hk_ hs_ => Or.elim hs_ (fun e_ => (hk_.1.2) e_) (fun e_ => Or.elim e_ (fun e_ => (hk_.2) e_) (fun e_ => (hk_.1.1) e_)))) (fun k_ hk_ => hk_.1.1.1)); replace BK249 := Aside0.mk (blk_kept (bk BK249) hkp (fun hs_ => Or.elim hs_ (fun e_ => (fun e_ => (Kd.R_ne HO_263001.out BK249.out (by decide)) e_) e_) (fun e_ => Or.elim e_ (fun e_ => (fun e_ => (Kd.R_ne HO_263002.out BK249.out (by decide)) e_) e_) (fun e_ => (fun e_ => (Kd.R_ne HO_263004.out BK249.out (by decide)) e_) e_)))); replace BK262 := Aside0.mk (blk_kept (bk BK262) hkp (fun hs_ => Or.elim hs_ (fun e_ => (fun e_ => (Kd.R_ne HO_263001.out BK262.out (by decide)) e_) e_) (fun e_ => Or.elim e_ (fun e_ => (fun e_ => (Kd.R_ne HO_263002.out BK262.out (by decide)) e_) e_) (fun e_ => (fun e_ => (Kd.R_ne HO_263004.out BK262.out (by decide)) e_) e_)))); replace HO_263001 := Aside0.mk (Kd.R_reok rfl hy0 (fun k_ e_ => HO_263001.out.1 k_ e_)); replace HO_263002 := Aside0.mk (Kd.R_reok rfl hy1 (fun k_ e_ => HO_263002.out.1 k_ e_)); replace HO_263004 := Aside0.mk (Kd.R_reok rfl hy2 (fun k_ e_ => HO_263004.out.1 k_ e_)); replace HB := Aside0.mk (hb); (try clear hb); (try clear hkp); (try clear hy0); (try clear hy1); (try clear hy2); obtain ⟨hcz86_0, hcz86_1, hcz86_2, hcz86_3, hcz86_4⟩ := cz5 BK262; obtain ⟨hfz86_0, hfz86_1, hfz86_2, hfz86_3, hfz86_4⟩ := fz5 BK262) | ((with_reducible refine gate_callee (f := 13) rfl ?_); refine goesL_ (some 35) rfl rfl Try.func13 (by kernel_rfl) rfl #[.agg #[.int .i64 t250, .slice Ao15 t265.length co15, .slice Ao16 t266.length co16, .int .i64 t257, .slice Ao17 t267.length co17], .int .i64 1] rfl (by (try simp only [List.map_toArray, List.map_cons, List.map_nil]); first | done | (rw [show t265.length = t251.length from (Kd.R_reads' HO_263001.out).1.symm, show t266.length = t254.length from (Kd.R_reads' HO_263002.out).1.symm, show t267.length = t258.length from (Kd.R_reads' HO_263004.out).1.symm] <;> rfl) | rfl | (simp only [List.length_drop, List.length_take]; rfl)) ?_; (with_reducible refine (laws_heldWork.calls kj3 t250 _ _ t265 _ _ t266 t257 _ _ t267 1 t268 _ ?side1 ?side2 ?side3 ?side4 ?side5 ?side6 A30.out).mono ?_); (case side1 => exact rc0 HO_263001); (case side2 => rw [show t265.length = t251.length from (Kd.R_reads' HO_263001.out).1.symm]; exact (Kd.R_reads' HO_263001.out).2.1); (case side3 => exact rc0 HO_263002); (case side4 => rw [show t266.length = t254.length from (Kd.R_reads' HO_263002.out).1.symm]; exact (Kd.R_reads' HO_263002.out).2.1); (case side5 => exact rc0 HO_263004); (case side6 => rw [show t267.length = t258.length from (Kd.R_reads' HO_263004.out).1.symm]; exact (Kd.R_reads' HO_263004.out).2.1); rintro e w87 ⟨rfl, hb⟩; refine ⟨_, rfl, ?_⟩; replace HO_250001 := nr HO_250001 hb; replace HO_250002 := nr HO_250002 hb; replace HO_250004 := nr HO_250004 hb; replace HO_263001 := nr HO_263001 hb; replace HO_263002 := nr HO_263002 hb; replace HO_263004 := nr HO_263004 hb; replace BK249 := nb BK249 hb; replace BK262 := nb BK262 hb; replace HB := Aside0.mk (below_step (bs2 HB GE249 GE262) hb); (try clear hb); (try clear hb2); (try clear hk); (try clear hi)))
      go_ret
      exact ⟨by first | rfl | (simp [errW_none, errW_some] <;> rfl) | (simp [*, errW_none, errW_some] <;> rfl), bs2 HB GE249 GE262⟩

/-- THE ONE PURE STATEMENT of laws_FnExactNewWork. -/
def laws_FnExactNewWork.Pure : Prop := ∀ (a0 : Int), (Lit.int .i64 a0).wf = true → ∃ k, laws_FnExactNewWork.f k a0 = some true

end Go.Proofs.Ytakgjdckolllaaa.G
