/- markBucketS, walked by hand: each bucket's depth and names are marked. No statement. -/
import Derived.Test.YtfbjeppfnlfejaaDoorG5
namespace Go.Proofs.YtfbjeppfnlfejaaDoor.G
open Go.RowKit Go.Proofs.YtfbjeppfnlfejaaDoorW.PrintWords Go.Proofs.YtfbjeppfnlfejaaDoorW.PrintLast Go.Proofs.YtfbjeppfnlfejaaDoorW.PrintMore
set_option linter.unusedVariables false
set_option linter.unusedSimpArgs false
def laws_markBucketS.l0 : Nat → List S46 → Int → Int → Option (Int × List S46)
  | 0, _, _, _ => none
  | k + 1, x0, x1, x5 => if x5 < (x0.length : Int) then (if 0 ≤ x5 then ((laws_markNameS.f k ((rd_T46 x0 x5).f1) (wrap64 (x1 + 1))).bind fun t => laws_markBucketS.l0 k (x0.set x5.toNat (⟨x1, t.2⟩ : S46)) t.1 (wrap64 (x5 + 1))) else none) else some (x1, x0)
def laws_markBucketS.f (k : Nat) (l0 : List S46) (a1 : Int) : Option (Int × List S46) := laws_markBucketS.l0 k l0 a1 0
set_option maxHeartbeats 8000000 in
set_option maxRecDepth 100000 in
theorem laws_markBucketS.calls (k : Nat) (P0_ : Nat → Prop) (u9000_ : Value) (l0 : List S46) (a1 : Int) (r1 : Int) (r2 : List S46) (w0 w : World) (hB : Below w0.heap.size w0 w) (ho0 : Kd.S k46 46 w w0.heap.size P0_ u9000_ l0) (h : laws_markBucketS.f k l0 a1 = some (r1, r2)) :
    Calls Tryd.prog 28 #[u9000_, .int .i64 a1] w fun e w' => e = .returned (.int .i64 r1) ∧ Kd.S k46 46 w' w0.heap.size (fun k_ => (P0_ k_ ∨ w.heap.size ≤ k_)) u9000_ r2 ∧ Below w0.heap.size w0 w' ∧ Kept w w' (fun k_ => P0_ k_) := by
  have HO0 := Aside0.mk (show Kd.S k46 46 w w0.heap.size (fun k_ => (P0_ k_ ∨ w.heap.size ≤ k_)) u9000_ l0 from Kd.S_mono ho0 (fun k_ hk => (.inl hk)))
  have HK := Aside0.mk (Kept.refl w (fun k_ => P0_ k_))
  have HB := Aside0.mk hB
  clear hB
  have H' := Aside0.mk (show (laws_markBucketS.l0 k l0 a1 0) = some (r1, r2) from h)
  clear h
  go_enter Tryd.func28, Tryd.ntmps28
  go_wp2
  go_loopg [1, 5] k (fun kq v1 v5 w' => ∃ (x0_1 : List S46) (x1_1 : Int) (x5_1 : Int), v1 = .int .i64 x1_1 ∧ v5 = .int .i64 x5_1 ∧ Aside0 (laws_markBucketS.l0 kq x0_1 x1_1 x5_1 = some (r1, r2)) ∧ Aside0 (kq ≤ k) ∧ Aside0 (Kd.S k46 46 w' w0.heap.size (fun k_ => (P0_ k_ ∨ w.heap.size ≤ k_)) u9000_ x0_1) ∧ Aside0 (Kept w w' (fun k_ => P0_ k_)) ∧ Aside0 (Below w0.heap.size w0 w'))
  case atStart => exact ⟨l0, a1, 0, (by first | rfl | (simp; done) | (simp [*]; done)), (by first | rfl | (simp; done) | (simp [*]; done)), H', ⟨Nat.le_refl _⟩, ⟨by (with_reducible repeat (first | apply Kd.S_alloc | apply Kd.S_drewN | apply Kd.S_drew)); exact HO0.out⟩, ⟨by repeat (first | (with_reducible first | exact HK.out | apply Kept.alloc | apply Kept.drewN | apply Kept.drew) | exact HK.out)⟩, ⟨bs HB⟩⟩
  case round =>
    clear H' HO0 HK HB
    obtain ⟨x0_1, x1_1, x5_1, rfl, rfl, HA, HK1, HO_0, HK, HB⟩ := hrel
    cases gk with
    | zero => exact absurd HA.out (by simp [laws_markBucketS.l0])
    | succ k1 =>
      have H := HA.out
      clear HA
      simp only [laws_markBucketS.l0] at H
      by_cases c3 : x5_1 < (x0_1.length : Int)
      · rw [if_pos c3] at H
        have c3b0 : decide (x5_1 < (x0_1.length : Int)) = true := decide_eq_true c3
        by_cases c4 : 0 ≤ x5_1
        · rw [if_pos c4] at H
          have c4b0 : decide (0 ≤ x5_1) = true := decide_eq_true c4
          replace H := Option.bind_eq_some_iff.mp H
          obtain ⟨⟨t1, t2⟩, A60, H⟩ := H
          have A6 := Aside0.mk A60
          clear A60
          have H' := Aside0.mk (show laws_markBucketS.l0 k1 (x0_1.set x5_1.toNat (⟨x1_1, t2⟩ : S46)) t1 (wrap64 (x5_1 + 1)) = some (r1, r2) from H)
          clear H
          obtain ⟨Ao7, co7, eo7⟩ := Kd.S_slice HO_0.out
          subst eo7
          have hi : x5_1.toNat < x0_1.length := by omega
          obtain ⟨go5, co5, eo5, gb5, gl5, cl5, HG5⟩ := Kd.S_form HO_0.out (by omega)
          (first | cases eo5 | (injection eo5 with ea_ en_ ec_; (first | subst ea_ | (injection ea_ with ea_; subst ea_)); subst ec_; clear en_))
          have GB5 := Aside0.mk gb5
          have p5 := eq_true c4
          have q5 : ((x5_1 : Int) < ((x0_1.length : Int) : Int)) = True := eq_true c3
          obtain ⟨oki8, ce8, hcl8, hM8, hcc8, hfr8, hoki8, hH8⟩ := Kd.S_elem (Kd.S_mono (ok' := fun k_ => (P0_ k_ ∨ w.heap.size ≤ k_) ∧ ¬ False) HO_0.out (fun k_ hk => ⟨hk, fun e_ => e_⟩)) z46 (x5_1 : Int) c4 c3
          obtain ⟨ve8_1, rfl, ge8_1⟩ := k46_openM hM8
          have HP8 := Kd.S_seg hH8 c4 c3 (seg := [.int .i64 x1_1]) (j := 0) (show 1 ≤ 2 from by decide) (x' := (⟨x1_1, (rd_T46 x0_1 x5_1).f1⟩ : S46)) (k46_mkM _ _ _ (⟨x1_1, (rd_T46 x0_1 x5_1).f1⟩ : S46) (Kd.R_mono ge8_1 (fun _ h_ => Or.inl h_))) (fun _ hk => hk) (fun k_ hk_ => hk_.elim)
          have hx8_0 := hcc8 0 _ rfl
          have hx8_1 := hcc8 1 _ rfl
          (try simp only [show (k46).sz = 2 from rfl, Nat.mul_one, Nat.add_zero] at hx8_0 hx8_1)
          have hf8_0 := hfr8 0
          (try simp only [show (k46).sz = 2 from rfl, Nat.mul_one, Nat.add_zero] at hf8_0)
          clear hcl8 hcc8 hfr8 hM8 hoki8 hH8
          go_wp2_with (first
            | ((with_reducible refine gate_store (t := 3) (p := 16) rfl ?_); refine store_event (t := 3) (p := 16) (v := ?vo_w9) (w1 := (wr.setCell ⟨go5, (x5_1 : Int).toNat * 2, none⟩ (.int .i64 x1_1))) ?hg ?ho ?hn ?hr ?_; (case ho => rfl); (case hg => rfl); (case hn => rfl); (case hr => first | (go_simp; done) | (go_simp; rfl)); intro w9 hw; have hg : wr.grownBy w9 (some go5) := (by rw [hw]; exact HP8.2); have hp_ : Kd.S k46 46 w9 w0.heap.size (fun k_ => (P0_ k_ ∨ w.heap.size ≤ k_)) (.slice (some ⟨go5, 0, none⟩) x0_1.length co7) (x0_1.set x5_1.toNat (⟨x1_1, (rd_T46 x0_1 x5_1).f1⟩ : S46)) := (by rw [hw]; exact HP8.1); clear HP8; replace HB := Aside0.mk ((by rw [hw]; exact below_set (HB.out) GB5.out : Below w0.heap.size w0 w9)); replace HK := Aside0.mk (Kept.of_grown (S := (fun k_ => P0_ k_)) hg HK.out (fun k_ e_ => ((Kd.S_R HO_0.out).1 k_ e_))); clear HO_0 hw hg hx8_0 hx8_1 hf8_0; have lg := Kd.S_lend hp_ z46 x5_1 c4 c3; rw [show (x0_1.set x5_1.toNat (⟨x1_1, (rd_T46 x0_1 x5_1).f1⟩ : S46)).getD x5_1.toNat z46 = (⟨x1_1, (rd_T46 x0_1 x5_1).f1⟩ : S46) from by rw [List.getD_eq_getElem?_getD, List.getElem?_set_self hi]; rfl] at lg; obtain ⟨oki, cl, hcl, hM, hcc, hoki, hH⟩ := lg; obtain ⟨vn, rfl, hR⟩ := k46_openM hM; have HN := Aside0.mk hR; have HH := Aside0.mk (Kd.H_widen hH); have HI := Aside0.mk hoki; have hx1 := hcc 1 _ rfl; (try simp only [show (k46).sz = 2 from rfl, Nat.mul_one, Nat.add_zero] at hx1); clear hcl hM hcc hoki hH hR hp_)
            | (go_at_call 48; (refine (laws_markNameS.calls k1 oki vn _ (wrap64 (x1_1 + 1)) t1 t2 w0 _ HB.out HN.out A6.out).mono ?_); rintro e w10 ⟨rfl, ho, hb, hk⟩; have HS := Aside0.mk (Kd.H_back (Kd.H_kept HH.out hk (fun k_ _ hn h2 => hn (.inl h2))) (x' := (⟨x1_1, t2⟩ : S46)) (k46_mkM _ _ _ (⟨x1_1, t2⟩ : S46) ho) (fun k_ hk_ => hk_.elim .inl (fun h2 => .inr ⟨.inr (Nat.le_trans HK.out.1 h2), h2⟩))); replace HK := Aside0.mk (show Kept w w10 (fun k_ => P0_ k_) from ⟨Nat.le_trans HK.out.1 hk.1, fun i_ hi_ hn_ => (hk.2 i_ (Nat.lt_of_lt_of_le hi_ HK.out.1) (fun ho_ => (HI.out i_ ho_).1.elim hn_ (fun h3 => absurd h3 (Nat.not_le.2 hi_)))).trans (HK.out.2 i_ hi_ hn_)⟩); replace HB := Aside0.mk hb; clear ho hb hk HH HN HI))
          rw [List.set_set] at HS
          go_roundg k1
          case measure => have := HK1.out; omega
          case rel => exact ⟨_, t1, (wrap64 (x5_1 + 1)), (by first | rfl | (simp; done) | (simp [*]; done)), (by first | rfl | (simp; done) | (simp [*]; done)), H', ⟨by have := HK1.out; omega⟩, ⟨by (with_reducible repeat (first | apply Kd.S_alloc | apply Kd.S_drewN | apply Kd.S_drew)); exact HS.out⟩, ⟨by repeat (first | (with_reducible first | exact HK.out | apply Kept.alloc | apply Kept.drewN | apply Kept.drew) | exact HK.out)⟩, ⟨bs HB⟩⟩
        · rw [if_neg c4] at H
          exact absurd H (by simp)
      · rw [if_neg c3] at H
        have c3b0 : decide (x5_1 < (x0_1.length : Int)) = false := decide_eq_false c3
        simp only [Option.some.injEq, Prod.mk.injEq] at H
        obtain ⟨rfl, rfl⟩ := H
        obtain ⟨Ao10, co10, eo10⟩ := Kd.S_slice HO_0.out
        subst eo10
        go_wp2
        go_ret
        exact ⟨by first | rfl | (simp; done) | (simp [*]; done), by (with_reducible repeat (first | apply Kd.S_alloc | apply Kd.S_drewN | apply Kd.S_drew)); exact HO_0.out, bs HB, by repeat (first | (with_reducible first | exact HK.out | apply Kept.alloc | apply Kept.drewN | apply Kept.drew) | exact HK.out)⟩
end Go.Proofs.YtfbjeppfnlfejaaDoor.G
