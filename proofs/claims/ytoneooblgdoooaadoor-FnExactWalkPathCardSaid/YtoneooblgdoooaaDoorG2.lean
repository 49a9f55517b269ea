-- Printed by a program of this session (drive.py, by way of the kit's print). Not trusted: Lean checks it.
import Derived.Test.YtoneooblgdoooaaDoorG0
import Derived.Test.YtoneooblgdoooaaDoorG1
namespace Go.Proofs.YtoneooblgdoooaaDoor.G
open Go.RowKit Go.Proofs.YtoneooblgdoooaaDoorW.PrintWords Go.Proofs.YtoneooblgdoooaaDoorW.PrintLast Go.Proofs.YtoneooblgdoooaaDoorW.PrintMore
attribute [local go_sem] max2_int min2_int max_two min_two max_three min_three max_four min_four   -- for this text's walks alone
set_option linter.unusedVariables false
set_option linter.unusedSimpArgs false

/-! ### laws_toInodeS: function 16 -/
def laws_toInodeS.l0 : Nat → List (S59) → List (S40) → Int → Option ((List (S40)))
 | 0, _, _, _ => none
 | k + 1, x0, x3, x4 => if x4 < (x0.length : Int) then (if 0 ≤ x4 then ((laws_toInode.f k ((rd_T59 x0 x4).f0) ((rd_T59 x0 x4).f1) ((rd_T59 x0 x4).f2)).bind fun bt160 => (if x4 < (x3.length : Int) then (laws_toInodeS.l0 k x0 (x3.set (x4 : Int).toNat (⟨bt160.1, bt160.2.1, bt160.2.2⟩ : S40)) (wrap64 (x4 + 1))) else (none))) else (none)) else (some x3)
def laws_toInodeS.f (k : Nat) (l0 : List (S59)) : Option ((List (S40))) := if 0 ≤ (l0.length : Int) then (if ((l0.length : Int) : Int).toNat ≤ 7036874417766 then (laws_toInodeS.l0 k l0 (List.replicate ((l0.length : Int) : Int).toNat z40) 0) else (none)) else (none)
theorem laws_toInodeS.mono_l : ∀ k, (∀ y0 y1 y2, LeO (laws_toInodeS.l0 k y0 y1 y2) (laws_toInodeS.l0 (k + 1) y0 y1 y2))
 | 0 => fun _ _ _ r h => by simp [laws_toInodeS.l0] at h
 | k + 1 => by
  have ih0 := laws_toInodeS.mono_l k
  ·
   intro y0 y1 y2
   unfold laws_toInodeS.l0
   repeat' first
   | (with_reducible exact ih0 _ _ _)
   | (with_reducible exact laws_toInode.mono _ _ _ _)
   | (with_reducible exact LeO.refl _)
   | (with_reducible exact LeO.none _)
   | (with_reducible refine LeO.ite ?_ ?_)
   | (with_reducible refine LeO.bind ?_ (fun _ => ?_))
   | exact ih0 _ _ _
   | exact laws_toInode.mono _ _ _ _
   | exact LeO.none _
   | refine LeO.ite ?_ ?_
   | refine LeO.bind ?_ (fun _ => ?_)
theorem laws_toInodeS.mono : ∀ a0 k, LeO (laws_toInodeS.f k a0) (laws_toInodeS.f (k + 1) a0) := by
 intro a0 k
 have ih0 := laws_toInodeS.mono_l k
 unfold laws_toInodeS.f
 repeat' first
   | (with_reducible exact ih0 _ _ _)
   | (with_reducible exact laws_toInode.mono _ _ _ _)
   | (with_reducible exact LeO.refl _)
   | (with_reducible exact LeO.none _)
   | (with_reducible refine LeO.ite ?_ ?_)
   | (with_reducible refine LeO.bind ?_ (fun _ => ?_))
   | exact ih0 _ _ _
   | exact laws_toInode.mono _ _ _ _
   | exact LeO.none _
   | refine LeO.ite ?_ ?_
   | refine LeO.bind ?_ (fun _ => ?_)
set_option maxHeartbeats 8000000 in
set_option maxRecDepth 100000 in
theorem laws_toInodeS.calls (k : Nat) (A0 : Option Addr) (c0 : Nat) (l0 : List (S59)) (r : List (S40)) (w : World) (hr0 : Kd.C k59 w A0 l0.length l0) (hc0 : l0.length ≤ c0) (h : laws_toInodeS.f k l0 = some r) :
  Calls Tryd.prog 16 #[.slice A0 l0.length c0] w fun e w' => ∃ v0_ : Value, e = .returned (v0_) ∧ Kd.S k40 40 w' w.heap.size (fun _ => True) v0_ r ∧ Below w.heap.size w w' := by
 have hu59 := Tryd.underlying59
 have hu40 := Tryd.underlying40
 have HR0 := Ah hr0
 have HC0 := Ah hc0
 clear hr0 hc0
 have HB := Ah (Below.refl w.heap.size w)
 have H : (if 0 ≤ (l0.length : Int) then (if ((l0.length : Int) : Int).toNat ≤ 7036874417766 then (laws_toInodeS.l0 k l0 (List.replicate ((l0.length : Int) : Int).toNat z40) 0) else (none)) else (none)) = some r := h
 clear h
 by_cases c2 : 0 ≤ (l0.length : Int)
 rotate_left
 ·
  rw [if_neg c2] at H
  exact absurd H (by simp)
 rw [if_pos c2] at H
 have c2b0 := eq_true c2
 have c2b1 : decide (0 ≤ (l0.length : Int)) = true := decide_eq_true c2
 clear c2
 by_cases c3 : ((l0.length : Int) : Int).toNat ≤ 7036874417766
 rotate_left
 ·
  rw [if_neg c3] at H
  exact absurd H (by simp)
 rw [if_pos c3] at H
 have c3b0 := eq_true c3
 have c3b1 : decide (((l0.length : Int) : Int).toNat ≤ 7036874417766) = true := decide_eq_true c3
 clear c3
 obtain ⟨y156, hy156⟩ : ∃ y_ : List (S40), y_ = (List.replicate ((l0.length : Int) : Int).toNat z40) := ⟨_, rfl⟩
 replace H : (laws_toInodeS.l0 k l0 y156 0) = some r := by first | (rw [hy156]; with_reducible exact H) | (have H2_ := (Option.bind_some _ _).symm.trans H; rw [hy156]; with_reducible exact H2_) | (have H2_ := (Option.bind_some _ _).symm.trans H; with_reducible exact H2_) | with_reducible exact H | (rw [hy156]; exact H) | exact H
 have Ny156 := Ah hy156
 clear hy156
 have H' := Ah H
 clear H
 go_enter Tryd.func16, Tryd.ntmps16
 go_wp2_with (first | ((with_reducible refine gate_dst (N := 7) rfl ?_); refine Kd.S_make k40 _ 40 rfl (N := 7) rfl 27 _ _ rfl (l0.length : Int) rfl rfl Tryd.underlying27 (.agg #[(.bool false), (.int .i64 0), (.slice none 0 0)]) 40 info40 rfl (by decide) (by omega) z40 (ok := fun _ => True) (okp := fun _ => True) (k40_mkM _ _ _ z40 (Kd.R_nil _ _ _ _ _)) (fun _ hk => hk) trivial (od) (Nat.le_trans (Nat.mul_le_mul_right _ (od : (l0.length : Int).toNat ≤ 7036874417766)) (by omega)) (Below.refl _ _) (Nat.le_refl _) ?_; intro v157 w4 ho5 hb hg_ hnew_; clear hg_ hnew_; (first | rw [← Ny156.out] at ho5 | (simp only [Int.reduceToNat] at ho5; rw [← Ny156.out] at ho5)); have HO158 := Ah (Kd.S_lower ho5 (below_size (bs HB))); replace HB := Ah (below_step (bs HB) hb); clear hb ho5))
 go_loopg [4] k (fun kq v4 w' => ∃ (x3_1 : List (S40)) (x4_1 : Int), v4 = .int .i64 x4_1 ∧ Aside0 (laws_toInodeS.l0 kq l0 x3_1 x4_1 = some r) ∧ Aside0 (kq ≤ k) ∧ Aside0 (Kd.S k40 40 w' w.heap.size (fun _ => True) v157 x3_1) ∧ Aside0 (Below w.heap.size w w'))
 case atStart => exact ⟨(y156), (0), e3, H', ⟨Nat.le_refl _⟩, ⟨by (with_reducible repeat (first | apply Kd.S_alloc | apply Kd.S_drewN | apply Kd.S_drew)); exact HO158.out⟩, ⟨bs HB⟩⟩
 case round =>
  clear H'
  try clear c1
  try clear c2
  try clear c2b0
  try clear c2b1
  try clear p2
  try clear c3
  try clear c3b0
  try clear c3b1
  obtain ⟨x3_1, x4_1, rfl, HA, HK1, HO_3, HB⟩ := hrel
  cases gk with
  | zero => exact absurd HA.out (by simp [laws_toInodeS.l0])
  | succ k1 =>
   have H := HA.out
   clear HA
   simp only [laws_toInodeS.l0] at H
   by_cases c6 : x4_1 < (l0.length : Int)
   rotate_left
   ·
    rw [if_neg c6] at H
    have c6b0 : decide (x4_1 < (l0.length : Int)) = false := decide_eq_false c6
    clear c6
    obtain rfl := Option.some.inj H
    go_wp2
    go_ret
    exact ⟨_, er, by (with_reducible repeat (first | apply Kd.S_alloc | apply Kd.S_drewN | apply Kd.S_drew)); exact HO_3.out, bs HB⟩
   rw [if_pos c6] at H
   have c6b0 : decide (x4_1 < (l0.length : Int)) = true := decide_eq_true c6
   clear c6
   by_cases c7 : 0 ≤ x4_1
   rotate_left
   ·
    rw [if_neg c7] at H
    exact absurd H (by simp)
   rw [if_pos c7] at H
   have c7b0 : decide (0 ≤ x4_1) = true := decide_eq_true c7
   clear c7
   replace H := Option.bind_eq_some_iff.mp H
   obtain ⟨⟨t160, t161, t162⟩, A80, H⟩ := H
   try dsimp only at H
   have A8 := Ah A80
   clear A80
   by_cases c9 : x4_1 < (x3_1.length : Int)
   rotate_left
   ·
    rw [if_neg c9] at H
    exact absurd H (by simp)
   rw [if_pos c9] at H
   have c9b0 : decide (x4_1 < (x3_1.length : Int)) = true := decide_eq_true c9
   clear c9
   obtain ⟨y165, hy165⟩ : ∃ y_ : List (S40), y_ = (x3_1.set (x4_1 : Int).toNat (⟨t160, t161, t162⟩ : S40)) := ⟨_, rfl⟩
   replace H : (laws_toInodeS.l0 k1 l0 y165 (wrap64 (x4_1 + 1))) = some r := by first | (rw [hy165]; with_reducible exact H) | (have H2_ := (Option.bind_some _ _).symm.trans H; rw [hy165]; with_reducible exact H2_) | (have H2_ := (Option.bind_some _ _).symm.trans H; with_reducible exact H2_) | with_reducible exact H | (rw [hy165]; exact H) | exact H
   have Ny165 := Ah hy165
   clear hy165
   have H' := Ah H
   clear H
   have p159 : 0 ≤ (x4_1 : Int) := od
   have q159 : x4_1 < (l0.length : Int) := od
   obtain ⟨ad159, A159_2, c159_2, e159, hx159_0, hx159_1, hx159_2, hl159_2, hi159_2⟩ := at_T59 HR0.out x4_1 p159 q159
   cases e159
   replace hx159_0 := (HB.out.cell (World.block_lt_of_cell? w _ hx159_0)).trans hx159_0
   replace hx159_1 := (HB.out.cell (World.block_lt_of_cell? w _ hx159_1)).trans hx159_1
   replace hx159_2 := (HB.out.cell (World.block_lt_of_cell? w _ hx159_2)).trans hx159_2
   have HR159_2 := Ah hi159_2
   have HC159_2 := Ah hl159_2
   clear hi159_2 hl159_2
   replace p159 := eq_true p159
   replace q159 := eq_true q159
   go_wp2_with (first | ((with_reducible refine gate_callee (f := 26) rfl ?_); refine gL (some 20) rfl rfl Tryd.func26 (by kernel_rfl) rfl #[.agg #[.bool ((rd_T59 l0 x4_1).f0), .int .i64 ((rd_T59 l0 x4_1).f1), .slice A159_2 ((rd_T59 l0 x4_1).f2).length c159_2]] rfl ?_; (with_reducible refine (laws_toInode.calls k1 ((rd_T59 l0 x4_1).f0) ((rd_T59 l0 x4_1).f1) _ _ ((rd_T59 l0 x4_1).f2) t160 t161 t162 _ ?side1 ?side2 A8.out).mono ?_); (case side1 => exact cb HR159_2 HB); (case side2 => exact HC159_2.out); rintro e w11 ⟨v163, rfl, ho0, hb⟩; refine ⟨_, rfl, ?_⟩; replace HO_3 := Ah (Kd.S_elder' (by (with_reducible repeat (first | apply Kd.S_alloc | apply Kd.S_drewN | apply Kd.S_drew)); exact HO_3.out) (Kd.R_base ho0) hb); have HO164 := Ah (Kd.R_lower ho0 (below_size (bs HB))); replace HB := Ah (below_step (bs HB) hb); (try clear hb ho0); have p10 : 0 ≤ (x4_1 : Int) := od; have q10 : (x4_1 : Int) < ((x3_1.length : Int) : Int) := od; obtain ⟨go10, co10, eo10, gb10, gl10, cl10, HG10⟩ := Kd.S_form HO_3.out (by omega); (first | cases eo10 | (injection eo10 with ea_ en_ ec_; (first | subst ea_ | (injection ea_ with ea_; subst ea_)); subst ec_; clear en_)); have GB10 := Ah gb10; have GG10 := Ah HG10; clear gb10 gl10 HG10; obtain ⟨_, ce10, hcl10, hM10, hcc10, hfr10, _, _⟩ := Kd.S_elem HO_3.out z40 (x4_1 : Int) p10 q10; obtain ⟨ve10_2, rfl, ge10_2⟩ := k40_openM hM10; have hx10_0 : w11.cell? ⟨go10, (x4_1 : Int).toNat * 3, none⟩ = some (.bool ((rd_T40 x3_1 x4_1).f0)) := hcc10 0 _ rfl; have hx10_1 : w11.cell? ⟨go10, (x4_1 : Int).toNat * 3 + 1, none⟩ = some (.int .i64 ((rd_T40 x3_1 x4_1).f1)) := hcc10 1 _ rfl; have hx10_2 : w11.cell? ⟨go10, (x4_1 : Int).toNat * 3 + 2, none⟩ = some (ve10_2) := hcc10 2 _ rfl; have hf10_0 : w11.frozen? ⟨go10, (x4_1 : Int).toNat * 3, none⟩ = false := hfr10 0; have hf10_1 : w11.frozen? ⟨go10, (x4_1 : Int).toNat * 3 + 1, none⟩ = false := hfr10 1; have hf10_2 : w11.frozen? ⟨go10, (x4_1 : Int).toNat * 3 + 2, none⟩ = false := hfr10 2; clear hcl10 hcc10 hfr10 hM10; replace p10 := eq_true p10; replace q10 := eq_true q10; have n_ := Ah (Kd.S_mono (ok' := (fun k_ => some k_ ≠ (v163 : Value).ownBlock)) HO_3.out (fun k_ hk => hk.2)); clear HO_3; have HO_3 := n_; clear n_; have HX12 := Ah (show Kd.S k40 40 w11 w.heap.size (fun k_ => ((fun _ => True)) k_ ∧ ¬ ((fun k_ => some k_ = (v163 : Value).ownBlock)) k_) (.slice (some ⟨go10, 0, none⟩) x3_1.length co10) x3_1 from (by (with_reducible repeat (first | apply Kd.S_alloc | apply Kd.S_drewN | apply Kd.S_drew)); exact Kd.S_mono HO_3.out (fun k_ hk => ⟨trivial, fun e_ => hk e_⟩))); obtain ⟨oki12, ce12, hcl12, hM12, hcc12, hfr12, hoki12, hH12⟩ := Kd.S_elem HX12.out z40 (x4_1 : Int) (od) (by have h_ : (x4_1 : Int) < ((x3_1.length : Int) : Int) := od; first | exact h_ | (have e_ := (Kd.S_reads' HO_3.out).1; omega) | simpa using h_); obtain ⟨ve12_2, rfl, ge12_2⟩ := k40_openM hM12; have HP12 := Kd.S_seg hH12 (od) (by have h_ : (x4_1 : Int) < ((x3_1.length : Int) : Int) := od; first | exact h_ | (have e_ := (Kd.S_reads' HO_3.out).1; omega) | simpa using h_) (seg := [.bool t160, .int .i64 t161, v163]) (j := 0) (show 3 ≤ 3 from by decide) (x' := (⟨t160, t161, t162⟩ : S40)) (k40_mkM _ _ _ (⟨t160, t161, t162⟩ : S40) (Kd.R_mono (Kd.R_tight rfl (Kd.R_mono (ok' := fun k_ => ((fun _ => True)) k_ ∧ k_ ≠ go10) (Kd.R_apart' (HO164.out) (Kd.S_typed HO_3.out) (by decide)) (fun k_ hk => ⟨trivial, fun e_ => (hk.2) (by rw [e_]; rfl)⟩))) (fun _ h_ => Or.inr (h_)))) (fun _ hk => hk) (fun k_ hk_ => ((Kd.R_mono (ok' := fun k_ => ((fun _ => True)) k_ ∧ k_ ≠ go10) (Kd.R_apart' (HO164.out) (Kd.S_typed HO_3.out) (by decide)) (fun k_ hk => ⟨trivial, fun e_ => (hk.2) (by rw [e_]; rfl)⟩))).1 k_ hk_.symm); have hx12_0 := hcc12 0 _ rfl; (try simp only [show (k40).sz = 3 from rfl, Nat.mul_one, Nat.add_zero] at hx12_0); have hf12_0 := hfr12 0; (try simp only [show (k40).sz = 3 from rfl, Nat.mul_one, Nat.add_zero] at hf12_0); have hx12_1 := hcc12 1 _ rfl; (try simp only [show (k40).sz = 3 from rfl, Nat.mul_one, Nat.add_zero] at hx12_1); have hf12_1 := hfr12 1; (try simp only [show (k40).sz = 3 from rfl, Nat.mul_one, Nat.add_zero] at hf12_1); have hx12_2 := hcc12 2 _ rfl; (try simp only [show (k40).sz = 3 from rfl, Nat.mul_one, Nat.add_zero] at hx12_2); have hf12_2 := hfr12 2; (try simp only [show (k40).sz = 3 from rfl, Nat.mul_one, Nat.add_zero] at hf12_2); clear hcl12 hcc12 hfr12 hM12 hoki12 hH12) | ((with_reducible refine gate_store (t := 40) (p := 21) rfl ?_); refine store_event (t := 40) (p := 21) (v := ?vo_w13) (w1 := (((w11.setCell ⟨go10, (x4_1 : Int).toNat * 3, none⟩ (.bool t160)).setCell ⟨go10, (x4_1 : Int).toNat * 3 + 1, none⟩ (.int .i64 t161)).setCell ⟨go10, (x4_1 : Int).toNat * 3 + 2, none⟩ (v163))) ?hg ?ho ?hn ?hr ?_; (case ho => rfl); (case hg => rfl); (case hn => rfl); (case hr => (obtain ⟨As_, cs_, es_⟩ := Kd.R_slice HO164.out; subst es_); first | (go_simp; done) | (go_simp; rfl)); intro w13 hw; have hg : w11.grownBy w13 (some go10) := (by rw [hw]; exact HP12.2); have hp_ : Kd.S k40 40 w13 w.heap.size (fun _ => True) (.slice (some ⟨go10, 0, none⟩) x3_1.length co10) y165 := (by rw [hw, Ny165.out]; exact HP12.1); clear HP12; replace HO_3 := Ah (hp_); replace HB := Ah ((by rw [hw]; exact below_set (below_set (below_set (HB.out) GB10.out) GB10.out) GB10.out : Below w.heap.size w w13)); clear HO164; clear hg hw hp_))
   go_roundg k1
   case measure => have := HK1.out; omega
   case rel => exact ⟨(y165), (wrap64 (x4_1 + 1)), e3, H', ⟨by have := HK1.out; omega⟩, ⟨by (with_reducible repeat (first | apply Kd.S_alloc | apply Kd.S_drewN | apply Kd.S_drew)); exact HO_3.out⟩, ⟨bs HB⟩⟩

/-! ### laws_toNames: function 7 -/
def laws_toNames.f (k : Nat) (l0_0 : List (S59)) : Option ((List (S40))) := (laws_toInodeS.f k l0_0).bind fun t169 => (some t169)
theorem laws_toNames.mono : ∀ a0 k, LeO (laws_toNames.f k a0) (laws_toNames.f (k + 1) a0) := by
 intro a0 k
 unfold laws_toNames.f
 repeat' first
   | (with_reducible exact laws_toInodeS.mono _ _)
   | (with_reducible exact LeO.refl _)
   | (with_reducible exact LeO.none _)
   | (with_reducible refine LeO.ite ?_ ?_)
   | (with_reducible refine LeO.bind ?_ (fun _ => ?_))
   | exact laws_toInodeS.mono _ _
   | exact LeO.none _
   | refine LeO.ite ?_ ?_
   | refine LeO.bind ?_ (fun _ => ?_)
set_option maxHeartbeats 8000000 in
set_option maxRecDepth 100000 in
theorem laws_toNames.calls (k : Nat) (A0_0 : Option Addr) (c0_0 : Nat) (l0_0 : List (S59)) (r : List (S40)) (w : World) (hr0_0 : Kd.C k59 w A0_0 l0_0.length l0_0) (hc0_0 : l0_0.length ≤ c0_0) (h : laws_toNames.f k l0_0 = some r) :
  Calls Tryd.prog 7 #[.agg #[.slice A0_0 l0_0.length c0_0]] w fun e w' => ∃ v0_ : Value, e = .returned (.agg #[v0_]) ∧ Kd.S k40 40 w' w.heap.size (fun _ => True) v0_ r ∧ Below w.heap.size w w' := by
 have hu24 := Tryd.underlying24
 have hu29 := Tryd.underlying29
 have HR0_0 := Ah hr0_0
 have HC0_0 := Ah hc0_0
 clear hr0_0 hc0_0
 have HB := Ah (Below.refl w.heap.size w)
 have H : ((laws_toInodeS.f k l0_0).bind fun t169 => (some t169)) = some r := h
 clear h
 replace H := Option.bind_eq_some_iff.mp H
 obtain ⟨t169, A20, H⟩ := H
 try dsimp only at H
 have A2 := Ah A20
 clear A20
 obtain rfl := Option.some.inj H
 go_enter Tryd.func7, Tryd.ntmps7
 go_wp2_with (first | ((with_reducible refine gate_dst (N := 1) rfl ?_); refine boxL 1 24 #[.slice A0_0 l0_0.length c0_0] ?_; intro gb166 hg w3 BK166 hb; have GW166 := gw hg (bs HB); have GE166 := gw hg (bs HB); replace HB := Ah (below_step (bs HB) hb); clear hb hg) | ((with_reducible refine gate_dst (N := 2) rfl ?_); refine boxL 2 29 #[.slice none 0 0] ?_; intro gb167 hg w4 BK167 hb; have GW167 := gw hg (bs1 HB GE166); have GE167 := gw hg (bs1 HB GE166); replace HB := Ah (below_step (bs1 HB GE166) hb); have NB166_167 := nn BK166 hg; have NB167_166 := nm BK166 hg; replace BK166 := nb BK166 hb; clear hb hg) | ((with_reducible refine gate_dst (N := 3) rfl ?_); refine boxL 3 29 #[.slice none 0 0] ?_; intro gb168 hg w5 BK168 hb; have GW168 := gw hg (bs2 HB GE166 GE167); have GE168 := gw hg (bs2 HB GE166 GE167); replace HB := Ah (below_step (bs2 HB GE166 GE167) hb); have NB166_168 := nn BK166 hg; have NB168_166 := nm BK166 hg; replace BK166 := nb BK166 hb; have NB167_168 := nn BK167 hg; have NB168_167 := nm BK167 hg; replace BK167 := nb BK167 hb; clear hb hg; have hnb6 := NB166_167.out; have hnc6 := NB167_166.out; have hnb7 := NB166_168.out; have hnc7 := NB168_166.out; have hcz8_0 := cz1 BK166; have hfz8_0 := fz1 BK166) | ((with_reducible refine gate_callee (f := 16) rfl ?_); refine gL (some 6) rfl rfl Tryd.func16 (by kernel_rfl) rfl #[.slice A0_0 l0_0.length c0_0] rfl ?_; (with_reducible refine (laws_toInodeS.calls k _ _ l0_0 t169 _ ?side1 ?side2 A2.out).mono ?_); (case side1 => exact cb HR0_0 HB); (case side2 => exact HC0_0.out); rintro e w9 ⟨v170, rfl, ho0, hb⟩; refine ⟨_, rfl, ?_⟩; have HO171 := Ah (Kd.S_lower ho0 (below_size (bs3 HB GE166 GE167 GE168))); replace BK166 := nb BK166 hb; replace BK167 := nb BK167 hb; replace BK168 := nb BK168 hb; replace HB := Ah (below_step (bs3 HB GE166 GE167 GE168) hb); (try clear hb ho0); obtain ⟨Ao10, co10, eo10⟩ := Kd.S_slice HO171.out; subst eo10; have hnb11 := NB168_167.out; have hnc11 := NB167_168.out; have hcz12_0 := cz1 BK168; have hfz12_0 := fz1 BK168; have hcz13_0 := cz1 BK167; have hfz13_0 := fz1 BK167))
 refine bodyPost_ret (results_cell_row rfl _ _ gb167 29 #[.slice Ao10 t169.length co10] (0, 0) _ rfl (by (with_reducible repeat (first | refine blk_drewN ?_ _ | refine blk_drew ?_ | refine blk_alloc ?_ _)); refine blk_put (cs := #[.slice none 0 0]) ?_ 0 _ rfl; (with_reducible repeat (first | refine blk_drewN ?_ _ | refine blk_drew ?_ | refine blk_alloc ?_ _)); refine blk_far ?_ NB167_168.out _; (with_reducible repeat (first | refine blk_drewN ?_ _ | refine blk_drew ?_ | refine blk_alloc ?_ _)); exact BK167.out) Tryd.underlying29 rfl (by kernel_rfl)) rfl ?_
 exact ⟨_, er, by (with_reducible repeat (first | apply Kd.S_alloc | apply Kd.S_drewN | apply Kd.S_drew)); exact Kd.S_mono (Kd.S_far (p := ⟨gb167, 0, none⟩) (Kd.S_far (p := ⟨gb168, 0, none⟩) (Kd.S_types (Kd.S_types HO171.out BK168.out (by decide)) BK167.out (by decide)) (fun _ hk => hk.1.2) (.slice Ao10 t169.length co10)) (fun _ hk => hk.2) (.slice Ao10 t169.length co10)) (fun _ hk => trivial), bs3 HB GE166 GE167 GE168⟩

/-! ### impl_within: function 17 -/
def impl_within.f (a0 : Int) (a1 : Int) (a2 : Int) : Option (Bool) := if a0 ≥ a1 then (some (decide (a0 ≤ a2))) else (some false)
set_option maxHeartbeats 8000000 in
set_option maxRecDepth 100000 in
theorem impl_within.calls (a0 : Int) (a1 : Int) (a2 : Int) (r : Bool) (w : World) (h : impl_within.f a0 a1 a2 = some r) :
  Calls Tryd.prog 17 #[.int .i64 a0, .int .i64 a1, .int .i64 a2] w fun e w' => e = .returned (.bool r) ∧ Drawn0 w w' := by
 have H : (if a0 ≥ a1 then (some (decide (a0 ≤ a2))) else (some false)) = some r := h
 clear h
 by_cases c4 : a0 ≥ a1
 ·
  rw [if_pos c4] at H
  have c4b0 : decide (a1 ≤ a0) = true := decide_eq_true c4
  clear c4
  obtain rfl := Option.some.inj H
  go_enter Tryd.func17, Tryd.ntmps17
  go_wp2
  go_ret
  exact ⟨by first | rfl | (simp; done) | (simp [*]; done), by repeat (first | exact Drawn0.refl _ | apply Drawn0.step)⟩
 ·
  rw [if_neg c4] at H
  have c4b0 : decide (a1 ≤ a0) = false := decide_eq_false c4
  clear c4
  obtain rfl := Option.some.inj H
  go_enter Tryd.func17, Tryd.ntmps17
  go_wp2
  go_ret
  exact ⟨by first | rfl | (simp; done) | (simp [*]; done), by repeat (first | exact Drawn0.refl _ | apply Drawn0.step)⟩

/-! ### strings_Trim: function 36 -/
-- strings.Trim at an ASCII cutset: what is in the set goes from both ends.
def strings_Trim.f (a0 : ByteArray) (a1 : ByteArray) : Option ByteArray := if a0.size ≤ 9223372036854775807 ∧ a1.size < 4294967281 ∧ (a1.data.toList.all fun b => decide (b.toNat < 128)) = true then some ⟨(Lib.trimS a0.data.toList a1.data.toList).toArray⟩ else none
theorem strings_Trim.calls (a0 : ByteArray) (a1 : ByteArray) (r : ByteArray) (w : World) (h : strings_Trim.f a0 a1 = some r) :
    Calls Tryd.prog 36 #[.string a0, .string a1] w fun e w' => e = .returned (.string r) ∧ Below w.heap.size w w' := by
  unfold strings_Trim.f at h
  by_cases c : a0.size ≤ 9223372036854775807 ∧ a1.size < 4294967281 ∧ (a1.data.toList.all fun b => decide (b.toNat < 128)) = true
  · rw [if_pos c] at h
    obtain rfl := Option.some.inj h
    exact Rt.trim_calls a0 a1 w c.1 c.2.1 c.2.2
  · rw [if_neg c] at h
    cases h

/-! ### impl_isName: function 27 -/
def impl_isName.f (a0 : ByteArray) : Option (Bool) := (impl_within.f (a0.size : Int) 1 12).bind fun t173 => (if t173 = true then ((strings_Trim.f a0 (⟨#[97, 98, 99, 100, 101, 102, 103, 104, 105, 106, 107, 108, 109, 110, 111, 112, 113, 114, 115, 116, 117, 118, 119, 120, 121, 122, 48, 49, 50, 51, 52, 53, 54, 55, 56, 57, 46, 45]⟩ : ByteArray)).bind fun t174 => (some (t174.toList == ([] : List UInt8)))) else (some false))
set_option maxHeartbeats 8000000 in
set_option maxRecDepth 100000 in
theorem impl_isName.calls (a0 : ByteArray) (r : Bool) (w : World) (h : impl_isName.f a0 = some r) :
  Calls Tryd.prog 27 #[.string a0] w fun e w' => e = .returned (.bool r) ∧ Below w.heap.size w w' := by
 have HB := Ah (Below.refl w.heap.size w)
 have H : ((impl_within.f (a0.size : Int) 1 12).bind fun t173 => (if t173 = true then ((strings_Trim.f a0 (⟨#[97, 98, 99, 100, 101, 102, 103, 104, 105, 106, 107, 108, 109, 110, 111, 112, 113, 114, 115, 116, 117, 118, 119, 120, 121, 122, 48, 49, 50, 51, 52, 53, 54, 55, 56, 57, 46, 45]⟩ : ByteArray)).bind fun t174 => (some (t174.toList == ([] : List UInt8)))) else (some false))) = some r := h
 clear h
 replace H := Option.bind_eq_some_iff.mp H
 obtain ⟨t173, A20, H⟩ := H
 try dsimp only at H
 have A2 := Ah A20
 clear A20
 by_cases c3 : t173 = true
 rotate_left
 ·
  replace c3 := Bool.eq_false_iff.mpr c3
  subst c3
  rw [if_neg fne] at H
  obtain rfl := Option.some.inj H
  go_enter Tryd.func27, Tryd.ntmps27
  go_wp2_with (first | ((with_reducible refine gate_callee (f := 17) rfl ?_); refine gL (some 5) rfl rfl Tryd.func17 (by kernel_rfl) rfl #[.int .i64 (a0.size : Int), .int .i64 1, .int .i64 12] rfl ?_; (with_reducible refine (impl_within.calls (a0.size : Int) 1 12 false _ A2.out).mono ?_); rintro e w' ⟨rfl, ⟨nd, rfl⟩⟩; refine ⟨_, rfl, ?_⟩))
  go_ret
  exact ⟨er, bs HB⟩
 subst c3
 rw [if_pos rfl] at H
 replace H := Option.bind_eq_some_iff.mp H
 obtain ⟨t174, A40, H⟩ := H
 try dsimp only at H
 have A4 := Ah A40
 clear A40
 obtain rfl := Option.some.inj H
 go_enter Tryd.func27, Tryd.ntmps27
 go_wp2_with (first | ((with_reducible refine gate_callee (f := 17) rfl ?_); refine gL (some 5) rfl rfl Tryd.func17 (by kernel_rfl) rfl #[.int .i64 (a0.size : Int), .int .i64 1, .int .i64 12] rfl ?_; (with_reducible refine (impl_within.calls (a0.size : Int) 1 12 true _ A2.out).mono ?_); rintro e w' ⟨rfl, ⟨nd, rfl⟩⟩; refine ⟨_, rfl, ?_⟩) | (go_at_call 36; (with_reducible refine (strings_Trim.calls a0 (⟨#[97, 98, 99, 100, 101, 102, 103, 104, 105, 106, 107, 108, 109, 110, 111, 112, 113, 114, 115, 116, 117, 118, 119, 120, 121, 122, 48, 49, 50, 51, 52, 53, 54, 55, 56, 57, 46, 45]⟩ : ByteArray) t174 _ A4.out).mono ?_); rintro e w5 ⟨rfl, hb⟩; replace HB := Ah (below_step (bs HB) hb); (try clear hb)))
 go_ret
 exact ⟨er, bs HB⟩

/-! ### impl_areNames: function 18 -/
def impl_areNames.l0 : Nat → List (S42) → List (S42) → Int → Int → Option (Bool)
 | 0, _, _, _, _ => none
 | k + 1, x0, x5, x6, x7 => if x7 < x6 then (if 0 ≤ x7 then (if x7 < (x5.length : Int) then ((impl_isName.f ((rd_T42 x5 x7).f0)).bind fun t177 => (if t177 = true then (if x7 > 0 then (if 0 ≤ (wrap64 (x7 - 1)) then (if (wrap64 (x7 - 1)) < (x0.length : Int) then (if ((Op.bytesLess (((rd_T42 x0 (wrap64 (x7 - 1))).f0).toList) (((rd_T42 x5 x7).f0).toList)) = true) then (impl_areNames.l0 k x0 x5 x6 (wrap64 (x7 + 1))) else (some false)) else (none)) else (none)) else (impl_areNames.l0 k x0 x5 x6 (wrap64 (x7 + 1)))) else (some false))) else (none)) else (none)) else (some (decide ((x0.length : Int) ≤ 20)))
def impl_areNames.f (k : Nat) (l0 : List (S42)) : Option (Bool) := impl_areNames.l0 k l0 l0 (l0.length : Int) 0
theorem impl_areNames.mono_l : ∀ k, (∀ y0 y1 y2 y3, LeO (impl_areNames.l0 k y0 y1 y2 y3) (impl_areNames.l0 (k + 1) y0 y1 y2 y3))
 | 0 => fun _ _ _ _ r h => by simp [impl_areNames.l0] at h
 | k + 1 => by
  have ih0 := impl_areNames.mono_l k
  ·
   intro y0 y1 y2 y3
   unfold impl_areNames.l0
   repeat' first
   | (with_reducible exact ih0 _ _ _ _)
   | (with_reducible exact LeO.refl _)
   | (with_reducible exact LeO.none _)
   | (with_reducible refine LeO.ite ?_ ?_)
   | (with_reducible refine LeO.bind ?_ (fun _ => ?_))
   | exact ih0 _ _ _ _
   | exact LeO.none _
   | refine LeO.ite ?_ ?_
   | refine LeO.bind ?_ (fun _ => ?_)
theorem impl_areNames.mono : ∀ a0 k, LeO (impl_areNames.f k a0) (impl_areNames.f (k + 1) a0) := by
 intro a0 k
 have ih0 := impl_areNames.mono_l k
 unfold impl_areNames.f
 repeat' first
   | (with_reducible exact ih0 _ _ _ _)
   | (with_reducible exact LeO.refl _)
   | (with_reducible exact LeO.none _)
   | (with_reducible refine LeO.ite ?_ ?_)
   | (with_reducible refine LeO.bind ?_ (fun _ => ?_))
   | exact ih0 _ _ _ _
   | exact LeO.none _
   | refine LeO.ite ?_ ?_
   | refine LeO.bind ?_ (fun _ => ?_)
def impl_areNames.T4 : Bool × List (List Nat × List Nat) := (true, [([], []), ([0], [0]), ([1], [1]), ([2], [2]), ([3, 2], [3]), ([4], [4]), ([5, 4], [4, 5]), ([6, 4, 4], [4, 6]), ([7], [7]), ([8, 7], [7, 8]), ([7], [7]), ([7], [7]), ([11, 7], [7, 11]), ([10, 12, 7], [7, 10, 12]), ([13, 7], [7, 13]), ([14, 7], [7, 14]), ([9, 15, 7], [7, 9, 15]), ([7, 16, 4], [4, 7, 16]), ([4, 17], [4, 17])])
def impl_areNames.B4 : List Nat := [0, 1, 3, 7, 15, 31, 63, 127, 255, 511, 255, 255, 2303, 7423, 15615, 31999, 65535, 131071, 262143]
theorem impl_areNames.tab4 : rtab .any (opsOf Tryd.f18 4) = impl_areNames.T4 := by kernel_rfl
theorem impl_areNames.bits4 : waitsOk impl_areNames.T4.2 impl_areNames.B4 = true := by kernel_rfl
set_option maxHeartbeats 8000000 in
set_option maxRecDepth 100000 in
theorem impl_areNames.calls (k : Nat) (A0 : Option Addr) (c0 : Nat) (l0 : List (S42)) (r : Bool) (w : World) (hr0 : Kd.C k42 w A0 l0.length l0) (hc0 : l0.length ≤ c0) (h : impl_areNames.f k l0 = some r) :
  Calls Tryd.prog 18 #[.slice A0 l0.length c0] w fun e w' => e = .returned (.bool r) ∧ Below w.heap.size w w' := by
 have hu42 := Tryd.underlying42
 have HR0 := Ah hr0
 have HC0 := Ah hc0
 clear hr0 hc0
 have HB := Ah (Below.refl w.heap.size w)
 have H : (impl_areNames.l0 k l0 l0 (l0.length : Int) 0) = some r := h
 clear h
 have H' := Ah H
 clear H
 go_enter Tryd.func18, Tryd.ntmps18
 go_wp2
 go_loopg [7] k (fun kq v7 w' => ∃ (x7_1 : Int), v7 = .int .i64 x7_1 ∧ Aside0 (impl_areNames.l0 kq l0 l0 (l0.length : Int) x7_1 = some r) ∧ Aside0 (kq ≤ k) ∧ Aside0 (Below w.heap.size w w'))
 case atStart => exact ⟨(0), e3, H', ⟨Nat.le_refl _⟩, ⟨bs HB⟩⟩
 case round =>
  clear H'
  try clear c1
  obtain ⟨x7_1, rfl, HA, HK1, HB⟩ := hrel
  cases gk with
  | zero => exact absurd HA.out (by simp [impl_areNames.l0])
  | succ k1 =>
   have H := HA.out
   clear HA
   simp only [impl_areNames.l0] at H
   by_cases c2 : x7_1 < (l0.length : Int)
   rotate_left
   ·
    rw [if_neg c2] at H
    have c2b0 : decide (x7_1 < (l0.length : Int)) = false := decide_eq_false c2
    clear c2
    obtain rfl := Option.some.inj H
    go_wp2
    go_ret
    exact ⟨er, bs HB⟩
   rw [if_pos c2] at H
   have c2b0 : decide (x7_1 < (l0.length : Int)) = true := decide_eq_true c2
   clear c2
   by_cases c3 : 0 ≤ x7_1
   rotate_left
   ·
    rw [if_neg c3] at H
    exact absurd H (by simp)
   rw [if_pos c3] at H
   have c3b0 : decide (0 ≤ x7_1) = true := decide_eq_true c3
   clear c3
   by_cases c4 : x7_1 < (l0.length : Int)
   rotate_left
   ·
    rw [if_neg c4] at H
    exact absurd H (by simp)
   rw [if_pos c4] at H
   have c4b0 : decide (x7_1 < (l0.length : Int)) = true := decide_eq_true c4
   clear c4
   replace H := Option.bind_eq_some_iff.mp H
   obtain ⟨t177, A50, H⟩ := H
   try dsimp only at H
   have A5 := Ah A50
   clear A50
   by_cases c6 : t177 = true
   rotate_left
   ·
    replace c6 := Bool.eq_false_iff.mpr c6
    subst c6
    rw [if_neg fne] at H
    obtain rfl := Option.some.inj H
    have p175 : 0 ≤ (x7_1 : Int) := od
    have q175 : x7_1 < (l0.length : Int) := od
    obtain ⟨ad175, e175, hx175_0, hx175_1⟩ := at_T42 HR0.out x7_1 p175 q175
    cases e175
    replace hx175_0 := (HB.out.cell (World.block_lt_of_cell? w _ hx175_0)).trans hx175_0
    replace hx175_1 := (HB.out.cell (World.block_lt_of_cell? w _ hx175_1)).trans hx175_1
    replace p175 := eq_true p175
    replace q175 := eq_true q175
    try go_wp2_with (first | ((with_reducible refine gate_dst (N := 4) rfl ?_); refine boxL 4 42 #[.string (⟨#[]⟩ : ByteArray), .int .i64 0] ?_; intro gb176 hg w27 BK176 hb; have GW176 := gw hg (bs HB); have GE176 := gw hg (bs HB); replace HB := Ah (below_step (bs HB) hb); clear hb hg; obtain ⟨hcz28_0, hcz28_1⟩ := cz2 BK176; obtain ⟨hfz28_0, hfz28_1⟩ := fz2 BK176))
    have n0_ : Aside0 (((w27.setCell ⟨gb176, 0, none⟩ (.string ((rd_T42 l0 x7_1).f0))).setCell ⟨gb176, 1, none⟩ (.int .i64 ((rd_T42 l0 x7_1).f1))).heap[gb176]? = some (.cells #[.string ((rd_T42 l0 x7_1).f0), .int .i64 ((rd_T42 l0 x7_1).f1)] 42 (0, 0))) := ⟨by (with_reducible repeat (first | refine blk_drewN ?_ _ | refine blk_drew ?_ | refine blk_alloc ?_ _)); refine blk_put (cs := #[.string ((rd_T42 l0 x7_1).f0), .int .i64 0]) ?_ 1 _ rfl; (with_reducible repeat (first | refine blk_drewN ?_ _ | refine blk_drew ?_ | refine blk_alloc ?_ _)); refine blk_put (cs := #[.string (⟨#[]⟩ : ByteArray), .int .i64 0]) ?_ 0 _ rfl; (with_reducible repeat (first | refine blk_drewN ?_ _ | refine blk_drew ?_ | refine blk_alloc ?_ _)); exact BK176.out⟩
    have n1_ : Aside0 (Below w.heap.size w ((w27.setCell ⟨gb176, 0, none⟩ (.string ((rd_T42 l0 x7_1).f0))).setCell ⟨gb176, 1, none⟩ (.int .i64 ((rd_T42 l0 x7_1).f1)))) := ⟨bs1 HB GE176⟩
    (try clear BK176)
    (try clear HB)
    generalize ((w27.setCell ⟨gb176, 0, none⟩ (.string ((rd_T42 l0 x7_1).f0))).setCell ⟨gb176, 1, none⟩ (.int .i64 ((rd_T42 l0 x7_1).f1))) = w29 at n0_ n1_ ⊢
    have BK176 := n0_
    have HB := n1_
    clear n0_ n1_
    have n0_ := Ah (blk_drew BK176.out)
    have n1_ := Ah (below_drew1 HB.out)
    clear BK176 HB
    have BK176 := n0_
    have HB := n1_
    clear n0_ n1_
    refine start_ (n := 19) (S := fun w' => w'.cell? ⟨gb176, 0, none⟩ = some (.string ((rd_T42 l0 x7_1).f0)) ∧ w'.cell? ⟨gb176, 1, none⟩ = some (.int .i64 ((rd_T42 l0 x7_1).f1))) (ds := []) #[false, false, false, false, false, false, false, false, false, false, false, false, false, false, false, false, false, false, false] (by kernel_rfl) rfl rfl ⟨(blk_cell BK176.out 0).trans rfl, (blk_cell BK176.out 1).trans rfl⟩ (fun hHeld => ?_); refine with_tabW impl_areNames.tab4 impl_areNames.bits4 (fun HT_ HW_ => ?_)
    generalize w29.drew = w30 at BK176 HB hHeld ⊢
    refine pureS 0 12 HT_.out ?_
    refine takeS 1 13 HT_.out HW_.out hHeld (hr := by rintro w' ⟨s0, s1⟩; go_simp; with_reducible rfl) (h := ?_)
    refine one_ (i := 2) (N := some 14) #[true, true, true, false, false, false, false, false, false, false, false, false, false, false, false, false, false, false, false] rfl rfl (one_of HT_.out (by kernel_rfl)) (by decide) (fun K hK => ?_)
    refine goes_ Tryd.func27 (by kernel_rfl) rfl #[.string ((rd_T42 l0 x7_1).f0)] (by rfl) rfl rfl (by (try simp only [List.map_toArray, List.map_cons, List.map_nil]); first | done | rfl | (simp only [List.length_drop, List.length_take]; rfl)) ?_
    with_reducible refine (impl_isName.calls ((rd_T42 l0 x7_1).f0) false _ A5.out).mono ?_
    rintro e w31 ⟨rfl, hb⟩
    refine ⟨_, rfl, ?_⟩
    have n0_ := Ah (bb BK176 hb)
    have n1_ := Ah (below_step (bs1 HB GE176) hb)
    clear BK176 HB
    have BK176 := n0_
    have HB := n1_
    clear n0_ n1_
    (try clear hb)
    (try clear hb2)
    (try clear hk)
    (try clear hi)
    refine hK.out _ _ ⟨(blk_cell BK176.out 0).trans rfl, (blk_cell BK176.out 1).trans rfl⟩ (fun hHeld => ?_)
    clear hK K
    refine norm_ (a' := ?_) ?_ ?_
    rotate_left
    ·
     show Act.put _ (some 14) _ = _
     simp only [Act.put, List.setIfInBounds_toArray, List.set_cons_zero, List.set_cons_succ, i64_w, i32_w]
     rfl
    refine pureS 3 15 HT_.out ?_
    refine pureS 4 16 HT_.out ?_
    refine pureU 5 17 HT_.out ?_
    refine pureU 6 18 HT_.out ?_
    refine pureU 7 19 HT_.out ?_
    refine pureU 8 20 HT_.out ?_
    refine pureU 9 21 HT_.out ?_
    refine pureU 10 22 HT_.out ?_
    refine pureU 11 23 HT_.out ?_
    refine pureU 12 24 HT_.out ?_
    refine pureU 13 25 HT_.out ?_
    refine pureU 14 26 HT_.out ?_
    refine pureU 15 27 HT_.out ?_
    refine pureU 16 28 HT_.out ?_
    refine pureU 17 29 HT_.out ?_
    refine pureS 18 30 HT_.out ?_
    refine done_ (done_of HT_.out (by kernel_rfl)) ?_
    try go_wp2
    go_ret
    exact ⟨er, bs1 HB GE176⟩
   subst c6
   rw [if_pos rfl] at H
   by_cases c7 : x7_1 > 0
   rotate_left
   ·
    rw [if_neg c7] at H
    have c7b0 : decide (0 < x7_1) = false := decide_eq_false c7
    clear c7
    have H' := Ah H
    clear H
    have p175 : 0 ≤ (x7_1 : Int) := od
    have q175 : x7_1 < (l0.length : Int) := od
    obtain ⟨ad175, e175, hx175_0, hx175_1⟩ := at_T42 HR0.out x7_1 p175 q175
    cases e175
    replace hx175_0 := (HB.out.cell (World.block_lt_of_cell? w _ hx175_0)).trans hx175_0
    replace hx175_1 := (HB.out.cell (World.block_lt_of_cell? w _ hx175_1)).trans hx175_1
    replace p175 := eq_true p175
    replace q175 := eq_true q175
    try go_wp2_with (first | ((with_reducible refine gate_dst (N := 4) rfl ?_); refine boxL 4 42 #[.string (⟨#[]⟩ : ByteArray), .int .i64 0] ?_; intro gb176 hg w22 BK176 hb; have GW176 := gw hg (bs HB); have GE176 := gw hg (bs HB); replace HB := Ah (below_step (bs HB) hb); clear hb hg; obtain ⟨hcz23_0, hcz23_1⟩ := cz2 BK176; obtain ⟨hfz23_0, hfz23_1⟩ := fz2 BK176))
    have n0_ : Aside0 (((w22.setCell ⟨gb176, 0, none⟩ (.string ((rd_T42 l0 x7_1).f0))).setCell ⟨gb176, 1, none⟩ (.int .i64 ((rd_T42 l0 x7_1).f1))).heap[gb176]? = some (.cells #[.string ((rd_T42 l0 x7_1).f0), .int .i64 ((rd_T42 l0 x7_1).f1)] 42 (0, 0))) := ⟨by (with_reducible repeat (first | refine blk_drewN ?_ _ | refine blk_drew ?_ | refine blk_alloc ?_ _)); refine blk_put (cs := #[.string ((rd_T42 l0 x7_1).f0), .int .i64 0]) ?_ 1 _ rfl; (with_reducible repeat (first | refine blk_drewN ?_ _ | refine blk_drew ?_ | refine blk_alloc ?_ _)); refine blk_put (cs := #[.string (⟨#[]⟩ : ByteArray), .int .i64 0]) ?_ 0 _ rfl; (with_reducible repeat (first | refine blk_drewN ?_ _ | refine blk_drew ?_ | refine blk_alloc ?_ _)); exact BK176.out⟩
    have n1_ : Aside0 (Below w.heap.size w ((w22.setCell ⟨gb176, 0, none⟩ (.string ((rd_T42 l0 x7_1).f0))).setCell ⟨gb176, 1, none⟩ (.int .i64 ((rd_T42 l0 x7_1).f1)))) := ⟨bs1 HB GE176⟩
    (try clear BK176)
    (try clear HB)
    generalize ((w22.setCell ⟨gb176, 0, none⟩ (.string ((rd_T42 l0 x7_1).f0))).setCell ⟨gb176, 1, none⟩ (.int .i64 ((rd_T42 l0 x7_1).f1))) = w24 at n0_ n1_ ⊢
    have BK176 := n0_
    have HB := n1_
    clear n0_ n1_
    have n0_ := Ah (blk_drew BK176.out)
    have n1_ := Ah (below_drew1 HB.out)
    clear BK176 HB
    have BK176 := n0_
    have HB := n1_
    clear n0_ n1_
    refine start_ (n := 19) (S := fun w' => w'.cell? ⟨gb176, 0, none⟩ = some (.string ((rd_T42 l0 x7_1).f0)) ∧ w'.cell? ⟨gb176, 1, none⟩ = some (.int .i64 ((rd_T42 l0 x7_1).f1))) (ds := []) #[false, false, false, false, false, false, false, false, false, false, false, false, false, false, false, false, false, false, false] (by kernel_rfl) rfl rfl ⟨(blk_cell BK176.out 0).trans rfl, (blk_cell BK176.out 1).trans rfl⟩ (fun hHeld => ?_); refine with_tabW impl_areNames.tab4 impl_areNames.bits4 (fun HT_ HW_ => ?_)
    generalize w24.drew = w25 at BK176 HB hHeld ⊢
    refine pureS 0 12 HT_.out ?_
    refine takeS 1 13 HT_.out HW_.out hHeld (hr := by rintro w' ⟨s0, s1⟩; go_simp; with_reducible rfl) (h := ?_)
    refine one_ (i := 2) (N := some 14) #[true, true, true, false, false, false, false, false, false, false, false, false, false, false, false, false, false, false, false] rfl rfl (one_of HT_.out (by kernel_rfl)) (by decide) (fun K hK => ?_)
    refine goes_ Tryd.func27 (by kernel_rfl) rfl #[.string ((rd_T42 l0 x7_1).f0)] (by rfl) rfl rfl (by (try simp only [List.map_toArray, List.map_cons, List.map_nil]); first | done | rfl | (simp only [List.length_drop, List.length_take]; rfl)) ?_
    with_reducible refine (impl_isName.calls ((rd_T42 l0 x7_1).f0) true _ A5.out).mono ?_
    rintro e w26 ⟨rfl, hb⟩
    refine ⟨_, rfl, ?_⟩
    have n0_ := Ah (bb BK176 hb)
    have n1_ := Ah (below_step (bs1 HB GE176) hb)
    clear BK176 HB
    have BK176 := n0_
    have HB := n1_
    clear n0_ n1_
    (try clear hb)
    (try clear hb2)
    (try clear hk)
    (try clear hi)
    refine hK.out _ _ ⟨(blk_cell BK176.out 0).trans rfl, (blk_cell BK176.out 1).trans rfl⟩ (fun hHeld => ?_)
    clear hK K
    refine norm_ (a' := ?_) ?_ ?_
    rotate_left
    ·
     show Act.put _ (some 14) _ = _
     simp only [Act.put, List.setIfInBounds_toArray, List.set_cons_zero, List.set_cons_succ, i64_w, i32_w]
     rfl
    refine pureS 3 15 HT_.out ?_
    refine pureS 4 16 HT_.out ?_
    refine pureS 5 17 HT_.out ?_
    refine pureS 6 18 HT_.out ?_
    refine pureS 7 19 HT_.out ?_
    refine pureU 8 20 HT_.out ?_
    refine pureU 9 21 HT_.out ?_
    refine pureU 10 22 HT_.out ?_
    refine pureU 11 23 HT_.out ?_
    refine pureU 12 24 HT_.out ?_
    refine pureU 13 25 HT_.out ?_
    refine pureU 14 26 HT_.out ?_
    refine pureU 15 27 HT_.out ?_
    refine pureU 16 28 HT_.out ?_
    refine pureS 17 29 HT_.out ?_
    refine pureS 18 30 HT_.out ?_
    refine done_ (done_of HT_.out (by kernel_rfl)) ?_
    try go_wp2
    go_roundg k1
    case measure => have := HK1.out; omega
    case rel => exact ⟨(wrap64 (x7_1 + 1)), e3, H', ⟨by have := HK1.out; omega⟩, ⟨bs1 HB GE176⟩⟩
   rw [if_pos c7] at H
   have c7b0 : decide (0 < x7_1) = true := decide_eq_true c7
   clear c7
   obtain ⟨ji8, hji8⟩ : ∃ j_ : Int, (wrap64 (x7_1 - 1)) = j_ := ⟨_, rfl⟩
   replace H : (if 0 ≤ (ji8) then (if (ji8) < (l0.length : Int) then (if ((Op.bytesLess (((rd_T42 l0 (ji8)).f0).toList) (((rd_T42 l0 x7_1).f0).toList)) = true) then (impl_areNames.l0 k1 l0 l0 (l0.length : Int) (wrap64 (x7_1 + 1))) else (some false)) else (none)) else (none)) = some r := by first | (rw [hji8] at H; exact H) | (simp only [hji8] at H ⊢; exact H)
   (try rw [hji8] at A5)
   have hji8w : (IntKind.i64.wrap (x7_1 - 1)) = ji8 := (i64_w _).trans hji8
   by_cases c9 : 0 ≤ (ji8)
   rotate_left
   ·
    rw [if_neg c9] at H
    exact absurd H (by simp)
   rw [if_pos c9] at H
   have c9b0 : decide (0 ≤ (ji8)) = true := decide_eq_true c9
   clear c9
   by_cases c10 : (ji8) < (l0.length : Int)
   rotate_left
   ·
    rw [if_neg c10] at H
    exact absurd H (by simp)
   rw [if_pos c10] at H
   have c10b0 : decide ((ji8) < (l0.length : Int)) = true := decide_eq_true c10
   clear c10
   by_cases c11 : ((Op.bytesLess (((rd_T42 l0 (ji8)).f0).toList) (((rd_T42 l0 x7_1).f0).toList)) = true)
   ·
    rw [if_pos c11] at H
    have c11b0 : (Op.bytesLess (((rd_T42 l0 (ji8)).f0).toList) (((rd_T42 l0 x7_1).f0).toList)) = true := c11
    clear c11
    have H' := Ah H
    clear H
    have p175 : 0 ≤ (x7_1 : Int) := od
    have q175 : x7_1 < (l0.length : Int) := od
    obtain ⟨ad175, e175, hx175_0, hx175_1⟩ := at_T42 HR0.out x7_1 p175 q175
    cases e175
    replace hx175_0 := (HB.out.cell (World.block_lt_of_cell? w _ hx175_0)).trans hx175_0
    replace hx175_1 := (HB.out.cell (World.block_lt_of_cell? w _ hx175_1)).trans hx175_1
    replace p175 := eq_true p175
    replace q175 := eq_true q175
    try go_wp2_with (first | ((with_reducible refine gate_dst (N := 4) rfl ?_); refine boxL 4 42 #[.string (⟨#[]⟩ : ByteArray), .int .i64 0] ?_; intro gb176 hg w12 BK176 hb; have GW176 := gw hg (bs HB); have GE176 := gw hg (bs HB); replace HB := Ah (below_step (bs HB) hb); clear hb hg; obtain ⟨hcz13_0, hcz13_1⟩ := cz2 BK176; obtain ⟨hfz13_0, hfz13_1⟩ := fz2 BK176))
    have n0_ : Aside0 (((w12.setCell ⟨gb176, 0, none⟩ (.string ((rd_T42 l0 x7_1).f0))).setCell ⟨gb176, 1, none⟩ (.int .i64 ((rd_T42 l0 x7_1).f1))).heap[gb176]? = some (.cells #[.string ((rd_T42 l0 x7_1).f0), .int .i64 ((rd_T42 l0 x7_1).f1)] 42 (0, 0))) := ⟨by (with_reducible repeat (first | refine blk_drewN ?_ _ | refine blk_drew ?_ | refine blk_alloc ?_ _)); refine blk_put (cs := #[.string ((rd_T42 l0 x7_1).f0), .int .i64 0]) ?_ 1 _ rfl; (with_reducible repeat (first | refine blk_drewN ?_ _ | refine blk_drew ?_ | refine blk_alloc ?_ _)); refine blk_put (cs := #[.string (⟨#[]⟩ : ByteArray), .int .i64 0]) ?_ 0 _ rfl; (with_reducible repeat (first | refine blk_drewN ?_ _ | refine blk_drew ?_ | refine blk_alloc ?_ _)); exact BK176.out⟩
    have n1_ : Aside0 (Below w.heap.size w ((w12.setCell ⟨gb176, 0, none⟩ (.string ((rd_T42 l0 x7_1).f0))).setCell ⟨gb176, 1, none⟩ (.int .i64 ((rd_T42 l0 x7_1).f1)))) := ⟨bs1 HB GE176⟩
    (try clear BK176)
    (try clear HB)
    generalize ((w12.setCell ⟨gb176, 0, none⟩ (.string ((rd_T42 l0 x7_1).f0))).setCell ⟨gb176, 1, none⟩ (.int .i64 ((rd_T42 l0 x7_1).f1))) = w14 at n0_ n1_ ⊢
    have BK176 := n0_
    have HB := n1_
    clear n0_ n1_
    have n0_ := Ah (blk_drew BK176.out)
    have n1_ := Ah (below_drew1 HB.out)
    clear BK176 HB
    have BK176 := n0_
    have HB := n1_
    clear n0_ n1_
    have p178 : 0 ≤ ((ji8) : Int) := od
    have q178 : (ji8) < (l0.length : Int) := od
    obtain ⟨ad178, e178, hx178_0, hx178_1⟩ := at_T42 HR0.out (ji8) p178 q178
    have hw178_1 := hx178_1
    have hw178_0 := hx178_0
    obtain rfl : ad175 = ad178 := (by injection e178)
    replace hx178_0 := (HB.out.cell (World.block_lt_of_cell? w _ hx178_0)).trans hx178_0
    replace hx178_1 := (HB.out.cell (World.block_lt_of_cell? w _ hx178_1)).trans hx178_1
    replace p178 := eq_true p178
    replace q178 := eq_true q178
    refine start_ (n := 19) (S := fun w' => w'.cell? ⟨gb176, 0, none⟩ = some (.string ((rd_T42 l0 x7_1).f0)) ∧ w'.cell? ⟨gb176, 1, none⟩ = some (.int .i64 ((rd_T42 l0 x7_1).f1)) ∧ w'.cell? (ad175.add (((ji8)).toNat * 2)) = some (.string ((rd_T42 l0 (ji8)).f0)) ∧ w'.cell? ⟨(ad175.add (((ji8)).toNat * 2)).block, (ad175.add (((ji8)).toNat * 2)).off + 1, none⟩ = some (.int .i64 ((rd_T42 l0 (ji8)).f1))) (ds := []) #[false, false, false, false, false, false, false, false, false, false, false, false, false, false, false, false, false, false, false] (by kernel_rfl) rfl rfl ⟨(blk_cell BK176.out 0).trans rfl, (blk_cell BK176.out 1).trans rfl, ((HB.out.cell (World.block_lt_of_cell? w _ hw178_0)).trans hw178_0), ((HB.out.cell (World.block_lt_of_cell? w _ hw178_1)).trans hw178_1)⟩ (fun hHeld => ?_); refine with_tabW impl_areNames.tab4 impl_areNames.bits4 (fun HT_ HW_ => ?_)
    generalize w14.drew = w15 at BK176 HB hx178_0 hx178_1 hHeld ⊢
    refine pureS 0 12 HT_.out ?_
    refine takeS 1 13 HT_.out HW_.out hHeld (hr := by rintro w' ⟨s0, s1, s2, s3⟩; go_simp; with_reducible rfl) (h := ?_)
    refine one_ (i := 2) (N := some 14) #[true, true, true, false, false, false, false, false, false, false, false, false, false, false, false, false, false, false, false] rfl rfl (one_of HT_.out (by kernel_rfl)) (by decide) (fun K hK => ?_)
    refine goes_ Tryd.func27 (by kernel_rfl) rfl #[.string ((rd_T42 l0 x7_1).f0)] (by rfl) rfl rfl (by (try simp only [List.map_toArray, List.map_cons, List.map_nil]); first | done | rfl | (simp only [List.length_drop, List.length_take]; rfl)) ?_
    with_reducible refine (impl_isName.calls ((rd_T42 l0 x7_1).f0) true _ A5.out).mono ?_
    rintro e w16 ⟨rfl, hb⟩
    refine ⟨_, rfl, ?_⟩
    have n0_ := Ah (bb BK176 hb)
    have n1_ := Ah (below_step (bs1 HB GE176) hb)
    clear BK176 HB
    have BK176 := n0_
    have HB := n1_
    clear n0_ n1_
    (try clear hb)
    (try clear hb2)
    (try clear hk)
    (try clear hi)
    refine hK.out _ _ ⟨(blk_cell BK176.out 0).trans rfl, (blk_cell BK176.out 1).trans rfl, ((HB.out.cell (World.block_lt_of_cell? w _ hw178_0)).trans hw178_0), ((HB.out.cell (World.block_lt_of_cell? w _ hw178_1)).trans hw178_1)⟩ (fun hHeld => ?_)
    clear hK K
    refine norm_ (a' := ?_) ?_ ?_
    rotate_left
    ·
     show Act.put _ (some 14) _ = _
     simp only [Act.put, List.setIfInBounds_toArray, List.set_cons_zero, List.set_cons_succ, i64_w, i32_w]
     rfl
    refine pureS 3 15 HT_.out ?_
    refine pureS 4 16 HT_.out ?_
    refine pureS 5 17 HT_.out ?_
    refine pureS 6 18 HT_.out ?_
    refine pureS 7 19 HT_.out ?_
    refine pureS 8 20 HT_.out ?_
    refine pureS 10 22 HT_.out ?_
    refine pureS 11 23 HT_.out ?_
    refine pureS 12 24 HT_.out ?_
    refine pureS 13 25 HT_.out ?_
    refine pureS 14 26 HT_.out ?_
    refine takeS 9 21 HT_.out HW_.out hHeld (hr := by rintro w' ⟨s0, s1, s2, s3⟩; go_simp; with_reducible rfl) (h := ?_)
    refine takeS 15 27 HT_.out HW_.out hHeld (hr := by rintro w' ⟨s0, s1, s2, s3⟩; go_simp; with_reducible rfl) (h := ?_)
    refine pureS 16 28 HT_.out ?_
    refine pureS 17 29 HT_.out ?_
    refine pureS 18 30 HT_.out ?_
    refine done_ (done_of HT_.out (by kernel_rfl)) ?_
    try go_wp2
    go_roundg k1
    case measure => have := HK1.out; omega
    case rel => exact ⟨(wrap64 (x7_1 + 1)), e3, H', ⟨by have := HK1.out; omega⟩, ⟨bs1 HB GE176⟩⟩
   rw [if_neg c11] at H
   have c11b0 : (Op.bytesLess (((rd_T42 l0 (ji8)).f0).toList) (((rd_T42 l0 x7_1).f0).toList)) = false := by simpa using c11
   clear c11
   obtain rfl := Option.some.inj H
   have p175 : 0 ≤ (x7_1 : Int) := od
   have q175 : x7_1 < (l0.length : Int) := od
   obtain ⟨ad175, e175, hx175_0, hx175_1⟩ := at_T42 HR0.out x7_1 p175 q175
   cases e175
   replace hx175_0 := (HB.out.cell (World.block_lt_of_cell? w _ hx175_0)).trans hx175_0
   replace hx175_1 := (HB.out.cell (World.block_lt_of_cell? w _ hx175_1)).trans hx175_1
   replace p175 := eq_true p175
   replace q175 := eq_true q175
   try go_wp2_with (first | ((with_reducible refine gate_dst (N := 4) rfl ?_); refine boxL 4 42 #[.string (⟨#[]⟩ : ByteArray), .int .i64 0] ?_; intro gb176 hg w17 BK176 hb; have GW176 := gw hg (bs HB); have GE176 := gw hg (bs HB); replace HB := Ah (below_step (bs HB) hb); clear hb hg; obtain ⟨hcz18_0, hcz18_1⟩ := cz2 BK176; obtain ⟨hfz18_0, hfz18_1⟩ := fz2 BK176))
   have n0_ : Aside0 (((w17.setCell ⟨gb176, 0, none⟩ (.string ((rd_T42 l0 x7_1).f0))).setCell ⟨gb176, 1, none⟩ (.int .i64 ((rd_T42 l0 x7_1).f1))).heap[gb176]? = some (.cells #[.string ((rd_T42 l0 x7_1).f0), .int .i64 ((rd_T42 l0 x7_1).f1)] 42 (0, 0))) := ⟨by (with_reducible repeat (first | refine blk_drewN ?_ _ | refine blk_drew ?_ | refine blk_alloc ?_ _)); refine blk_put (cs := #[.string ((rd_T42 l0 x7_1).f0), .int .i64 0]) ?_ 1 _ rfl; (with_reducible repeat (first | refine blk_drewN ?_ _ | refine blk_drew ?_ | refine blk_alloc ?_ _)); refine blk_put (cs := #[.string (⟨#[]⟩ : ByteArray), .int .i64 0]) ?_ 0 _ rfl; (with_reducible repeat (first | refine blk_drewN ?_ _ | refine blk_drew ?_ | refine blk_alloc ?_ _)); exact BK176.out⟩
   have n1_ : Aside0 (Below w.heap.size w ((w17.setCell ⟨gb176, 0, none⟩ (.string ((rd_T42 l0 x7_1).f0))).setCell ⟨gb176, 1, none⟩ (.int .i64 ((rd_T42 l0 x7_1).f1)))) := ⟨bs1 HB GE176⟩
   (try clear BK176)
   (try clear HB)
   generalize ((w17.setCell ⟨gb176, 0, none⟩ (.string ((rd_T42 l0 x7_1).f0))).setCell ⟨gb176, 1, none⟩ (.int .i64 ((rd_T42 l0 x7_1).f1))) = w19 at n0_ n1_ ⊢
   have BK176 := n0_
   have HB := n1_
   clear n0_ n1_
   have n0_ := Ah (blk_drew BK176.out)
   have n1_ := Ah (below_drew1 HB.out)
   clear BK176 HB
   have BK176 := n0_
   have HB := n1_
   clear n0_ n1_
   have p178 : 0 ≤ ((ji8) : Int) := od
   have q178 : (ji8) < (l0.length : Int) := od
   obtain ⟨ad178, e178, hx178_0, hx178_1⟩ := at_T42 HR0.out (ji8) p178 q178
   have hw178_1 := hx178_1
   have hw178_0 := hx178_0
   obtain rfl : ad175 = ad178 := (by injection e178)
   replace hx178_0 := (HB.out.cell (World.block_lt_of_cell? w _ hx178_0)).trans hx178_0
   replace hx178_1 := (HB.out.cell (World.block_lt_of_cell? w _ hx178_1)).trans hx178_1
   replace p178 := eq_true p178
   replace q178 := eq_true q178
   refine start_ (n := 19) (S := fun w' => w'.cell? ⟨gb176, 0, none⟩ = some (.string ((rd_T42 l0 x7_1).f0)) ∧ w'.cell? ⟨gb176, 1, none⟩ = some (.int .i64 ((rd_T42 l0 x7_1).f1)) ∧ w'.cell? (ad175.add (((ji8)).toNat * 2)) = some (.string ((rd_T42 l0 (ji8)).f0)) ∧ w'.cell? ⟨(ad175.add (((ji8)).toNat * 2)).block, (ad175.add (((ji8)).toNat * 2)).off + 1, none⟩ = some (.int .i64 ((rd_T42 l0 (ji8)).f1))) (ds := []) #[false, false, false, false, false, false, false, false, false, false, false, false, false, false, false, false, false, false, false] (by kernel_rfl) rfl rfl ⟨(blk_cell BK176.out 0).trans rfl, (blk_cell BK176.out 1).trans rfl, ((HB.out.cell (World.block_lt_of_cell? w _ hw178_0)).trans hw178_0), ((HB.out.cell (World.block_lt_of_cell? w _ hw178_1)).trans hw178_1)⟩ (fun hHeld => ?_); refine with_tabW impl_areNames.tab4 impl_areNames.bits4 (fun HT_ HW_ => ?_)
   generalize w19.drew = w20 at BK176 HB hx178_0 hx178_1 hHeld ⊢
   refine pureS 0 12 HT_.out ?_
   refine takeS 1 13 HT_.out HW_.out hHeld (hr := by rintro w' ⟨s0, s1, s2, s3⟩; go_simp; with_reducible rfl) (h := ?_)
   refine one_ (i := 2) (N := some 14) #[true, true, true, false, false, false, false, false, false, false, false, false, false, false, false, false, false, false, false] rfl rfl (one_of HT_.out (by kernel_rfl)) (by decide) (fun K hK => ?_)
   refine goes_ Tryd.func27 (by kernel_rfl) rfl #[.string ((rd_T42 l0 x7_1).f0)] (by rfl) rfl rfl (by (try simp only [List.map_toArray, List.map_cons, List.map_nil]); first | done | rfl | (simp only [List.length_drop, List.length_take]; rfl)) ?_
   with_reducible refine (impl_isName.calls ((rd_T42 l0 x7_1).f0) true _ A5.out).mono ?_
   rintro e w21 ⟨rfl, hb⟩
   refine ⟨_, rfl, ?_⟩
   have n0_ := Ah (bb BK176 hb)
   have n1_ := Ah (below_step (bs1 HB GE176) hb)
   clear BK176 HB
   have BK176 := n0_
   have HB := n1_
   clear n0_ n1_
   (try clear hb)
   (try clear hb2)
   (try clear hk)
   (try clear hi)
   refine hK.out _ _ ⟨(blk_cell BK176.out 0).trans rfl, (blk_cell BK176.out 1).trans rfl, ((HB.out.cell (World.block_lt_of_cell? w _ hw178_0)).trans hw178_0), ((HB.out.cell (World.block_lt_of_cell? w _ hw178_1)).trans hw178_1)⟩ (fun hHeld => ?_)
   clear hK K
   refine norm_ (a' := ?_) ?_ ?_
   rotate_left
   ·
    show Act.put _ (some 14) _ = _
    simp only [Act.put, List.setIfInBounds_toArray, List.set_cons_zero, List.set_cons_succ, i64_w, i32_w]
    rfl
   refine pureS 3 15 HT_.out ?_
   refine pureS 4 16 HT_.out ?_
   refine pureS 5 17 HT_.out ?_
   refine pureS 6 18 HT_.out ?_
   refine pureS 7 19 HT_.out ?_
   refine pureS 8 20 HT_.out ?_
   refine pureS 10 22 HT_.out ?_
   refine pureS 11 23 HT_.out ?_
   refine pureS 12 24 HT_.out ?_
   refine pureS 13 25 HT_.out ?_
   refine pureS 14 26 HT_.out ?_
   refine takeS 9 21 HT_.out HW_.out hHeld (hr := by rintro w' ⟨s0, s1, s2, s3⟩; go_simp; with_reducible rfl) (h := ?_)
   refine takeS 15 27 HT_.out HW_.out hHeld (hr := by rintro w' ⟨s0, s1, s2, s3⟩; go_simp; with_reducible rfl) (h := ?_)
   refine pureS 16 28 HT_.out ?_
   refine pureS 17 29 HT_.out ?_
   refine pureS 18 30 HT_.out ?_
   refine done_ (done_of HT_.out (by kernel_rfl)) ?_
   try go_wp2
   go_ret
   exact ⟨by first | rfl | (simp [errW_none, errW_some] <;> rfl) | (simp only [← hji8]; first | rfl | (simp [errW_none, errW_some] <;> rfl)) | (simp [*, errW_none, errW_some] <;> rfl), bs1 HB GE176⟩

/-! ### impl_Names_deepest: function 19 -/
mutual
def impl_Names_deepest.l0 : Nat → List Int → Int → List (S62) → Int → List (S40) → Option (Int × List Int × Bool)
 | 0, _, _, _, _, _ => none
 | k + 1, x5, x6, x7, x8, x180000 => if x8 < (x7.length : Int) then (if 0 ≤ x8 then (if 0 ≤ ((rd_T62 x7 x8).f0) then (if ((rd_T62 x7 x8).f0) < (x180000.length : Int) then (impl_Names_deepest.l1 k x5 x6 x7 x8 ((rd_T40 x180000 ((rd_T62 x7 x8).f0)).f2) (((rd_T40 x180000 ((rd_T62 x7 x8).f0)).f2).length : Int) 0 x180000) else (none)) else (none)) else (none)) else (some (x6, x5, true))
def impl_Names_deepest.l1 : Nat → List Int → Int → List (S62) → Int → List (S42) → Int → Int → List (S40) → Option (Int × List Int × Bool)
 | 0, _, _, _, _, _, _, _, _ => none
 | k + 1, x5, x6, x7, x8, x32, x33, x34, x180000 => if x34 < x33 then (if 0 ≤ x34 then (if x34 < (x32.length : Int) then ((impl_within.f ((rd_T42 x32 x34).f1) 1 (wrap64 ((x180000.length : Int) - 1))).bind fun t190 => (if t190 = true then (if 0 ≤ x8 then (if x8 < (x7.length : Int) then (if 0 ≤ ((rd_T42 x32 x34).f1) then (if ((rd_T42 x32 x34).f1) < (x5.length : Int) then ((some (x5.set (((rd_T42 x32 x34).f1) : Int).toNat (wrap64 ((rd x5 ((rd_T42 x32 x34).f1)) + 1)) : List Int)).bind fun y193 => (if ((rd_T42 x32 x34).f1) < (x180000.length : Int) then (if (rd_T40 x180000 ((rd_T42 x32 x34).f1)).f0 = true then (if (rd y193 ((rd_T42 x32 x34).f1)) > 1 then (some (0, ([] : List Int), false)) else (if x7.length < 8796093022208 then (impl_Names_deepest.l1 k y193 (mx x6 (wrap64 (((rd_T62 x7 x8).f1) + 1))) (x7 ++ [(⟨(rd_T42 x32 x34).f1, wrap64 (((rd_T62 x7 x8).f1) + 1)⟩ : S62)]) x8 x32 x33 (wrap64 (x34 + 1)) x180000) else (none))) else (impl_Names_deepest.l1 k y193 (mx x6 (wrap64 (((rd_T62 x7 x8).f1) + 1))) x7 x8 x32 x33 (wrap64 (x34 + 1)) x180000)) else (none))) else (none)) else (none)) else (none)) else (none)) else (some (0, ([] : List Int), false)))) else (none)) else (none)) else (impl_Names_deepest.l0 k x5 x6 x7 (wrap64 (x8 + 1)) x180000)
end
def impl_Names_deepest.f (k : Nat) (l0_0 : List (S40)) : Option (Int × List Int × Bool) := if 0 ≤ (l0_0.length : Int) then (if ((l0_0.length : Int) : Int).toNat ≤ 35184372088832 then (impl_Names_deepest.l0 k (List.replicate ((l0_0.length : Int) : Int).toNat 0) 0 (([(⟨0, 0⟩ : S62)] : List (S62))) 0 l0_0) else (none)) else (none)
theorem impl_Names_deepest.mono_l : ∀ k, (∀ y0 y1 y2 y3 y4, LeO (impl_Names_deepest.l0 k y0 y1 y2 y3 y4) (impl_Names_deepest.l0 (k + 1) y0 y1 y2 y3 y4)) ∧ (∀ y0 y1 y2 y3 y4 y5 y6 y7, LeO (impl_Names_deepest.l1 k y0 y1 y2 y3 y4 y5 y6 y7) (impl_Names_deepest.l1 (k + 1) y0 y1 y2 y3 y4 y5 y6 y7))
 | 0 => ⟨fun _ _ _ _ _ r h => by simp [impl_Names_deepest.l0] at h, fun _ _ _ _ _ _ _ _ r h => by simp [impl_Names_deepest.l1] at h⟩
 | k + 1 => by
  obtain ⟨ih0, ih1⟩ := impl_Names_deepest.mono_l k
  refine ⟨?_, ?_⟩ <;> intros <;> first | unfold impl_Names_deepest.l0 | unfold impl_Names_deepest.l1
  all_goals repeat' first
   | (with_reducible exact ih0 _ _ _ _ _)
   | (with_reducible exact ih1 _ _ _ _ _ _ _ _)
   | (with_reducible exact LeO.refl _)
   | (with_reducible exact LeO.none _)
   | (with_reducible refine LeO.ite ?_ ?_)
   | (with_reducible refine LeO.bind ?_ (fun _ => ?_))
   | exact ih0 _ _ _ _ _
   | exact ih1 _ _ _ _ _ _ _ _
   | exact LeO.none _
   | refine LeO.ite ?_ ?_
   | refine LeO.bind ?_ (fun _ => ?_)
theorem impl_Names_deepest.mono : ∀ a0 k, LeO (impl_Names_deepest.f k a0) (impl_Names_deepest.f (k + 1) a0) := by
 intro a0 k
 obtain ⟨ih0, ih1⟩ := impl_Names_deepest.mono_l k
 unfold impl_Names_deepest.f
 repeat' first
   | (with_reducible exact ih0 _ _ _ _ _)
   | (with_reducible exact ih1 _ _ _ _ _ _ _ _)
   | (with_reducible exact LeO.refl _)
   | (with_reducible exact LeO.none _)
   | (with_reducible refine LeO.ite ?_ ?_)
   | (with_reducible refine LeO.bind ?_ (fun _ => ?_))
   | exact ih0 _ _ _ _ _
   | exact ih1 _ _ _ _ _ _ _ _
   | exact LeO.none _
   | refine LeO.ite ?_ ?_
   | refine LeO.bind ?_ (fun _ => ?_)
def impl_Names_deepest.T7 : Bool × List (List Nat × List Nat) := (true, [([], []), ([0], [0]), ([], []), ([], []), ([2, 3], [2, 3]), ([4], [4]), ([5], [5]), ([1, 6], [1, 6]), ([7], [7]), ([8], [8]), ([9], [9]), ([], [])])
def impl_Names_deepest.B7 : List Nat := [0, 1, 0, 0, 12, 28, 60, 127, 255, 511, 1023, 0]
theorem impl_Names_deepest.tab7 : rtab .any (opsOf Tryd.f19 7) = impl_Names_deepest.T7 := by kernel_rfl
theorem impl_Names_deepest.bits7 : waitsOk impl_Names_deepest.T7.2 impl_Names_deepest.B7 = true := by kernel_rfl
def impl_Names_deepest.T17 : Bool × List (List Nat × List Nat) := (true, [([], []), ([], []), ([1], [1]), ([], []), ([], []), ([3, 4], [3, 4]), ([5], [5]), ([6], [6]), ([7], [7]), ([2, 8], [2, 8]), ([9], [9]), ([0, 10], [0, 10]), ([11, 11, 0, 1, 2, 3, 4, 5, 6, 7, 8, 9, 10, 11], [0, 3, 11])])
def impl_Names_deepest.B17 : List Nat := [0, 0, 2, 0, 0, 24, 56, 120, 248, 510, 1022, 2047, 4095]
theorem impl_Names_deepest.tab17 : rtab .any (opsOf Tryd.f19 17) = impl_Names_deepest.T17 := by kernel_rfl
theorem impl_Names_deepest.bits17 : waitsOk impl_Names_deepest.T17.2 impl_Names_deepest.B17 = true := by kernel_rfl
set_option maxHeartbeats 8000000 in
set_option maxRecDepth 100000 in
theorem impl_Names_deepest.calls (k : Nat) (A0_0 : Option Addr) (c0_0 : Nat) (l0_0 : List (S40)) (r1 : Int) (r2 : List Int) (r3 : Bool) (w : World) (hr0_0 : Kd.C k40 w A0_0 l0_0.length l0_0) (hc0_0 : l0_0.length ≤ c0_0) (h : impl_Names_deepest.f k l0_0 = some (r1, r2, r3)) :
  Calls Tryd.prog 19 #[.agg #[.slice A0_0 l0_0.length c0_0]] w fun e w' => ∃ v1_ : Value, e = .returned (.tuple #[.int .i64 r1, v1_, .bool r3]) ∧ Kd.R (Kd.int .i64) 3 w' w.heap.size (fun _ => True) v1_ r2 ∧ Below w.heap.size w w' := by
 have hu29 := Tryd.underlying29
 have hu62 := Tryd.underlying62
 have hu42 := Tryd.underlying42
 have HR0_0 := Ah hr0_0
 have HC0_0 := Ah hc0_0
 clear hr0_0 hc0_0
 have HB := Ah (Below.refl w.heap.size w)
 have H : (if 0 ≤ (l0_0.length : Int) then (if ((l0_0.length : Int) : Int).toNat ≤ 35184372088832 then (impl_Names_deepest.l0 k (List.replicate ((l0_0.length : Int) : Int).toNat 0) 0 (([(⟨0, 0⟩ : S62)] : List (S62))) 0 l0_0) else (none)) else (none)) = some (r1, r2, r3) := h
 clear h
 by_cases c2 : 0 ≤ (l0_0.length : Int)
 rotate_left
 ·
  rw [if_neg c2] at H
  exact absurd H (by simp)
 rw [if_pos c2] at H
 have c2b0 := eq_true c2
 have c2b1 : decide (0 ≤ (l0_0.length : Int)) = true := decide_eq_true c2
 clear c2
 by_cases c3 : ((l0_0.length : Int) : Int).toNat ≤ 35184372088832
 rotate_left
 ·
  rw [if_neg c3] at H
  exact absurd H (by simp)
 rw [if_pos c3] at H
 have c3b0 := eq_true c3
 have c3b1 : decide (((l0_0.length : Int) : Int).toNat ≤ 35184372088832) = true := decide_eq_true c3
 clear c3
 obtain ⟨y180, hy180⟩ : ∃ y_ : List Int, y_ = (List.replicate ((l0_0.length : Int) : Int).toNat 0) := ⟨_, rfl⟩
 replace H : (impl_Names_deepest.l0 k y180 0 (([(⟨0, 0⟩ : S62)] : List (S62))) 0 l0_0) = some (r1, r2, r3) := by first | (rw [hy180]; with_reducible exact H) | (have H2_ := (Option.bind_some _ _).symm.trans H; rw [hy180]; with_reducible exact H2_) | (have H2_ := (Option.bind_some _ _).symm.trans H; with_reducible exact H2_) | with_reducible exact H | (rw [hy180]; exact H) | exact H
 have Ny180 := Ah hy180
 clear hy180
 obtain ⟨y183, hy183⟩ : ∃ y_ : List (S62), y_ = (([(⟨0, 0⟩ : S62)] : List (S62))) := ⟨_, rfl⟩
 replace H : (impl_Names_deepest.l0 k y180 0 y183 0 l0_0) = some (r1, r2, r3) := by first | (rw [hy183]; with_reducible exact H) | (have H2_ := (Option.bind_some _ _).symm.trans H; rw [hy183]; with_reducible exact H2_) | (have H2_ := (Option.bind_some _ _).symm.trans H; with_reducible exact H2_) | with_reducible exact H | (rw [hy183]; exact H) | exact H
 have Ny183 := Ah hy183
 clear hy183
 have H' := Ah H
 clear H
 go_enter Tryd.func19, Tryd.ntmps19
 go_wp2_with (first | ((with_reducible refine gate_dst (N := 1) rfl ?_); refine boxL 1 29 #[.slice A0_0 l0_0.length c0_0] ?_; intro gb179 hg w4 BK179 hb; have GW179 := gw hg (bs HB); have GE179 := gw hg (bs HB); replace HB := Ah (below_step (bs HB) hb); clear hb hg; have hcz5_0 := cz1 BK179; have hfz5_0 := fz1 BK179) | ((with_reducible refine gate_dst (N := 14) rfl ?_); refine Kd.R_make (Kd.int .i64) _ 3 rfl (N := 14) rfl 44 _ _ rfl (l0_0.length : Int) rfl rfl Tryd.underlying44 (.int .i64 0) 8 info3 rfl (by decide) (by omega) 0 (ok := fun _ => True) (okp := fun _ => True) rfl (fun _ hk => hk) trivial (od) (Nat.le_trans (Nat.mul_le_mul_right _ (od : (l0_0.length : Int).toNat ≤ 35184372088832)) (by omega)) (Below.refl _ _) (Nat.le_refl _) ?_; intro v181 w6 ho7 hb hg_ hnew_; clear hg_ hnew_; (first | rw [← Ny180.out] at ho7 | (simp only [Int.reduceToNat] at ho7; rw [← Ny180.out] at ho7)); have HO182 := Ah (Kd.R_lower ho7 (below_size (bs1 HB GE179))); replace BK179 := nb BK179 hb; replace HB := Ah (below_step (bs1 HB GE179) hb); clear hb ho7) | ((with_reducible refine gate_dst (N := 16) rfl ?_); refine Kd.R_lit k62 _ 62 ?hg (N := 16) ?hd (xs := ([(⟨0, 0⟩ : S62)] : List (S62))) (inner := [.int .i64 0, .int .i64 0]) (ok := fun _ => True) (okp := fun _ => True) ?hr ?hp (fun _ hk => hk) trivial (Below.refl _ _) (Nat.le_refl _) (by simp) ?_; (case hd => rfl); (case hg => rfl); (case hr => first | (go_simp; done) | (go_simp; rfl)); (case hp => exact (Reps.c2 (show Kd.M k62 _ _ _ (⟨0, 0⟩ : S62) [.int .i64 0, .int .i64 0] from (k62_mkM _ _ _ (⟨0, 0⟩ : S62) )) (Reps.none _ _))); intro v184 w8 ho9 hb hg_ hnew_; clear hg_ hnew_; (first | rw [← Ny183.out] at ho9 | (simp only [Int.reduceToNat] at ho9; rw [← Ny183.out] at ho9)); replace HO182 := nr HO182 hb; have HO185 := Ah (Kd.R_lower ho9 (below_size (bs1 HB GE179))); replace BK179 := nb BK179 hb; replace HB := Ah (below_step (bs1 HB GE179) hb); clear hb ho9))
 go_loopg [6, 7, 8] k (fun kq v6 v7 v8 w' => ∃ (x5_1 : List Int) (x6_1 : Int) (x7_1 : List (S62)) (x8_1 : Int), v6 = .int .i64 x6_1 ∧ v8 = .int .i64 x8_1 ∧ Aside0 (impl_Names_deepest.l0 kq x5_1 x6_1 x7_1 x8_1 l0_0 = some (r1, r2, r3)) ∧ Aside0 (kq ≤ k) ∧ Aside0 (Kd.R (Kd.int .i64) 3 w' w.heap.size (fun _ => True) v181 x5_1) ∧ Aside0 (Kd.R k62 62 w' w.heap.size (fun _ => True) v7 x7_1) ∧ Aside0 (w'.heap[gb179]? = some (.cells #[(.slice A0_0 l0_0.length c0_0)] 29 (0, 0))) ∧ Aside0 (Below w.heap.size w w'))
 case atStart => exact ⟨(y180), (0), (y183), (0), e3, e3, H', ⟨Nat.le_refl _⟩, ⟨rr HO182.out⟩, ⟨rr HO185.out⟩, ⟨bk BK179⟩, ⟨bs1 HB GE179⟩⟩
 case round =>
  clear H'
  try clear c1
  try clear c2
  try clear c2b0
  try clear c2b1
  try clear p2
  try clear c3
  try clear c3b0
  try clear c3b1
  try clear hcz5_0
  try clear hfz5_0
  obtain ⟨x5_1, x6_1, x7_1, x8_1, rfl, rfl, HA, HK1, HO_5, HO_7, BK179, HB⟩ := hrel
  cases gk with
  | zero => exact absurd HA.out (by simp [impl_Names_deepest.l0])
  | succ k1 =>
   have H := HA.out
   clear HA
   simp only [impl_Names_deepest.l0] at H
   by_cases c10 : x8_1 < (x7_1.length : Int)
   rotate_left
   ·
    rw [if_neg c10] at H
    have c10b0 : decide (x8_1 < (x7_1.length : Int)) = false := decide_eq_false c10
    clear c10
    simp only [Option.some.injEq, Prod.mk.injEq] at H
    obtain ⟨rfl, rfl, rfl⟩ := H
    obtain ⟨Ao77, co77, eo77⟩ := Kd.R_slice HO_7.out
    subst eo77
    go_wp2
    go_ret3
    exact ⟨_, er, by (with_reducible repeat (first | apply Kd.R_alloc | apply Kd.R_drewN | apply Kd.R_drew)); exact HO_5.out, bs1 HB GE179⟩
   rw [if_pos c10] at H
   have c10b0 : decide (x8_1 < (x7_1.length : Int)) = true := decide_eq_true c10
   clear c10
   by_cases c11 : 0 ≤ x8_1
   rotate_left
   ·
    rw [if_neg c11] at H
    exact absurd H (by simp)
   rw [if_pos c11] at H
   have c11b0 : decide (0 ≤ x8_1) = true := decide_eq_true c11
   clear c11
   by_cases c12 : 0 ≤ ((rd_T62 x7_1 x8_1).f0)
   rotate_left
   ·
    rw [if_neg c12] at H
    exact absurd H (by simp)
   rw [if_pos c12] at H
   have c12b0 : decide (0 ≤ ((rd_T62 x7_1 x8_1).f0)) = true := decide_eq_true c12
   clear c12
   by_cases c13 : ((rd_T62 x7_1 x8_1).f0) < (l0_0.length : Int)
   rotate_left
   ·
    rw [if_neg c13] at H
    exact absurd H (by simp)
   rw [if_pos c13] at H
   have c13b0 : decide (((rd_T62 x7_1 x8_1).f0) < (l0_0.length : Int)) = true := decide_eq_true c13
   clear c13
   have H' := Ah H
   clear H
   obtain ⟨Ao14, co14, eo14⟩ := Kd.R_slice HO_7.out
   subst eo14
   try go_wp2
   have n0_ := Ah (Kd.R_drew HO_5.out)
   have n1_ := Ah (Kd.R_drew HO_7.out)
   have n2_ := Ah (blk_drew BK179.out)
   have n3_ := Ah (below_drew1 HB.out)
   clear HO_5 HO_7 BK179 HB
   have HO_5 := n0_
   have HO_7 := n1_
   have BK179 := n2_
   have HB := n3_
   clear n0_ n1_ n2_ n3_
   have p186 : 0 ≤ (x8_1 : Int) := od
   have q186 : x8_1 < (x7_1.length : Int) := od
   obtain ⟨ad186, e186, hx186_0, hx186_1⟩ := at_T62 (Kd.R_reads' HO_7.out).2.2 x8_1 p186 q186
   cases e186
   replace p186 := eq_true p186
   replace q186 := eq_true q186
   have p187 : 0 ≤ (((rd_T62 x7_1 x8_1).f0) : Int) := od
   have q187 : ((rd_T62 x7_1 x8_1).f0) < (l0_0.length : Int) := od
   obtain ⟨ad187, A187_2, c187_2, e187, hx187_0, hx187_1, hx187_2, hl187_2, hi187_2⟩ := at_T40 HR0_0.out ((rd_T62 x7_1 x8_1).f0) p187 q187
   have hw187_2 := hx187_2
   have hw187_1 := hx187_1
   have hw187_0 := hx187_0
   cases e187
   replace hx187_0 := (HB.out.cell (World.block_lt_of_cell? w _ hx187_0)).trans hx187_0
   replace hx187_1 := (HB.out.cell (World.block_lt_of_cell? w _ hx187_1)).trans hx187_1
   replace hx187_2 := (HB.out.cell (World.block_lt_of_cell? w _ hx187_2)).trans hx187_2
   have HR187_2 := Ah hi187_2
   have HC187_2 := Ah hl187_2
   clear hi187_2 hl187_2
   replace p187 := eq_true p187
   replace q187 := eq_true q187
   refine start_ (n := 12) (S := fun w' => w'.cell? ⟨gb179, 0, none⟩ = some (.slice (some ad187) l0_0.length c0_0) ∧ w'.cell? (ad186.add ((x8_1).toNat * 2)) = some (.int .i64 ((rd_T62 x7_1 x8_1).f0)) ∧ w'.cell? ⟨(ad186.add ((x8_1).toNat * 2)).block, (ad186.add ((x8_1).toNat * 2)).off + 1, none⟩ = some (.int .i64 ((rd_T62 x7_1 x8_1).f1)) ∧ w'.cell? (ad187.add ((((rd_T62 x7_1 x8_1).f0)).toNat * 3)) = some (.bool ((rd_T40 l0_0 ((rd_T62 x7_1 x8_1).f0)).f0)) ∧ w'.cell? ⟨(ad187.add ((((rd_T62 x7_1 x8_1).f0)).toNat * 3)).block, (ad187.add ((((rd_T62 x7_1 x8_1).f0)).toNat * 3)).off + 1, none⟩ = some (.int .i64 ((rd_T40 l0_0 ((rd_T62 x7_1 x8_1).f0)).f1)) ∧ w'.cell? ⟨(ad187.add ((((rd_T62 x7_1 x8_1).f0)).toNat * 3)).block, (ad187.add ((((rd_T62 x7_1 x8_1).f0)).toNat * 3)).off + 2, none⟩ = some (.slice A187_2 ((rd_T40 l0_0 ((rd_T62 x7_1 x8_1).f0)).f2).length c187_2)) (ds := []) #[false, false, false, false, false, false, false, false, false, false, false, false] (by kernel_rfl) rfl rfl ⟨(blk_cell BK179.out 0).trans rfl, hx186_0, hx186_1, ((HB.out.cell (World.block_lt_of_cell? w _ hw187_0)).trans hw187_0), ((HB.out.cell (World.block_lt_of_cell? w _ hw187_1)).trans hw187_1), ((HB.out.cell (World.block_lt_of_cell? w _ hw187_2)).trans hw187_2)⟩ (fun hHeld => ?_); refine with_tabW impl_Names_deepest.tab7 impl_Names_deepest.bits7 (fun HT_ HW_ => ?_)
   generalize wr.drew = w15 at HO_5 HO_7 BK179 HB HR187_2 hx186_0 hx186_1 hx187_0 hx187_1 hx187_2 hHeld ⊢
   refine pureS 0 23 HT_.out ?_
   refine pureS 2 25 HT_.out ?_
   refine pureS 3 26 HT_.out ?_
   refine pureS 4 27 HT_.out ?_
   refine pureS 5 28 HT_.out ?_
   refine pureS 11 34 HT_.out ?_
   refine takeS 1 24 HT_.out HW_.out hHeld (hr := by rintro w' ⟨s0, s1, s2, s3, s4, s5⟩; go_simp; with_reducible rfl) (h := ?_)
   refine takeS 6 29 HT_.out HW_.out hHeld (hr := by rintro w' ⟨s0, s1, s2, s3, s4, s5⟩; go_simp; with_reducible rfl) (h := ?_)
   refine pureS 7 30 HT_.out ?_
   refine pureS 8 31 HT_.out ?_
   refine takeS 9 32 HT_.out HW_.out hHeld (hr := by rintro w' ⟨s0, s1, s2, s3, s4, s5⟩; go_simp; with_reducible rfl) (h := ?_)
   refine pureS 10 33 HT_.out ?_
   refine done_ (done_of HT_.out (by kernel_rfl)) ?_
   try go_wp2
   go_loopg [6, 7, 34] k1 (fun kq v6 v7 v34 w' => ∃ (x5_2 : List Int) (x6_2 : Int) (x7_2 : List (S62)) (x34_2 : Int), v6 = .int .i64 x6_2 ∧ v34 = .int .i64 x34_2 ∧ Aside0 (impl_Names_deepest.l1 kq x5_2 x6_2 x7_2 x8_1 ((rd_T40 l0_0 ((rd_T62 x7_1 x8_1).f0)).f2) (((rd_T40 l0_0 ((rd_T62 x7_1 x8_1).f0)).f2).length : Int) x34_2 l0_0 = some (r1, r2, r3)) ∧ Aside0 (kq ≤ k1) ∧ Aside0 (Kd.R (Kd.int .i64) 3 w' w.heap.size (fun _ => True) v181 x5_2) ∧ Aside0 (Kd.R k62 62 w' w.heap.size (fun _ => True) v7 x7_2) ∧ Aside0 (w'.heap[gb179]? = some (.cells #[(.slice (some ad187) l0_0.length c0_0)] 29 (0, 0))) ∧ Aside0 (Below w.heap.size w w'))
   case atStart => exact ⟨(x5_1), (x6_1), (x7_1), (0), e3, e3, H', ⟨Nat.le_refl _⟩, ⟨rr HO_5.out⟩, ⟨rr HO_7.out⟩, ⟨bk BK179⟩, ⟨bs1 HB GE179⟩⟩
   case round =>
    clear H'
    try clear c1
    try clear p1
    try clear q1
    try clear hx1
    try clear c2
    try clear c2b0
    try clear c2b1
    try clear p2
    try clear c3
    try clear c3b0
    try clear c3b1
    try clear c10
    try clear c10b0
    try clear c11
    try clear c11b0
    try clear c12
    try clear c12b0
    try clear c13
    try clear c13b0
    try clear hcz5_0
    try clear hfz5_0
    try clear hx186_0
    try clear hx186_1
    try clear hx187_0
    try clear hx187_1
    try clear hx187_2
    try clear p186
    try clear p187
    try clear p2
    try clear q186
    try clear q187
    obtain ⟨x5_2, x6_2, x7_2, x34_2, rfl, rfl, HA, HK2, HO_5, HO_7, BK179, HB⟩ := hrel
    cases gk with
    | zero => exact absurd HA.out (by simp [impl_Names_deepest.l1])
    | succ k2 =>
     have H := HA.out
     clear HA
     simp only [impl_Names_deepest.l1] at H
     by_cases c16 : x34_2 < (((rd_T40 l0_0 ((rd_T62 x7_1 x8_1).f0)).f2).length : Int)
     rotate_left
     ·
      rw [if_neg c16] at H
      have c16b0 : decide (x34_2 < (((rd_T40 l0_0 ((rd_T62 x7_1 x8_1).f0)).f2).length : Int)) = false := decide_eq_false c16
      clear c16
      have H' := Ah H
      clear H
      go_wp2
      go_roundg k2
      case measure => have := HK1.out; have := HK2.out; omega
      case rel => exact ⟨(x5_2), (x6_2), (x7_2), (wrap64 (x8_1 + 1)), e3, e3, H', ⟨by have := HK1.out; have := HK2.out; omega⟩, ⟨rr HO_5.out⟩, ⟨rr HO_7.out⟩, ⟨bk BK179⟩, ⟨bs1 HB GE179⟩⟩
     rw [if_pos c16] at H
     have c16b0 : decide (x34_2 < (((rd_T40 l0_0 ((rd_T62 x7_1 x8_1).f0)).f2).length : Int)) = true := decide_eq_true c16
     clear c16
     by_cases c17 : 0 ≤ x34_2
     rotate_left
     ·
      rw [if_neg c17] at H
      exact absurd H (by simp)
     rw [if_pos c17] at H
     have c17b0 : decide (0 ≤ x34_2) = true := decide_eq_true c17
     clear c17
     by_cases c18 : x34_2 < (((rd_T40 l0_0 ((rd_T62 x7_1 x8_1).f0)).f2).length : Int)
     rotate_left
     ·
      rw [if_neg c18] at H
      exact absurd H (by simp)
     rw [if_pos c18] at H
     have c18b0 : decide (x34_2 < (((rd_T40 l0_0 ((rd_T62 x7_1 x8_1).f0)).f2).length : Int)) = true := decide_eq_true c18
     clear c18
     replace H := Option.bind_eq_some_iff.mp H
     obtain ⟨t190, A190, H⟩ := H
     try dsimp only at H
     have A19 := Ah A190
     clear A190
     by_cases c20 : t190 = true
     rotate_left
     ·
      replace c20 := Bool.eq_false_iff.mpr c20
      subst c20
      rw [if_neg fne] at H
      simp only [Option.some.injEq, Prod.mk.injEq] at H
      obtain ⟨rfl, rfl, rfl⟩ := H
      have p188 : 0 ≤ (x34_2 : Int) := od
      have q188 : x34_2 < (((rd_T40 l0_0 ((rd_T62 x7_1 x8_1).f0)).f2).length : Int) := od
      obtain ⟨ad188, e188, hx188_0, hx188_1⟩ := at_T42 HR187_2.out x34_2 p188 q188
      cases e188
      replace hx188_0 := (HB.out.cell (World.block_lt_of_cell? w _ hx188_0)).trans hx188_0
      replace hx188_1 := (HB.out.cell (World.block_lt_of_cell? w _ hx188_1)).trans hx188_1
      replace p188 := eq_true p188
      replace q188 := eq_true q188
      go_wp2_with (first | ((with_reducible refine gate_dst (N := 10) rfl ?_); refine boxL 10 42 #[.string (⟨#[]⟩ : ByteArray), .int .i64 0] ?_; intro gb189 hg w73 BK189 hb; replace HO_5 := nr HO_5 hb; replace HO_7 := nr HO_7 hb; have GW189 := gw hg (bs1 HB GE179); have GE189 := gw hg (bs1 HB GE179); replace HB := Ah (below_step (bs1 HB GE179) hb); have NB179_189 := nn BK179 hg; have NB189_179 := nm BK179 hg; replace BK179 := nb BK179 hb; clear hb hg; have hnb74 := NB189_179.out; have hnc74 := NB179_189.out; obtain ⟨hcz75_0, hcz75_1⟩ := cz2 BK189; obtain ⟨hfz75_0, hfz75_1⟩ := fz2 BK189; have hcz76_0 := cz1 BK179; have hfz76_0 := fz1 BK179) | ((with_reducible refine gate_callee (f := 17) rfl ?_); refine gL (some 44) rfl rfl Tryd.func17 (by kernel_rfl) rfl #[.int .i64 ((rd_T42 ((rd_T40 l0_0 ((rd_T62 x7_1 x8_1).f0)).f2) x34_2).f1), .int .i64 1, .int .i64 (wrap64 ((l0_0.length : Int) - 1))] rfl ?_; (with_reducible refine (impl_within.calls ((rd_T42 ((rd_T40 l0_0 ((rd_T62 x7_1 x8_1).f0)).f2) x34_2).f1) 1 (wrap64 ((l0_0.length : Int) - 1)) false _ A19.out).mono ?_); rintro e w' ⟨rfl, ⟨nd, rfl⟩⟩; refine ⟨_, rfl, ?_⟩))
      go_ret3
      exact ⟨_, er, by first | exact Kd.R_nil _ _ _ _ _ | exact Kd.N_nil _ _ _ _ _ | exact Kd.V_nil _ _ _ _ _ | exact Kd.Q_nil _ _ _ _ _ | exact Kd.S_nil _ _ _ _ _, bs2 HB GE179 GE189⟩
     subst c20
     rw [if_pos rfl] at H
     by_cases c21 : 0 ≤ x8_1
     rotate_left
     ·
      rw [if_neg c21] at H
      exact absurd H (by simp)
     rw [if_pos c21] at H
     have c21b0 : decide (0 ≤ x8_1) = true := decide_eq_true c21
     clear c21
     by_cases c22 : x8_1 < (x7_2.length : Int)
     rotate_left
     ·
      rw [if_neg c22] at H
      exact absurd H (by simp)
     rw [if_pos c22] at H
     have c22b0 : decide (x8_1 < (x7_2.length : Int)) = true := decide_eq_true c22
     clear c22
     obtain ⟨ji23, hji23⟩ : ∃ j_ : Int, (mx x6_2 (wrap64 (((rd_T62 x7_2 x8_1).f1) + 1))) = j_ := ⟨_, rfl⟩
     replace H : (if 0 ≤ ((rd_T42 ((rd_T40 l0_0 ((rd_T62 x7_1 x8_1).f0)).f2) x34_2).f1) then (if ((rd_T42 ((rd_T40 l0_0 ((rd_T62 x7_1 x8_1).f0)).f2) x34_2).f1) < (x5_2.length : Int) then ((some (x5_2.set (((rd_T42 ((rd_T40 l0_0 ((rd_T62 x7_1 x8_1).f0)).f2) x34_2).f1) : Int).toNat (wrap64 ((rd x5_2 ((rd_T42 ((rd_T40 l0_0 ((rd_T62 x7_1 x8_1).f0)).f2) x34_2).f1)) + 1)) : List Int)).bind fun y193 => (if ((rd_T42 ((rd_T40 l0_0 ((rd_T62 x7_1 x8_1).f0)).f2) x34_2).f1) < (l0_0.length : Int) then (if (rd_T40 l0_0 ((rd_T42 ((rd_T40 l0_0 ((rd_T62 x7_1 x8_1).f0)).f2) x34_2).f1)).f0 = true then (if (rd y193 ((rd_T42 ((rd_T40 l0_0 ((rd_T62 x7_1 x8_1).f0)).f2) x34_2).f1)) > 1 then (some (0, ([] : List Int), false)) else (if x7_2.length < 8796093022208 then (impl_Names_deepest.l1 k2 y193 ji23 (x7_2 ++ [(⟨(rd_T42 ((rd_T40 l0_0 ((rd_T62 x7_1 x8_1).f0)).f2) x34_2).f1, wrap64 (((rd_T62 x7_2 x8_1).f1) + 1)⟩ : S62)]) x8_1 ((rd_T40 l0_0 ((rd_T62 x7_1 x8_1).f0)).f2) (((rd_T40 l0_0 ((rd_T62 x7_1 x8_1).f0)).f2).length : Int) (wrap64 (x34_2 + 1)) l0_0) else (none))) else (impl_Names_deepest.l1 k2 y193 ji23 x7_2 x8_1 ((rd_T40 l0_0 ((rd_T62 x7_1 x8_1).f0)).f2) (((rd_T40 l0_0 ((rd_T62 x7_1 x8_1).f0)).f2).length : Int) (wrap64 (x34_2 + 1)) l0_0)) else (none))) else (none)) else (none)) = some (r1, r2, r3) := by first | (rw [hji23] at H; exact H) | (simp only [hji23] at H ⊢; exact H)
     (try rw [hji23] at A19)
     have hji23_ : (if x6_2 < (wrap64 (((rd_T62 x7_2 x8_1).f1) + 1)) then (wrap64 (((rd_T62 x7_2 x8_1).f1) + 1)) else x6_2) = ji23 := hji23
     by_cases c24 : 0 ≤ ((rd_T42 ((rd_T40 l0_0 ((rd_T62 x7_1 x8_1).f0)).f2) x34_2).f1)
     rotate_left
     ·
      rw [if_neg c24] at H
      exact absurd H (by simp)
     rw [if_pos c24] at H
     have c24b0 : decide (0 ≤ ((rd_T42 ((rd_T40 l0_0 ((rd_T62 x7_1 x8_1).f0)).f2) x34_2).f1)) = true := decide_eq_true c24
     clear c24
     by_cases c25 : ((rd_T42 ((rd_T40 l0_0 ((rd_T62 x7_1 x8_1).f0)).f2) x34_2).f1) < (x5_2.length : Int)
     rotate_left
     ·
      rw [if_neg c25] at H
      exact absurd H (by simp)
     rw [if_pos c25] at H
     have c25b0 : decide (((rd_T42 ((rd_T40 l0_0 ((rd_T62 x7_1 x8_1).f0)).f2) x34_2).f1) < (x5_2.length : Int)) = true := decide_eq_true c25
     clear c25
     obtain ⟨y193, hy193⟩ : ∃ y_ : List Int, y_ = (x5_2.set (((rd_T42 ((rd_T40 l0_0 ((rd_T62 x7_1 x8_1).f0)).f2) x34_2).f1) : Int).toNat (wrap64 ((rd x5_2 ((rd_T42 ((rd_T40 l0_0 ((rd_T62 x7_1 x8_1).f0)).f2) x34_2).f1)) + 1))) := ⟨_, rfl⟩
     replace H : (if ((rd_T42 ((rd_T40 l0_0 ((rd_T62 x7_1 x8_1).f0)).f2) x34_2).f1) < (l0_0.length : Int) then (if (rd_T40 l0_0 ((rd_T42 ((rd_T40 l0_0 ((rd_T62 x7_1 x8_1).f0)).f2) x34_2).f1)).f0 = true then (if (rd y193 ((rd_T42 ((rd_T40 l0_0 ((rd_T62 x7_1 x8_1).f0)).f2) x34_2).f1)) > 1 then (some (0, ([] : List Int), false)) else (if x7_2.length < 8796093022208 then (impl_Names_deepest.l1 k2 y193 ji23 (x7_2 ++ [(⟨(rd_T42 ((rd_T40 l0_0 ((rd_T62 x7_1 x8_1).f0)).f2) x34_2).f1, wrap64 (((rd_T62 x7_2 x8_1).f1) + 1)⟩ : S62)]) x8_1 ((rd_T40 l0_0 ((rd_T62 x7_1 x8_1).f0)).f2) (((rd_T40 l0_0 ((rd_T62 x7_1 x8_1).f0)).f2).length : Int) (wrap64 (x34_2 + 1)) l0_0) else (none))) else (impl_Names_deepest.l1 k2 y193 ji23 x7_2 x8_1 ((rd_T40 l0_0 ((rd_T62 x7_1 x8_1).f0)).f2) (((rd_T40 l0_0 ((rd_T62 x7_1 x8_1).f0)).f2).length : Int) (wrap64 (x34_2 + 1)) l0_0)) else (none)) = some (r1, r2, r3) := by first | (rw [hy193]; with_reducible exact H) | (have H2_ := (Option.bind_some _ _).symm.trans H; rw [hy193]; with_reducible exact H2_) | (have H2_ := (Option.bind_some _ _).symm.trans H; with_reducible exact H2_) | with_reducible exact H | (rw [hy193]; exact H) | exact H
     have Ny193 := Ah hy193
     clear hy193
     by_cases c27 : ((rd_T42 ((rd_T40 l0_0 ((rd_T62 x7_1 x8_1).f0)).f2) x34_2).f1) < (l0_0.length : Int)
     rotate_left
     ·
      rw [if_neg c27] at H
      exact absurd H (by simp)
     rw [if_pos c27] at H
     have c27b0 : decide (((rd_T42 ((rd_T40 l0_0 ((rd_T62 x7_1 x8_1).f0)).f2) x34_2).f1) < (l0_0.length : Int)) = true := decide_eq_true c27
     clear c27
     obtain ⟨bq28, hbq28⟩ : ∃ b_ : Bool, b_ = ((rd_T40 l0_0 ((rd_T42 ((rd_T40 l0_0 ((rd_T62 x7_1 x8_1).f0)).f2) x34_2).f1)).f0) := ⟨_, rfl⟩
     replace H : (if bq28 = true then (if (rd y193 ((rd_T42 ((rd_T40 l0_0 ((rd_T62 x7_1 x8_1).f0)).f2) x34_2).f1)) > 1 then (some (0, ([] : List Int), false)) else (if x7_2.length < 8796093022208 then (impl_Names_deepest.l1 k2 y193 ji23 (x7_2 ++ [(⟨(rd_T42 ((rd_T40 l0_0 ((rd_T62 x7_1 x8_1).f0)).f2) x34_2).f1, wrap64 (((rd_T62 x7_2 x8_1).f1) + 1)⟩ : S62)]) x8_1 ((rd_T40 l0_0 ((rd_T62 x7_1 x8_1).f0)).f2) (((rd_T40 l0_0 ((rd_T62 x7_1 x8_1).f0)).f2).length : Int) (wrap64 (x34_2 + 1)) l0_0) else (none))) else (impl_Names_deepest.l1 k2 y193 ji23 x7_2 x8_1 ((rd_T40 l0_0 ((rd_T62 x7_1 x8_1).f0)).f2) (((rd_T40 l0_0 ((rd_T62 x7_1 x8_1).f0)).f2).length : Int) (wrap64 (x34_2 + 1)) l0_0)) = some (r1, r2, r3) := by rw [← hbq28] at H; exact H
     have Nbq28 := Ah hbq28
     clear hbq28
     by_cases c29 : bq28 = true
     rotate_left
     ·
      replace c29 := Bool.eq_false_iff.mpr c29
      subst c29
      rw [if_neg fne] at H
      have H' := Ah H
      clear H
      have p188 : 0 ≤ (x34_2 : Int) := od
      have q188 : x34_2 < (((rd_T40 l0_0 ((rd_T62 x7_1 x8_1).f0)).f2).length : Int) := od
      obtain ⟨ad188, e188, hx188_0, hx188_1⟩ := at_T42 HR187_2.out x34_2 p188 q188
      cases e188
      replace hx188_0 := (HB.out.cell (World.block_lt_of_cell? w _ hx188_0)).trans hx188_0
      replace hx188_1 := (HB.out.cell (World.block_lt_of_cell? w _ hx188_1)).trans hx188_1
      replace p188 := eq_true p188
      replace q188 := eq_true q188
      go_wp2_with (first | ((with_reducible refine gate_dst (N := 10) rfl ?_); refine boxL 10 42 #[.string (⟨#[]⟩ : ByteArray), .int .i64 0] ?_; intro gb189 hg w60 BK189 hb; replace HO_5 := nr HO_5 hb; replace HO_7 := nr HO_7 hb; have GW189 := gw hg (bs1 HB GE179); have GE189 := gw hg (bs1 HB GE179); replace HB := Ah (below_step (bs1 HB GE179) hb); have NB179_189 := nn BK179 hg; have NB189_179 := nm BK179 hg; replace BK179 := nb BK179 hb; clear hb hg; have hnb61 := NB189_179.out; have hnc61 := NB179_189.out; obtain ⟨hcz62_0, hcz62_1⟩ := cz2 BK189; obtain ⟨hfz62_0, hfz62_1⟩ := fz2 BK189) | ((with_reducible refine gate_store (t := 42) (p := 10) rfl ?_); refine store_event (t := 42) (p := 10) (v := ?vo_w63) (w1 := ((w60.setCell ⟨gb189, 0, none⟩ (.string ((rd_T42 ((rd_T40 l0_0 ((rd_T62 x7_1 x8_1).f0)).f2) x34_2).f0))).setCell ⟨gb189, 1, none⟩ (.int .i64 ((rd_T42 ((rd_T40 l0_0 ((rd_T62 x7_1 x8_1).f0)).f2) x34_2).f1)))) ?hg ?ho ?hn ?hr ?_; (case ho => rfl); (case hg => rfl); (case hn => rfl); (case hr => first | (go_simp; done) | (go_simp; rfl)); intro w63 hw; have n0_ : Aside0 (Kd.R (Kd.int .i64) 3 w63 w.heap.size (fun _ => True) v181 x5_2) := ⟨(by rw [hw]; exact (by (with_reducible repeat (first | apply Kd.R_alloc | apply Kd.R_drewN | apply Kd.R_drew)); exact Kd.R_mono (Kd.R_far (p := ⟨gb189, 1, none⟩) (Kd.R_far (p := ⟨gb189, 0, none⟩) (Kd.R_types HO_5.out BK189.out (by decide)) (fun _ hk => hk.2) (.string ((rd_T42 ((rd_T40 l0_0 ((rd_T62 x7_1 x8_1).f0)).f2) x34_2).f0))) (fun _ hk => hk.2) (.int .i64 ((rd_T42 ((rd_T40 l0_0 ((rd_T62 x7_1 x8_1).f0)).f2) x34_2).f1))) (fun _ hk => trivial)))⟩; have n1_ : Aside0 (Kd.R k62 62 w63 w.heap.size (fun _ => True) u7 x7_2) := ⟨(by rw [hw]; exact (by (with_reducible repeat (first | apply Kd.R_alloc | apply Kd.R_drewN | apply Kd.R_drew)); exact Kd.R_mono (Kd.R_far (p := ⟨gb189, 1, none⟩) (Kd.R_far (p := ⟨gb189, 0, none⟩) (Kd.R_types HO_7.out BK189.out (by decide)) (fun _ hk => hk.2) (.string ((rd_T42 ((rd_T40 l0_0 ((rd_T62 x7_1 x8_1).f0)).f2) x34_2).f0))) (fun _ hk => hk.2) (.int .i64 ((rd_T42 ((rd_T40 l0_0 ((rd_T62 x7_1 x8_1).f0)).f2) x34_2).f1))) (fun _ hk => trivial)))⟩; have n2_ : Aside0 (w63.heap[gb179]? = some (.cells #[.slice (some ad187) l0_0.length c0_0] 29 (0, 0))) := ⟨(by rw [hw]; exact (bf BK179 NB179_189))⟩; have n3_ : Aside0 (w63.heap[gb189]? = some (.cells #[.string ((rd_T42 ((rd_T40 l0_0 ((rd_T62 x7_1 x8_1).f0)).f2) x34_2).f0), .int .i64 ((rd_T42 ((rd_T40 l0_0 ((rd_T62 x7_1 x8_1).f0)).f2) x34_2).f1)] 42 (0, 0))) := ⟨(by rw [hw]; exact (by (with_reducible repeat (first | refine blk_drewN ?_ _ | refine blk_drew ?_ | refine blk_alloc ?_ _)); refine blk_put (cs := #[.string ((rd_T42 ((rd_T40 l0_0 ((rd_T62 x7_1 x8_1).f0)).f2) x34_2).f0), .int .i64 0]) ?_ 1 _ rfl; (with_reducible repeat (first | refine blk_drewN ?_ _ | refine blk_drew ?_ | refine blk_alloc ?_ _)); refine blk_put (cs := #[.string (⟨#[]⟩ : ByteArray), .int .i64 0]) ?_ 0 _ rfl; (with_reducible repeat (first | refine blk_drewN ?_ _ | refine blk_drew ?_ | refine blk_alloc ?_ _)); exact BK189.out))⟩; have n4_ : Aside0 (Below w.heap.size w w63) := ⟨(by rw [hw]; exact (bs2 HB GE179 GE189))⟩; clear hw; clear HO_5; clear HO_7; clear BK179; clear BK189; clear HB; have HO_5 := n0_; have HO_7 := n1_; have BK179 := n2_; have BK189 := n3_; have HB := n4_; clear n0_ n1_ n2_ n3_ n4_; obtain ⟨hcz64_0, hcz64_1⟩ := cz2 BK189; obtain ⟨hfz64_0, hfz64_1⟩ := fz2 BK189; have hcz65_0 := cz1 BK179; have hfz65_0 := fz1 BK179) | ((with_reducible refine gate_callee (f := 17) rfl ?_); refine gL (some 44) rfl rfl Tryd.func17 (by kernel_rfl) rfl #[.int .i64 ((rd_T42 ((rd_T40 l0_0 ((rd_T62 x7_1 x8_1).f0)).f2) x34_2).f1), .int .i64 1, .int .i64 (wrap64 ((l0_0.length : Int) - 1))] rfl ?_; (with_reducible refine (impl_within.calls ((rd_T42 ((rd_T40 l0_0 ((rd_T62 x7_1 x8_1).f0)).f2) x34_2).f1) 1 (wrap64 ((l0_0.length : Int) - 1)) true _ A19.out).mono ?_); rintro e w' ⟨rfl, ⟨nd, rfl⟩⟩; refine ⟨_, rfl, ?_⟩; (try (rw [drewN_self w63]; generalize hq_ : World.drewN w63 _ = w63; have n0_ : Aside0 (Kd.R (Kd.int .i64) 3 w63 w.heap.size (fun _ => True) v181 x5_2) := ⟨by rw [← hq_]; exact (rr HO_5.out)⟩; have n1_ : Aside0 (Kd.R k62 62 w63 w.heap.size (fun _ => True) u7 x7_2) := ⟨by rw [← hq_]; exact (rr HO_7.out)⟩; have n2_ : Aside0 (w63.heap[gb179]? = some (.cells #[.slice (some ad187) l0_0.length c0_0] 29 (0, 0))) := ⟨by rw [← hq_]; exact (bk BK179)⟩; have n3_ : Aside0 (w63.heap[gb189]? = some (.cells #[.string ((rd_T42 ((rd_T40 l0_0 ((rd_T62 x7_1 x8_1).f0)).f2) x34_2).f0), .int .i64 ((rd_T42 ((rd_T40 l0_0 ((rd_T62 x7_1 x8_1).f0)).f2) x34_2).f1)] 42 (0, 0))) := ⟨by rw [← hq_]; exact (bk BK189)⟩; have n4_ : Aside0 (Below w.heap.size w w63) := ⟨by rw [← hq_]; exact (bs2 HB GE179 GE189)⟩; clear HO_5 HO_7 BK179 BK189 HB hq_; have HO_5 := n0_; have HO_7 := n1_; have BK179 := n2_; have BK189 := n3_; have HB := n4_; clear n0_ n1_ n2_ n3_ n4_)); obtain ⟨Ao66, co66, eo66⟩ := Kd.R_slice HO_7.out; subst eo66; have p191 : 0 ≤ (x8_1 : Int) := od; have q191 : x8_1 < (x7_2.length : Int) := od; obtain ⟨ad191, e191, hx191_0, hx191_1⟩ := at_T62 (Kd.R_reads' HO_7.out).2.2 x8_1 p191 q191; cases e191; replace p191 := eq_true p191; replace q191 := eq_true q191; obtain ⟨hcz67_0, hcz67_1⟩ := cz2 BK189; obtain ⟨hfz67_0, hfz67_1⟩ := fz2 BK189; obtain ⟨Ao68, co68, eo68⟩ := Kd.R_slice HO_5.out; subst eo68; have p192 : 0 ≤ (((rd_T42 ((rd_T40 l0_0 ((rd_T62 x7_1 x8_1).f0)).f2) x34_2).f1) : Int) := od; have q192 : ((rd_T42 ((rd_T40 l0_0 ((rd_T62 x7_1 x8_1).f0)).f2) x34_2).f1) < (x5_2.length : Int) := od; obtain ⟨ad192, e192, hx192_0⟩ := Kd.at_int (Kd.R_reads' HO_5.out).2.2 ((rd_T42 ((rd_T40 l0_0 ((rd_T62 x7_1 x8_1).f0)).f2) x34_2).f1) p192 q192; cases e192; replace p192 := eq_true p192; replace q192 := eq_true q192; have p26 : 0 ≤ (((rd_T42 ((rd_T40 l0_0 ((rd_T62 x7_1 x8_1).f0)).f2) x34_2).f1) : Int) := od; have q26 : (((rd_T42 ((rd_T40 l0_0 ((rd_T62 x7_1 x8_1).f0)).f2) x34_2).f1) : Int) < ((x5_2.length : Int) : Int) := od; obtain ⟨go26, co26, eo26, gb26, gl26, cl26, HG26⟩ := Kd.R_form HO_5.out (by omega); (first | cases eo26 | (injection eo26 with ea_ en_ ec_; (first | subst ea_ | (injection ea_ with ea_; subst ea_)); subst ec_; clear en_)); have GB26 := Ah gb26; have GG26 := Ah HG26; clear gb26 gl26 HG26; (first | simp only [add_plain] at hx192_0 | skip); obtain ⟨hx26_0, hf26_0⟩ := Kd.R_celln 0 HO_5.out (((rd_T42 ((rd_T40 l0_0 ((rd_T62 x7_1 x8_1).f0)).f2) x34_2).f1) : Int) p26 q26; replace p26 := eq_true p26; replace q26 := eq_true q26; obtain ⟨hy69_, hz69_⟩ := Kd.R_celln 0 HO_5.out (((rd_T42 ((rd_T40 l0_0 ((rd_T62 x7_1 x8_1).f0)).f2) x34_2).f1) : Int) (od) (od); have HP69 := Kd.R_putg HO_5.out (((rd_T42 ((rd_T40 l0_0 ((rd_T62 x7_1 x8_1).f0)).f2) x34_2).f1) : Int) (wrap64 ((rd x5_2 ((rd_T42 ((rd_T40 l0_0 ((rd_T62 x7_1 x8_1).f0)).f2) x34_2).f1)) + 1))) | ((with_reducible refine gate_store (t := 3) (p := 60) rfl ?_); refine store_event (t := 3) (p := 60) (v := ?vo_w70) (w1 := (w63.setCell ⟨go26, (((rd_T42 ((rd_T40 l0_0 ((rd_T62 x7_1 x8_1).f0)).f2) x34_2).f1) : Int).toNat, none⟩ (.int .i64 (wrap64 ((rd x5_2 ((rd_T42 ((rd_T40 l0_0 ((rd_T62 x7_1 x8_1).f0)).f2) x34_2).f1)) + 1))))) ?hg ?ho ?hn ?hr ?_; (case ho => rfl); (case hg => rfl); (case hn => rfl); (case hr => first | (go_simp; done) | (go_simp; rfl)); intro w70 hw; have hg : w63.grownBy w70 (some go26) := (by rw [hw]; exact HP69.2); have hp_ : Kd.R (Kd.int .i64) 3 w70 w.heap.size (fun _ => True) (.slice (some ⟨go26, 0, none⟩) x5_2.length co68) y193 := (by rw [hw, Ny193.out]; exact HP69.1); clear HP69; replace HO_7 := Ah (Kd.R_over' (v := (.slice (some ⟨go26, 0, none⟩) x5_2.length co68)) (rr HO_7.out) (Kd.R_typed HO_5.out) (by decide) hg); replace BK179 := Ah (blk_grown (bk BK179) hg (Kd.R_ne HO_5.out BK179.out (by decide))); replace BK189 := Ah (blk_grown (bk BK189) hg (Kd.R_ne HO_5.out BK189.out (by decide))); replace HO_5 := Ah (hp_); replace HB := Ah ((by rw [hw]; exact below_set (HB.out) GB26.out : Below w.heap.size w w70)); clear hg hw hp_; have hcz71_0 := cz1 BK179; have hfz71_0 := fz1 BK179; obtain ⟨hcz72_0, hcz72_1⟩ := cz2 BK189; obtain ⟨hfz72_0, hfz72_1⟩ := fz2 BK189; have p194 : 0 ≤ (((rd_T42 ((rd_T40 l0_0 ((rd_T62 x7_1 x8_1).f0)).f2) x34_2).f1) : Int) := od; have q194 : ((rd_T42 ((rd_T40 l0_0 ((rd_T62 x7_1 x8_1).f0)).f2) x34_2).f1) < (l0_0.length : Int) := od; obtain ⟨ad194, A194_2, c194_2, e194, hx194_0, hx194_1, hx194_2, hl194_2, hi194_2⟩ := at_T40 HR0_0.out ((rd_T42 ((rd_T40 l0_0 ((rd_T62 x7_1 x8_1).f0)).f2) x34_2).f1) p194 q194; (try rw [← Nbq28.out] at hx194_0); obtain rfl : ad187 = ad194 := (by injection e194); replace hx194_0 := (HB.out.cell (World.block_lt_of_cell? w _ hx194_0)).trans hx194_0; replace hx194_1 := (HB.out.cell (World.block_lt_of_cell? w _ hx194_1)).trans hx194_1; replace hx194_2 := (HB.out.cell (World.block_lt_of_cell? w _ hx194_2)).trans hx194_2; have HR194_2 := Ah hi194_2; have HC194_2 := Ah hl194_2; clear hi194_2 hl194_2; replace p194 := eq_true p194; replace q194 := eq_true q194))
      go_roundg k2
      case measure => have := HK1.out; have := HK2.out; omega
      case rel => exact ⟨(y193), (ji23), (x7_2), (wrap64 (x34_2 + 1)), (by first | rfl | (simp; done) | (simp only [← hji23] <;> (first | rfl | simp)) | (simp [*]; done)), e3, H', ⟨by have := HK1.out; have := HK2.out; omega⟩, ⟨rr HO_5.out⟩, ⟨rr HO_7.out⟩, ⟨bk BK179⟩, ⟨bs2 HB GE179 GE189⟩⟩
     subst c29
     rw [if_pos rfl] at H
     by_cases c30 : (rd y193 ((rd_T42 ((rd_T40 l0_0 ((rd_T62 x7_1 x8_1).f0)).f2) x34_2).f1)) > 1
     ·
      rw [if_pos c30] at H
      have c30b0 : decide (1 < (rd y193 ((rd_T42 ((rd_T40 l0_0 ((rd_T62 x7_1 x8_1).f0)).f2) x34_2).f1))) = true := decide_eq_true c30
      clear c30
      simp only [Option.some.injEq, Prod.mk.injEq] at H
      obtain ⟨rfl, rfl, rfl⟩ := H
      have p188 : 0 ≤ (x34_2 : Int) := od
      have q188 : x34_2 < (((rd_T40 l0_0 ((rd_T62 x7_1 x8_1).f0)).f2).length : Int) := od
      obtain ⟨ad188, e188, hx188_0, hx188_1⟩ := at_T42 HR187_2.out x34_2 p188 q188
      cases e188
      replace hx188_0 := (HB.out.cell (World.block_lt_of_cell? w _ hx188_0)).trans hx188_0
      replace hx188_1 := (HB.out.cell (World.block_lt_of_cell? w _ hx188_1)).trans hx188_1
      replace p188 := eq_true p188
      replace q188 := eq_true q188
      go_wp2_with (first | ((with_reducible refine gate_dst (N := 10) rfl ?_); refine boxL 10 42 #[.string (⟨#[]⟩ : ByteArray), .int .i64 0] ?_; intro gb189 hg w31 BK189 hb; replace HO_5 := nr HO_5 hb; replace HO_7 := nr HO_7 hb; have GW189 := gw hg (bs1 HB GE179); have GE189 := gw hg (bs1 HB GE179); replace HB := Ah (below_step (bs1 HB GE179) hb); have NB179_189 := nn BK179 hg; have NB189_179 := nm BK179 hg; replace BK179 := nb BK179 hb; clear hb hg; have hnb32 := NB189_179.out; have hnc32 := NB179_189.out; obtain ⟨hcz33_0, hcz33_1⟩ := cz2 BK189; obtain ⟨hfz33_0, hfz33_1⟩ := fz2 BK189) | ((with_reducible refine gate_store (t := 42) (p := 10) rfl ?_); refine store_event (t := 42) (p := 10) (v := ?vo_w34) (w1 := ((w31.setCell ⟨gb189, 0, none⟩ (.string ((rd_T42 ((rd_T40 l0_0 ((rd_T62 x7_1 x8_1).f0)).f2) x34_2).f0))).setCell ⟨gb189, 1, none⟩ (.int .i64 ((rd_T42 ((rd_T40 l0_0 ((rd_T62 x7_1 x8_1).f0)).f2) x34_2).f1)))) ?hg ?ho ?hn ?hr ?_; (case ho => rfl); (case hg => rfl); (case hn => rfl); (case hr => first | (go_simp; done) | (go_simp; rfl)); intro w34 hw; have n0_ : Aside0 (Kd.R (Kd.int .i64) 3 w34 w.heap.size (fun _ => True) v181 x5_2) := ⟨(by rw [hw]; exact (by (with_reducible repeat (first | apply Kd.R_alloc | apply Kd.R_drewN | apply Kd.R_drew)); exact Kd.R_mono (Kd.R_far (p := ⟨gb189, 1, none⟩) (Kd.R_far (p := ⟨gb189, 0, none⟩) (Kd.R_types HO_5.out BK189.out (by decide)) (fun _ hk => hk.2) (.string ((rd_T42 ((rd_T40 l0_0 ((rd_T62 x7_1 x8_1).f0)).f2) x34_2).f0))) (fun _ hk => hk.2) (.int .i64 ((rd_T42 ((rd_T40 l0_0 ((rd_T62 x7_1 x8_1).f0)).f2) x34_2).f1))) (fun _ hk => trivial)))⟩; have n1_ : Aside0 (Kd.R k62 62 w34 w.heap.size (fun _ => True) u7 x7_2) := ⟨(by rw [hw]; exact (by (with_reducible repeat (first | apply Kd.R_alloc | apply Kd.R_drewN | apply Kd.R_drew)); exact Kd.R_mono (Kd.R_far (p := ⟨gb189, 1, none⟩) (Kd.R_far (p := ⟨gb189, 0, none⟩) (Kd.R_types HO_7.out BK189.out (by decide)) (fun _ hk => hk.2) (.string ((rd_T42 ((rd_T40 l0_0 ((rd_T62 x7_1 x8_1).f0)).f2) x34_2).f0))) (fun _ hk => hk.2) (.int .i64 ((rd_T42 ((rd_T40 l0_0 ((rd_T62 x7_1 x8_1).f0)).f2) x34_2).f1))) (fun _ hk => trivial)))⟩; have n2_ : Aside0 (w34.heap[gb179]? = some (.cells #[.slice (some ad187) l0_0.length c0_0] 29 (0, 0))) := ⟨(by rw [hw]; exact (bf BK179 NB179_189))⟩; have n3_ : Aside0 (w34.heap[gb189]? = some (.cells #[.string ((rd_T42 ((rd_T40 l0_0 ((rd_T62 x7_1 x8_1).f0)).f2) x34_2).f0), .int .i64 ((rd_T42 ((rd_T40 l0_0 ((rd_T62 x7_1 x8_1).f0)).f2) x34_2).f1)] 42 (0, 0))) := ⟨(by rw [hw]; exact (by (with_reducible repeat (first | refine blk_drewN ?_ _ | refine blk_drew ?_ | refine blk_alloc ?_ _)); refine blk_put (cs := #[.string ((rd_T42 ((rd_T40 l0_0 ((rd_T62 x7_1 x8_1).f0)).f2) x34_2).f0), .int .i64 0]) ?_ 1 _ rfl; (with_reducible repeat (first | refine blk_drewN ?_ _ | refine blk_drew ?_ | refine blk_alloc ?_ _)); refine blk_put (cs := #[.string (⟨#[]⟩ : ByteArray), .int .i64 0]) ?_ 0 _ rfl; (with_reducible repeat (first | refine blk_drewN ?_ _ | refine blk_drew ?_ | refine blk_alloc ?_ _)); exact BK189.out))⟩; have n4_ : Aside0 (Below w.heap.size w w34) := ⟨(by rw [hw]; exact (bs2 HB GE179 GE189))⟩; clear hw; clear HO_5; clear HO_7; clear BK179; clear BK189; clear HB; have HO_5 := n0_; have HO_7 := n1_; have BK179 := n2_; have BK189 := n3_; have HB := n4_; clear n0_ n1_ n2_ n3_ n4_; obtain ⟨hcz35_0, hcz35_1⟩ := cz2 BK189; obtain ⟨hfz35_0, hfz35_1⟩ := fz2 BK189; have hcz36_0 := cz1 BK179; have hfz36_0 := fz1 BK179) | ((with_reducible refine gate_callee (f := 17) rfl ?_); refine gL (some 44) rfl rfl Tryd.func17 (by kernel_rfl) rfl #[.int .i64 ((rd_T42 ((rd_T40 l0_0 ((rd_T62 x7_1 x8_1).f0)).f2) x34_2).f1), .int .i64 1, .int .i64 (wrap64 ((l0_0.length : Int) - 1))] rfl ?_; (with_reducible refine (impl_within.calls ((rd_T42 ((rd_T40 l0_0 ((rd_T62 x7_1 x8_1).f0)).f2) x34_2).f1) 1 (wrap64 ((l0_0.length : Int) - 1)) true _ A19.out).mono ?_); rintro e w' ⟨rfl, ⟨nd, rfl⟩⟩; refine ⟨_, rfl, ?_⟩; (try (rw [drewN_self w34]; generalize hq_ : World.drewN w34 _ = w34; have n0_ : Aside0 (Kd.R (Kd.int .i64) 3 w34 w.heap.size (fun _ => True) v181 x5_2) := ⟨by rw [← hq_]; exact (rr HO_5.out)⟩; have n1_ : Aside0 (Kd.R k62 62 w34 w.heap.size (fun _ => True) u7 x7_2) := ⟨by rw [← hq_]; exact (rr HO_7.out)⟩; have n2_ : Aside0 (w34.heap[gb179]? = some (.cells #[.slice (some ad187) l0_0.length c0_0] 29 (0, 0))) := ⟨by rw [← hq_]; exact (bk BK179)⟩; have n3_ : Aside0 (w34.heap[gb189]? = some (.cells #[.string ((rd_T42 ((rd_T40 l0_0 ((rd_T62 x7_1 x8_1).f0)).f2) x34_2).f0), .int .i64 ((rd_T42 ((rd_T40 l0_0 ((rd_T62 x7_1 x8_1).f0)).f2) x34_2).f1)] 42 (0, 0))) := ⟨by rw [← hq_]; exact (bk BK189)⟩; have n4_ : Aside0 (Below w.heap.size w w34) := ⟨by rw [← hq_]; exact (bs2 HB GE179 GE189)⟩; clear HO_5 HO_7 BK179 BK189 HB hq_; have HO_5 := n0_; have HO_7 := n1_; have BK179 := n2_; have BK189 := n3_; have HB := n4_; clear n0_ n1_ n2_ n3_ n4_)); obtain ⟨Ao37, co37, eo37⟩ := Kd.R_slice HO_7.out; subst eo37; have p191 : 0 ≤ (x8_1 : Int) := od; have q191 : x8_1 < (x7_2.length : Int) := od; obtain ⟨ad191, e191, hx191_0, hx191_1⟩ := at_T62 (Kd.R_reads' HO_7.out).2.2 x8_1 p191 q191; cases e191; replace p191 := eq_true p191; replace q191 := eq_true q191; obtain ⟨hcz38_0, hcz38_1⟩ := cz2 BK189; obtain ⟨hfz38_0, hfz38_1⟩ := fz2 BK189; obtain ⟨Ao39, co39, eo39⟩ := Kd.R_slice HO_5.out; subst eo39; have p192 : 0 ≤ (((rd_T42 ((rd_T40 l0_0 ((rd_T62 x7_1 x8_1).f0)).f2) x34_2).f1) : Int) := od; have q192 : ((rd_T42 ((rd_T40 l0_0 ((rd_T62 x7_1 x8_1).f0)).f2) x34_2).f1) < (x5_2.length : Int) := od; obtain ⟨ad192, e192, hx192_0⟩ := Kd.at_int (Kd.R_reads' HO_5.out).2.2 ((rd_T42 ((rd_T40 l0_0 ((rd_T62 x7_1 x8_1).f0)).f2) x34_2).f1) p192 q192; cases e192; replace p192 := eq_true p192; replace q192 := eq_true q192; have p26 : 0 ≤ (((rd_T42 ((rd_T40 l0_0 ((rd_T62 x7_1 x8_1).f0)).f2) x34_2).f1) : Int) := od; have q26 : (((rd_T42 ((rd_T40 l0_0 ((rd_T62 x7_1 x8_1).f0)).f2) x34_2).f1) : Int) < ((x5_2.length : Int) : Int) := od; obtain ⟨go26, co26, eo26, gb26, gl26, cl26, HG26⟩ := Kd.R_form HO_5.out (by omega); (first | cases eo26 | (injection eo26 with ea_ en_ ec_; (first | subst ea_ | (injection ea_ with ea_; subst ea_)); subst ec_; clear en_)); have GB26 := Ah gb26; have GG26 := Ah HG26; clear gb26 gl26 HG26; (first | simp only [add_plain] at hx192_0 | skip); obtain ⟨hx26_0, hf26_0⟩ := Kd.R_celln 0 HO_5.out (((rd_T42 ((rd_T40 l0_0 ((rd_T62 x7_1 x8_1).f0)).f2) x34_2).f1) : Int) p26 q26; replace p26 := eq_true p26; replace q26 := eq_true q26; obtain ⟨hy40_, hz40_⟩ := Kd.R_celln 0 HO_5.out (((rd_T42 ((rd_T40 l0_0 ((rd_T62 x7_1 x8_1).f0)).f2) x34_2).f1) : Int) (od) (od); have HP40 := Kd.R_putg HO_5.out (((rd_T42 ((rd_T40 l0_0 ((rd_T62 x7_1 x8_1).f0)).f2) x34_2).f1) : Int) (wrap64 ((rd x5_2 ((rd_T42 ((rd_T40 l0_0 ((rd_T62 x7_1 x8_1).f0)).f2) x34_2).f1)) + 1))) | ((with_reducible refine gate_store (t := 3) (p := 60) rfl ?_); refine store_event (t := 3) (p := 60) (v := ?vo_w41) (w1 := (w34.setCell ⟨go26, (((rd_T42 ((rd_T40 l0_0 ((rd_T62 x7_1 x8_1).f0)).f2) x34_2).f1) : Int).toNat, none⟩ (.int .i64 (wrap64 ((rd x5_2 ((rd_T42 ((rd_T40 l0_0 ((rd_T62 x7_1 x8_1).f0)).f2) x34_2).f1)) + 1))))) ?hg ?ho ?hn ?hr ?_; (case ho => rfl); (case hg => rfl); (case hn => rfl); (case hr => first | (go_simp; done) | (go_simp; rfl)); intro w41 hw; have hg : w34.grownBy w41 (some go26) := (by rw [hw]; exact HP40.2); have hp_ : Kd.R (Kd.int .i64) 3 w41 w.heap.size (fun _ => True) (.slice (some ⟨go26, 0, none⟩) x5_2.length co39) y193 := (by rw [hw, Ny193.out]; exact HP40.1); clear HP40; replace HO_7 := Ah (Kd.R_over' (v := (.slice (some ⟨go26, 0, none⟩) x5_2.length co39)) (rr HO_7.out) (Kd.R_typed HO_5.out) (by decide) hg); replace BK179 := Ah (blk_grown (bk BK179) hg (Kd.R_ne HO_5.out BK179.out (by decide))); replace BK189 := Ah (blk_grown (bk BK189) hg (Kd.R_ne HO_5.out BK189.out (by decide))); replace HO_5 := Ah (hp_); replace HB := Ah ((by rw [hw]; exact below_set (HB.out) GB26.out : Below w.heap.size w w41)); clear hg hw hp_; have hcz42_0 := cz1 BK179; have hfz42_0 := fz1 BK179; obtain ⟨hcz43_0, hcz43_1⟩ := cz2 BK189; obtain ⟨hfz43_0, hfz43_1⟩ := fz2 BK189; have p194 : 0 ≤ (((rd_T42 ((rd_T40 l0_0 ((rd_T62 x7_1 x8_1).f0)).f2) x34_2).f1) : Int) := od; have q194 : ((rd_T42 ((rd_T40 l0_0 ((rd_T62 x7_1 x8_1).f0)).f2) x34_2).f1) < (l0_0.length : Int) := od; obtain ⟨ad194, A194_2, c194_2, e194, hx194_0, hx194_1, hx194_2, hl194_2, hi194_2⟩ := at_T40 HR0_0.out ((rd_T42 ((rd_T40 l0_0 ((rd_T62 x7_1 x8_1).f0)).f2) x34_2).f1) p194 q194; (try rw [← Nbq28.out] at hx194_0); obtain rfl : ad187 = ad194 := (by injection e194); replace hx194_0 := (HB.out.cell (World.block_lt_of_cell? w _ hx194_0)).trans hx194_0; replace hx194_1 := (HB.out.cell (World.block_lt_of_cell? w _ hx194_1)).trans hx194_1; replace hx194_2 := (HB.out.cell (World.block_lt_of_cell? w _ hx194_2)).trans hx194_2; have HR194_2 := Ah hi194_2; have HC194_2 := Ah hl194_2; clear hi194_2 hl194_2; replace p194 := eq_true p194; replace q194 := eq_true q194; have p195 : 0 ≤ (((rd_T42 ((rd_T40 l0_0 ((rd_T62 x7_1 x8_1).f0)).f2) x34_2).f1) : Int) := od; have q195 : ((rd_T42 ((rd_T40 l0_0 ((rd_T62 x7_1 x8_1).f0)).f2) x34_2).f1) < (y193.length : Int) := (by have h_ : (((rd_T42 ((rd_T40 l0_0 ((rd_T62 x7_1 x8_1).f0)).f2) x34_2).f1) : Int) < ((x5_2.length : Int) : Int) := od; first | (have e_ := (Kd.R_reads' HO_5.out).1; omega) | simpa only [Ny193.out, List.length_set] using h_); have ql195 : ((((rd_T42 ((rd_T40 l0_0 ((rd_T62 x7_1 x8_1).f0)).f2) x34_2).f1) : Int) < ((x5_2.length : Int) : Int)) = True := eq_true (od); obtain ⟨ad195, e195, hx195_0⟩ := Kd.at_int (Kd.R_reads' HO_5.out).2.2 ((rd_T42 ((rd_T40 l0_0 ((rd_T62 x7_1 x8_1).f0)).f2) x34_2).f1) p195 q195; obtain rfl : (⟨go26, 0, none⟩ : Addr) = ad195 := (by injection e195); (first | simp only [add_plain] at hx195_0 | simp only [add_at] at hx195_0 | simp only [Addr.add, Nat.zero_add] at hx195_0 | skip); replace p195 := eq_true p195; replace q195 := eq_true q195))
      go_ret3
      exact ⟨_, by first | rfl | (simp [errW_none, errW_some] <;> rfl) | (simp only [← hji23]; first | rfl | (simp [errW_none, errW_some] <;> rfl)) | (simp [*, errW_none, errW_some] <;> rfl), by first | exact Kd.R_nil _ _ _ _ _ | exact Kd.N_nil _ _ _ _ _ | exact Kd.V_nil _ _ _ _ _ | exact Kd.Q_nil _ _ _ _ _ | exact Kd.S_nil _ _ _ _ _, bs2 HB GE179 GE189⟩
     rw [if_neg c30] at H
     have c30b0 : decide (1 < (rd y193 ((rd_T42 ((rd_T40 l0_0 ((rd_T62 x7_1 x8_1).f0)).f2) x34_2).f1))) = false := decide_eq_false c30
     clear c30
     by_cases c44 : x7_2.length < 8796093022208
     rotate_left
     ·
      rw [if_neg c44] at H
      exact absurd H (by simp)
     rw [if_pos c44] at H
     have LMc44 := Ah c44
     clear c44
     obtain ⟨y197, hy197⟩ : ∃ y_ : List (S62), y_ = (x7_2 ++ [(⟨(rd_T42 ((rd_T40 l0_0 ((rd_T62 x7_1 x8_1).f0)).f2) x34_2).f1, wrap64 (((rd_T62 x7_2 x8_1).f1) + 1)⟩ : S62)]) := ⟨_, rfl⟩
     replace H : (impl_Names_deepest.l1 k2 y193 ji23 y197 x8_1 ((rd_T40 l0_0 ((rd_T62 x7_1 x8_1).f0)).f2) (((rd_T40 l0_0 ((rd_T62 x7_1 x8_1).f0)).f2).length : Int) (wrap64 (x34_2 + 1)) l0_0) = some (r1, r2, r3) := by first | (rw [hy197]; with_reducible exact H) | (have H2_ := (Option.bind_some _ _).symm.trans H; rw [hy197]; with_reducible exact H2_) | (have H2_ := (Option.bind_some _ _).symm.trans H; with_reducible exact H2_) | with_reducible exact H | (rw [hy197]; exact H) | exact H
     have Ny197 := Ah hy197
     clear hy197
     have H' := Ah H
     clear H
     have p188 : 0 ≤ (x34_2 : Int) := od
     have q188 : x34_2 < (((rd_T40 l0_0 ((rd_T62 x7_1 x8_1).f0)).f2).length : Int) := od
     obtain ⟨ad188, e188, hx188_0, hx188_1⟩ := at_T42 HR187_2.out x34_2 p188 q188
     cases e188
     replace hx188_0 := (HB.out.cell (World.block_lt_of_cell? w _ hx188_0)).trans hx188_0
     replace hx188_1 := (HB.out.cell (World.block_lt_of_cell? w _ hx188_1)).trans hx188_1
     replace p188 := eq_true p188
     replace q188 := eq_true q188
     try go_wp2_with (first | ((with_reducible refine gate_dst (N := 10) rfl ?_); refine boxL 10 42 #[.string (⟨#[]⟩ : ByteArray), .int .i64 0] ?_; intro gb189 hg w45 BK189 hb; replace HO_5 := nr HO_5 hb; replace HO_7 := nr HO_7 hb; have GW189 := gw hg (bs1 HB GE179); have GE189 := gw hg (bs1 HB GE179); replace HB := Ah (below_step (bs1 HB GE179) hb); have NB179_189 := nn BK179 hg; have NB189_179 := nm BK179 hg; replace BK179 := nb BK179 hb; clear hb hg; have hnb46 := NB189_179.out; have hnc46 := NB179_189.out; obtain ⟨hcz47_0, hcz47_1⟩ := cz2 BK189; obtain ⟨hfz47_0, hfz47_1⟩ := fz2 BK189) | ((with_reducible refine gate_store (t := 42) (p := 10) rfl ?_); refine store_event (t := 42) (p := 10) (v := ?vo_w48) (w1 := ((w45.setCell ⟨gb189, 0, none⟩ (.string ((rd_T42 ((rd_T40 l0_0 ((rd_T62 x7_1 x8_1).f0)).f2) x34_2).f0))).setCell ⟨gb189, 1, none⟩ (.int .i64 ((rd_T42 ((rd_T40 l0_0 ((rd_T62 x7_1 x8_1).f0)).f2) x34_2).f1)))) ?hg ?ho ?hn ?hr ?_; (case ho => rfl); (case hg => rfl); (case hn => rfl); (case hr => first | (go_simp; done) | (go_simp; rfl)); intro w48 hw; have n0_ : Aside0 (Kd.R (Kd.int .i64) 3 w48 w.heap.size (fun _ => True) v181 x5_2) := ⟨(by rw [hw]; exact (by (with_reducible repeat (first | apply Kd.R_alloc | apply Kd.R_drewN | apply Kd.R_drew)); exact Kd.R_mono (Kd.R_far (p := ⟨gb189, 1, none⟩) (Kd.R_far (p := ⟨gb189, 0, none⟩) (Kd.R_types HO_5.out BK189.out (by decide)) (fun _ hk => hk.2) (.string ((rd_T42 ((rd_T40 l0_0 ((rd_T62 x7_1 x8_1).f0)).f2) x34_2).f0))) (fun _ hk => hk.2) (.int .i64 ((rd_T42 ((rd_T40 l0_0 ((rd_T62 x7_1 x8_1).f0)).f2) x34_2).f1))) (fun _ hk => trivial)))⟩; have n1_ : Aside0 (Kd.R k62 62 w48 w.heap.size (fun _ => True) u7 x7_2) := ⟨(by rw [hw]; exact (by (with_reducible repeat (first | apply Kd.R_alloc | apply Kd.R_drewN | apply Kd.R_drew)); exact Kd.R_mono (Kd.R_far (p := ⟨gb189, 1, none⟩) (Kd.R_far (p := ⟨gb189, 0, none⟩) (Kd.R_types HO_7.out BK189.out (by decide)) (fun _ hk => hk.2) (.string ((rd_T42 ((rd_T40 l0_0 ((rd_T62 x7_1 x8_1).f0)).f2) x34_2).f0))) (fun _ hk => hk.2) (.int .i64 ((rd_T42 ((rd_T40 l0_0 ((rd_T62 x7_1 x8_1).f0)).f2) x34_2).f1))) (fun _ hk => trivial)))⟩; have n2_ : Aside0 (w48.heap[gb179]? = some (.cells #[.slice (some ad187) l0_0.length c0_0] 29 (0, 0))) := ⟨(by rw [hw]; exact (bf BK179 NB179_189))⟩; have n3_ : Aside0 (w48.heap[gb189]? = some (.cells #[.string ((rd_T42 ((rd_T40 l0_0 ((rd_T62 x7_1 x8_1).f0)).f2) x34_2).f0), .int .i64 ((rd_T42 ((rd_T40 l0_0 ((rd_T62 x7_1 x8_1).f0)).f2) x34_2).f1)] 42 (0, 0))) := ⟨(by rw [hw]; exact (by (with_reducible repeat (first | refine blk_drewN ?_ _ | refine blk_drew ?_ | refine blk_alloc ?_ _)); refine blk_put (cs := #[.string ((rd_T42 ((rd_T40 l0_0 ((rd_T62 x7_1 x8_1).f0)).f2) x34_2).f0), .int .i64 0]) ?_ 1 _ rfl; (with_reducible repeat (first | refine blk_drewN ?_ _ | refine blk_drew ?_ | refine blk_alloc ?_ _)); refine blk_put (cs := #[.string (⟨#[]⟩ : ByteArray), .int .i64 0]) ?_ 0 _ rfl; (with_reducible repeat (first | refine blk_drewN ?_ _ | refine blk_drew ?_ | refine blk_alloc ?_ _)); exact BK189.out))⟩; have n4_ : Aside0 (Below w.heap.size w w48) := ⟨(by rw [hw]; exact (bs2 HB GE179 GE189))⟩; clear hw; clear HO_5; clear HO_7; clear BK179; clear BK189; clear HB; have HO_5 := n0_; have HO_7 := n1_; have BK179 := n2_; have BK189 := n3_; have HB := n4_; clear n0_ n1_ n2_ n3_ n4_; obtain ⟨hcz49_0, hcz49_1⟩ := cz2 BK189; obtain ⟨hfz49_0, hfz49_1⟩ := fz2 BK189; have hcz50_0 := cz1 BK179; have hfz50_0 := fz1 BK179) | ((with_reducible refine gate_callee (f := 17) rfl ?_); refine gL (some 44) rfl rfl Tryd.func17 (by kernel_rfl) rfl #[.int .i64 ((rd_T42 ((rd_T40 l0_0 ((rd_T62 x7_1 x8_1).f0)).f2) x34_2).f1), .int .i64 1, .int .i64 (wrap64 ((l0_0.length : Int) - 1))] rfl ?_; (with_reducible refine (impl_within.calls ((rd_T42 ((rd_T40 l0_0 ((rd_T62 x7_1 x8_1).f0)).f2) x34_2).f1) 1 (wrap64 ((l0_0.length : Int) - 1)) true _ A19.out).mono ?_); rintro e w' ⟨rfl, ⟨nd, rfl⟩⟩; refine ⟨_, rfl, ?_⟩; (try (rw [drewN_self w48]; generalize hq_ : World.drewN w48 _ = w48; have n0_ : Aside0 (Kd.R (Kd.int .i64) 3 w48 w.heap.size (fun _ => True) v181 x5_2) := ⟨by rw [← hq_]; exact (rr HO_5.out)⟩; have n1_ : Aside0 (Kd.R k62 62 w48 w.heap.size (fun _ => True) u7 x7_2) := ⟨by rw [← hq_]; exact (rr HO_7.out)⟩; have n2_ : Aside0 (w48.heap[gb179]? = some (.cells #[.slice (some ad187) l0_0.length c0_0] 29 (0, 0))) := ⟨by rw [← hq_]; exact (bk BK179)⟩; have n3_ : Aside0 (w48.heap[gb189]? = some (.cells #[.string ((rd_T42 ((rd_T40 l0_0 ((rd_T62 x7_1 x8_1).f0)).f2) x34_2).f0), .int .i64 ((rd_T42 ((rd_T40 l0_0 ((rd_T62 x7_1 x8_1).f0)).f2) x34_2).f1)] 42 (0, 0))) := ⟨by rw [← hq_]; exact (bk BK189)⟩; have n4_ : Aside0 (Below w.heap.size w w48) := ⟨by rw [← hq_]; exact (bs2 HB GE179 GE189)⟩; clear HO_5 HO_7 BK179 BK189 HB hq_; have HO_5 := n0_; have HO_7 := n1_; have BK179 := n2_; have BK189 := n3_; have HB := n4_; clear n0_ n1_ n2_ n3_ n4_)); obtain ⟨Ao51, co51, eo51⟩ := Kd.R_slice HO_7.out; subst eo51; have p191 : 0 ≤ (x8_1 : Int) := od; have q191 : x8_1 < (x7_2.length : Int) := od; obtain ⟨ad191, e191, hx191_0, hx191_1⟩ := at_T62 (Kd.R_reads' HO_7.out).2.2 x8_1 p191 q191; cases e191; replace p191 := eq_true p191; replace q191 := eq_true q191; obtain ⟨hcz52_0, hcz52_1⟩ := cz2 BK189; obtain ⟨hfz52_0, hfz52_1⟩ := fz2 BK189; obtain ⟨Ao53, co53, eo53⟩ := Kd.R_slice HO_5.out; subst eo53; have p192 : 0 ≤ (((rd_T42 ((rd_T40 l0_0 ((rd_T62 x7_1 x8_1).f0)).f2) x34_2).f1) : Int) := od; have q192 : ((rd_T42 ((rd_T40 l0_0 ((rd_T62 x7_1 x8_1).f0)).f2) x34_2).f1) < (x5_2.length : Int) := od; obtain ⟨ad192, e192, hx192_0⟩ := Kd.at_int (Kd.R_reads' HO_5.out).2.2 ((rd_T42 ((rd_T40 l0_0 ((rd_T62 x7_1 x8_1).f0)).f2) x34_2).f1) p192 q192; cases e192; replace p192 := eq_true p192; replace q192 := eq_true q192; have p26 : 0 ≤ (((rd_T42 ((rd_T40 l0_0 ((rd_T62 x7_1 x8_1).f0)).f2) x34_2).f1) : Int) := od; have q26 : (((rd_T42 ((rd_T40 l0_0 ((rd_T62 x7_1 x8_1).f0)).f2) x34_2).f1) : Int) < ((x5_2.length : Int) : Int) := od; obtain ⟨go26, co26, eo26, gb26, gl26, cl26, HG26⟩ := Kd.R_form HO_5.out (by omega); (first | cases eo26 | (injection eo26 with ea_ en_ ec_; (first | subst ea_ | (injection ea_ with ea_; subst ea_)); subst ec_; clear en_)); have GB26 := Ah gb26; have GG26 := Ah HG26; clear gb26 gl26 HG26; (first | simp only [add_plain] at hx192_0 | skip); obtain ⟨hx26_0, hf26_0⟩ := Kd.R_celln 0 HO_5.out (((rd_T42 ((rd_T40 l0_0 ((rd_T62 x7_1 x8_1).f0)).f2) x34_2).f1) : Int) p26 q26; replace p26 := eq_true p26; replace q26 := eq_true q26; obtain ⟨hy54_, hz54_⟩ := Kd.R_celln 0 HO_5.out (((rd_T42 ((rd_T40 l0_0 ((rd_T62 x7_1 x8_1).f0)).f2) x34_2).f1) : Int) (od) (od); have HP54 := Kd.R_putg HO_5.out (((rd_T42 ((rd_T40 l0_0 ((rd_T62 x7_1 x8_1).f0)).f2) x34_2).f1) : Int) (wrap64 ((rd x5_2 ((rd_T42 ((rd_T40 l0_0 ((rd_T62 x7_1 x8_1).f0)).f2) x34_2).f1)) + 1))) | ((with_reducible refine gate_store (t := 3) (p := 60) rfl ?_); refine store_event (t := 3) (p := 60) (v := ?vo_w55) (w1 := (w48.setCell ⟨go26, (((rd_T42 ((rd_T40 l0_0 ((rd_T62 x7_1 x8_1).f0)).f2) x34_2).f1) : Int).toNat, none⟩ (.int .i64 (wrap64 ((rd x5_2 ((rd_T42 ((rd_T40 l0_0 ((rd_T62 x7_1 x8_1).f0)).f2) x34_2).f1)) + 1))))) ?hg ?ho ?hn ?hr ?_; (case ho => rfl); (case hg => rfl); (case hn => rfl); (case hr => first | (go_simp; done) | (go_simp; rfl)); intro w55 hw; have hg : w48.grownBy w55 (some go26) := (by rw [hw]; exact HP54.2); have hp_ : Kd.R (Kd.int .i64) 3 w55 w.heap.size (fun _ => True) (.slice (some ⟨go26, 0, none⟩) x5_2.length co53) y193 := (by rw [hw, Ny193.out]; exact HP54.1); clear HP54; replace HO_7 := Ah (Kd.R_over' (v := (.slice (some ⟨go26, 0, none⟩) x5_2.length co53)) (rr HO_7.out) (Kd.R_typed HO_5.out) (by decide) hg); replace BK179 := Ah (blk_grown (bk BK179) hg (Kd.R_ne HO_5.out BK179.out (by decide))); replace BK189 := Ah (blk_grown (bk BK189) hg (Kd.R_ne HO_5.out BK189.out (by decide))); replace HO_5 := Ah (hp_); replace HB := Ah ((by rw [hw]; exact below_set (HB.out) GB26.out : Below w.heap.size w w55)); clear hg hw hp_; have hcz56_0 := cz1 BK179; have hfz56_0 := fz1 BK179; obtain ⟨hcz57_0, hcz57_1⟩ := cz2 BK189; obtain ⟨hfz57_0, hfz57_1⟩ := fz2 BK189; have p194 : 0 ≤ (((rd_T42 ((rd_T40 l0_0 ((rd_T62 x7_1 x8_1).f0)).f2) x34_2).f1) : Int) := od; have q194 : ((rd_T42 ((rd_T40 l0_0 ((rd_T62 x7_1 x8_1).f0)).f2) x34_2).f1) < (l0_0.length : Int) := od; obtain ⟨ad194, A194_2, c194_2, e194, hx194_0, hx194_1, hx194_2, hl194_2, hi194_2⟩ := at_T40 HR0_0.out ((rd_T42 ((rd_T40 l0_0 ((rd_T62 x7_1 x8_1).f0)).f2) x34_2).f1) p194 q194; (try rw [← Nbq28.out] at hx194_0); obtain rfl : ad187 = ad194 := (by injection e194); replace hx194_0 := (HB.out.cell (World.block_lt_of_cell? w _ hx194_0)).trans hx194_0; replace hx194_1 := (HB.out.cell (World.block_lt_of_cell? w _ hx194_1)).trans hx194_1; replace hx194_2 := (HB.out.cell (World.block_lt_of_cell? w _ hx194_2)).trans hx194_2; have HR194_2 := Ah hi194_2; have HC194_2 := Ah hl194_2; clear hi194_2 hl194_2; replace p194 := eq_true p194; replace q194 := eq_true q194; have p195 : 0 ≤ (((rd_T42 ((rd_T40 l0_0 ((rd_T62 x7_1 x8_1).f0)).f2) x34_2).f1) : Int) := od; have q195 : ((rd_T42 ((rd_T40 l0_0 ((rd_T62 x7_1 x8_1).f0)).f2) x34_2).f1) < (y193.length : Int) := (by have h_ : (((rd_T42 ((rd_T40 l0_0 ((rd_T62 x7_1 x8_1).f0)).f2) x34_2).f1) : Int) < ((x5_2.length : Int) : Int) := od; first | (have e_ := (Kd.R_reads' HO_5.out).1; omega) | simpa only [Ny193.out, List.length_set] using h_); have ql195 : ((((rd_T42 ((rd_T40 l0_0 ((rd_T62 x7_1 x8_1).f0)).f2) x34_2).f1) : Int) < ((x5_2.length : Int) : Int)) = True := eq_true (od); obtain ⟨ad195, e195, hx195_0⟩ := Kd.at_int (Kd.R_reads' HO_5.out).2.2 ((rd_T42 ((rd_T40 l0_0 ((rd_T62 x7_1 x8_1).f0)).f2) x34_2).f1) p195 q195; obtain rfl : (⟨go26, 0, none⟩ : Addr) = ad195 := (by injection e195); (first | simp only [add_plain] at hx195_0 | simp only [add_at] at hx195_0 | simp only [Addr.add, Nat.zero_add] at hx195_0 | skip); replace p195 := eq_true p195; replace q195 := eq_true q195))
     have n0_ := Ah (Kd.R_drew HO_5.out)
     have n1_ := Ah (Kd.R_drew HO_7.out)
     have n2_ := Ah (blk_drew BK179.out)
     have n3_ := Ah (blk_drew BK189.out)
     have n4_ := Ah (below_drew1 HB.out)
     clear HO_5 HO_7 BK179 BK189 HB
     have HO_5 := n0_
     have HO_7 := n1_
     have BK179 := n2_
     have BK189 := n3_
     have HB := n4_
     clear n0_ n1_ n2_ n3_ n4_
     have p196 : 0 ≤ (x8_1 : Int) := od
     have q196 : x8_1 < (x7_2.length : Int) := od
     obtain ⟨ad196, e196, hx196_0, hx196_1⟩ := at_T62 (Kd.R_reads' HO_7.out).2.2 x8_1 p196 q196
     obtain rfl : ad191 = ad196 := (by injection e196)
     replace p196 := eq_true p196
     replace q196 := eq_true q196
     refine start_ (n := 13) (S := fun w' => w'.cell? ⟨gb189, 0, none⟩ = some (.string ((rd_T42 ((rd_T40 l0_0 ((rd_T62 x7_1 x8_1).f0)).f2) x34_2).f0)) ∧ w'.cell? ⟨gb189, 1, none⟩ = some (.int .i64 ((rd_T42 ((rd_T40 l0_0 ((rd_T62 x7_1 x8_1).f0)).f2) x34_2).f1)) ∧ w'.cell? (ad191.add ((x8_1).toNat * 2)) = some (.int .i64 ((rd_T62 x7_2 x8_1).f0)) ∧ w'.cell? ⟨(ad191.add ((x8_1).toNat * 2)).block, (ad191.add ((x8_1).toNat * 2)).off + 1, none⟩ = some (.int .i64 ((rd_T62 x7_2 x8_1).f1))) (ds := [10, 11]) #[false, false, false, false, false, false, false, false, false, false, false, false, false] (by kernel_rfl) rfl rfl ⟨(blk_cell BK189.out 0).trans rfl, (blk_cell BK189.out 1).trans rfl, hx196_0, hx196_1⟩ (fun hHeld => ?_); refine with_tabW impl_Names_deepest.tab17 impl_Names_deepest.bits17 (fun HT_ HW_ => ?_)
     generalize w55.drew = w58 at HO_5 HO_7 BK179 BK189 HB hx196_0 hx196_1 hHeld ⊢
     refine pureS 0 74 HT_.out ?_
     refine pureS 1 75 HT_.out ?_
     refine pureS 3 77 HT_.out ?_
     refine pureS 4 78 HT_.out ?_
     refine pureS 5 79 HT_.out ?_
     refine pureS 6 80 HT_.out ?_
     refine takeS 2 76 HT_.out HW_.out hHeld (hr := by rintro w' ⟨s0, s1, s2, s3⟩; go_simp; with_reducible rfl) (h := ?_)
     refine takeS 7 81 HT_.out HW_.out hHeld (hr := by rintro w' ⟨s0, s1, s2, s3⟩; go_simp; with_reducible rfl) (h := ?_)
     refine pureS 8 82 HT_.out ?_
     refine pureS 9 83 HT_.out ?_
     refine last_ (i := 10) (N := some 84) #[true, true, true, true, true, true, true, true, true, true, true, false, false] rfl rfl (one_of HT_.out (by kernel_rfl)) (by decide) (fun K hK => ?_)
     refine value_ (w1 := ?_) (v := ?_) (by rfl) rfl ?_ ?_
     rotate_left 2
     ·
      go_simp
      constructor
      ·
       rfl
      ·
       rfl
     refine hK.out _ _ ?_
     clear hK K
     refine norm_ (a' := ?_) ?_ ?_
     rotate_left
     ·
      show Act.put _ (some 84) _ = _
      simp only [Act.put, List.setIfInBounds_toArray, List.set_cons_zero, List.set_cons_succ, i64_w, i32_w]
      rfl
     refine last_ (i := 11) (N := some 85) #[true, true, true, true, true, true, true, true, true, true, true, true, false] rfl rfl (one_of HT_.out (by kernel_rfl)) (by decide) (fun K hK => ?_)
     refine Kd.R_append_step k62 (w0 := w) w.heap.size (by rfl) (.tmp 74) (.tmp 84) 63 62 (.agg #[(.int .i64 0), (.int .i64 0)]) 16 rfl Tryd.underlying63 info62 rfl (by decide) (by omega) (.slice (some ad191) x7_2.length co51) x7_2 (⟨(rd_T42 ((rd_T40 l0_0 ((rd_T62 x7_1 x8_1).f0)).f2) x34_2).f1, wrap64 (((rd_T62 x7_2 x8_1).f1) + 1)⟩ : S62) [.int .i64 ((rd_T42 ((rd_T40 l0_0 ((rd_T62 x7_1 x8_1).f0)).f2) x34_2).f1), .int .i64 (wrap64 (((rd_T62 x7_2 x8_1).f1) + 1))] (fun _ => True) (fun _ => False) rfl rfl ?aP (fun _ hk => hk.elim) ?aF ?aO ?aB ?aS ?aL ?_
     (case aP => exact k62_mkM _ _ _ (⟨(rd_T42 ((rd_T40 l0_0 ((rd_T62 x7_1 x8_1).f0)).f2) x34_2).f1, wrap64 (((rd_T62 x7_2 x8_1).f1) + 1)⟩ : S62))
     (case aB => exact (bs2 HB GE179 GE189))
     (case aF => exact (fun _ _ => trivial))
     (case aO => exact (rr HO_7.out))
     (case aS => exact (below_size (bs2 HB GE179 GE189)))
     (case aL => have := LMc44.out; omega)
     intro v198 w59 ho hb hg hat
     rw [← Ny197.out] at ho
     have n0_ := Ah (Kd.R_over' (rr HO_5.out) (Kd.R_typed (rr HO_7.out)) (by decide) hg)
     have n1_ := Ah (blk_grown (bk BK179) hg (Kd.R_ne HO_7.out BK179.out (by decide)))
     have n2_ := Ah (blk_grown (bk BK189) hg (Kd.R_ne HO_7.out BK189.out (by decide)))
     have n3_ := Ah (hb)
     have n4_ := Ah (ho)
     clear HO_5 BK179 BK189 HB HO_7
     have HO_5 := n0_
     have BK179 := n1_
     have BK189 := n2_
     have HB := n3_
     have HO199 := n4_
     clear n0_ n1_ n2_ n3_ n4_ ho hb hg hat
     refine hK.out _ _ ?_
     clear hK K
     refine norm_ (a' := ?_) ?_ ?_
     rotate_left
     ·
      show Act.put _ (some 85) _ = _
      simp only [Act.put, List.setIfInBounds_toArray, List.set_cons_zero, List.set_cons_succ, i64_w, i32_w]
      rfl
     refine pureS 12 7 HT_.out ?_
     refine done_ (done_of HT_.out (by kernel_rfl)) ?_
     try go_wp2
     go_roundg k2
     case measure => have := HK1.out; have := HK2.out; omega
     case rel => exact ⟨(y193), (ji23), (y197), (wrap64 (x34_2 + 1)), (by first | rfl | (simp; done) | (simp only [← hji23] <;> (first | rfl | simp)) | (simp [*]; done)), e3, H', ⟨by have := HK1.out; have := HK2.out; omega⟩, ⟨rr HO_5.out⟩, ⟨rr HO199.out⟩, ⟨bk BK179⟩, ⟨bs2 HB GE179 GE189⟩⟩

/-! ### impl_GoodNames: function 8 -/
mutual
def impl_GoodNames.j0 : Nat → Bool → List (S40) → Option (Bool)
 | 0, _, _ => none
 | k + 1, x30, x201000 => if x30 = true then (some false) else (impl_GoodNames.l0 k x201000 (x201000.length : Int) 0 x201000)
def impl_GoodNames.l0 : Nat → List (S40) → Int → Int → List (S40) → Option (Bool)
 | 0, _, _, _, _ => none
 | k + 1, x32, x33, x34, x201000 => if x34 < x33 then (if 0 ≤ x34 then (if x34 < (x32.length : Int) then ((impl_areNames.f k ((rd_T40 x32 x34).f2)).bind fun t206 => (if t206 = true then (if ((rd_T40 x32 x34).f0 = true) then (impl_GoodNames.l0 k x32 x33 (wrap64 (x34 + 1)) x201000) else (if (((rd_T40 x32 x34).f2).length : Int) > 0 then (some false) else (impl_GoodNames.l0 k x32 x33 (wrap64 (x34 + 1)) x201000))) else (some false))) else (none)) else (none)) else ((impl_Names_deepest.f k x201000).bind fun bt207 => (if bt207.2.2 = true then (impl_GoodNames.j2 k bt207.2.1 (decide (bt207.1 > 8)) x201000) else (impl_GoodNames.j2 k bt207.2.1 true x201000)))
def impl_GoodNames.j2 : Nat → List Int → Bool → List (S40) → Option (Bool)
 | 0, _, _, _ => none
 | k + 1, x6, x65, x201000 => if x65 = true then (some false) else (if 1 ≤ (x201000.length : Int) then ((some (x201000.drop 1 : List (S40))).bind fun y212 => (impl_GoodNames.l1 k x6 y212 (y212.length : Int) 0)) else (none))
def impl_GoodNames.l1 : Nat → List Int → List (S40) → Int → Int → Option (Bool)
 | 0, _, _, _, _ => none
 | k + 1, x6, x68, x69, x70 => if x70 < x69 then (if 0 ≤ x70 then (if x70 < (x68.length : Int) then (if 0 ≤ (wrap64 (x70 + 1)) then (if (wrap64 (x70 + 1)) < (x6.length : Int) then (if ((rd_T40 x68 x70).f1) = (rd x6 (wrap64 (x70 + 1))) then (if (rd x6 (wrap64 (x70 + 1))) = 0 then (if (rd_T40 x68 x70).f0 = true then (some false) else (impl_GoodNames.l1 k x6 x68 x69 (wrap64 (x70 + 1)))) else (impl_GoodNames.l1 k x6 x68 x69 (wrap64 (x70 + 1)))) else (some false)) else (none)) else (none)) else (none)) else (none)) else (some true)
end
def impl_GoodNames.f (k : Nat) (l0_0 : List (S40)) : Option (Bool) := (impl_within.f (l0_0.length : Int) 1 60).bind fun t201 => (if t201 = true then (if 0 < (l0_0.length : Int) then (if ((rd_T40 l0_0 0).f0 = true) then (impl_GoodNames.j0 k (((rd_T40 l0_0 0).f1) != 1) l0_0) else (impl_GoodNames.j0 k true l0_0)) else (none)) else (impl_GoodNames.j0 k true l0_0))
theorem impl_GoodNames.mono_l : ∀ k, (∀ y0 y1, LeO (impl_GoodNames.j0 k y0 y1) (impl_GoodNames.j0 (k + 1) y0 y1)) ∧ (∀ y0 y1 y2 y3, LeO (impl_GoodNames.l0 k y0 y1 y2 y3) (impl_GoodNames.l0 (k + 1) y0 y1 y2 y3)) ∧ (∀ y0 y1 y2, LeO (impl_GoodNames.j2 k y0 y1 y2) (impl_GoodNames.j2 (k + 1) y0 y1 y2)) ∧ (∀ y0 y1 y2 y3, LeO (impl_GoodNames.l1 k y0 y1 y2 y3) (impl_GoodNames.l1 (k + 1) y0 y1 y2 y3))
 | 0 => ⟨fun _ _ r h => by simp [impl_GoodNames.j0] at h, fun _ _ _ _ r h => by simp [impl_GoodNames.l0] at h, fun _ _ _ r h => by simp [impl_GoodNames.j2] at h, fun _ _ _ _ r h => by simp [impl_GoodNames.l1] at h⟩
 | k + 1 => by
  obtain ⟨ih0, ih1, ih2, ih3⟩ := impl_GoodNames.mono_l k
  refine ⟨?_, ?_, ?_, ?_⟩ <;> intros <;> first | unfold impl_GoodNames.j0 | unfold impl_GoodNames.l0 | unfold impl_GoodNames.j2 | unfold impl_GoodNames.l1
  all_goals repeat' first
   | (with_reducible exact ih0 _ _)
   | (with_reducible exact ih1 _ _ _ _)
   | (with_reducible exact ih2 _ _ _)
   | (with_reducible exact ih3 _ _ _ _)
   | (with_reducible exact impl_Names_deepest.mono _ _)
   | (with_reducible exact impl_areNames.mono _ _)
   | (with_reducible exact LeO.refl _)
   | (with_reducible exact LeO.none _)
   | (with_reducible refine LeO.ite ?_ ?_)
   | (with_reducible refine LeO.bind ?_ (fun _ => ?_))
   | exact ih0 _ _
   | exact ih1 _ _ _ _
   | exact ih2 _ _ _
   | exact ih3 _ _ _ _
   | exact impl_Names_deepest.mono _ _
   | exact impl_areNames.mono _ _
   | exact LeO.none _
   | refine LeO.ite ?_ ?_
   | refine LeO.bind ?_ (fun _ => ?_)
theorem impl_GoodNames.mono : ∀ a0 k, LeO (impl_GoodNames.f k a0) (impl_GoodNames.f (k + 1) a0) := by
 intro a0 k
 obtain ⟨ih0, ih1, ih2, ih3⟩ := impl_GoodNames.mono_l k
 unfold impl_GoodNames.f
 repeat' first
   | (with_reducible exact ih0 _ _)
   | (with_reducible exact ih1 _ _ _ _)
   | (with_reducible exact ih2 _ _ _)
   | (with_reducible exact ih3 _ _ _ _)
   | (with_reducible exact impl_Names_deepest.mono _ _)
   | (with_reducible exact impl_areNames.mono _ _)
   | (with_reducible exact LeO.refl _)
   | (with_reducible exact LeO.none _)
   | (with_reducible refine LeO.ite ?_ ?_)
   | (with_reducible refine LeO.bind ?_ (fun _ => ?_))
   | exact ih0 _ _
   | exact ih1 _ _ _ _
   | exact ih2 _ _ _
   | exact ih3 _ _ _ _
   | exact impl_Names_deepest.mono _ _
   | exact impl_areNames.mono _ _
   | exact LeO.none _
   | refine LeO.ite ?_ ?_
   | refine LeO.bind ?_ (fun _ => ?_)
set_option maxHeartbeats 8000000 in
set_option maxRecDepth 100000 in
theorem impl_GoodNames.calls (k : Nat) (A0_0 : Option Addr) (c0_0 : Nat) (l0_0 : List (S40)) (r : Bool) (w : World) (hr0_0 : Kd.C k40 w A0_0 l0_0.length l0_0) (hc0_0 : l0_0.length ≤ c0_0) (h : impl_GoodNames.f k l0_0 = some r) :
  Calls Tryd.prog 8 #[.agg #[.slice A0_0 l0_0.length c0_0]] w fun e w' => e = .returned (.bool r) ∧ Below w.heap.size w w' := by
 have hu29 := Tryd.underlying29
 have hu40 := Tryd.underlying40
 have HR0_0 := Ah hr0_0
 have HC0_0 := Ah hc0_0
 clear hr0_0 hc0_0
 have HB := Ah (Below.refl w.heap.size w)
 have H : ((impl_within.f (l0_0.length : Int) 1 60).bind fun t201 => (if t201 = true then (if 0 < (l0_0.length : Int) then (if ((rd_T40 l0_0 0).f0 = true) then (impl_GoodNames.j0 k (((rd_T40 l0_0 0).f1) != 1) l0_0) else (impl_GoodNames.j0 k true l0_0)) else (none)) else (impl_GoodNames.j0 k true l0_0))) = some r := h
 clear h
 have HC2 := Ah H
 clear H
 go_enter Tryd.func8, Tryd.ntmps8
 go_upto_region 1 with (first | ((with_reducible refine gate_dst (N := 1) rfl ?_); (try (refine gate_guard (by rfl) ?_; dsimp only)); refine boxL 1 29 #[.slice A0_0 l0_0.length c0_0] ?_; intro gb200 hg w3 BK200 hb; have GW200 := gw hg (bs HB); have GE200 := gw hg (bs HB); replace HB := Ah (below_step (bs HB) hb); clear hb hg))
 repeat (go_quiet (first | ((with_reducible refine gate_dst (N := 1) rfl ?_); (try (refine gate_guard (by rfl) ?_; dsimp only)); refine boxL 1 29 #[.slice A0_0 l0_0.length c0_0] ?_; intro gb200 hg w3 BK200 hb; have GW200 := gw hg (bs HB); have GE200 := gw hg (bs HB); replace HB := Ah (below_step (bs HB) hb); clear hb hg)); go_upto_region 1 with (first | ((with_reducible refine gate_dst (N := 1) rfl ?_); (try (refine gate_guard (by rfl) ?_; dsimp only)); refine boxL 1 29 #[.slice A0_0 l0_0.length c0_0] ?_; intro gb200 hg w3 BK200 hb; have GW200 := gw hg (bs HB); have GE200 := gw hg (bs HB); replace HB := Ah (below_step (bs HB) hb); clear hb hg)))
 (try simp only [Act.put, List.setIfInBounds_toArray, List.set_cons_zero, List.set_cons_succ])
 go_cut [30] (fun v30 wc => ∃ (kq : Nat) (x30_1 : Bool), v30 = .bool x30_1 ∧ Aside0 (impl_GoodNames.j0 kq x30_1 l0_0 = some r) ∧ Aside0 (kq ≤ k) ∧ Aside0 (wc.heap[gb200]? = some (.cells #[(.slice A0_0 l0_0.length c0_0)] 29 (0, 0))) ∧ Aside0 (Below w.heap.size w wc))
 case first =>
  have H := HC2.out
  clear HC2
  replace H := Option.bind_eq_some_iff.mp H
  obtain ⟨t201, A40, H⟩ := H
  try dsimp only at H
  have A4 := Ah A40
  clear A40
  by_cases c5 : t201 = true
  rotate_left
  ·
   replace c5 := Bool.eq_false_iff.mpr c5
   subst c5
   rw [if_neg fne] at H
   have H' := Ah H
   clear H
   have hcz11_0 := cz1 BK200
   have hfz11_0 := fz1 BK200
   go_wp2_with (first | (go_at_call 17; (with_reducible refine (impl_within.calls (l0_0.length : Int) 1 60 false _ A4.out).mono ?_); rintro e w' ⟨rfl, ⟨nd, rfl⟩⟩; (try first | exact ⟨rfl, _, World.drewN_drewN _ _ _⟩ | exact ⟨rfl, _, Eq.trans (World.drewN_drewN _ _ _) (congrArg (World.drewN _) (Nat.add_assoc _ _ _))⟩)))
   repeat (go_quiet (first | (go_at_call 17; (with_reducible refine (impl_within.calls (l0_0.length : Int) 1 60 false _ A4.out).mono ?_); rintro e w' ⟨rfl, ⟨nd, rfl⟩⟩; (try first | exact ⟨rfl, _, World.drewN_drewN _ _ _⟩ | exact ⟨rfl, _, Eq.trans (World.drewN_drewN _ _ _) (congrArg (World.drewN _) (Nat.add_assoc _ _ _))⟩))); try go_wp2_with (first | (go_at_call 17; (with_reducible refine (impl_within.calls (l0_0.length : Int) 1 60 false _ A4.out).mono ?_); rintro e w' ⟨rfl, ⟨nd, rfl⟩⟩; (try first | exact ⟨rfl, _, World.drewN_drewN _ _ _⟩ | exact ⟨rfl, _, Eq.trans (World.drewN_drewN _ _ _) (congrArg (World.drewN _) (Nat.add_assoc _ _ _))⟩))))
   go_meet
   case rel => exact ⟨_, (true), e3, H', ⟨by first | omega | exact Nat.le_refl _⟩, ⟨bk BK200⟩, ⟨bs1 HB GE200⟩⟩
  subst c5
  rw [if_pos rfl] at H
  by_cases c6 : 0 < (l0_0.length : Int)
  rotate_left
  ·
   rw [if_neg c6] at H
   exact absurd H (by simp)
  rw [if_pos c6] at H
  have c6b0 : decide (0 < (l0_0.length : Int)) = true := decide_eq_true c6
  have c6b1 : decide (0 < l0_0.length) = true := decide_eq_true (by omega)
  clear c6
  (first | rw [c6b0] | (simp only [i64_w, i32_w]; rw [c6b0]) | (simp only [c6b2, Bool.not_false, Bool.not_true]) | skip)
  obtain ⟨bq7, hbq7⟩ : ∃ b_ : Bool, b_ = ((rd_T40 l0_0 0).f0) := ⟨_, rfl⟩
  replace H : (if (bq7 = true) then (impl_GoodNames.j0 k (((rd_T40 l0_0 0).f1) != 1) l0_0) else (impl_GoodNames.j0 k true l0_0)) = some r := by rw [← hbq7] at H; exact H
  have Nbq7 := Ah hbq7
  clear hbq7
  by_cases c8 : (bq7 = true)
  rotate_left
  ·
   replace c8 := Bool.eq_false_iff.mpr c8
   subst c8
   rw [if_neg fne] at H
   have H' := Ah H
   clear H
   have hcz10_0 := cz1 BK200
   have hfz10_0 := fz1 BK200
   go_wp2_with (first | (go_at_call 17; (with_reducible refine (impl_within.calls (l0_0.length : Int) 1 60 true _ A4.out).mono ?_); rintro e w' ⟨rfl, ⟨nd, rfl⟩⟩; (try first | exact ⟨rfl, _, World.drewN_drewN _ _ _⟩ | exact ⟨rfl, _, Eq.trans (World.drewN_drewN _ _ _) (congrArg (World.drewN _) (Nat.add_assoc _ _ _))⟩); have p202 : 0 ≤ (0 : Int) := (by omega); have q202 : 0 < (l0_0.length : Int) := od; obtain ⟨ad202, A202_2, c202_2, e202, hx202_0, hx202_1, hx202_2, hl202_2, hi202_2⟩ := at_T40 HR0_0.out 0 p202 q202; (try rw [← Nbq7.out] at hx202_0); cases e202; have qi202 : (0 < l0_0.length) = True := eq_true (by omega); (try rw [show ((0 : Int)).toNat = 0 from rfl] at hx202_0); (try rw [show 0 * 3 = 0 from rfl] at hx202_0); (try rw [Addr.add_zero'] at hx202_0); (try rw [show ((0 : Int)).toNat = 0 from rfl] at hx202_1); (try rw [show 0 * 3 = 0 from rfl] at hx202_1); (try rw [Addr.add_zero'] at hx202_1); (try rw [show ((0 : Int)).toNat = 0 from rfl] at hx202_2); (try rw [show 0 * 3 = 0 from rfl] at hx202_2); (try rw [Addr.add_zero'] at hx202_2); replace hx202_0 := (HB.out.cell (World.block_lt_of_cell? w _ hx202_0)).trans hx202_0; replace hx202_1 := (HB.out.cell (World.block_lt_of_cell? w _ hx202_1)).trans hx202_1; replace hx202_2 := (HB.out.cell (World.block_lt_of_cell? w _ hx202_2)).trans hx202_2; have HR202_2 := Ah hi202_2; have HC202_2 := Ah hl202_2; clear hi202_2 hl202_2; replace p202 := eq_true p202; replace q202 := eq_true q202))
   repeat (go_quiet (first | (go_at_call 17; (with_reducible refine (impl_within.calls (l0_0.length : Int) 1 60 true _ A4.out).mono ?_); rintro e w' ⟨rfl, ⟨nd, rfl⟩⟩; (try first | exact ⟨rfl, _, World.drewN_drewN _ _ _⟩ | exact ⟨rfl, _, Eq.trans (World.drewN_drewN _ _ _) (congrArg (World.drewN _) (Nat.add_assoc _ _ _))⟩); have p202 : 0 ≤ (0 : Int) := (by omega); have q202 : 0 < (l0_0.length : Int) := od; obtain ⟨ad202, A202_2, c202_2, e202, hx202_0, hx202_1, hx202_2, hl202_2, hi202_2⟩ := at_T40 HR0_0.out 0 p202 q202; (try rw [← Nbq7.out] at hx202_0); cases e202; have qi202 : (0 < l0_0.length) = True := eq_true (by omega); (try rw [show ((0 : Int)).toNat = 0 from rfl] at hx202_0); (try rw [show 0 * 3 = 0 from rfl] at hx202_0); (try rw [Addr.add_zero'] at hx202_0); (try rw [show ((0 : Int)).toNat = 0 from rfl] at hx202_1); (try rw [show 0 * 3 = 0 from rfl] at hx202_1); (try rw [Addr.add_zero'] at hx202_1); (try rw [show ((0 : Int)).toNat = 0 from rfl] at hx202_2); (try rw [show 0 * 3 = 0 from rfl] at hx202_2); (try rw [Addr.add_zero'] at hx202_2); replace hx202_0 := (HB.out.cell (World.block_lt_of_cell? w _ hx202_0)).trans hx202_0; replace hx202_1 := (HB.out.cell (World.block_lt_of_cell? w _ hx202_1)).trans hx202_1; replace hx202_2 := (HB.out.cell (World.block_lt_of_cell? w _ hx202_2)).trans hx202_2; have HR202_2 := Ah hi202_2; have HC202_2 := Ah hl202_2; clear hi202_2 hl202_2; replace p202 := eq_true p202; replace q202 := eq_true q202)); try go_wp2_with (first | (go_at_call 17; (with_reducible refine (impl_within.calls (l0_0.length : Int) 1 60 true _ A4.out).mono ?_); rintro e w' ⟨rfl, ⟨nd, rfl⟩⟩; (try first | exact ⟨rfl, _, World.drewN_drewN _ _ _⟩ | exact ⟨rfl, _, Eq.trans (World.drewN_drewN _ _ _) (congrArg (World.drewN _) (Nat.add_assoc _ _ _))⟩); have p202 : 0 ≤ (0 : Int) := (by omega); have q202 : 0 < (l0_0.length : Int) := od; obtain ⟨ad202, A202_2, c202_2, e202, hx202_0, hx202_1, hx202_2, hl202_2, hi202_2⟩ := at_T40 HR0_0.out 0 p202 q202; (try rw [← Nbq7.out] at hx202_0); cases e202; have qi202 : (0 < l0_0.length) = True := eq_true (by omega); (try rw [show ((0 : Int)).toNat = 0 from rfl] at hx202_0); (try rw [show 0 * 3 = 0 from rfl] at hx202_0); (try rw [Addr.add_zero'] at hx202_0); (try rw [show ((0 : Int)).toNat = 0 from rfl] at hx202_1); (try rw [show 0 * 3 = 0 from rfl] at hx202_1); (try rw [Addr.add_zero'] at hx202_1); (try rw [show ((0 : Int)).toNat = 0 from rfl] at hx202_2); (try rw [show 0 * 3 = 0 from rfl] at hx202_2); (try rw [Addr.add_zero'] at hx202_2); replace hx202_0 := (HB.out.cell (World.block_lt_of_cell? w _ hx202_0)).trans hx202_0; replace hx202_1 := (HB.out.cell (World.block_lt_of_cell? w _ hx202_1)).trans hx202_1; replace hx202_2 := (HB.out.cell (World.block_lt_of_cell? w _ hx202_2)).trans hx202_2; have HR202_2 := Ah hi202_2; have HC202_2 := Ah hl202_2; clear hi202_2 hl202_2; replace p202 := eq_true p202; replace q202 := eq_true q202)))
   go_meet
   case rel => exact ⟨_, (true), e3, H', ⟨by first | omega | exact Nat.le_refl _⟩, ⟨bk BK200⟩, ⟨bs1 HB GE200⟩⟩
  subst c8
  rw [if_pos rfl] at H
  have H' := Ah H
  clear H
  have hcz9_0 := cz1 BK200
  have hfz9_0 := fz1 BK200
  go_wp2_with (first | (go_at_call 17; (with_reducible refine (impl_within.calls (l0_0.length : Int) 1 60 true _ A4.out).mono ?_); rintro e w' ⟨rfl, ⟨nd, rfl⟩⟩; (try first | exact ⟨rfl, _, World.drewN_drewN _ _ _⟩ | exact ⟨rfl, _, Eq.trans (World.drewN_drewN _ _ _) (congrArg (World.drewN _) (Nat.add_assoc _ _ _))⟩); have p202 : 0 ≤ (0 : Int) := (by omega); have q202 : 0 < (l0_0.length : Int) := od; obtain ⟨ad202, A202_2, c202_2, e202, hx202_0, hx202_1, hx202_2, hl202_2, hi202_2⟩ := at_T40 HR0_0.out 0 p202 q202; (try rw [← Nbq7.out] at hx202_0); cases e202; have qi202 : (0 < l0_0.length) = True := eq_true (by omega); (try rw [show ((0 : Int)).toNat = 0 from rfl] at hx202_0); (try rw [show 0 * 3 = 0 from rfl] at hx202_0); (try rw [Addr.add_zero'] at hx202_0); (try rw [show ((0 : Int)).toNat = 0 from rfl] at hx202_1); (try rw [show 0 * 3 = 0 from rfl] at hx202_1); (try rw [Addr.add_zero'] at hx202_1); (try rw [show ((0 : Int)).toNat = 0 from rfl] at hx202_2); (try rw [show 0 * 3 = 0 from rfl] at hx202_2); (try rw [Addr.add_zero'] at hx202_2); replace hx202_0 := (HB.out.cell (World.block_lt_of_cell? w _ hx202_0)).trans hx202_0; replace hx202_1 := (HB.out.cell (World.block_lt_of_cell? w _ hx202_1)).trans hx202_1; replace hx202_2 := (HB.out.cell (World.block_lt_of_cell? w _ hx202_2)).trans hx202_2; have HR202_2 := Ah hi202_2; have HC202_2 := Ah hl202_2; clear hi202_2 hl202_2; replace p202 := eq_true p202; replace q202 := eq_true q202; have p203 : 0 ≤ (0 : Int) := (by omega); have q203 : 0 < (l0_0.length : Int) := od; obtain ⟨ad203, A203_2, c203_2, e203, hx203_0, hx203_1, hx203_2, hl203_2, hi203_2⟩ := at_T40 HR0_0.out 0 p203 q203; (try rw [← Nbq7.out] at hx203_0); obtain rfl : ad202 = ad203 := (by injection e203); have qi203 : (0 < l0_0.length) = True := eq_true (by omega); (try rw [show ((0 : Int)).toNat = 0 from rfl] at hx203_0); (try rw [show 0 * 3 = 0 from rfl] at hx203_0); (try rw [Addr.add_zero'] at hx203_0); (try rw [show ((0 : Int)).toNat = 0 from rfl] at hx203_1); (try rw [show 0 * 3 = 0 from rfl] at hx203_1); (try rw [Addr.add_zero'] at hx203_1); (try rw [show ((0 : Int)).toNat = 0 from rfl] at hx203_2); (try rw [show 0 * 3 = 0 from rfl] at hx203_2); (try rw [Addr.add_zero'] at hx203_2); replace hx203_0 := (HB.out.cell (World.block_lt_of_cell? w _ hx203_0)).trans hx203_0; replace hx203_1 := (HB.out.cell (World.block_lt_of_cell? w _ hx203_1)).trans hx203_1; replace hx203_2 := (HB.out.cell (World.block_lt_of_cell? w _ hx203_2)).trans hx203_2; have HR203_2 := Ah hi203_2; have HC203_2 := Ah hl203_2; clear hi203_2 hl203_2; replace p203 := eq_true p203; replace q203 := eq_true q203; have ea_ := Option.some.inj (hx202_2.symm.trans hx203_2); injection ea_ with ea_ en_ ec_; subst ea_; subst ec_; clear en_))
  repeat (go_quiet (first | (go_at_call 17; (with_reducible refine (impl_within.calls (l0_0.length : Int) 1 60 true _ A4.out).mono ?_); rintro e w' ⟨rfl, ⟨nd, rfl⟩⟩; (try first | exact ⟨rfl, _, World.drewN_drewN _ _ _⟩ | exact ⟨rfl, _, Eq.trans (World.drewN_drewN _ _ _) (congrArg (World.drewN _) (Nat.add_assoc _ _ _))⟩); have p202 : 0 ≤ (0 : Int) := (by omega); have q202 : 0 < (l0_0.length : Int) := od; obtain ⟨ad202, A202_2, c202_2, e202, hx202_0, hx202_1, hx202_2, hl202_2, hi202_2⟩ := at_T40 HR0_0.out 0 p202 q202; (try rw [← Nbq7.out] at hx202_0); cases e202; have qi202 : (0 < l0_0.length) = True := eq_true (by omega); (try rw [show ((0 : Int)).toNat = 0 from rfl] at hx202_0); (try rw [show 0 * 3 = 0 from rfl] at hx202_0); (try rw [Addr.add_zero'] at hx202_0); (try rw [show ((0 : Int)).toNat = 0 from rfl] at hx202_1); (try rw [show 0 * 3 = 0 from rfl] at hx202_1); (try rw [Addr.add_zero'] at hx202_1); (try rw [show ((0 : Int)).toNat = 0 from rfl] at hx202_2); (try rw [show 0 * 3 = 0 from rfl] at hx202_2); (try rw [Addr.add_zero'] at hx202_2); replace hx202_0 := (HB.out.cell (World.block_lt_of_cell? w _ hx202_0)).trans hx202_0; replace hx202_1 := (HB.out.cell (World.block_lt_of_cell? w _ hx202_1)).trans hx202_1; replace hx202_2 := (HB.out.cell (World.block_lt_of_cell? w _ hx202_2)).trans hx202_2; have HR202_2 := Ah hi202_2; have HC202_2 := Ah hl202_2; clear hi202_2 hl202_2; replace p202 := eq_true p202; replace q202 := eq_true q202; have p203 : 0 ≤ (0 : Int) := (by omega); have q203 : 0 < (l0_0.length : Int) := od; obtain ⟨ad203, A203_2, c203_2, e203, hx203_0, hx203_1, hx203_2, hl203_2, hi203_2⟩ := at_T40 HR0_0.out 0 p203 q203; (try rw [← Nbq7.out] at hx203_0); obtain rfl : ad202 = ad203 := (by injection e203); have qi203 : (0 < l0_0.length) = True := eq_true (by omega); (try rw [show ((0 : Int)).toNat = 0 from rfl] at hx203_0); (try rw [show 0 * 3 = 0 from rfl] at hx203_0); (try rw [Addr.add_zero'] at hx203_0); (try rw [show ((0 : Int)).toNat = 0 from rfl] at hx203_1); (try rw [show 0 * 3 = 0 from rfl] at hx203_1); (try rw [Addr.add_zero'] at hx203_1); (try rw [show ((0 : Int)).toNat = 0 from rfl] at hx203_2); (try rw [show 0 * 3 = 0 from rfl] at hx203_2); (try rw [Addr.add_zero'] at hx203_2); replace hx203_0 := (HB.out.cell (World.block_lt_of_cell? w _ hx203_0)).trans hx203_0; replace hx203_1 := (HB.out.cell (World.block_lt_of_cell? w _ hx203_1)).trans hx203_1; replace hx203_2 := (HB.out.cell (World.block_lt_of_cell? w _ hx203_2)).trans hx203_2; have HR203_2 := Ah hi203_2; have HC203_2 := Ah hl203_2; clear hi203_2 hl203_2; replace p203 := eq_true p203; replace q203 := eq_true q203; have ea_ := Option.some.inj (hx202_2.symm.trans hx203_2); injection ea_ with ea_ en_ ec_; subst ea_; subst ec_; clear en_)); try go_wp2_with (first | (go_at_call 17; (with_reducible refine (impl_within.calls (l0_0.length : Int) 1 60 true _ A4.out).mono ?_); rintro e w' ⟨rfl, ⟨nd, rfl⟩⟩; (try first | exact ⟨rfl, _, World.drewN_drewN _ _ _⟩ | exact ⟨rfl, _, Eq.trans (World.drewN_drewN _ _ _) (congrArg (World.drewN _) (Nat.add_assoc _ _ _))⟩); have p202 : 0 ≤ (0 : Int) := (by omega); have q202 : 0 < (l0_0.length : Int) := od; obtain ⟨ad202, A202_2, c202_2, e202, hx202_0, hx202_1, hx202_2, hl202_2, hi202_2⟩ := at_T40 HR0_0.out 0 p202 q202; (try rw [← Nbq7.out] at hx202_0); cases e202; have qi202 : (0 < l0_0.length) = True := eq_true (by omega); (try rw [show ((0 : Int)).toNat = 0 from rfl] at hx202_0); (try rw [show 0 * 3 = 0 from rfl] at hx202_0); (try rw [Addr.add_zero'] at hx202_0); (try rw [show ((0 : Int)).toNat = 0 from rfl] at hx202_1); (try rw [show 0 * 3 = 0 from rfl] at hx202_1); (try rw [Addr.add_zero'] at hx202_1); (try rw [show ((0 : Int)).toNat = 0 from rfl] at hx202_2); (try rw [show 0 * 3 = 0 from rfl] at hx202_2); (try rw [Addr.add_zero'] at hx202_2); replace hx202_0 := (HB.out.cell (World.block_lt_of_cell? w _ hx202_0)).trans hx202_0; replace hx202_1 := (HB.out.cell (World.block_lt_of_cell? w _ hx202_1)).trans hx202_1; replace hx202_2 := (HB.out.cell (World.block_lt_of_cell? w _ hx202_2)).trans hx202_2; have HR202_2 := Ah hi202_2; have HC202_2 := Ah hl202_2; clear hi202_2 hl202_2; replace p202 := eq_true p202; replace q202 := eq_true q202; have p203 : 0 ≤ (0 : Int) := (by omega); have q203 : 0 < (l0_0.length : Int) := od; obtain ⟨ad203, A203_2, c203_2, e203, hx203_0, hx203_1, hx203_2, hl203_2, hi203_2⟩ := at_T40 HR0_0.out 0 p203 q203; (try rw [← Nbq7.out] at hx203_0); obtain rfl : ad202 = ad203 := (by injection e203); have qi203 : (0 < l0_0.length) = True := eq_true (by omega); (try rw [show ((0 : Int)).toNat = 0 from rfl] at hx203_0); (try rw [show 0 * 3 = 0 from rfl] at hx203_0); (try rw [Addr.add_zero'] at hx203_0); (try rw [show ((0 : Int)).toNat = 0 from rfl] at hx203_1); (try rw [show 0 * 3 = 0 from rfl] at hx203_1); (try rw [Addr.add_zero'] at hx203_1); (try rw [show ((0 : Int)).toNat = 0 from rfl] at hx203_2); (try rw [show 0 * 3 = 0 from rfl] at hx203_2); (try rw [Addr.add_zero'] at hx203_2); replace hx203_0 := (HB.out.cell (World.block_lt_of_cell? w _ hx203_0)).trans hx203_0; replace hx203_1 := (HB.out.cell (World.block_lt_of_cell? w _ hx203_1)).trans hx203_1; replace hx203_2 := (HB.out.cell (World.block_lt_of_cell? w _ hx203_2)).trans hx203_2; have HR203_2 := Ah hi203_2; have HC203_2 := Ah hl203_2; clear hi203_2 hl203_2; replace p203 := eq_true p203; replace q203 := eq_true q203; have ea_ := Option.some.inj (hx202_2.symm.trans hx203_2); injection ea_ with ea_ en_ ec_; subst ea_; subst ec_; clear en_)))
  go_meet
  case rel => exact ⟨_, ((((rd_T40 l0_0 0).f1) != 1)), e3, H', ⟨by first | omega | exact Nat.le_refl _⟩, ⟨bk BK200⟩, ⟨bs1 HB GE200⟩⟩
 case rest =>
  clear HC2
  try clear c2
  try clear p2
  try clear q2
  try clear hx2
  try clear qi2
  try clear c5
  try clear c6
  try clear c6b0
  try clear c6b1
  try clear q7
  try clear c8
  try clear hcz10_0
  try clear hcz11_0
  try clear hcz9_0
  try clear hfz10_0
  try clear hfz11_0
  try clear hfz9_0
  try clear hx202_0
  try clear hx202_1
  try clear hx202_2
  try clear hx203_0
  try clear hx203_1
  try clear hx203_2
  try clear p202
  try clear p203
  try clear q202
  try clear q203
  obtain ⟨kq, x30_1, rfl, HA, HJ1, BK200, HB⟩ := hcut
  cases kq with
  | zero => exact absurd HA.out (by simp [impl_GoodNames.j0])
  | succ kj1 =>
   have H := HA.out
   clear HA
   simp only [impl_GoodNames.j0] at H
   by_cases c12 : x30_1 = true
   ·
    subst c12
    rw [if_pos rfl] at H
    obtain rfl := Option.some.inj H
    go_wp2
    repeat (go_quiet (fail); try go_wp2)
    go_ret
    exact ⟨er, bs1 HB GE200⟩
   replace c12 := Bool.eq_false_iff.mpr c12
   subst c12
   rw [if_neg fne] at H
   have H' := Ah H
   clear H
   have hcz13_0 := cz1 BK200
   have hfz13_0 := fz1 BK200
   go_wp2
   repeat (go_quiet (fail); try go_wp2)
   go_loopg [34] kj1 (fun kq v34 w' => ∃ (x34_2 : Int), v34 = .int .i64 x34_2 ∧ Aside0 (impl_GoodNames.l0 kq l0_0 (l0_0.length : Int) x34_2 l0_0 = some r) ∧ Aside0 (kq ≤ kj1) ∧ Aside0 (w'.heap[gb200]? = some (.cells #[(.slice A0_0 l0_0.length c0_0)] 29 (0, 0))) ∧ Aside0 (Below w.heap.size w w'))
   case atStart => exact ⟨(0), e3, H', ⟨Nat.le_refl _⟩, ⟨bk BK200⟩, ⟨bs1 HB GE200⟩⟩
   case round =>
    clear H'
    try clear c1
    try clear c2
    try clear p2
    try clear q2
    try clear hx2
    try clear qi2
    try clear c5
    try clear c6
    try clear c6b0
    try clear c6b1
    try clear q7
    try clear c8
    try clear c12
    try clear hcz10_0
    try clear hcz11_0
    try clear hcz13_0
    try clear hcz9_0
    try clear hfz10_0
    try clear hfz11_0
    try clear hfz13_0
    try clear hfz9_0
    try clear hx202_0
    try clear hx202_1
    try clear hx202_2
    try clear hx203_0
    try clear hx203_1
    try clear hx203_2
    try clear p2
    try clear p202
    try clear p203
    try clear q2
    try clear q202
    try clear q203
    try clear q7
    obtain ⟨x34_2, rfl, HA, HK2, BK200, HB⟩ := hrel
    cases gk with
    | zero => exact absurd HA.out (by simp [impl_GoodNames.l0])
    | succ k2 =>
     have H := HA.out
     clear HA
     simp only [impl_GoodNames.l0] at H
     by_cases c14 : x34_2 < (l0_0.length : Int)
     ·
      rw [if_pos c14] at H
      have c14b0 : decide (x34_2 < (l0_0.length : Int)) = true := decide_eq_true c14
      clear c14
      by_cases c15 : 0 ≤ x34_2
      rotate_left
      ·
       rw [if_neg c15] at H
       exact absurd H (by simp)
      rw [if_pos c15] at H
      have c15b0 : decide (0 ≤ x34_2) = true := decide_eq_true c15
      clear c15
      by_cases c16 : x34_2 < (l0_0.length : Int)
      rotate_left
      ·
       rw [if_neg c16] at H
       exact absurd H (by simp)
      rw [if_pos c16] at H
      have c16b0 : decide (x34_2 < (l0_0.length : Int)) = true := decide_eq_true c16
      clear c16
      replace H := Option.bind_eq_some_iff.mp H
      obtain ⟨t206, A170, H⟩ := H
      try dsimp only at H
      have A17 := Ah A170
      clear A170
      by_cases c18 : t206 = true
      rotate_left
      ·
       replace c18 := Bool.eq_false_iff.mpr c18
       subst c18
       rw [if_neg fne] at H
       obtain rfl := Option.some.inj H
       have p204 : 0 ≤ (x34_2 : Int) := od
       have q204 : x34_2 < (l0_0.length : Int) := od
       obtain ⟨ad204, A204_2, c204_2, e204, hx204_0, hx204_1, hx204_2, hl204_2, hi204_2⟩ := at_T40 HR0_0.out x34_2 p204 q204
       cases e204
       replace hx204_0 := (HB.out.cell (World.block_lt_of_cell? w _ hx204_0)).trans hx204_0
       replace hx204_1 := (HB.out.cell (World.block_lt_of_cell? w _ hx204_1)).trans hx204_1
       replace hx204_2 := (HB.out.cell (World.block_lt_of_cell? w _ hx204_2)).trans hx204_2
       have HR204_2 := Ah hi204_2
       have HC204_2 := Ah hl204_2
       clear hi204_2 hl204_2
       replace p204 := eq_true p204
       replace q204 := eq_true q204
       go_wp2_with (first | ((with_reducible refine gate_dst (N := 4) rfl ?_); (try (refine gate_guard (by rfl) ?_; dsimp only)); refine boxL 4 40 #[.bool false, .int .i64 0, .slice none 0 0] ?_; intro gb205 hg w37 BK205 hb; have GW205 := gw hg (bs1 HB GE200); have GE205 := gw hg (bs1 HB GE200); replace HB := Ah (below_step (bs1 HB GE200) hb); have NB200_205 := nn BK200 hg; have NB205_200 := nm BK200 hg; replace BK200 := nb BK200 hb; clear hb hg; have hnb38 := NB205_200.out; have hnc38 := NB200_205.out; obtain ⟨hcz39_0, hcz39_1, hcz39_2⟩ := cz3 BK205; obtain ⟨hfz39_0, hfz39_1, hfz39_2⟩ := fz3 BK205) | (go_at_call 18; (with_reducible refine (impl_areNames.calls k2 _ _ ((rd_T40 l0_0 x34_2).f2) false _ ?side1 ?side2 A17.out).mono ?_); (case side1 => exact Kd.C_below HR204_2.out (bs2 HB GE200 GE205)); (case side2 => exact HC204_2.out); rintro e w40 ⟨rfl, hb⟩; replace BK200 := Ah (blk_below (bf BK200 NB200_205) hb); replace BK205 := Ah (blk_below (g := gb205) (o := .cells #[.bool ((rd_T40 l0_0 x34_2).f0), .int .i64 ((rd_T40 l0_0 x34_2).f1), .slice A204_2 ((rd_T40 l0_0 x34_2).f2).length c204_2] 40 (0, 0)) (by (with_reducible repeat (first | refine blk_drewN ?_ _ | refine blk_drew ?_ | refine blk_alloc ?_ _)); refine blk_put (cs := #[.bool ((rd_T40 l0_0 x34_2).f0), .int .i64 ((rd_T40 l0_0 x34_2).f1), .slice none 0 0]) ?_ 2 _ rfl; (with_reducible repeat (first | refine blk_drewN ?_ _ | refine blk_drew ?_ | refine blk_alloc ?_ _)); refine blk_put (cs := #[.bool ((rd_T40 l0_0 x34_2).f0), .int .i64 0, .slice none 0 0]) ?_ 1 _ rfl; (with_reducible repeat (first | refine blk_drewN ?_ _ | refine blk_drew ?_ | refine blk_alloc ?_ _)); refine blk_put (cs := #[.bool false, .int .i64 0, .slice none 0 0]) ?_ 0 _ rfl; (with_reducible repeat (first | refine blk_drewN ?_ _ | refine blk_drew ?_ | refine blk_alloc ?_ _)); exact BK205.out) hb); replace HB := Ah (below_step (bs2 HB GE200 GE205) hb); (try clear hb)))
       repeat (go_quiet (first | ((with_reducible refine gate_dst (N := 4) rfl ?_); (try (refine gate_guard (by rfl) ?_; dsimp only)); refine boxL 4 40 #[.bool false, .int .i64 0, .slice none 0 0] ?_; intro gb205 hg w37 BK205 hb; have GW205 := gw hg (bs1 HB GE200); have GE205 := gw hg (bs1 HB GE200); replace HB := Ah (below_step (bs1 HB GE200) hb); have NB200_205 := nn BK200 hg; have NB205_200 := nm BK200 hg; replace BK200 := nb BK200 hb; clear hb hg; have hnb38 := NB205_200.out; have hnc38 := NB200_205.out; obtain ⟨hcz39_0, hcz39_1, hcz39_2⟩ := cz3 BK205; obtain ⟨hfz39_0, hfz39_1, hfz39_2⟩ := fz3 BK205) | (go_at_call 18; (with_reducible refine (impl_areNames.calls k2 _ _ ((rd_T40 l0_0 x34_2).f2) false _ ?side1 ?side2 A17.out).mono ?_); (case side1 => exact Kd.C_below HR204_2.out (bs2 HB GE200 GE205)); (case side2 => exact HC204_2.out); rintro e w40 ⟨rfl, hb⟩; replace BK200 := Ah (blk_below (bf BK200 NB200_205) hb); replace BK205 := Ah (blk_below (g := gb205) (o := .cells #[.bool ((rd_T40 l0_0 x34_2).f0), .int .i64 ((rd_T40 l0_0 x34_2).f1), .slice A204_2 ((rd_T40 l0_0 x34_2).f2).length c204_2] 40 (0, 0)) (by (with_reducible repeat (first | refine blk_drewN ?_ _ | refine blk_drew ?_ | refine blk_alloc ?_ _)); refine blk_put (cs := #[.bool ((rd_T40 l0_0 x34_2).f0), .int .i64 ((rd_T40 l0_0 x34_2).f1), .slice none 0 0]) ?_ 2 _ rfl; (with_reducible repeat (first | refine blk_drewN ?_ _ | refine blk_drew ?_ | refine blk_alloc ?_ _)); refine blk_put (cs := #[.bool ((rd_T40 l0_0 x34_2).f0), .int .i64 0, .slice none 0 0]) ?_ 1 _ rfl; (with_reducible repeat (first | refine blk_drewN ?_ _ | refine blk_drew ?_ | refine blk_alloc ?_ _)); refine blk_put (cs := #[.bool false, .int .i64 0, .slice none 0 0]) ?_ 0 _ rfl; (with_reducible repeat (first | refine blk_drewN ?_ _ | refine blk_drew ?_ | refine blk_alloc ?_ _)); exact BK205.out) hb); replace HB := Ah (below_step (bs2 HB GE200 GE205) hb); (try clear hb))); try go_wp2_with (first | ((with_reducible refine gate_dst (N := 4) rfl ?_); (try (refine gate_guard (by rfl) ?_; dsimp only)); refine boxL 4 40 #[.bool false, .int .i64 0, .slice none 0 0] ?_; intro gb205 hg w37 BK205 hb; have GW205 := gw hg (bs1 HB GE200); have GE205 := gw hg (bs1 HB GE200); replace HB := Ah (below_step (bs1 HB GE200) hb); have NB200_205 := nn BK200 hg; have NB205_200 := nm BK200 hg; replace BK200 := nb BK200 hb; clear hb hg; have hnb38 := NB205_200.out; have hnc38 := NB200_205.out; obtain ⟨hcz39_0, hcz39_1, hcz39_2⟩ := cz3 BK205; obtain ⟨hfz39_0, hfz39_1, hfz39_2⟩ := fz3 BK205) | (go_at_call 18; (with_reducible refine (impl_areNames.calls k2 _ _ ((rd_T40 l0_0 x34_2).f2) false _ ?side1 ?side2 A17.out).mono ?_); (case side1 => exact Kd.C_below HR204_2.out (bs2 HB GE200 GE205)); (case side2 => exact HC204_2.out); rintro e w40 ⟨rfl, hb⟩; replace BK200 := Ah (blk_below (bf BK200 NB200_205) hb); replace BK205 := Ah (blk_below (g := gb205) (o := .cells #[.bool ((rd_T40 l0_0 x34_2).f0), .int .i64 ((rd_T40 l0_0 x34_2).f1), .slice A204_2 ((rd_T40 l0_0 x34_2).f2).length c204_2] 40 (0, 0)) (by (with_reducible repeat (first | refine blk_drewN ?_ _ | refine blk_drew ?_ | refine blk_alloc ?_ _)); refine blk_put (cs := #[.bool ((rd_T40 l0_0 x34_2).f0), .int .i64 ((rd_T40 l0_0 x34_2).f1), .slice none 0 0]) ?_ 2 _ rfl; (with_reducible repeat (first | refine blk_drewN ?_ _ | refine blk_drew ?_ | refine blk_alloc ?_ _)); refine blk_put (cs := #[.bool ((rd_T40 l0_0 x34_2).f0), .int .i64 0, .slice none 0 0]) ?_ 1 _ rfl; (with_reducible repeat (first | refine blk_drewN ?_ _ | refine blk_drew ?_ | refine blk_alloc ?_ _)); refine blk_put (cs := #[.bool false, .int .i64 0, .slice none 0 0]) ?_ 0 _ rfl; (with_reducible repeat (first | refine blk_drewN ?_ _ | refine blk_drew ?_ | refine blk_alloc ?_ _)); exact BK205.out) hb); replace HB := Ah (below_step (bs2 HB GE200 GE205) hb); (try clear hb))))
       go_ret
       exact ⟨er, bs2 HB GE200 GE205⟩
      subst c18
      rw [if_pos rfl] at H
      obtain ⟨bq19, hbq19⟩ : ∃ b_ : Bool, b_ = ((rd_T40 l0_0 x34_2).f0) := ⟨_, rfl⟩
      replace H : (if (bq19 = true) then (impl_GoodNames.l0 k2 l0_0 (l0_0.length : Int) (wrap64 (x34_2 + 1)) l0_0) else (if (((rd_T40 l0_0 x34_2).f2).length : Int) > 0 then (some false) else (impl_GoodNames.l0 k2 l0_0 (l0_0.length : Int) (wrap64 (x34_2 + 1)) l0_0))) = some r := by rw [← hbq19] at H; exact H
      have Nbq19 := Ah hbq19
      clear hbq19
      by_cases c20 : (bq19 = true)
      ·
       subst c20
       rw [if_pos rfl] at H
       have H' := Ah H
       clear H
       have p204 : 0 ≤ (x34_2 : Int) := od
       have q204 : x34_2 < (l0_0.length : Int) := od
       obtain ⟨ad204, A204_2, c204_2, e204, hx204_0, hx204_1, hx204_2, hl204_2, hi204_2⟩ := at_T40 HR0_0.out x34_2 p204 q204
       (try rw [← Nbq19.out] at hx204_0)
       cases e204
       replace hx204_0 := (HB.out.cell (World.block_lt_of_cell? w _ hx204_0)).trans hx204_0
       replace hx204_1 := (HB.out.cell (World.block_lt_of_cell? w _ hx204_1)).trans hx204_1
       replace hx204_2 := (HB.out.cell (World.block_lt_of_cell? w _ hx204_2)).trans hx204_2
       have HR204_2 := Ah hi204_2
       have HC204_2 := Ah hl204_2
       clear hi204_2 hl204_2
       replace p204 := eq_true p204
       replace q204 := eq_true q204
       go_wp2_with (first | ((with_reducible refine gate_dst (N := 4) rfl ?_); (try (refine gate_guard (by rfl) ?_; dsimp only)); refine boxL 4 40 #[.bool false, .int .i64 0, .slice none 0 0] ?_; intro gb205 hg w21 BK205 hb; have GW205 := gw hg (bs1 HB GE200); have GE205 := gw hg (bs1 HB GE200); replace HB := Ah (below_step (bs1 HB GE200) hb); have NB200_205 := nn BK200 hg; have NB205_200 := nm BK200 hg; replace BK200 := nb BK200 hb; clear hb hg; have hnb22 := NB205_200.out; have hnc22 := NB200_205.out; obtain ⟨hcz23_0, hcz23_1, hcz23_2⟩ := cz3 BK205; obtain ⟨hfz23_0, hfz23_1, hfz23_2⟩ := fz3 BK205) | (go_at_call 18; (with_reducible refine (impl_areNames.calls k2 _ _ ((rd_T40 l0_0 x34_2).f2) true _ ?side1 ?side2 A17.out).mono ?_); (case side1 => exact Kd.C_below HR204_2.out (bs2 HB GE200 GE205)); (case side2 => exact HC204_2.out); rintro e w24 ⟨rfl, hb⟩; replace BK200 := Ah (blk_below (bf BK200 NB200_205) hb); replace BK205 := Ah (blk_below (g := gb205) (o := .cells #[.bool true, .int .i64 ((rd_T40 l0_0 x34_2).f1), .slice A204_2 ((rd_T40 l0_0 x34_2).f2).length c204_2] 40 (0, 0)) (by (with_reducible repeat (first | refine blk_drewN ?_ _ | refine blk_drew ?_ | refine blk_alloc ?_ _)); refine blk_put (cs := #[.bool true, .int .i64 ((rd_T40 l0_0 x34_2).f1), .slice none 0 0]) ?_ 2 _ rfl; (with_reducible repeat (first | refine blk_drewN ?_ _ | refine blk_drew ?_ | refine blk_alloc ?_ _)); refine blk_put (cs := #[.bool true, .int .i64 0, .slice none 0 0]) ?_ 1 _ rfl; (with_reducible repeat (first | refine blk_drewN ?_ _ | refine blk_drew ?_ | refine blk_alloc ?_ _)); refine blk_put (cs := #[.bool false, .int .i64 0, .slice none 0 0]) ?_ 0 _ rfl; (with_reducible repeat (first | refine blk_drewN ?_ _ | refine blk_drew ?_ | refine blk_alloc ?_ _)); exact BK205.out) hb); replace HB := Ah (below_step (bs2 HB GE200 GE205) hb); (try clear hb); obtain ⟨hcz25_0, hcz25_1, hcz25_2⟩ := cz3 BK205; obtain ⟨hfz25_0, hfz25_1, hfz25_2⟩ := fz3 BK205))
       repeat (go_quiet (first | ((with_reducible refine gate_dst (N := 4) rfl ?_); (try (refine gate_guard (by rfl) ?_; dsimp only)); refine boxL 4 40 #[.bool false, .int .i64 0, .slice none 0 0] ?_; intro gb205 hg w21 BK205 hb; have GW205 := gw hg (bs1 HB GE200); have GE205 := gw hg (bs1 HB GE200); replace HB := Ah (below_step (bs1 HB GE200) hb); have NB200_205 := nn BK200 hg; have NB205_200 := nm BK200 hg; replace BK200 := nb BK200 hb; clear hb hg; have hnb22 := NB205_200.out; have hnc22 := NB200_205.out; obtain ⟨hcz23_0, hcz23_1, hcz23_2⟩ := cz3 BK205; obtain ⟨hfz23_0, hfz23_1, hfz23_2⟩ := fz3 BK205) | (go_at_call 18; (with_reducible refine (impl_areNames.calls k2 _ _ ((rd_T40 l0_0 x34_2).f2) true _ ?side1 ?side2 A17.out).mono ?_); (case side1 => exact Kd.C_below HR204_2.out (bs2 HB GE200 GE205)); (case side2 => exact HC204_2.out); rintro e w24 ⟨rfl, hb⟩; replace BK200 := Ah (blk_below (bf BK200 NB200_205) hb); replace BK205 := Ah (blk_below (g := gb205) (o := .cells #[.bool true, .int .i64 ((rd_T40 l0_0 x34_2).f1), .slice A204_2 ((rd_T40 l0_0 x34_2).f2).length c204_2] 40 (0, 0)) (by (with_reducible repeat (first | refine blk_drewN ?_ _ | refine blk_drew ?_ | refine blk_alloc ?_ _)); refine blk_put (cs := #[.bool true, .int .i64 ((rd_T40 l0_0 x34_2).f1), .slice none 0 0]) ?_ 2 _ rfl; (with_reducible repeat (first | refine blk_drewN ?_ _ | refine blk_drew ?_ | refine blk_alloc ?_ _)); refine blk_put (cs := #[.bool true, .int .i64 0, .slice none 0 0]) ?_ 1 _ rfl; (with_reducible repeat (first | refine blk_drewN ?_ _ | refine blk_drew ?_ | refine blk_alloc ?_ _)); refine blk_put (cs := #[.bool false, .int .i64 0, .slice none 0 0]) ?_ 0 _ rfl; (with_reducible repeat (first | refine blk_drewN ?_ _ | refine blk_drew ?_ | refine blk_alloc ?_ _)); exact BK205.out) hb); replace HB := Ah (below_step (bs2 HB GE200 GE205) hb); (try clear hb); obtain ⟨hcz25_0, hcz25_1, hcz25_2⟩ := cz3 BK205; obtain ⟨hfz25_0, hfz25_1, hfz25_2⟩ := fz3 BK205)); try go_wp2_with (first | ((with_reducible refine gate_dst (N := 4) rfl ?_); (try (refine gate_guard (by rfl) ?_; dsimp only)); refine boxL 4 40 #[.bool false, .int .i64 0, .slice none 0 0] ?_; intro gb205 hg w21 BK205 hb; have GW205 := gw hg (bs1 HB GE200); have GE205 := gw hg (bs1 HB GE200); replace HB := Ah (below_step (bs1 HB GE200) hb); have NB200_205 := nn BK200 hg; have NB205_200 := nm BK200 hg; replace BK200 := nb BK200 hb; clear hb hg; have hnb22 := NB205_200.out; have hnc22 := NB200_205.out; obtain ⟨hcz23_0, hcz23_1, hcz23_2⟩ := cz3 BK205; obtain ⟨hfz23_0, hfz23_1, hfz23_2⟩ := fz3 BK205) | (go_at_call 18; (with_reducible refine (impl_areNames.calls k2 _ _ ((rd_T40 l0_0 x34_2).f2) true _ ?side1 ?side2 A17.out).mono ?_); (case side1 => exact Kd.C_below HR204_2.out (bs2 HB GE200 GE205)); (case side2 => exact HC204_2.out); rintro e w24 ⟨rfl, hb⟩; replace BK200 := Ah (blk_below (bf BK200 NB200_205) hb); replace BK205 := Ah (blk_below (g := gb205) (o := .cells #[.bool true, .int .i64 ((rd_T40 l0_0 x34_2).f1), .slice A204_2 ((rd_T40 l0_0 x34_2).f2).length c204_2] 40 (0, 0)) (by (with_reducible repeat (first | refine blk_drewN ?_ _ | refine blk_drew ?_ | refine blk_alloc ?_ _)); refine blk_put (cs := #[.bool true, .int .i64 ((rd_T40 l0_0 x34_2).f1), .slice none 0 0]) ?_ 2 _ rfl; (with_reducible repeat (first | refine blk_drewN ?_ _ | refine blk_drew ?_ | refine blk_alloc ?_ _)); refine blk_put (cs := #[.bool true, .int .i64 0, .slice none 0 0]) ?_ 1 _ rfl; (with_reducible repeat (first | refine blk_drewN ?_ _ | refine blk_drew ?_ | refine blk_alloc ?_ _)); refine blk_put (cs := #[.bool false, .int .i64 0, .slice none 0 0]) ?_ 0 _ rfl; (with_reducible repeat (first | refine blk_drewN ?_ _ | refine blk_drew ?_ | refine blk_alloc ?_ _)); exact BK205.out) hb); replace HB := Ah (below_step (bs2 HB GE200 GE205) hb); (try clear hb); obtain ⟨hcz25_0, hcz25_1, hcz25_2⟩ := cz3 BK205; obtain ⟨hfz25_0, hfz25_1, hfz25_2⟩ := fz3 BK205)))
       go_roundg k2
       case measure => have := HJ1.out; have := HK2.out; omega
       case rel => exact ⟨(wrap64 (x34_2 + 1)), e3, H', ⟨by have := HJ1.out; have := HK2.out; omega⟩, ⟨bk BK200⟩, ⟨bs2 HB GE200 GE205⟩⟩
      replace c20 := Bool.eq_false_iff.mpr c20
      subst c20
      rw [if_neg fne] at H
      by_cases c26 : (((rd_T40 l0_0 x34_2).f2).length : Int) > 0
      ·
       rw [if_pos c26] at H
       have c26b0 : decide (0 < (((rd_T40 l0_0 x34_2).f2).length : Int)) = true := decide_eq_true c26
       have c26b1 : decide (0 < ((rd_T40 l0_0 x34_2).f2).length) = true := decide_eq_true (by omega)
       clear c26
       obtain rfl := Option.some.inj H
       have p204 : 0 ≤ (x34_2 : Int) := od
       have q204 : x34_2 < (l0_0.length : Int) := od
       obtain ⟨ad204, A204_2, c204_2, e204, hx204_0, hx204_1, hx204_2, hl204_2, hi204_2⟩ := at_T40 HR0_0.out x34_2 p204 q204
       (try rw [← Nbq19.out] at hx204_0)
       cases e204
       replace hx204_0 := (HB.out.cell (World.block_lt_of_cell? w _ hx204_0)).trans hx204_0
       replace hx204_1 := (HB.out.cell (World.block_lt_of_cell? w _ hx204_1)).trans hx204_1
       replace hx204_2 := (HB.out.cell (World.block_lt_of_cell? w _ hx204_2)).trans hx204_2
       have HR204_2 := Ah hi204_2
       have HC204_2 := Ah hl204_2
       clear hi204_2 hl204_2
       replace p204 := eq_true p204
       replace q204 := eq_true q204
       go_wp2_with (first | ((with_reducible refine gate_dst (N := 4) rfl ?_); (try (refine gate_guard (by rfl) ?_; dsimp only)); refine boxL 4 40 #[.bool false, .int .i64 0, .slice none 0 0] ?_; intro gb205 hg w27 BK205 hb; have GW205 := gw hg (bs1 HB GE200); have GE205 := gw hg (bs1 HB GE200); replace HB := Ah (below_step (bs1 HB GE200) hb); have NB200_205 := nn BK200 hg; have NB205_200 := nm BK200 hg; replace BK200 := nb BK200 hb; clear hb hg; have hnb28 := NB205_200.out; have hnc28 := NB200_205.out; obtain ⟨hcz29_0, hcz29_1, hcz29_2⟩ := cz3 BK205; obtain ⟨hfz29_0, hfz29_1, hfz29_2⟩ := fz3 BK205) | (go_at_call 18; (with_reducible refine (impl_areNames.calls k2 _ _ ((rd_T40 l0_0 x34_2).f2) true _ ?side1 ?side2 A17.out).mono ?_); (case side1 => exact Kd.C_below HR204_2.out (bs2 HB GE200 GE205)); (case side2 => exact HC204_2.out); rintro e w30 ⟨rfl, hb⟩; replace BK200 := Ah (blk_below (bf BK200 NB200_205) hb); replace BK205 := Ah (blk_below (g := gb205) (o := .cells #[.bool false, .int .i64 ((rd_T40 l0_0 x34_2).f1), .slice A204_2 ((rd_T40 l0_0 x34_2).f2).length c204_2] 40 (0, 0)) (by (with_reducible repeat (first | refine blk_drewN ?_ _ | refine blk_drew ?_ | refine blk_alloc ?_ _)); refine blk_put (cs := #[.bool false, .int .i64 ((rd_T40 l0_0 x34_2).f1), .slice none 0 0]) ?_ 2 _ rfl; (with_reducible repeat (first | refine blk_drewN ?_ _ | refine blk_drew ?_ | refine blk_alloc ?_ _)); refine blk_put (cs := #[.bool false, .int .i64 0, .slice none 0 0]) ?_ 1 _ rfl; (with_reducible repeat (first | refine blk_drewN ?_ _ | refine blk_drew ?_ | refine blk_alloc ?_ _)); refine blk_put (cs := #[.bool false, .int .i64 0, .slice none 0 0]) ?_ 0 _ rfl; (with_reducible repeat (first | refine blk_drewN ?_ _ | refine blk_drew ?_ | refine blk_alloc ?_ _)); exact BK205.out) hb); replace HB := Ah (below_step (bs2 HB GE200 GE205) hb); (try clear hb); obtain ⟨hcz31_0, hcz31_1, hcz31_2⟩ := cz3 BK205; obtain ⟨hfz31_0, hfz31_1, hfz31_2⟩ := fz3 BK205))
       repeat (go_quiet (first | ((with_reducible refine gate_dst (N := 4) rfl ?_); (try (refine gate_guard (by rfl) ?_; dsimp only)); refine boxL 4 40 #[.bool false, .int .i64 0, .slice none 0 0] ?_; intro gb205 hg w27 BK205 hb; have GW205 := gw hg (bs1 HB GE200); have GE205 := gw hg (bs1 HB GE200); replace HB := Ah (below_step (bs1 HB GE200) hb); have NB200_205 := nn BK200 hg; have NB205_200 := nm BK200 hg; replace BK200 := nb BK200 hb; clear hb hg; have hnb28 := NB205_200.out; have hnc28 := NB200_205.out; obtain ⟨hcz29_0, hcz29_1, hcz29_2⟩ := cz3 BK205; obtain ⟨hfz29_0, hfz29_1, hfz29_2⟩ := fz3 BK205) | (go_at_call 18; (with_reducible refine (impl_areNames.calls k2 _ _ ((rd_T40 l0_0 x34_2).f2) true _ ?side1 ?side2 A17.out).mono ?_); (case side1 => exact Kd.C_below HR204_2.out (bs2 HB GE200 GE205)); (case side2 => exact HC204_2.out); rintro e w30 ⟨rfl, hb⟩; replace BK200 := Ah (blk_below (bf BK200 NB200_205) hb); replace BK205 := Ah (blk_below (g := gb205) (o := .cells #[.bool false, .int .i64 ((rd_T40 l0_0 x34_2).f1), .slice A204_2 ((rd_T40 l0_0 x34_2).f2).length c204_2] 40 (0, 0)) (by (with_reducible repeat (first | refine blk_drewN ?_ _ | refine blk_drew ?_ | refine blk_alloc ?_ _)); refine blk_put (cs := #[.bool false, .int .i64 ((rd_T40 l0_0 x34_2).f1), .slice none 0 0]) ?_ 2 _ rfl; (with_reducible repeat (first | refine blk_drewN ?_ _ | refine blk_drew ?_ | refine blk_alloc ?_ _)); refine blk_put (cs := #[.bool false, .int .i64 0, .slice none 0 0]) ?_ 1 _ rfl; (with_reducible repeat (first | refine blk_drewN ?_ _ | refine blk_drew ?_ | refine blk_alloc ?_ _)); refine blk_put (cs := #[.bool false, .int .i64 0, .slice none 0 0]) ?_ 0 _ rfl; (with_reducible repeat (first | refine blk_drewN ?_ _ | refine blk_drew ?_ | refine blk_alloc ?_ _)); exact BK205.out) hb); replace HB := Ah (below_step (bs2 HB GE200 GE205) hb); (try clear hb); obtain ⟨hcz31_0, hcz31_1, hcz31_2⟩ := cz3 BK205; obtain ⟨hfz31_0, hfz31_1, hfz31_2⟩ := fz3 BK205)); try go_wp2_with (first | ((with_reducible refine gate_dst (N := 4) rfl ?_); (try (refine gate_guard (by rfl) ?_; dsimp only)); refine boxL 4 40 #[.bool false, .int .i64 0, .slice none 0 0] ?_; intro gb205 hg w27 BK205 hb; have GW205 := gw hg (bs1 HB GE200); have GE205 := gw hg (bs1 HB GE200); replace HB := Ah (below_step (bs1 HB GE200) hb); have NB200_205 := nn BK200 hg; have NB205_200 := nm BK200 hg; replace BK200 := nb BK200 hb; clear hb hg; have hnb28 := NB205_200.out; have hnc28 := NB200_205.out; obtain ⟨hcz29_0, hcz29_1, hcz29_2⟩ := cz3 BK205; obtain ⟨hfz29_0, hfz29_1, hfz29_2⟩ := fz3 BK205) | (go_at_call 18; (with_reducible refine (impl_areNames.calls k2 _ _ ((rd_T40 l0_0 x34_2).f2) true _ ?side1 ?side2 A17.out).mono ?_); (case side1 => exact Kd.C_below HR204_2.out (bs2 HB GE200 GE205)); (case side2 => exact HC204_2.out); rintro e w30 ⟨rfl, hb⟩; replace BK200 := Ah (blk_below (bf BK200 NB200_205) hb); replace BK205 := Ah (blk_below (g := gb205) (o := .cells #[.bool false, .int .i64 ((rd_T40 l0_0 x34_2).f1), .slice A204_2 ((rd_T40 l0_0 x34_2).f2).length c204_2] 40 (0, 0)) (by (with_reducible repeat (first | refine blk_drewN ?_ _ | refine blk_drew ?_ | refine blk_alloc ?_ _)); refine blk_put (cs := #[.bool false, .int .i64 ((rd_T40 l0_0 x34_2).f1), .slice none 0 0]) ?_ 2 _ rfl; (with_reducible repeat (first | refine blk_drewN ?_ _ | refine blk_drew ?_ | refine blk_alloc ?_ _)); refine blk_put (cs := #[.bool false, .int .i64 0, .slice none 0 0]) ?_ 1 _ rfl; (with_reducible repeat (first | refine blk_drewN ?_ _ | refine blk_drew ?_ | refine blk_alloc ?_ _)); refine blk_put (cs := #[.bool false, .int .i64 0, .slice none 0 0]) ?_ 0 _ rfl; (with_reducible repeat (first | refine blk_drewN ?_ _ | refine blk_drew ?_ | refine blk_alloc ?_ _)); exact BK205.out) hb); replace HB := Ah (below_step (bs2 HB GE200 GE205) hb); (try clear hb); obtain ⟨hcz31_0, hcz31_1, hcz31_2⟩ := cz3 BK205; obtain ⟨hfz31_0, hfz31_1, hfz31_2⟩ := fz3 BK205)))
       go_ret
       exact ⟨er, bs2 HB GE200 GE205⟩
      rw [if_neg c26] at H
      have c26b0 : decide (0 < (((rd_T40 l0_0 x34_2).f2).length : Int)) = false := decide_eq_false c26
      have c26b1 : decide (0 < ((rd_T40 l0_0 x34_2).f2).length) = false := decide_eq_false (by omega)
      clear c26
      have H' := Ah H
      clear H
      have p204 : 0 ≤ (x34_2 : Int) := od
      have q204 : x34_2 < (l0_0.length : Int) := od
      obtain ⟨ad204, A204_2, c204_2, e204, hx204_0, hx204_1, hx204_2, hl204_2, hi204_2⟩ := at_T40 HR0_0.out x34_2 p204 q204
      (try rw [← Nbq19.out] at hx204_0)
      cases e204
      replace hx204_0 := (HB.out.cell (World.block_lt_of_cell? w _ hx204_0)).trans hx204_0
      replace hx204_1 := (HB.out.cell (World.block_lt_of_cell? w _ hx204_1)).trans hx204_1
      replace hx204_2 := (HB.out.cell (World.block_lt_of_cell? w _ hx204_2)).trans hx204_2
      have HR204_2 := Ah hi204_2
      have HC204_2 := Ah hl204_2
      clear hi204_2 hl204_2
      replace p204 := eq_true p204
      replace q204 := eq_true q204
      go_wp2_with (first | ((with_reducible refine gate_dst (N := 4) rfl ?_); (try (refine gate_guard (by rfl) ?_; dsimp only)); refine boxL 4 40 #[.bool false, .int .i64 0, .slice none 0 0] ?_; intro gb205 hg w32 BK205 hb; have GW205 := gw hg (bs1 HB GE200); have GE205 := gw hg (bs1 HB GE200); replace HB := Ah (below_step (bs1 HB GE200) hb); have NB200_205 := nn BK200 hg; have NB205_200 := nm BK200 hg; replace BK200 := nb BK200 hb; clear hb hg; have hnb33 := NB205_200.out; have hnc33 := NB200_205.out; obtain ⟨hcz34_0, hcz34_1, hcz34_2⟩ := cz3 BK205; obtain ⟨hfz34_0, hfz34_1, hfz34_2⟩ := fz3 BK205) | (go_at_call 18; (with_reducible refine (impl_areNames.calls k2 _ _ ((rd_T40 l0_0 x34_2).f2) true _ ?side1 ?side2 A17.out).mono ?_); (case side1 => exact Kd.C_below HR204_2.out (bs2 HB GE200 GE205)); (case side2 => exact HC204_2.out); rintro e w35 ⟨rfl, hb⟩; replace BK200 := Ah (blk_below (bf BK200 NB200_205) hb); replace BK205 := Ah (blk_below (g := gb205) (o := .cells #[.bool false, .int .i64 ((rd_T40 l0_0 x34_2).f1), .slice A204_2 ((rd_T40 l0_0 x34_2).f2).length c204_2] 40 (0, 0)) (by (with_reducible repeat (first | refine blk_drewN ?_ _ | refine blk_drew ?_ | refine blk_alloc ?_ _)); refine blk_put (cs := #[.bool false, .int .i64 ((rd_T40 l0_0 x34_2).f1), .slice none 0 0]) ?_ 2 _ rfl; (with_reducible repeat (first | refine blk_drewN ?_ _ | refine blk_drew ?_ | refine blk_alloc ?_ _)); refine blk_put (cs := #[.bool false, .int .i64 0, .slice none 0 0]) ?_ 1 _ rfl; (with_reducible repeat (first | refine blk_drewN ?_ _ | refine blk_drew ?_ | refine blk_alloc ?_ _)); refine blk_put (cs := #[.bool false, .int .i64 0, .slice none 0 0]) ?_ 0 _ rfl; (with_reducible repeat (first | refine blk_drewN ?_ _ | refine blk_drew ?_ | refine blk_alloc ?_ _)); exact BK205.out) hb); replace HB := Ah (below_step (bs2 HB GE200 GE205) hb); (try clear hb); obtain ⟨hcz36_0, hcz36_1, hcz36_2⟩ := cz3 BK205; obtain ⟨hfz36_0, hfz36_1, hfz36_2⟩ := fz3 BK205))
      repeat (go_quiet (first | ((with_reducible refine gate_dst (N := 4) rfl ?_); (try (refine gate_guard (by rfl) ?_; dsimp only)); refine boxL 4 40 #[.bool false, .int .i64 0, .slice none 0 0] ?_; intro gb205 hg w32 BK205 hb; have GW205 := gw hg (bs1 HB GE200); have GE205 := gw hg (bs1 HB GE200); replace HB := Ah (below_step (bs1 HB GE200) hb); have NB200_205 := nn BK200 hg; have NB205_200 := nm BK200 hg; replace BK200 := nb BK200 hb; clear hb hg; have hnb33 := NB205_200.out; have hnc33 := NB200_205.out; obtain ⟨hcz34_0, hcz34_1, hcz34_2⟩ := cz3 BK205; obtain ⟨hfz34_0, hfz34_1, hfz34_2⟩ := fz3 BK205) | (go_at_call 18; (with_reducible refine (impl_areNames.calls k2 _ _ ((rd_T40 l0_0 x34_2).f2) true _ ?side1 ?side2 A17.out).mono ?_); (case side1 => exact Kd.C_below HR204_2.out (bs2 HB GE200 GE205)); (case side2 => exact HC204_2.out); rintro e w35 ⟨rfl, hb⟩; replace BK200 := Ah (blk_below (bf BK200 NB200_205) hb); replace BK205 := Ah (blk_below (g := gb205) (o := .cells #[.bool false, .int .i64 ((rd_T40 l0_0 x34_2).f1), .slice A204_2 ((rd_T40 l0_0 x34_2).f2).length c204_2] 40 (0, 0)) (by (with_reducible repeat (first | refine blk_drewN ?_ _ | refine blk_drew ?_ | refine blk_alloc ?_ _)); refine blk_put (cs := #[.bool false, .int .i64 ((rd_T40 l0_0 x34_2).f1), .slice none 0 0]) ?_ 2 _ rfl; (with_reducible repeat (first | refine blk_drewN ?_ _ | refine blk_drew ?_ | refine blk_alloc ?_ _)); refine blk_put (cs := #[.bool false, .int .i64 0, .slice none 0 0]) ?_ 1 _ rfl; (with_reducible repeat (first | refine blk_drewN ?_ _ | refine blk_drew ?_ | refine blk_alloc ?_ _)); refine blk_put (cs := #[.bool false, .int .i64 0, .slice none 0 0]) ?_ 0 _ rfl; (with_reducible repeat (first | refine blk_drewN ?_ _ | refine blk_drew ?_ | refine blk_alloc ?_ _)); exact BK205.out) hb); replace HB := Ah (below_step (bs2 HB GE200 GE205) hb); (try clear hb); obtain ⟨hcz36_0, hcz36_1, hcz36_2⟩ := cz3 BK205; obtain ⟨hfz36_0, hfz36_1, hfz36_2⟩ := fz3 BK205)); try go_wp2_with (first | ((with_reducible refine gate_dst (N := 4) rfl ?_); (try (refine gate_guard (by rfl) ?_; dsimp only)); refine boxL 4 40 #[.bool false, .int .i64 0, .slice none 0 0] ?_; intro gb205 hg w32 BK205 hb; have GW205 := gw hg (bs1 HB GE200); have GE205 := gw hg (bs1 HB GE200); replace HB := Ah (below_step (bs1 HB GE200) hb); have NB200_205 := nn BK200 hg; have NB205_200 := nm BK200 hg; replace BK200 := nb BK200 hb; clear hb hg; have hnb33 := NB205_200.out; have hnc33 := NB200_205.out; obtain ⟨hcz34_0, hcz34_1, hcz34_2⟩ := cz3 BK205; obtain ⟨hfz34_0, hfz34_1, hfz34_2⟩ := fz3 BK205) | (go_at_call 18; (with_reducible refine (impl_areNames.calls k2 _ _ ((rd_T40 l0_0 x34_2).f2) true _ ?side1 ?side2 A17.out).mono ?_); (case side1 => exact Kd.C_below HR204_2.out (bs2 HB GE200 GE205)); (case side2 => exact HC204_2.out); rintro e w35 ⟨rfl, hb⟩; replace BK200 := Ah (blk_below (bf BK200 NB200_205) hb); replace BK205 := Ah (blk_below (g := gb205) (o := .cells #[.bool false, .int .i64 ((rd_T40 l0_0 x34_2).f1), .slice A204_2 ((rd_T40 l0_0 x34_2).f2).length c204_2] 40 (0, 0)) (by (with_reducible repeat (first | refine blk_drewN ?_ _ | refine blk_drew ?_ | refine blk_alloc ?_ _)); refine blk_put (cs := #[.bool false, .int .i64 ((rd_T40 l0_0 x34_2).f1), .slice none 0 0]) ?_ 2 _ rfl; (with_reducible repeat (first | refine blk_drewN ?_ _ | refine blk_drew ?_ | refine blk_alloc ?_ _)); refine blk_put (cs := #[.bool false, .int .i64 0, .slice none 0 0]) ?_ 1 _ rfl; (with_reducible repeat (first | refine blk_drewN ?_ _ | refine blk_drew ?_ | refine blk_alloc ?_ _)); refine blk_put (cs := #[.bool false, .int .i64 0, .slice none 0 0]) ?_ 0 _ rfl; (with_reducible repeat (first | refine blk_drewN ?_ _ | refine blk_drew ?_ | refine blk_alloc ?_ _)); exact BK205.out) hb); replace HB := Ah (below_step (bs2 HB GE200 GE205) hb); (try clear hb); obtain ⟨hcz36_0, hcz36_1, hcz36_2⟩ := cz3 BK205; obtain ⟨hfz36_0, hfz36_1, hfz36_2⟩ := fz3 BK205)))
      go_roundg k2
      case measure => have := HJ1.out; have := HK2.out; omega
      case rel => exact ⟨(wrap64 (x34_2 + 1)), e3, H', ⟨by have := HJ1.out; have := HK2.out; omega⟩, ⟨bk BK200⟩, ⟨bs2 HB GE200 GE205⟩⟩
     rw [if_neg c14] at H
     have c14b0 : decide (x34_2 < (l0_0.length : Int)) = false := decide_eq_false c14
     clear c14
     replace H := Option.bind_eq_some_iff.mp H
     obtain ⟨⟨t207, t208, t211⟩, A410, H⟩ := H
     try dsimp only at H
     have A41 := Ah A410
     clear A410
     have HC42 := Ah H
     clear H
     have hcz43_0 := cz1 BK200
     have hfz43_0 := fz1 BK200
     go_upto_region 10 with (first | (go_at_call 19; (with_reducible refine (impl_Names_deepest.calls k2 _ _ l0_0 t207 t208 t211 _ ?side1 ?side2 A41.out).mono ?_); (case side1 => exact cb HR0_0 HB); (case side2 => exact HC0_0.out); rintro e w44 ⟨v209, rfl, ho0, hb⟩; have HO210 := Ah (Kd.R_lower ho0 (below_size (bs1 HB GE200))); replace BK200 := nb BK200 hb; replace HB := Ah (below_step (bs1 HB GE200) hb); (try clear hb ho0)))
     repeat (go_quiet (first | (go_at_call 19; (with_reducible refine (impl_Names_deepest.calls k2 _ _ l0_0 t207 t208 t211 _ ?side1 ?side2 A41.out).mono ?_); (case side1 => exact cb HR0_0 HB); (case side2 => exact HC0_0.out); rintro e w44 ⟨v209, rfl, ho0, hb⟩; have HO210 := Ah (Kd.R_lower ho0 (below_size (bs1 HB GE200))); replace BK200 := nb BK200 hb; replace HB := Ah (below_step (bs1 HB GE200) hb); (try clear hb ho0))); go_upto_region 10 with (first | (go_at_call 19; (with_reducible refine (impl_Names_deepest.calls k2 _ _ l0_0 t207 t208 t211 _ ?side1 ?side2 A41.out).mono ?_); (case side1 => exact cb HR0_0 HB); (case side2 => exact HC0_0.out); rintro e w44 ⟨v209, rfl, ho0, hb⟩; have HO210 := Ah (Kd.R_lower ho0 (below_size (bs1 HB GE200))); replace BK200 := nb BK200 hb; replace HB := Ah (below_step (bs1 HB GE200) hb); (try clear hb ho0))))
     (try simp only [Act.put, List.setIfInBounds_toArray, List.set_cons_zero, List.set_cons_succ])
     go_cut [65] (fun v65 wc => ∃ (kq : Nat) (x65_41 : Bool), v65 = .bool x65_41 ∧ Aside0 (impl_GoodNames.j2 kq t208 x65_41 l0_0 = some r) ∧ Aside0 (kq ≤ k2) ∧ Aside0 (Kd.R (Kd.int .i64) 3 wc w.heap.size (fun _ => True) v209 t208) ∧ Aside0 (wc.heap[gb200]? = some (.cells #[(.slice A0_0 l0_0.length c0_0)] 29 (0, 0))) ∧ Aside0 (Below w.heap.size w wc))
     case first =>
      have H := HC42.out
      clear HC42
      by_cases c45 : t211 = true
      ·
       subst c45
       rw [if_pos rfl] at H
       have H' := Ah H
       clear H
       go_wp2
       repeat (go_quiet (fail); try go_wp2)
       go_meet
       case rel => exact ⟨_, (decide (t207 > 8)), e3, H', ⟨by have := HJ1.out; have := HK2.out; first | omega | exact Nat.le_refl _⟩, ⟨rr HO210.out⟩, ⟨bk BK200⟩, ⟨bs1 HB GE200⟩⟩
      replace c45 := Bool.eq_false_iff.mpr c45
      subst c45
      rw [if_neg fne] at H
      have H' := Ah H
      clear H
      go_wp2
      repeat (go_quiet (fail); try go_wp2)
      go_meet
      case rel => exact ⟨_, (true), e3, H', ⟨by have := HJ1.out; have := HK2.out; first | omega | exact Nat.le_refl _⟩, ⟨rr HO210.out⟩, ⟨bk BK200⟩, ⟨bs1 HB GE200⟩⟩
     case rest =>
      clear HC42
      try clear c1
      try clear q1
      try clear c2
      try clear p2
      try clear q2
      try clear hx2
      try clear qi2
      try clear c3
      try clear c4
      try clear c5
      try clear c6
      try clear c6b0
      try clear c6b1
      try clear p6
      try clear q7
      try clear c8
      try clear c12
      try clear c14
      try clear c14b0
      try clear c15
      try clear c15b0
      try clear c16
      try clear c16b0
      try clear c18
      try clear q19
      try clear c20
      try clear p20
      try clear q20
      try clear hx20
      try clear qi20
      try clear c22
      try clear c26
      try clear c26b0
      try clear c26b1
      try clear c28
      try clear c33
      try clear c38
      try clear c45
      try clear hcz10_0
      try clear hcz11_0
      try clear hcz13_0
      try clear hcz23_0 hcz23_1 hcz23_2
      try clear hcz25_0 hcz25_1 hcz25_2
      try clear hcz29_0 hcz29_1 hcz29_2
      try clear hcz31_0 hcz31_1 hcz31_2
      try clear hcz34_0 hcz34_1 hcz34_2
      try clear hcz36_0 hcz36_1 hcz36_2
      try clear hcz39_0 hcz39_1 hcz39_2
      try clear hcz43_0
      try clear hcz9_0
      try clear hfz10_0
      try clear hfz11_0
      try clear hfz13_0
      try clear hfz23_0 hfz23_1 hfz23_2
      try clear hfz25_0 hfz25_1 hfz25_2
      try clear hfz29_0 hfz29_1 hfz29_2
      try clear hfz31_0 hfz31_1 hfz31_2
      try clear hfz34_0 hfz34_1 hfz34_2
      try clear hfz36_0 hfz36_1 hfz36_2
      try clear hfz39_0 hfz39_1 hfz39_2
      try clear hfz43_0
      try clear hfz9_0
      try clear hx202_0
      try clear hx202_1
      try clear hx202_2
      try clear hx203_0
      try clear hx203_1
      try clear hx203_2
      try clear hx204_0
      try clear hx204_1
      try clear hx204_2
      try clear p2
      try clear p202
      try clear p203
      try clear p204
      try clear q2
      try clear q202
      try clear q203
      try clear q204
      try clear q7
      obtain ⟨kq, x65_41, rfl, HA, HJ41, HO_6, BK200, HB⟩ := hcut
      cases kq with
      | zero => exact absurd HA.out (by simp [impl_GoodNames.j2])
      | succ kj41 =>
       have H := HA.out
       clear HA
       simp only [impl_GoodNames.j2] at H
       by_cases c46 : x65_41 = true
       ·
        subst c46
        rw [if_pos rfl] at H
        obtain rfl := Option.some.inj H
        go_wp2
        repeat (go_quiet (fail); try go_wp2)
        go_ret
        exact ⟨er, bs1 HB GE200⟩
       replace c46 := Bool.eq_false_iff.mpr c46
       subst c46
       rw [if_neg fne] at H
       by_cases c47 : 1 ≤ (l0_0.length : Int)
       rotate_left
       ·
        rw [if_neg c47] at H
        exact absurd H (by simp)
       rw [if_pos c47] at H
       have c47b0 := eq_true c47
       have c47b1 : decide (1 ≤ (l0_0.length : Int)) = true := decide_eq_true c47
       clear c47
       obtain ⟨y212, hy212⟩ : ∃ y_ : List (S40), y_ = (l0_0.drop 1) := ⟨_, rfl⟩
       replace H : (impl_GoodNames.l1 kj41 t208 y212 (y212.length : Int) 0) = some r := by first | (rw [hy212]; with_reducible exact H) | (have H2_ := (Option.bind_some _ _).symm.trans H; rw [hy212]; with_reducible exact H2_) | (have H2_ := (Option.bind_some _ _).symm.trans H; with_reducible exact H2_) | with_reducible exact H | (rw [hy212]; exact H) | exact H
       have Ny212 := Ah hy212
       clear hy212
       have H' := Ah H
       clear H
       have hcz48_0 := cz1 BK200
       have hfz48_0 := fz1 BK200
       have q49 : (1 : Int) ≤ ((l0_0.length : Int) : Int) := od
       obtain ⟨i049, hi049, _, hsz49, _⟩ := info_parts info40
       have hroom49 : l0_0.length ≤ c0_0 := HC0_0.out
       have hC49 : Kd.C k40 _ A0_0 l0_0.length l0_0 := HR0_0.out
       have hcut49 := cut_from (P := Tryd.prog) 27 40 .i64 Tryd.underlying27 hi049 3 hsz49 A0_0 l0_0.length c0_0 1 (by omega) q49
       have hr49 := Kd.C_drop (m := (1 : Int).toNat) (c := c0_0) hC49 (by omega) hroom49
       obtain ⟨A49, hA49⟩ : ∃ A1, A1 = (if c0_0 = (1 : Int).toNat then A0_0 else (A0_0 : Option Addr).map (·.add ((1 : Int).toNat * 3))) := ⟨_, rfl⟩
       obtain ⟨c49, hc49⟩ : ∃ c1, c1 = c0_0 - (1 : Int).toNat := ⟨_, rfl⟩
       have hy49 : y212.length = l0_0.length - (1 : Int).toNat := (by rw [Ny212.out, List.length_drop] <;> omega)
       rw [show (l0_0).drop (1 : Int).toNat = y212 from Ny212.out.symm] at hr49
       replace hr49 : Kd.C k40 _ A49 y212.length y212 := (by rw [hA49]; exact hr49)
       rw [← hy49, ← hA49, ← hc49] at hcut49
       have HR215 := Ah hr49
       have HC215 := Ah (show y212.length ≤ c49 from by rw [hy49, hc49]; exact Nat.sub_le_sub_right hroom49 _)
       clear hr49 hC49 hroom49 hi049 hsz49 hc49
       have KY49 := Ah hy49
       have KA49 := Ah hA49
       clear hy49 hA49
       replace q49 := eq_true q49
       go_wp2
       repeat (go_quiet (fail); try go_wp2)
       go_loopg [70] kj41 (fun kq v70 w' => ∃ (x70_4 : Int), v70 = .int .i64 x70_4 ∧ Aside0 (impl_GoodNames.l1 kq t208 y212 (y212.length : Int) x70_4 = some r) ∧ Aside0 (kq ≤ kj41) ∧ Aside0 (Kd.R (Kd.int .i64) 3 w' w.heap.size (fun _ => True) v209 t208) ∧ Aside0 (w'.heap[gb200]? = some (.cells #[(.slice A0_0 l0_0.length c0_0)] 29 (0, 0))) ∧ Aside0 (Below w.heap.size w w'))
       case atStart => exact ⟨(0), e3, H', ⟨Nat.le_refl _⟩, ⟨rr HO_6.out⟩, ⟨bk BK200⟩, ⟨bs1 HB GE200⟩⟩
       case round =>
        clear H'
        try clear c1
        try clear q1
        try clear c2
        try clear p2
        try clear q2
        try clear hx2
        try clear qi2
        try clear c3
        try clear c4
        try clear q4
        try clear c5
        try clear c6
        try clear c6b0
        try clear c6b1
        try clear p6
        try clear q7
        try clear c8
        try clear c12
        try clear c14
        try clear c14b0
        try clear c15
        try clear c15b0
        try clear c16
        try clear c16b0
        try clear c18
        try clear q19
        try clear c20
        try clear p20
        try clear q20
        try clear hx20
        try clear qi20
        try clear c22
        try clear c26
        try clear c26b0
        try clear c26b1
        try clear c28
        try clear c33
        try clear c38
        try clear c45
        try clear c46
        try clear c47
        try clear c47b0
        try clear c47b1
        try clear c49
        try clear q49
        try clear hcz10_0
        try clear hcz11_0
        try clear hcz13_0
        try clear hcz23_0 hcz23_1 hcz23_2
        try clear hcz25_0 hcz25_1 hcz25_2
        try clear hcz29_0 hcz29_1 hcz29_2
        try clear hcz31_0 hcz31_1 hcz31_2
        try clear hcz34_0 hcz34_1 hcz34_2
        try clear hcz36_0 hcz36_1 hcz36_2
        try clear hcz39_0 hcz39_1 hcz39_2
        try clear hcz43_0
        try clear hcz48_0
        try clear hcz9_0
        try clear hfz10_0
        try clear hfz11_0
        try clear hfz13_0
        try clear hfz23_0 hfz23_1 hfz23_2
        try clear hfz25_0 hfz25_1 hfz25_2
        try clear hfz29_0 hfz29_1 hfz29_2
        try clear hfz31_0 hfz31_1 hfz31_2
        try clear hfz34_0 hfz34_1 hfz34_2
        try clear hfz36_0 hfz36_1 hfz36_2
        try clear hfz39_0 hfz39_1 hfz39_2
        try clear hfz43_0
        try clear hfz48_0
        try clear hfz9_0
        try clear hx202_0
        try clear hx202_1
        try clear hx202_2
        try clear hx203_0
        try clear hx203_1
        try clear hx203_2
        try clear hx204_0
        try clear hx204_1
        try clear hx204_2
        try clear p2
        try clear p20
        try clear p202
        try clear p203
        try clear p204
        try clear p6
        try clear q1
        try clear q19
        try clear q2
        try clear q20
        try clear q202
        try clear q203
        try clear q204
        try clear q49
        try clear q7
        obtain ⟨x70_4, rfl, HA, HK4, HO_6, BK200, HB⟩ := hrel
        cases gk with
        | zero => exact absurd HA.out (by simp [impl_GoodNames.l1])
        | succ k4 =>
         have H := HA.out
         clear HA
         simp only [impl_GoodNames.l1] at H
         by_cases c50 : x70_4 < (y212.length : Int)
         rotate_left
         ·
          rw [if_neg c50] at H
          have c50b0 : decide (x70_4 < (y212.length : Int)) = false := decide_eq_false c50
          clear c50
          obtain rfl := Option.some.inj H
          go_wp2
          repeat (go_quiet (fail); try go_wp2)
          go_ret
          exact ⟨er, bs1 HB GE200⟩
         rw [if_pos c50] at H
         have c50b0 : decide (x70_4 < (y212.length : Int)) = true := decide_eq_true c50
         clear c50
         by_cases c51 : 0 ≤ x70_4
         rotate_left
         ·
          rw [if_neg c51] at H
          exact absurd H (by simp)
         rw [if_pos c51] at H
         have c51b0 : decide (0 ≤ x70_4) = true := decide_eq_true c51
         clear c51
         by_cases c52 : x70_4 < (y212.length : Int)
         rotate_left
         ·
          rw [if_neg c52] at H
          exact absurd H (by simp)
         rw [if_pos c52] at H
         have c52b0 : decide (x70_4 < (y212.length : Int)) = true := decide_eq_true c52
         clear c52
         obtain ⟨ji53, hji53⟩ : ∃ j_ : Int, (wrap64 (x70_4 + 1)) = j_ := ⟨_, rfl⟩
         replace H : (if 0 ≤ (ji53) then (if (ji53) < (t208.length : Int) then (if ((rd_T40 y212 x70_4).f1) = (rd t208 (ji53)) then (if (rd t208 (ji53)) = 0 then (if (rd_T40 y212 x70_4).f0 = true then (some false) else (impl_GoodNames.l1 k4 t208 y212 (y212.length : Int) ji53)) else (impl_GoodNames.l1 k4 t208 y212 (y212.length : Int) ji53)) else (some false)) else (none)) else (none)) = some r := by first | (rw [hji53] at H; exact H) | (simp only [hji53] at H ⊢; exact H)
         have hji53w : (IntKind.i64.wrap (x70_4 + 1)) = ji53 := (i64_w _).trans hji53
         by_cases c54 : 0 ≤ (ji53)
         rotate_left
         ·
          rw [if_neg c54] at H
          exact absurd H (by simp)
         rw [if_pos c54] at H
         have c54b0 : decide (0 ≤ (ji53)) = true := decide_eq_true c54
         clear c54
         by_cases c55 : (ji53) < (t208.length : Int)
         rotate_left
         ·
          rw [if_neg c55] at H
          exact absurd H (by simp)
         rw [if_pos c55] at H
         have c55b0 : decide ((ji53) < (t208.length : Int)) = true := decide_eq_true c55
         clear c55
         by_cases c56 : ((rd_T40 y212 x70_4).f1) = (rd t208 (ji53))
         rotate_left
         ·
          rw [if_neg c56] at H
          have c56b0 : (((rd_T40 y212 x70_4).f1) == (rd t208 (ji53))) = false := beq_eq_false_iff_ne.mpr c56
          have c56b1 : (((rd_T40 y212 x70_4).f1) != (rd t208 (ji53))) = true := bne_iff_ne.mpr c56
          obtain rfl := Option.some.inj H
          have p216 : 0 ≤ (x70_4 : Int) := od
          have q216 : x70_4 < (y212.length : Int) := od
          obtain ⟨ad216, A216_2, c216_2, e216, hx216_0, hx216_1, hx216_2, hl216_2, hi216_2⟩ := at_T40 HR215.out x70_4 p216 q216
          cases e216
          replace hx216_0 := (HB.out.cell (World.block_lt_of_cell? w _ hx216_0)).trans hx216_0
          replace hx216_1 := (HB.out.cell (World.block_lt_of_cell? w _ hx216_1)).trans hx216_1
          replace hx216_2 := (HB.out.cell (World.block_lt_of_cell? w _ hx216_2)).trans hx216_2
          have HR216_2 := Ah hi216_2
          have HC216_2 := Ah hl216_2
          clear hi216_2 hl216_2
          replace p216 := eq_true p216
          replace q216 := eq_true q216
          go_wp2_with (first | ((with_reducible refine gate_dst (N := 9) rfl ?_); (try (refine gate_guard (by rfl) ?_; dsimp only)); refine boxL 9 40 #[.bool false, .int .i64 0, .slice none 0 0] ?_; intro gb217 hg w72 BK217 hb; replace HO_6 := nr HO_6 hb; have GW217 := gw hg (bs1 HB GE200); have GE217 := gw hg (bs1 HB GE200); replace HB := Ah (below_step (bs1 HB GE200) hb); have NB200_217 := nn BK200 hg; have NB217_200 := nm BK200 hg; replace BK200 := nb BK200 hb; clear hb hg; have hnb73 := NB217_200.out; have hnc73 := NB200_217.out; obtain ⟨hcz74_0, hcz74_1, hcz74_2⟩ := cz3 BK217; obtain ⟨hfz74_0, hfz74_1, hfz74_2⟩ := fz3 BK217; obtain ⟨Ao75, co75, eo75⟩ := Kd.R_slice HO_6.out; subst eo75; have p218 : 0 ≤ ((ji53) : Int) := od; have q218 : (ji53) < (t208.length : Int) := od; obtain ⟨ad218, e218, hx218_0⟩ := Kd.at_int (Kd.R_reads' HO_6.out).2.2 (ji53) p218 q218; cases e218; have hn218_0 : ad218.block ≠ gb217 := Kd.own_blk (Kd.R_ne HO_6.out BK217.out (by decide)); have hn218_1 : ad218.block ≠ gb217 := Kd.own_blk (Kd.R_ne HO_6.out BK217.out (by decide)); have hn218_2 : ad218.block ≠ gb217 := Kd.own_blk (Kd.R_ne HO_6.out BK217.out (by decide)); replace hx218_0 := (cell_far (p := ⟨gb217, 0, none⟩) (by first | (rw [add_block]; exact hn218_0) | (show (Addr.add _ _).block ≠ _; rw [add_block]; exact hn218_0) | exact hn218_0) (.bool ((rd_T40 y212 x70_4).f0))).trans hx218_0; replace hx218_0 := (cell_far (p := ⟨gb217, 1, none⟩) (by first | (rw [add_block]; exact hn218_1) | (show (Addr.add _ _).block ≠ _; rw [add_block]; exact hn218_1) | exact hn218_1) (.int .i64 ((rd_T40 y212 x70_4).f1))).trans hx218_0; replace hx218_0 := (cell_far (p := ⟨gb217, 2, none⟩) (by first | (rw [add_block]; exact hn218_2) | (show (Addr.add _ _).block ≠ _; rw [add_block]; exact hn218_2) | exact hn218_2) (.slice A216_2 ((rd_T40 y212 x70_4).f2).length c216_2)).trans hx218_0; (try have hy218_0 := fun (n_ : Nat) => (show (((((w72.drewN n_).setCell ⟨gb217, 0, none⟩ (.bool ((rd_T40 y212 x70_4).f0))).setCell ⟨gb217, 1, none⟩ (.int .i64 ((rd_T40 y212 x70_4).f1))).setCell ⟨gb217, 2, none⟩ (.slice A216_2 ((rd_T40 y212 x70_4).f2).length c216_2))).cell? _ = some _ from hx218_0)); clear hn218_0; clear hn218_1; clear hn218_2; replace p218 := eq_true p218; replace q218 := eq_true q218))
          repeat (go_quiet (first | ((with_reducible refine gate_dst (N := 9) rfl ?_); (try (refine gate_guard (by rfl) ?_; dsimp only)); refine boxL 9 40 #[.bool false, .int .i64 0, .slice none 0 0] ?_; intro gb217 hg w72 BK217 hb; replace HO_6 := nr HO_6 hb; have GW217 := gw hg (bs1 HB GE200); have GE217 := gw hg (bs1 HB GE200); replace HB := Ah (below_step (bs1 HB GE200) hb); have NB200_217 := nn BK200 hg; have NB217_200 := nm BK200 hg; replace BK200 := nb BK200 hb; clear hb hg; have hnb73 := NB217_200.out; have hnc73 := NB200_217.out; obtain ⟨hcz74_0, hcz74_1, hcz74_2⟩ := cz3 BK217; obtain ⟨hfz74_0, hfz74_1, hfz74_2⟩ := fz3 BK217; obtain ⟨Ao75, co75, eo75⟩ := Kd.R_slice HO_6.out; subst eo75; have p218 : 0 ≤ ((ji53) : Int) := od; have q218 : (ji53) < (t208.length : Int) := od; obtain ⟨ad218, e218, hx218_0⟩ := Kd.at_int (Kd.R_reads' HO_6.out).2.2 (ji53) p218 q218; cases e218; have hn218_0 : ad218.block ≠ gb217 := Kd.own_blk (Kd.R_ne HO_6.out BK217.out (by decide)); have hn218_1 : ad218.block ≠ gb217 := Kd.own_blk (Kd.R_ne HO_6.out BK217.out (by decide)); have hn218_2 : ad218.block ≠ gb217 := Kd.own_blk (Kd.R_ne HO_6.out BK217.out (by decide)); replace hx218_0 := (cell_far (p := ⟨gb217, 0, none⟩) (by first | (rw [add_block]; exact hn218_0) | (show (Addr.add _ _).block ≠ _; rw [add_block]; exact hn218_0) | exact hn218_0) (.bool ((rd_T40 y212 x70_4).f0))).trans hx218_0; replace hx218_0 := (cell_far (p := ⟨gb217, 1, none⟩) (by first | (rw [add_block]; exact hn218_1) | (show (Addr.add _ _).block ≠ _; rw [add_block]; exact hn218_1) | exact hn218_1) (.int .i64 ((rd_T40 y212 x70_4).f1))).trans hx218_0; replace hx218_0 := (cell_far (p := ⟨gb217, 2, none⟩) (by first | (rw [add_block]; exact hn218_2) | (show (Addr.add _ _).block ≠ _; rw [add_block]; exact hn218_2) | exact hn218_2) (.slice A216_2 ((rd_T40 y212 x70_4).f2).length c216_2)).trans hx218_0; (try have hy218_0 := fun (n_ : Nat) => (show (((((w72.drewN n_).setCell ⟨gb217, 0, none⟩ (.bool ((rd_T40 y212 x70_4).f0))).setCell ⟨gb217, 1, none⟩ (.int .i64 ((rd_T40 y212 x70_4).f1))).setCell ⟨gb217, 2, none⟩ (.slice A216_2 ((rd_T40 y212 x70_4).f2).length c216_2))).cell? _ = some _ from hx218_0)); clear hn218_0; clear hn218_1; clear hn218_2; replace p218 := eq_true p218; replace q218 := eq_true q218)); try go_wp2_with (first | ((with_reducible refine gate_dst (N := 9) rfl ?_); (try (refine gate_guard (by rfl) ?_; dsimp only)); refine boxL 9 40 #[.bool false, .int .i64 0, .slice none 0 0] ?_; intro gb217 hg w72 BK217 hb; replace HO_6 := nr HO_6 hb; have GW217 := gw hg (bs1 HB GE200); have GE217 := gw hg (bs1 HB GE200); replace HB := Ah (below_step (bs1 HB GE200) hb); have NB200_217 := nn BK200 hg; have NB217_200 := nm BK200 hg; replace BK200 := nb BK200 hb; clear hb hg; have hnb73 := NB217_200.out; have hnc73 := NB200_217.out; obtain ⟨hcz74_0, hcz74_1, hcz74_2⟩ := cz3 BK217; obtain ⟨hfz74_0, hfz74_1, hfz74_2⟩ := fz3 BK217; obtain ⟨Ao75, co75, eo75⟩ := Kd.R_slice HO_6.out; subst eo75; have p218 : 0 ≤ ((ji53) : Int) := od; have q218 : (ji53) < (t208.length : Int) := od; obtain ⟨ad218, e218, hx218_0⟩ := Kd.at_int (Kd.R_reads' HO_6.out).2.2 (ji53) p218 q218; cases e218; have hn218_0 : ad218.block ≠ gb217 := Kd.own_blk (Kd.R_ne HO_6.out BK217.out (by decide)); have hn218_1 : ad218.block ≠ gb217 := Kd.own_blk (Kd.R_ne HO_6.out BK217.out (by decide)); have hn218_2 : ad218.block ≠ gb217 := Kd.own_blk (Kd.R_ne HO_6.out BK217.out (by decide)); replace hx218_0 := (cell_far (p := ⟨gb217, 0, none⟩) (by first | (rw [add_block]; exact hn218_0) | (show (Addr.add _ _).block ≠ _; rw [add_block]; exact hn218_0) | exact hn218_0) (.bool ((rd_T40 y212 x70_4).f0))).trans hx218_0; replace hx218_0 := (cell_far (p := ⟨gb217, 1, none⟩) (by first | (rw [add_block]; exact hn218_1) | (show (Addr.add _ _).block ≠ _; rw [add_block]; exact hn218_1) | exact hn218_1) (.int .i64 ((rd_T40 y212 x70_4).f1))).trans hx218_0; replace hx218_0 := (cell_far (p := ⟨gb217, 2, none⟩) (by first | (rw [add_block]; exact hn218_2) | (show (Addr.add _ _).block ≠ _; rw [add_block]; exact hn218_2) | exact hn218_2) (.slice A216_2 ((rd_T40 y212 x70_4).f2).length c216_2)).trans hx218_0; (try have hy218_0 := fun (n_ : Nat) => (show (((((w72.drewN n_).setCell ⟨gb217, 0, none⟩ (.bool ((rd_T40 y212 x70_4).f0))).setCell ⟨gb217, 1, none⟩ (.int .i64 ((rd_T40 y212 x70_4).f1))).setCell ⟨gb217, 2, none⟩ (.slice A216_2 ((rd_T40 y212 x70_4).f2).length c216_2))).cell? _ = some _ from hx218_0)); clear hn218_0; clear hn218_1; clear hn218_2; replace p218 := eq_true p218; replace q218 := eq_true q218)))
          go_ret
          exact ⟨by first | rfl | (simp [errW_none, errW_some] <;> rfl) | (simp only [← hji53]; first | rfl | (simp [errW_none, errW_some] <;> rfl)) | (simp [*, errW_none, errW_some] <;> rfl), bs2 HB GE200 GE217⟩
         rw [if_pos c56] at H
         have c56b0 : (((rd_T40 y212 x70_4).f1) == (rd t208 (ji53))) = true := beq_iff_eq.mpr c56
         have c56b1 : (((rd_T40 y212 x70_4).f1) != (rd t208 (ji53))) = false := bne_eq_false_iff_eq.mpr c56
         clear c56
         by_cases c57 : (rd t208 (ji53)) = 0
         rotate_left
         ·
          rw [if_neg c57] at H
          have c57b0 : ((rd t208 (ji53)) == 0) = false := beq_eq_false_iff_ne.mpr c57
          have c57b1 : ((rd t208 (ji53)) != 0) = true := bne_iff_ne.mpr c57
          have H' := Ah H
          clear H
          have p216 : 0 ≤ (x70_4 : Int) := od
          have q216 : x70_4 < (y212.length : Int) := od
          obtain ⟨ad216, A216_2, c216_2, e216, hx216_0, hx216_1, hx216_2, hl216_2, hi216_2⟩ := at_T40 HR215.out x70_4 p216 q216
          cases e216
          replace hx216_0 := (HB.out.cell (World.block_lt_of_cell? w _ hx216_0)).trans hx216_0
          replace hx216_1 := (HB.out.cell (World.block_lt_of_cell? w _ hx216_1)).trans hx216_1
          replace hx216_2 := (HB.out.cell (World.block_lt_of_cell? w _ hx216_2)).trans hx216_2
          have HR216_2 := Ah hi216_2
          have HC216_2 := Ah hl216_2
          clear hi216_2 hl216_2
          replace p216 := eq_true p216
          replace q216 := eq_true q216
          go_wp2_with (first | ((with_reducible refine gate_dst (N := 9) rfl ?_); (try (refine gate_guard (by rfl) ?_; dsimp only)); refine boxL 9 40 #[.bool false, .int .i64 0, .slice none 0 0] ?_; intro gb217 hg w68 BK217 hb; replace HO_6 := nr HO_6 hb; have GW217 := gw hg (bs1 HB GE200); have GE217 := gw hg (bs1 HB GE200); replace HB := Ah (below_step (bs1 HB GE200) hb); have NB200_217 := nn BK200 hg; have NB217_200 := nm BK200 hg; replace BK200 := nb BK200 hb; clear hb hg; have hnb69 := NB217_200.out; have hnc69 := NB200_217.out; obtain ⟨hcz70_0, hcz70_1, hcz70_2⟩ := cz3 BK217; obtain ⟨hfz70_0, hfz70_1, hfz70_2⟩ := fz3 BK217; obtain ⟨Ao71, co71, eo71⟩ := Kd.R_slice HO_6.out; subst eo71; have p218 : 0 ≤ ((ji53) : Int) := od; have q218 : (ji53) < (t208.length : Int) := od; obtain ⟨ad218, e218, hx218_0⟩ := Kd.at_int (Kd.R_reads' HO_6.out).2.2 (ji53) p218 q218; cases e218; have hn218_0 : ad218.block ≠ gb217 := Kd.own_blk (Kd.R_ne HO_6.out BK217.out (by decide)); have hn218_1 : ad218.block ≠ gb217 := Kd.own_blk (Kd.R_ne HO_6.out BK217.out (by decide)); have hn218_2 : ad218.block ≠ gb217 := Kd.own_blk (Kd.R_ne HO_6.out BK217.out (by decide)); replace hx218_0 := (cell_far (p := ⟨gb217, 0, none⟩) (by first | (rw [add_block]; exact hn218_0) | (show (Addr.add _ _).block ≠ _; rw [add_block]; exact hn218_0) | exact hn218_0) (.bool ((rd_T40 y212 x70_4).f0))).trans hx218_0; replace hx218_0 := (cell_far (p := ⟨gb217, 1, none⟩) (by first | (rw [add_block]; exact hn218_1) | (show (Addr.add _ _).block ≠ _; rw [add_block]; exact hn218_1) | exact hn218_1) (.int .i64 ((rd_T40 y212 x70_4).f1))).trans hx218_0; replace hx218_0 := (cell_far (p := ⟨gb217, 2, none⟩) (by first | (rw [add_block]; exact hn218_2) | (show (Addr.add _ _).block ≠ _; rw [add_block]; exact hn218_2) | exact hn218_2) (.slice A216_2 ((rd_T40 y212 x70_4).f2).length c216_2)).trans hx218_0; (try have hy218_0 := fun (n_ : Nat) => (show (((((w68.drewN n_).setCell ⟨gb217, 0, none⟩ (.bool ((rd_T40 y212 x70_4).f0))).setCell ⟨gb217, 1, none⟩ (.int .i64 ((rd_T40 y212 x70_4).f1))).setCell ⟨gb217, 2, none⟩ (.slice A216_2 ((rd_T40 y212 x70_4).f2).length c216_2))).cell? _ = some _ from hx218_0)); clear hn218_0; clear hn218_1; clear hn218_2; replace p218 := eq_true p218; replace q218 := eq_true q218; have p219 : 0 ≤ ((ji53) : Int) := od; have q219 : (ji53) < (t208.length : Int) := od; obtain ⟨ad219, e219, hx219_0⟩ := Kd.at_int (Kd.R_reads' HO_6.out).2.2 (ji53) p219 q219; obtain rfl : ad218 = ad219 := (by injection e219); have hn219_0 : ad218.block ≠ gb217 := Kd.own_blk (Kd.R_ne HO_6.out BK217.out (by decide)); have hn219_1 : ad218.block ≠ gb217 := Kd.own_blk (Kd.R_ne HO_6.out BK217.out (by decide)); have hn219_2 : ad218.block ≠ gb217 := Kd.own_blk (Kd.R_ne HO_6.out BK217.out (by decide)); replace hx219_0 := (cell_far (p := ⟨gb217, 0, none⟩) (by first | (rw [add_block]; exact hn219_0) | (show (Addr.add _ _).block ≠ _; rw [add_block]; exact hn219_0) | exact hn219_0) (.bool ((rd_T40 y212 x70_4).f0))).trans hx219_0; replace hx219_0 := (cell_far (p := ⟨gb217, 1, none⟩) (by first | (rw [add_block]; exact hn219_1) | (show (Addr.add _ _).block ≠ _; rw [add_block]; exact hn219_1) | exact hn219_1) (.int .i64 ((rd_T40 y212 x70_4).f1))).trans hx219_0; replace hx219_0 := (cell_far (p := ⟨gb217, 2, none⟩) (by first | (rw [add_block]; exact hn219_2) | (show (Addr.add _ _).block ≠ _; rw [add_block]; exact hn219_2) | exact hn219_2) (.slice A216_2 ((rd_T40 y212 x70_4).f2).length c216_2)).trans hx219_0; (try have hy219_0 := fun (n_ : Nat) => (show (((((w68.drewN n_).setCell ⟨gb217, 0, none⟩ (.bool ((rd_T40 y212 x70_4).f0))).setCell ⟨gb217, 1, none⟩ (.int .i64 ((rd_T40 y212 x70_4).f1))).setCell ⟨gb217, 2, none⟩ (.slice A216_2 ((rd_T40 y212 x70_4).f2).length c216_2))).cell? _ = some _ from hx219_0)); clear hn219_0; clear hn219_1; clear hn219_2; replace p219 := eq_true p219; replace q219 := eq_true q219))
          repeat (go_quiet (first | ((with_reducible refine gate_dst (N := 9) rfl ?_); (try (refine gate_guard (by rfl) ?_; dsimp only)); refine boxL 9 40 #[.bool false, .int .i64 0, .slice none 0 0] ?_; intro gb217 hg w68 BK217 hb; replace HO_6 := nr HO_6 hb; have GW217 := gw hg (bs1 HB GE200); have GE217 := gw hg (bs1 HB GE200); replace HB := Ah (below_step (bs1 HB GE200) hb); have NB200_217 := nn BK200 hg; have NB217_200 := nm BK200 hg; replace BK200 := nb BK200 hb; clear hb hg; have hnb69 := NB217_200.out; have hnc69 := NB200_217.out; obtain ⟨hcz70_0, hcz70_1, hcz70_2⟩ := cz3 BK217; obtain ⟨hfz70_0, hfz70_1, hfz70_2⟩ := fz3 BK217; obtain ⟨Ao71, co71, eo71⟩ := Kd.R_slice HO_6.out; subst eo71; have p218 : 0 ≤ ((ji53) : Int) := od; have q218 : (ji53) < (t208.length : Int) := od; obtain ⟨ad218, e218, hx218_0⟩ := Kd.at_int (Kd.R_reads' HO_6.out).2.2 (ji53) p218 q218; cases e218; have hn218_0 : ad218.block ≠ gb217 := Kd.own_blk (Kd.R_ne HO_6.out BK217.out (by decide)); have hn218_1 : ad218.block ≠ gb217 := Kd.own_blk (Kd.R_ne HO_6.out BK217.out (by decide)); have hn218_2 : ad218.block ≠ gb217 := Kd.own_blk (Kd.R_ne HO_6.out BK217.out (by decide)); replace hx218_0 := (cell_far (p := ⟨gb217, 0, none⟩) (by first | (rw [add_block]; exact hn218_0) | (show (Addr.add _ _).block ≠ _; rw [add_block]; exact hn218_0) | exact hn218_0) (.bool ((rd_T40 y212 x70_4).f0))).trans hx218_0; replace hx218_0 := (cell_far (p := ⟨gb217, 1, none⟩) (by first | (rw [add_block]; exact hn218_1) | (show (Addr.add _ _).block ≠ _; rw [add_block]; exact hn218_1) | exact hn218_1) (.int .i64 ((rd_T40 y212 x70_4).f1))).trans hx218_0; replace hx218_0 := (cell_far (p := ⟨gb217, 2, none⟩) (by first | (rw [add_block]; exact hn218_2) | (show (Addr.add _ _).block ≠ _; rw [add_block]; exact hn218_2) | exact hn218_2) (.slice A216_2 ((rd_T40 y212 x70_4).f2).length c216_2)).trans hx218_0; (try have hy218_0 := fun (n_ : Nat) => (show (((((w68.drewN n_).setCell ⟨gb217, 0, none⟩ (.bool ((rd_T40 y212 x70_4).f0))).setCell ⟨gb217, 1, none⟩ (.int .i64 ((rd_T40 y212 x70_4).f1))).setCell ⟨gb217, 2, none⟩ (.slice A216_2 ((rd_T40 y212 x70_4).f2).length c216_2))).cell? _ = some _ from hx218_0)); clear hn218_0; clear hn218_1; clear hn218_2; replace p218 := eq_true p218; replace q218 := eq_true q218; have p219 : 0 ≤ ((ji53) : Int) := od; have q219 : (ji53) < (t208.length : Int) := od; obtain ⟨ad219, e219, hx219_0⟩ := Kd.at_int (Kd.R_reads' HO_6.out).2.2 (ji53) p219 q219; obtain rfl : ad218 = ad219 := (by injection e219); have hn219_0 : ad218.block ≠ gb217 := Kd.own_blk (Kd.R_ne HO_6.out BK217.out (by decide)); have hn219_1 : ad218.block ≠ gb217 := Kd.own_blk (Kd.R_ne HO_6.out BK217.out (by decide)); have hn219_2 : ad218.block ≠ gb217 := Kd.own_blk (Kd.R_ne HO_6.out BK217.out (by decide)); replace hx219_0 := (cell_far (p := ⟨gb217, 0, none⟩) (by first | (rw [add_block]; exact hn219_0) | (show (Addr.add _ _).block ≠ _; rw [add_block]; exact hn219_0) | exact hn219_0) (.bool ((rd_T40 y212 x70_4).f0))).trans hx219_0; replace hx219_0 := (cell_far (p := ⟨gb217, 1, none⟩) (by first | (rw [add_block]; exact hn219_1) | (show (Addr.add _ _).block ≠ _; rw [add_block]; exact hn219_1) | exact hn219_1) (.int .i64 ((rd_T40 y212 x70_4).f1))).trans hx219_0; replace hx219_0 := (cell_far (p := ⟨gb217, 2, none⟩) (by first | (rw [add_block]; exact hn219_2) | (show (Addr.add _ _).block ≠ _; rw [add_block]; exact hn219_2) | exact hn219_2) (.slice A216_2 ((rd_T40 y212 x70_4).f2).length c216_2)).trans hx219_0; (try have hy219_0 := fun (n_ : Nat) => (show (((((w68.drewN n_).setCell ⟨gb217, 0, none⟩ (.bool ((rd_T40 y212 x70_4).f0))).setCell ⟨gb217, 1, none⟩ (.int .i64 ((rd_T40 y212 x70_4).f1))).setCell ⟨gb217, 2, none⟩ (.slice A216_2 ((rd_T40 y212 x70_4).f2).length c216_2))).cell? _ = some _ from hx219_0)); clear hn219_0; clear hn219_1; clear hn219_2; replace p219 := eq_true p219; replace q219 := eq_true q219)); try go_wp2_with (first | ((with_reducible refine gate_dst (N := 9) rfl ?_); (try (refine gate_guard (by rfl) ?_; dsimp only)); refine boxL 9 40 #[.bool false, .int .i64 0, .slice none 0 0] ?_; intro gb217 hg w68 BK217 hb; replace HO_6 := nr HO_6 hb; have GW217 := gw hg (bs1 HB GE200); have GE217 := gw hg (bs1 HB GE200); replace HB := Ah (below_step (bs1 HB GE200) hb); have NB200_217 := nn BK200 hg; have NB217_200 := nm BK200 hg; replace BK200 := nb BK200 hb; clear hb hg; have hnb69 := NB217_200.out; have hnc69 := NB200_217.out; obtain ⟨hcz70_0, hcz70_1, hcz70_2⟩ := cz3 BK217; obtain ⟨hfz70_0, hfz70_1, hfz70_2⟩ := fz3 BK217; obtain ⟨Ao71, co71, eo71⟩ := Kd.R_slice HO_6.out; subst eo71; have p218 : 0 ≤ ((ji53) : Int) := od; have q218 : (ji53) < (t208.length : Int) := od; obtain ⟨ad218, e218, hx218_0⟩ := Kd.at_int (Kd.R_reads' HO_6.out).2.2 (ji53) p218 q218; cases e218; have hn218_0 : ad218.block ≠ gb217 := Kd.own_blk (Kd.R_ne HO_6.out BK217.out (by decide)); have hn218_1 : ad218.block ≠ gb217 := Kd.own_blk (Kd.R_ne HO_6.out BK217.out (by decide)); have hn218_2 : ad218.block ≠ gb217 := Kd.own_blk (Kd.R_ne HO_6.out BK217.out (by decide)); replace hx218_0 := (cell_far (p := ⟨gb217, 0, none⟩) (by first | (rw [add_block]; exact hn218_0) | (show (Addr.add _ _).block ≠ _; rw [add_block]; exact hn218_0) | exact hn218_0) (.bool ((rd_T40 y212 x70_4).f0))).trans hx218_0; replace hx218_0 := (cell_far (p := ⟨gb217, 1, none⟩) (by first | (rw [add_block]; exact hn218_1) | (show (Addr.add _ _).block ≠ _; rw [add_block]; exact hn218_1) | exact hn218_1) (.int .i64 ((rd_T40 y212 x70_4).f1))).trans hx218_0; replace hx218_0 := (cell_far (p := ⟨gb217, 2, none⟩) (by first | (rw [add_block]; exact hn218_2) | (show (Addr.add _ _).block ≠ _; rw [add_block]; exact hn218_2) | exact hn218_2) (.slice A216_2 ((rd_T40 y212 x70_4).f2).length c216_2)).trans hx218_0; (try have hy218_0 := fun (n_ : Nat) => (show (((((w68.drewN n_).setCell ⟨gb217, 0, none⟩ (.bool ((rd_T40 y212 x70_4).f0))).setCell ⟨gb217, 1, none⟩ (.int .i64 ((rd_T40 y212 x70_4).f1))).setCell ⟨gb217, 2, none⟩ (.slice A216_2 ((rd_T40 y212 x70_4).f2).length c216_2))).cell? _ = some _ from hx218_0)); clear hn218_0; clear hn218_1; clear hn218_2; replace p218 := eq_true p218; replace q218 := eq_true q218; have p219 : 0 ≤ ((ji53) : Int) := od; have q219 : (ji53) < (t208.length : Int) := od; obtain ⟨ad219, e219, hx219_0⟩ := Kd.at_int (Kd.R_reads' HO_6.out).2.2 (ji53) p219 q219; obtain rfl : ad218 = ad219 := (by injection e219); have hn219_0 : ad218.block ≠ gb217 := Kd.own_blk (Kd.R_ne HO_6.out BK217.out (by decide)); have hn219_1 : ad218.block ≠ gb217 := Kd.own_blk (Kd.R_ne HO_6.out BK217.out (by decide)); have hn219_2 : ad218.block ≠ gb217 := Kd.own_blk (Kd.R_ne HO_6.out BK217.out (by decide)); replace hx219_0 := (cell_far (p := ⟨gb217, 0, none⟩) (by first | (rw [add_block]; exact hn219_0) | (show (Addr.add _ _).block ≠ _; rw [add_block]; exact hn219_0) | exact hn219_0) (.bool ((rd_T40 y212 x70_4).f0))).trans hx219_0; replace hx219_0 := (cell_far (p := ⟨gb217, 1, none⟩) (by first | (rw [add_block]; exact hn219_1) | (show (Addr.add _ _).block ≠ _; rw [add_block]; exact hn219_1) | exact hn219_1) (.int .i64 ((rd_T40 y212 x70_4).f1))).trans hx219_0; replace hx219_0 := (cell_far (p := ⟨gb217, 2, none⟩) (by first | (rw [add_block]; exact hn219_2) | (show (Addr.add _ _).block ≠ _; rw [add_block]; exact hn219_2) | exact hn219_2) (.slice A216_2 ((rd_T40 y212 x70_4).f2).length c216_2)).trans hx219_0; (try have hy219_0 := fun (n_ : Nat) => (show (((((w68.drewN n_).setCell ⟨gb217, 0, none⟩ (.bool ((rd_T40 y212 x70_4).f0))).setCell ⟨gb217, 1, none⟩ (.int .i64 ((rd_T40 y212 x70_4).f1))).setCell ⟨gb217, 2, none⟩ (.slice A216_2 ((rd_T40 y212 x70_4).f2).length c216_2))).cell? _ = some _ from hx219_0)); clear hn219_0; clear hn219_1; clear hn219_2; replace p219 := eq_true p219; replace q219 := eq_true q219)))
          go_roundg k4
          case measure => have := HJ1.out; have := HK2.out; have := HJ41.out; have := HK4.out; omega
          case rel => exact ⟨(ji53), (by first | rfl | (simp; done) | (simp only [← hji53] <;> (first | rfl | simp)) | (simp [*]; done)), H', ⟨by have := HJ1.out; have := HK2.out; have := HJ41.out; have := HK4.out; omega⟩, ⟨by (with_reducible repeat (first | apply Kd.R_alloc | apply Kd.R_drewN | apply Kd.R_drew)); exact Kd.R_mono (Kd.R_far (p := ⟨gb217, 2, none⟩) (Kd.R_far (p := ⟨gb217, 1, none⟩) (Kd.R_far (p := ⟨gb217, 0, none⟩) (Kd.R_types HO_6.out BK217.out (by decide)) (fun _ hk => hk.2) (.bool ((rd_T40 y212 x70_4).f0))) (fun _ hk => hk.2) (.int .i64 ((rd_T40 y212 x70_4).f1))) (fun _ hk => hk.2) (.slice A216_2 ((rd_T40 y212 x70_4).f2).length c216_2)) (fun _ hk => trivial)⟩, ⟨bf BK200 NB200_217⟩, ⟨bs2 HB GE200 GE217⟩⟩
         rw [if_pos c57] at H
         have c57b0 : ((rd t208 (ji53)) == 0) = true := beq_iff_eq.mpr c57
         have c57b1 : ((rd t208 (ji53)) != 0) = false := bne_eq_false_iff_eq.mpr c57
         clear c57
         obtain ⟨bq58, hbq58⟩ : ∃ b_ : Bool, b_ = ((rd_T40 y212 x70_4).f0) := ⟨_, rfl⟩
         replace H : (if bq58 = true then (some false) else (impl_GoodNames.l1 k4 t208 y212 (y212.length : Int) ji53)) = some r := by rw [← hbq58] at H; exact H
         have Nbq58 := Ah hbq58
         clear hbq58
         by_cases c59 : bq58 = true
         ·
          subst c59
          rw [if_pos rfl] at H
          obtain rfl := Option.some.inj H
          have p216 : 0 ≤ (x70_4 : Int) := od
          have q216 : x70_4 < (y212.length : Int) := od
          obtain ⟨ad216, A216_2, c216_2, e216, hx216_0, hx216_1, hx216_2, hl216_2, hi216_2⟩ := at_T40 HR215.out x70_4 p216 q216
          (try rw [← Nbq58.out] at hx216_0)
          cases e216
          replace hx216_0 := (HB.out.cell (World.block_lt_of_cell? w _ hx216_0)).trans hx216_0
          replace hx216_1 := (HB.out.cell (World.block_lt_of_cell? w _ hx216_1)).trans hx216_1
          replace hx216_2 := (HB.out.cell (World.block_lt_of_cell? w _ hx216_2)).trans hx216_2
          have HR216_2 := Ah hi216_2
          have HC216_2 := Ah hl216_2
          clear hi216_2 hl216_2
          replace p216 := eq_true p216
          replace q216 := eq_true q216
          go_wp2_with (first | ((with_reducible refine gate_dst (N := 9) rfl ?_); (try (refine gate_guard (by rfl) ?_; dsimp only)); refine boxL 9 40 #[.bool false, .int .i64 0, .slice none 0 0] ?_; intro gb217 hg w60 BK217 hb; replace HO_6 := nr HO_6 hb; have GW217 := gw hg (bs1 HB GE200); have GE217 := gw hg (bs1 HB GE200); replace HB := Ah (below_step (bs1 HB GE200) hb); have NB200_217 := nn BK200 hg; have NB217_200 := nm BK200 hg; replace BK200 := nb BK200 hb; clear hb hg; have hnb61 := NB217_200.out; have hnc61 := NB200_217.out; obtain ⟨hcz62_0, hcz62_1, hcz62_2⟩ := cz3 BK217; obtain ⟨hfz62_0, hfz62_1, hfz62_2⟩ := fz3 BK217; obtain ⟨Ao63, co63, eo63⟩ := Kd.R_slice HO_6.out; subst eo63; have p218 : 0 ≤ ((ji53) : Int) := od; have q218 : (ji53) < (t208.length : Int) := od; obtain ⟨ad218, e218, hx218_0⟩ := Kd.at_int (Kd.R_reads' HO_6.out).2.2 (ji53) p218 q218; cases e218; have hn218_0 : ad218.block ≠ gb217 := Kd.own_blk (Kd.R_ne HO_6.out BK217.out (by decide)); have hn218_1 : ad218.block ≠ gb217 := Kd.own_blk (Kd.R_ne HO_6.out BK217.out (by decide)); have hn218_2 : ad218.block ≠ gb217 := Kd.own_blk (Kd.R_ne HO_6.out BK217.out (by decide)); replace hx218_0 := (cell_far (p := ⟨gb217, 0, none⟩) (by first | (rw [add_block]; exact hn218_0) | (show (Addr.add _ _).block ≠ _; rw [add_block]; exact hn218_0) | exact hn218_0) (.bool true)).trans hx218_0; replace hx218_0 := (cell_far (p := ⟨gb217, 1, none⟩) (by first | (rw [add_block]; exact hn218_1) | (show (Addr.add _ _).block ≠ _; rw [add_block]; exact hn218_1) | exact hn218_1) (.int .i64 ((rd_T40 y212 x70_4).f1))).trans hx218_0; replace hx218_0 := (cell_far (p := ⟨gb217, 2, none⟩) (by first | (rw [add_block]; exact hn218_2) | (show (Addr.add _ _).block ≠ _; rw [add_block]; exact hn218_2) | exact hn218_2) (.slice A216_2 ((rd_T40 y212 x70_4).f2).length c216_2)).trans hx218_0; (try have hy218_0 := fun (n_ : Nat) => (show (((((w60.drewN n_).setCell ⟨gb217, 0, none⟩ (.bool true)).setCell ⟨gb217, 1, none⟩ (.int .i64 ((rd_T40 y212 x70_4).f1))).setCell ⟨gb217, 2, none⟩ (.slice A216_2 ((rd_T40 y212 x70_4).f2).length c216_2))).cell? _ = some _ from hx218_0)); clear hn218_0; clear hn218_1; clear hn218_2; replace p218 := eq_true p218; replace q218 := eq_true q218; have p219 : 0 ≤ ((ji53) : Int) := od; have q219 : (ji53) < (t208.length : Int) := od; obtain ⟨ad219, e219, hx219_0⟩ := Kd.at_int (Kd.R_reads' HO_6.out).2.2 (ji53) p219 q219; obtain rfl : ad218 = ad219 := (by injection e219); have hn219_0 : ad218.block ≠ gb217 := Kd.own_blk (Kd.R_ne HO_6.out BK217.out (by decide)); have hn219_1 : ad218.block ≠ gb217 := Kd.own_blk (Kd.R_ne HO_6.out BK217.out (by decide)); have hn219_2 : ad218.block ≠ gb217 := Kd.own_blk (Kd.R_ne HO_6.out BK217.out (by decide)); replace hx219_0 := (cell_far (p := ⟨gb217, 0, none⟩) (by first | (rw [add_block]; exact hn219_0) | (show (Addr.add _ _).block ≠ _; rw [add_block]; exact hn219_0) | exact hn219_0) (.bool true)).trans hx219_0; replace hx219_0 := (cell_far (p := ⟨gb217, 1, none⟩) (by first | (rw [add_block]; exact hn219_1) | (show (Addr.add _ _).block ≠ _; rw [add_block]; exact hn219_1) | exact hn219_1) (.int .i64 ((rd_T40 y212 x70_4).f1))).trans hx219_0; replace hx219_0 := (cell_far (p := ⟨gb217, 2, none⟩) (by first | (rw [add_block]; exact hn219_2) | (show (Addr.add _ _).block ≠ _; rw [add_block]; exact hn219_2) | exact hn219_2) (.slice A216_2 ((rd_T40 y212 x70_4).f2).length c216_2)).trans hx219_0; (try have hy219_0 := fun (n_ : Nat) => (show (((((w60.drewN n_).setCell ⟨gb217, 0, none⟩ (.bool true)).setCell ⟨gb217, 1, none⟩ (.int .i64 ((rd_T40 y212 x70_4).f1))).setCell ⟨gb217, 2, none⟩ (.slice A216_2 ((rd_T40 y212 x70_4).f2).length c216_2))).cell? _ = some _ from hx219_0)); clear hn219_0; clear hn219_1; clear hn219_2; replace p219 := eq_true p219; replace q219 := eq_true q219))
          repeat (go_quiet (first | ((with_reducible refine gate_dst (N := 9) rfl ?_); (try (refine gate_guard (by rfl) ?_; dsimp only)); refine boxL 9 40 #[.bool false, .int .i64 0, .slice none 0 0] ?_; intro gb217 hg w60 BK217 hb; replace HO_6 := nr HO_6 hb; have GW217 := gw hg (bs1 HB GE200); have GE217 := gw hg (bs1 HB GE200); replace HB := Ah (below_step (bs1 HB GE200) hb); have NB200_217 := nn BK200 hg; have NB217_200 := nm BK200 hg; replace BK200 := nb BK200 hb; clear hb hg; have hnb61 := NB217_200.out; have hnc61 := NB200_217.out; obtain ⟨hcz62_0, hcz62_1, hcz62_2⟩ := cz3 BK217; obtain ⟨hfz62_0, hfz62_1, hfz62_2⟩ := fz3 BK217; obtain ⟨Ao63, co63, eo63⟩ := Kd.R_slice HO_6.out; subst eo63; have p218 : 0 ≤ ((ji53) : Int) := od; have q218 : (ji53) < (t208.length : Int) := od; obtain ⟨ad218, e218, hx218_0⟩ := Kd.at_int (Kd.R_reads' HO_6.out).2.2 (ji53) p218 q218; cases e218; have hn218_0 : ad218.block ≠ gb217 := Kd.own_blk (Kd.R_ne HO_6.out BK217.out (by decide)); have hn218_1 : ad218.block ≠ gb217 := Kd.own_blk (Kd.R_ne HO_6.out BK217.out (by decide)); have hn218_2 : ad218.block ≠ gb217 := Kd.own_blk (Kd.R_ne HO_6.out BK217.out (by decide)); replace hx218_0 := (cell_far (p := ⟨gb217, 0, none⟩) (by first | (rw [add_block]; exact hn218_0) | (show (Addr.add _ _).block ≠ _; rw [add_block]; exact hn218_0) | exact hn218_0) (.bool true)).trans hx218_0; replace hx218_0 := (cell_far (p := ⟨gb217, 1, none⟩) (by first | (rw [add_block]; exact hn218_1) | (show (Addr.add _ _).block ≠ _; rw [add_block]; exact hn218_1) | exact hn218_1) (.int .i64 ((rd_T40 y212 x70_4).f1))).trans hx218_0; replace hx218_0 := (cell_far (p := ⟨gb217, 2, none⟩) (by first | (rw [add_block]; exact hn218_2) | (show (Addr.add _ _).block ≠ _; rw [add_block]; exact hn218_2) | exact hn218_2) (.slice A216_2 ((rd_T40 y212 x70_4).f2).length c216_2)).trans hx218_0; (try have hy218_0 := fun (n_ : Nat) => (show (((((w60.drewN n_).setCell ⟨gb217, 0, none⟩ (.bool true)).setCell ⟨gb217, 1, none⟩ (.int .i64 ((rd_T40 y212 x70_4).f1))).setCell ⟨gb217, 2, none⟩ (.slice A216_2 ((rd_T40 y212 x70_4).f2).length c216_2))).cell? _ = some _ from hx218_0)); clear hn218_0; clear hn218_1; clear hn218_2; replace p218 := eq_true p218; replace q218 := eq_true q218; have p219 : 0 ≤ ((ji53) : Int) := od; have q219 : (ji53) < (t208.length : Int) := od; obtain ⟨ad219, e219, hx219_0⟩ := Kd.at_int (Kd.R_reads' HO_6.out).2.2 (ji53) p219 q219; obtain rfl : ad218 = ad219 := (by injection e219); have hn219_0 : ad218.block ≠ gb217 := Kd.own_blk (Kd.R_ne HO_6.out BK217.out (by decide)); have hn219_1 : ad218.block ≠ gb217 := Kd.own_blk (Kd.R_ne HO_6.out BK217.out (by decide)); have hn219_2 : ad218.block ≠ gb217 := Kd.own_blk (Kd.R_ne HO_6.out BK217.out (by decide)); replace hx219_0 := (cell_far (p := ⟨gb217, 0, none⟩) (by first | (rw [add_block]; exact hn219_0) | (show (Addr.add _ _).block ≠ _; rw [add_block]; exact hn219_0) | exact hn219_0) (.bool true)).trans hx219_0; replace hx219_0 := (cell_far (p := ⟨gb217, 1, none⟩) (by first | (rw [add_block]; exact hn219_1) | (show (Addr.add _ _).block ≠ _; rw [add_block]; exact hn219_1) | exact hn219_1) (.int .i64 ((rd_T40 y212 x70_4).f1))).trans hx219_0; replace hx219_0 := (cell_far (p := ⟨gb217, 2, none⟩) (by first | (rw [add_block]; exact hn219_2) | (show (Addr.add _ _).block ≠ _; rw [add_block]; exact hn219_2) | exact hn219_2) (.slice A216_2 ((rd_T40 y212 x70_4).f2).length c216_2)).trans hx219_0; (try have hy219_0 := fun (n_ : Nat) => (show (((((w60.drewN n_).setCell ⟨gb217, 0, none⟩ (.bool true)).setCell ⟨gb217, 1, none⟩ (.int .i64 ((rd_T40 y212 x70_4).f1))).setCell ⟨gb217, 2, none⟩ (.slice A216_2 ((rd_T40 y212 x70_4).f2).length c216_2))).cell? _ = some _ from hx219_0)); clear hn219_0; clear hn219_1; clear hn219_2; replace p219 := eq_true p219; replace q219 := eq_true q219)); try go_wp2_with (first | ((with_reducible refine gate_dst (N := 9) rfl ?_); (try (refine gate_guard (by rfl) ?_; dsimp only)); refine boxL 9 40 #[.bool false, .int .i64 0, .slice none 0 0] ?_; intro gb217 hg w60 BK217 hb; replace HO_6 := nr HO_6 hb; have GW217 := gw hg (bs1 HB GE200); have GE217 := gw hg (bs1 HB GE200); replace HB := Ah (below_step (bs1 HB GE200) hb); have NB200_217 := nn BK200 hg; have NB217_200 := nm BK200 hg; replace BK200 := nb BK200 hb; clear hb hg; have hnb61 := NB217_200.out; have hnc61 := NB200_217.out; obtain ⟨hcz62_0, hcz62_1, hcz62_2⟩ := cz3 BK217; obtain ⟨hfz62_0, hfz62_1, hfz62_2⟩ := fz3 BK217; obtain ⟨Ao63, co63, eo63⟩ := Kd.R_slice HO_6.out; subst eo63; have p218 : 0 ≤ ((ji53) : Int) := od; have q218 : (ji53) < (t208.length : Int) := od; obtain ⟨ad218, e218, hx218_0⟩ := Kd.at_int (Kd.R_reads' HO_6.out).2.2 (ji53) p218 q218; cases e218; have hn218_0 : ad218.block ≠ gb217 := Kd.own_blk (Kd.R_ne HO_6.out BK217.out (by decide)); have hn218_1 : ad218.block ≠ gb217 := Kd.own_blk (Kd.R_ne HO_6.out BK217.out (by decide)); have hn218_2 : ad218.block ≠ gb217 := Kd.own_blk (Kd.R_ne HO_6.out BK217.out (by decide)); replace hx218_0 := (cell_far (p := ⟨gb217, 0, none⟩) (by first | (rw [add_block]; exact hn218_0) | (show (Addr.add _ _).block ≠ _; rw [add_block]; exact hn218_0) | exact hn218_0) (.bool true)).trans hx218_0; replace hx218_0 := (cell_far (p := ⟨gb217, 1, none⟩) (by first | (rw [add_block]; exact hn218_1) | (show (Addr.add _ _).block ≠ _; rw [add_block]; exact hn218_1) | exact hn218_1) (.int .i64 ((rd_T40 y212 x70_4).f1))).trans hx218_0; replace hx218_0 := (cell_far (p := ⟨gb217, 2, none⟩) (by first | (rw [add_block]; exact hn218_2) | (show (Addr.add _ _).block ≠ _; rw [add_block]; exact hn218_2) | exact hn218_2) (.slice A216_2 ((rd_T40 y212 x70_4).f2).length c216_2)).trans hx218_0; (try have hy218_0 := fun (n_ : Nat) => (show (((((w60.drewN n_).setCell ⟨gb217, 0, none⟩ (.bool true)).setCell ⟨gb217, 1, none⟩ (.int .i64 ((rd_T40 y212 x70_4).f1))).setCell ⟨gb217, 2, none⟩ (.slice A216_2 ((rd_T40 y212 x70_4).f2).length c216_2))).cell? _ = some _ from hx218_0)); clear hn218_0; clear hn218_1; clear hn218_2; replace p218 := eq_true p218; replace q218 := eq_true q218; have p219 : 0 ≤ ((ji53) : Int) := od; have q219 : (ji53) < (t208.length : Int) := od; obtain ⟨ad219, e219, hx219_0⟩ := Kd.at_int (Kd.R_reads' HO_6.out).2.2 (ji53) p219 q219; obtain rfl : ad218 = ad219 := (by injection e219); have hn219_0 : ad218.block ≠ gb217 := Kd.own_blk (Kd.R_ne HO_6.out BK217.out (by decide)); have hn219_1 : ad218.block ≠ gb217 := Kd.own_blk (Kd.R_ne HO_6.out BK217.out (by decide)); have hn219_2 : ad218.block ≠ gb217 := Kd.own_blk (Kd.R_ne HO_6.out BK217.out (by decide)); replace hx219_0 := (cell_far (p := ⟨gb217, 0, none⟩) (by first | (rw [add_block]; exact hn219_0) | (show (Addr.add _ _).block ≠ _; rw [add_block]; exact hn219_0) | exact hn219_0) (.bool true)).trans hx219_0; replace hx219_0 := (cell_far (p := ⟨gb217, 1, none⟩) (by first | (rw [add_block]; exact hn219_1) | (show (Addr.add _ _).block ≠ _; rw [add_block]; exact hn219_1) | exact hn219_1) (.int .i64 ((rd_T40 y212 x70_4).f1))).trans hx219_0; replace hx219_0 := (cell_far (p := ⟨gb217, 2, none⟩) (by first | (rw [add_block]; exact hn219_2) | (show (Addr.add _ _).block ≠ _; rw [add_block]; exact hn219_2) | exact hn219_2) (.slice A216_2 ((rd_T40 y212 x70_4).f2).length c216_2)).trans hx219_0; (try have hy219_0 := fun (n_ : Nat) => (show (((((w60.drewN n_).setCell ⟨gb217, 0, none⟩ (.bool true)).setCell ⟨gb217, 1, none⟩ (.int .i64 ((rd_T40 y212 x70_4).f1))).setCell ⟨gb217, 2, none⟩ (.slice A216_2 ((rd_T40 y212 x70_4).f2).length c216_2))).cell? _ = some _ from hx219_0)); clear hn219_0; clear hn219_1; clear hn219_2; replace p219 := eq_true p219; replace q219 := eq_true q219)))
          go_ret
          exact ⟨by first | rfl | (simp [errW_none, errW_some] <;> rfl) | (simp only [← hji53]; first | rfl | (simp [errW_none, errW_some] <;> rfl)) | (simp [*, errW_none, errW_some] <;> rfl), bs2 HB GE200 GE217⟩
         replace c59 := Bool.eq_false_iff.mpr c59
         subst c59
         rw [if_neg fne] at H
         have H' := Ah H
         clear H
         have p216 : 0 ≤ (x70_4 : Int) := od
         have q216 : x70_4 < (y212.length : Int) := od
         obtain ⟨ad216, A216_2, c216_2, e216, hx216_0, hx216_1, hx216_2, hl216_2, hi216_2⟩ := at_T40 HR215.out x70_4 p216 q216
         (try rw [← Nbq58.out] at hx216_0)
         cases e216
         replace hx216_0 := (HB.out.cell (World.block_lt_of_cell? w _ hx216_0)).trans hx216_0
         replace hx216_1 := (HB.out.cell (World.block_lt_of_cell? w _ hx216_1)).trans hx216_1
         replace hx216_2 := (HB.out.cell (World.block_lt_of_cell? w _ hx216_2)).trans hx216_2
         have HR216_2 := Ah hi216_2
         have HC216_2 := Ah hl216_2
         clear hi216_2 hl216_2
         replace p216 := eq_true p216
         replace q216 := eq_true q216
         go_wp2_with (first | ((with_reducible refine gate_dst (N := 9) rfl ?_); (try (refine gate_guard (by rfl) ?_; dsimp only)); refine boxL 9 40 #[.bool false, .int .i64 0, .slice none 0 0] ?_; intro gb217 hg w64 BK217 hb; replace HO_6 := nr HO_6 hb; have GW217 := gw hg (bs1 HB GE200); have GE217 := gw hg (bs1 HB GE200); replace HB := Ah (below_step (bs1 HB GE200) hb); have NB200_217 := nn BK200 hg; have NB217_200 := nm BK200 hg; replace BK200 := nb BK200 hb; clear hb hg; have hnb65 := NB217_200.out; have hnc65 := NB200_217.out; obtain ⟨hcz66_0, hcz66_1, hcz66_2⟩ := cz3 BK217; obtain ⟨hfz66_0, hfz66_1, hfz66_2⟩ := fz3 BK217; obtain ⟨Ao67, co67, eo67⟩ := Kd.R_slice HO_6.out; subst eo67; have p218 : 0 ≤ ((ji53) : Int) := od; have q218 : (ji53) < (t208.length : Int) := od; obtain ⟨ad218, e218, hx218_0⟩ := Kd.at_int (Kd.R_reads' HO_6.out).2.2 (ji53) p218 q218; cases e218; have hn218_0 : ad218.block ≠ gb217 := Kd.own_blk (Kd.R_ne HO_6.out BK217.out (by decide)); have hn218_1 : ad218.block ≠ gb217 := Kd.own_blk (Kd.R_ne HO_6.out BK217.out (by decide)); have hn218_2 : ad218.block ≠ gb217 := Kd.own_blk (Kd.R_ne HO_6.out BK217.out (by decide)); replace hx218_0 := (cell_far (p := ⟨gb217, 0, none⟩) (by first | (rw [add_block]; exact hn218_0) | (show (Addr.add _ _).block ≠ _; rw [add_block]; exact hn218_0) | exact hn218_0) (.bool false)).trans hx218_0; replace hx218_0 := (cell_far (p := ⟨gb217, 1, none⟩) (by first | (rw [add_block]; exact hn218_1) | (show (Addr.add _ _).block ≠ _; rw [add_block]; exact hn218_1) | exact hn218_1) (.int .i64 ((rd_T40 y212 x70_4).f1))).trans hx218_0; replace hx218_0 := (cell_far (p := ⟨gb217, 2, none⟩) (by first | (rw [add_block]; exact hn218_2) | (show (Addr.add _ _).block ≠ _; rw [add_block]; exact hn218_2) | exact hn218_2) (.slice A216_2 ((rd_T40 y212 x70_4).f2).length c216_2)).trans hx218_0; (try have hy218_0 := fun (n_ : Nat) => (show (((((w64.drewN n_).setCell ⟨gb217, 0, none⟩ (.bool false)).setCell ⟨gb217, 1, none⟩ (.int .i64 ((rd_T40 y212 x70_4).f1))).setCell ⟨gb217, 2, none⟩ (.slice A216_2 ((rd_T40 y212 x70_4).f2).length c216_2))).cell? _ = some _ from hx218_0)); clear hn218_0; clear hn218_1; clear hn218_2; replace p218 := eq_true p218; replace q218 := eq_true q218; have p219 : 0 ≤ ((ji53) : Int) := od; have q219 : (ji53) < (t208.length : Int) := od; obtain ⟨ad219, e219, hx219_0⟩ := Kd.at_int (Kd.R_reads' HO_6.out).2.2 (ji53) p219 q219; obtain rfl : ad218 = ad219 := (by injection e219); have hn219_0 : ad218.block ≠ gb217 := Kd.own_blk (Kd.R_ne HO_6.out BK217.out (by decide)); have hn219_1 : ad218.block ≠ gb217 := Kd.own_blk (Kd.R_ne HO_6.out BK217.out (by decide)); have hn219_2 : ad218.block ≠ gb217 := Kd.own_blk (Kd.R_ne HO_6.out BK217.out (by decide)); replace hx219_0 := (cell_far (p := ⟨gb217, 0, none⟩) (by first | (rw [add_block]; exact hn219_0) | (show (Addr.add _ _).block ≠ _; rw [add_block]; exact hn219_0) | exact hn219_0) (.bool false)).trans hx219_0; replace hx219_0 := (cell_far (p := ⟨gb217, 1, none⟩) (by first | (rw [add_block]; exact hn219_1) | (show (Addr.add _ _).block ≠ _; rw [add_block]; exact hn219_1) | exact hn219_1) (.int .i64 ((rd_T40 y212 x70_4).f1))).trans hx219_0; replace hx219_0 := (cell_far (p := ⟨gb217, 2, none⟩) (by first | (rw [add_block]; exact hn219_2) | (show (Addr.add _ _).block ≠ _; rw [add_block]; exact hn219_2) | exact hn219_2) (.slice A216_2 ((rd_T40 y212 x70_4).f2).length c216_2)).trans hx219_0; (try have hy219_0 := fun (n_ : Nat) => (show (((((w64.drewN n_).setCell ⟨gb217, 0, none⟩ (.bool false)).setCell ⟨gb217, 1, none⟩ (.int .i64 ((rd_T40 y212 x70_4).f1))).setCell ⟨gb217, 2, none⟩ (.slice A216_2 ((rd_T40 y212 x70_4).f2).length c216_2))).cell? _ = some _ from hx219_0)); clear hn219_0; clear hn219_1; clear hn219_2; replace p219 := eq_true p219; replace q219 := eq_true q219))
         repeat (go_quiet (first | ((with_reducible refine gate_dst (N := 9) rfl ?_); (try (refine gate_guard (by rfl) ?_; dsimp only)); refine boxL 9 40 #[.bool false, .int .i64 0, .slice none 0 0] ?_; intro gb217 hg w64 BK217 hb; replace HO_6 := nr HO_6 hb; have GW217 := gw hg (bs1 HB GE200); have GE217 := gw hg (bs1 HB GE200); replace HB := Ah (below_step (bs1 HB GE200) hb); have NB200_217 := nn BK200 hg; have NB217_200 := nm BK200 hg; replace BK200 := nb BK200 hb; clear hb hg; have hnb65 := NB217_200.out; have hnc65 := NB200_217.out; obtain ⟨hcz66_0, hcz66_1, hcz66_2⟩ := cz3 BK217; obtain ⟨hfz66_0, hfz66_1, hfz66_2⟩ := fz3 BK217; obtain ⟨Ao67, co67, eo67⟩ := Kd.R_slice HO_6.out; subst eo67; have p218 : 0 ≤ ((ji53) : Int) := od; have q218 : (ji53) < (t208.length : Int) := od; obtain ⟨ad218, e218, hx218_0⟩ := Kd.at_int (Kd.R_reads' HO_6.out).2.2 (ji53) p218 q218; cases e218; have hn218_0 : ad218.block ≠ gb217 := Kd.own_blk (Kd.R_ne HO_6.out BK217.out (by decide)); have hn218_1 : ad218.block ≠ gb217 := Kd.own_blk (Kd.R_ne HO_6.out BK217.out (by decide)); have hn218_2 : ad218.block ≠ gb217 := Kd.own_blk (Kd.R_ne HO_6.out BK217.out (by decide)); replace hx218_0 := (cell_far (p := ⟨gb217, 0, none⟩) (by first | (rw [add_block]; exact hn218_0) | (show (Addr.add _ _).block ≠ _; rw [add_block]; exact hn218_0) | exact hn218_0) (.bool false)).trans hx218_0; replace hx218_0 := (cell_far (p := ⟨gb217, 1, none⟩) (by first | (rw [add_block]; exact hn218_1) | (show (Addr.add _ _).block ≠ _; rw [add_block]; exact hn218_1) | exact hn218_1) (.int .i64 ((rd_T40 y212 x70_4).f1))).trans hx218_0; replace hx218_0 := (cell_far (p := ⟨gb217, 2, none⟩) (by first | (rw [add_block]; exact hn218_2) | (show (Addr.add _ _).block ≠ _; rw [add_block]; exact hn218_2) | exact hn218_2) (.slice A216_2 ((rd_T40 y212 x70_4).f2).length c216_2)).trans hx218_0; (try have hy218_0 := fun (n_ : Nat) => (show (((((w64.drewN n_).setCell ⟨gb217, 0, none⟩ (.bool false)).setCell ⟨gb217, 1, none⟩ (.int .i64 ((rd_T40 y212 x70_4).f1))).setCell ⟨gb217, 2, none⟩ (.slice A216_2 ((rd_T40 y212 x70_4).f2).length c216_2))).cell? _ = some _ from hx218_0)); clear hn218_0; clear hn218_1; clear hn218_2; replace p218 := eq_true p218; replace q218 := eq_true q218; have p219 : 0 ≤ ((ji53) : Int) := od; have q219 : (ji53) < (t208.length : Int) := od; obtain ⟨ad219, e219, hx219_0⟩ := Kd.at_int (Kd.R_reads' HO_6.out).2.2 (ji53) p219 q219; obtain rfl : ad218 = ad219 := (by injection e219); have hn219_0 : ad218.block ≠ gb217 := Kd.own_blk (Kd.R_ne HO_6.out BK217.out (by decide)); have hn219_1 : ad218.block ≠ gb217 := Kd.own_blk (Kd.R_ne HO_6.out BK217.out (by decide)); have hn219_2 : ad218.block ≠ gb217 := Kd.own_blk (Kd.R_ne HO_6.out BK217.out (by decide)); replace hx219_0 := (cell_far (p := ⟨gb217, 0, none⟩) (by first | (rw [add_block]; exact hn219_0) | (show (Addr.add _ _).block ≠ _; rw [add_block]; exact hn219_0) | exact hn219_0) (.bool false)).trans hx219_0; replace hx219_0 := (cell_far (p := ⟨gb217, 1, none⟩) (by first | (rw [add_block]; exact hn219_1) | (show (Addr.add _ _).block ≠ _; rw [add_block]; exact hn219_1) | exact hn219_1) (.int .i64 ((rd_T40 y212 x70_4).f1))).trans hx219_0; replace hx219_0 := (cell_far (p := ⟨gb217, 2, none⟩) (by first | (rw [add_block]; exact hn219_2) | (show (Addr.add _ _).block ≠ _; rw [add_block]; exact hn219_2) | exact hn219_2) (.slice A216_2 ((rd_T40 y212 x70_4).f2).length c216_2)).trans hx219_0; (try have hy219_0 := fun (n_ : Nat) => (show (((((w64.drewN n_).setCell ⟨gb217, 0, none⟩ (.bool false)).setCell ⟨gb217, 1, none⟩ (.int .i64 ((rd_T40 y212 x70_4).f1))).setCell ⟨gb217, 2, none⟩ (.slice A216_2 ((rd_T40 y212 x70_4).f2).length c216_2))).cell? _ = some _ from hx219_0)); clear hn219_0; clear hn219_1; clear hn219_2; replace p219 := eq_true p219; replace q219 := eq_true q219)); try go_wp2_with (first | ((with_reducible refine gate_dst (N := 9) rfl ?_); (try (refine gate_guard (by rfl) ?_; dsimp only)); refine boxL 9 40 #[.bool false, .int .i64 0, .slice none 0 0] ?_; intro gb217 hg w64 BK217 hb; replace HO_6 := nr HO_6 hb; have GW217 := gw hg (bs1 HB GE200); have GE217 := gw hg (bs1 HB GE200); replace HB := Ah (below_step (bs1 HB GE200) hb); have NB200_217 := nn BK200 hg; have NB217_200 := nm BK200 hg; replace BK200 := nb BK200 hb; clear hb hg; have hnb65 := NB217_200.out; have hnc65 := NB200_217.out; obtain ⟨hcz66_0, hcz66_1, hcz66_2⟩ := cz3 BK217; obtain ⟨hfz66_0, hfz66_1, hfz66_2⟩ := fz3 BK217; obtain ⟨Ao67, co67, eo67⟩ := Kd.R_slice HO_6.out; subst eo67; have p218 : 0 ≤ ((ji53) : Int) := od; have q218 : (ji53) < (t208.length : Int) := od; obtain ⟨ad218, e218, hx218_0⟩ := Kd.at_int (Kd.R_reads' HO_6.out).2.2 (ji53) p218 q218; cases e218; have hn218_0 : ad218.block ≠ gb217 := Kd.own_blk (Kd.R_ne HO_6.out BK217.out (by decide)); have hn218_1 : ad218.block ≠ gb217 := Kd.own_blk (Kd.R_ne HO_6.out BK217.out (by decide)); have hn218_2 : ad218.block ≠ gb217 := Kd.own_blk (Kd.R_ne HO_6.out BK217.out (by decide)); replace hx218_0 := (cell_far (p := ⟨gb217, 0, none⟩) (by first | (rw [add_block]; exact hn218_0) | (show (Addr.add _ _).block ≠ _; rw [add_block]; exact hn218_0) | exact hn218_0) (.bool false)).trans hx218_0; replace hx218_0 := (cell_far (p := ⟨gb217, 1, none⟩) (by first | (rw [add_block]; exact hn218_1) | (show (Addr.add _ _).block ≠ _; rw [add_block]; exact hn218_1) | exact hn218_1) (.int .i64 ((rd_T40 y212 x70_4).f1))).trans hx218_0; replace hx218_0 := (cell_far (p := ⟨gb217, 2, none⟩) (by first | (rw [add_block]; exact hn218_2) | (show (Addr.add _ _).block ≠ _; rw [add_block]; exact hn218_2) | exact hn218_2) (.slice A216_2 ((rd_T40 y212 x70_4).f2).length c216_2)).trans hx218_0; (try have hy218_0 := fun (n_ : Nat) => (show (((((w64.drewN n_).setCell ⟨gb217, 0, none⟩ (.bool false)).setCell ⟨gb217, 1, none⟩ (.int .i64 ((rd_T40 y212 x70_4).f1))).setCell ⟨gb217, 2, none⟩ (.slice A216_2 ((rd_T40 y212 x70_4).f2).length c216_2))).cell? _ = some _ from hx218_0)); clear hn218_0; clear hn218_1; clear hn218_2; replace p218 := eq_true p218; replace q218 := eq_true q218; have p219 : 0 ≤ ((ji53) : Int) := od; have q219 : (ji53) < (t208.length : Int) := od; obtain ⟨ad219, e219, hx219_0⟩ := Kd.at_int (Kd.R_reads' HO_6.out).2.2 (ji53) p219 q219; obtain rfl : ad218 = ad219 := (by injection e219); have hn219_0 : ad218.block ≠ gb217 := Kd.own_blk (Kd.R_ne HO_6.out BK217.out (by decide)); have hn219_1 : ad218.block ≠ gb217 := Kd.own_blk (Kd.R_ne HO_6.out BK217.out (by decide)); have hn219_2 : ad218.block ≠ gb217 := Kd.own_blk (Kd.R_ne HO_6.out BK217.out (by decide)); replace hx219_0 := (cell_far (p := ⟨gb217, 0, none⟩) (by first | (rw [add_block]; exact hn219_0) | (show (Addr.add _ _).block ≠ _; rw [add_block]; exact hn219_0) | exact hn219_0) (.bool false)).trans hx219_0; replace hx219_0 := (cell_far (p := ⟨gb217, 1, none⟩) (by first | (rw [add_block]; exact hn219_1) | (show (Addr.add _ _).block ≠ _; rw [add_block]; exact hn219_1) | exact hn219_1) (.int .i64 ((rd_T40 y212 x70_4).f1))).trans hx219_0; replace hx219_0 := (cell_far (p := ⟨gb217, 2, none⟩) (by first | (rw [add_block]; exact hn219_2) | (show (Addr.add _ _).block ≠ _; rw [add_block]; exact hn219_2) | exact hn219_2) (.slice A216_2 ((rd_T40 y212 x70_4).f2).length c216_2)).trans hx219_0; (try have hy219_0 := fun (n_ : Nat) => (show (((((w64.drewN n_).setCell ⟨gb217, 0, none⟩ (.bool false)).setCell ⟨gb217, 1, none⟩ (.int .i64 ((rd_T40 y212 x70_4).f1))).setCell ⟨gb217, 2, none⟩ (.slice A216_2 ((rd_T40 y212 x70_4).f2).length c216_2))).cell? _ = some _ from hx219_0)); clear hn219_0; clear hn219_1; clear hn219_2; replace p219 := eq_true p219; replace q219 := eq_true q219)))
         go_roundg k4
         case measure => have := HJ1.out; have := HK2.out; have := HJ41.out; have := HK4.out; omega
         case rel => exact ⟨(ji53), (by first | rfl | (simp; done) | (simp only [← hji53] <;> (first | rfl | simp)) | (simp [*]; done)), H', ⟨by have := HJ1.out; have := HK2.out; have := HJ41.out; have := HK4.out; omega⟩, ⟨by (with_reducible repeat (first | apply Kd.R_alloc | apply Kd.R_drewN | apply Kd.R_drew)); exact Kd.R_mono (Kd.R_far (p := ⟨gb217, 2, none⟩) (Kd.R_far (p := ⟨gb217, 1, none⟩) (Kd.R_far (p := ⟨gb217, 0, none⟩) (Kd.R_types HO_6.out BK217.out (by decide)) (fun _ hk => hk.2) (.bool false)) (fun _ hk => hk.2) (.int .i64 ((rd_T40 y212 x70_4).f1))) (fun _ hk => hk.2) (.slice A216_2 ((rd_T40 y212 x70_4).f2).length c216_2)) (fun _ hk => trivial)⟩, ⟨bf BK200 NB200_217⟩, ⟨bs2 HB GE200 GE217⟩⟩

/-! ### laws_eqName: function 52 -/
def laws_eqName.f (a0_0 : ByteArray) (a0_1 : Int) (a1_0 : ByteArray) (a1_1 : Int) : Option (Bool) := if a0_0.toList = a1_0.toList then (if a0_1 = a1_1 then (some true) else (some false)) else (some false)
set_option maxHeartbeats 8000000 in
set_option maxRecDepth 100000 in
theorem laws_eqName.calls (a0_0 : ByteArray) (a0_1 : Int) (a1_0 : ByteArray) (a1_1 : Int) (r : Bool) (w : World) (h : laws_eqName.f a0_0 a0_1 a1_0 a1_1 = some r) :
  Calls Tryd.prog 52 #[.agg #[.string a0_0, .int .i64 a0_1], .agg #[.string a1_0, .int .i64 a1_1]] w fun e w' => e = .returned (.bool r) ∧ Below w.heap.size w w' := by
 have hu42 := Tryd.underlying42
 have HB := Ah (Below.refl w.heap.size w)
 have H : (if a0_0.toList = a1_0.toList then (if a0_1 = a1_1 then (some true) else (some false)) else (some false)) = some r := h
 clear h
 by_cases c3 : a0_0.toList = a1_0.toList
 rotate_left
 ·
  rw [if_neg c3] at H
  have c3b0 : (a0_0.toList == a1_0.toList) = false := beq_eq_false_iff_ne.mpr c3
  have c3b1 : (a0_0.toList != a1_0.toList) = true := bne_iff_ne.mpr c3
  obtain rfl := Option.some.inj H
  go_enter Tryd.func52, Tryd.ntmps52
  go_wp2_with (first | ((with_reducible refine gate_dst (N := 2) rfl ?_); refine boxL 2 42 #[.string a0_0, .int .i64 a0_1] ?_; intro gb220 hg w15 BK220 hb; have GW220 := gw hg (bs HB); have GE220 := gw hg (bs HB); replace HB := Ah (below_step (bs HB) hb); clear hb hg) | ((with_reducible refine gate_dst (N := 3) rfl ?_); refine boxL 3 42 #[.string a1_0, .int .i64 a1_1] ?_; intro gb221 hg w16 BK221 hb; have GW221 := gw hg (bs1 HB GE220); have GE221 := gw hg (bs1 HB GE220); replace HB := Ah (below_step (bs1 HB GE220) hb); have NB220_221 := nn BK220 hg; have NB221_220 := nm BK220 hg; replace BK220 := nb BK220 hb; clear hb hg; have hnb17 := NB220_221.out; have hnc17 := NB221_220.out; obtain ⟨hcz18_0, hcz18_1⟩ := cz2 BK220; obtain ⟨hfz18_0, hfz18_1⟩ := fz2 BK220; obtain ⟨hcz19_0, hcz19_1⟩ := cz2 BK221; obtain ⟨hfz19_0, hfz19_1⟩ := fz2 BK221))
  go_ret
  exact ⟨er, bs2 HB GE220 GE221⟩
 rw [if_pos c3] at H
 have c3b0 : (a0_0.toList == a1_0.toList) = true := beq_iff_eq.mpr c3
 have c3b1 : (a0_0.toList != a1_0.toList) = false := bne_eq_false_iff_eq.mpr c3
 clear c3
 by_cases c4 : a0_1 = a1_1
 ·
  rw [if_pos c4] at H
  have c4b0 : (a0_1 == a1_1) = true := beq_iff_eq.mpr c4
  have c4b1 : (a0_1 != a1_1) = false := bne_eq_false_iff_eq.mpr c4
  clear c4
  obtain rfl := Option.some.inj H
  go_enter Tryd.func52, Tryd.ntmps52
  go_wp2_with (first | ((with_reducible refine gate_dst (N := 2) rfl ?_); refine boxL 2 42 #[.string a0_0, .int .i64 a0_1] ?_; intro gb220 hg w5 BK220 hb; have GW220 := gw hg (bs HB); have GE220 := gw hg (bs HB); replace HB := Ah (below_step (bs HB) hb); clear hb hg) | ((with_reducible refine gate_dst (N := 3) rfl ?_); refine boxL 3 42 #[.string a1_0, .int .i64 a1_1] ?_; intro gb221 hg w6 BK221 hb; have GW221 := gw hg (bs1 HB GE220); have GE221 := gw hg (bs1 HB GE220); replace HB := Ah (below_step (bs1 HB GE220) hb); have NB220_221 := nn BK220 hg; have NB221_220 := nm BK220 hg; replace BK220 := nb BK220 hb; clear hb hg; have hnb7 := NB220_221.out; have hnc7 := NB221_220.out; obtain ⟨hcz8_0, hcz8_1⟩ := cz2 BK220; obtain ⟨hfz8_0, hfz8_1⟩ := fz2 BK220; obtain ⟨hcz9_0, hcz9_1⟩ := cz2 BK221; obtain ⟨hfz9_0, hfz9_1⟩ := fz2 BK221))
  go_ret
  exact ⟨er, bs2 HB GE220 GE221⟩
 rw [if_neg c4] at H
 have c4b0 : (a0_1 == a1_1) = false := beq_eq_false_iff_ne.mpr c4
 have c4b1 : (a0_1 != a1_1) = true := bne_iff_ne.mpr c4
 obtain rfl := Option.some.inj H
 go_enter Tryd.func52, Tryd.ntmps52
 go_wp2_with (first | ((with_reducible refine gate_dst (N := 2) rfl ?_); refine boxL 2 42 #[.string a0_0, .int .i64 a0_1] ?_; intro gb220 hg w10 BK220 hb; have GW220 := gw hg (bs HB); have GE220 := gw hg (bs HB); replace HB := Ah (below_step (bs HB) hb); clear hb hg) | ((with_reducible refine gate_dst (N := 3) rfl ?_); refine boxL 3 42 #[.string a1_0, .int .i64 a1_1] ?_; intro gb221 hg w11 BK221 hb; have GW221 := gw hg (bs1 HB GE220); have GE221 := gw hg (bs1 HB GE220); replace HB := Ah (below_step (bs1 HB GE220) hb); have NB220_221 := nn BK220 hg; have NB221_220 := nm BK220 hg; replace BK220 := nb BK220 hb; clear hb hg; have hnb12 := NB220_221.out; have hnc12 := NB221_220.out; obtain ⟨hcz13_0, hcz13_1⟩ := cz2 BK220; obtain ⟨hfz13_0, hfz13_1⟩ := fz2 BK220; obtain ⟨hcz14_0, hcz14_1⟩ := cz2 BK221; obtain ⟨hfz14_0, hfz14_1⟩ := fz2 BK221))
 go_ret
 exact ⟨er, bs2 HB GE220 GE221⟩

/-! ### laws_eqNameS: function 37 -/
def laws_eqNameS.l0 : Nat → List (S42) → List (S42) → Int → Option (Bool)
 | 0, _, _, _ => none
 | k + 1, x0, x1, x5 => if x5 < (x0.length : Int) then (if 0 ≤ x5 then (if x5 < (x1.length : Int) then ((laws_eqName.f ((rd_T42 x0 x5).f0) ((rd_T42 x0 x5).f1) ((rd_T42 x1 x5).f0) ((rd_T42 x1 x5).f1)).bind fun t224 => (if t224 = true then (laws_eqNameS.l0 k x0 x1 (wrap64 (x5 + 1))) else (some false))) else (none)) else (none)) else (some true)
def laws_eqNameS.f (k : Nat) (l0 : List (S42)) (l1 : List (S42)) : Option (Bool) := if (l0.length : Int) = (l1.length : Int) then (laws_eqNameS.l0 k l0 l1 0) else (some false)
theorem laws_eqNameS.mono_l : ∀ k, (∀ y0 y1 y2, LeO (laws_eqNameS.l0 k y0 y1 y2) (laws_eqNameS.l0 (k + 1) y0 y1 y2))
 | 0 => fun _ _ _ r h => by simp [laws_eqNameS.l0] at h
 | k + 1 => by
  have ih0 := laws_eqNameS.mono_l k
  ·
   intro y0 y1 y2
   unfold laws_eqNameS.l0
   repeat' first
   | (with_reducible exact ih0 _ _ _)
   | (with_reducible exact LeO.refl _)
   | (with_reducible exact LeO.none _)
   | (with_reducible refine LeO.ite ?_ ?_)
   | (with_reducible refine LeO.bind ?_ (fun _ => ?_))
   | exact ih0 _ _ _
   | exact LeO.none _
   | refine LeO.ite ?_ ?_
   | refine LeO.bind ?_ (fun _ => ?_)
theorem laws_eqNameS.mono : ∀ a0 a1 k, LeO (laws_eqNameS.f k a0 a1) (laws_eqNameS.f (k + 1) a0 a1) := by
 intro a0 a1 k
 have ih0 := laws_eqNameS.mono_l k
 unfold laws_eqNameS.f
 repeat' first
   | (with_reducible exact ih0 _ _ _)
   | (with_reducible exact LeO.refl _)
   | (with_reducible exact LeO.none _)
   | (with_reducible refine LeO.ite ?_ ?_)
   | (with_reducible refine LeO.bind ?_ (fun _ => ?_))
   | exact ih0 _ _ _
   | exact LeO.none _
   | refine LeO.ite ?_ ?_
   | refine LeO.bind ?_ (fun _ => ?_)
def laws_eqNameS.T6 : Bool × List (List Nat × List Nat) := (true, [([], []), ([], []), ([0, 1], [0, 1]), ([2], [2]), ([], []), ([], []), ([4, 5], [4, 5]), ([6], [6]), ([3, 7], [3, 7]), ([8], [8])])
def laws_eqNameS.B6 : List Nat := [0, 0, 3, 7, 0, 0, 48, 112, 255, 511]
theorem laws_eqNameS.tab6 : rtab .any (opsOf Tryd.f37 6) = laws_eqNameS.T6 := by kernel_rfl
theorem laws_eqNameS.bits6 : waitsOk laws_eqNameS.T6.2 laws_eqNameS.B6 = true := by kernel_rfl
set_option maxHeartbeats 8000000 in
set_option maxRecDepth 100000 in
theorem laws_eqNameS.calls (k : Nat) (A0 : Option Addr) (c0 : Nat) (l0 : List (S42)) (A1 : Option Addr) (c1 : Nat) (l1 : List (S42)) (r : Bool) (w : World) (hr0 : Kd.C k42 w A0 l0.length l0) (hc0 : l0.length ≤ c0) (hr1 : Kd.C k42 w A1 l1.length l1) (hc1 : l1.length ≤ c1) (h : laws_eqNameS.f k l0 l1 = some r) :
  Calls Tryd.prog 37 #[.slice A0 l0.length c0, .slice A1 l1.length c1] w fun e w' => e = .returned (.bool r) ∧ Below w.heap.size w w' := by
 have hu42 := Tryd.underlying42
 have HR0 := Ah hr0
 have HC0 := Ah hc0
 clear hr0 hc0
 have HR1 := Ah hr1
 have HC1 := Ah hc1
 clear hr1 hc1
 have HB := Ah (Below.refl w.heap.size w)
 have H : (if (l0.length : Int) = (l1.length : Int) then (laws_eqNameS.l0 k l0 l1 0) else (some false)) = some r := h
 clear h
 by_cases c3 : (l0.length : Int) = (l1.length : Int)
 rotate_left
 ·
  rw [if_neg c3] at H
  have c3b0 : ((l0.length : Int) == (l1.length : Int)) = false := beq_eq_false_iff_ne.mpr c3
  have c3b1 : ((l0.length : Int) != (l1.length : Int)) = true := bne_iff_ne.mpr c3
  have c3b2 : (l0.length == l1.length) = false := by first | simpa using c3 | (simp at c3 ⊢; omega)
  obtain rfl := Option.some.inj H
  go_enter Tryd.func37, Tryd.ntmps37
  go_wp2
  go_ret
  exact ⟨er, bs HB⟩
 rw [if_pos c3] at H
 have c3b0 : ((l0.length : Int) == (l1.length : Int)) = true := beq_iff_eq.mpr c3
 have c3b1 : ((l0.length : Int) != (l1.length : Int)) = false := bne_eq_false_iff_eq.mpr c3
 have c3b2 : (l0.length == l1.length) = true := by first | simpa using c3 | (simp at c3 ⊢; omega)
 clear c3
 have H' := Ah H
 clear H
 go_enter Tryd.func37, Tryd.ntmps37
 go_wp2
 go_loopg [5] k (fun kq v5 w' => ∃ (x5_1 : Int), v5 = .int .i64 x5_1 ∧ Aside0 (laws_eqNameS.l0 kq l0 l1 x5_1 = some r) ∧ Aside0 (kq ≤ k) ∧ Aside0 (Below w.heap.size w w'))
 case atStart => exact ⟨(0), e3, H', ⟨Nat.le_refl _⟩, ⟨bs HB⟩⟩
 case round =>
  clear H'
  try clear c1
  try clear p2
  try clear c3
  try clear c3b0
  try clear c3b1
  try clear c3b2
  obtain ⟨x5_1, rfl, HA, HK1, HB⟩ := hrel
  cases gk with
  | zero => exact absurd HA.out (by simp [laws_eqNameS.l0])
  | succ k1 =>
   have H := HA.out
   clear HA
   simp only [laws_eqNameS.l0] at H
   by_cases c4 : x5_1 < (l0.length : Int)
   rotate_left
   ·
    rw [if_neg c4] at H
    have c4b0 : decide (x5_1 < (l0.length : Int)) = false := decide_eq_false c4
    clear c4
    obtain rfl := Option.some.inj H
    go_wp2
    go_ret
    exact ⟨er, bs HB⟩
   rw [if_pos c4] at H
   have c4b0 : decide (x5_1 < (l0.length : Int)) = true := decide_eq_true c4
   clear c4
   by_cases c5 : 0 ≤ x5_1
   rotate_left
   ·
    rw [if_neg c5] at H
    exact absurd H (by simp)
   rw [if_pos c5] at H
   have c5b0 : decide (0 ≤ x5_1) = true := decide_eq_true c5
   clear c5
   by_cases c6 : x5_1 < (l1.length : Int)
   rotate_left
   ·
    rw [if_neg c6] at H
    exact absurd H (by simp)
   rw [if_pos c6] at H
   have c6b0 : decide (x5_1 < (l1.length : Int)) = true := decide_eq_true c6
   clear c6
   replace H := Option.bind_eq_some_iff.mp H
   obtain ⟨t224, A70, H⟩ := H
   try dsimp only at H
   have A7 := Ah A70
   clear A70
   have H_ := Ah H
   clear H
   try go_wp2
   have n0_ := Ah (below_drew1 HB.out)
   clear HB
   have HB := n0_
   clear n0_
   have p222 : 0 ≤ (x5_1 : Int) := od
   have q222 : x5_1 < (l0.length : Int) := od
   obtain ⟨ad222, e222, hx222_0, hx222_1⟩ := at_T42 HR0.out x5_1 p222 q222
   have hw222_1 := hx222_1
   have hw222_0 := hx222_0
   cases e222
   replace hx222_0 := (HB.out.cell (World.block_lt_of_cell? w _ hx222_0)).trans hx222_0
   replace hx222_1 := (HB.out.cell (World.block_lt_of_cell? w _ hx222_1)).trans hx222_1
   replace p222 := eq_true p222
   replace q222 := eq_true q222
   have p223 : 0 ≤ (x5_1 : Int) := od
   have q223 : x5_1 < (l1.length : Int) := od
   obtain ⟨ad223, e223, hx223_0, hx223_1⟩ := at_T42 HR1.out x5_1 p223 q223
   have hw223_1 := hx223_1
   have hw223_0 := hx223_0
   cases e223
   replace hx223_0 := (HB.out.cell (World.block_lt_of_cell? w _ hx223_0)).trans hx223_0
   replace hx223_1 := (HB.out.cell (World.block_lt_of_cell? w _ hx223_1)).trans hx223_1
   replace p223 := eq_true p223
   replace q223 := eq_true q223
   refine start_ (n := 10) (S := fun w' => w'.cell? (ad222.add ((x5_1).toNat * 2)) = some (.string ((rd_T42 l0 x5_1).f0)) ∧ w'.cell? ⟨(ad222.add ((x5_1).toNat * 2)).block, (ad222.add ((x5_1).toNat * 2)).off + 1, none⟩ = some (.int .i64 ((rd_T42 l0 x5_1).f1)) ∧ w'.cell? (ad223.add ((x5_1).toNat * 2)) = some (.string ((rd_T42 l1 x5_1).f0)) ∧ w'.cell? ⟨(ad223.add ((x5_1).toNat * 2)).block, (ad223.add ((x5_1).toNat * 2)).off + 1, none⟩ = some (.int .i64 ((rd_T42 l1 x5_1).f1))) (ds := []) #[false, false, false, false, false, false, false, false, false, false] (by kernel_rfl) rfl rfl ⟨((HB.out.cell (World.block_lt_of_cell? w _ hw222_0)).trans hw222_0), ((HB.out.cell (World.block_lt_of_cell? w _ hw222_1)).trans hw222_1), ((HB.out.cell (World.block_lt_of_cell? w _ hw223_0)).trans hw223_0), ((HB.out.cell (World.block_lt_of_cell? w _ hw223_1)).trans hw223_1)⟩ (fun hHeld => ?_); refine with_tabW laws_eqNameS.tab6 laws_eqNameS.bits6 (fun HT_ HW_ => ?_)
   generalize wr.drew = w9 at HB hx222_0 hx222_1 hx223_0 hx223_1 hHeld ⊢
   refine pureS 0 17 HT_.out ?_
   refine pureS 1 18 HT_.out ?_
   refine pureS 2 19 HT_.out ?_
   refine pureS 4 21 HT_.out ?_
   refine pureS 5 22 HT_.out ?_
   refine pureS 6 23 HT_.out ?_
   refine takeS 3 20 HT_.out HW_.out hHeld (hr := by rintro w' ⟨s0, s1, s2, s3⟩; go_simp; with_reducible rfl) (h := ?_)
   refine takeS 7 24 HT_.out HW_.out hHeld (hr := by rintro w' ⟨s0, s1, s2, s3⟩; go_simp; with_reducible rfl) (h := ?_)
   refine one_ (i := 8) (N := some 25) #[true, true, true, true, true, true, true, true, true, false] rfl rfl (one_of HT_.out (by kernel_rfl)) (by decide) (fun K hK => ?_)
   refine goes_ Tryd.func52 (by kernel_rfl) rfl #[.agg #[.string ((rd_T42 l0 x5_1).f0), .int .i64 ((rd_T42 l0 x5_1).f1)], .agg #[.string ((rd_T42 l1 x5_1).f0), .int .i64 ((rd_T42 l1 x5_1).f1)]] (by rfl) rfl rfl (by (try simp only [List.map_toArray, List.map_cons, List.map_nil]); first | done | rfl | (simp only [List.length_drop, List.length_take]; rfl)) ?_
   have H := H_.out
   clear H_
   by_cases c8 : t224 = true
   rotate_left
   ·
    replace c8 := Bool.eq_false_iff.mpr c8
    subst c8
    rw [if_neg fne] at H
    obtain rfl := Option.some.inj H
    with_reducible refine (laws_eqName.calls ((rd_T42 l0 x5_1).f0) ((rd_T42 l0 x5_1).f1) ((rd_T42 l1 x5_1).f0) ((rd_T42 l1 x5_1).f1) false _ A7.out).mono ?_
    rintro e w12 ⟨rfl, hb⟩
    refine ⟨_, rfl, ?_⟩
    have n0_ := Ah (below_step (bs HB) hb)
    clear HB
    have HB := n0_
    clear n0_
    (try clear hb)
    (try clear hb2)
    (try clear hk)
    (try clear hi)
    refine hK.out _ _ ⟨((HB.out.cell (World.block_lt_of_cell? w _ hw222_0)).trans hw222_0), ((HB.out.cell (World.block_lt_of_cell? w _ hw222_1)).trans hw222_1), ((HB.out.cell (World.block_lt_of_cell? w _ hw223_0)).trans hw223_0), ((HB.out.cell (World.block_lt_of_cell? w _ hw223_1)).trans hw223_1)⟩ (fun hHeld => ?_)
    clear hK K
    refine norm_ (a' := ?_) ?_ ?_
    rotate_left
    ·
     show Act.put _ (some 25) _ = _
     simp only [Act.put, List.setIfInBounds_toArray, List.set_cons_zero, List.set_cons_succ, i64_w, i32_w]
     rfl
    refine pureS 9 26 HT_.out ?_
    refine done_ (done_of HT_.out (by kernel_rfl)) ?_
    try go_wp2
    go_ret
    exact ⟨er, bs HB⟩
   subst c8
   rw [if_pos rfl] at H
   have H' := Ah H
   clear H
   with_reducible refine (laws_eqName.calls ((rd_T42 l0 x5_1).f0) ((rd_T42 l0 x5_1).f1) ((rd_T42 l1 x5_1).f0) ((rd_T42 l1 x5_1).f1) true _ A7.out).mono ?_
   rintro e w10 ⟨rfl, hb⟩
   refine ⟨_, rfl, ?_⟩
   have n0_ := Ah (below_step (bs HB) hb)
   clear HB
   have HB := n0_
   clear n0_
   (try clear hb)
   (try clear hb2)
   (try clear hk)
   (try clear hi)
   refine hK.out _ _ ⟨((HB.out.cell (World.block_lt_of_cell? w _ hw222_0)).trans hw222_0), ((HB.out.cell (World.block_lt_of_cell? w _ hw222_1)).trans hw222_1), ((HB.out.cell (World.block_lt_of_cell? w _ hw223_0)).trans hw223_0), ((HB.out.cell (World.block_lt_of_cell? w _ hw223_1)).trans hw223_1)⟩ (fun hHeld => ?_)
   clear hK K
   refine norm_ (a' := ?_) ?_ ?_
   rotate_left
   ·
    show Act.put _ (some 25) _ = _
    simp only [Act.put, List.setIfInBounds_toArray, List.set_cons_zero, List.set_cons_succ, i64_w, i32_w]
    rfl
   refine pureS 9 26 HT_.out ?_
   refine done_ (done_of HT_.out (by kernel_rfl)) ?_
   try go_wp2
   go_roundg k1
   case measure => have := HK1.out; omega
   case rel => exact ⟨(wrap64 (x5_1 + 1)), e3, H', ⟨by have := HK1.out; omega⟩, ⟨bs HB⟩⟩

/-! ### laws_eqInode: function 28 -/
def laws_eqInode.f (k : Nat) (a0_0 : Bool) (a0_1 : Int) (l0_2 : List (S42)) (a1_0 : Bool) (a1_1 : Int) (l1_2 : List (S42)) : Option (Bool) := if (a0_0 != a1_0) = true then (some false) else (if a0_1 = a1_1 then ((laws_eqNameS.f k l0_2 l1_2).bind fun t227 => (if t227 = true then (some true) else (some false))) else (some false))
theorem laws_eqInode.mono : ∀ a0 a1 a2 a3 a4 a5 k, LeO (laws_eqInode.f k a0 a1 a2 a3 a4 a5) (laws_eqInode.f (k + 1) a0 a1 a2 a3 a4 a5) := by
 intro a0 a1 a2 a3 a4 a5 k
 unfold laws_eqInode.f
 repeat' first
   | (with_reducible exact laws_eqNameS.mono _ _ _)
   | (with_reducible exact LeO.refl _)
   | (with_reducible exact LeO.none _)
   | (with_reducible refine LeO.ite ?_ ?_)
   | (with_reducible refine LeO.bind ?_ (fun _ => ?_))
   | exact laws_eqNameS.mono _ _ _
   | exact LeO.none _
   | refine LeO.ite ?_ ?_
   | refine LeO.bind ?_ (fun _ => ?_)
set_option maxHeartbeats 8000000 in
set_option maxRecDepth 100000 in
theorem laws_eqInode.calls (k : Nat) (a0_0 : Bool) (a0_1 : Int) (A0_2 : Option Addr) (c0_2 : Nat) (l0_2 : List (S42)) (a1_0 : Bool) (a1_1 : Int) (A1_2 : Option Addr) (c1_2 : Nat) (l1_2 : List (S42)) (r : Bool) (w : World) (hr0_2 : Kd.C k42 w A0_2 l0_2.length l0_2) (hc0_2 : l0_2.length ≤ c0_2) (hr1_2 : Kd.C k42 w A1_2 l1_2.length l1_2) (hc1_2 : l1_2.length ≤ c1_2) (h : laws_eqInode.f k a0_0 a0_1 l0_2 a1_0 a1_1 l1_2 = some r) :
  Calls Tryd.prog 28 #[.agg #[.bool a0_0, .int .i64 a0_1, .slice A0_2 l0_2.length c0_2], .agg #[.bool a1_0, .int .i64 a1_1, .slice A1_2 l1_2.length c1_2]] w fun e w' => e = .returned (.bool r) ∧ Below w.heap.size w w' := by
 have hu40 := Tryd.underlying40
 have HR0_2 := Ah hr0_2
 have HC0_2 := Ah hc0_2
 clear hr0_2 hc0_2
 have HR1_2 := Ah hr1_2
 have HC1_2 := Ah hc1_2
 clear hr1_2 hc1_2
 have HB := Ah (Below.refl w.heap.size w)
 have H : (if (a0_0 != a1_0) = true then (some false) else (if a0_1 = a1_1 then ((laws_eqNameS.f k l0_2 l1_2).bind fun t227 => (if t227 = true then (some true) else (some false))) else (some false))) = some r := h
 clear h
 by_cases c3 : (a0_0 != a1_0) = true
 ·
  rw [if_pos c3] at H
  have c3b0 : (a0_0 != a1_0) = true := c3
  (try (have c3b1 : decide (a0_0 = a1_0) = false := by simpa using c3))
  (try (have c3b2 : (a0_0 == a1_0) = false := by simpa using c3))
  (try (have c3b3 : ¬ (a0_0 = a1_0) := by simpa using c3))
  clear c3
  obtain rfl := Option.some.inj H
  go_enter Tryd.func28, Tryd.ntmps28
  go_wp2_with (first | ((with_reducible refine gate_dst (N := 2) rfl ?_); refine boxL 2 40 #[.bool a0_0, .int .i64 a0_1, .slice A0_2 l0_2.length c0_2] ?_; intro gb225 hg w4 BK225 hb; have GW225 := gw hg (bs HB); have GE225 := gw hg (bs HB); replace HB := Ah (below_step (bs HB) hb); clear hb hg) | ((with_reducible refine gate_dst (N := 3) rfl ?_); refine boxL 3 40 #[.bool a1_0, .int .i64 a1_1, .slice A1_2 l1_2.length c1_2] ?_; intro gb226 hg w5 BK226 hb; have GW226 := gw hg (bs1 HB GE225); have GE226 := gw hg (bs1 HB GE225); replace HB := Ah (below_step (bs1 HB GE225) hb); have NB225_226 := nn BK225 hg; have NB226_225 := nm BK225 hg; replace BK225 := nb BK225 hb; clear hb hg; have hnb6 := NB225_226.out; have hnc6 := NB226_225.out; obtain ⟨hcz7_0, hcz7_1, hcz7_2⟩ := cz3 BK225; obtain ⟨hfz7_0, hfz7_1, hfz7_2⟩ := fz3 BK225; obtain ⟨hcz8_0, hcz8_1, hcz8_2⟩ := cz3 BK226; obtain ⟨hfz8_0, hfz8_1, hfz8_2⟩ := fz3 BK226))
  go_ret
  exact ⟨er, bs2 HB GE225 GE226⟩
 rw [if_neg c3] at H
 have c3b0 : (a0_0 != a1_0) = false := by simpa using c3
 (try (have c3b1 : decide (a0_0 = a1_0) = true := by simpa using c3))
 (try (have c3b2 : (a0_0 == a1_0) = true := by simpa using c3))
 clear c3
 by_cases c9 : a0_1 = a1_1
 rotate_left
 ·
  rw [if_neg c9] at H
  have c9b0 : (a0_1 == a1_1) = false := beq_eq_false_iff_ne.mpr c9
  have c9b1 : (a0_1 != a1_1) = true := bne_iff_ne.mpr c9
  obtain rfl := Option.some.inj H
  go_enter Tryd.func28, Tryd.ntmps28
  go_wp2_with (first | ((with_reducible refine gate_dst (N := 2) rfl ?_); refine boxL 2 40 #[.bool a0_0, .int .i64 a0_1, .slice A0_2 l0_2.length c0_2] ?_; intro gb225 hg w24 BK225 hb; have GW225 := gw hg (bs HB); have GE225 := gw hg (bs HB); replace HB := Ah (below_step (bs HB) hb); clear hb hg) | ((with_reducible refine gate_dst (N := 3) rfl ?_); refine boxL 3 40 #[.bool a1_0, .int .i64 a1_1, .slice A1_2 l1_2.length c1_2] ?_; intro gb226 hg w25 BK226 hb; have GW226 := gw hg (bs1 HB GE225); have GE226 := gw hg (bs1 HB GE225); replace HB := Ah (below_step (bs1 HB GE225) hb); have NB225_226 := nn BK225 hg; have NB226_225 := nm BK225 hg; replace BK225 := nb BK225 hb; clear hb hg; have hnb26 := NB225_226.out; have hnc26 := NB226_225.out; obtain ⟨hcz27_0, hcz27_1, hcz27_2⟩ := cz3 BK225; obtain ⟨hfz27_0, hfz27_1, hfz27_2⟩ := fz3 BK225; obtain ⟨hcz28_0, hcz28_1, hcz28_2⟩ := cz3 BK226; obtain ⟨hfz28_0, hfz28_1, hfz28_2⟩ := fz3 BK226))
  go_ret
  exact ⟨er, bs2 HB GE225 GE226⟩
 rw [if_pos c9] at H
 have c9b0 : (a0_1 == a1_1) = true := beq_iff_eq.mpr c9
 have c9b1 : (a0_1 != a1_1) = false := bne_eq_false_iff_eq.mpr c9
 clear c9
 replace H := Option.bind_eq_some_iff.mp H
 obtain ⟨t227, A100, H⟩ := H
 try dsimp only at H
 have A10 := Ah A100
 clear A100
 by_cases c11 : t227 = true
 ·
  subst c11
  rw [if_pos rfl] at H
  obtain rfl := Option.some.inj H
  go_enter Tryd.func28, Tryd.ntmps28
  go_wp2_with (first | ((with_reducible refine gate_dst (N := 2) rfl ?_); refine boxL 2 40 #[.bool a0_0, .int .i64 a0_1, .slice A0_2 l0_2.length c0_2] ?_; intro gb225 hg w12 BK225 hb; have GW225 := gw hg (bs HB); have GE225 := gw hg (bs HB); replace HB := Ah (below_step (bs HB) hb); clear hb hg) | ((with_reducible refine gate_dst (N := 3) rfl ?_); refine boxL 3 40 #[.bool a1_0, .int .i64 a1_1, .slice A1_2 l1_2.length c1_2] ?_; intro gb226 hg w13 BK226 hb; have GW226 := gw hg (bs1 HB GE225); have GE226 := gw hg (bs1 HB GE225); replace HB := Ah (below_step (bs1 HB GE225) hb); have NB225_226 := nn BK225 hg; have NB226_225 := nm BK225 hg; replace BK225 := nb BK225 hb; clear hb hg; have hnb14 := NB225_226.out; have hnc14 := NB226_225.out; obtain ⟨hcz15_0, hcz15_1, hcz15_2⟩ := cz3 BK225; obtain ⟨hfz15_0, hfz15_1, hfz15_2⟩ := fz3 BK225; obtain ⟨hcz16_0, hcz16_1, hcz16_2⟩ := cz3 BK226; obtain ⟨hfz16_0, hfz16_1, hfz16_2⟩ := fz3 BK226) | ((with_reducible refine gate_callee (f := 37) rfl ?_); refine gL (some 19) rfl rfl Tryd.func37 (by kernel_rfl) rfl #[.slice A0_2 l0_2.length c0_2, .slice A1_2 l1_2.length c1_2] rfl ?_; (with_reducible refine (laws_eqNameS.calls k _ _ l0_2 _ _ l1_2 true _ ?side1 ?side2 ?side3 ?side4 A10.out).mono ?_); (case side1 => exact cb HR0_2 HB); (case side2 => exact HC0_2.out); (case side3 => exact cb HR1_2 HB); (case side4 => exact HC1_2.out); rintro e w17 ⟨rfl, hb⟩; refine ⟨_, rfl, ?_⟩; replace BK225 := nb BK225 hb; replace BK226 := nb BK226 hb; replace HB := Ah (below_step (bs2 HB GE225 GE226) hb); (try clear hb)))
  go_ret
  exact ⟨er, bs2 HB GE225 GE226⟩
 replace c11 := Bool.eq_false_iff.mpr c11
 subst c11
 rw [if_neg fne] at H
 obtain rfl := Option.some.inj H
 go_enter Tryd.func28, Tryd.ntmps28
 go_wp2_with (first | ((with_reducible refine gate_dst (N := 2) rfl ?_); refine boxL 2 40 #[.bool a0_0, .int .i64 a0_1, .slice A0_2 l0_2.length c0_2] ?_; intro gb225 hg w18 BK225 hb; have GW225 := gw hg (bs HB); have GE225 := gw hg (bs HB); replace HB := Ah (below_step (bs HB) hb); clear hb hg) | ((with_reducible refine gate_dst (N := 3) rfl ?_); refine boxL 3 40 #[.bool a1_0, .int .i64 a1_1, .slice A1_2 l1_2.length c1_2] ?_; intro gb226 hg w19 BK226 hb; have GW226 := gw hg (bs1 HB GE225); have GE226 := gw hg (bs1 HB GE225); replace HB := Ah (below_step (bs1 HB GE225) hb); have NB225_226 := nn BK225 hg; have NB226_225 := nm BK225 hg; replace BK225 := nb BK225 hb; clear hb hg; have hnb20 := NB225_226.out; have hnc20 := NB226_225.out; obtain ⟨hcz21_0, hcz21_1, hcz21_2⟩ := cz3 BK225; obtain ⟨hfz21_0, hfz21_1, hfz21_2⟩ := fz3 BK225; obtain ⟨hcz22_0, hcz22_1, hcz22_2⟩ := cz3 BK226; obtain ⟨hfz22_0, hfz22_1, hfz22_2⟩ := fz3 BK226) | ((with_reducible refine gate_callee (f := 37) rfl ?_); refine gL (some 19) rfl rfl Tryd.func37 (by kernel_rfl) rfl #[.slice A0_2 l0_2.length c0_2, .slice A1_2 l1_2.length c1_2] rfl ?_; (with_reducible refine (laws_eqNameS.calls k _ _ l0_2 _ _ l1_2 false _ ?side1 ?side2 ?side3 ?side4 A10.out).mono ?_); (case side1 => exact cb HR0_2 HB); (case side2 => exact HC0_2.out); (case side3 => exact cb HR1_2 HB); (case side4 => exact HC1_2.out); rintro e w23 ⟨rfl, hb⟩; refine ⟨_, rfl, ?_⟩; replace BK225 := nb BK225 hb; replace BK226 := nb BK226 hb; replace HB := Ah (below_step (bs2 HB GE225 GE226) hb); (try clear hb)))
 go_ret
 exact ⟨er, bs2 HB GE225 GE226⟩

end Go.Proofs.YtoneooblgdoooaaDoor.G
