-- Printed by a program of this session (drive.py, by way of the kit's print). Not trusted: Lean checks it.
import Derived.Test.YtggkhamidkmjpaaDoorG0
import Derived.Test.YtggkhamidkmjpaaDoorG2
namespace Go.Proofs.YtggkhamidkmjpaaDoor.G
open Go.RowKit Go.Proofs.YtggkhamidkmjpaaDoorW.PrintWords Go.Proofs.YtggkhamidkmjpaaDoorW.PrintLast Go.Proofs.YtggkhamidkmjpaaDoorW.PrintMore
attribute [local go_sem] max2_int min2_int max_two min_two max_three min_three max_four min_four   -- for this text's walks alone
set_option linter.unusedVariables false
set_option linter.unusedSimpArgs false

/-! ### spec_l8At: function 34 -/
def spec_l8At.l0 : Nat → List (S45) → ByteArray → Int → Option (Int × Bool)
 | 0, _, _, _ => none
 | k + 1, x0, x1, x6 => if x6 < (x0.length : Int) then (if 0 ≤ x6 then (if (Op.bytesLess (((rd_T45 x0 x6).f0).toList) x1.toList) = true then (spec_l8At.l0 k x0 x1 (wrap64 (x6 + 1))) else (some (x6, (((rd_T45 x0 x6).f0).toList == x1.toList)))) else (none)) else (some (x6, false))
def spec_l8At.f (k : Nat) (l0 : List (S45)) (a1 : ByteArray) : Option (Int × Bool) := spec_l8At.l0 k l0 a1 0
theorem spec_l8At.mono_l : ∀ k, (∀ y0 y1 y2, LeO (spec_l8At.l0 k y0 y1 y2) (spec_l8At.l0 (k + 1) y0 y1 y2))
 | 0 => fun _ _ _ r h => by simp [spec_l8At.l0] at h
 | k + 1 => by
  have ih0 := spec_l8At.mono_l k
  ·
   intro y0 y1 y2
   unfold spec_l8At.l0
   repeat' first
   | (with_reducible exact ih0 _ _ _)
   | (with_reducible exact LeO.refl _)
   | (with_reducible exact LeO.none _)
   | (with_reducible refine LeO.ite ?_ ?_)
   | (with_reducible refine LeO.bind ?_ (fun _ => ?_))
   | exact ih0 _ _ _
   | exact LeO.none _
   | refine LeO.ite ?_ ?_
   | refine LeO.bind ?_ (fun _ => ?_)
theorem spec_l8At.mono : ∀ a0 a1 k, LeO (spec_l8At.f k a0 a1) (spec_l8At.f (k + 1) a0 a1) := by
 intro a0 a1 k
 have ih0 := spec_l8At.mono_l k
 unfold spec_l8At.f
 repeat' first
   | (with_reducible exact ih0 _ _ _)
   | (with_reducible exact LeO.refl _)
   | (with_reducible exact LeO.none _)
   | (with_reducible refine LeO.ite ?_ ?_)
   | (with_reducible refine LeO.bind ?_ (fun _ => ?_))
   | exact ih0 _ _ _
   | exact LeO.none _
   | refine LeO.ite ?_ ?_
   | refine LeO.bind ?_ (fun _ => ?_)
set_option maxHeartbeats 8000000 in
set_option maxRecDepth 100000 in
theorem spec_l8At.calls (k : Nat) (A0 : Option Addr) (c0 : Nat) (l0 : List (S45)) (a1 : ByteArray) (r1 : Int) (r2 : Bool) (w : World) (hr0 : Kd.C k45 w A0 l0.length l0) (hc0 : l0.length ≤ c0) (h : spec_l8At.f k l0 a1 = some (r1, r2)) :
  Calls Tryd.prog 34 #[.slice A0 l0.length c0, .string a1] w fun e w' => e = .returned (.tuple #[.int .i64 r1, .bool r2]) ∧ Drawn0 w w' := by
 have HR0 := Ah hr0
 have HC0 := Ah hc0
 clear hr0 hc0
 have H : (spec_l8At.l0 k l0 a1 0) = some (r1, r2) := h
 clear h
 have H' := Ah H
 clear H
 go_enter Tryd.func34, Tryd.ntmps34
 go_wp2
 repeat (go_quiet (fail); try go_wp2)
 go_loopg [6] k (fun kq v6 w' => ∃ (x6_1 : Int), v6 = .int .i64 x6_1 ∧ Aside0 (spec_l8At.l0 kq l0 a1 x6_1 = some (r1, r2)) ∧ Aside0 (kq ≤ k) ∧ Drawn0 w w')
 case atStart => exact ⟨(0), e3, H', ⟨Nat.le_refl _⟩, by repeat (first | exact Drawn0.refl _ | apply Drawn0.step)⟩
 case round =>
  clear H'
  try clear p2
  obtain ⟨x6_1, rfl, HA, HK1, ⟨m1, rfl⟩⟩ := hrel
  cases gk with
  | zero => exact absurd HA.out (by simp [spec_l8At.l0])
  | succ k1 =>
   have H := HA.out
   clear HA
   simp only [spec_l8At.l0] at H
   by_cases c3 : x6_1 < (l0.length : Int)
   rotate_left
   ·
    rw [if_neg c3] at H
    have c3b0 : decide (x6_1 < (l0.length : Int)) = false := decide_eq_false c3
    clear c3
    simp only [Option.some.injEq, Prod.mk.injEq] at H
    obtain ⟨rfl, rfl⟩ := H
    go_wp2
    repeat (go_quiet (fail); try go_wp2)
    go_ret2
    exact ⟨e3, by repeat (first | exact Drawn0.refl _ | apply Drawn0.step)⟩
   rw [if_pos c3] at H
   have c3b0 : decide (x6_1 < (l0.length : Int)) = true := decide_eq_true c3
   clear c3
   by_cases c4 : 0 ≤ x6_1
   rotate_left
   ·
    rw [if_neg c4] at H
    exact absurd H (by simp)
   rw [if_pos c4] at H
   have c4b0 : decide (0 ≤ x6_1) = true := decide_eq_true c4
   clear c4
   by_cases c5 : (Op.bytesLess (((rd_T45 l0 x6_1).f0).toList) a1.toList) = true
   ·
    rw [if_pos c5] at H
    have c5b0 : (Op.bytesLess (((rd_T45 l0 x6_1).f0).toList) a1.toList) = true := c5
    clear c5
    have H' := Ah H
    clear H
    have p141 : 0 ≤ (x6_1 : Int) := od
    have q141 : x6_1 < (l0.length : Int) := od
    obtain ⟨ad141, e141, hx141_0, hx141_1⟩ := at_T45 HR0.out x6_1 p141 q141
    cases e141
    replace p141 := eq_true p141
    replace q141 := eq_true q141
    go_wp2
    repeat (go_quiet (fail); try go_wp2)
    go_roundg k1
    case measure => have := HK1.out; omega
    case rel => exact ⟨(wrap64 (x6_1 + 1)), e3, H', ⟨by have := HK1.out; omega⟩, by repeat (first | exact Drawn0.refl _ | apply Drawn0.step)⟩
   rw [if_neg c5] at H
   have c5b0 : (Op.bytesLess (((rd_T45 l0 x6_1).f0).toList) a1.toList) = false := by simpa using c5
   clear c5
   simp only [Option.some.injEq, Prod.mk.injEq] at H
   obtain ⟨rfl, rfl⟩ := H
   have p141 : 0 ≤ (x6_1 : Int) := od
   have q141 : x6_1 < (l0.length : Int) := od
   obtain ⟨ad141, e141, hx141_0, hx141_1⟩ := at_T45 HR0.out x6_1 p141 q141
   cases e141
   replace p141 := eq_true p141
   replace q141 := eq_true q141
   have p142 : 0 ≤ (x6_1 : Int) := od
   have q142 : x6_1 < (l0.length : Int) := od
   obtain ⟨ad142, e142, hx142_0, hx142_1⟩ := at_T45 HR0.out x6_1 p142 q142
   obtain rfl : ad141 = ad142 := (by injection e142)
   replace p142 := eq_true p142
   replace q142 := eq_true q142
   go_wp2
   repeat (go_quiet (fail); try go_wp2)
   go_ret2
   exact ⟨e3, by repeat (first | exact Drawn0.refl _ | apply Drawn0.step)⟩

/-! ### spec_l8Put: function 16 -/
def spec_l8Put.f (k : Nat) (l0 : List (S45)) (a1_0 : ByteArray) (a1_1 : Int) : Option ((List (S45))) := (spec_l8At.f k l0 a1_0).bind fun bt144 => (if 0 ≤ bt144.1 then (if bt144.1 ≤ (l0.length : Int) then ((some (l0.take (bt144.1 : Int).toNat : List (S45))).bind fun y146 => (if ([] : List (S45)).length + y146.length < 5864062014805 then ((some (([] : List (S45)) ++ y146 : List (S45))).bind fun y150 => (if y150.length < 5864062014805 then ((some (y150 ++ [(⟨a1_0, a1_1⟩ : S45)] : List (S45))).bind fun y153 => (if bt144.2 = true then (if 0 ≤ (wrap64 (bt144.1 + 1)) then (if (wrap64 (bt144.1 + 1)) ≤ (l0.length : Int) then ((some (l0.drop ((wrap64 (bt144.1 + 1)) : Int).toNat : List (S45))).bind fun y156 => (if y153.length + y156.length < 5864062014805 then (some (y153 ++ y156)) else (none))) else (none)) else (none)) else ((some (l0.drop (bt144.1 : Int).toNat : List (S45))).bind fun y163 => (if y153.length + y163.length < 5864062014805 then (some (y153 ++ y163)) else (none))))) else (none))) else (none))) else (none)) else (none))
theorem spec_l8Put.mono : ∀ a0 a1 a2 k, LeO (spec_l8Put.f k a0 a1 a2) (spec_l8Put.f (k + 1) a0 a1 a2) := by
 intro a0 a1 a2 k
 unfold spec_l8Put.f
 repeat' first
   | (with_reducible exact spec_l8At.mono _ _ _)
   | (with_reducible exact LeO.refl _)
   | (with_reducible exact LeO.none _)
   | (with_reducible refine LeO.ite ?_ ?_)
   | (with_reducible refine LeO.bind ?_ (fun _ => ?_))
   | exact spec_l8At.mono _ _ _
   | exact LeO.none _
   | refine LeO.ite ?_ ?_
   | refine LeO.bind ?_ (fun _ => ?_)
set_option maxHeartbeats 8000000 in
set_option maxRecDepth 100000 in
theorem spec_l8Put.calls (k : Nat) (A0 : Option Addr) (c0 : Nat) (l0 : List (S45)) (a1_0 : ByteArray) (a1_1 : Int) (r : List (S45)) (w : World) (hr0 : Kd.C k45 w A0 l0.length l0) (hc0 : l0.length ≤ c0) (h : spec_l8Put.f k l0 a1_0 a1_1 = some r) :
  Calls Tryd.prog 16 #[.slice A0 l0.length c0, .agg #[.string a1_0, .int .i64 a1_1]] w fun e w' => ∃ v0_ : Value, e = .returned (v0_) ∧ Kd.R k45 45 w' w.heap.size (fun _ => True) v0_ r ∧ Below w.heap.size w w' := by
 have hu45 := Tryd.underlying45
 have HR0 := Ah hr0
 have HC0 := Ah hc0
 clear hr0 hc0
 have HB := Ah (Below.refl w.heap.size w)
 have H : ((spec_l8At.f k l0 a1_0).bind fun bt144 => (if 0 ≤ bt144.1 then (if bt144.1 ≤ (l0.length : Int) then ((some (l0.take (bt144.1 : Int).toNat : List (S45))).bind fun y146 => (if ([] : List (S45)).length + y146.length < 5864062014805 then ((some (([] : List (S45)) ++ y146 : List (S45))).bind fun y150 => (if y150.length < 5864062014805 then ((some (y150 ++ [(⟨a1_0, a1_1⟩ : S45)] : List (S45))).bind fun y153 => (if bt144.2 = true then (if 0 ≤ (wrap64 (bt144.1 + 1)) then (if (wrap64 (bt144.1 + 1)) ≤ (l0.length : Int) then ((some (l0.drop ((wrap64 (bt144.1 + 1)) : Int).toNat : List (S45))).bind fun y156 => (if y153.length + y156.length < 5864062014805 then (some (y153 ++ y156)) else (none))) else (none)) else (none)) else ((some (l0.drop (bt144.1 : Int).toNat : List (S45))).bind fun y163 => (if y153.length + y163.length < 5864062014805 then (some (y153 ++ y163)) else (none))))) else (none))) else (none))) else (none)) else (none))) = some r := h
 clear h
 replace H := Option.bind_eq_some_iff.mp H
 obtain ⟨⟨t144, t145⟩, A30, H⟩ := H
 try dsimp only at H
 have A3 := Ah A30
 clear A30
 by_cases c4 : 0 ≤ t144
 rotate_left
 ·
  rw [if_neg c4] at H
  exact absurd H (by simp)
 rw [if_pos c4] at H
 have c4b0 := eq_true c4
 have c4b1 : decide (0 ≤ t144) = true := decide_eq_true c4
 clear c4
 by_cases c5 : t144 ≤ (l0.length : Int)
 rotate_left
 ·
  rw [if_neg c5] at H
  exact absurd H (by simp)
 rw [if_pos c5] at H
 have c5b0 := eq_true c5
 have c5b1 : decide (t144 ≤ (l0.length : Int)) = true := decide_eq_true c5
 clear c5
 obtain ⟨y146, hy146⟩ : ∃ y_ : List (S45), y_ = (l0.take (t144 : Int).toNat) := ⟨_, rfl⟩
 replace H : (if ([] : List (S45)).length + y146.length < 5864062014805 then ((some (([] : List (S45)) ++ y146 : List (S45))).bind fun y150 => (if y150.length < 5864062014805 then ((some (y150 ++ [(⟨a1_0, a1_1⟩ : S45)] : List (S45))).bind fun y153 => (if t145 = true then (if 0 ≤ (wrap64 (t144 + 1)) then (if (wrap64 (t144 + 1)) ≤ (l0.length : Int) then ((some (l0.drop ((wrap64 (t144 + 1)) : Int).toNat : List (S45))).bind fun y156 => (if y153.length + y156.length < 5864062014805 then (some (y153 ++ y156)) else (none))) else (none)) else (none)) else ((some (l0.drop (t144 : Int).toNat : List (S45))).bind fun y163 => (if y153.length + y163.length < 5864062014805 then (some (y153 ++ y163)) else (none))))) else (none))) else (none)) = some r := by first | (rw [hy146]; with_reducible exact H) | (have H2_ := (Option.bind_some _ _).symm.trans H; rw [hy146]; with_reducible exact H2_) | (have H2_ := (Option.bind_some _ _).symm.trans H; with_reducible exact H2_) | with_reducible exact H | (rw [hy146]; exact H) | exact H
 have Ny146 := Ah hy146
 clear hy146
 by_cases c6 : ([] : List (S45)).length + y146.length < 5864062014805
 rotate_left
 ·
  rw [if_neg c6] at H
  exact absurd H (by simp)
 rw [if_pos c6] at H
 have LMc6 := Ah c6
 clear c6
 obtain ⟨y150, hy150⟩ : ∃ y_ : List (S45), y_ = (([] : List (S45)) ++ y146) := ⟨_, rfl⟩
 replace H : (if y150.length < 5864062014805 then ((some (y150 ++ [(⟨a1_0, a1_1⟩ : S45)] : List (S45))).bind fun y153 => (if t145 = true then (if 0 ≤ (wrap64 (t144 + 1)) then (if (wrap64 (t144 + 1)) ≤ (l0.length : Int) then ((some (l0.drop ((wrap64 (t144 + 1)) : Int).toNat : List (S45))).bind fun y156 => (if y153.length + y156.length < 5864062014805 then (some (y153 ++ y156)) else (none))) else (none)) else (none)) else ((some (l0.drop (t144 : Int).toNat : List (S45))).bind fun y163 => (if y153.length + y163.length < 5864062014805 then (some (y153 ++ y163)) else (none))))) else (none)) = some r := by first | (rw [hy150]; with_reducible exact H) | (have H2_ := (Option.bind_some _ _).symm.trans H; rw [hy150]; with_reducible exact H2_) | (have H2_ := (Option.bind_some _ _).symm.trans H; with_reducible exact H2_) | with_reducible exact H | (rw [hy150]; exact H) | exact H
 have Ny150 := Ah hy150
 clear hy150
 by_cases c7 : y150.length < 5864062014805
 rotate_left
 ·
  rw [if_neg c7] at H
  exact absurd H (by simp)
 rw [if_pos c7] at H
 have LMc7 := Ah c7
 clear c7
 obtain ⟨y153, hy153⟩ : ∃ y_ : List (S45), y_ = (y150 ++ [(⟨a1_0, a1_1⟩ : S45)]) := ⟨_, rfl⟩
 replace H : (if t145 = true then (if 0 ≤ (wrap64 (t144 + 1)) then (if (wrap64 (t144 + 1)) ≤ (l0.length : Int) then ((some (l0.drop ((wrap64 (t144 + 1)) : Int).toNat : List (S45))).bind fun y156 => (if y153.length + y156.length < 5864062014805 then (some (y153 ++ y156)) else (none))) else (none)) else (none)) else ((some (l0.drop (t144 : Int).toNat : List (S45))).bind fun y163 => (if y153.length + y163.length < 5864062014805 then (some (y153 ++ y163)) else (none)))) = some r := by first | (rw [hy153]; with_reducible exact H) | (have H2_ := (Option.bind_some _ _).symm.trans H; rw [hy153]; with_reducible exact H2_) | (have H2_ := (Option.bind_some _ _).symm.trans H; with_reducible exact H2_) | with_reducible exact H | (rw [hy153]; exact H) | exact H
 have Ny153 := Ah hy153
 clear hy153
 by_cases c8 : t145 = true
 rotate_left
 ·
  replace c8 := Bool.eq_false_iff.mpr c8
  subst c8
  rw [if_neg fne] at H
  have c21b0 := eq_true (od : 0 ≤ t144)
  have c22b0 := eq_true (od : t144 ≤ (l0.length : Int))
  obtain ⟨y163, hy163⟩ : ∃ y_ : List (S45), y_ = (l0.drop (t144 : Int).toNat) := ⟨_, rfl⟩
  replace H : (if y153.length + y163.length < 5864062014805 then (some (y153 ++ y163)) else (none)) = some r := by first | (rw [hy163]; with_reducible exact H) | (have H2_ := (Option.bind_some _ _).symm.trans H; rw [hy163]; with_reducible exact H2_) | (have H2_ := (Option.bind_some _ _).symm.trans H; with_reducible exact H2_) | with_reducible exact H | (rw [hy163]; exact H) | exact H
  have Ny163 := Ah hy163
  clear hy163
  by_cases c23 : y153.length + y163.length < 5864062014805
  rotate_left
  ·
   rw [if_neg c23] at H
   exact absurd H (by simp)
  rw [if_pos c23] at H
  have LMc23 := Ah c23
  clear c23
  obtain ⟨y167, hy167⟩ : ∃ y_ : List (S45), y_ = (y153 ++ y163) := ⟨_, rfl⟩
  replace H : (some y167) = some r := by first | (rw [hy167]; with_reducible exact H) | (have H2_ := (Option.bind_some _ _).symm.trans H; rw [hy167]; with_reducible exact H2_) | (have H2_ := (Option.bind_some _ _).symm.trans H; with_reducible exact H2_) | with_reducible exact H | (rw [hy167]; exact H) | exact H
  have Ny167 := Ah hy167
  clear hy167
  obtain rfl := Option.some.inj H
  go_enter Tryd.func16, Tryd.ntmps16
  go_wp2_with (first | ((with_reducible refine gate_dst (N := 3) rfl ?_); refine boxL 3 45 #[.string a1_0, .int .i64 a1_1] ?_; intro gb143 hg w24 BK143 hb; have GW143 := gw hg (bs HB); have GE143 := gw hg (bs HB); replace HB := Ah (below_step (bs HB) hb); clear hb hg; obtain ⟨hcz25_0, hcz25_1⟩ := cz2 BK143; obtain ⟨hfz25_0, hfz25_1⟩ := fz2 BK143) | ((with_reducible refine gate_callee (f := 34) rfl ?_); refine gL (some 12) rfl rfl Tryd.func34 (by kernel_rfl) rfl #[.slice A0 l0.length c0, .string a1_0] rfl ?_; (with_reducible refine (spec_l8At.calls k _ _ l0 a1_0 t144 false _ ?side1 ?side2 A3.out).mono ?_); (case side1 => exact cb HR0 HB); (case side2 => exact HC0.out); rintro e w' ⟨rfl, ⟨nd, rfl⟩⟩; refine ⟨_, rfl, ?_⟩; have q26 : (t144 : Int) ≤ ((l0.length : Int) : Int) := od; obtain ⟨i026, hi026, _, hsz26, _⟩ := info_parts info45; have hroom26 : l0.length ≤ c0 := HC0.out; have hC26 : Kd.C k45 _ A0 l0.length l0 := HR0.out; have hcut26 := cut_to (P := Tryd.prog) 27 45 .i64 Tryd.underlying27 hi026 A0 l0.length c0 t144 (od) q26 hroom26; have hr26 := Kd.C_take (m := (t144 : Int).toNat) hC26 (by omega); have hy26 : y146.length = (t144 : Int).toNat := (by rw [Ny146.out, List.length_take]; omega); rw [← Ny146.out] at hr26; rw [← hy26] at hcut26; have HR149 := Ah hr26; have HC149 := Ah (show y146.length ≤ c0 from by omega); clear hr26 hC26 hroom26 hi026 hsz26; have KY26 := Ah hy26; clear hy26; replace q26 := eq_true q26) | ((with_reducible refine gate_builtin (b := .append) (xs := #[.tmp 15, .tmp 18]) rfl ?_); at_builtin; refine Kd.R_append_rows k45 (w0 := w) w.heap.size rfl (.tmp 15) (.tmp 18) 27 45 (.agg #[(.string ⟨#[]⟩), (.int .i64 0)]) 24 rfl Tryd.underlying27 info45 rfl (by decide) (by omega) (.slice none 0 0) ([] : List (S45)) y146 _ _ _ (fun k_ => k_ ≠ gb143) (fun _ => False) rfl rfl ?aO ?aR (fun _ _ h => h) (fun _ h => h.elim) ?aF ?aB ?aS ?aL ?_; (case aR => repeat (first | exact (Kd.C_below HR149.out (bs1 HB GE143)) | (with_reducible refine Kd.C_alloc ?_ _) | (with_reducible refine Kd.C_drewN ?_ _) | (with_reducible refine Kd.C_drew ?_))); (case aB => exact (bs1 HB GE143)); (case aF => exact (fun k_ hk => Kd.freshB (bk BK143) k_ hk)); (case aO => exact ((Kd.R_nil _ _ _ _ (fun k_ => k_ ≠ gb143)))); (case aS => exact (below_size (bs1 HB GE143))); (case aL => have := LMc6.out; omega); intro v151 w27 ho hb hg hat; rw [← Ny150.out] at ho; replace BK143 := Ah (blk_grown (bk BK143) hg (by simp [Value.ownBlock])); replace HB := Ah (hb); have HO152 := Ah (ho); clear ho hb hg hat; obtain ⟨hcz28_0, hcz28_1⟩ := cz2 BK143; obtain ⟨hfz28_0, hfz28_1⟩ := fz2 BK143) | ((with_reducible refine gate_builtin (b := .append) (xs := #[.tmp 20, .tmp 22]) rfl ?_); at_builtin; refine Kd.R_append k45 (w0 := w) w.heap.size rfl (.tmp 20) (.tmp 22) 27 45 (.agg #[(.string ⟨#[]⟩), (.int .i64 0)]) 24 rfl Tryd.underlying27 info45 rfl (by decide) (by omega) v151 y150 (⟨a1_0, a1_1⟩ : S45) [.string a1_0, .int .i64 a1_1] (fun k_ => k_ ≠ gb143) (fun _ => False) rfl rfl ?aP (fun _ hk => hk.elim) ?aF ?aO ?aB ?aS ?aL ?_; (case aP => exact k45_mkM _ _ _ (⟨a1_0, a1_1⟩ : S45)); (case aB => exact (bs1 HB GE143)); (case aF => exact (fun k_ hk => Kd.freshB (bk BK143) k_ hk)); (case aO => exact (rr HO152.out)); (case aS => exact (below_size (bs1 HB GE143))); (case aL => have := LMc7.out; omega); intro v154 w29 ho hb hg hat; rw [← Ny153.out] at ho; replace BK143 := Ah (blk_grown (bk BK143) hg (Kd.R_away HO152.out (fun _ hk => hk))); replace HB := Ah (hb); have HO155 := Ah (ho); clear HO152; clear ho hb hg hat; have q30 : (t144 : Int) ≤ ((l0.length : Int) : Int) := od; obtain ⟨i030, hi030, _, hsz30, _⟩ := info_parts info45; have hroom30 : l0.length ≤ c0 := HC0.out; have hC30 : Kd.C k45 _ A0 l0.length l0 := HR0.out; have q030 : (0 : Int) ≤ (t144 : Int) := od; have hcut30 := cut_from (P := Tryd.prog) 27 45 .i64 Tryd.underlying27 hi030 2 hsz30 A0 l0.length c0 t144 q030 q30; have hr30 := Kd.C_drop (m := (t144 : Int).toNat) (c := c0) hC30 (by omega) hroom30; obtain ⟨A30, hA30⟩ : ∃ A1, A1 = (if c0 = (t144 : Int).toNat then A0 else (A0 : Option Addr).map (·.add ((t144 : Int).toNat * 2))) := ⟨_, rfl⟩; obtain ⟨c30, hc30⟩ : ∃ c1, c1 = c0 - (t144 : Int).toNat := ⟨_, rfl⟩; have hy30 : y163.length = l0.length - (t144 : Int).toNat := (by rw [Ny163.out, List.length_drop] <;> omega); rw [show (l0).drop (t144 : Int).toNat = y163 from Ny163.out.symm] at hr30; replace hr30 : Kd.C k45 _ A30 y163.length y163 := (by rw [hA30]; exact hr30); rw [← hy30, ← hA30, ← hc30] at hcut30; have HR166 := Ah hr30; have HC166 := Ah (show y163.length ≤ c30 from by rw [hy30, hc30]; exact Nat.sub_le_sub_right hroom30 _); clear hr30 hC30 hroom30 hi030 hsz30 hc30; have KY30 := Ah hy30; have KA30 := Ah hA30; clear hy30 hA30; replace q30 := eq_true q30) | ((with_reducible refine gate_builtin (b := .append) (xs := #[.tmp 27, .tmp 30]) rfl ?_); at_builtin; refine Kd.R_append_rows k45 (w0 := w) w.heap.size rfl (.tmp 27) (.tmp 30) 27 45 (.agg #[(.string ⟨#[]⟩), (.int .i64 0)]) 24 rfl Tryd.underlying27 info45 rfl (by decide) (by omega) v154 y153 y163 _ _ _ (fun k_ => k_ ≠ gb143) (fun _ => False) rfl rfl ?aO ?aR (fun _ _ h => h) (fun _ h => h.elim) ?aF ?aB ?aS ?aL ?_; (case aR => exact cb HR166 HB); (case aB => exact (bs1 HB GE143)); (case aF => exact (fun k_ hk => Kd.freshB (bk BK143) k_ hk)); (case aO => exact (rr HO155.out)); (case aS => exact (below_size (bs1 HB GE143))); (case aL => have := LMc23.out; omega); intro v168 w31 ho hb hg hat; rw [← Ny167.out] at ho; replace BK143 := Ah (blk_grown (bk BK143) hg (Kd.R_away HO155.out (fun _ hk => hk))); replace HB := Ah (hb); have HO169 := Ah (ho); clear HO155; clear ho hb hg hat))
  go_ret
  exact ⟨_, er, by (with_reducible repeat (first | apply Kd.R_alloc | apply Kd.R_drewN | apply Kd.R_drew)); exact Kd.R_mono HO169.out (fun _ hk => trivial), bs1 HB GE143⟩
 subst c8
 rw [if_pos rfl] at H
 obtain ⟨ji9, hji9⟩ : ∃ j_ : Int, (wrap64 (t144 + 1)) = j_ := ⟨_, rfl⟩
 replace H : (if 0 ≤ (ji9) then (if (ji9) ≤ (l0.length : Int) then ((some (l0.drop ((ji9) : Int).toNat : List (S45))).bind fun y156 => (if y153.length + y156.length < 5864062014805 then (some (y153 ++ y156)) else (none))) else (none)) else (none)) = some r := by first | (rw [hji9] at H; exact H) | (simp only [hji9] at H ⊢; exact H)
 (try rw [hji9] at A3)
 have hji9w : (IntKind.i64.wrap (t144 + 1)) = ji9 := (i64_w _).trans hji9
 by_cases c10 : 0 ≤ (ji9)
 rotate_left
 ·
  rw [if_neg c10] at H
  exact absurd H (by simp)
 rw [if_pos c10] at H
 have c10b0 := eq_true c10
 have c10b1 : decide (0 ≤ (ji9)) = true := decide_eq_true c10
 clear c10
 by_cases c11 : (ji9) ≤ (l0.length : Int)
 rotate_left
 ·
  rw [if_neg c11] at H
  exact absurd H (by simp)
 rw [if_pos c11] at H
 have c11b0 := eq_true c11
 have c11b1 : decide ((ji9) ≤ (l0.length : Int)) = true := decide_eq_true c11
 clear c11
 obtain ⟨y156, hy156⟩ : ∃ y_ : List (S45), y_ = (l0.drop ((ji9) : Int).toNat) := ⟨_, rfl⟩
 replace H : (if y153.length + y156.length < 5864062014805 then (some (y153 ++ y156)) else (none)) = some r := by first | (rw [hy156]; with_reducible exact H) | (have H2_ := (Option.bind_some _ _).symm.trans H; rw [hy156]; with_reducible exact H2_) | (have H2_ := (Option.bind_some _ _).symm.trans H; with_reducible exact H2_) | with_reducible exact H | (rw [hy156]; exact H) | exact H
 have Ny156 := Ah hy156
 clear hy156
 by_cases c12 : y153.length + y156.length < 5864062014805
 rotate_left
 ·
  rw [if_neg c12] at H
  exact absurd H (by simp)
 rw [if_pos c12] at H
 have LMc12 := Ah c12
 clear c12
 obtain ⟨y160, hy160⟩ : ∃ y_ : List (S45), y_ = (y153 ++ y156) := ⟨_, rfl⟩
 replace H : (some y160) = some r := by first | (rw [hy160]; with_reducible exact H) | (have H2_ := (Option.bind_some _ _).symm.trans H; rw [hy160]; with_reducible exact H2_) | (have H2_ := (Option.bind_some _ _).symm.trans H; with_reducible exact H2_) | with_reducible exact H | (rw [hy160]; exact H) | exact H
 have Ny160 := Ah hy160
 clear hy160
 obtain rfl := Option.some.inj H
 go_enter Tryd.func16, Tryd.ntmps16
 go_wp2_with (first | ((with_reducible refine gate_dst (N := 3) rfl ?_); refine boxL 3 45 #[.string a1_0, .int .i64 a1_1] ?_; intro gb143 hg w13 BK143 hb; have GW143 := gw hg (bs HB); have GE143 := gw hg (bs HB); replace HB := Ah (below_step (bs HB) hb); clear hb hg; obtain ⟨hcz14_0, hcz14_1⟩ := cz2 BK143; obtain ⟨hfz14_0, hfz14_1⟩ := fz2 BK143) | ((with_reducible refine gate_callee (f := 34) rfl ?_); refine gL (some 12) rfl rfl Tryd.func34 (by kernel_rfl) rfl #[.slice A0 l0.length c0, .string a1_0] rfl ?_; (with_reducible refine (spec_l8At.calls k _ _ l0 a1_0 t144 true _ ?side1 ?side2 A3.out).mono ?_); (case side1 => exact cb HR0 HB); (case side2 => exact HC0.out); rintro e w' ⟨rfl, ⟨nd, rfl⟩⟩; refine ⟨_, rfl, ?_⟩; have q15 : (t144 : Int) ≤ ((l0.length : Int) : Int) := od; obtain ⟨i015, hi015, _, hsz15, _⟩ := info_parts info45; have hroom15 : l0.length ≤ c0 := HC0.out; have hC15 : Kd.C k45 _ A0 l0.length l0 := HR0.out; have hcut15 := cut_to (P := Tryd.prog) 27 45 .i64 Tryd.underlying27 hi015 A0 l0.length c0 t144 (od) q15 hroom15; have hr15 := Kd.C_take (m := (t144 : Int).toNat) hC15 (by omega); have hy15 : y146.length = (t144 : Int).toNat := (by rw [Ny146.out, List.length_take]; omega); rw [← Ny146.out] at hr15; rw [← hy15] at hcut15; have HR149 := Ah hr15; have HC149 := Ah (show y146.length ≤ c0 from by omega); clear hr15 hC15 hroom15 hi015 hsz15; have KY15 := Ah hy15; clear hy15; replace q15 := eq_true q15) | ((with_reducible refine gate_builtin (b := .append) (xs := #[.tmp 15, .tmp 18]) rfl ?_); at_builtin; refine Kd.R_append_rows k45 (w0 := w) w.heap.size rfl (.tmp 15) (.tmp 18) 27 45 (.agg #[(.string ⟨#[]⟩), (.int .i64 0)]) 24 rfl Tryd.underlying27 info45 rfl (by decide) (by omega) (.slice none 0 0) ([] : List (S45)) y146 _ _ _ (fun k_ => k_ ≠ gb143) (fun _ => False) rfl rfl ?aO ?aR (fun _ _ h => h) (fun _ h => h.elim) ?aF ?aB ?aS ?aL ?_; (case aR => repeat (first | exact (Kd.C_below HR149.out (bs1 HB GE143)) | (with_reducible refine Kd.C_alloc ?_ _) | (with_reducible refine Kd.C_drewN ?_ _) | (with_reducible refine Kd.C_drew ?_))); (case aB => exact (bs1 HB GE143)); (case aF => exact (fun k_ hk => Kd.freshB (bk BK143) k_ hk)); (case aO => exact ((Kd.R_nil _ _ _ _ (fun k_ => k_ ≠ gb143)))); (case aS => exact (below_size (bs1 HB GE143))); (case aL => have := LMc6.out; omega); intro v151 w16 ho hb hg hat; rw [← Ny150.out] at ho; replace BK143 := Ah (blk_grown (bk BK143) hg (by simp [Value.ownBlock])); replace HB := Ah (hb); have HO152 := Ah (ho); clear ho hb hg hat; obtain ⟨hcz17_0, hcz17_1⟩ := cz2 BK143; obtain ⟨hfz17_0, hfz17_1⟩ := fz2 BK143) | ((with_reducible refine gate_builtin (b := .append) (xs := #[.tmp 20, .tmp 22]) rfl ?_); at_builtin; refine Kd.R_append k45 (w0 := w) w.heap.size rfl (.tmp 20) (.tmp 22) 27 45 (.agg #[(.string ⟨#[]⟩), (.int .i64 0)]) 24 rfl Tryd.underlying27 info45 rfl (by decide) (by omega) v151 y150 (⟨a1_0, a1_1⟩ : S45) [.string a1_0, .int .i64 a1_1] (fun k_ => k_ ≠ gb143) (fun _ => False) rfl rfl ?aP (fun _ hk => hk.elim) ?aF ?aO ?aB ?aS ?aL ?_; (case aP => exact k45_mkM _ _ _ (⟨a1_0, a1_1⟩ : S45)); (case aB => exact (bs1 HB GE143)); (case aF => exact (fun k_ hk => Kd.freshB (bk BK143) k_ hk)); (case aO => exact (rr HO152.out)); (case aS => exact (below_size (bs1 HB GE143))); (case aL => have := LMc7.out; omega); intro v154 w18 ho hb hg hat; rw [← Ny153.out] at ho; replace BK143 := Ah (blk_grown (bk BK143) hg (Kd.R_away HO152.out (fun _ hk => hk))); replace HB := Ah (hb); have HO155 := Ah (ho); clear HO152; clear ho hb hg hat; have q19 : ((ji9) : Int) ≤ ((l0.length : Int) : Int) := od; obtain ⟨i019, hi019, _, hsz19, _⟩ := info_parts info45; have hroom19 : l0.length ≤ c0 := HC0.out; have hC19 : Kd.C k45 _ A0 l0.length l0 := HR0.out; have q019 : (0 : Int) ≤ ((ji9) : Int) := od; have hcut19 := cut_from (P := Tryd.prog) 27 45 .i64 Tryd.underlying27 hi019 2 hsz19 A0 l0.length c0 (ji9) q019 q19; have hr19 := Kd.C_drop (m := ((ji9) : Int).toNat) (c := c0) hC19 (by omega) hroom19; obtain ⟨A19, hA19⟩ : ∃ A1, A1 = (if c0 = ((ji9) : Int).toNat then A0 else (A0 : Option Addr).map (·.add (((ji9) : Int).toNat * 2))) := ⟨_, rfl⟩; obtain ⟨c19, hc19⟩ : ∃ c1, c1 = c0 - ((ji9) : Int).toNat := ⟨_, rfl⟩; have hy19 : y156.length = l0.length - ((ji9) : Int).toNat := (by rw [Ny156.out, List.length_drop] <;> omega); rw [show (l0).drop ((ji9) : Int).toNat = y156 from Ny156.out.symm] at hr19; replace hr19 : Kd.C k45 _ A19 y156.length y156 := (by rw [hA19]; exact hr19); rw [← hy19, ← hA19, ← hc19] at hcut19; have HR159 := Ah hr19; have HC159 := Ah (show y156.length ≤ c19 from by rw [hy19, hc19]; exact Nat.sub_le_sub_right hroom19 _); clear hr19 hC19 hroom19 hi019 hsz19 hc19; have KY19 := Ah hy19; have KA19 := Ah hA19; clear hy19 hA19; replace q19 := eq_true q19) | ((with_reducible refine gate_builtin (b := .append) (xs := #[.tmp 27, .tmp 30]) rfl ?_); at_builtin; refine Kd.R_append_rows k45 (w0 := w) w.heap.size rfl (.tmp 27) (.tmp 30) 27 45 (.agg #[(.string ⟨#[]⟩), (.int .i64 0)]) 24 rfl Tryd.underlying27 info45 rfl (by decide) (by omega) v154 y153 y156 _ _ _ (fun k_ => k_ ≠ gb143) (fun _ => False) rfl rfl ?aO ?aR (fun _ _ h => h) (fun _ h => h.elim) ?aF ?aB ?aS ?aL ?_; (case aR => exact cb HR159 HB); (case aB => exact (bs1 HB GE143)); (case aF => exact (fun k_ hk => Kd.freshB (bk BK143) k_ hk)); (case aO => exact (rr HO155.out)); (case aS => exact (below_size (bs1 HB GE143))); (case aL => have := LMc12.out; omega); intro v161 w20 ho hb hg hat; rw [← Ny160.out] at ho; replace BK143 := Ah (blk_grown (bk BK143) hg (Kd.R_away HO155.out (fun _ hk => hk))); replace HB := Ah (hb); have HO162 := Ah (ho); clear HO155; clear ho hb hg hat))
 go_ret
 exact ⟨_, by first | rfl | (simp [errW_none, errW_some] <;> rfl) | (simp only [← hji9]; first | rfl | (simp [errW_none, errW_some] <;> rfl)) | (simp [*, errW_none, errW_some] <;> rfl), by (with_reducible repeat (first | apply Kd.R_alloc | apply Kd.R_drewN | apply Kd.R_drew)); exact Kd.R_mono HO162.out (fun _ hk => trivial), bs1 HB GE143⟩

/-! ### spec_NamesOf: function 5 -/
mutual
def spec_NamesOf.l0 : Nat → List (S45) → List (S43) → Int → Int → Option ((List (S45)) × Bool)
 | 0, _, _, _, _ => none
 | k + 1, x4, x13, x14, x15 => if x15 < x14 then (if 0 ≤ x15 then (if x15 < (x13.length : Int) then (spec_NamesOf.l1 k x4 x13 x14 x15 ((rd_T43 x13 x15).f1) (((rd_T43 x13 x15).f1).length : Int) 0) else (none)) else (none)) else (some (x4, true))
def spec_NamesOf.l1 : Nat → List (S45) → List (S43) → Int → Int → List (S45) → Int → Int → Option ((List (S45)) × Bool)
 | 0, _, _, _, _, _, _, _ => none
 | k + 1, x4, x13, x14, x15, x20, x21, x22 => if x22 < x21 then (if 0 ≤ x22 then (if x22 < (x20.length : Int) then ((spec_l8Put.f k x4 ((rd_T45 x20 x22).f0) ((rd_T45 x20 x22).f1)).bind fun t176 => (spec_NamesOf.l1 k t176 x13 x14 x15 x20 x21 (wrap64 (x22 + 1)))) else (none)) else (none)) else (spec_NamesOf.l0 k x4 x13 x14 (wrap64 (x15 + 1)))
end
def spec_NamesOf.f (k : Nat) (a0_0 : Int) (l0_1 : List Int) (l0_2 : List (S43)) : Option ((List (S45)) × Bool) := (spec_GoodDir.f k a0_0 l0_1 l0_2).bind fun t171 => (if t171 = true then (spec_NamesOf.l0 k ([] : List (S45)) l0_2 (l0_2.length : Int) 0) else (some (([] : List (S45)), false)))
theorem spec_NamesOf.mono_l : ∀ k, (∀ y0 y1 y2 y3, LeO (spec_NamesOf.l0 k y0 y1 y2 y3) (spec_NamesOf.l0 (k + 1) y0 y1 y2 y3)) ∧ (∀ y0 y1 y2 y3 y4 y5 y6, LeO (spec_NamesOf.l1 k y0 y1 y2 y3 y4 y5 y6) (spec_NamesOf.l1 (k + 1) y0 y1 y2 y3 y4 y5 y6))
 | 0 => ⟨fun _ _ _ _ r h => by simp [spec_NamesOf.l0] at h, fun _ _ _ _ _ _ _ r h => by simp [spec_NamesOf.l1] at h⟩
 | k + 1 => by
  obtain ⟨ih0, ih1⟩ := spec_NamesOf.mono_l k
  refine ⟨?_, ?_⟩ <;> intros <;> first | unfold spec_NamesOf.l0 | unfold spec_NamesOf.l1
  all_goals repeat' first
   | (with_reducible exact ih0 _ _ _ _)
   | (with_reducible exact ih1 _ _ _ _ _ _ _)
   | (with_reducible exact spec_GoodDir.mono _ _ _ _)
   | (with_reducible exact spec_l8Put.mono _ _ _ _)
   | (with_reducible exact LeO.refl _)
   | (with_reducible exact LeO.none _)
   | (with_reducible refine LeO.ite ?_ ?_)
   | (with_reducible refine LeO.bind ?_ (fun _ => ?_))
   | exact ih0 _ _ _ _
   | exact ih1 _ _ _ _ _ _ _
   | exact spec_GoodDir.mono _ _ _ _
   | exact spec_l8Put.mono _ _ _ _
   | exact LeO.none _
   | refine LeO.ite ?_ ?_
   | refine LeO.bind ?_ (fun _ => ?_)
theorem spec_NamesOf.mono : ∀ a0 a1 a2 k, LeO (spec_NamesOf.f k a0 a1 a2) (spec_NamesOf.f (k + 1) a0 a1 a2) := by
 intro a0 a1 a2 k
 obtain ⟨ih0, ih1⟩ := spec_NamesOf.mono_l k
 unfold spec_NamesOf.f
 repeat' first
   | (with_reducible exact ih0 _ _ _ _)
   | (with_reducible exact ih1 _ _ _ _ _ _ _)
   | (with_reducible exact spec_GoodDir.mono _ _ _ _)
   | (with_reducible exact spec_l8Put.mono _ _ _ _)
   | (with_reducible exact LeO.refl _)
   | (with_reducible exact LeO.none _)
   | (with_reducible refine LeO.ite ?_ ?_)
   | (with_reducible refine LeO.bind ?_ (fun _ => ?_))
   | exact ih0 _ _ _ _
   | exact ih1 _ _ _ _ _ _ _
   | exact spec_GoodDir.mono _ _ _ _
   | exact spec_l8Put.mono _ _ _ _
   | exact LeO.none _
   | refine LeO.ite ?_ ?_
   | refine LeO.bind ?_ (fun _ => ?_)
set_option maxHeartbeats 8000000 in
set_option maxRecDepth 100000 in
theorem spec_NamesOf.calls (k : Nat) (a0_0 : Int) (A0_1 : Option Addr) (c0_1 : Nat) (l0_1 : List Int) (A0_2 : Option Addr) (c0_2 : Nat) (l0_2 : List (S43)) (r1 : List (S45)) (r2 : Bool) (w : World) (hr0_1 : Kd.C (Kd.int .i64) w A0_1 l0_1.length l0_1) (hc0_1 : l0_1.length ≤ c0_1) (hr0_2 : Kd.C k43 w A0_2 l0_2.length l0_2) (hc0_2 : l0_2.length ≤ c0_2) (h : spec_NamesOf.f k a0_0 l0_1 l0_2 = some (r1, r2)) :
  Calls Tryd.prog 5 #[.agg #[.int .i64 a0_0, .slice A0_1 l0_1.length c0_1, .slice A0_2 l0_2.length c0_2]] w fun e w' => ∃ v0_ : Value, e = .returned (.tuple #[v0_, .bool r2]) ∧ Kd.R k45 45 w' w.heap.size (fun _ => True) v0_ r1 ∧ Below w.heap.size w w' := by
 have hu32 := Tryd.underlying32
 have hu43 := Tryd.underlying43
 have hu45 := Tryd.underlying45
 have HR0_1 := Ah hr0_1
 have HC0_1 := Ah hc0_1
 clear hr0_1 hc0_1
 have HR0_2 := Ah hr0_2
 have HC0_2 := Ah hc0_2
 clear hr0_2 hc0_2
 have HB := Ah (Below.refl w.heap.size w)
 have H : ((spec_GoodDir.f k a0_0 l0_1 l0_2).bind fun t171 => (if t171 = true then (spec_NamesOf.l0 k ([] : List (S45)) l0_2 (l0_2.length : Int) 0) else (some (([] : List (S45)), false)))) = some (r1, r2) := h
 clear h
 replace H := Option.bind_eq_some_iff.mp H
 obtain ⟨t171, A20, H⟩ := H
 try dsimp only at H
 have A2 := Ah A20
 clear A20
 by_cases c3 : t171 = true
 rotate_left
 ·
  replace c3 := Bool.eq_false_iff.mpr c3
  subst c3
  rw [if_neg fne] at H
  simp only [Option.some.injEq, Prod.mk.injEq] at H
  obtain ⟨rfl, rfl⟩ := H
  go_enter Tryd.func5, Tryd.ntmps5
  go_wp2_with (first | ((with_reducible refine gate_dst (N := 1) rfl ?_); refine boxL 1 32 #[.int .i64 a0_0, .slice A0_1 l0_1.length c0_1, .slice A0_2 l0_2.length c0_2] ?_; intro gb170 hg w24 BK170 hb; have GW170 := gw hg (bs HB); have GE170 := gw hg (bs HB); replace HB := Ah (below_step (bs HB) hb); clear hb hg; obtain ⟨hcz25_0, hcz25_1, hcz25_2⟩ := cz3 BK170; obtain ⟨hfz25_0, hfz25_1, hfz25_2⟩ := fz3 BK170) | ((with_reducible refine gate_callee (f := 15) rfl ?_); refine gL (some 10) rfl rfl Tryd.func15 (by kernel_rfl) rfl #[.agg #[.int .i64 a0_0, .slice A0_1 l0_1.length c0_1, .slice A0_2 l0_2.length c0_2]] rfl ?_; (with_reducible refine (spec_GoodDir.calls k a0_0 _ _ l0_1 _ _ l0_2 false _ ?side1 ?side2 ?side3 ?side4 A2.out).mono ?_); (case side1 => exact cb HR0_1 HB); (case side2 => exact HC0_1.out); (case side3 => exact cb HR0_2 HB); (case side4 => exact HC0_2.out); rintro e w26 ⟨rfl, hb⟩; refine ⟨_, rfl, ?_⟩; replace BK170 := nb BK170 hb; replace HB := Ah (below_step (bs1 HB GE170) hb); (try clear hb)))
  go_ret2
  exact ⟨_, er, by first | exact Kd.R_nil _ _ _ _ _ | exact Kd.N_nil _ _ _ _ _ | exact Kd.V_nil _ _ _ _ _ | exact Kd.Q_nil _ _ _ _ _ | exact Kd.S_nil _ _ _ _ _, bs1 HB GE170⟩
 subst c3
 rw [if_pos rfl] at H
 have H' := Ah H
 clear H
 go_enter Tryd.func5, Tryd.ntmps5
 go_wp2_with (first | ((with_reducible refine gate_dst (N := 1) rfl ?_); refine boxL 1 32 #[.int .i64 a0_0, .slice A0_1 l0_1.length c0_1, .slice A0_2 l0_2.length c0_2] ?_; intro gb170 hg w4 BK170 hb; have GW170 := gw hg (bs HB); have GE170 := gw hg (bs HB); replace HB := Ah (below_step (bs HB) hb); clear hb hg; obtain ⟨hcz5_0, hcz5_1, hcz5_2⟩ := cz3 BK170; obtain ⟨hfz5_0, hfz5_1, hfz5_2⟩ := fz3 BK170) | ((with_reducible refine gate_callee (f := 15) rfl ?_); refine gL (some 10) rfl rfl Tryd.func15 (by kernel_rfl) rfl #[.agg #[.int .i64 a0_0, .slice A0_1 l0_1.length c0_1, .slice A0_2 l0_2.length c0_2]] rfl ?_; (with_reducible refine (spec_GoodDir.calls k a0_0 _ _ l0_1 _ _ l0_2 true _ ?side1 ?side2 ?side3 ?side4 A2.out).mono ?_); (case side1 => exact cb HR0_1 HB); (case side2 => exact HC0_1.out); (case side3 => exact cb HR0_2 HB); (case side4 => exact HC0_2.out); rintro e w6 ⟨rfl, hb⟩; refine ⟨_, rfl, ?_⟩; replace BK170 := nb BK170 hb; replace HB := Ah (below_step (bs1 HB GE170) hb); (try clear hb); obtain ⟨hcz7_0, hcz7_1, hcz7_2⟩ := cz3 BK170; obtain ⟨hfz7_0, hfz7_1, hfz7_2⟩ := fz3 BK170))
 go_loopg [4, 15] k (fun kq v4 v15 w' => ∃ (x4_1 : List (S45)) (x15_1 : Int), v15 = .int .i64 x15_1 ∧ Aside0 (spec_NamesOf.l0 kq x4_1 l0_2 (l0_2.length : Int) x15_1 = some (r1, r2)) ∧ Aside0 (kq ≤ k) ∧ Aside0 (Kd.R k45 45 w' w.heap.size (fun _ => True) v4 x4_1) ∧ Aside0 (w'.heap[gb170]? = some (.cells #[.int .i64 a0_0, (.slice A0_1 l0_1.length c0_1), (.slice A0_2 l0_2.length c0_2)] 32 (0, 0))) ∧ Aside0 (Below w.heap.size w w'))
 case atStart => exact ⟨(([] : List (S45))), (0), e3, H', ⟨Nat.le_refl _⟩, ⟨by first | exact Kd.R_nil _ _ _ _ _ | exact Kd.N_nil _ _ _ _ _ | exact Kd.V_nil _ _ _ _ _ | exact Kd.Q_nil _ _ _ _ _ | exact Kd.S_nil _ _ _ _ _⟩, ⟨bk BK170⟩, ⟨bs1 HB GE170⟩⟩
 case round =>
  clear H'
  try clear c1
  try clear p2
  try clear c3
  try clear c5
  try clear hcz5_0 hcz5_1 hcz5_2
  try clear hcz7_0 hcz7_1 hcz7_2
  try clear hfz5_0 hfz5_1 hfz5_2
  try clear hfz7_0 hfz7_1 hfz7_2
  obtain ⟨x4_1, x15_1, rfl, HA, HK1, HO_4, BK170, HB⟩ := hrel
  cases gk with
  | zero => exact absurd HA.out (by simp [spec_NamesOf.l0])
  | succ k1 =>
   have H := HA.out
   clear HA
   simp only [spec_NamesOf.l0] at H
   by_cases c8 : x15_1 < (l0_2.length : Int)
   rotate_left
   ·
    rw [if_neg c8] at H
    have c8b0 : decide (x15_1 < (l0_2.length : Int)) = false := decide_eq_false c8
    clear c8
    simp only [Option.some.injEq, Prod.mk.injEq] at H
    obtain ⟨rfl, rfl⟩ := H
    go_wp2
    go_ret2
    exact ⟨_, er, by (with_reducible repeat (first | apply Kd.R_alloc | apply Kd.R_drewN | apply Kd.R_drew)); exact HO_4.out, bs1 HB GE170⟩
   rw [if_pos c8] at H
   have c8b0 : decide (x15_1 < (l0_2.length : Int)) = true := decide_eq_true c8
   clear c8
   by_cases c9 : 0 ≤ x15_1
   rotate_left
   ·
    rw [if_neg c9] at H
    exact absurd H (by simp)
   rw [if_pos c9] at H
   have c9b0 : decide (0 ≤ x15_1) = true := decide_eq_true c9
   clear c9
   by_cases c10 : x15_1 < (l0_2.length : Int)
   rotate_left
   ·
    rw [if_neg c10] at H
    exact absurd H (by simp)
   rw [if_pos c10] at H
   have c10b0 : decide (x15_1 < (l0_2.length : Int)) = true := decide_eq_true c10
   clear c10
   have H' := Ah H
   clear H
   have p172 : 0 ≤ (x15_1 : Int) := od
   have q172 : x15_1 < (l0_2.length : Int) := od
   obtain ⟨ad172, A172_1, c172_1, e172, hx172_0, hx172_1, hl172_1, hi172_1⟩ := at_T43 HR0_2.out x15_1 p172 q172
   cases e172
   replace hx172_0 := (HB.out.cell (World.block_lt_of_cell? w _ hx172_0)).trans hx172_0
   replace hx172_1 := (HB.out.cell (World.block_lt_of_cell? w _ hx172_1)).trans hx172_1
   have HR172_1 := Ah hi172_1
   have HC172_1 := Ah hl172_1
   clear hi172_1 hl172_1
   replace p172 := eq_true p172
   replace q172 := eq_true q172
   go_wp2_with (first | ((with_reducible refine gate_dst (N := 6) rfl ?_); refine boxL 6 43 #[.int .i64 0, .slice none 0 0] ?_; intro gb173 hg w11 BK173 hb; replace HO_4 := nr HO_4 hb; have GW173 := gw hg (bs1 HB GE170); have GE173 := gw hg (bs1 HB GE170); replace HB := Ah (below_step (bs1 HB GE170) hb); have NB170_173 := nn BK170 hg; have NB173_170 := nm BK170 hg; replace BK170 := nb BK170 hb; clear hb hg; have hnb12 := NB173_170.out; have hnc12 := NB170_173.out; obtain ⟨hcz13_0, hcz13_1⟩ := cz2 BK173; obtain ⟨hfz13_0, hfz13_1⟩ := fz2 BK173))
   go_loopg [4, 22] k1 (fun kq v4 v22 w' => ∃ (x4_2 : List (S45)) (x22_2 : Int), v22 = .int .i64 x22_2 ∧ Aside0 (spec_NamesOf.l1 kq x4_2 l0_2 (l0_2.length : Int) x15_1 ((rd_T43 l0_2 x15_1).f1) (((rd_T43 l0_2 x15_1).f1).length : Int) x22_2 = some (r1, r2)) ∧ Aside0 (kq ≤ k1) ∧ Aside0 (Kd.R k45 45 w' w.heap.size (fun _ => True) v4 x4_2) ∧ Aside0 (w'.heap[gb170]? = some (.cells #[.int .i64 a0_0, (.slice A0_1 l0_1.length c0_1), (.slice (some ad172) l0_2.length c0_2)] 32 (0, 0))) ∧ Aside0 (w'.heap[gb173]? = some (.cells #[.int .i64 ((rd_T43 l0_2 x15_1).f0), (.slice A172_1 ((rd_T43 l0_2 x15_1).f1).length c172_1)] 43 (0, 0))) ∧ Aside0 (Below w.heap.size w w'))
   case atStart => exact ⟨(x4_1), (0), e3, H', ⟨Nat.le_refl _⟩, ⟨by (with_reducible repeat (first | apply Kd.R_alloc | apply Kd.R_drewN | apply Kd.R_drew)); exact Kd.R_mono (Kd.R_far (p := ⟨gb173, 1, none⟩) (Kd.R_far (p := ⟨gb173, 0, none⟩) (Kd.R_types HO_4.out BK173.out (by decide)) (fun _ hk => hk.2) (.int .i64 ((rd_T43 l0_2 x15_1).f0))) (fun _ hk => hk.2) (.slice A172_1 ((rd_T43 l0_2 x15_1).f1).length c172_1)) (fun _ hk => trivial)⟩, ⟨bf BK170 NB170_173⟩, ⟨by (with_reducible repeat (first | refine blk_drewN ?_ _ | refine blk_drew ?_ | refine blk_alloc ?_ _)); refine blk_put (cs := #[.int .i64 ((rd_T43 l0_2 x15_1).f0), .slice none 0 0]) ?_ 1 _ rfl; (with_reducible repeat (first | refine blk_drewN ?_ _ | refine blk_drew ?_ | refine blk_alloc ?_ _)); refine blk_put (cs := #[.int .i64 0, .slice none 0 0]) ?_ 0 _ rfl; (with_reducible repeat (first | refine blk_drewN ?_ _ | refine blk_drew ?_ | refine blk_alloc ?_ _)); exact BK173.out⟩, ⟨bs2 HB GE170 GE173⟩⟩
   case round =>
    clear H'
    try clear c1
    try clear p1
    try clear q1
    try clear hx1
    try clear p2
    try clear c3
    try clear c5
    try clear c8
    try clear c8b0
    try clear c9
    try clear c9b0
    try clear c10
    try clear c10b0
    try clear c12
    try clear hcz13_0 hcz13_1
    try clear hcz5_0 hcz5_1 hcz5_2
    try clear hcz7_0 hcz7_1 hcz7_2
    try clear hfz13_0 hfz13_1
    try clear hfz5_0 hfz5_1 hfz5_2
    try clear hfz7_0 hfz7_1 hfz7_2
    try clear hx172_0
    try clear hx172_1
    try clear p172
    try clear p2
    try clear q172
    obtain ⟨x4_2, x22_2, rfl, HA, HK2, HO_4, BK170, BK173, HB⟩ := hrel
    cases gk with
    | zero => exact absurd HA.out (by simp [spec_NamesOf.l1])
    | succ k2 =>
     have H := HA.out
     clear HA
     simp only [spec_NamesOf.l1] at H
     by_cases c14 : x22_2 < (((rd_T43 l0_2 x15_1).f1).length : Int)
     rotate_left
     ·
      rw [if_neg c14] at H
      have c14b0 : decide (x22_2 < (((rd_T43 l0_2 x15_1).f1).length : Int)) = false := decide_eq_false c14
      clear c14
      have H' := Ah H
      clear H
      go_wp2
      go_roundg k2
      case measure => have := HK1.out; have := HK2.out; omega
      case rel => exact ⟨(x4_2), (wrap64 (x15_1 + 1)), e3, H', ⟨by have := HK1.out; have := HK2.out; omega⟩, ⟨rr HO_4.out⟩, ⟨bk BK170⟩, ⟨bs2 HB GE170 GE173⟩⟩
     rw [if_pos c14] at H
     have c14b0 : decide (x22_2 < (((rd_T43 l0_2 x15_1).f1).length : Int)) = true := decide_eq_true c14
     clear c14
     by_cases c15 : 0 ≤ x22_2
     rotate_left
     ·
      rw [if_neg c15] at H
      exact absurd H (by simp)
     rw [if_pos c15] at H
     have c15b0 : decide (0 ≤ x22_2) = true := decide_eq_true c15
     clear c15
     by_cases c16 : x22_2 < (((rd_T43 l0_2 x15_1).f1).length : Int)
     rotate_left
     ·
      rw [if_neg c16] at H
      exact absurd H (by simp)
     rw [if_pos c16] at H
     have c16b0 : decide (x22_2 < (((rd_T43 l0_2 x15_1).f1).length : Int)) = true := decide_eq_true c16
     clear c16
     replace H := Option.bind_eq_some_iff.mp H
     obtain ⟨t176, A170, H⟩ := H
     try dsimp only at H
     have A17 := Ah A170
     clear A170
     have H' := Ah H
     clear H
     have p174 : 0 ≤ (x22_2 : Int) := od
     have q174 : x22_2 < (((rd_T43 l0_2 x15_1).f1).length : Int) := od
     obtain ⟨ad174, e174, hx174_0, hx174_1⟩ := at_T45 HR172_1.out x22_2 p174 q174
     cases e174
     replace hx174_0 := (HB.out.cell (World.block_lt_of_cell? w _ hx174_0)).trans hx174_0
     replace hx174_1 := (HB.out.cell (World.block_lt_of_cell? w _ hx174_1)).trans hx174_1
     replace p174 := eq_true p174
     replace q174 := eq_true q174
     go_wp2_with (first | ((with_reducible refine gate_dst (N := 8) rfl ?_); refine boxL 8 45 #[.string (⟨#[]⟩ : ByteArray), .int .i64 0] ?_; intro gb175 hg w18 BK175 hb; replace HO_4 := Ah (Kd.R_below (Kd.R_elderB (rr HO_4.out) gb175 (Nat.le_of_eq hg.symm)) hb); have GW175 := gw hg (bs2 HB GE170 GE173); have GE175 := gw hg (bs2 HB GE170 GE173); replace HB := Ah (below_step (bs2 HB GE170 GE173) hb); have NB170_175 := nn BK170 hg; have NB175_170 := nm BK170 hg; replace BK170 := nb BK170 hb; have NB173_175 := nn BK173 hg; have NB175_173 := nm BK173 hg; replace BK173 := nb BK173 hb; clear hb hg; have hnb19 := NB175_170.out; have hnc19 := NB170_175.out; have hnb20 := NB175_173.out; have hnc20 := NB173_175.out; obtain ⟨hcz21_0, hcz21_1⟩ := cz2 BK175; obtain ⟨hfz21_0, hfz21_1⟩ := fz2 BK175; obtain ⟨Ao22, co22, eo22⟩ := Kd.R_slice HO_4.out; subst eo22) | ((with_reducible refine gate_callee (f := 16) rfl ?_); refine gL (some 28) rfl rfl Tryd.func16 (by kernel_rfl) rfl #[.slice Ao22 x4_2.length co22, .agg #[.string ((rd_T45 ((rd_T43 l0_2 x15_1).f1) x22_2).f0), .int .i64 ((rd_T45 ((rd_T43 l0_2 x15_1).f1) x22_2).f1)]] rfl ?_; (with_reducible refine (spec_l8Put.calls k2 _ _ x4_2 ((rd_T45 ((rd_T43 l0_2 x15_1).f1) x22_2).f0) ((rd_T45 ((rd_T43 l0_2 x15_1).f1) x22_2).f1) t176 _ ?side1 ?side2 A17.out).mono ?_); (case side1 => refine (Kd.R_reads' (e := 45) (base := w.heap.size) (ok := fun k_ => (True ∧ k_ ≠ gb175)) (n := x4_2.length) (c := co22) ?_).2.2; exact (by (with_reducible repeat (first | apply Kd.R_alloc | apply Kd.R_drewN | apply Kd.R_drew)); exact (Kd.R_mono (Kd.R_far (p := ⟨gb175, 1, none⟩) (Kd.R_far (p := ⟨gb175, 0, none⟩) (Kd.R_mono HO_4.out (fun k_ hk => (⟨hk, hk.2⟩ : _ ∧ k_ ≠ gb175))) (fun _ hk => hk.2) (.string ((rd_T45 ((rd_T43 l0_2 x15_1).f1) x22_2).f0))) (fun _ hk => hk.2) (.int .i64 ((rd_T45 ((rd_T43 l0_2 x15_1).f1) x22_2).f1))) (fun _ h_ => h_.1)))); (case side2 => exact (Kd.R_reads' HO_4.out).2.1); rintro e w23 ⟨v177, rfl, ho0, hb⟩; refine ⟨_, rfl, ?_⟩; have HO178 := Ah (Kd.R_lower (Kd.R_newB (Kd.R_new' ho0 (Kd.R_lt (by (with_reducible repeat (first | apply Kd.R_alloc | apply Kd.R_drewN | apply Kd.R_drew)); exact (Kd.R_mono (Kd.R_far (p := ⟨gb175, 1, none⟩) (Kd.R_far (p := ⟨gb175, 0, none⟩) (Kd.R_mono HO_4.out (fun k_ hk => (⟨hk, hk.2⟩ : _ ∧ k_ ≠ gb175))) (fun _ hk => hk.2) (.string ((rd_T45 ((rd_T43 l0_2 x15_1).f1) x22_2).f0))) (fun _ hk => hk.2) (.int .i64 ((rd_T45 ((rd_T43 l0_2 x15_1).f1) x22_2).f1))) (fun _ h_ => h_.1))))) (g := gb175) (o := .cells #[.string ((rd_T45 ((rd_T43 l0_2 x15_1).f1) x22_2).f0), .int .i64 ((rd_T45 ((rd_T43 l0_2 x15_1).f1) x22_2).f1)] 45 (0, 0)) (by (with_reducible repeat (first | refine blk_drewN ?_ _ | refine blk_drew ?_ | refine blk_alloc ?_ _)); refine blk_put (cs := #[.string ((rd_T45 ((rd_T43 l0_2 x15_1).f1) x22_2).f0), .int .i64 0]) ?_ 1 _ rfl; (with_reducible repeat (first | refine blk_drewN ?_ _ | refine blk_drew ?_ | refine blk_alloc ?_ _)); refine blk_put (cs := #[.string (⟨#[]⟩ : ByteArray), .int .i64 0]) ?_ 0 _ rfl; (with_reducible repeat (first | refine blk_drewN ?_ _ | refine blk_drew ?_ | refine blk_alloc ?_ _)); exact BK175.out)) (below_size (bs3 HB GE170 GE173 GE175))); replace HO_4 := Ah (Kd.R_elder' (by (with_reducible repeat (first | apply Kd.R_alloc | apply Kd.R_drewN | apply Kd.R_drew)); exact (Kd.R_mono (Kd.R_far (p := ⟨gb175, 1, none⟩) (Kd.R_far (p := ⟨gb175, 0, none⟩) (Kd.R_mono HO_4.out (fun k_ hk => (⟨hk, hk.2⟩ : _ ∧ k_ ≠ gb175))) (fun _ hk => hk.2) (.string ((rd_T45 ((rd_T43 l0_2 x15_1).f1) x22_2).f0))) (fun _ hk => hk.2) (.int .i64 ((rd_T45 ((rd_T43 l0_2 x15_1).f1) x22_2).f1))) (fun _ h_ => h_.1))) (Kd.R_base ho0) hb); replace BK170 := Ah (blk_below (bf BK170 NB170_175) hb); replace BK173 := Ah (blk_below (bf BK173 NB173_175) hb); replace BK175 := Ah (blk_below (g := gb175) (o := .cells #[.string ((rd_T45 ((rd_T43 l0_2 x15_1).f1) x22_2).f0), .int .i64 ((rd_T45 ((rd_T43 l0_2 x15_1).f1) x22_2).f1)] 45 (0, 0)) (by (with_reducible repeat (first | refine blk_drewN ?_ _ | refine blk_drew ?_ | refine blk_alloc ?_ _)); refine blk_put (cs := #[.string ((rd_T45 ((rd_T43 l0_2 x15_1).f1) x22_2).f0), .int .i64 0]) ?_ 1 _ rfl; (with_reducible repeat (first | refine blk_drewN ?_ _ | refine blk_drew ?_ | refine blk_alloc ?_ _)); refine blk_put (cs := #[.string (⟨#[]⟩ : ByteArray), .int .i64 0]) ?_ 0 _ rfl; (with_reducible repeat (first | refine blk_drewN ?_ _ | refine blk_drew ?_ | refine blk_alloc ?_ _)); exact BK175.out) hb); replace HB := Ah (below_step (bs3 HB GE170 GE173 GE175) hb); (try clear hb hk ho0)))
     go_roundg k2
     case measure => have := HK1.out; have := HK2.out; omega
     case rel => exact ⟨(t176), (wrap64 (x22_2 + 1)), e3, H', ⟨by have := HK1.out; have := HK2.out; omega⟩, rm HO178 (fun _ hk => trivial), ⟨bk BK170⟩, ⟨bk BK173⟩, ⟨bs3 HB GE170 GE173 GE175⟩⟩

/-! ### laws_toIntS: function 17 -/
def laws_toIntS.l0 : Nat → List Int → List Int → Int → Option (List Int)
 | 0, _, _, _ => none
 | k + 1, x0, x3, x4 => if x4 < (x0.length : Int) then (if 0 ≤ x4 then (if x4 < (x3.length : Int) then (laws_toIntS.l0 k x0 (x3.set (x4 : Int).toNat (rd x0 x4)) (wrap64 (x4 + 1))) else (none)) else (none)) else (some x3)
def laws_toIntS.f (k : Nat) (l0 : List Int) : Option (List Int) := if 0 ≤ (l0.length : Int) then (if ((l0.length : Int) : Int).toNat ≤ 35184372088832 then (laws_toIntS.l0 k l0 (List.replicate ((l0.length : Int) : Int).toNat 0) 0) else (none)) else (none)
theorem laws_toIntS.mono_l : ∀ k, (∀ y0 y1 y2, LeO (laws_toIntS.l0 k y0 y1 y2) (laws_toIntS.l0 (k + 1) y0 y1 y2))
 | 0 => fun _ _ _ r h => by simp [laws_toIntS.l0] at h
 | k + 1 => by
  have ih0 := laws_toIntS.mono_l k
  ·
   intro y0 y1 y2
   unfold laws_toIntS.l0
   repeat' first
   | (with_reducible exact ih0 _ _ _)
   | (with_reducible exact LeO.refl _)
   | (with_reducible exact LeO.none _)
   | (with_reducible refine LeO.ite ?_ ?_)
   | (with_reducible refine LeO.bind ?_ (fun _ => ?_))
   | exact ih0 _ _ _
   | exact LeO.none _
   | refine LeO.ite ?_ ?_
   | refine LeO.bind ?_ (fun _ => ?_)
theorem laws_toIntS.mono : ∀ a0 k, LeO (laws_toIntS.f k a0) (laws_toIntS.f (k + 1) a0) := by
 intro a0 k
 have ih0 := laws_toIntS.mono_l k
 unfold laws_toIntS.f
 repeat' first
   | (with_reducible exact ih0 _ _ _)
   | (with_reducible exact LeO.refl _)
   | (with_reducible exact LeO.none _)
   | (with_reducible refine LeO.ite ?_ ?_)
   | (with_reducible refine LeO.bind ?_ (fun _ => ?_))
   | exact ih0 _ _ _
   | exact LeO.none _
   | refine LeO.ite ?_ ?_
   | refine LeO.bind ?_ (fun _ => ?_)
set_option maxHeartbeats 8000000 in
set_option maxRecDepth 100000 in
theorem laws_toIntS.calls (k : Nat) (A0 : Option Addr) (c0 : Nat) (l0 : List Int) (r : List Int) (w : World) (hr0 : Kd.C (Kd.int .i64) w A0 l0.length l0) (hc0 : l0.length ≤ c0) (h : laws_toIntS.f k l0 = some r) :
  Calls Tryd.prog 17 #[.slice A0 l0.length c0] w fun e w' => ∃ v0_ : Value, e = .returned (v0_) ∧ Kd.R (Kd.int .i64) 3 w' w.heap.size (fun _ => True) v0_ r ∧ Below w.heap.size w w' := by
 have HR0 := Ah hr0
 have HC0 := Ah hc0
 clear hr0 hc0
 have HB := Ah (Below.refl w.heap.size w)
 have H : (if 0 ≤ (l0.length : Int) then (if ((l0.length : Int) : Int).toNat ≤ 35184372088832 then (laws_toIntS.l0 k l0 (List.replicate ((l0.length : Int) : Int).toNat 0) 0) else (none)) else (none)) = some r := h
 clear h
 by_cases c2 : 0 ≤ (l0.length : Int)
 rotate_left
 ·
  rw [if_neg c2] at H
  exact absurd H (by simp)
 rw [if_pos c2] at H
 have c2b0 := eq_true c2
 have c2b1 : decide (0 ≤ (l0.length : Int)) = true := decide_eq_true c2
 clear c2
 by_cases c3 : ((l0.length : Int) : Int).toNat ≤ 35184372088832
 rotate_left
 ·
  rw [if_neg c3] at H
  exact absurd H (by simp)
 rw [if_pos c3] at H
 have c3b0 := eq_true c3
 have c3b1 : decide (((l0.length : Int) : Int).toNat ≤ 35184372088832) = true := decide_eq_true c3
 clear c3
 obtain ⟨y179, hy179⟩ : ∃ y_ : List Int, y_ = (List.replicate ((l0.length : Int) : Int).toNat 0) := ⟨_, rfl⟩
 replace H : (laws_toIntS.l0 k l0 y179 0) = some r := by first | (rw [hy179]; with_reducible exact H) | (have H2_ := (Option.bind_some _ _).symm.trans H; rw [hy179]; with_reducible exact H2_) | (have H2_ := (Option.bind_some _ _).symm.trans H; with_reducible exact H2_) | with_reducible exact H | (rw [hy179]; exact H) | exact H
 have Ny179 := Ah hy179
 clear hy179
 have H' := Ah H
 clear H
 go_enter Tryd.func17, Tryd.ntmps17
 go_wp2_with (first | ((with_reducible refine gate_dst (N := 7) rfl ?_); refine Kd.R_make (Kd.int .i64) _ 3 rfl (N := 7) rfl 22 _ _ rfl (l0.length : Int) rfl rfl Tryd.underlying22 (.int .i64 0) 8 info3 rfl (by decide) (by omega) 0 (ok := fun _ => True) (okp := fun _ => True) rfl (fun _ hk => hk) trivial (od) (Nat.le_trans (Nat.mul_le_mul_right _ (od : (l0.length : Int).toNat ≤ 35184372088832)) (by omega)) (Below.refl _ _) (Nat.le_refl _) ?_; intro v180 w4 ho5 hb hg_ hnew_; clear hg_ hnew_; (first | rw [← Ny179.out] at ho5 | (simp only [Int.reduceToNat] at ho5; rw [← Ny179.out] at ho5)); have HO181 := Ah (Kd.R_lower ho5 (below_size (bs HB))); replace HB := Ah (below_step (bs HB) hb); clear hb ho5))
 go_loopg [4] k (fun kq v4 w' => ∃ (x3_1 : List Int) (x4_1 : Int), v4 = .int .i64 x4_1 ∧ Aside0 (laws_toIntS.l0 kq l0 x3_1 x4_1 = some r) ∧ Aside0 (kq ≤ k) ∧ Aside0 (Kd.R (Kd.int .i64) 3 w' w.heap.size (fun _ => True) v180 x3_1) ∧ Aside0 (Below w.heap.size w w'))
 case atStart => exact ⟨(y179), (0), e3, H', ⟨Nat.le_refl _⟩, ⟨rr HO181.out⟩, ⟨bs HB⟩⟩
 case round =>
  clear H'
  try clear c1
  try clear c2
  try clear c2b0
  try clear c2b1
  try clear p2
  try clear c3
  try clear c3b0
  try clear c3b1
  obtain ⟨x3_1, x4_1, rfl, HA, HK1, HO_3, HB⟩ := hrel
  cases gk with
  | zero => exact absurd HA.out (by simp [laws_toIntS.l0])
  | succ k1 =>
   have H := HA.out
   clear HA
   simp only [laws_toIntS.l0] at H
   by_cases c6 : x4_1 < (l0.length : Int)
   rotate_left
   ·
    rw [if_neg c6] at H
    have c6b0 : decide (x4_1 < (l0.length : Int)) = false := decide_eq_false c6
    clear c6
    obtain rfl := Option.some.inj H
    go_wp2
    go_ret
    exact ⟨_, er, by (with_reducible repeat (first | apply Kd.R_alloc | apply Kd.R_drewN | apply Kd.R_drew)); exact HO_3.out, bs HB⟩
   rw [if_pos c6] at H
   have c6b0 : decide (x4_1 < (l0.length : Int)) = true := decide_eq_true c6
   clear c6
   by_cases c7 : 0 ≤ x4_1
   rotate_left
   ·
    rw [if_neg c7] at H
    exact absurd H (by simp)
   rw [if_pos c7] at H
   have c7b0 : decide (0 ≤ x4_1) = true := decide_eq_true c7
   clear c7
   by_cases c8 : x4_1 < (x3_1.length : Int)
   rotate_left
   ·
    rw [if_neg c8] at H
    exact absurd H (by simp)
   rw [if_pos c8] at H
   have c8b0 : decide (x4_1 < (x3_1.length : Int)) = true := decide_eq_true c8
   clear c8
   obtain ⟨y183, hy183⟩ : ∃ y_ : List Int, y_ = (x3_1.set (x4_1 : Int).toNat (rd l0 x4_1)) := ⟨_, rfl⟩
   replace H : (laws_toIntS.l0 k1 l0 y183 (wrap64 (x4_1 + 1))) = some r := by first | (rw [hy183]; with_reducible exact H) | (have H2_ := (Option.bind_some _ _).symm.trans H; rw [hy183]; with_reducible exact H2_) | (have H2_ := (Option.bind_some _ _).symm.trans H; with_reducible exact H2_) | with_reducible exact H | (rw [hy183]; exact H) | exact H
   have Ny183 := Ah hy183
   clear hy183
   have H' := Ah H
   clear H
   have p182 : 0 ≤ (x4_1 : Int) := od
   have q182 : x4_1 < (l0.length : Int) := od
   obtain ⟨ad182, e182, hx182_0⟩ := Kd.at_int HR0.out x4_1 p182 q182
   cases e182
   replace hx182_0 := (HB.out.cell (World.block_lt_of_cell? w _ hx182_0)).trans hx182_0
   replace p182 := eq_true p182
   replace q182 := eq_true q182
   have p9 : 0 ≤ (x4_1 : Int) := od
   have q9 : (x4_1 : Int) < ((x3_1.length : Int) : Int) := od
   obtain ⟨go9, co9, eo9, gb9, gl9, cl9, HG9⟩ := Kd.R_form HO_3.out (by omega)
   (first | cases eo9 | (injection eo9 with ea_ en_ ec_; (first | subst ea_ | (injection ea_ with ea_; subst ea_)); subst ec_; clear en_))
   have GB9 := Ah gb9
   have GG9 := Ah HG9
   clear gb9 gl9 HG9
   obtain ⟨hx9_0, hf9_0⟩ := Kd.R_celln 0 HO_3.out (x4_1 : Int) p9 q9
   replace p9 := eq_true p9
   replace q9 := eq_true q9
   have HP10 := Kd.R_putg HO_3.out (x4_1 : Int) (rd l0 x4_1)
   go_wp2_with (first | ((with_reducible refine gate_store (t := 3) (p := 20) rfl ?_); refine store_event (t := 3) (p := 20) (v := ?vo_w11) (w1 := (wr.setCell ⟨go9, (x4_1 : Int).toNat, none⟩ (.int .i64 (rd l0 x4_1)))) ?hg ?ho ?hn ?hr ?_; (case ho => rfl); (case hg => rfl); (case hn => rfl); (case hr => first | (go_simp; done) | (go_simp; rfl)); intro w11 hw; have hg : wr.grownBy w11 (some go9) := (by rw [hw]; exact HP10.2); have hp_ : Kd.R (Kd.int .i64) 3 w11 w.heap.size (fun _ => True) (.slice (some ⟨go9, 0, none⟩) x3_1.length co9) y183 := (by rw [hw, Ny183.out]; exact HP10.1); clear HP10; replace HO_3 := Ah (hp_); replace HB := Ah ((by rw [hw]; exact below_set (HB.out) GB9.out : Below w.heap.size w w11)); clear hg hw hp_))
   go_roundg k1
   case measure => have := HK1.out; omega
   case rel => exact ⟨(y183), (wrap64 (x4_1 + 1)), e3, H', ⟨by have := HK1.out; omega⟩, ⟨rr HO_3.out⟩, ⟨bs HB⟩⟩

/-! ### laws_toName: function 61 -/
def laws_toName.f (a0_0 : ByteArray) (a0_1 : Int) : Option (ByteArray × Int) := some (a0_0, a0_1)
set_option maxHeartbeats 8000000 in
set_option maxRecDepth 100000 in
theorem laws_toName.calls (a0_0 : ByteArray) (a0_1 : Int) (r1 : ByteArray) (r2 : Int) (w : World) (h : laws_toName.f a0_0 a0_1 = some (r1, r2)) :
  Calls Tryd.prog 61 #[.agg #[.string a0_0, .int .i64 a0_1]] w fun e w' => e = .returned (.agg #[.string r1, .int .i64 r2]) ∧ Below w.heap.size w w' := by
 have hu89 := Tryd.underlying89
 have hu45 := Tryd.underlying45
 have HB := Ah (Below.refl w.heap.size w)
 have H : (some (a0_0, a0_1)) = some (r1, r2) := h
 clear h
 simp only [Option.some.injEq, Prod.mk.injEq] at H
 obtain ⟨rfl, rfl⟩ := H
 go_enter Tryd.func61, Tryd.ntmps61
 go_wp2_with (first | ((with_reducible refine gate_dst (N := 1) rfl ?_); refine boxL 1 89 #[.string a0_0, .int .i64 a0_1] ?_; intro gb184 hg w2 BK184 hb; have GW184 := gw hg (bs HB); have GE184 := gw hg (bs HB); replace HB := Ah (below_step (bs HB) hb); clear hb hg) | ((with_reducible refine gate_dst (N := 2) rfl ?_); refine boxL 2 45 #[.string (⟨#[]⟩ : ByteArray), .int .i64 0] ?_; intro gb185 hg w3 BK185 hb; have GW185 := gw hg (bs1 HB GE184); have GE185 := gw hg (bs1 HB GE184); replace HB := Ah (below_step (bs1 HB GE184) hb); have NB184_185 := nn BK184 hg; have NB185_184 := nm BK184 hg; replace BK184 := nb BK184 hb; clear hb hg) | ((with_reducible refine gate_dst (N := 3) rfl ?_); refine boxL 3 45 #[.string (⟨#[]⟩ : ByteArray), .int .i64 0] ?_; intro gb186 hg w4 BK186 hb; have GW186 := gw hg (bs2 HB GE184 GE185); have GE186 := gw hg (bs2 HB GE184 GE185); replace HB := Ah (below_step (bs2 HB GE184 GE185) hb); have NB184_186 := nn BK184 hg; have NB186_184 := nm BK184 hg; replace BK184 := nb BK184 hb; have NB185_186 := Ah ((by rw [hg]; exact Nat.ne_of_lt (blk_lt (g := gb185) (o := .cells #[.string (⟨#[]⟩ : ByteArray), .int .i64 0] 45 (0, 0)) (bk BK185)) : gb185 ≠ gb186)); have NB186_185 := Ah ((by rw [hg]; exact Nat.ne_of_gt (blk_lt (g := gb185) (o := .cells #[.string (⟨#[]⟩ : ByteArray), .int .i64 0] 45 (0, 0)) (bk BK185)) : gb186 ≠ gb185)); replace BK185 := Ah (blk_below (g := gb185) (o := .cells #[.string (⟨#[]⟩ : ByteArray), .int .i64 0] 45 (0, 0)) (bk BK185) hb); clear hb hg; have hnb5 := NB184_185.out; have hnc5 := NB185_184.out; have hnb6 := NB184_186.out; have hnc6 := NB186_184.out; obtain ⟨hcz7_0, hcz7_1⟩ := cz2 BK184; obtain ⟨hfz7_0, hfz7_1⟩ := fz2 BK184; have hnb8 := NB186_185.out; have hnc8 := NB185_186.out; obtain ⟨hcz9_0, hcz9_1⟩ := cz2 BK186; obtain ⟨hfz9_0, hfz9_1⟩ := fz2 BK186; obtain ⟨hcz10_0, hcz10_1⟩ := cz2 BK185; obtain ⟨hfz10_0, hfz10_1⟩ := fz2 BK185))
 refine bodyPost_ret (results_cell_row rfl _ _ gb185 45 #[.string a0_0, .int .i64 a0_1] (0, 0) _ rfl (by (with_reducible repeat (first | refine blk_drewN ?_ _ | refine blk_drew ?_ | refine blk_alloc ?_ _)); refine blk_put (cs := #[.string a0_0, .int .i64 0]) ?_ 1 _ rfl; (with_reducible repeat (first | refine blk_drewN ?_ _ | refine blk_drew ?_ | refine blk_alloc ?_ _)); refine blk_put (cs := #[.string (⟨#[]⟩ : ByteArray), .int .i64 0]) ?_ 0 _ rfl; (with_reducible repeat (first | refine blk_drewN ?_ _ | refine blk_drew ?_ | refine blk_alloc ?_ _)); refine blk_far ?_ NB185_186.out _; (with_reducible repeat (first | refine blk_drewN ?_ _ | refine blk_drew ?_ | refine blk_alloc ?_ _)); refine blk_far ?_ NB185_186.out _; (with_reducible repeat (first | refine blk_drewN ?_ _ | refine blk_drew ?_ | refine blk_alloc ?_ _)); exact BK185.out) Tryd.underlying45 rfl (by kernel_rfl)) rfl ?_
 exact ⟨er, bs3 HB GE184 GE185 GE186⟩

/-! ### laws_toNameS: function 46 -/
def laws_toNameS.l0 : Nat → List (S89) → List (S45) → Int → Option ((List (S45)))
 | 0, _, _, _ => none
 | k + 1, x0, x3, x4 => if x4 < (x0.length : Int) then (if 0 ≤ x4 then ((laws_toName.f ((rd_T89 x0 x4).f0) ((rd_T89 x0 x4).f1)).bind fun bt191 => (if x4 < (x3.length : Int) then (laws_toNameS.l0 k x0 (x3.set (x4 : Int).toNat (⟨bt191.1, bt191.2⟩ : S45)) (wrap64 (x4 + 1))) else (none))) else (none)) else (some x3)
def laws_toNameS.f (k : Nat) (l0 : List (S89)) : Option ((List (S45))) := if 0 ≤ (l0.length : Int) then (if ((l0.length : Int) : Int).toNat ≤ 11728124029610 then (laws_toNameS.l0 k l0 (List.replicate ((l0.length : Int) : Int).toNat z45) 0) else (none)) else (none)
theorem laws_toNameS.mono_l : ∀ k, (∀ y0 y1 y2, LeO (laws_toNameS.l0 k y0 y1 y2) (laws_toNameS.l0 (k + 1) y0 y1 y2))
 | 0 => fun _ _ _ r h => by simp [laws_toNameS.l0] at h
 | k + 1 => by
  have ih0 := laws_toNameS.mono_l k
  ·
   intro y0 y1 y2
   unfold laws_toNameS.l0
   repeat' first
   | (with_reducible exact ih0 _ _ _)
   | (with_reducible exact LeO.refl _)
   | (with_reducible exact LeO.none _)
   | (with_reducible refine LeO.ite ?_ ?_)
   | (with_reducible refine LeO.bind ?_ (fun _ => ?_))
   | exact ih0 _ _ _
   | exact LeO.none _
   | refine LeO.ite ?_ ?_
   | refine LeO.bind ?_ (fun _ => ?_)
theorem laws_toNameS.mono : ∀ a0 k, LeO (laws_toNameS.f k a0) (laws_toNameS.f (k + 1) a0) := by
 intro a0 k
 have ih0 := laws_toNameS.mono_l k
 unfold laws_toNameS.f
 repeat' first
   | (with_reducible exact ih0 _ _ _)
   | (with_reducible exact LeO.refl _)
   | (with_reducible exact LeO.none _)
   | (with_reducible refine LeO.ite ?_ ?_)
   | (with_reducible refine LeO.bind ?_ (fun _ => ?_))
   | exact ih0 _ _ _
   | exact LeO.none _
   | refine LeO.ite ?_ ?_
   | refine LeO.bind ?_ (fun _ => ?_)
set_option maxHeartbeats 8000000 in
set_option maxRecDepth 100000 in
theorem laws_toNameS.calls (k : Nat) (A0 : Option Addr) (c0 : Nat) (l0 : List (S89)) (r : List (S45)) (w : World) (hr0 : Kd.C k89 w A0 l0.length l0) (hc0 : l0.length ≤ c0) (h : laws_toNameS.f k l0 = some r) :
  Calls Tryd.prog 46 #[.slice A0 l0.length c0] w fun e w' => ∃ v0_ : Value, e = .returned (v0_) ∧ Kd.R k45 45 w' w.heap.size (fun _ => True) v0_ r ∧ Below w.heap.size w w' := by
 have hu89 := Tryd.underlying89
 have hu45 := Tryd.underlying45
 have HR0 := Ah hr0
 have HC0 := Ah hc0
 clear hr0 hc0
 have HB := Ah (Below.refl w.heap.size w)
 have H : (if 0 ≤ (l0.length : Int) then (if ((l0.length : Int) : Int).toNat ≤ 11728124029610 then (laws_toNameS.l0 k l0 (List.replicate ((l0.length : Int) : Int).toNat z45) 0) else (none)) else (none)) = some r := h
 clear h
 by_cases c2 : 0 ≤ (l0.length : Int)
 rotate_left
 ·
  rw [if_neg c2] at H
  exact absurd H (by simp)
 rw [if_pos c2] at H
 have c2b0 := eq_true c2
 have c2b1 : decide (0 ≤ (l0.length : Int)) = true := decide_eq_true c2
 clear c2
 by_cases c3 : ((l0.length : Int) : Int).toNat ≤ 11728124029610
 rotate_left
 ·
  rw [if_neg c3] at H
  exact absurd H (by simp)
 rw [if_pos c3] at H
 have c3b0 := eq_true c3
 have c3b1 : decide (((l0.length : Int) : Int).toNat ≤ 11728124029610) = true := decide_eq_true c3
 clear c3
 obtain ⟨y187, hy187⟩ : ∃ y_ : List (S45), y_ = (List.replicate ((l0.length : Int) : Int).toNat z45) := ⟨_, rfl⟩
 replace H : (laws_toNameS.l0 k l0 y187 0) = some r := by first | (rw [hy187]; with_reducible exact H) | (have H2_ := (Option.bind_some _ _).symm.trans H; rw [hy187]; with_reducible exact H2_) | (have H2_ := (Option.bind_some _ _).symm.trans H; with_reducible exact H2_) | with_reducible exact H | (rw [hy187]; exact H) | exact H
 have Ny187 := Ah hy187
 clear hy187
 have H' := Ah H
 clear H
 go_enter Tryd.func46, Tryd.ntmps46
 go_wp2_with (first | ((with_reducible refine gate_dst (N := 7) rfl ?_); refine Kd.R_make k45 _ 45 rfl (N := 7) rfl 27 _ _ rfl (l0.length : Int) rfl rfl Tryd.underlying27 (.agg #[(.string ⟨#[]⟩), (.int .i64 0)]) 24 info45 rfl (by decide) (by omega) z45 (ok := fun _ => True) (okp := fun _ => True) (k45_mkM _ _ _ z45 ) (fun _ hk => hk) trivial (od) (Nat.le_trans (Nat.mul_le_mul_right _ (od : (l0.length : Int).toNat ≤ 11728124029610)) (by omega)) (Below.refl _ _) (Nat.le_refl _) ?_; intro v188 w4 ho5 hb hg_ hnew_; clear hg_ hnew_; (first | rw [← Ny187.out] at ho5 | (simp only [Int.reduceToNat] at ho5; rw [← Ny187.out] at ho5)); have HO189 := Ah (Kd.R_lower ho5 (below_size (bs HB))); replace HB := Ah (below_step (bs HB) hb); clear hb ho5))
 go_loopg [4] k (fun kq v4 w' => ∃ (x3_1 : List (S45)) (x4_1 : Int), v4 = .int .i64 x4_1 ∧ Aside0 (laws_toNameS.l0 kq l0 x3_1 x4_1 = some r) ∧ Aside0 (kq ≤ k) ∧ Aside0 (Kd.R k45 45 w' w.heap.size (fun _ => True) v188 x3_1) ∧ Aside0 (Below w.heap.size w w'))
 case atStart => exact ⟨(y187), (0), e3, H', ⟨Nat.le_refl _⟩, ⟨rr HO189.out⟩, ⟨bs HB⟩⟩
 case round =>
  clear H'
  try clear c2
  try clear c2b0
  try clear c2b1
  try clear p2
  try clear c3
  try clear c3b0
  try clear c3b1
  try clear c4
  obtain ⟨x3_1, x4_1, rfl, HA, HK1, HO_3, HB⟩ := hrel
  cases gk with
  | zero => exact absurd HA.out (by simp [laws_toNameS.l0])
  | succ k1 =>
   have H := HA.out
   clear HA
   simp only [laws_toNameS.l0] at H
   by_cases c6 : x4_1 < (l0.length : Int)
   rotate_left
   ·
    rw [if_neg c6] at H
    have c6b0 : decide (x4_1 < (l0.length : Int)) = false := decide_eq_false c6
    clear c6
    obtain rfl := Option.some.inj H
    go_wp2
    go_ret
    exact ⟨_, er, by (with_reducible repeat (first | apply Kd.R_alloc | apply Kd.R_drewN | apply Kd.R_drew)); exact HO_3.out, bs HB⟩
   rw [if_pos c6] at H
   have c6b0 : decide (x4_1 < (l0.length : Int)) = true := decide_eq_true c6
   clear c6
   by_cases c7 : 0 ≤ x4_1
   rotate_left
   ·
    rw [if_neg c7] at H
    exact absurd H (by simp)
   rw [if_pos c7] at H
   have c7b0 : decide (0 ≤ x4_1) = true := decide_eq_true c7
   clear c7
   replace H := Option.bind_eq_some_iff.mp H
   obtain ⟨⟨t191, t192⟩, A80, H⟩ := H
   try dsimp only at H
   have A8 := Ah A80
   clear A80
   by_cases c9 : x4_1 < (x3_1.length : Int)
   rotate_left
   ·
    rw [if_neg c9] at H
    exact absurd H (by simp)
   rw [if_pos c9] at H
   have c9b0 : decide (x4_1 < (x3_1.length : Int)) = true := decide_eq_true c9
   clear c9
   obtain ⟨y193, hy193⟩ : ∃ y_ : List (S45), y_ = (x3_1.set (x4_1 : Int).toNat (⟨t191, t192⟩ : S45)) := ⟨_, rfl⟩
   replace H : (laws_toNameS.l0 k1 l0 y193 (wrap64 (x4_1 + 1))) = some r := by first | (rw [hy193]; with_reducible exact H) | (have H2_ := (Option.bind_some _ _).symm.trans H; rw [hy193]; with_reducible exact H2_) | (have H2_ := (Option.bind_some _ _).symm.trans H; with_reducible exact H2_) | with_reducible exact H | (rw [hy193]; exact H) | exact H
   have Ny193 := Ah hy193
   clear hy193
   have H' := Ah H
   clear H
   have p190 : 0 ≤ (x4_1 : Int) := od
   have q190 : x4_1 < (l0.length : Int) := od
   obtain ⟨ad190, e190, hx190_0, hx190_1⟩ := at_T89 HR0.out x4_1 p190 q190
   cases e190
   replace hx190_0 := (HB.out.cell (World.block_lt_of_cell? w _ hx190_0)).trans hx190_0
   replace hx190_1 := (HB.out.cell (World.block_lt_of_cell? w _ hx190_1)).trans hx190_1
   replace p190 := eq_true p190
   replace q190 := eq_true q190
   go_wp2_with (first | ((with_reducible refine gate_callee (f := 61) rfl ?_); refine gL (some 20) rfl rfl Tryd.func61 (by kernel_rfl) rfl #[.agg #[.string ((rd_T89 l0 x4_1).f0), .int .i64 ((rd_T89 l0 x4_1).f1)]] rfl ?_; (with_reducible refine (laws_toName.calls ((rd_T89 l0 x4_1).f0) ((rd_T89 l0 x4_1).f1) t191 t192 _ A8.out).mono ?_); rintro e w11 ⟨rfl, hb⟩; refine ⟨_, rfl, ?_⟩; replace HO_3 := nr HO_3 hb; replace HB := Ah (below_step (bs HB) hb); (try clear hb); have p10 : 0 ≤ (x4_1 : Int) := od; have q10 : (x4_1 : Int) < ((x3_1.length : Int) : Int) := od; obtain ⟨go10, co10, eo10, gb10, gl10, cl10, HG10⟩ := Kd.R_form HO_3.out (by omega); (first | cases eo10 | (injection eo10 with ea_ en_ ec_; (first | subst ea_ | (injection ea_ with ea_; subst ea_)); subst ec_; clear en_)); have GB10 := Ah gb10; have GG10 := Ah HG10; clear gb10 gl10 HG10; obtain ⟨ce10, hcl10, hM10, hcc10, hfr10⟩ := Kd.R_elem HO_3.out z45 (x4_1 : Int) p10 q10; obtain rfl := k45_openM hM10; have hx10_0 : w11.cell? ⟨go10, (x4_1 : Int).toNat * 2, none⟩ = some (.string ((rd_T45 x3_1 x4_1).f0)) := hcc10 0 _ rfl; have hx10_1 : w11.cell? ⟨go10, (x4_1 : Int).toNat * 2 + 1, none⟩ = some (.int .i64 ((rd_T45 x3_1 x4_1).f1)) := hcc10 1 _ rfl; have hf10_0 : w11.frozen? ⟨go10, (x4_1 : Int).toNat * 2, none⟩ = false := hfr10 0; have hf10_1 : w11.frozen? ⟨go10, (x4_1 : Int).toNat * 2 + 1, none⟩ = false := hfr10 1; clear hcl10 hcc10 hfr10 hM10; replace p10 := eq_true p10; replace q10 := eq_true q10; have HX12 := Ah (show Kd.R k45 45 w11 w.heap.size (fun _ => True) (.slice (some ⟨go10, 0, none⟩) x3_1.length co10) x3_1 from (rr HO_3.out)); obtain ⟨ce12, hcl12, hM12, hcc12, hfr12⟩ := Kd.R_elem HX12.out z45 (x4_1 : Int) (od) (by have h_ : (x4_1 : Int) < ((x3_1.length : Int) : Int) := od; first | exact h_ | (have e_ := (Kd.R_reads' HO_3.out).1; omega) | simpa using h_); obtain rfl := k45_openM hM12; have HP12 := Kd.R_seg HX12.out (x4_1 : Int) (od) (by have h_ : (x4_1 : Int) < ((x3_1.length : Int) : Int) := od; first | exact h_ | (have e_ := (Kd.R_reads' HO_3.out).1; omega) | simpa using h_) (seg := [.string t191, .int .i64 t192]) (j := 0) hcl12 hcc12 (show 2 ≤ 2 from by decide) (x' := (⟨t191, t192⟩ : S45)) (k45_mkM _ _ _ (⟨t191, t192⟩ : S45) ) (fun _ hk => hk); have hx12_0 := hcc12 0 _ rfl; (try simp only [show (k45).sz = 2 from rfl, Nat.mul_one, Nat.add_zero] at hx12_0); have hf12_0 := hfr12 0; (try simp only [show (k45).sz = 2 from rfl, Nat.mul_one, Nat.add_zero] at hf12_0); have hx12_1 := hcc12 1 _ rfl; (try simp only [show (k45).sz = 2 from rfl, Nat.mul_one, Nat.add_zero] at hx12_1); have hf12_1 := hfr12 1; (try simp only [show (k45).sz = 2 from rfl, Nat.mul_one, Nat.add_zero] at hf12_1); clear hcl12 hcc12 hfr12 hM12) | ((with_reducible refine gate_store (t := 45) (p := 21) rfl ?_); refine store_event (t := 45) (p := 21) (v := ?vo_w13) (w1 := ((w11.setCell ⟨go10, (x4_1 : Int).toNat * 2, none⟩ (.string t191)).setCell ⟨go10, (x4_1 : Int).toNat * 2 + 1, none⟩ (.int .i64 t192))) ?hg ?ho ?hn ?hr ?_; (case ho => rfl); (case hg => rfl); (case hn => rfl); (case hr => first | (go_simp; done) | (go_simp; rfl)); intro w13 hw; have hg : w11.grownBy w13 (some go10) := (by rw [hw]; exact HP12.2); have hp_ : Kd.R k45 45 w13 w.heap.size (fun _ => True) (.slice (some ⟨go10, 0, none⟩) x3_1.length co10) y193 := (by rw [hw, Ny193.out]; exact HP12.1); clear HP12; replace HO_3 := Ah (hp_); replace HB := Ah ((by rw [hw]; exact below_set (below_set (HB.out) GB10.out) GB10.out : Below w.heap.size w w13)); clear hg hw hp_))
   go_roundg k1
   case measure => have := HK1.out; omega
   case rel => exact ⟨(y193), (wrap64 (x4_1 + 1)), e3, H', ⟨by have := HK1.out; omega⟩, ⟨rr HO_3.out⟩, ⟨bs HB⟩⟩

/-! ### laws_toBucket: function 35 -/
def laws_toBucket.f (k : Nat) (a0_0 : Int) (l0_1 : List (S89)) : Option (Int × (List (S45))) := (laws_toNameS.f k l0_1).bind fun t197 => (some (a0_0, t197))
theorem laws_toBucket.mono : ∀ a0 a1 k, LeO (laws_toBucket.f k a0 a1) (laws_toBucket.f (k + 1) a0 a1) := by
 intro a0 a1 k
 unfold laws_toBucket.f
 repeat' first
   | (with_reducible exact laws_toNameS.mono _ _)
   | (with_reducible exact LeO.refl _)
   | (with_reducible exact LeO.none _)
   | (with_reducible refine LeO.ite ?_ ?_)
   | (with_reducible refine LeO.bind ?_ (fun _ => ?_))
   | exact laws_toNameS.mono _ _
   | exact LeO.none _
   | refine LeO.ite ?_ ?_
   | refine LeO.bind ?_ (fun _ => ?_)
set_option maxHeartbeats 8000000 in
set_option maxRecDepth 100000 in
theorem laws_toBucket.calls (k : Nat) (a0_0 : Int) (A0_1 : Option Addr) (c0_1 : Nat) (l0_1 : List (S89)) (r1 : Int) (r2 : List (S45)) (w : World) (hr0_1 : Kd.C k89 w A0_1 l0_1.length l0_1) (hc0_1 : l0_1.length ≤ c0_1) (h : laws_toBucket.f k a0_0 l0_1 = some (r1, r2)) :
  Calls Tryd.prog 35 #[.agg #[.int .i64 a0_0, .slice A0_1 l0_1.length c0_1]] w fun e w' => ∃ v1_ : Value, e = .returned (.agg #[.int .i64 r1, v1_]) ∧ Kd.R k45 45 w' w.heap.size (fun _ => True) v1_ r2 ∧ Below w.heap.size w w' := by
 have hu60 := Tryd.underlying60
 have hu43 := Tryd.underlying43
 have HR0_1 := Ah hr0_1
 have HC0_1 := Ah hc0_1
 clear hr0_1 hc0_1
 have HB := Ah (Below.refl w.heap.size w)
 have H : ((laws_toNameS.f k l0_1).bind fun t197 => (some (a0_0, t197))) = some (r1, r2) := h
 clear h
 replace H := Option.bind_eq_some_iff.mp H
 obtain ⟨t197, A20, H⟩ := H
 try dsimp only at H
 have A2 := Ah A20
 clear A20
 simp only [Option.some.injEq, Prod.mk.injEq] at H
 obtain ⟨rfl, rfl⟩ := H
 go_enter Tryd.func35, Tryd.ntmps35
 go_wp2_with (first | ((with_reducible refine gate_dst (N := 1) rfl ?_); refine boxL 1 60 #[.int .i64 a0_0, .slice A0_1 l0_1.length c0_1] ?_; intro gb194 hg w3 BK194 hb; have GW194 := gw hg (bs HB); have GE194 := gw hg (bs HB); replace HB := Ah (below_step (bs HB) hb); clear hb hg) | ((with_reducible refine gate_dst (N := 2) rfl ?_); refine boxL 2 43 #[.int .i64 0, .slice none 0 0] ?_; intro gb195 hg w4 BK195 hb; have GW195 := gw hg (bs1 HB GE194); have GE195 := gw hg (bs1 HB GE194); replace HB := Ah (below_step (bs1 HB GE194) hb); have NB194_195 := nn BK194 hg; have NB195_194 := nm BK194 hg; replace BK194 := nb BK194 hb; clear hb hg) | ((with_reducible refine gate_dst (N := 3) rfl ?_); refine boxL 3 43 #[.int .i64 0, .slice none 0 0] ?_; intro gb196 hg w5 BK196 hb; have GW196 := gw hg (bs2 HB GE194 GE195); have GE196 := gw hg (bs2 HB GE194 GE195); replace HB := Ah (below_step (bs2 HB GE194 GE195) hb); have NB194_196 := nn BK194 hg; have NB196_194 := nm BK194 hg; replace BK194 := nb BK194 hb; have NB195_196 := nn BK195 hg; have NB196_195 := nm BK195 hg; replace BK195 := nb BK195 hb; clear hb hg; have hnb6 := NB194_195.out; have hnc6 := NB195_194.out; have hnb7 := NB194_196.out; have hnc7 := NB196_194.out; obtain ⟨hcz8_0, hcz8_1⟩ := cz2 BK194; obtain ⟨hfz8_0, hfz8_1⟩ := fz2 BK194; have hnb9 := NB196_195.out; have hnc9 := NB195_196.out; obtain ⟨hcz10_0, hcz10_1⟩ := cz2 BK196; obtain ⟨hfz10_0, hfz10_1⟩ := fz2 BK196) | ((with_reducible refine gate_callee (f := 46) rfl ?_); refine gL (some 9) rfl rfl Tryd.func46 (by kernel_rfl) rfl #[.slice A0_1 l0_1.length c0_1] rfl ?_; (with_reducible refine (laws_toNameS.calls k _ _ l0_1 t197 _ ?side1 ?side2 A2.out).mono ?_); (case side1 => exact Kd.C_below HR0_1.out (bs3 HB GE194 GE195 GE196)); (case side2 => exact HC0_1.out); rintro e w11 ⟨v198, rfl, ho0, hb⟩; refine ⟨_, rfl, ?_⟩; have HO199 := Ah (Kd.R_lower ho0 (below_size (bs3 HB GE194 GE195 GE196))); replace BK194 := Ah (blk_below (bf BK194 NB194_196) hb); replace BK195 := Ah (blk_below (bf BK195 NB195_196) hb); replace BK196 := Ah (blk_below (g := gb196) (o := .cells #[.int .i64 a0_0, .slice none 0 0] 43 (0, 0)) (by (with_reducible repeat (first | refine blk_drewN ?_ _ | refine blk_drew ?_ | refine blk_alloc ?_ _)); refine blk_put (cs := #[.int .i64 0, .slice none 0 0]) ?_ 0 _ rfl; (with_reducible repeat (first | refine blk_drewN ?_ _ | refine blk_drew ?_ | refine blk_alloc ?_ _)); exact BK196.out) hb); replace HB := Ah (below_step (bs3 HB GE194 GE195 GE196) hb); (try clear hb ho0); obtain ⟨Ao12, co12, eo12⟩ := Kd.R_slice HO199.out; subst eo12; obtain ⟨hcz13_0, hcz13_1⟩ := cz2 BK196; obtain ⟨hfz13_0, hfz13_1⟩ := fz2 BK196; obtain ⟨hcz14_0, hcz14_1⟩ := cz2 BK195; obtain ⟨hfz14_0, hfz14_1⟩ := fz2 BK195))
 refine bodyPost_ret (results_cell_row rfl _ _ gb195 43 #[.int .i64 a0_0, .slice Ao12 t197.length co12] (0, 0) _ rfl (by (with_reducible repeat (first | refine blk_drewN ?_ _ | refine blk_drew ?_ | refine blk_alloc ?_ _)); refine blk_put (cs := #[.int .i64 a0_0, .slice none 0 0]) ?_ 1 _ rfl; (with_reducible repeat (first | refine blk_drewN ?_ _ | refine blk_drew ?_ | refine blk_alloc ?_ _)); refine blk_put (cs := #[.int .i64 0, .slice none 0 0]) ?_ 0 _ rfl; (with_reducible repeat (first | refine blk_drewN ?_ _ | refine blk_drew ?_ | refine blk_alloc ?_ _)); refine blk_far ?_ NB195_196.out _; (with_reducible repeat (first | refine blk_drewN ?_ _ | refine blk_drew ?_ | refine blk_alloc ?_ _)); exact BK195.out) Tryd.underlying43 rfl (by kernel_rfl)) rfl ?_
 exact ⟨_, er, by (with_reducible repeat (first | apply Kd.R_alloc | apply Kd.R_drewN | apply Kd.R_drew)); exact Kd.R_mono (Kd.R_far (p := ⟨gb195, 1, none⟩) (Kd.R_far (p := ⟨gb195, 0, none⟩) (Kd.R_far (p := ⟨gb196, 1, none⟩) (Kd.R_types (Kd.R_types HO199.out BK196.out (by decide)) BK195.out (by decide)) (fun _ hk => hk.1.2) (.slice Ao12 t197.length co12)) (fun _ hk => hk.2) (.int .i64 a0_0)) (fun _ hk => hk.2) (.slice Ao12 t197.length co12)) (fun _ hk => trivial), bs3 HB GE194 GE195 GE196⟩

/-! ### laws_toBucketS: function 18 -/
def laws_toBucketS.l0 : Nat → List (S60) → List (S43) → Int → Option ((List (S43)))
 | 0, _, _, _ => none
 | k + 1, x0, x3, x4 => if x4 < (x0.length : Int) then (if 0 ≤ x4 then ((laws_toBucket.f k ((rd_T60 x0 x4).f0) ((rd_T60 x0 x4).f1)).bind fun bt204 => (if x4 < (x3.length : Int) then (laws_toBucketS.l0 k x0 (x3.set (x4 : Int).toNat (⟨bt204.1, bt204.2⟩ : S43)) (wrap64 (x4 + 1))) else (none))) else (none)) else (some x3)
def laws_toBucketS.f (k : Nat) (l0 : List (S60)) : Option ((List (S43))) := if 0 ≤ (l0.length : Int) then (if ((l0.length : Int) : Int).toNat ≤ 8796093022208 then (laws_toBucketS.l0 k l0 (List.replicate ((l0.length : Int) : Int).toNat z43) 0) else (none)) else (none)
theorem laws_toBucketS.mono_l : ∀ k, (∀ y0 y1 y2, LeO (laws_toBucketS.l0 k y0 y1 y2) (laws_toBucketS.l0 (k + 1) y0 y1 y2))
 | 0 => fun _ _ _ r h => by simp [laws_toBucketS.l0] at h
 | k + 1 => by
  have ih0 := laws_toBucketS.mono_l k
  ·
   intro y0 y1 y2
   unfold laws_toBucketS.l0
   repeat' first
   | (with_reducible exact ih0 _ _ _)
   | (with_reducible exact laws_toBucket.mono _ _ _)
   | (with_reducible exact LeO.refl _)
   | (with_reducible exact LeO.none _)
   | (with_reducible refine LeO.ite ?_ ?_)
   | (with_reducible refine LeO.bind ?_ (fun _ => ?_))
   | exact ih0 _ _ _
   | exact laws_toBucket.mono _ _ _
   | exact LeO.none _
   | refine LeO.ite ?_ ?_
   | refine LeO.bind ?_ (fun _ => ?_)
theorem laws_toBucketS.mono : ∀ a0 k, LeO (laws_toBucketS.f k a0) (laws_toBucketS.f (k + 1) a0) := by
 intro a0 k
 have ih0 := laws_toBucketS.mono_l k
 unfold laws_toBucketS.f
 repeat' first
   | (with_reducible exact ih0 _ _ _)
   | (with_reducible exact laws_toBucket.mono _ _ _)
   | (with_reducible exact LeO.refl _)
   | (with_reducible exact LeO.none _)
   | (with_reducible refine LeO.ite ?_ ?_)
   | (with_reducible refine LeO.bind ?_ (fun _ => ?_))
   | exact ih0 _ _ _
   | exact laws_toBucket.mono _ _ _
   | exact LeO.none _
   | refine LeO.ite ?_ ?_
   | refine LeO.bind ?_ (fun _ => ?_)
set_option maxHeartbeats 8000000 in
set_option maxRecDepth 100000 in
theorem laws_toBucketS.calls (k : Nat) (A0 : Option Addr) (c0 : Nat) (l0 : List (S60)) (r : List (S43)) (w : World) (hr0 : Kd.C k60 w A0 l0.length l0) (hc0 : l0.length ≤ c0) (h : laws_toBucketS.f k l0 = some r) :
  Calls Tryd.prog 18 #[.slice A0 l0.length c0] w fun e w' => ∃ v0_ : Value, e = .returned (v0_) ∧ Kd.S k43 43 w' w.heap.size (fun _ => True) v0_ r ∧ Below w.heap.size w w' := by
 have hu60 := Tryd.underlying60
 have hu43 := Tryd.underlying43
 have HR0 := Ah hr0
 have HC0 := Ah hc0
 clear hr0 hc0
 have HB := Ah (Below.refl w.heap.size w)
 have H : (if 0 ≤ (l0.length : Int) then (if ((l0.length : Int) : Int).toNat ≤ 8796093022208 then (laws_toBucketS.l0 k l0 (List.replicate ((l0.length : Int) : Int).toNat z43) 0) else (none)) else (none)) = some r := h
 clear h
 by_cases c2 : 0 ≤ (l0.length : Int)
 rotate_left
 ·
  rw [if_neg c2] at H
  exact absurd H (by simp)
 rw [if_pos c2] at H
 have c2b0 := eq_true c2
 have c2b1 : decide (0 ≤ (l0.length : Int)) = true := decide_eq_true c2
 clear c2
 by_cases c3 : ((l0.length : Int) : Int).toNat ≤ 8796093022208
 rotate_left
 ·
  rw [if_neg c3] at H
  exact absurd H (by simp)
 rw [if_pos c3] at H
 have c3b0 := eq_true c3
 have c3b1 : decide (((l0.length : Int) : Int).toNat ≤ 8796093022208) = true := decide_eq_true c3
 clear c3
 obtain ⟨y200, hy200⟩ : ∃ y_ : List (S43), y_ = (List.replicate ((l0.length : Int) : Int).toNat z43) := ⟨_, rfl⟩
 replace H : (laws_toBucketS.l0 k l0 y200 0) = some r := by first | (rw [hy200]; with_reducible exact H) | (have H2_ := (Option.bind_some _ _).symm.trans H; rw [hy200]; with_reducible exact H2_) | (have H2_ := (Option.bind_some _ _).symm.trans H; with_reducible exact H2_) | with_reducible exact H | (rw [hy200]; exact H) | exact H
 have Ny200 := Ah hy200
 clear hy200
 have H' := Ah H
 clear H
 go_enter Tryd.func18, Tryd.ntmps18
 go_wp2_with (first | ((with_reducible refine gate_dst (N := 7) rfl ?_); refine Kd.S_make k43 _ 43 rfl (N := 7) rfl 30 _ _ rfl (l0.length : Int) rfl rfl Tryd.underlying30 (.agg #[(.int .i64 0), (.slice none 0 0)]) 32 info43 rfl (by decide) (by omega) z43 (ok := fun _ => True) (okp := fun _ => True) (k43_mkM _ _ _ z43 (Kd.R_nil _ _ _ _ _)) (fun _ hk => hk) trivial (od) (Nat.le_trans (Nat.mul_le_mul_right _ (od : (l0.length : Int).toNat ≤ 8796093022208)) (by omega)) (Below.refl _ _) (Nat.le_refl _) ?_; intro v201 w4 ho5 hb hg_ hnew_; clear hg_ hnew_; (first | rw [← Ny200.out] at ho5 | (simp only [Int.reduceToNat] at ho5; rw [← Ny200.out] at ho5)); have HO202 := Ah (Kd.S_lower ho5 (below_size (bs HB))); replace HB := Ah (below_step (bs HB) hb); clear hb ho5))
 go_loopg [4] k (fun kq v4 w' => ∃ (x3_1 : List (S43)) (x4_1 : Int), v4 = .int .i64 x4_1 ∧ Aside0 (laws_toBucketS.l0 kq l0 x3_1 x4_1 = some r) ∧ Aside0 (kq ≤ k) ∧ Aside0 (Kd.S k43 43 w' w.heap.size (fun _ => True) v201 x3_1) ∧ Aside0 (Below w.heap.size w w'))
 case atStart => exact ⟨(y200), (0), e3, H', ⟨Nat.le_refl _⟩, ⟨by (with_reducible repeat (first | apply Kd.S_alloc | apply Kd.S_drewN | apply Kd.S_drew)); exact HO202.out⟩, ⟨bs HB⟩⟩
 case round =>
  clear H'
  try clear c1
  try clear c2
  try clear c2b0
  try clear c2b1
  try clear p2
  try clear c3
  try clear c3b0
  try clear c3b1
  obtain ⟨x3_1, x4_1, rfl, HA, HK1, HO_3, HB⟩ := hrel
  cases gk with
  | zero => exact absurd HA.out (by simp [laws_toBucketS.l0])
  | succ k1 =>
   have H := HA.out
   clear HA
   simp only [laws_toBucketS.l0] at H
   by_cases c6 : x4_1 < (l0.length : Int)
   rotate_left
   ·
    rw [if_neg c6] at H
    have c6b0 : decide (x4_1 < (l0.length : Int)) = false := decide_eq_false c6
    clear c6
    obtain rfl := Option.some.inj H
    go_wp2
    go_ret
    exact ⟨_, er, by (with_reducible repeat (first | apply Kd.S_alloc | apply Kd.S_drewN | apply Kd.S_drew)); exact HO_3.out, bs HB⟩
   rw [if_pos c6] at H
   have c6b0 : decide (x4_1 < (l0.length : Int)) = true := decide_eq_true c6
   clear c6
   by_cases c7 : 0 ≤ x4_1
   rotate_left
   ·
    rw [if_neg c7] at H
    exact absurd H (by simp)
   rw [if_pos c7] at H
   have c7b0 : decide (0 ≤ x4_1) = true := decide_eq_true c7
   clear c7
   replace H := Option.bind_eq_some_iff.mp H
   obtain ⟨⟨t204, t205⟩, A80, H⟩ := H
   try dsimp only at H
   have A8 := Ah A80
   clear A80
   by_cases c9 : x4_1 < (x3_1.length : Int)
   rotate_left
   ·
    rw [if_neg c9] at H
    exact absurd H (by simp)
   rw [if_pos c9] at H
   have c9b0 : decide (x4_1 < (x3_1.length : Int)) = true := decide_eq_true c9
   clear c9
   obtain ⟨y208, hy208⟩ : ∃ y_ : List (S43), y_ = (x3_1.set (x4_1 : Int).toNat (⟨t204, t205⟩ : S43)) := ⟨_, rfl⟩
   replace H : (laws_toBucketS.l0 k1 l0 y208 (wrap64 (x4_1 + 1))) = some r := by first | (rw [hy208]; with_reducible exact H) | (have H2_ := (Option.bind_some _ _).symm.trans H; rw [hy208]; with_reducible exact H2_) | (have H2_ := (Option.bind_some _ _).symm.trans H; with_reducible exact H2_) | with_reducible exact H | (rw [hy208]; exact H) | exact H
   have Ny208 := Ah hy208
   clear hy208
   have H' := Ah H
   clear H
   have p203 : 0 ≤ (x4_1 : Int) := od
   have q203 : x4_1 < (l0.length : Int) := od
   obtain ⟨ad203, A203_1, c203_1, e203, hx203_0, hx203_1, hl203_1, hi203_1⟩ := at_T60 HR0.out x4_1 p203 q203
   cases e203
   replace hx203_0 := (HB.out.cell (World.block_lt_of_cell? w _ hx203_0)).trans hx203_0
   replace hx203_1 := (HB.out.cell (World.block_lt_of_cell? w _ hx203_1)).trans hx203_1
   have HR203_1 := Ah hi203_1
   have HC203_1 := Ah hl203_1
   clear hi203_1 hl203_1
   replace p203 := eq_true p203
   replace q203 := eq_true q203
   go_wp2_with (first | ((with_reducible refine gate_callee (f := 35) rfl ?_); refine gL (some 20) rfl rfl Tryd.func35 (by kernel_rfl) rfl #[.agg #[.int .i64 ((rd_T60 l0 x4_1).f0), .slice A203_1 ((rd_T60 l0 x4_1).f1).length c203_1]] rfl ?_; (with_reducible refine (laws_toBucket.calls k1 ((rd_T60 l0 x4_1).f0) _ _ ((rd_T60 l0 x4_1).f1) t204 t205 _ ?side1 ?side2 A8.out).mono ?_); (case side1 => exact cb HR203_1 HB); (case side2 => exact HC203_1.out); rintro e w11 ⟨v206, rfl, ho0, hb⟩; refine ⟨_, rfl, ?_⟩; replace HO_3 := Ah (Kd.S_elder' (by (with_reducible repeat (first | apply Kd.S_alloc | apply Kd.S_drewN | apply Kd.S_drew)); exact HO_3.out) (Kd.R_base ho0) hb); have HO207 := Ah (Kd.R_lower ho0 (below_size (bs HB))); replace HB := Ah (below_step (bs HB) hb); (try clear hb ho0); have p10 : 0 ≤ (x4_1 : Int) := od; have q10 : (x4_1 : Int) < ((x3_1.length : Int) : Int) := od; obtain ⟨go10, co10, eo10, gb10, gl10, cl10, HG10⟩ := Kd.S_form HO_3.out (by omega); (first | cases eo10 | (injection eo10 with ea_ en_ ec_; (first | subst ea_ | (injection ea_ with ea_; subst ea_)); subst ec_; clear en_)); have GB10 := Ah gb10; have GG10 := Ah HG10; clear gb10 gl10 HG10; obtain ⟨_, ce10, hcl10, hM10, hcc10, hfr10, _, _⟩ := Kd.S_elem HO_3.out z43 (x4_1 : Int) p10 q10; obtain ⟨ve10_1, rfl, ge10_1⟩ := k43_openM hM10; have hx10_0 : w11.cell? ⟨go10, (x4_1 : Int).toNat * 2, none⟩ = some (.int .i64 ((rd_T43 x3_1 x4_1).f0)) := hcc10 0 _ rfl; have hx10_1 : w11.cell? ⟨go10, (x4_1 : Int).toNat * 2 + 1, none⟩ = some (ve10_1) := hcc10 1 _ rfl; have hf10_0 : w11.frozen? ⟨go10, (x4_1 : Int).toNat * 2, none⟩ = false := hfr10 0; have hf10_1 : w11.frozen? ⟨go10, (x4_1 : Int).toNat * 2 + 1, none⟩ = false := hfr10 1; clear hcl10 hcc10 hfr10 hM10; replace p10 := eq_true p10; replace q10 := eq_true q10; have n_ := Ah (Kd.S_mono (ok' := (fun k_ => some k_ ≠ (v206 : Value).ownBlock)) HO_3.out (fun k_ hk => hk.2)); clear HO_3; have HO_3 := n_; clear n_; have HX12 := Ah (show Kd.S k43 43 w11 w.heap.size (fun k_ => ((fun _ => True)) k_ ∧ ¬ ((fun k_ => some k_ = (v206 : Value).ownBlock)) k_) (.slice (some ⟨go10, 0, none⟩) x3_1.length co10) x3_1 from (by (with_reducible repeat (first | apply Kd.S_alloc | apply Kd.S_drewN | apply Kd.S_drew)); exact Kd.S_mono HO_3.out (fun k_ hk => ⟨trivial, fun e_ => hk e_⟩))); obtain ⟨oki12, ce12, hcl12, hM12, hcc12, hfr12, hoki12, hH12⟩ := Kd.S_elem HX12.out z43 (x4_1 : Int) (od) (by have h_ : (x4_1 : Int) < ((x3_1.length : Int) : Int) := od; first | exact h_ | (have e_ := (Kd.S_reads' HO_3.out).1; omega) | simpa using h_); obtain ⟨ve12_1, rfl, ge12_1⟩ := k43_openM hM12; have HP12 := Kd.S_seg hH12 (od) (by have h_ : (x4_1 : Int) < ((x3_1.length : Int) : Int) := od; first | exact h_ | (have e_ := (Kd.S_reads' HO_3.out).1; omega) | simpa using h_) (seg := [.int .i64 t204, v206]) (j := 0) (show 2 ≤ 2 from by decide) (x' := (⟨t204, t205⟩ : S43)) (k43_mkM _ _ _ (⟨t204, t205⟩ : S43) (Kd.R_mono (Kd.R_tight rfl (Kd.R_mono (ok' := fun k_ => ((fun _ => True)) k_ ∧ k_ ≠ go10) (Kd.R_apart' (HO207.out) (Kd.S_typed HO_3.out) (by decide)) (fun k_ hk => ⟨trivial, fun e_ => (hk.2) (by rw [e_]; rfl)⟩))) (fun _ h_ => Or.inr (h_)))) (fun _ hk => hk) (fun k_ hk_ => ((Kd.R_mono (ok' := fun k_ => ((fun _ => True)) k_ ∧ k_ ≠ go10) (Kd.R_apart' (HO207.out) (Kd.S_typed HO_3.out) (by decide)) (fun k_ hk => ⟨trivial, fun e_ => (hk.2) (by rw [e_]; rfl)⟩))).1 k_ hk_.symm); have hx12_0 := hcc12 0 _ rfl; (try simp only [show (k43).sz = 2 from rfl, Nat.mul_one, Nat.add_zero] at hx12_0); have hf12_0 := hfr12 0; (try simp only [show (k43).sz = 2 from rfl, Nat.mul_one, Nat.add_zero] at hf12_0); have hx12_1 := hcc12 1 _ rfl; (try simp only [show (k43).sz = 2 from rfl, Nat.mul_one, Nat.add_zero] at hx12_1); have hf12_1 := hfr12 1; (try simp only [show (k43).sz = 2 from rfl, Nat.mul_one, Nat.add_zero] at hf12_1); clear hcl12 hcc12 hfr12 hM12 hoki12 hH12) | ((with_reducible refine gate_store (t := 43) (p := 21) rfl ?_); refine store_event (t := 43) (p := 21) (v := ?vo_w13) (w1 := ((w11.setCell ⟨go10, (x4_1 : Int).toNat * 2, none⟩ (.int .i64 t204)).setCell ⟨go10, (x4_1 : Int).toNat * 2 + 1, none⟩ (v206))) ?hg ?ho ?hn ?hr ?_; (case ho => rfl); (case hg => rfl); (case hn => rfl); (case hr => (obtain ⟨As_, cs_, es_⟩ := Kd.R_slice HO207.out; subst es_); first | (go_simp; done) | (go_simp; rfl)); intro w13 hw; have hg : w11.grownBy w13 (some go10) := (by rw [hw]; exact HP12.2); have hp_ : Kd.S k43 43 w13 w.heap.size (fun _ => True) (.slice (some ⟨go10, 0, none⟩) x3_1.length co10) y208 := (by rw [hw, Ny208.out]; exact HP12.1); clear HP12; replace HO_3 := Ah (hp_); replace HB := Ah ((by rw [hw]; exact below_set (below_set (HB.out) GB10.out) GB10.out : Below w.heap.size w w13)); clear HO207; clear hg hw hp_))
   go_roundg k1
   case measure => have := HK1.out; omega
   case rel => exact ⟨(y208), (wrap64 (x4_1 + 1)), e3, H', ⟨by have := HK1.out; omega⟩, ⟨by (with_reducible repeat (first | apply Kd.S_alloc | apply Kd.S_drewN | apply Kd.S_drew)); exact HO_3.out⟩, ⟨bs HB⟩⟩

/-! ### laws_toDir: function 6 -/
def laws_toDir.f (k : Nat) (a0_0 : Int) (l0_1 : List Int) (l0_2 : List (S60)) : Option (Int × List Int × (List (S43))) := (laws_toIntS.f k l0_1).bind fun t212 => ((laws_toBucketS.f k l0_2).bind fun t215 => (some (a0_0, t212, t215)))
theorem laws_toDir.mono : ∀ a0 a1 a2 k, LeO (laws_toDir.f k a0 a1 a2) (laws_toDir.f (k + 1) a0 a1 a2) := by
 intro a0 a1 a2 k
 unfold laws_toDir.f
 repeat' first
   | (with_reducible exact laws_toBucketS.mono _ _)
   | (with_reducible exact laws_toIntS.mono _ _)
   | (with_reducible exact LeO.refl _)
   | (with_reducible exact LeO.none _)
   | (with_reducible refine LeO.ite ?_ ?_)
   | (with_reducible refine LeO.bind ?_ (fun _ => ?_))
   | exact laws_toBucketS.mono _ _
   | exact laws_toIntS.mono _ _
   | exact LeO.none _
   | refine LeO.ite ?_ ?_
   | refine LeO.bind ?_ (fun _ => ?_)
set_option maxHeartbeats 8000000 in
set_option maxRecDepth 100000 in
theorem laws_toDir.calls (k : Nat) (a0_0 : Int) (A0_1 : Option Addr) (c0_1 : Nat) (l0_1 : List Int) (A0_2 : Option Addr) (c0_2 : Nat) (l0_2 : List (S60)) (r1 : Int) (r2 : List Int) (r3 : List (S43)) (w : World) (hr0_1 : Kd.C (Kd.int .i64) w A0_1 l0_1.length l0_1) (hc0_1 : l0_1.length ≤ c0_1) (hr0_2 : Kd.C k60 w A0_2 l0_2.length l0_2) (hc0_2 : l0_2.length ≤ c0_2) (h : laws_toDir.f k a0_0 l0_1 l0_2 = some (r1, r2, r3)) :
  Calls Tryd.prog 6 #[.agg #[.int .i64 a0_0, .slice A0_1 l0_1.length c0_1, .slice A0_2 l0_2.length c0_2]] w fun e w' => ∃ v1_ v2_ : Value, e = .returned (.agg #[.int .i64 r1, v1_, v2_]) ∧ Kd.R (Kd.int .i64) 3 w' w.heap.size (fun _ => True) v1_ r2 ∧ Kd.S k43 43 w' w.heap.size (fun _ => True) v2_ r3 ∧ Below w.heap.size w w' := by
 have hu25 := Tryd.underlying25
 have hu32 := Tryd.underlying32
 have HR0_1 := Ah hr0_1
 have HC0_1 := Ah hc0_1
 clear hr0_1 hc0_1
 have HR0_2 := Ah hr0_2
 have HC0_2 := Ah hc0_2
 clear hr0_2 hc0_2
 have HB := Ah (Below.refl w.heap.size w)
 have H : ((laws_toIntS.f k l0_1).bind fun t212 => ((laws_toBucketS.f k l0_2).bind fun t215 => (some (a0_0, t212, t215)))) = some (r1, r2, r3) := h
 clear h
 replace H := Option.bind_eq_some_iff.mp H
 obtain ⟨t212, A20, H⟩ := H
 try dsimp only at H
 have A2 := Ah A20
 clear A20
 replace H := Option.bind_eq_some_iff.mp H
 obtain ⟨t215, A30, H⟩ := H
 try dsimp only at H
 have A3 := Ah A30
 clear A30
 simp only [Option.some.injEq, Prod.mk.injEq] at H
 obtain ⟨rfl, rfl, rfl⟩ := H
 go_enter Tryd.func6, Tryd.ntmps6
 go_wp2_with (first | ((with_reducible refine gate_dst (N := 1) rfl ?_); refine boxL 1 25 #[.int .i64 a0_0, .slice A0_1 l0_1.length c0_1, .slice A0_2 l0_2.length c0_2] ?_; intro gb209 hg w4 BK209 hb; have GW209 := gw hg (bs HB); have GE209 := gw hg (bs HB); replace HB := Ah (below_step (bs HB) hb); clear hb hg) | ((with_reducible refine gate_dst (N := 2) rfl ?_); refine boxL 2 32 #[.int .i64 0, .slice none 0 0, .slice none 0 0] ?_; intro gb210 hg w5 BK210 hb; have GW210 := gw hg (bs1 HB GE209); have GE210 := gw hg (bs1 HB GE209); replace HB := Ah (below_step (bs1 HB GE209) hb); have NB209_210 := nn BK209 hg; have NB210_209 := nm BK209 hg; replace BK209 := nb BK209 hb; clear hb hg) | ((with_reducible refine gate_dst (N := 3) rfl ?_); refine boxL 3 32 #[.int .i64 0, .slice none 0 0, .slice none 0 0] ?_; intro gb211 hg w6 BK211 hb; have GW211 := gw hg (bs2 HB GE209 GE210); have GE211 := gw hg (bs2 HB GE209 GE210); replace HB := Ah (below_step (bs2 HB GE209 GE210) hb); have NB209_211 := nn BK209 hg; have NB211_209 := nm BK209 hg; replace BK209 := nb BK209 hb; have NB210_211 := nn BK210 hg; have NB211_210 := nm BK210 hg; replace BK210 := nb BK210 hb; clear hb hg; have hnb7 := NB209_210.out; have hnc7 := NB210_209.out; have hnb8 := NB209_211.out; have hnc8 := NB211_209.out; obtain ⟨hcz9_0, hcz9_1, hcz9_2⟩ := cz3 BK209; obtain ⟨hfz9_0, hfz9_1, hfz9_2⟩ := fz3 BK209; have hnb10 := NB211_210.out; have hnc10 := NB210_211.out; obtain ⟨hcz11_0, hcz11_1, hcz11_2⟩ := cz3 BK211; obtain ⟨hfz11_0, hfz11_1, hfz11_2⟩ := fz3 BK211) | ((with_reducible refine gate_callee (f := 17) rfl ?_); refine gL (some 9) rfl rfl Tryd.func17 (by kernel_rfl) rfl #[.slice A0_1 l0_1.length c0_1] rfl ?_; (with_reducible refine (laws_toIntS.calls k _ _ l0_1 t212 _ ?side1 ?side2 A2.out).mono ?_); (case side1 => exact Kd.C_below HR0_1.out (bs3 HB GE209 GE210 GE211)); (case side2 => exact HC0_1.out); rintro e w12 ⟨v213, rfl, ho0, hb⟩; refine ⟨_, rfl, ?_⟩; have HO214 := Ah (Kd.R_lower ho0 (below_size (bs3 HB GE209 GE210 GE211))); replace BK209 := Ah (blk_below (bf BK209 NB209_211) hb); replace BK210 := Ah (blk_below (bf BK210 NB210_211) hb); replace BK211 := Ah (blk_below (g := gb211) (o := .cells #[.int .i64 a0_0, .slice none 0 0, .slice none 0 0] 32 (0, 0)) (by (with_reducible repeat (first | refine blk_drewN ?_ _ | refine blk_drew ?_ | refine blk_alloc ?_ _)); refine blk_put (cs := #[.int .i64 0, .slice none 0 0, .slice none 0 0]) ?_ 0 _ rfl; (with_reducible repeat (first | refine blk_drewN ?_ _ | refine blk_drew ?_ | refine blk_alloc ?_ _)); exact BK211.out) hb); replace HB := Ah (below_step (bs3 HB GE209 GE210 GE211) hb); (try clear hb ho0); obtain ⟨Ao13, co13, eo13⟩ := Kd.R_slice HO214.out; subst eo13; obtain ⟨hcz14_0, hcz14_1, hcz14_2⟩ := cz3 BK211; obtain ⟨hfz14_0, hfz14_1, hfz14_2⟩ := fz3 BK211; obtain ⟨hcz15_0, hcz15_1, hcz15_2⟩ := cz3 BK209; obtain ⟨hfz15_0, hfz15_1, hfz15_2⟩ := fz3 BK209) | ((with_reducible refine gate_callee (f := 18) rfl ?_); refine gL (some 13) rfl rfl Tryd.func18 (by kernel_rfl) rfl #[.slice A0_2 l0_2.length c0_2] rfl ?_; (with_reducible refine (laws_toBucketS.calls k _ _ l0_2 t215 _ ?side1 ?side2 A3.out).mono ?_); (case side1 => exact Kd.C_below HR0_2.out (bs3 HB GE209 GE210 GE211)); (case side2 => exact HC0_2.out); rintro e w16 ⟨v216, rfl, ho0, hb⟩; refine ⟨_, rfl, ?_⟩; replace HO214 := nf HO214 BK211 hb; have HO217 := Ah (Kd.S_lower ho0 (below_size (bs3 HB GE209 GE210 GE211))); replace BK209 := Ah (blk_below (bf BK209 NB209_211) hb); replace BK210 := Ah (blk_below (bf BK210 NB210_211) hb); replace BK211 := Ah (blk_below (g := gb211) (o := .cells #[.int .i64 a0_0, .slice Ao13 t212.length co13, .slice none 0 0] 32 (0, 0)) (by (with_reducible repeat (first | refine blk_drewN ?_ _ | refine blk_drew ?_ | refine blk_alloc ?_ _)); refine blk_put (cs := #[.int .i64 a0_0, .slice none 0 0, .slice none 0 0]) ?_ 1 _ rfl; (with_reducible repeat (first | refine blk_drewN ?_ _ | refine blk_drew ?_ | refine blk_alloc ?_ _)); exact BK211.out) hb); replace HB := Ah (below_step (bs3 HB GE209 GE210 GE211) hb); (try clear hb ho0); obtain ⟨Ao17, co17, eo17⟩ := Kd.S_slice HO217.out; subst eo17; obtain ⟨hcz18_0, hcz18_1, hcz18_2⟩ := cz3 BK211; obtain ⟨hfz18_0, hfz18_1, hfz18_2⟩ := fz3 BK211; obtain ⟨hcz19_0, hcz19_1, hcz19_2⟩ := cz3 BK210; obtain ⟨hfz19_0, hfz19_1, hfz19_2⟩ := fz3 BK210))
 refine bodyPost_ret (results_cell_row rfl _ _ gb210 32 #[.int .i64 a0_0, .slice Ao13 t212.length co13, .slice Ao17 t215.length co17] (0, 0) _ rfl (by (with_reducible repeat (first | refine blk_drewN ?_ _ | refine blk_drew ?_ | refine blk_alloc ?_ _)); refine blk_put (cs := #[.int .i64 a0_0, .slice Ao13 t212.length co13, .slice none 0 0]) ?_ 2 _ rfl; (with_reducible repeat (first | refine blk_drewN ?_ _ | refine blk_drew ?_ | refine blk_alloc ?_ _)); refine blk_put (cs := #[.int .i64 a0_0, .slice none 0 0, .slice none 0 0]) ?_ 1 _ rfl; (with_reducible repeat (first | refine blk_drewN ?_ _ | refine blk_drew ?_ | refine blk_alloc ?_ _)); refine blk_put (cs := #[.int .i64 0, .slice none 0 0, .slice none 0 0]) ?_ 0 _ rfl; (with_reducible repeat (first | refine blk_drewN ?_ _ | refine blk_drew ?_ | refine blk_alloc ?_ _)); refine blk_far ?_ NB210_211.out _; (with_reducible repeat (first | refine blk_drewN ?_ _ | refine blk_drew ?_ | refine blk_alloc ?_ _)); exact BK210.out) Tryd.underlying32 rfl (by kernel_rfl)) rfl ?_
 exact ⟨_, _, er, by (with_reducible repeat (first | apply Kd.R_alloc | apply Kd.R_drewN | apply Kd.R_drew)); exact Kd.R_mono (Kd.R_far (p := ⟨gb210, 2, none⟩) (Kd.R_far (p := ⟨gb210, 1, none⟩) (Kd.R_far (p := ⟨gb210, 0, none⟩) (Kd.R_far (p := ⟨gb211, 2, none⟩) (Kd.R_types (Kd.R_types HO214.out BK211.out (by decide)) BK210.out (by decide)) (fun _ hk => hk.1.2) (.slice Ao17 t215.length co17)) (fun _ hk => hk.2) (.int .i64 a0_0)) (fun _ hk => hk.2) (.slice Ao13 t212.length co13)) (fun _ hk => hk.2) (.slice Ao17 t215.length co17)) (fun _ hk => trivial), by (with_reducible repeat (first | apply Kd.S_alloc | apply Kd.S_drewN | apply Kd.S_drew)); exact Kd.S_mono (Kd.S_far (p := ⟨gb210, 2, none⟩) (Kd.S_far (p := ⟨gb210, 1, none⟩) (Kd.S_far (p := ⟨gb210, 0, none⟩) (Kd.S_far (p := ⟨gb211, 2, none⟩) (Kd.S_types (Kd.S_types HO217.out BK211.out (by decide)) BK210.out (by decide)) (fun _ hk => hk.1.2) (.slice Ao17 t215.length co17)) (fun _ hk => hk.2) (.int .i64 a0_0)) (fun _ hk => hk.2) (.slice Ao13 t212.length co13)) (fun _ hk => hk.2) (.slice Ao17 t215.length co17)) (fun _ hk => trivial), bs3 HB GE209 GE210 GE211⟩

/-! ### impl_within: function 36 -/
def impl_within.f (a0 : Int) (a1 : Int) (a2 : Int) : Option (Bool) := if a0 ≥ a1 then (some (decide (a0 ≤ a2))) else (some false)
set_option maxHeartbeats 8000000 in
set_option maxRecDepth 100000 in
theorem impl_within.calls (a0 : Int) (a1 : Int) (a2 : Int) (r : Bool) (w : World) (h : impl_within.f a0 a1 a2 = some r) :
  Calls Tryd.prog 36 #[.int .i64 a0, .int .i64 a1, .int .i64 a2] w fun e w' => e = .returned (.bool r) ∧ Drawn0 w w' := by
 have H : (if a0 ≥ a1 then (some (decide (a0 ≤ a2))) else (some false)) = some r := h
 clear h
 by_cases c4 : a0 ≥ a1
 ·
  rw [if_pos c4] at H
  have c4b0 : decide (a1 ≤ a0) = true := decide_eq_true c4
  clear c4
  obtain rfl := Option.some.inj H
  go_enter Tryd.func36, Tryd.ntmps36
  go_wp2
  go_ret
  exact ⟨by first | rfl | (simp; done) | (simp [*]; done), by repeat (first | exact Drawn0.refl _ | apply Drawn0.step)⟩
 ·
  rw [if_neg c4] at H
  have c4b0 : decide (a1 ≤ a0) = false := decide_eq_false c4
  clear c4
  obtain rfl := Option.some.inj H
  go_enter Tryd.func36, Tryd.ntmps36
  go_wp2
  go_ret
  exact ⟨by first | rfl | (simp; done) | (simp [*]; done), by repeat (first | exact Drawn0.refl _ | apply Drawn0.step)⟩

/-! ### strings_trimLeftByte: function 68 -/
def strings_trimLeftByte.l0 : Nat → ByteArray → Int → Option (ByteArray)
 | 0, _, _ => none
 | k + 1, x0, x1 => if (x0.size : Int) > 0 then (if 0 < (x0.size : Int) then (if (bt x0 0) = x1 then (if 1 ≤ (x0.size : Int) then (strings_trimLeftByte.l0 k (x0.extract 1 x0.size) x1) else (none)) else (some x0)) else (none)) else (some x0)
def strings_trimLeftByte.f (k : Nat) (a0 : ByteArray) (a1 : Int) : Option (ByteArray) := strings_trimLeftByte.l0 k a0 a1
theorem strings_trimLeftByte.mono_l : ∀ k, (∀ y0 y1, LeO (strings_trimLeftByte.l0 k y0 y1) (strings_trimLeftByte.l0 (k + 1) y0 y1))
 | 0 => fun _ _ r h => by simp [strings_trimLeftByte.l0] at h
 | k + 1 => by
  have ih0 := strings_trimLeftByte.mono_l k
  ·
   intro y0 y1
   unfold strings_trimLeftByte.l0
   repeat' first
   | (with_reducible exact ih0 _ _)
   | (with_reducible exact LeO.refl _)
   | (with_reducible exact LeO.none _)
   | (with_reducible refine LeO.ite ?_ ?_)
   | (with_reducible refine LeO.bind ?_ (fun _ => ?_))
   | exact ih0 _ _
   | exact LeO.none _
   | refine LeO.ite ?_ ?_
   | refine LeO.bind ?_ (fun _ => ?_)
theorem strings_trimLeftByte.mono : ∀ a0 a1 k, LeO (strings_trimLeftByte.f k a0 a1) (strings_trimLeftByte.f (k + 1) a0 a1) := by
 intro a0 a1 k
 have ih0 := strings_trimLeftByte.mono_l k
 unfold strings_trimLeftByte.f
 repeat' first
   | (with_reducible exact ih0 _ _)
   | (with_reducible exact LeO.refl _)
   | (with_reducible exact LeO.none _)
   | (with_reducible refine LeO.ite ?_ ?_)
   | (with_reducible refine LeO.bind ?_ (fun _ => ?_))
   | exact ih0 _ _
   | exact LeO.none _
   | refine LeO.ite ?_ ?_
   | refine LeO.bind ?_ (fun _ => ?_)
set_option maxHeartbeats 8000000 in
set_option maxRecDepth 100000 in
theorem strings_trimLeftByte.calls (k : Nat) (a0 : ByteArray) (a1 : Int) (r : ByteArray) (w : World) (h : strings_trimLeftByte.f k a0 a1 = some r) :
  Calls Tryd.prog 68 #[.string a0, .int .u8 a1] w fun e w' => e = .returned (.string r) ∧ Drawn0 w w' := by
 have H : (strings_trimLeftByte.l0 k a0 a1) = some r := h
 clear h
 have H' := Ah H
 clear H
 go_enter Tryd.func68, Tryd.ntmps68
 go_wp2
 go_loopg [0] k (fun kq v0 w' => ∃ (x0_1 : ByteArray), v0 = .string x0_1 ∧ Aside0 (strings_trimLeftByte.l0 kq x0_1 a1 = some r) ∧ Aside0 (kq ≤ k) ∧ Drawn0 w w')
 case atStart => exact ⟨(a0), e3, H', ⟨Nat.le_refl _⟩, by repeat (first | exact Drawn0.refl _ | apply Drawn0.step)⟩
 case round =>
  clear H'
  try clear p2
  obtain ⟨x0_1, rfl, HA, HK1, ⟨m1, rfl⟩⟩ := hrel
  cases gk with
  | zero => exact absurd HA.out (by simp [strings_trimLeftByte.l0])
  | succ k1 =>
   have H := HA.out
   clear HA
   simp only [strings_trimLeftByte.l0] at H
   by_cases c3 : (x0_1.size : Int) > 0
   rotate_left
   ·
    rw [if_neg c3] at H
    have c3b0 : decide (0 < (x0_1.size : Int)) = false := decide_eq_false c3
    have c3b1 : decide (0 < x0_1.size) = false := decide_eq_false (by omega)
    clear c3
    obtain rfl := Option.some.inj H
    go_wp2
    go_ret
    exact ⟨e3, by repeat (first | exact Drawn0.refl _ | apply Drawn0.step)⟩
   rw [if_pos c3] at H
   have c3b0 : decide (0 < (x0_1.size : Int)) = true := decide_eq_true c3
   have c3b1 : decide (0 < x0_1.size) = true := decide_eq_true (by omega)
   clear c3
   by_cases c4 : 0 < (x0_1.size : Int)
   rotate_left
   ·
    rw [if_neg c4] at H
    exact absurd H (by simp)
   rw [if_pos c4] at H
   have c4b0 : decide (0 < (x0_1.size : Int)) = true := decide_eq_true c4
   have c4b1 : decide (0 < x0_1.size) = true := decide_eq_true (by omega)
   clear c4
   by_cases c6 : (bt x0_1 0) = a1
   rotate_left
   ·
    rw [if_neg c6] at H
    have c6b0 : ((bt x0_1 0) == a1) = false := beq_eq_false_iff_ne.mpr c6
    have c6b1 : ((bt x0_1 0) != a1) = true := bne_iff_ne.mpr c6
    obtain rfl := Option.some.inj H
    have p5 : 0 ≤ (0 : Int) := (by omega)
    have q5 : 0 < x0_1.size := (by have : (0 : Int) < (x0_1.size : Int) := od; omega)
    have hx5 : ∀ h : 0 < x0_1.size, ((x0_1[0]'h).toNat : Int) = bt x0_1 0 := bt_at x0_1 0
    clear p5
    have qi5 : (0 < (x0_1.size : Int)) = True := eq_true (od)
    replace q5 := eq_true q5
    go_wp2
    go_ret
    exact ⟨e3, by repeat (first | exact Drawn0.refl _ | apply Drawn0.step)⟩
   rw [if_pos c6] at H
   have c6b0 : ((bt x0_1 0) == a1) = true := beq_iff_eq.mpr c6
   have c6b1 : ((bt x0_1 0) != a1) = false := bne_eq_false_iff_eq.mpr c6
   clear c6
   by_cases c7 : 1 ≤ (x0_1.size : Int)
   rotate_left
   ·
    rw [if_neg c7] at H
    exact absurd H (by simp)
   rw [if_pos c7] at H
   have c7b0 := eq_true c7
   have c7b1 : decide (1 ≤ (x0_1.size : Int)) = true := decide_eq_true c7
   clear c7
   have H' := Ah H
   clear H
   have p5 : 0 ≤ (0 : Int) := (by omega)
   have q5 : 0 < x0_1.size := (by have : (0 : Int) < (x0_1.size : Int) := od; omega)
   have hx5 : ∀ h : 0 < x0_1.size, ((x0_1[0]'h).toNat : Int) = bt x0_1 0 := bt_at x0_1 0
   clear p5
   have qi5 : (0 < (x0_1.size : Int)) = True := eq_true (od)
   replace q5 := eq_true q5
   go_wp2
   go_roundg k1
   case measure => have := HK1.out; omega
   case rel => exact ⟨(x0_1.extract 1 x0_1.size), e3, H', ⟨by have := HK1.out; omega⟩, by repeat (first | exact Drawn0.refl _ | apply Drawn0.step)⟩

/-! ### strings_trimRightByte: function 69 -/
def strings_trimRightByte.l0 : Nat → ByteArray → Int → Option (ByteArray)
 | 0, _, _ => none
 | k + 1, x0, x1 => if (x0.size : Int) > 0 then (if 0 ≤ (wrap64 ((x0.size : Int) - 1)) then (if (wrap64 ((x0.size : Int) - 1)) < (x0.size : Int) then (if (bt x0 (wrap64 ((x0.size : Int) - 1))) = x1 then (if (wrap64 ((x0.size : Int) - 1)) ≤ (x0.size : Int) then (strings_trimRightByte.l0 k (x0.extract 0 ((wrap64 ((x0.size : Int) - 1)) : Int).toNat) x1) else (none)) else (some x0)) else (none)) else (none)) else (some x0)
def strings_trimRightByte.f (k : Nat) (a0 : ByteArray) (a1 : Int) : Option (ByteArray) := strings_trimRightByte.l0 k a0 a1
theorem strings_trimRightByte.mono_l : ∀ k, (∀ y0 y1, LeO (strings_trimRightByte.l0 k y0 y1) (strings_trimRightByte.l0 (k + 1) y0 y1))
 | 0 => fun _ _ r h => by simp [strings_trimRightByte.l0] at h
 | k + 1 => by
  have ih0 := strings_trimRightByte.mono_l k
  ·
   intro y0 y1
   unfold strings_trimRightByte.l0
   repeat' first
   | (with_reducible exact ih0 _ _)
   | (with_reducible exact LeO.refl _)
   | (with_reducible exact LeO.none _)
   | (with_reducible refine LeO.ite ?_ ?_)
   | (with_reducible refine LeO.bind ?_ (fun _ => ?_))
   | exact ih0 _ _
   | exact LeO.none _
   | refine LeO.ite ?_ ?_
   | refine LeO.bind ?_ (fun _ => ?_)
theorem strings_trimRightByte.mono : ∀ a0 a1 k, LeO (strings_trimRightByte.f k a0 a1) (strings_trimRightByte.f (k + 1) a0 a1) := by
 intro a0 a1 k
 have ih0 := strings_trimRightByte.mono_l k
 unfold strings_trimRightByte.f
 repeat' first
   | (with_reducible exact ih0 _ _)
   | (with_reducible exact LeO.refl _)
   | (with_reducible exact LeO.none _)
   | (with_reducible refine LeO.ite ?_ ?_)
   | (with_reducible refine LeO.bind ?_ (fun _ => ?_))
   | exact ih0 _ _
   | exact LeO.none _
   | refine LeO.ite ?_ ?_
   | refine LeO.bind ?_ (fun _ => ?_)
set_option maxHeartbeats 8000000 in
set_option maxRecDepth 100000 in
theorem strings_trimRightByte.calls (k : Nat) (a0 : ByteArray) (a1 : Int) (r : ByteArray) (w : World) (h : strings_trimRightByte.f k a0 a1 = some r) :
  Calls Tryd.prog 69 #[.string a0, .int .u8 a1] w fun e w' => e = .returned (.string r) ∧ Drawn0 w w' := by
 have H : (strings_trimRightByte.l0 k a0 a1) = some r := h
 clear h
 have H' := Ah H
 clear H
 go_enter Tryd.func69, Tryd.ntmps69
 go_wp2
 go_loopg [0] k (fun kq v0 w' => ∃ (x0_1 : ByteArray), v0 = .string x0_1 ∧ Aside0 (strings_trimRightByte.l0 kq x0_1 a1 = some r) ∧ Aside0 (kq ≤ k) ∧ Drawn0 w w')
 case atStart => exact ⟨(a0), e3, H', ⟨Nat.le_refl _⟩, by repeat (first | exact Drawn0.refl _ | apply Drawn0.step)⟩
 case round =>
  clear H'
  try clear p2
  obtain ⟨x0_1, rfl, HA, HK1, ⟨m1, rfl⟩⟩ := hrel
  cases gk with
  | zero => exact absurd HA.out (by simp [strings_trimRightByte.l0])
  | succ k1 =>
   have H := HA.out
   clear HA
   simp only [strings_trimRightByte.l0] at H
   by_cases c3 : (x0_1.size : Int) > 0
   rotate_left
   ·
    rw [if_neg c3] at H
    have c3b0 : decide (0 < (x0_1.size : Int)) = false := decide_eq_false c3
    have c3b1 : decide (0 < x0_1.size) = false := decide_eq_false (by omega)
    clear c3
    obtain rfl := Option.some.inj H
    go_wp2
    go_ret
    exact ⟨e3, by repeat (first | exact Drawn0.refl _ | apply Drawn0.step)⟩
   rw [if_pos c3] at H
   have c3b0 : decide (0 < (x0_1.size : Int)) = true := decide_eq_true c3
   have c3b1 : decide (0 < x0_1.size) = true := decide_eq_true (by omega)
   clear c3
   obtain ⟨ji4, hji4⟩ : ∃ j_ : Int, (wrap64 ((x0_1.size : Int) - 1)) = j_ := ⟨_, rfl⟩
   replace H : (if 0 ≤ (ji4) then (if (ji4) < (x0_1.size : Int) then (if (bt x0_1 (ji4)) = a1 then (if (ji4) ≤ (x0_1.size : Int) then (strings_trimRightByte.l0 k1 (x0_1.extract 0 ((ji4) : Int).toNat) a1) else (none)) else (some x0_1)) else (none)) else (none)) = some r := by first | (rw [hji4] at H; exact H) | (simp only [hji4] at H ⊢; exact H)
   have hji4w : (IntKind.i64.wrap ((x0_1.size : Int) - 1)) = ji4 := (i64_w _).trans hji4
   by_cases c5 : 0 ≤ (ji4)
   rotate_left
   ·
    rw [if_neg c5] at H
    exact absurd H (by simp)
   rw [if_pos c5] at H
   have c5b0 : decide (0 ≤ (ji4)) = true := decide_eq_true c5
   clear c5
   by_cases c6 : (ji4) < (x0_1.size : Int)
   rotate_left
   ·
    rw [if_neg c6] at H
    exact absurd H (by simp)
   rw [if_pos c6] at H
   have c6b0 : decide ((ji4) < (x0_1.size : Int)) = true := decide_eq_true c6
   clear c6
   by_cases c8 : (bt x0_1 (ji4)) = a1
   rotate_left
   ·
    rw [if_neg c8] at H
    have c8b0 : ((bt x0_1 (ji4)) == a1) = false := beq_eq_false_iff_ne.mpr c8
    have c8b1 : ((bt x0_1 (ji4)) != a1) = true := bne_iff_ne.mpr c8
    obtain rfl := Option.some.inj H
    have p7 : 0 ≤ ((ji4) : Int) := od
    have q7 : (ji4) < (x0_1.size : Int) := od
    have hx7 := bt_at x0_1 (ji4)
    replace p7 := eq_true p7
    replace q7 := eq_true q7
    go_wp2
    go_ret
    exact ⟨by first | rfl | (simp; done) | (simp only [← hji4] <;> (first | rfl | simp)) | (simp [*]; done), by repeat (first | exact Drawn0.refl _ | apply Drawn0.step)⟩
   rw [if_pos c8] at H
   have c8b0 : ((bt x0_1 (ji4)) == a1) = true := beq_iff_eq.mpr c8
   have c8b1 : ((bt x0_1 (ji4)) != a1) = false := bne_eq_false_iff_eq.mpr c8
   clear c8
   have c9b0 := eq_true (od : 0 ≤ (ji4))
   by_cases c10 : (ji4) ≤ (x0_1.size : Int)
   rotate_left
   ·
    rw [if_neg c10] at H
    exact absurd H (by simp)
   rw [if_pos c10] at H
   have c10b0 := eq_true c10
   have c10b1 : decide ((ji4) ≤ (x0_1.size : Int)) = true := decide_eq_true c10
   clear c10
   have H' := Ah H
   clear H
   have p7 : 0 ≤ ((ji4) : Int) := od
   have q7 : (ji4) < (x0_1.size : Int) := od
   have hx7 := bt_at x0_1 (ji4)
   replace p7 := eq_true p7
   replace q7 := eq_true q7
   go_wp2
   go_roundg k1
   case measure => have := HK1.out; omega
   case rel => exact ⟨(x0_1.extract 0 ((ji4) : Int).toNat), (by first | rfl | (simp; done) | (simp only [← hji4] <;> (first | rfl | simp)) | (simp [*]; done)), H', ⟨by have := HK1.out; omega⟩, by repeat (first | exact Drawn0.refl _ | apply Drawn0.step)⟩

-- NOT PRINTED: function 70 (strings_makeASCIISet)

-- NOT PRINTED: function 76 (strings_asciiSet_contains)

-- NOT PRINTED: function 71 (strings_trimLeftASCII)

-- NOT PRINTED: function 72 (strings_trimRightASCII)

-- NOT PRINTED: function 80 (utf8_decodeRuneInStringSlow)

-- NOT PRINTED: function 77 (utf8_DecodeRuneInString)

-- NOT PRINTED: function 88 (bytealg_IndexByteString)

-- NOT PRINTED: function 87 (stringslite_IndexByte)

-- NOT PRINTED: function 83 (strings_IndexByte)

/-! ### utf8_ValidRune: function 84 -/
def utf8_ValidRune.j0 : Nat → Int → Bool → Option (Bool)
 | 0, _, _ => none
 | k + 1, x0, x3 => if x3 = true then (some true) else (if 57343 < x0 then (if x0 ≤ 1114111 then (some true) else (some false)) else (some false))
def utf8_ValidRune.f (k : Nat) (a0 : Int) : Option (Bool) := if 0 ≤ a0 then (utf8_ValidRune.j0 k a0 (decide (a0 < 55296))) else (utf8_ValidRune.j0 k a0 false)
theorem utf8_ValidRune.mono_l : ∀ k, (∀ y0 y1, LeO (utf8_ValidRune.j0 k y0 y1) (utf8_ValidRune.j0 (k + 1) y0 y1))
 | 0 => fun _ _ r h => by simp [utf8_ValidRune.j0] at h
 | k + 1 => by
  have ih0 := utf8_ValidRune.mono_l k
  ·
   intro y0 y1
   unfold utf8_ValidRune.j0
   repeat' first
   | (with_reducible exact ih0 _ _)
   | (with_reducible exact LeO.refl _)
   | (with_reducible exact LeO.none _)
   | (with_reducible refine LeO.ite ?_ ?_)
   | (with_reducible refine LeO.bind ?_ (fun _ => ?_))
   | exact ih0 _ _
   | exact LeO.none _
   | refine LeO.ite ?_ ?_
   | refine LeO.bind ?_ (fun _ => ?_)
theorem utf8_ValidRune.mono : ∀ a0 k, LeO (utf8_ValidRune.f k a0) (utf8_ValidRune.f (k + 1) a0) := by
 intro a0 k
 have ih0 := utf8_ValidRune.mono_l k
 unfold utf8_ValidRune.f
 repeat' first
   | (with_reducible exact ih0 _ _)
   | (with_reducible exact LeO.refl _)
   | (with_reducible exact LeO.none _)
   | (with_reducible refine LeO.ite ?_ ?_)
   | (with_reducible refine LeO.bind ?_ (fun _ => ?_))
   | exact ih0 _ _
   | exact LeO.none _
   | refine LeO.ite ?_ ?_
   | refine LeO.bind ?_ (fun _ => ?_)
set_option maxHeartbeats 8000000 in
set_option maxRecDepth 100000 in
theorem utf8_ValidRune.calls (k : Nat) (a0 : Int) (r : Bool) (w : World) (h : utf8_ValidRune.f k a0 = some r) :
  Calls Tryd.prog 84 #[.int .i32 a0] w fun e w' => e = .returned (.bool r) ∧ Drawn0 w w' := by
 have H : (if 0 ≤ a0 then (utf8_ValidRune.j0 k a0 (decide (a0 < 55296))) else (utf8_ValidRune.j0 k a0 false)) = some r := h
 clear h
 have HC2 := Ah H
 clear H
 go_enter Tryd.func84, Tryd.ntmps84
 go_upto_region 1 with (fail)
 go_cut [3] (fun v3 wc => ∃ (kq : Nat) (x3_1 : Bool), v3 = .bool x3_1 ∧ Aside0 (utf8_ValidRune.j0 kq a0 x3_1 = some r) ∧ Aside0 (kq ≤ k) ∧ Drawn0 w wc)
 case first =>
  have H := HC2.out
  clear HC2
  by_cases c3 : 0 ≤ a0
  rotate_left
  ·
   rw [if_neg c3] at H
   have c3b0 : decide (0 ≤ a0) = false := decide_eq_false c3
   clear c3
   (first | rw [c3b0] | (simp only [i64_w, i32_w]; rw [c3b0]) | (simp only [c3b2, Bool.not_false, Bool.not_true]) | skip)
   have H' := Ah H
   clear H
   go_wp2
   go_meet
   case rel => exact ⟨_, (false), e3, H', ⟨by first | omega | exact Nat.le_refl _⟩, by repeat (first | exact Drawn0.refl _ | apply Drawn0.step)⟩
  rw [if_pos c3] at H
  have c3b0 : decide (0 ≤ a0) = true := decide_eq_true c3
  clear c3
  (first | rw [c3b0] | (simp only [i64_w, i32_w]; rw [c3b0]) | (simp only [c3b2, Bool.not_false, Bool.not_true]) | skip)
  have H' := Ah H
  clear H
  go_wp2
  go_meet
  case rel => exact ⟨_, (decide (a0 < 55296)), e3, H', ⟨by first | omega | exact Nat.le_refl _⟩, by repeat (first | exact Drawn0.refl _ | apply Drawn0.step)⟩
 case rest =>
  clear HC2
  try clear p2
  try clear c3
  try clear c3b0
  obtain ⟨kq, x3_1, rfl, HA, HJ1, ⟨mc1, rfl⟩⟩ := hcut
  cases kq with
  | zero => exact absurd HA.out (by simp [utf8_ValidRune.j0])
  | succ kj1 =>
   have H := HA.out
   clear HA
   simp only [utf8_ValidRune.j0] at H
   by_cases c4 : x3_1 = true
   ·
    subst c4
    rw [if_pos rfl] at H
    obtain rfl := Option.some.inj H
    go_wp2
    go_ret
    exact ⟨e3, by repeat (first | exact Drawn0.refl _ | apply Drawn0.step)⟩
   replace c4 := Bool.eq_false_iff.mpr c4
   subst c4
   rw [if_neg fne] at H
   by_cases c5 : 57343 < a0
   rotate_left
   ·
    rw [if_neg c5] at H
    have c5b0 : decide (57343 < a0) = false := decide_eq_false c5
    clear c5
    obtain rfl := Option.some.inj H
    go_wp2
    go_ret
    exact ⟨e3, by repeat (first | exact Drawn0.refl _ | apply Drawn0.step)⟩
   rw [if_pos c5] at H
   have c5b0 : decide (57343 < a0) = true := decide_eq_true c5
   clear c5
   by_cases c6 : a0 ≤ 1114111
   ·
    rw [if_pos c6] at H
    have c6b0 : decide (a0 ≤ 1114111) = true := decide_eq_true c6
    clear c6
    obtain rfl := Option.some.inj H
    go_wp2
    go_ret
    exact ⟨e3, by repeat (first | exact Drawn0.refl _ | apply Drawn0.step)⟩
   rw [if_neg c6] at H
   have c6b0 : decide (a0 ≤ 1114111) = false := decide_eq_false c6
   clear c6
   obtain rfl := Option.some.inj H
   go_wp2
   go_ret
   exact ⟨e3, by repeat (first | exact Drawn0.refl _ | apply Drawn0.step)⟩

/-! ### bytealg_Cutover: function 85 -/
def bytealg_Cutover.f (a0 : Int) : Option (Int) := some (wrap64 (Int.tdiv (wrap64 (a0 + 16)) 8))
set_option maxHeartbeats 8000000 in
set_option maxRecDepth 100000 in
theorem bytealg_Cutover.calls (a0 : Int) (r : Int) (w : World) (h : bytealg_Cutover.f a0 = some r) :
  Calls Tryd.prog 85 #[.int .i64 a0] w fun e w' => e = .returned (.int .i64 r) ∧ Drawn0 w w' := by
 have H : (some (wrap64 (Int.tdiv (wrap64 (a0 + 16)) 8))) = some r := h
 clear h
 obtain rfl := Option.some.inj H
 go_enter Tryd.func85, Tryd.ntmps85
 go_wp2
 go_ret
 exact ⟨by first | rfl | (simp; done) | (simp [*]; done), by repeat (first | exact Drawn0.refl _ | apply Drawn0.step)⟩

-- NOT PRINTED: function 86 (bytealg_IndexString)

-- NOT PRINTED: function 81 (strings_IndexRune)

-- NOT PRINTED: function 78 (strings_ContainsRune)

-- NOT PRINTED: function 73 (strings_trimLeftUnicode)

/-! ### utf8_RuneStart: function 82 -/
def utf8_RuneStart.f (a0 : Int) : Option (Bool) := some ((Go.bits .and .u8 a0 192) != 128)
set_option maxHeartbeats 8000000 in
set_option maxRecDepth 100000 in
theorem utf8_RuneStart.calls (a0 : Int) (r : Bool) (w : World) (h : utf8_RuneStart.f a0 = some r) :
  Calls Tryd.prog 82 #[.int .u8 a0] w fun e w' => e = .returned (.bool r) ∧ Drawn0 w w' := by
 have H : (some ((Go.bits .and .u8 a0 192) != 128)) = some r := h
 clear h
 obtain rfl := Option.some.inj H
 go_enter Tryd.func82, Tryd.ntmps82
 go_wp2
 go_ret
 exact ⟨by first | rfl | (simp; done) | (simp [*]; done), by repeat (first | exact Drawn0.refl _ | apply Drawn0.step)⟩

-- NOT PRINTED: function 79 (utf8_DecodeLastRuneInString)

-- NOT PRINTED: function 74 (strings_trimRightUnicode)

/-! ### strings_Trim: function 62 -/
-- strings.Trim at an ASCII cutset: what is in the set goes from both ends.
def strings_Trim.f (a0 : ByteArray) (a1 : ByteArray) : Option ByteArray := if a0.size ≤ 9223372036854775807 ∧ a1.size < 4294967281 ∧ (a1.data.toList.all fun b => decide (b.toNat < 128)) = true then some ⟨(Lib.trimS a0.data.toList a1.data.toList).toArray⟩ else none
theorem strings_Trim.calls (a0 : ByteArray) (a1 : ByteArray) (r : ByteArray) (w : World) (h : strings_Trim.f a0 a1 = some r) :
    Calls Tryd.prog 62 #[.string a0, .string a1] w fun e w' => e = .returned (.string r) ∧ Below w.heap.size w w' := by
  unfold strings_Trim.f at h
  by_cases c : a0.size ≤ 9223372036854775807 ∧ a1.size < 4294967281 ∧ (a1.data.toList.all fun b => decide (b.toNat < 128)) = true
  · rw [if_pos c] at h
    obtain rfl := Option.some.inj h
    exact Rt.trim_calls a0 a1 w c.1 c.2.1 c.2.2
  · rw [if_neg c] at h
    cases h

/-! ### impl_isName: function 47 -/
def impl_isName.f (a0 : ByteArray) : Option (Bool) := (impl_within.f (a0.size : Int) 1 12).bind fun t219 => (if t219 = true then ((strings_Trim.f a0 (⟨#[97, 98, 99, 100, 101, 102, 103, 104, 105, 106, 107, 108, 109, 110, 111, 112, 113, 114, 115, 116, 117, 118, 119, 120, 121, 122, 48, 49, 50, 51, 52, 53, 54, 55, 56, 57, 46, 45]⟩ : ByteArray)).bind fun t220 => (some (t220.toList == ([] : List UInt8)))) else (some false))
set_option maxHeartbeats 8000000 in
set_option maxRecDepth 100000 in
theorem impl_isName.calls (a0 : ByteArray) (r : Bool) (w : World) (h : impl_isName.f a0 = some r) :
  Calls Tryd.prog 47 #[.string a0] w fun e w' => e = .returned (.bool r) ∧ Below w.heap.size w w' := by
 have HB := Ah (Below.refl w.heap.size w)
 have H : ((impl_within.f (a0.size : Int) 1 12).bind fun t219 => (if t219 = true then ((strings_Trim.f a0 (⟨#[97, 98, 99, 100, 101, 102, 103, 104, 105, 106, 107, 108, 109, 110, 111, 112, 113, 114, 115, 116, 117, 118, 119, 120, 121, 122, 48, 49, 50, 51, 52, 53, 54, 55, 56, 57, 46, 45]⟩ : ByteArray)).bind fun t220 => (some (t220.toList == ([] : List UInt8)))) else (some false))) = some r := h
 clear h
 replace H := Option.bind_eq_some_iff.mp H
 obtain ⟨t219, A20, H⟩ := H
 try dsimp only at H
 have A2 := Ah A20
 clear A20
 by_cases c3 : t219 = true
 rotate_left
 ·
  replace c3 := Bool.eq_false_iff.mpr c3
  subst c3
  rw [if_neg fne] at H
  obtain rfl := Option.some.inj H
  go_enter Tryd.func47, Tryd.ntmps47
  go_wp2_with (first | ((with_reducible refine gate_callee (f := 36) rfl ?_); refine gL (some 5) rfl rfl Tryd.func36 (by kernel_rfl) rfl #[.int .i64 (a0.size : Int), .int .i64 1, .int .i64 12] rfl ?_; (with_reducible refine (impl_within.calls (a0.size : Int) 1 12 false _ A2.out).mono ?_); rintro e w' ⟨rfl, ⟨nd, rfl⟩⟩; refine ⟨_, rfl, ?_⟩))
  go_ret
  exact ⟨er, bs HB⟩
 subst c3
 rw [if_pos rfl] at H
 replace H := Option.bind_eq_some_iff.mp H
 obtain ⟨t220, A40, H⟩ := H
 try dsimp only at H
 have A4 := Ah A40
 clear A40
 obtain rfl := Option.some.inj H
 go_enter Tryd.func47, Tryd.ntmps47
 go_wp2_with (first | ((with_reducible refine gate_callee (f := 36) rfl ?_); refine gL (some 5) rfl rfl Tryd.func36 (by kernel_rfl) rfl #[.int .i64 (a0.size : Int), .int .i64 1, .int .i64 12] rfl ?_; (with_reducible refine (impl_within.calls (a0.size : Int) 1 12 true _ A2.out).mono ?_); rintro e w' ⟨rfl, ⟨nd, rfl⟩⟩; refine ⟨_, rfl, ?_⟩) | (go_at_call 62; (with_reducible refine (strings_Trim.calls a0 (⟨#[97, 98, 99, 100, 101, 102, 103, 104, 105, 106, 107, 108, 109, 110, 111, 112, 113, 114, 115, 116, 117, 118, 119, 120, 121, 122, 48, 49, 50, 51, 52, 53, 54, 55, 56, 57, 46, 45]⟩ : ByteArray) t220 _ A4.out).mono ?_); rintro e w5 ⟨rfl, hb⟩; replace HB := Ah (below_step (bs HB) hb); (try clear hb)))
 go_ret
 exact ⟨er, bs HB⟩

/-! ### impl_isGoodBucket: function 37 -/
mutual
def impl_isGoodBucket.j0 : Nat → Bool → Int → List (S45) → Option (Bool)
 | 0, _, _, _ => none
 | k + 1, x17, x222000, x222001 => if x17 = true then (some false) else (impl_isGoodBucket.l0 k x222001 (x222001.length : Int) 0 x222000 x222001)
def impl_isGoodBucket.l0 : Nat → List (S45) → Int → Int → Int → List (S45) → Option (Bool)
 | 0, _, _, _, _, _ => none
 | k + 1, x19, x20, x21, x222000, x222001 => if x21 < x20 then (if 0 ≤ x21 then (if x21 < (x19.length : Int) then ((impl_isName.f ((rd_T45 x19 x21).f0)).bind fun t225 => (if t225 = true then ((impl_within.f ((rd_T45 x19 x21).f1) 0 1000).bind fun t226 => (if t226 = true then (if x21 > 0 then (if 0 ≤ (wrap64 (x21 - 1)) then (if (wrap64 (x21 - 1)) < (x222001.length : Int) then (if ((Op.bytesLess (((rd_T45 x222001 (wrap64 (x21 - 1))).f0).toList) (((rd_T45 x19 x21).f0).toList)) = true) then (impl_isGoodBucket.l0 k x19 x20 (wrap64 (x21 + 1)) x222000 x222001) else (some false)) else (none)) else (none)) else (impl_isGoodBucket.l0 k x19 x20 (wrap64 (x21 + 1)) x222000 x222001)) else (some false))) else (some false))) else (none)) else (none)) else (some true)
end
def impl_isGoodBucket.f (k : Nat) (a0_0 : Int) (l0_1 : List (S45)) (a1 : Int) : Option (Bool) := (impl_within.f a0_0 0 a1).bind fun t222 => (if t222 = true then (impl_isGoodBucket.j0 k (decide ((l0_1.length : Int) > 4)) a0_0 l0_1) else (impl_isGoodBucket.j0 k true a0_0 l0_1))
theorem impl_isGoodBucket.mono_l : ∀ k, (∀ y0 y1 y2, LeO (impl_isGoodBucket.j0 k y0 y1 y2) (impl_isGoodBucket.j0 (k + 1) y0 y1 y2)) ∧ (∀ y0 y1 y2 y3 y4, LeO (impl_isGoodBucket.l0 k y0 y1 y2 y3 y4) (impl_isGoodBucket.l0 (k + 1) y0 y1 y2 y3 y4))
 | 0 => ⟨fun _ _ _ r h => by simp [impl_isGoodBucket.j0] at h, fun _ _ _ _ _ r h => by simp [impl_isGoodBucket.l0] at h⟩
 | k + 1 => by
  obtain ⟨ih0, ih1⟩ := impl_isGoodBucket.mono_l k
  refine ⟨?_, ?_⟩ <;> intros <;> first | unfold impl_isGoodBucket.j0 | unfold impl_isGoodBucket.l0
  all_goals repeat' first
   | (with_reducible exact ih0 _ _ _)
   | (with_reducible exact ih1 _ _ _ _ _)
   | (with_reducible exact LeO.refl _)
   | (with_reducible exact LeO.none _)
   | (with_reducible refine LeO.ite ?_ ?_)
   | (with_reducible refine LeO.bind ?_ (fun _ => ?_))
   | exact ih0 _ _ _
   | exact ih1 _ _ _ _ _
   | exact LeO.none _
   | refine LeO.ite ?_ ?_
   | refine LeO.bind ?_ (fun _ => ?_)
theorem impl_isGoodBucket.mono : ∀ a0 a1 a2 k, LeO (impl_isGoodBucket.f k a0 a1 a2) (impl_isGoodBucket.f (k + 1) a0 a1 a2) := by
 intro a0 a1 a2 k
 obtain ⟨ih0, ih1⟩ := impl_isGoodBucket.mono_l k
 unfold impl_isGoodBucket.f
 repeat' first
   | (with_reducible exact ih0 _ _ _)
   | (with_reducible exact ih1 _ _ _ _ _)
   | (with_reducible exact LeO.refl _)
   | (with_reducible exact LeO.none _)
   | (with_reducible refine LeO.ite ?_ ?_)
   | (with_reducible refine LeO.bind ?_ (fun _ => ?_))
   | exact ih0 _ _ _
   | exact ih1 _ _ _ _ _
   | exact LeO.none _
   | refine LeO.ite ?_ ?_
   | refine LeO.bind ?_ (fun _ => ?_)
def impl_isGoodBucket.T6 : Bool × List (List Nat × List Nat) := (true, [([], []), ([0], [0]), ([1], [1]), ([2], [2]), ([3, 2], [3]), ([4], [4]), ([5, 4], [4, 5]), ([6, 4, 4], [4, 6]), ([7, 4], [4, 7]), ([4, 8], [4, 8]), ([9, 7], [9]), ([10], [10]), ([11, 10], [10, 11]), ([12, 10, 10], [10, 12]), ([13], [13]), ([14, 13], [13, 14]), ([13], [13]), ([16, 13], [13, 16]), ([13], [13]), ([18, 13], [13, 18]), ([17, 19, 13], [13, 17, 19]), ([20, 13], [13, 20]), ([21, 13], [13, 21]), ([15, 22, 13], [13, 15, 22]), ([13, 23, 10], [10, 13, 23]), ([10, 24], [10, 24])])
def impl_isGoodBucket.B6 : List Nat := [0, 1, 3, 7, 15, 31, 63, 127, 255, 511, 1023, 2047, 4095, 8191, 16383, 32767, 16383, 81919, 16383, 278527, 999423, 2047999, 4145151, 8388607, 16777215, 33554431]
theorem impl_isGoodBucket.tab6 : rtab .any (opsOf Tryd.f37 6) = impl_isGoodBucket.T6 := by kernel_rfl
theorem impl_isGoodBucket.bits6 : waitsOk impl_isGoodBucket.T6.2 impl_isGoodBucket.B6 = true := by kernel_rfl
set_option maxHeartbeats 8000000 in
set_option maxRecDepth 100000 in
theorem impl_isGoodBucket.calls (k : Nat) (a0_0 : Int) (A0_1 : Option Addr) (c0_1 : Nat) (l0_1 : List (S45)) (a1 : Int) (r : Bool) (w : World) (hr0_1 : Kd.C k45 w A0_1 l0_1.length l0_1) (hc0_1 : l0_1.length ≤ c0_1) (h : impl_isGoodBucket.f k a0_0 l0_1 a1 = some r) :
  Calls Tryd.prog 37 #[.agg #[.int .i64 a0_0, .slice A0_1 l0_1.length c0_1], .int .i64 a1] w fun e w' => e = .returned (.bool r) ∧ Below w.heap.size w w' := by
 have hu43 := Tryd.underlying43
 have hu45 := Tryd.underlying45
 have HR0_1 := Ah hr0_1
 have HC0_1 := Ah hc0_1
 clear hr0_1 hc0_1
 have HB := Ah (Below.refl w.heap.size w)
 have H : ((impl_within.f a0_0 0 a1).bind fun t222 => (if t222 = true then (impl_isGoodBucket.j0 k (decide ((l0_1.length : Int) > 4)) a0_0 l0_1) else (impl_isGoodBucket.j0 k true a0_0 l0_1))) = some r := h
 clear h
 have HC3 := Ah H
 clear H
 go_enter Tryd.func37, Tryd.ntmps37
 go_upto_region 1 with (first | ((with_reducible refine gate_dst (N := 2) rfl ?_); (try (refine gate_guard (by rfl) ?_; dsimp only)); refine boxL 2 43 #[.int .i64 a0_0, .slice A0_1 l0_1.length c0_1] ?_; intro gb221 hg w4 BK221 hb; have GW221 := gw hg (bs HB); have GE221 := gw hg (bs HB); replace HB := Ah (below_step (bs HB) hb); clear hb hg))
 (try simp only [Act.put, List.setIfInBounds_toArray, List.set_cons_zero, List.set_cons_succ])
 go_cut [17] (fun v17 wc => ∃ (kq : Nat) (x17_2 : Bool), v17 = .bool x17_2 ∧ Aside0 (impl_isGoodBucket.j0 kq x17_2 a0_0 l0_1 = some r) ∧ Aside0 (kq ≤ k) ∧ Aside0 (wc.heap[gb221]? = some (.cells #[.int .i64 a0_0, (.slice A0_1 l0_1.length c0_1)] 43 (0, 0))) ∧ Aside0 (Below w.heap.size w wc))
 case first =>
  have H := HC3.out
  clear HC3
  replace H := Option.bind_eq_some_iff.mp H
  obtain ⟨t222, A50, H⟩ := H
  try dsimp only at H
  have A5 := Ah A50
  clear A50
  by_cases c6 : t222 = true
  ·
   subst c6
   rw [if_pos rfl] at H
   have H' := Ah H
   clear H
   obtain ⟨hcz7_0, hcz7_1⟩ := cz2 BK221
   obtain ⟨hfz7_0, hfz7_1⟩ := fz2 BK221
   go_wp2_with (first | ((with_reducible refine gate_callee (f := 36) rfl ?_); refine gL (some 10) rfl rfl Tryd.func36 (by kernel_rfl) rfl #[.int .i64 a0_0, .int .i64 0, .int .i64 a1] rfl ?_; (with_reducible refine (impl_within.calls a0_0 0 a1 true _ A5.out).mono ?_); rintro e w' ⟨rfl, ⟨nd, rfl⟩⟩; refine ⟨_, rfl, ?_⟩))
   go_meet
   case rel => exact ⟨_, (decide ((l0_1.length : Int) > 4)), e3, H', ⟨by first | omega | exact Nat.le_refl _⟩, ⟨bk BK221⟩, ⟨bs1 HB GE221⟩⟩
  replace c6 := Bool.eq_false_iff.mpr c6
  subst c6
  rw [if_neg fne] at H
  have H' := Ah H
  clear H
  obtain ⟨hcz8_0, hcz8_1⟩ := cz2 BK221
  obtain ⟨hfz8_0, hfz8_1⟩ := fz2 BK221
  go_wp2_with (first | ((with_reducible refine gate_callee (f := 36) rfl ?_); refine gL (some 10) rfl rfl Tryd.func36 (by kernel_rfl) rfl #[.int .i64 a0_0, .int .i64 0, .int .i64 a1] rfl ?_; (with_reducible refine (impl_within.calls a0_0 0 a1 false _ A5.out).mono ?_); rintro e w' ⟨rfl, ⟨nd, rfl⟩⟩; refine ⟨_, rfl, ?_⟩))
  go_meet
  case rel => exact ⟨_, (true), e3, H', ⟨by first | omega | exact Nat.le_refl _⟩, ⟨bk BK221⟩, ⟨bs1 HB GE221⟩⟩
 case rest =>
  clear HC3
  try clear p2
  try clear c3
  try clear c6
  try clear hcz7_0 hcz7_1
  try clear hcz8_0 hcz8_1
  try clear hfz7_0 hfz7_1
  try clear hfz8_0 hfz8_1
  obtain ⟨kq, x17_2, rfl, HA, HJ2, BK221, HB⟩ := hcut
  cases kq with
  | zero => exact absurd HA.out (by simp [impl_isGoodBucket.j0])
  | succ kj2 =>
   have H := HA.out
   clear HA
   simp only [impl_isGoodBucket.j0] at H
   by_cases c9 : x17_2 = true
   ·
    subst c9
    rw [if_pos rfl] at H
    obtain rfl := Option.some.inj H
    go_wp2
    go_ret
    exact ⟨er, bs1 HB GE221⟩
   replace c9 := Bool.eq_false_iff.mpr c9
   subst c9
   rw [if_neg fne] at H
   have H' := Ah H
   clear H
   obtain ⟨hcz10_0, hcz10_1⟩ := cz2 BK221
   obtain ⟨hfz10_0, hfz10_1⟩ := fz2 BK221
   go_wp2
   go_loopg [21] kj2 (fun kq v21 w' => ∃ (x21_2 : Int), v21 = .int .i64 x21_2 ∧ Aside0 (impl_isGoodBucket.l0 kq l0_1 (l0_1.length : Int) x21_2 a0_0 l0_1 = some r) ∧ Aside0 (kq ≤ kj2) ∧ Aside0 (w'.heap[gb221]? = some (.cells #[.int .i64 a0_0, (.slice A0_1 l0_1.length c0_1)] 43 (0, 0))) ∧ Aside0 (Below w.heap.size w w'))
   case atStart => exact ⟨(0), e3, H', ⟨Nat.le_refl _⟩, ⟨bk BK221⟩, ⟨bs1 HB GE221⟩⟩
   case round =>
    clear H'
    try clear p2
    try clear c3
    try clear c6
    try clear c9
    try clear hcz10_0 hcz10_1
    try clear hcz7_0 hcz7_1
    try clear hcz8_0 hcz8_1
    try clear hfz10_0 hfz10_1
    try clear hfz7_0 hfz7_1
    try clear hfz8_0 hfz8_1
    try clear p2
    obtain ⟨x21_2, rfl, HA, HK2, BK221, HB⟩ := hrel
    cases gk with
    | zero => exact absurd HA.out (by simp [impl_isGoodBucket.l0])
    | succ k2 =>
     have H := HA.out
     clear HA
     simp only [impl_isGoodBucket.l0] at H
     by_cases c11 : x21_2 < (l0_1.length : Int)
     rotate_left
     ·
      rw [if_neg c11] at H
      have c11b0 : decide (x21_2 < (l0_1.length : Int)) = false := decide_eq_false c11
      clear c11
      obtain rfl := Option.some.inj H
      go_wp2
      go_ret
      exact ⟨er, bs1 HB GE221⟩
     rw [if_pos c11] at H
     have c11b0 : decide (x21_2 < (l0_1.length : Int)) = true := decide_eq_true c11
     clear c11
     by_cases c12 : 0 ≤ x21_2
     rotate_left
     ·
      rw [if_neg c12] at H
      exact absurd H (by simp)
     rw [if_pos c12] at H
     have c12b0 : decide (0 ≤ x21_2) = true := decide_eq_true c12
     clear c12
     by_cases c13 : x21_2 < (l0_1.length : Int)
     rotate_left
     ·
      rw [if_neg c13] at H
      exact absurd H (by simp)
     rw [if_pos c13] at H
     have c13b0 : decide (x21_2 < (l0_1.length : Int)) = true := decide_eq_true c13
     clear c13
     replace H := Option.bind_eq_some_iff.mp H
     obtain ⟨t225, A140, H⟩ := H
     try dsimp only at H
     have A14 := Ah A140
     clear A140
     by_cases c15 : t225 = true
     rotate_left
     ·
      replace c15 := Bool.eq_false_iff.mpr c15
      subst c15
      rw [if_neg fne] at H
      obtain rfl := Option.some.inj H
      have p223 : 0 ≤ (x21_2 : Int) := od
      have q223 : x21_2 < (l0_1.length : Int) := od
      obtain ⟨ad223, e223, hx223_0, hx223_1⟩ := at_T45 HR0_1.out x21_2 p223 q223
      cases e223
      replace hx223_0 := (HB.out.cell (World.block_lt_of_cell? w _ hx223_0)).trans hx223_0
      replace hx223_1 := (HB.out.cell (World.block_lt_of_cell? w _ hx223_1)).trans hx223_1
      replace p223 := eq_true p223
      replace q223 := eq_true q223
      try go_wp2_with (first | ((with_reducible refine gate_dst (N := 6) rfl ?_); (try (refine gate_guard (by rfl) ?_; dsimp only)); refine boxL 6 45 #[.string (⟨#[]⟩ : ByteArray), .int .i64 0] ?_; intro gb224 hg w47 BK224 hb; have GW224 := gw hg (bs1 HB GE221); have GE224 := gw hg (bs1 HB GE221); replace HB := Ah (below_step (bs1 HB GE221) hb); have NB221_224 := nn BK221 hg; have NB224_221 := nm BK221 hg; replace BK221 := nb BK221 hb; clear hb hg; have hnb48 := NB224_221.out; have hnc48 := NB221_224.out; obtain ⟨hcz49_0, hcz49_1⟩ := cz2 BK224; obtain ⟨hfz49_0, hfz49_1⟩ := fz2 BK224))
      have n0_ : Aside0 (((w47.setCell ⟨gb224, 0, none⟩ (.string ((rd_T45 l0_1 x21_2).f0))).setCell ⟨gb224, 1, none⟩ (.int .i64 ((rd_T45 l0_1 x21_2).f1))).heap[gb221]? = some (.cells #[.int .i64 a0_0, .slice (some ad223) l0_1.length c0_1] 43 (0, 0))) := ⟨bf BK221 NB221_224⟩
      have n1_ : Aside0 (((w47.setCell ⟨gb224, 0, none⟩ (.string ((rd_T45 l0_1 x21_2).f0))).setCell ⟨gb224, 1, none⟩ (.int .i64 ((rd_T45 l0_1 x21_2).f1))).heap[gb224]? = some (.cells #[.string ((rd_T45 l0_1 x21_2).f0), .int .i64 ((rd_T45 l0_1 x21_2).f1)] 45 (0, 0))) := ⟨by (with_reducible repeat (first | refine blk_drewN ?_ _ | refine blk_drew ?_ | refine blk_alloc ?_ _)); refine blk_put (cs := #[.string ((rd_T45 l0_1 x21_2).f0), .int .i64 0]) ?_ 1 _ rfl; (with_reducible repeat (first | refine blk_drewN ?_ _ | refine blk_drew ?_ | refine blk_alloc ?_ _)); refine blk_put (cs := #[.string (⟨#[]⟩ : ByteArray), .int .i64 0]) ?_ 0 _ rfl; (with_reducible repeat (first | refine blk_drewN ?_ _ | refine blk_drew ?_ | refine blk_alloc ?_ _)); exact BK224.out⟩
      have n2_ : Aside0 (Below w.heap.size w ((w47.setCell ⟨gb224, 0, none⟩ (.string ((rd_T45 l0_1 x21_2).f0))).setCell ⟨gb224, 1, none⟩ (.int .i64 ((rd_T45 l0_1 x21_2).f1)))) := ⟨bs2 HB GE221 GE224⟩
      (try clear BK221)
      (try clear BK224)
      (try clear HB)
      generalize ((w47.setCell ⟨gb224, 0, none⟩ (.string ((rd_T45 l0_1 x21_2).f0))).setCell ⟨gb224, 1, none⟩ (.int .i64 ((rd_T45 l0_1 x21_2).f1))) = w50 at n0_ n1_ n2_ ⊢
      have BK221 := n0_
      have BK224 := n1_
      have HB := n2_
      clear n0_ n1_ n2_
      have n0_ := Ah (blk_drew BK221.out)
      have n1_ := Ah (blk_drew BK224.out)
      have n2_ := Ah (below_drew1 HB.out)
      clear BK221 BK224 HB
      have BK221 := n0_
      have BK224 := n1_
      have HB := n2_
      clear n0_ n1_ n2_
      refine start_ (n := 26) (S := fun w' => w'.cell? ⟨gb224, 0, none⟩ = some (.string ((rd_T45 l0_1 x21_2).f0)) ∧ w'.cell? ⟨gb224, 1, none⟩ = some (.int .i64 ((rd_T45 l0_1 x21_2).f1))) (ds := []) #[false, false, false, false, false, false, false, false, false, false, false, false, false, false, false, false, false, false, false, false, false, false, false, false, false, false] (by kernel_rfl) rfl rfl ⟨(blk_cell BK224.out 0).trans rfl, (blk_cell BK224.out 1).trans rfl⟩ (fun hHeld => ?_); refine with_tabW impl_isGoodBucket.tab6 impl_isGoodBucket.bits6 (fun HT_ HW_ => ?_)
      generalize w50.drew = w51 at BK221 BK224 HB hHeld ⊢
      refine pureS 0 26 HT_.out ?_
      refine takeS 1 27 HT_.out HW_.out hHeld (hr := by rintro w' ⟨s0, s1⟩; go_simp; with_reducible rfl) (h := ?_)
      refine one_ (i := 2) (N := some 28) #[true, true, true, false, false, false, false, false, false, false, false, false, false, false, false, false, false, false, false, false, false, false, false, false, false, false] rfl rfl (one_of HT_.out (by kernel_rfl)) (by decide) (fun K hK => ?_)
      refine goes_ Tryd.func47 (by kernel_rfl) rfl #[.string ((rd_T45 l0_1 x21_2).f0)] (by rfl) rfl rfl (by (try simp only [List.map_toArray, List.map_cons, List.map_nil]); first | done | rfl | (simp only [List.length_drop, List.length_take]; rfl)) ?_
      with_reducible refine (impl_isName.calls ((rd_T45 l0_1 x21_2).f0) false _ A14.out).mono ?_
      rintro e w52 ⟨rfl, hb⟩
      refine ⟨_, rfl, ?_⟩
      have n0_ := Ah (bb BK221 hb)
      have n1_ := Ah (bb BK224 hb)
      have n2_ := Ah (below_step (bs2 HB GE221 GE224) hb)
      clear BK221 BK224 HB
      have BK221 := n0_
      have BK224 := n1_
      have HB := n2_
      clear n0_ n1_ n2_
      (try clear hb)
      (try clear hb2)
      (try clear hk)
      (try clear hi)
      refine hK.out _ _ ⟨(blk_cell BK224.out 0).trans rfl, (blk_cell BK224.out 1).trans rfl⟩ (fun hHeld => ?_)
      clear hK K
      refine norm_ (a' := ?_) ?_ ?_
      rotate_left
      ·
       show Act.put _ (some 28) _ = _
       simp only [Act.put, List.setIfInBounds_toArray, List.set_cons_zero, List.set_cons_succ, i64_w, i32_w]
       rfl
      refine pureS 3 29 HT_.out ?_
      refine pureS 4 30 HT_.out ?_
      refine pureU 5 31 HT_.out ?_
      refine pureU 6 32 HT_.out ?_
      refine pureU 7 33 HT_.out ?_
      refine pureU 8 34 HT_.out ?_
      refine pureS 9 35 HT_.out ?_
      refine pureS 10 36 HT_.out ?_
      refine pureU 11 37 HT_.out ?_
      refine pureU 12 38 HT_.out ?_
      refine pureU 13 39 HT_.out ?_
      refine pureU 14 40 HT_.out ?_
      refine pureU 15 41 HT_.out ?_
      refine pureU 16 42 HT_.out ?_
      refine pureU 17 43 HT_.out ?_
      refine pureU 18 44 HT_.out ?_
      refine pureU 19 45 HT_.out ?_
      refine pureU 20 46 HT_.out ?_
      refine pureU 21 47 HT_.out ?_
      refine pureU 22 48 HT_.out ?_
      refine pureU 23 49 HT_.out ?_
      refine pureU 24 50 HT_.out ?_
      refine pureS 25 51 HT_.out ?_
      refine done_ (done_of HT_.out (by kernel_rfl)) ?_
      try go_wp2
      go_ret
      exact ⟨er, bs2 HB GE221 GE224⟩
     subst c15
     rw [if_pos rfl] at H
     replace H := Option.bind_eq_some_iff.mp H
     obtain ⟨t226, A160, H⟩ := H
     try dsimp only at H
     have A16 := Ah A160
     clear A160
     by_cases c17 : t226 = true
     rotate_left
     ·
      replace c17 := Bool.eq_false_iff.mpr c17
      subst c17
      rw [if_neg fne] at H
      obtain rfl := Option.some.inj H
      have p223 : 0 ≤ (x21_2 : Int) := od
      have q223 : x21_2 < (l0_1.length : Int) := od
      obtain ⟨ad223, e223, hx223_0, hx223_1⟩ := at_T45 HR0_1.out x21_2 p223 q223
      cases e223
      replace hx223_0 := (HB.out.cell (World.block_lt_of_cell? w _ hx223_0)).trans hx223_0
      replace hx223_1 := (HB.out.cell (World.block_lt_of_cell? w _ hx223_1)).trans hx223_1
      replace p223 := eq_true p223
      replace q223 := eq_true q223
      try go_wp2_with (first | ((with_reducible refine gate_dst (N := 6) rfl ?_); (try (refine gate_guard (by rfl) ?_; dsimp only)); refine boxL 6 45 #[.string (⟨#[]⟩ : ByteArray), .int .i64 0] ?_; intro gb224 hg w41 BK224 hb; have GW224 := gw hg (bs1 HB GE221); have GE224 := gw hg (bs1 HB GE221); replace HB := Ah (below_step (bs1 HB GE221) hb); have NB221_224 := nn BK221 hg; have NB224_221 := nm BK221 hg; replace BK221 := nb BK221 hb; clear hb hg; have hnb42 := NB224_221.out; have hnc42 := NB221_224.out; obtain ⟨hcz43_0, hcz43_1⟩ := cz2 BK224; obtain ⟨hfz43_0, hfz43_1⟩ := fz2 BK224))
      have n0_ : Aside0 (((w41.setCell ⟨gb224, 0, none⟩ (.string ((rd_T45 l0_1 x21_2).f0))).setCell ⟨gb224, 1, none⟩ (.int .i64 ((rd_T45 l0_1 x21_2).f1))).heap[gb221]? = some (.cells #[.int .i64 a0_0, .slice (some ad223) l0_1.length c0_1] 43 (0, 0))) := ⟨bf BK221 NB221_224⟩
      have n1_ : Aside0 (((w41.setCell ⟨gb224, 0, none⟩ (.string ((rd_T45 l0_1 x21_2).f0))).setCell ⟨gb224, 1, none⟩ (.int .i64 ((rd_T45 l0_1 x21_2).f1))).heap[gb224]? = some (.cells #[.string ((rd_T45 l0_1 x21_2).f0), .int .i64 ((rd_T45 l0_1 x21_2).f1)] 45 (0, 0))) := ⟨by (with_reducible repeat (first | refine blk_drewN ?_ _ | refine blk_drew ?_ | refine blk_alloc ?_ _)); refine blk_put (cs := #[.string ((rd_T45 l0_1 x21_2).f0), .int .i64 0]) ?_ 1 _ rfl; (with_reducible repeat (first | refine blk_drewN ?_ _ | refine blk_drew ?_ | refine blk_alloc ?_ _)); refine blk_put (cs := #[.string (⟨#[]⟩ : ByteArray), .int .i64 0]) ?_ 0 _ rfl; (with_reducible repeat (first | refine blk_drewN ?_ _ | refine blk_drew ?_ | refine blk_alloc ?_ _)); exact BK224.out⟩
      have n2_ : Aside0 (Below w.heap.size w ((w41.setCell ⟨gb224, 0, none⟩ (.string ((rd_T45 l0_1 x21_2).f0))).setCell ⟨gb224, 1, none⟩ (.int .i64 ((rd_T45 l0_1 x21_2).f1)))) := ⟨bs2 HB GE221 GE224⟩
      (try clear BK221)
      (try clear BK224)
      (try clear HB)
      generalize ((w41.setCell ⟨gb224, 0, none⟩ (.string ((rd_T45 l0_1 x21_2).f0))).setCell ⟨gb224, 1, none⟩ (.int .i64 ((rd_T45 l0_1 x21_2).f1))) = w44 at n0_ n1_ n2_ ⊢
      have BK221 := n0_
      have BK224 := n1_
      have HB := n2_
      clear n0_ n1_ n2_
      have n0_ := Ah (blk_drew BK221.out)
      have n1_ := Ah (blk_drew BK224.out)
      have n2_ := Ah (below_drew1 HB.out)
      clear BK221 BK224 HB
      have BK221 := n0_
      have BK224 := n1_
      have HB := n2_
      clear n0_ n1_ n2_
      refine start_ (n := 26) (S := fun w' => w'.cell? ⟨gb224, 0, none⟩ = some (.string ((rd_T45 l0_1 x21_2).f0)) ∧ w'.cell? ⟨gb224, 1, none⟩ = some (.int .i64 ((rd_T45 l0_1 x21_2).f1))) (ds := []) #[false, false, false, false, false, false, false, false, false, false, false, false, false, false, false, false, false, false, false, false, false, false, false, false, false, false] (by kernel_rfl) rfl rfl ⟨(blk_cell BK224.out 0).trans rfl, (blk_cell BK224.out 1).trans rfl⟩ (fun hHeld => ?_); refine with_tabW impl_isGoodBucket.tab6 impl_isGoodBucket.bits6 (fun HT_ HW_ => ?_)
      generalize w44.drew = w45 at BK221 BK224 HB hHeld ⊢
      refine pureS 0 26 HT_.out ?_
      refine takeS 1 27 HT_.out HW_.out hHeld (hr := by rintro w' ⟨s0, s1⟩; go_simp; with_reducible rfl) (h := ?_)
      refine one_ (i := 2) (N := some 28) #[true, true, true, false, false, false, false, false, false, false, false, false, false, false, false, false, false, false, false, false, false, false, false, false, false, false] rfl rfl (one_of HT_.out (by kernel_rfl)) (by decide) (fun K hK => ?_)
      refine goes_ Tryd.func47 (by kernel_rfl) rfl #[.string ((rd_T45 l0_1 x21_2).f0)] (by rfl) rfl rfl (by (try simp only [List.map_toArray, List.map_cons, List.map_nil]); first | done | rfl | (simp only [List.length_drop, List.length_take]; rfl)) ?_
      with_reducible refine (impl_isName.calls ((rd_T45 l0_1 x21_2).f0) true _ A14.out).mono ?_
      rintro e w46 ⟨rfl, hb⟩
      refine ⟨_, rfl, ?_⟩
      have n0_ := Ah (bb BK221 hb)
      have n1_ := Ah (bb BK224 hb)
      have n2_ := Ah (below_step (bs2 HB GE221 GE224) hb)
      clear BK221 BK224 HB
      have BK221 := n0_
      have BK224 := n1_
      have HB := n2_
      clear n0_ n1_ n2_
      (try clear hb)
      (try clear hb2)
      (try clear hk)
      (try clear hi)
      refine hK.out _ _ ⟨(blk_cell BK224.out 0).trans rfl, (blk_cell BK224.out 1).trans rfl⟩ (fun hHeld => ?_)
      clear hK K
      refine norm_ (a' := ?_) ?_ ?_
      rotate_left
      ·
       show Act.put _ (some 28) _ = _
       simp only [Act.put, List.setIfInBounds_toArray, List.set_cons_zero, List.set_cons_succ, i64_w, i32_w]
       rfl
      refine pureS 3 29 HT_.out ?_
      refine pureS 4 30 HT_.out ?_
      refine pureS 5 31 HT_.out ?_
      refine takeS 6 32 HT_.out HW_.out hHeld (hr := by rintro w' ⟨s0, s1⟩; go_simp; with_reducible rfl) (h := ?_)
      refine one_ (i := 7) (N := some 33) #[true, true, true, true, true, true, true, true, false, false, false, false, false, false, false, false, false, false, false, false, false, false, false, false, false, false] rfl rfl (one_of HT_.out (by kernel_rfl)) (by decide) (fun K hK => ?_)
      refine goes_ Tryd.func36 (by kernel_rfl) rfl #[.int .i64 ((rd_T45 l0_1 x21_2).f1), .int .i64 0, .int .i64 1000] (by rfl) rfl rfl (by (try simp only [List.map_toArray, List.map_cons, List.map_nil]); first | done | rfl | (simp only [List.length_drop, List.length_take]; rfl)) ?_
      with_reducible refine (impl_within.calls ((rd_T45 l0_1 x21_2).f1) 0 1000 false _ A16.out).mono ?_
      rintro e w' ⟨rfl, ⟨nd, rfl⟩⟩
      refine ⟨_, rfl, ?_⟩
      refine hK.out _ _ ⟨(blk_cell BK224.out 0).trans rfl, (blk_cell BK224.out 1).trans rfl⟩ (fun hHeld => ?_)
      clear hK K
      refine norm_ (a' := ?_) ?_ ?_
      rotate_left
      ·
       show Act.put _ (some 33) _ = _
       simp only [Act.put, List.setIfInBounds_toArray, List.set_cons_zero, List.set_cons_succ, i64_w, i32_w]
       rfl
      refine pureS 8 34 HT_.out ?_
      refine pureS 9 35 HT_.out ?_
      refine pureS 10 36 HT_.out ?_
      refine pureU 11 37 HT_.out ?_
      refine pureU 12 38 HT_.out ?_
      refine pureU 13 39 HT_.out ?_
      refine pureU 14 40 HT_.out ?_
      refine pureU 15 41 HT_.out ?_
      refine pureU 16 42 HT_.out ?_
      refine pureU 17 43 HT_.out ?_
      refine pureU 18 44 HT_.out ?_
      refine pureU 19 45 HT_.out ?_
      refine pureU 20 46 HT_.out ?_
      refine pureU 21 47 HT_.out ?_
      refine pureU 22 48 HT_.out ?_
      refine pureU 23 49 HT_.out ?_
      refine pureU 24 50 HT_.out ?_
      refine pureS 25 51 HT_.out ?_
      refine done_ (done_of HT_.out (by kernel_rfl)) ?_
      try go_wp2
      go_ret
      exact ⟨er, bs2 HB GE221 GE224⟩
     subst c17
     rw [if_pos rfl] at H
     by_cases c18 : x21_2 > 0
     rotate_left
     ·
      rw [if_neg c18] at H
      have c18b0 : decide (0 < x21_2) = false := decide_eq_false c18
      clear c18
      have H' := Ah H
      clear H
      have p223 : 0 ≤ (x21_2 : Int) := od
      have q223 : x21_2 < (l0_1.length : Int) := od
      obtain ⟨ad223, e223, hx223_0, hx223_1⟩ := at_T45 HR0_1.out x21_2 p223 q223
      cases e223
      replace hx223_0 := (HB.out.cell (World.block_lt_of_cell? w _ hx223_0)).trans hx223_0
      replace hx223_1 := (HB.out.cell (World.block_lt_of_cell? w _ hx223_1)).trans hx223_1
      replace p223 := eq_true p223
      replace q223 := eq_true q223
      try go_wp2_with (first | ((with_reducible refine gate_dst (N := 6) rfl ?_); (try (refine gate_guard (by rfl) ?_; dsimp only)); refine boxL 6 45 #[.string (⟨#[]⟩ : ByteArray), .int .i64 0] ?_; intro gb224 hg w35 BK224 hb; have GW224 := gw hg (bs1 HB GE221); have GE224 := gw hg (bs1 HB GE221); replace HB := Ah (below_step (bs1 HB GE221) hb); have NB221_224 := nn BK221 hg; have NB224_221 := nm BK221 hg; replace BK221 := nb BK221 hb; clear hb hg; have hnb36 := NB224_221.out; have hnc36 := NB221_224.out; obtain ⟨hcz37_0, hcz37_1⟩ := cz2 BK224; obtain ⟨hfz37_0, hfz37_1⟩ := fz2 BK224))
      have n0_ : Aside0 (((w35.setCell ⟨gb224, 0, none⟩ (.string ((rd_T45 l0_1 x21_2).f0))).setCell ⟨gb224, 1, none⟩ (.int .i64 ((rd_T45 l0_1 x21_2).f1))).heap[gb221]? = some (.cells #[.int .i64 a0_0, .slice (some ad223) l0_1.length c0_1] 43 (0, 0))) := ⟨bf BK221 NB221_224⟩
      have n1_ : Aside0 (((w35.setCell ⟨gb224, 0, none⟩ (.string ((rd_T45 l0_1 x21_2).f0))).setCell ⟨gb224, 1, none⟩ (.int .i64 ((rd_T45 l0_1 x21_2).f1))).heap[gb224]? = some (.cells #[.string ((rd_T45 l0_1 x21_2).f0), .int .i64 ((rd_T45 l0_1 x21_2).f1)] 45 (0, 0))) := ⟨by (with_reducible repeat (first | refine blk_drewN ?_ _ | refine blk_drew ?_ | refine blk_alloc ?_ _)); refine blk_put (cs := #[.string ((rd_T45 l0_1 x21_2).f0), .int .i64 0]) ?_ 1 _ rfl; (with_reducible repeat (first | refine blk_drewN ?_ _ | refine blk_drew ?_ | refine blk_alloc ?_ _)); refine blk_put (cs := #[.string (⟨#[]⟩ : ByteArray), .int .i64 0]) ?_ 0 _ rfl; (with_reducible repeat (first | refine blk_drewN ?_ _ | refine blk_drew ?_ | refine blk_alloc ?_ _)); exact BK224.out⟩
      have n2_ : Aside0 (Below w.heap.size w ((w35.setCell ⟨gb224, 0, none⟩ (.string ((rd_T45 l0_1 x21_2).f0))).setCell ⟨gb224, 1, none⟩ (.int .i64 ((rd_T45 l0_1 x21_2).f1)))) := ⟨bs2 HB GE221 GE224⟩
      (try clear BK221)
      (try clear BK224)
      (try clear HB)
      generalize ((w35.setCell ⟨gb224, 0, none⟩ (.string ((rd_T45 l0_1 x21_2).f0))).setCell ⟨gb224, 1, none⟩ (.int .i64 ((rd_T45 l0_1 x21_2).f1))) = w38 at n0_ n1_ n2_ ⊢
      have BK221 := n0_
      have BK224 := n1_
      have HB := n2_
      clear n0_ n1_ n2_
      have n0_ := Ah (blk_drew BK221.out)
      have n1_ := Ah (blk_drew BK224.out)
      have n2_ := Ah (below_drew1 HB.out)
      clear BK221 BK224 HB
      have BK221 := n0_
      have BK224 := n1_
      have HB := n2_
      clear n0_ n1_ n2_
      refine start_ (n := 26) (S := fun w' => w'.cell? ⟨gb224, 0, none⟩ = some (.string ((rd_T45 l0_1 x21_2).f0)) ∧ w'.cell? ⟨gb224, 1, none⟩ = some (.int .i64 ((rd_T45 l0_1 x21_2).f1))) (ds := []) #[false, false, false, false, false, false, false, false, false, false, false, false, false, false, false, false, false, false, false, false, false, false, false, false, false, false] (by kernel_rfl) rfl rfl ⟨(blk_cell BK224.out 0).trans rfl, (blk_cell BK224.out 1).trans rfl⟩ (fun hHeld => ?_); refine with_tabW impl_isGoodBucket.tab6 impl_isGoodBucket.bits6 (fun HT_ HW_ => ?_)
      generalize w38.drew = w39 at BK221 BK224 HB hHeld ⊢
      refine pureS 0 26 HT_.out ?_
      refine takeS 1 27 HT_.out HW_.out hHeld (hr := by rintro w' ⟨s0, s1⟩; go_simp; with_reducible rfl) (h := ?_)
      refine one_ (i := 2) (N := some 28) #[true, true, true, false, false, false, false, false, false, false, false, false, false, false, false, false, false, false, false, false, false, false, false, false, false, false] rfl rfl (one_of HT_.out (by kernel_rfl)) (by decide) (fun K hK => ?_)
      refine goes_ Tryd.func47 (by kernel_rfl) rfl #[.string ((rd_T45 l0_1 x21_2).f0)] (by rfl) rfl rfl (by (try simp only [List.map_toArray, List.map_cons, List.map_nil]); first | done | rfl | (simp only [List.length_drop, List.length_take]; rfl)) ?_
      with_reducible refine (impl_isName.calls ((rd_T45 l0_1 x21_2).f0) true _ A14.out).mono ?_
      rintro e w40 ⟨rfl, hb⟩
      refine ⟨_, rfl, ?_⟩
      have n0_ := Ah (bb BK221 hb)
      have n1_ := Ah (bb BK224 hb)
      have n2_ := Ah (below_step (bs2 HB GE221 GE224) hb)
      clear BK221 BK224 HB
      have BK221 := n0_
      have BK224 := n1_
      have HB := n2_
      clear n0_ n1_ n2_
      (try clear hb)
      (try clear hb2)
      (try clear hk)
      (try clear hi)
      refine hK.out _ _ ⟨(blk_cell BK224.out 0).trans rfl, (blk_cell BK224.out 1).trans rfl⟩ (fun hHeld => ?_)
      clear hK K
      refine norm_ (a' := ?_) ?_ ?_
      rotate_left
      ·
       show Act.put _ (some 28) _ = _
       simp only [Act.put, List.setIfInBounds_toArray, List.set_cons_zero, List.set_cons_succ, i64_w, i32_w]
       rfl
      refine pureS 3 29 HT_.out ?_
      refine pureS 4 30 HT_.out ?_
      refine pureS 5 31 HT_.out ?_
      refine takeS 6 32 HT_.out HW_.out hHeld (hr := by rintro w' ⟨s0, s1⟩; go_simp; with_reducible rfl) (h := ?_)
      refine one_ (i := 7) (N := some 33) #[true, true, true, true, true, true, true, true, false, false, false, false, false, false, false, false, false, false, false, false, false, false, false, false, false, false] rfl rfl (one_of HT_.out (by kernel_rfl)) (by decide) (fun K hK => ?_)
      refine goes_ Tryd.func36 (by kernel_rfl) rfl #[.int .i64 ((rd_T45 l0_1 x21_2).f1), .int .i64 0, .int .i64 1000] (by rfl) rfl rfl (by (try simp only [List.map_toArray, List.map_cons, List.map_nil]); first | done | rfl | (simp only [List.length_drop, List.length_take]; rfl)) ?_
      with_reducible refine (impl_within.calls ((rd_T45 l0_1 x21_2).f1) 0 1000 true _ A16.out).mono ?_
      rintro e w' ⟨rfl, ⟨nd, rfl⟩⟩
      refine ⟨_, rfl, ?_⟩
      refine hK.out _ _ ⟨(blk_cell BK224.out 0).trans rfl, (blk_cell BK224.out 1).trans rfl⟩ (fun hHeld => ?_)
      clear hK K
      refine norm_ (a' := ?_) ?_ ?_
      rotate_left
      ·
       show Act.put _ (some 33) _ = _
       simp only [Act.put, List.setIfInBounds_toArray, List.set_cons_zero, List.set_cons_succ, i64_w, i32_w]
       rfl
      refine pureS 8 34 HT_.out ?_
      refine pureS 9 35 HT_.out ?_
      refine pureS 10 36 HT_.out ?_
      refine pureS 11 37 HT_.out ?_
      refine pureS 12 38 HT_.out ?_
      refine pureS 13 39 HT_.out ?_
      refine pureU 14 40 HT_.out ?_
      refine pureU 15 41 HT_.out ?_
      refine pureU 16 42 HT_.out ?_
      refine pureU 17 43 HT_.out ?_
      refine pureU 18 44 HT_.out ?_
      refine pureU 19 45 HT_.out ?_
      refine pureU 20 46 HT_.out ?_
      refine pureU 21 47 HT_.out ?_
      refine pureU 22 48 HT_.out ?_
      refine pureU 23 49 HT_.out ?_
      refine pureS 24 50 HT_.out ?_
      refine pureS 25 51 HT_.out ?_
      refine done_ (done_of HT_.out (by kernel_rfl)) ?_
      try go_wp2
      go_roundg k2
      case measure => have := HJ2.out; have := HK2.out; omega
      case rel => exact ⟨(wrap64 (x21_2 + 1)), e3, H', ⟨by have := HJ2.out; have := HK2.out; omega⟩, ⟨bk BK221⟩, ⟨bs2 HB GE221 GE224⟩⟩
     rw [if_pos c18] at H
     have c18b0 : decide (0 < x21_2) = true := decide_eq_true c18
     clear c18
     obtain ⟨ji19, hji19⟩ : ∃ j_ : Int, (wrap64 (x21_2 - 1)) = j_ := ⟨_, rfl⟩
     replace H : (if 0 ≤ (ji19) then (if (ji19) < (l0_1.length : Int) then (if ((Op.bytesLess (((rd_T45 l0_1 (ji19)).f0).toList) (((rd_T45 l0_1 x21_2).f0).toList)) = true) then (impl_isGoodBucket.l0 k2 l0_1 (l0_1.length : Int) (wrap64 (x21_2 + 1)) a0_0 l0_1) else (some false)) else (none)) else (none)) = some r := by first | (rw [hji19] at H; exact H) | (simp only [hji19] at H ⊢; exact H)
     (try rw [hji19] at A14)
     (try rw [hji19] at A16)
     have hji19w : (IntKind.i64.wrap (x21_2 - 1)) = ji19 := (i64_w _).trans hji19
     by_cases c20 : 0 ≤ (ji19)
     rotate_left
     ·
      rw [if_neg c20] at H
      exact absurd H (by simp)
     rw [if_pos c20] at H
     have c20b0 : decide (0 ≤ (ji19)) = true := decide_eq_true c20
     clear c20
     by_cases c21 : (ji19) < (l0_1.length : Int)
     rotate_left
     ·
      rw [if_neg c21] at H
      exact absurd H (by simp)
     rw [if_pos c21] at H
     have c21b0 : decide ((ji19) < (l0_1.length : Int)) = true := decide_eq_true c21
     clear c21
     by_cases c22 : ((Op.bytesLess (((rd_T45 l0_1 (ji19)).f0).toList) (((rd_T45 l0_1 x21_2).f0).toList)) = true)
     rotate_left
     ·
      rw [if_neg c22] at H
      have c22b0 : (Op.bytesLess (((rd_T45 l0_1 (ji19)).f0).toList) (((rd_T45 l0_1 x21_2).f0).toList)) = false := by simpa using c22
      clear c22
      obtain rfl := Option.some.inj H
      have p223 : 0 ≤ (x21_2 : Int) := od
      have q223 : x21_2 < (l0_1.length : Int) := od
      obtain ⟨ad223, e223, hx223_0, hx223_1⟩ := at_T45 HR0_1.out x21_2 p223 q223
      cases e223
      replace hx223_0 := (HB.out.cell (World.block_lt_of_cell? w _ hx223_0)).trans hx223_0
      replace hx223_1 := (HB.out.cell (World.block_lt_of_cell? w _ hx223_1)).trans hx223_1
      replace p223 := eq_true p223
      replace q223 := eq_true q223
      try go_wp2_with (first | ((with_reducible refine gate_dst (N := 6) rfl ?_); (try (refine gate_guard (by rfl) ?_; dsimp only)); refine boxL 6 45 #[.string (⟨#[]⟩ : ByteArray), .int .i64 0] ?_; intro gb224 hg w29 BK224 hb; have GW224 := gw hg (bs1 HB GE221); have GE224 := gw hg (bs1 HB GE221); replace HB := Ah (below_step (bs1 HB GE221) hb); have NB221_224 := nn BK221 hg; have NB224_221 := nm BK221 hg; replace BK221 := nb BK221 hb; clear hb hg; have hnb30 := NB224_221.out; have hnc30 := NB221_224.out; obtain ⟨hcz31_0, hcz31_1⟩ := cz2 BK224; obtain ⟨hfz31_0, hfz31_1⟩ := fz2 BK224))
      have n0_ : Aside0 (((w29.setCell ⟨gb224, 0, none⟩ (.string ((rd_T45 l0_1 x21_2).f0))).setCell ⟨gb224, 1, none⟩ (.int .i64 ((rd_T45 l0_1 x21_2).f1))).heap[gb221]? = some (.cells #[.int .i64 a0_0, .slice (some ad223) l0_1.length c0_1] 43 (0, 0))) := ⟨bf BK221 NB221_224⟩
      have n1_ : Aside0 (((w29.setCell ⟨gb224, 0, none⟩ (.string ((rd_T45 l0_1 x21_2).f0))).setCell ⟨gb224, 1, none⟩ (.int .i64 ((rd_T45 l0_1 x21_2).f1))).heap[gb224]? = some (.cells #[.string ((rd_T45 l0_1 x21_2).f0), .int .i64 ((rd_T45 l0_1 x21_2).f1)] 45 (0, 0))) := ⟨by (with_reducible repeat (first | refine blk_drewN ?_ _ | refine blk_drew ?_ | refine blk_alloc ?_ _)); refine blk_put (cs := #[.string ((rd_T45 l0_1 x21_2).f0), .int .i64 0]) ?_ 1 _ rfl; (with_reducible repeat (first | refine blk_drewN ?_ _ | refine blk_drew ?_ | refine blk_alloc ?_ _)); refine blk_put (cs := #[.string (⟨#[]⟩ : ByteArray), .int .i64 0]) ?_ 0 _ rfl; (with_reducible repeat (first | refine blk_drewN ?_ _ | refine blk_drew ?_ | refine blk_alloc ?_ _)); exact BK224.out⟩
      have n2_ : Aside0 (Below w.heap.size w ((w29.setCell ⟨gb224, 0, none⟩ (.string ((rd_T45 l0_1 x21_2).f0))).setCell ⟨gb224, 1, none⟩ (.int .i64 ((rd_T45 l0_1 x21_2).f1)))) := ⟨bs2 HB GE221 GE224⟩
      (try clear BK221)
      (try clear BK224)
      (try clear HB)
      generalize ((w29.setCell ⟨gb224, 0, none⟩ (.string ((rd_T45 l0_1 x21_2).f0))).setCell ⟨gb224, 1, none⟩ (.int .i64 ((rd_T45 l0_1 x21_2).f1))) = w32 at n0_ n1_ n2_ ⊢
      have BK221 := n0_
      have BK224 := n1_
      have HB := n2_
      clear n0_ n1_ n2_
      have n0_ := Ah (blk_drew BK221.out)
      have n1_ := Ah (blk_drew BK224.out)
      have n2_ := Ah (below_drew1 HB.out)
      clear BK221 BK224 HB
      have BK221 := n0_
      have BK224 := n1_
      have HB := n2_
      clear n0_ n1_ n2_
      have p227 : 0 ≤ ((ji19) : Int) := od
      have q227 : (ji19) < (l0_1.length : Int) := od
      obtain ⟨ad227, e227, hx227_0, hx227_1⟩ := at_T45 HR0_1.out (ji19) p227 q227
      have hw227_1 := hx227_1
      have hw227_0 := hx227_0
      obtain rfl : ad223 = ad227 := (by injection e227)
      replace hx227_0 := (HB.out.cell (World.block_lt_of_cell? w _ hx227_0)).trans hx227_0
      replace hx227_1 := (HB.out.cell (World.block_lt_of_cell? w _ hx227_1)).trans hx227_1
      replace p227 := eq_true p227
      replace q227 := eq_true q227
      refine start_ (n := 26) (S := fun w' => w'.cell? ⟨gb224, 0, none⟩ = some (.string ((rd_T45 l0_1 x21_2).f0)) ∧ w'.cell? ⟨gb224, 1, none⟩ = some (.int .i64 ((rd_T45 l0_1 x21_2).f1)) ∧ w'.cell? ⟨gb221, 0, none⟩ = some (.int .i64 a0_0) ∧ w'.cell? ⟨gb221, 1, none⟩ = some (.slice (some ad223) l0_1.length c0_1) ∧ w'.cell? (ad223.add (((ji19)).toNat * 2)) = some (.string ((rd_T45 l0_1 (ji19)).f0)) ∧ w'.cell? ⟨(ad223.add (((ji19)).toNat * 2)).block, (ad223.add (((ji19)).toNat * 2)).off + 1, none⟩ = some (.int .i64 ((rd_T45 l0_1 (ji19)).f1))) (ds := []) #[false, false, false, false, false, false, false, false, false, false, false, false, false, false, false, false, false, false, false, false, false, false, false, false, false, false] (by kernel_rfl) rfl rfl ⟨(blk_cell BK224.out 0).trans rfl, (blk_cell BK224.out 1).trans rfl, (blk_cell BK221.out 0).trans rfl, (blk_cell BK221.out 1).trans rfl, ((HB.out.cell (World.block_lt_of_cell? w _ hw227_0)).trans hw227_0), ((HB.out.cell (World.block_lt_of_cell? w _ hw227_1)).trans hw227_1)⟩ (fun hHeld => ?_); refine with_tabW impl_isGoodBucket.tab6 impl_isGoodBucket.bits6 (fun HT_ HW_ => ?_)
      generalize w32.drew = w33 at BK221 BK224 HB hx227_0 hx227_1 hHeld ⊢
      refine pureS 0 26 HT_.out ?_
      refine takeS 1 27 HT_.out HW_.out hHeld (hr := by rintro w' ⟨s0, s1, s2, s3, s4, s5⟩; go_simp; with_reducible rfl) (h := ?_)
      refine one_ (i := 2) (N := some 28) #[true, true, true, false, false, false, false, false, false, false, false, false, false, false, false, false, false, false, false, false, false, false, false, false, false, false] rfl rfl (one_of HT_.out (by kernel_rfl)) (by decide) (fun K hK => ?_)
      refine goes_ Tryd.func47 (by kernel_rfl) rfl #[.string ((rd_T45 l0_1 x21_2).f0)] (by rfl) rfl rfl (by (try simp only [List.map_toArray, List.map_cons, List.map_nil]); first | done | rfl | (simp only [List.length_drop, List.length_take]; rfl)) ?_
      with_reducible refine (impl_isName.calls ((rd_T45 l0_1 x21_2).f0) true _ A14.out).mono ?_
      rintro e w34 ⟨rfl, hb⟩
      refine ⟨_, rfl, ?_⟩
      have n0_ := Ah (bb BK221 hb)
      have n1_ := Ah (bb BK224 hb)
      have n2_ := Ah (below_step (bs2 HB GE221 GE224) hb)
      clear BK221 BK224 HB
      have BK221 := n0_
      have BK224 := n1_
      have HB := n2_
      clear n0_ n1_ n2_
      (try clear hb)
      (try clear hb2)
      (try clear hk)
      (try clear hi)
      refine hK.out _ _ ⟨(blk_cell BK224.out 0).trans rfl, (blk_cell BK224.out 1).trans rfl, (blk_cell BK221.out 0).trans rfl, (blk_cell BK221.out 1).trans rfl, ((HB.out.cell (World.block_lt_of_cell? w _ hw227_0)).trans hw227_0), ((HB.out.cell (World.block_lt_of_cell? w _ hw227_1)).trans hw227_1)⟩ (fun hHeld => ?_)
      clear hK K
      refine norm_ (a' := ?_) ?_ ?_
      rotate_left
      ·
       show Act.put _ (some 28) _ = _
       simp only [Act.put, List.setIfInBounds_toArray, List.set_cons_zero, List.set_cons_succ, i64_w, i32_w]
       rfl
      refine pureS 3 29 HT_.out ?_
      refine pureS 4 30 HT_.out ?_
      refine pureS 5 31 HT_.out ?_
      refine takeS 6 32 HT_.out HW_.out hHeld (hr := by rintro w' ⟨s0, s1, s2, s3, s4, s5⟩; go_simp; with_reducible rfl) (h := ?_)
      refine one_ (i := 7) (N := some 33) #[true, true, true, true, true, true, true, true, false, false, false, false, false, false, false, false, false, false, false, false, false, false, false, false, false, false] rfl rfl (one_of HT_.out (by kernel_rfl)) (by decide) (fun K hK => ?_)
      refine goes_ Tryd.func36 (by kernel_rfl) rfl #[.int .i64 ((rd_T45 l0_1 x21_2).f1), .int .i64 0, .int .i64 1000] (by rfl) rfl rfl (by (try simp only [List.map_toArray, List.map_cons, List.map_nil]); first | done | rfl | (simp only [List.length_drop, List.length_take]; rfl)) ?_
      with_reducible refine (impl_within.calls ((rd_T45 l0_1 x21_2).f1) 0 1000 true _ A16.out).mono ?_
      rintro e w' ⟨rfl, ⟨nd, rfl⟩⟩
      refine ⟨_, rfl, ?_⟩
      refine hK.out _ _ ⟨(blk_cell BK224.out 0).trans rfl, (blk_cell BK224.out 1).trans rfl, (blk_cell BK221.out 0).trans rfl, (blk_cell BK221.out 1).trans rfl, ((HB.out.cell (World.block_lt_of_cell? w _ hw227_0)).trans hw227_0), ((HB.out.cell (World.block_lt_of_cell? w _ hw227_1)).trans hw227_1)⟩ (fun hHeld => ?_)
      clear hK K
      refine norm_ (a' := ?_) ?_ ?_
      rotate_left
      ·
       show Act.put _ (some 33) _ = _
       simp only [Act.put, List.setIfInBounds_toArray, List.set_cons_zero, List.set_cons_succ, i64_w, i32_w]
       rfl
      refine pureS 8 34 HT_.out ?_
      refine pureS 9 35 HT_.out ?_
      refine pureS 10 36 HT_.out ?_
      refine pureS 11 37 HT_.out ?_
      refine pureS 12 38 HT_.out ?_
      refine pureS 13 39 HT_.out ?_
      refine pureS 14 40 HT_.out ?_
      refine pureS 16 42 HT_.out ?_
      refine pureS 18 44 HT_.out ?_
      refine pureS 19 45 HT_.out ?_
      refine takeS 15 41 HT_.out HW_.out hHeld (hr := by rintro w' ⟨s0, s1, s2, s3, s4, s5⟩; go_simp; with_reducible rfl) (h := ?_)
      refine takeS 17 43 HT_.out HW_.out hHeld (hr := by rintro w' ⟨s0, s1, s2, s3, s4, s5⟩; go_simp; with_reducible rfl) (h := ?_)
      refine pureS 20 46 HT_.out ?_
      refine pureS 21 47 HT_.out ?_
      refine takeS 22 48 HT_.out HW_.out hHeld (hr := by rintro w' ⟨s0, s1, s2, s3, s4, s5⟩; go_simp; with_reducible rfl) (h := ?_)
      refine pureS 23 49 HT_.out ?_
      refine pureS 24 50 HT_.out ?_
      refine pureS 25 51 HT_.out ?_
      refine done_ (done_of HT_.out (by kernel_rfl)) ?_
      try go_wp2
      go_ret
      exact ⟨by first | rfl | (simp [errW_none, errW_some] <;> rfl) | (simp only [← hji19]; first | rfl | (simp [errW_none, errW_some] <;> rfl)) | (simp [*, errW_none, errW_some] <;> rfl), bs2 HB GE221 GE224⟩
     rw [if_pos c22] at H
     have c22b0 : (Op.bytesLess (((rd_T45 l0_1 (ji19)).f0).toList) (((rd_T45 l0_1 x21_2).f0).toList)) = true := c22
     clear c22
     have H' := Ah H
     clear H
     have p223 : 0 ≤ (x21_2 : Int) := od
     have q223 : x21_2 < (l0_1.length : Int) := od
     obtain ⟨ad223, e223, hx223_0, hx223_1⟩ := at_T45 HR0_1.out x21_2 p223 q223
     cases e223
     replace hx223_0 := (HB.out.cell (World.block_lt_of_cell? w _ hx223_0)).trans hx223_0
     replace hx223_1 := (HB.out.cell (World.block_lt_of_cell? w _ hx223_1)).trans hx223_1
     replace p223 := eq_true p223
     replace q223 := eq_true q223
     try go_wp2_with (first | ((with_reducible refine gate_dst (N := 6) rfl ?_); (try (refine gate_guard (by rfl) ?_; dsimp only)); refine boxL 6 45 #[.string (⟨#[]⟩ : ByteArray), .int .i64 0] ?_; intro gb224 hg w23 BK224 hb; have GW224 := gw hg (bs1 HB GE221); have GE224 := gw hg (bs1 HB GE221); replace HB := Ah (below_step (bs1 HB GE221) hb); have NB221_224 := nn BK221 hg; have NB224_221 := nm BK221 hg; replace BK221 := nb BK221 hb; clear hb hg; have hnb24 := NB224_221.out; have hnc24 := NB221_224.out; obtain ⟨hcz25_0, hcz25_1⟩ := cz2 BK224; obtain ⟨hfz25_0, hfz25_1⟩ := fz2 BK224))
     have n0_ : Aside0 (((w23.setCell ⟨gb224, 0, none⟩ (.string ((rd_T45 l0_1 x21_2).f0))).setCell ⟨gb224, 1, none⟩ (.int .i64 ((rd_T45 l0_1 x21_2).f1))).heap[gb221]? = some (.cells #[.int .i64 a0_0, .slice (some ad223) l0_1.length c0_1] 43 (0, 0))) := ⟨bf BK221 NB221_224⟩
     have n1_ : Aside0 (((w23.setCell ⟨gb224, 0, none⟩ (.string ((rd_T45 l0_1 x21_2).f0))).setCell ⟨gb224, 1, none⟩ (.int .i64 ((rd_T45 l0_1 x21_2).f1))).heap[gb224]? = some (.cells #[.string ((rd_T45 l0_1 x21_2).f0), .int .i64 ((rd_T45 l0_1 x21_2).f1)] 45 (0, 0))) := ⟨by (with_reducible repeat (first | refine blk_drewN ?_ _ | refine blk_drew ?_ | refine blk_alloc ?_ _)); refine blk_put (cs := #[.string ((rd_T45 l0_1 x21_2).f0), .int .i64 0]) ?_ 1 _ rfl; (with_reducible repeat (first | refine blk_drewN ?_ _ | refine blk_drew ?_ | refine blk_alloc ?_ _)); refine blk_put (cs := #[.string (⟨#[]⟩ : ByteArray), .int .i64 0]) ?_ 0 _ rfl; (with_reducible repeat (first | refine blk_drewN ?_ _ | refine blk_drew ?_ | refine blk_alloc ?_ _)); exact BK224.out⟩
     have n2_ : Aside0 (Below w.heap.size w ((w23.setCell ⟨gb224, 0, none⟩ (.string ((rd_T45 l0_1 x21_2).f0))).setCell ⟨gb224, 1, none⟩ (.int .i64 ((rd_T45 l0_1 x21_2).f1)))) := ⟨bs2 HB GE221 GE224⟩
     (try clear BK221)
     (try clear BK224)
     (try clear HB)
     generalize ((w23.setCell ⟨gb224, 0, none⟩ (.string ((rd_T45 l0_1 x21_2).f0))).setCell ⟨gb224, 1, none⟩ (.int .i64 ((rd_T45 l0_1 x21_2).f1))) = w26 at n0_ n1_ n2_ ⊢
     have BK221 := n0_
     have BK224 := n1_
     have HB := n2_
     clear n0_ n1_ n2_
     have n0_ := Ah (blk_drew BK221.out)
     have n1_ := Ah (blk_drew BK224.out)
     have n2_ := Ah (below_drew1 HB.out)
     clear BK221 BK224 HB
     have BK221 := n0_
     have BK224 := n1_
     have HB := n2_
     clear n0_ n1_ n2_
     have p227 : 0 ≤ ((ji19) : Int) := od
     have q227 : (ji19) < (l0_1.length : Int) := od
     obtain ⟨ad227, e227, hx227_0, hx227_1⟩ := at_T45 HR0_1.out (ji19) p227 q227
     have hw227_1 := hx227_1
     have hw227_0 := hx227_0
     obtain rfl : ad223 = ad227 := (by injection e227)
     replace hx227_0 := (HB.out.cell (World.block_lt_of_cell? w _ hx227_0)).trans hx227_0
     replace hx227_1 := (HB.out.cell (World.block_lt_of_cell? w _ hx227_1)).trans hx227_1
     replace p227 := eq_true p227
     replace q227 := eq_true q227
     refine start_ (n := 26) (S := fun w' => w'.cell? ⟨gb224, 0, none⟩ = some (.string ((rd_T45 l0_1 x21_2).f0)) ∧ w'.cell? ⟨gb224, 1, none⟩ = some (.int .i64 ((rd_T45 l0_1 x21_2).f1)) ∧ w'.cell? ⟨gb221, 0, none⟩ = some (.int .i64 a0_0) ∧ w'.cell? ⟨gb221, 1, none⟩ = some (.slice (some ad223) l0_1.length c0_1) ∧ w'.cell? (ad223.add (((ji19)).toNat * 2)) = some (.string ((rd_T45 l0_1 (ji19)).f0)) ∧ w'.cell? ⟨(ad223.add (((ji19)).toNat * 2)).block, (ad223.add (((ji19)).toNat * 2)).off + 1, none⟩ = some (.int .i64 ((rd_T45 l0_1 (ji19)).f1))) (ds := []) #[false, false, false, false, false, false, false, false, false, false, false, false, false, false, false, false, false, false, false, false, false, false, false, false, false, false] (by kernel_rfl) rfl rfl ⟨(blk_cell BK224.out 0).trans rfl, (blk_cell BK224.out 1).trans rfl, (blk_cell BK221.out 0).trans rfl, (blk_cell BK221.out 1).trans rfl, ((HB.out.cell (World.block_lt_of_cell? w _ hw227_0)).trans hw227_0), ((HB.out.cell (World.block_lt_of_cell? w _ hw227_1)).trans hw227_1)⟩ (fun hHeld => ?_); refine with_tabW impl_isGoodBucket.tab6 impl_isGoodBucket.bits6 (fun HT_ HW_ => ?_)
     generalize w26.drew = w27 at BK221 BK224 HB hx227_0 hx227_1 hHeld ⊢
     refine pureS 0 26 HT_.out ?_
     refine takeS 1 27 HT_.out HW_.out hHeld (hr := by rintro w' ⟨s0, s1, s2, s3, s4, s5⟩; go_simp; with_reducible rfl) (h := ?_)
     refine one_ (i := 2) (N := some 28) #[true, true, true, false, false, false, false, false, false, false, false, false, false, false, false, false, false, false, false, false, false, false, false, false, false, false] rfl rfl (one_of HT_.out (by kernel_rfl)) (by decide) (fun K hK => ?_)
     refine goes_ Tryd.func47 (by kernel_rfl) rfl #[.string ((rd_T45 l0_1 x21_2).f0)] (by rfl) rfl rfl (by (try simp only [List.map_toArray, List.map_cons, List.map_nil]); first | done | rfl | (simp only [List.length_drop, List.length_take]; rfl)) ?_
     with_reducible refine (impl_isName.calls ((rd_T45 l0_1 x21_2).f0) true _ A14.out).mono ?_
     rintro e w28 ⟨rfl, hb⟩
     refine ⟨_, rfl, ?_⟩
     have n0_ := Ah (bb BK221 hb)
     have n1_ := Ah (bb BK224 hb)
     have n2_ := Ah (below_step (bs2 HB GE221 GE224) hb)
     clear BK221 BK224 HB
     have BK221 := n0_
     have BK224 := n1_
     have HB := n2_
     clear n0_ n1_ n2_
     (try clear hb)
     (try clear hb2)
     (try clear hk)
     (try clear hi)
     refine hK.out _ _ ⟨(blk_cell BK224.out 0).trans rfl, (blk_cell BK224.out 1).trans rfl, (blk_cell BK221.out 0).trans rfl, (blk_cell BK221.out 1).trans rfl, ((HB.out.cell (World.block_lt_of_cell? w _ hw227_0)).trans hw227_0), ((HB.out.cell (World.block_lt_of_cell? w _ hw227_1)).trans hw227_1)⟩ (fun hHeld => ?_)
     clear hK K
     refine norm_ (a' := ?_) ?_ ?_
     rotate_left
     ·
      show Act.put _ (some 28) _ = _
      simp only [Act.put, List.setIfInBounds_toArray, List.set_cons_zero, List.set_cons_succ, i64_w, i32_w]
      rfl
     refine pureS 3 29 HT_.out ?_
     refine pureS 4 30 HT_.out ?_
     refine pureS 5 31 HT_.out ?_
     refine takeS 6 32 HT_.out HW_.out hHeld (hr := by rintro w' ⟨s0, s1, s2, s3, s4, s5⟩; go_simp; with_reducible rfl) (h := ?_)
     refine one_ (i := 7) (N := some 33) #[true, true, true, true, true, true, true, true, false, false, false, false, false, false, false, false, false, false, false, false, false, false, false, false, false, false] rfl rfl (one_of HT_.out (by kernel_rfl)) (by decide) (fun K hK => ?_)
     refine goes_ Tryd.func36 (by kernel_rfl) rfl #[.int .i64 ((rd_T45 l0_1 x21_2).f1), .int .i64 0, .int .i64 1000] (by rfl) rfl rfl (by (try simp only [List.map_toArray, List.map_cons, List.map_nil]); first | done | rfl | (simp only [List.length_drop, List.length_take]; rfl)) ?_
     with_reducible refine (impl_within.calls ((rd_T45 l0_1 x21_2).f1) 0 1000 true _ A16.out).mono ?_
     rintro e w' ⟨rfl, ⟨nd, rfl⟩⟩
     refine ⟨_, rfl, ?_⟩
     refine hK.out _ _ ⟨(blk_cell BK224.out 0).trans rfl, (blk_cell BK224.out 1).trans rfl, (blk_cell BK221.out 0).trans rfl, (blk_cell BK221.out 1).trans rfl, ((HB.out.cell (World.block_lt_of_cell? w _ hw227_0)).trans hw227_0), ((HB.out.cell (World.block_lt_of_cell? w _ hw227_1)).trans hw227_1)⟩ (fun hHeld => ?_)
     clear hK K
     refine norm_ (a' := ?_) ?_ ?_
     rotate_left
     ·
      show Act.put _ (some 33) _ = _
      simp only [Act.put, List.setIfInBounds_toArray, List.set_cons_zero, List.set_cons_succ, i64_w, i32_w]
      rfl
     refine pureS 8 34 HT_.out ?_
     refine pureS 9 35 HT_.out ?_
     refine pureS 10 36 HT_.out ?_
     refine pureS 11 37 HT_.out ?_
     refine pureS 12 38 HT_.out ?_
     refine pureS 13 39 HT_.out ?_
     refine pureS 14 40 HT_.out ?_
     refine pureS 16 42 HT_.out ?_
     refine pureS 18 44 HT_.out ?_
     refine pureS 19 45 HT_.out ?_
     refine takeS 15 41 HT_.out HW_.out hHeld (hr := by rintro w' ⟨s0, s1, s2, s3, s4, s5⟩; go_simp; with_reducible rfl) (h := ?_)
     refine takeS 17 43 HT_.out HW_.out hHeld (hr := by rintro w' ⟨s0, s1, s2, s3, s4, s5⟩; go_simp; with_reducible rfl) (h := ?_)
     refine pureS 20 46 HT_.out ?_
     refine pureS 21 47 HT_.out ?_
     refine takeS 22 48 HT_.out HW_.out hHeld (hr := by rintro w' ⟨s0, s1, s2, s3, s4, s5⟩; go_simp; with_reducible rfl) (h := ?_)
     refine pureS 23 49 HT_.out ?_
     refine pureS 24 50 HT_.out ?_
     refine pureS 25 51 HT_.out ?_
     refine done_ (done_of HT_.out (by kernel_rfl)) ?_
     try go_wp2
     go_roundg k2
     case measure => have := HJ2.out; have := HK2.out; omega
     case rel => exact ⟨(wrap64 (x21_2 + 1)), e3, H', ⟨by have := HJ2.out; have := HK2.out; omega⟩, ⟨bk BK221⟩, ⟨bs2 HB GE221 GE224⟩⟩

end Go.Proofs.YtggkhamidkmjpaaDoor.G
