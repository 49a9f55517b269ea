-- Printed by a program of this session (drive.py, by way of the kit's print). Not trusted: Lean checks it.
import Derived.Test.YtcdkgenfggdpaaaG0
import Derived.Test.YtcdkgenfggdpaaaG9
namespace Go.Proofs.Ytcdkgenfggdpaaa.G
open Go.RowKit Go.Proofs.YtcdkgenfggdpaaaW.PrintWords Go.Proofs.YtcdkgenfggdpaaaW.PrintLast Go.Proofs.YtcdkgenfggdpaaaW.PrintMore
attribute [local go_sem] max2_int min2_int max_two min_two max_three min_three max_four min_four   -- for this text's walks alone
set_option linter.unusedVariables false
set_option linter.unusedSimpArgs false

/-! ### impl_all: function 90 -/
def impl_all.f (a0 : Int) : Option (Bool) := some true
set_option maxHeartbeats 8000000 in
set_option maxRecDepth 100000 in
theorem impl_all.calls (a0 : Int) (r : Bool) (w : World) (h : impl_all.f a0 = some r) :
  Calls Try.prog 90 #[.int .i64 a0] w fun e w' => e = .returned (.bool r) ∧ Drawn0 w w' := by
 have H : (some true) = some r := h
 clear h
 obtain rfl := Option.some.inj H
 go_enter Try.func90, Try.ntmps90
 go_wp2
 go_ret
 exact ⟨by first | rfl | (simp; done) | (simp [*]; done), by repeat (first | exact Drawn0.refl _ | apply Drawn0.step)⟩

/-! ### impl_performed_at_impl_all: function 89 -/
def impl_performed_at_impl_all.l0 : Nat → List ByteArray → List (S72) → Int → Int → Option (List ByteArray)
 | 0, _, _, _, _ => none
 | k + 1, x5, x12, x13, x14 => if x14 < x13 then (if 0 ≤ x14 then (if x14 < (x12.length : Int) then ((impl_all.f x14).bind fun t481 => (if t481 = true then (if 0 ≤ ((rd_T72 x12 x14).f0) then (if ((rd_T72 x12 x14).f0) < (x5.length : Int) then (impl_performed_at_impl_all.l0 k (x5.set (((rd_T72 x12 x14).f0) : Int).toNat ((rd_T72 x12 x14).f1)) x12 x13 (wrap64 (x14 + 1))) else (none)) else (none)) else (impl_performed_at_impl_all.l0 k x5 x12 x13 (wrap64 (x14 + 1))))) else (none)) else (none)) else (some x5)
def impl_performed_at_impl_all.f (k : Nat) (l0_0 : List ByteArray) (l0_1 : List (S72))  : Option (List ByteArray) := (slices_Clone_string_string.f l0_0).bind fun t476 => (impl_performed_at_impl_all.l0 k t476 l0_1 (l0_1.length : Int) 0)
theorem impl_performed_at_impl_all.mono_l : ∀ k, (∀ y0 y1 y2 y3, LeO (impl_performed_at_impl_all.l0 k y0 y1 y2 y3) (impl_performed_at_impl_all.l0 (k + 1) y0 y1 y2 y3))
 | 0 => fun _ _ _ _ r h => by simp [impl_performed_at_impl_all.l0] at h
 | k + 1 => by
  have ih0 := impl_performed_at_impl_all.mono_l k
  ·
   intro y0 y1 y2 y3
   unfold impl_performed_at_impl_all.l0
   repeat' first
   | (with_reducible exact ih0 _ _ _ _)
   | (with_reducible exact LeO.refl _)
   | (with_reducible exact LeO.none _)
   | (with_reducible refine LeO.ite ?_ ?_)
   | (with_reducible refine LeO.bind ?_ (fun _ => ?_))
   | exact ih0 _ _ _ _
   | exact LeO.none _
   | refine LeO.ite ?_ ?_
   | refine LeO.bind ?_ (fun _ => ?_)
theorem impl_performed_at_impl_all.mono : ∀ a0 a1 k, LeO (impl_performed_at_impl_all.f k a0 a1) (impl_performed_at_impl_all.f (k + 1) a0 a1) := by
 intro a0 a1 k
 have ih0 := impl_performed_at_impl_all.mono_l k
 unfold impl_performed_at_impl_all.f
 repeat' first
   | (with_reducible exact ih0 _ _ _ _)
   | (with_reducible exact LeO.refl _)
   | (with_reducible exact LeO.none _)
   | (with_reducible refine LeO.ite ?_ ?_)
   | (with_reducible refine LeO.bind ?_ (fun _ => ?_))
   | exact ih0 _ _ _ _
   | exact LeO.none _
   | refine LeO.ite ?_ ?_
   | refine LeO.bind ?_ (fun _ => ?_)
set_option maxHeartbeats 8000000 in
set_option maxRecDepth 100000 in
theorem impl_performed_at_impl_all.calls (k : Nat) (A0_0 : Option Addr) (c0_0 : Nat) (l0_0 : List ByteArray) (A0_1 : Option Addr) (c0_1 : Nat) (l0_1 : List (S72))  (r : List ByteArray) (w : World) (hr0_0 : Kd.C Kd.string w A0_0 l0_0.length l0_0) (hc0_0 : l0_0.length ≤ c0_0) (hr0_1 : Kd.C k72 w A0_1 l0_1.length l0_1) (hc0_1 : l0_1.length ≤ c0_1) (h : impl_performed_at_impl_all.f k l0_0 l0_1 = some r) :
  Calls Try.prog 89 #[.agg #[.slice A0_0 l0_0.length c0_0, .slice A0_1 l0_1.length c0_1], .func (.func 90) #[] #[]] w fun e w' => ∃ v0_ : Value, e = .returned (v0_) ∧ Kd.R Kd.string 9 w' w.heap.size (fun _ => True) v0_ r ∧ Below w.heap.size w w' := by
 have hu42 := Try.underlying42
 have hu72 := Try.underlying72
 have HR0_0 := Aside0.mk hr0_0
 have HC0_0 := Aside0.mk hc0_0
 clear hr0_0 hc0_0
 have HR0_1 := Aside0.mk hr0_1
 have HC0_1 := Aside0.mk hc0_1
 clear hr0_1 hc0_1
 have HB := Aside0.mk (Below.refl w.heap.size w)
 have H : ((slices_Clone_string_string.f l0_0).bind fun t476 => (impl_performed_at_impl_all.l0 k t476 l0_1 (l0_1.length : Int) 0)) = some r := h
 clear h
 replace H := Option.bind_eq_some_iff.mp H
 obtain ⟨t476, A30, H⟩ := H
 replace H : (impl_performed_at_impl_all.l0 k t476 l0_1 (l0_1.length : Int) 0) = some r := H
 have A3 := Aside0.mk A30
 clear A30
 have H' := Aside0.mk H
 clear H
 go_enter Try.func89, Try.ntmps89
 go_wp2_with (first | ((with_reducible refine gate_dst (N := 2) rfl ?_); refine box_event ?hg (N := 2) ?hd (cs := #[.slice A0_0 l0_0.length c0_0, .slice A0_1 l0_1.length c0_1]) (t := 42) ?hr ?_; (case hd => rfl); (case hg => rfl); (case hr => first | (go_simp; done) | (go_simp; rfl)); intro gb475 hg w4 hbox hb; have BK475 := Aside0.mk (hbox); have GW475 := Aside0.mk ((by rw [hg]; exact (below_size (bs HB)) : w.heap.size ≤ gb475)); have GE475 := Aside0.mk ((by rw [hg]; exact (below_size (bs HB)) : w.heap.size ≤ gb475)); replace HB := Aside0.mk (below_step (bs HB) hb); clear hb hbox hg; obtain ⟨hcz5_0, hcz5_1⟩ := cz2 BK475; obtain ⟨hfz5_0, hfz5_1⟩ := fz2 BK475) | ((with_reducible refine gate_callee (f := 97) rfl ?_); refine gL (some 10) rfl rfl Try.func97 (by kernel_rfl) rfl #[.slice A0_0 l0_0.length c0_0] rfl ?_; (with_reducible refine (slices_Clone_string_string.calls _ _ l0_0 t476 _ ?side1 ?side2 A3.out).mono ?_); (case side1 => exact cb HR0_0 HB); (case side2 => exact HC0_0.out); rintro e w6 ⟨v477, rfl, ho0, hb⟩; refine ⟨_, rfl, ?_⟩; have HO478 := Aside0.mk (Kd.R_lower ho0 (below_size (bs1 HB GE475))); replace BK475 := nb BK475 hb; replace HB := Aside0.mk (below_step (bs1 HB GE475) hb); (try clear hb); (try clear hb2); (try clear hk); (try clear hi); (try clear ho0); obtain ⟨hcz7_0, hcz7_1⟩ := cz2 BK475; obtain ⟨hfz7_0, hfz7_1⟩ := fz2 BK475))
 go_loopg [14] k (fun kq v14 w' => ∃ (x5_1 : List ByteArray) (x14_1 : Int), v14 = .int .i64 x14_1 ∧ Aside0 (impl_performed_at_impl_all.l0 kq x5_1 l0_1 (l0_1.length : Int) x14_1 = some r) ∧ Aside0 (kq ≤ k) ∧ Aside0 (Kd.R Kd.string 9 w' w.heap.size (fun _ => True) v477 x5_1) ∧ Aside0 (w'.heap[gb475]? = some (.cells #[(.slice A0_0 l0_0.length c0_0), (.slice A0_1 l0_1.length c0_1)] 42 (0, 0))) ∧ Aside0 (Below w.heap.size w w'))
 case atStart => exact ⟨(t476), (0), (by first | rfl | (simp; done) | (simp [*]; done)), H', ⟨Nat.le_refl _⟩, ⟨rr HO478.out⟩, ⟨bk BK475⟩, ⟨bs1 HB GE475⟩⟩
 case round =>
  clear H'
  try clear p2
  try clear hcz5_0 hcz5_1
  try clear hcz7_0 hcz7_1
  try clear hfz5_0 hfz5_1
  try clear hfz7_0 hfz7_1
  obtain ⟨x5_1, x14_1, rfl, HA, HK1, HO_5, BK475, HB⟩ := hrel
  cases gk with
  | zero => exact absurd HA.out (by simp [impl_performed_at_impl_all.l0])
  | succ k1 =>
   have H := HA.out
   clear HA
   simp only [impl_performed_at_impl_all.l0] at H
   by_cases c8 : x14_1 < (l0_1.length : Int)
   ·
    rw [if_pos c8] at H
    have c8b0 : decide (x14_1 < (l0_1.length : Int)) = true := decide_eq_true c8
    clear c8
    by_cases c9 : 0 ≤ x14_1
    ·
     rw [if_pos c9] at H
     have c9b0 : decide (0 ≤ x14_1) = true := decide_eq_true c9
     clear c9
     by_cases c10 : x14_1 < (l0_1.length : Int)
     ·
      rw [if_pos c10] at H
      have c10b0 : decide (x14_1 < (l0_1.length : Int)) = true := decide_eq_true c10
      clear c10
      replace H := Option.bind_eq_some_iff.mp H
      obtain ⟨t481, A110, H⟩ := H
      replace H : (if t481 = true then (if 0 ≤ ((rd_T72 l0_1 x14_1).f0) then (if ((rd_T72 l0_1 x14_1).f0) < (x5_1.length : Int) then (impl_performed_at_impl_all.l0 k1 (x5_1.set (((rd_T72 l0_1 x14_1).f0) : Int).toNat ((rd_T72 l0_1 x14_1).f1)) l0_1 (l0_1.length : Int) (wrap64 (x14_1 + 1))) else (none)) else (none)) else (impl_performed_at_impl_all.l0 k1 x5_1 l0_1 (l0_1.length : Int) (wrap64 (x14_1 + 1)))) = some r := H
      have A11 := Aside0.mk A110
      clear A110
      by_cases c12 : t481 = true
      ·
       subst c12
       rw [if_pos rfl] at H
       by_cases c13 : 0 ≤ ((rd_T72 l0_1 x14_1).f0)
       ·
        rw [if_pos c13] at H
        have c13b0 : decide (0 ≤ ((rd_T72 l0_1 x14_1).f0)) = true := decide_eq_true c13
        clear c13
        by_cases c14 : ((rd_T72 l0_1 x14_1).f0) < (x5_1.length : Int)
        ·
         rw [if_pos c14] at H
         have c14b0 : decide (((rd_T72 l0_1 x14_1).f0) < (x5_1.length : Int)) = true := decide_eq_true c14
         clear c14
         obtain ⟨y482, hy482⟩ : ∃ y_ : List ByteArray, y_ = (x5_1.set (((rd_T72 l0_1 x14_1).f0) : Int).toNat ((rd_T72 l0_1 x14_1).f1)) := ⟨_, rfl⟩
         replace H : (impl_performed_at_impl_all.l0 k1 y482 l0_1 (l0_1.length : Int) (wrap64 (x14_1 + 1))) = some r := by first | (rw [hy482]; with_reducible exact H) | (have H2_ := (Option.bind_some _ _).symm.trans H; rw [hy482]; with_reducible exact H2_) | (have H2_ := (Option.bind_some _ _).symm.trans H; with_reducible exact H2_) | with_reducible exact H | (rw [hy482]; exact H) | exact H
         have Ny482 := Aside0.mk hy482
         clear hy482
         have H' := Aside0.mk H
         clear H
         have p479 : 0 ≤ (x14_1 : Int) := of_decide_eq_true (by first | (with_reducible assumption) | assumption)
         have q479 : x14_1 < (l0_1.length : Int) := of_decide_eq_true (by first | (with_reducible assumption) | assumption)
         obtain ⟨ad479, e479, hx479_0, hx479_1⟩ := at_T72 HR0_1.out x14_1 p479 q479
         cases e479
         replace hx479_0 := (HB.out.cell (World.block_lt_of_cell? w _ hx479_0)).trans hx479_0
         replace hx479_1 := (HB.out.cell (World.block_lt_of_cell? w _ hx479_1)).trans hx479_1
         replace p479 := eq_true p479
         replace q479 := eq_true q479
         go_wp2_with (first | ((with_reducible refine gate_dst (N := 7) rfl ?_); refine box_event ?hg (N := 7) ?hd (cs := #[.int .i64 0, .string (⟨#[]⟩ : ByteArray)]) (t := 72) ?hr ?_; (case hd => rfl); (case hg => rfl); (case hr => first | (go_simp; done) | (go_simp; rfl)); intro gb480 hg w16 hbox hb; replace HO_5 := nr HO_5 hb; have BK480 := Aside0.mk (hbox); have GW480 := Aside0.mk ((by rw [hg]; exact (below_size (bs1 HB GE475)) : w.heap.size ≤ gb480)); have GE480 := Aside0.mk ((by rw [hg]; exact (below_size (bs1 HB GE475)) : w.heap.size ≤ gb480)); replace HB := Aside0.mk (below_step (bs1 HB GE475) hb); have NB475_480 := Aside0.mk ((bn BK475 hg : gb475 ≠ gb480)); have NB480_475 := Aside0.mk ((bm BK475 hg : gb480 ≠ gb475)); replace BK475 := nb BK475 hb; clear hb hbox hg; have hnb17 := NB480_475.out; have hnc17 := NB475_480.out; obtain ⟨hcz18_0, hcz18_1⟩ := cz2 BK480; obtain ⟨hfz18_0, hfz18_1⟩ := fz2 BK480) | ((with_reducible refine gate_store (t := 72) (p := 7) rfl ?_); refine store_event (t := 72) (p := 7) (v := ?vo_w19) (w1 := ((w16.setCell ⟨gb480, 0, none⟩ (.int .i64 ((rd_T72 l0_1 x14_1).f0))).setCell ⟨gb480, 1, none⟩ (.string ((rd_T72 l0_1 x14_1).f1)))) ?hg ?ho ?hn ?hr ?_; (case ho => rfl); (case hg => rfl); (case hn => rfl); (case hr => first | (go_simp; done) | (go_simp; rfl)); intro w19 hw; have n0_ : Aside0 (Kd.R Kd.string 9 w19 w.heap.size (fun _ => True) v477 x5_1) := ⟨(by rw [hw]; exact (by (with_reducible repeat (first | apply Kd.R_alloc | apply Kd.R_drewN | apply Kd.R_drew)); exact Kd.R_mono (Kd.R_far (p := ⟨gb480, 1, none⟩) (Kd.R_far (p := ⟨gb480, 0, none⟩) (Kd.R_types HO_5.out BK480.out (by decide)) (fun _ hk => hk.2) (.int .i64 ((rd_T72 l0_1 x14_1).f0))) (fun _ hk => hk.2) (.string ((rd_T72 l0_1 x14_1).f1))) (fun _ hk => trivial)))⟩; have n1_ : Aside0 (w19.heap[gb475]? = some (.cells #[.slice A0_0 l0_0.length c0_0, .slice (some ad479) l0_1.length c0_1] 42 (0, 0))) := ⟨(by rw [hw]; exact (bf BK475 NB475_480))⟩; have n2_ : Aside0 (w19.heap[gb480]? = some (.cells #[.int .i64 ((rd_T72 l0_1 x14_1).f0), .string ((rd_T72 l0_1 x14_1).f1)] 72 (0, 0))) := ⟨(by rw [hw]; exact (by (with_reducible repeat (first | refine blk_drewN ?_ _ | refine blk_drew ?_ | refine blk_alloc ?_ _)); refine blk_put (cs := #[.int .i64 ((rd_T72 l0_1 x14_1).f0), .string (⟨#[]⟩ : ByteArray)]) ?_ 1 _ rfl; (with_reducible repeat (first | refine blk_drewN ?_ _ | refine blk_drew ?_ | refine blk_alloc ?_ _)); refine blk_put (cs := #[.int .i64 0, .string (⟨#[]⟩ : ByteArray)]) ?_ 0 _ rfl; (with_reducible repeat (first | refine blk_drewN ?_ _ | refine blk_drew ?_ | refine blk_alloc ?_ _)); exact BK480.out))⟩; have n3_ : Aside0 (Below w.heap.size w w19) := ⟨(by rw [hw]; exact (bs2 HB GE475 GE480))⟩; clear hw; clear HO_5; clear BK475; clear BK480; clear HB; have HO_5 := n0_; have BK475 := n1_; have BK480 := n2_; have HB := n3_; clear n0_ n1_ n2_ n3_) | ((with_reducible refine gate_value (t := 19) rfl ?_); refine goesV_ (some 21) rfl rfl Try.func90 (by kernel_rfl) rfl #[.int .i64 x14_1] rfl rfl (by (try simp only [List.map_toArray, List.map_cons, List.map_nil]); first | done | rfl | (simp only [List.length_drop, List.length_take]; rfl)) ?_; (with_reducible refine (impl_all.calls x14_1 true _ A11.out).mono ?_); rintro e w' ⟨rfl, ⟨nd, rfl⟩⟩; refine ⟨_, rfl, ?_⟩; (try (rw [drewN_self w19]; generalize hq_ : World.drewN w19 _ = w19; have n0_ : Aside0 (Kd.R Kd.string 9 w19 w.heap.size (fun _ => True) v477 x5_1) := ⟨by rw [← hq_]; exact (rr HO_5.out)⟩; have n1_ : Aside0 (w19.heap[gb475]? = some (.cells #[.slice A0_0 l0_0.length c0_0, .slice (some ad479) l0_1.length c0_1] 42 (0, 0))) := ⟨by rw [← hq_]; exact (bk BK475)⟩; have n2_ : Aside0 (w19.heap[gb480]? = some (.cells #[.int .i64 ((rd_T72 l0_1 x14_1).f0), .string ((rd_T72 l0_1 x14_1).f1)] 72 (0, 0))) := ⟨by rw [← hq_]; exact (bk BK480)⟩; have n3_ : Aside0 (Below w.heap.size w w19) := ⟨by rw [← hq_]; exact (bs2 HB GE475 GE480)⟩; clear HO_5 BK475 BK480 HB hq_; have HO_5 := n0_; have BK475 := n1_; have BK480 := n2_; have HB := n3_; clear n0_ n1_ n2_ n3_)); obtain ⟨hcz20_0, hcz20_1⟩ := cz2 BK480; obtain ⟨hfz20_0, hfz20_1⟩ := fz2 BK480; have p15 : 0 ≤ (((rd_T72 l0_1 x14_1).f0) : Int) := of_decide_eq_true (by first | (with_reducible assumption) | assumption); have q15 : (((rd_T72 l0_1 x14_1).f0) : Int) < ((x5_1.length : Int) : Int) := of_decide_eq_true (by first | (with_reducible assumption) | assumption); obtain ⟨go15, co15, eo15, gb15, gl15, cl15, HG15⟩ := Kd.R_form HO_5.out (by omega); (first | cases eo15 | (injection eo15 with ea_ en_ ec_; (first | subst ea_ | (injection ea_ with ea_; subst ea_)); subst ec_; clear en_)); have GB15 := Aside0.mk gb15; have GG15 := Aside0.mk HG15; clear gb15 gl15 HG15; obtain ⟨hx15_0, hf15_0⟩ := Kd.R_celln (⟨#[]⟩ : ByteArray) HO_5.out (((rd_T72 l0_1 x14_1).f0) : Int) p15 q15; replace p15 := eq_true p15; replace q15 := eq_true q15; obtain ⟨hy21_, hz21_⟩ := Kd.R_celln (⟨#[]⟩ : ByteArray) HO_5.out (((rd_T72 l0_1 x14_1).f0) : Int) (of_decide_eq_true (by first | (with_reducible assumption) | assumption)) (of_decide_eq_true (by first | (with_reducible assumption) | assumption)); have HP21 := Kd.R_putg HO_5.out (((rd_T72 l0_1 x14_1).f0) : Int) ((rd_T72 l0_1 x14_1).f1)) | ((with_reducible refine gate_store (t := 9) (p := 27) rfl ?_); refine store_event (t := 9) (p := 27) (v := ?vo_w22) (w1 := (w19.setCell ⟨go15, (((rd_T72 l0_1 x14_1).f0) : Int).toNat, none⟩ (.string ((rd_T72 l0_1 x14_1).f1)))) ?hg ?ho ?hn ?hr ?_; (case ho => rfl); (case hg => rfl); (case hn => rfl); (case hr => first | (go_simp; done) | (go_simp; rfl)); intro w22 hw; have hg : w19.grownBy w22 (some go15) := (by rw [hw]; exact HP21.2); have hp_ : Kd.R Kd.string 9 w22 w.heap.size (fun _ => True) (.slice (some ⟨go15, 0, none⟩) x5_1.length co15) y482 := (by rw [hw, Ny482.out]; exact HP21.1); clear HP21; replace BK475 := Aside0.mk (blk_grown (g := gb475) (o := .cells #[.slice A0_0 l0_0.length c0_0, .slice (some ad479) l0_1.length c0_1] 42 (0, 0)) (bk BK475) hg (Kd.R_ne HO_5.out BK475.out (by decide))); replace BK480 := Aside0.mk (blk_grown (g := gb480) (o := .cells #[.int .i64 ((rd_T72 l0_1 x14_1).f0), .string ((rd_T72 l0_1 x14_1).f1)] 72 (0, 0)) (bk BK480) hg (Kd.R_ne HO_5.out BK480.out (by decide))); replace HO_5 := Aside0.mk (hp_); replace HB := Aside0.mk ((by rw [hw]; exact below_set (HB.out) GB15.out : Below w.heap.size w w22)); clear hg hw hp_))
         go_roundg k1
         case measure => have := HK1.out; omega
         case rel => exact ⟨(y482), (wrap64 (x14_1 + 1)), (by first | rfl | (simp; done) | (simp [*]; done)), H', ⟨by have := HK1.out; omega⟩, ⟨rr HO_5.out⟩, ⟨bk BK475⟩, ⟨bs2 HB GE475 GE480⟩⟩
        ·
         rw [if_neg c14] at H
         exact absurd H (by simp)
       ·
        rw [if_neg c13] at H
        exact absurd H (by simp)
      ·
       replace c12 := Bool.eq_false_iff.mpr c12
       subst c12
       rw [if_neg (show ¬ (false = true) by decide)] at H
       have H' := Aside0.mk H
       clear H
       have p479 : 0 ≤ (x14_1 : Int) := of_decide_eq_true (by first | (with_reducible assumption) | assumption)
       have q479 : x14_1 < (l0_1.length : Int) := of_decide_eq_true (by first | (with_reducible assumption) | assumption)
       obtain ⟨ad479, e479, hx479_0, hx479_1⟩ := at_T72 HR0_1.out x14_1 p479 q479
       cases e479
       replace hx479_0 := (HB.out.cell (World.block_lt_of_cell? w _ hx479_0)).trans hx479_0
       replace hx479_1 := (HB.out.cell (World.block_lt_of_cell? w _ hx479_1)).trans hx479_1
       replace p479 := eq_true p479
       replace q479 := eq_true q479
       go_wp2_with (first | ((with_reducible refine gate_dst (N := 7) rfl ?_); refine box_event ?hg (N := 7) ?hd (cs := #[.int .i64 0, .string (⟨#[]⟩ : ByteArray)]) (t := 72) ?hr ?_; (case hd => rfl); (case hg => rfl); (case hr => first | (go_simp; done) | (go_simp; rfl)); intro gb480 hg w23 hbox hb; replace HO_5 := nr HO_5 hb; have BK480 := Aside0.mk (hbox); have GW480 := Aside0.mk ((by rw [hg]; exact (below_size (bs1 HB GE475)) : w.heap.size ≤ gb480)); have GE480 := Aside0.mk ((by rw [hg]; exact (below_size (bs1 HB GE475)) : w.heap.size ≤ gb480)); replace HB := Aside0.mk (below_step (bs1 HB GE475) hb); have NB475_480 := Aside0.mk ((bn BK475 hg : gb475 ≠ gb480)); have NB480_475 := Aside0.mk ((bm BK475 hg : gb480 ≠ gb475)); replace BK475 := nb BK475 hb; clear hb hbox hg; have hnb24 := NB480_475.out; have hnc24 := NB475_480.out; obtain ⟨hcz25_0, hcz25_1⟩ := cz2 BK480; obtain ⟨hfz25_0, hfz25_1⟩ := fz2 BK480) | ((with_reducible refine gate_value (t := 19) rfl ?_); refine goesV_ (some 21) rfl rfl Try.func90 (by kernel_rfl) rfl #[.int .i64 x14_1] rfl rfl (by (try simp only [List.map_toArray, List.map_cons, List.map_nil]); first | done | rfl | (simp only [List.length_drop, List.length_take]; rfl)) ?_; (with_reducible refine (impl_all.calls x14_1 false _ A11.out).mono ?_); rintro e w' ⟨rfl, ⟨nd, rfl⟩⟩; refine ⟨_, rfl, ?_⟩))
       go_roundg k1
       case measure => have := HK1.out; omega
       case rel => exact ⟨(x5_1), (wrap64 (x14_1 + 1)), (by first | rfl | (simp; done) | (simp [*]; done)), H', ⟨by have := HK1.out; omega⟩, ⟨by (with_reducible repeat (first | apply Kd.R_alloc | apply Kd.R_drewN | apply Kd.R_drew)); exact Kd.R_mono (Kd.R_far (p := ⟨gb480, 1, none⟩) (Kd.R_far (p := ⟨gb480, 0, none⟩) (Kd.R_types HO_5.out BK480.out (by decide)) (fun _ hk => hk.2) (.int .i64 ((rd_T72 l0_1 x14_1).f0))) (fun _ hk => hk.2) (.string ((rd_T72 l0_1 x14_1).f1))) (fun _ hk => trivial)⟩, ⟨bf BK475 NB475_480⟩, ⟨bs2 HB GE475 GE480⟩⟩
     ·
      rw [if_neg c10] at H
      exact absurd H (by simp)
    ·
     rw [if_neg c9] at H
     exact absurd H (by simp)
   ·
    rw [if_neg c8] at H
    have c8b0 : decide (x14_1 < (l0_1.length : Int)) = false := decide_eq_false c8
    clear c8
    obtain rfl := Option.some.inj H
    go_wp2
    go_ret
    exact ⟨_, by first | rfl | (simp [errW_none, errW_some] <;> rfl) | (simp [*, errW_none, errW_some] <;> rfl), by (with_reducible repeat (first | apply Kd.R_alloc | apply Kd.R_drewN | apply Kd.R_drew)); exact HO_5.out, bs1 HB GE475⟩

/-! ### impl_changedBy: function 88 -/
def impl_changedBy.f (k : Nat) (l0 : List ByteArray) (l1 : List (S72)) : Option (List ByteArray) := (impl_performed_at_impl_all.f k l0 l1).bind fun t483 => (some t483)
theorem impl_changedBy.mono : ∀ a0 a1 k, LeO (impl_changedBy.f k a0 a1) (impl_changedBy.f (k + 1) a0 a1) := by
 intro a0 a1 k
 unfold impl_changedBy.f
 repeat' first
   | (with_reducible exact impl_performed_at_impl_all.mono _ _ _)
   | (with_reducible exact LeO.refl _)
   | (with_reducible exact LeO.none _)
   | (with_reducible refine LeO.ite ?_ ?_)
   | (with_reducible refine LeO.bind ?_ (fun _ => ?_))
   | exact impl_performed_at_impl_all.mono _ _ _
   | exact LeO.none _
   | refine LeO.ite ?_ ?_
   | refine LeO.bind ?_ (fun _ => ?_)
set_option maxHeartbeats 8000000 in
set_option maxRecDepth 100000 in
theorem impl_changedBy.calls (k : Nat) (A0 : Option Addr) (c0 : Nat) (l0 : List ByteArray) (A1 : Option Addr) (c1 : Nat) (l1 : List (S72)) (r : List ByteArray) (w : World) (hr0 : Kd.C Kd.string w A0 l0.length l0) (hc0 : l0.length ≤ c0) (hr1 : Kd.C k72 w A1 l1.length l1) (hc1 : l1.length ≤ c1) (h : impl_changedBy.f k l0 l1 = some r) :
  Calls Try.prog 88 #[.slice A0 l0.length c0, .slice A1 l1.length c1] w fun e w' => ∃ v0_ : Value, e = .returned (v0_) ∧ Kd.R Kd.string 9 w' w.heap.size (fun _ => True) v0_ r ∧ Below w.heap.size w w' := by
 have hu42 := Try.underlying42
 have HR0 := Aside0.mk hr0
 have HC0 := Aside0.mk hc0
 clear hr0 hc0
 have HR1 := Aside0.mk hr1
 have HC1 := Aside0.mk hc1
 clear hr1 hc1
 have HB := Aside0.mk (Below.refl w.heap.size w)
 have H : ((impl_performed_at_impl_all.f k l0 l1).bind fun t483 => (some t483)) = some r := h
 clear h
 replace H := Option.bind_eq_some_iff.mp H
 obtain ⟨t483, A30, H⟩ := H
 replace H : (some t483) = some r := H
 have A3 := Aside0.mk A30
 clear A30
 obtain rfl := Option.some.inj H
 go_enter Try.func88, Try.ntmps88
 go_wp2_with (first | ((with_reducible refine gate_callee (f := 89) rfl ?_); refine gL (some 8) rfl rfl Try.func89 (by kernel_rfl) rfl #[.agg #[.slice A0 l0.length c0, .slice A1 l1.length c1], .func (.func 90) #[] #[]] rfl ?_; (with_reducible refine (impl_performed_at_impl_all.calls k _ _ l0 _ _ l1  t483 _ ?side1 ?side2 ?side3 ?side4 A3.out).mono ?_); (case side1 => repeat (first | exact HR0.out | (with_reducible refine Kd.C_alloc ?_ _) | (with_reducible refine Kd.C_drewN ?_ _) | (with_reducible refine Kd.C_drew ?_))); (case side2 => exact HC0.out); (case side3 => repeat (first | exact HR1.out | (with_reducible refine Kd.C_alloc ?_ _) | (with_reducible refine Kd.C_drewN ?_ _) | (with_reducible refine Kd.C_drew ?_))); (case side4 => exact HC1.out); rintro e w4 ⟨v484, rfl, ho0, hb⟩; refine ⟨_, rfl, ?_⟩; have HO485 := Aside0.mk (Kd.R_lower ho0 (below_size (bs HB))); replace HB := Aside0.mk (below_step (bs HB) hb); (try clear hb); (try clear hb2); (try clear hk); (try clear hi); (try clear ho0)))
 go_ret
 exact ⟨_, by first | rfl | (simp [errW_none, errW_some] <;> rfl) | (simp [*, errW_none, errW_some] <;> rfl), by (with_reducible repeat (first | apply Kd.R_alloc | apply Kd.R_drewN | apply Kd.R_drew)); exact HO485.out, bs HB⟩

end Go.Proofs.Ytcdkgenfggdpaaa.G
