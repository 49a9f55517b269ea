/- The law FnExactPromiseFree, walked by hand. No statement. -/
import Derived.Test.YtpfimjgfojdhhaaG6
import Derived.Test.YtpfimjgfojdhhaaG3
import Derived.Test.YtpfimjgfojdhhaaG5
namespace Go.Proofs.Ytpfimjgfojdhhaa.G
open Go.RowKit Go.Proofs.YtpfimjgfojdhhaaW.PrintWords Go.Proofs.YtpfimjgfojdhhaaW.PrintLast Go.Proofs.YtpfimjgfojdhhaaW.PrintMore
set_option linter.unusedVariables false
set_option linter.unusedSimpArgs false
theorem newbox {w0 w1 : World} {o : Obj} (hb : Below (w0.alloc o).heap.size (w0.alloc o) w1) : ∃ g, g = w0.heap.size ∧ Aside0 (w1.heap[g]? = some o) := ⟨_, rfl, ⟨blk_below (blk_new w0 o) hb⟩⟩
theorem newboxD {w0 w1 : World} {o : Obj} (hb : Below (w0.alloc o).drew.heap.size (w0.alloc o).drew w1) : ∃ g, g = w0.heap.size ∧ Aside0 (w1.heap[g]? = some o) := ⟨_, rfl, ⟨blk_below (blk_drew (blk_new w0 o)) hb⟩⟩
theorem rfU {α : Type} {d : Kd α} {e : Nat} {W0 W : World} {base : Nat} {ok : Nat → Prop} {v : Value} {xs : List α} {g t : Nat} {cells : Array Value} (h : Aside0 (d.R e W0 base ok v xs)) (b : Aside0 (W0.heap[g]? = some (.cells cells t (0, 0)))) (ht : ∀ q, q ∈ e :: d.E → q ≠ t := by decide) [s : FarL g W0 W] : d.R e W base (fun _ => True) v xs := Kd.R_mono (rf h b ht) (fun _ _ => trivial)
theorem R_keptB {α : Type} {d : Kd α} {e : Nat} {w w1 : World} {base : Nat} {ok P : Nat → Prop} {v : Value} {xs : List α} (h : d.R e w base ok v xs) (hP : ∀ k, P k → k < base) (hk : Kept w w1 P) : d.R e w1 base ok v xs :=
  Kd.R_mono (Kd.R_step (Kd.R_bound h) (fun k hb hlt => hk.2 k hlt (fun hp => absurd (hP k hp) (Nat.not_lt.2 hb.2.1)))) (fun k h => h.1)
theorem R_tightB {α : Type} {d : Kd α} {e : Nat} {w : World} {base : Nat} {ok : Nat → Prop} {v : Value} {xs : List α} (hE : d.E = []) (h : d.R e w base ok v xs) : d.R e w base (fun k => some k = v.ownBlock) v xs := by
  obtain ⟨h0, inner, ho, hr⟩ := h
  refine ⟨fun k hk => hk.symm, inner, ho, hr.imp_ (fun p c hp => d.M_mono (fun k hk => ?_) (d.M_bound hp))⟩
  obtain ⟨_, _, _, q, hq, _⟩ := hk
  rw [hE] at hq
  cases hq
theorem own_lt' {α : Type} {d : Kd α} {e : Nat} {w : World} {base : Nat} {ok : Nat → Prop} {v : Value} {xs : List α} (h : d.R e w base ok v xs) (k : Nat) (hk : some k = v.ownBlock) : k < w.heap.size := ((Kd.R_bound h).1 k hk.symm).2.2.1
theorem own_ne' {α : Type} {d : Kd α} {e : Nat} {w : World} {base : Nat} {ok : Nat → Prop} {v : Value} {xs : List α} {g t : Nat} {cells : Array Value} (h : d.R e w base ok v xs) (hb : w.heap[g]? = some (.cells cells t (0, 0))) (ht : ∀ q, q ∈ e :: d.E → q ≠ t) (hk : some g = v.ownBlock) : False := by
  obtain ⟨_, _, _, q, hq, cells', hc⟩ := (Kd.R_bound h).1 g hk.symm
  rw [hc] at hb
  injection hb with hb
  injection hb with _ h2 _
  exact ht q hq h2
theorem czq {w : World} {g : Nat} {t : TypeId} {a0 a1 a2 a3 a4 : Value} (h : Aside0 (w.heap[g]? = some (.cells #[a0, a1, a2, a3, a4] t (0, 0)))) : w.cell? ⟨g, 0, none⟩ = some a0 ∧ w.cell? ⟨g, 1, none⟩ = some a1 ∧ w.cell? ⟨g, 2, none⟩ = some a2 ∧ w.cell? ⟨g, 3, none⟩ = some a3 ∧ w.cell? ⟨g, 4, none⟩ = some a4 ∧ w.frozen? ⟨g, 0, none⟩ = false ∧ w.frozen? ⟨g, 1, none⟩ = false ∧ w.frozen? ⟨g, 2, none⟩ = false ∧ w.frozen? ⟨g, 3, none⟩ = false ∧ w.frozen? ⟨g, 4, none⟩ = false := ⟨(blk_cell h.out 0).trans rfl, (blk_cell h.out 1).trans rfl, (blk_cell h.out 2).trans rfl, (blk_cell h.out 3).trans rfl, (blk_cell h.out 4).trans rfl, blk_frozen h.out 0, blk_frozen h.out 1, blk_frozen h.out 2, blk_frozen h.out 3, blk_frozen h.out 4⟩
set_option maxHeartbeats 8000000 in
set_option maxRecDepth 100000 in
theorem laws_FnExactPromiseFree.early (x0 : Int) (x1 : List S29) (x2 : List S29) (x3 : Int) (x4 : List S68) (e0 e1 z : Int) (hZ : laws_szWork.f x0 x1 x2 x3 x4 1048576 = some z) (hz : z < 0) (w : World) {Ax1 : Option Addr} {cx1 : Nat} (hx1 : Kd.C k29 w Ax1 x1.length x1) (he1 : x1.length ≤ cx1) {Ax2 : Option Addr} {cx2 : Nat} (hx2 : Kd.C k29 w Ax2 x2.length x2) (he2 : x2.length ≤ cx2) {Ax4 : Option Addr} {cx4 : Nat} (hx4 : Kd.C k68 w Ax4 x4.length x4) (he4 : x4.length ≤ cx4) :
    Calls Try.prog 3 #[.agg #[.int .i64 x0, .slice Ax1 x1.length cx1, .slice Ax2 x2.length cx2, .int .i64 x3, .slice Ax4 x4.length cx4], .agg #[.int .i64 e0, .int .i64 e1]] w fun e w' => e = .returned (.bool true) ∧ Below w.heap.size w w' := by
  have hu1 := Try.underlying27
  have hu3 := Try.underlying29
  have HZ_ := Aside0.mk hZ
  clear hZ
  have Cx1 := Aside0.mk hx1
  have Ex1 := Aside0.mk he1
  have Cx2 := Aside0.mk hx2
  have Ex2 := Aside0.mk he2
  have Cx4 := Aside0.mk hx4
  have Ex4 := Aside0.mk he4
  clear hx1 he1 hx2 he2 hx4 he4
  have z0 : decide (z < 0) = true := decide_eq_true hz
  have HB := Aside0.mk (Below.refl w.heap.size w)
  go_enter Try.func3, Try.ntmps3
  go_wp2_with (first | ((with_reducible refine gate_dst (N := 2) rfl ?_); refine box_event ?hg (N := 2) ?hd (cs := #[.int .i64 x0, .slice Ax1 x1.length cx1, .slice Ax2 x2.length cx2, .int .i64 x3, .slice Ax4 x4.length cx4]) (t := 27) ?hr ?_; (case hd => rfl); (case hg => rfl); (case hr => first | (go_simp; done) | (go_simp; rfl)); intro ga hg w1 hbox hb; have BA := Aside0.mk hbox; have GA := Aside0.mk ((by rw [hg]; exact below_size (bs HB)) : w.heap.size ≤ ga); replace HB := Aside0.mk (below_step (bs HB) hb); clear hb hbox hg; replace Cx1 := Aside0.mk (Kd.C_below Cx1.out HB.out); replace Cx2 := Aside0.mk (Kd.C_below Cx2.out HB.out); replace Cx4 := Aside0.mk (Kd.C_below Cx4.out HB.out); obtain ⟨zc0, zc1, zc2, zc3, zc4, zf0, zf1, zf2, zf3, zf4⟩ := czq BA) | ((with_reducible refine gate_dst (N := 3) rfl ?_); refine box_event ?hg (N := 3) ?hd (cs := #[.int .i64 e0, .int .i64 e1]) (t := 29) ?hr ?_; (case hd => rfl); (case hg => rfl); (case hr => first | (go_simp; done) | (go_simp; rfl)); intro ge hg w1e hbox hb; have BE := Aside0.mk hbox; have hbe := hb; have GE := Aside0.mk ((by rw [hg]; exact below_size (bs HB)) : w.heap.size ≤ ge); replace HB := Aside0.mk (below_step (bs HB) hb); clear hb hbox hg; replace BA := nb BA hbe; replace Cx1 := Aside0.mk (Kd.C_below Cx1.out hbe); replace Cx2 := Aside0.mk (Kd.C_below Cx2.out hbe); replace Cx4 := Aside0.mk (Kd.C_below Cx4.out hbe); clear hbe; clear zc0 zc1 zc2 zc3 zc4 zf0 zf1 zf2 zf3 zf4; obtain ⟨zc0, zc1, zc2, zc3, zc4, zf0, zf1, zf2, zf3, zf4⟩ := czq BA) | (go_at_call 5; (refine (laws_szWork.calls x0 _ _ x1 _ _ x2 x3 _ _ x4 1048576 z _ Cx1.out Ex1.out Cx2.out Ex2.out Cx4.out Ex4.out HZ_.out).mono ?_); rintro e w2 ⟨rfl, hb⟩; replace HB := Aside0.mk (below_step HB.out hb); clear hb))
  go_ret
  exact ⟨by first | rfl | (simp; done) | (simp [*]; done), bs HB⟩
set_option maxHeartbeats 16000000 in
set_option maxRecDepth 100000 in
theorem laws_FnExactPromiseFree.run (kt ks ki ke ke2 km km2 kh : Nat) (x0 : Int) (x1 : List S29) (x2 : List S29) (x3 : Int) (x4 : List S68) (y0 : Int) (y1 : List S40) (y2 : List S40) (y3 : Int) (y4 : List S56) (g0 : Int) (g1 : List S40) (g2 : List S40) (g3 : Int) (g4 : List S56) (p1 : List S40) (p2 : List S40) (p4 : List S56) (q1 : List S40) (q2 : List S40) (q4 : List S56) (e0 e1 d0 d1 z mk1 mk2 r0 : Int) (b : Bool)
    (hTE : laws_toExtent.f e0 e1 = some (d0, d1)) (hZ : laws_szWork.f x0 x1 x2 x3 x4 1048576 = some z) (hz : ¬ z < 0) (hT : laws_toWork.f kt x0 x1 x2 x3 x4 = some (y0, y1, y2, y3, y4)) (hS : spec_PromiseFree.f ks y0 y1 y2 y3 y4 d0 d1 = some (g0, g1, g2, g3, g4, r0, b)) (hI : impl_PromiseFree.f ki y0 y1 y2 y3 y4 d0 d1 = some (g0, g1, g2, g3, g4, r0, b))
    (hE : laws_eqWork.f ke g0 g1 g2 g3 g4 g0 g1 g2 g3 g4 = some true) (hE2 : laws_eqWork.f ke2 y0 y1 y2 y3 y4 y0 y1 y2 y3 y4 = some true) (hM : laws_markWork.f km y0 y1 y2 y3 y4 1 = some (mk1, p1, p2, p4)) (hq1 : ¬ mk1 < 0) (hM2 : laws_markWork.f km2 g0 g1 g2 g3 g4 1 = some (mk2, q1, q2, q4)) (hq2 : ¬ mk2 < 0) (hH : laws_heldWork.f kh g0 q1 q2 g3 q4 1 = some mk2)
    (hl1 : q1.length = g1.length) (hl2 : q2.length = g2.length) (hl4 : q4.length = g4.length) (w : World) {Ax1 : Option Addr} {cx1 : Nat} (hx1 : Kd.C k29 w Ax1 x1.length x1) (he1 : x1.length ≤ cx1) {Ax2 : Option Addr} {cx2 : Nat} (hx2 : Kd.C k29 w Ax2 x2.length x2) (he2 : x2.length ≤ cx2) {Ax4 : Option Addr} {cx4 : Nat} (hx4 : Kd.C k68 w Ax4 x4.length x4) (he4 : x4.length ≤ cx4) :
    Calls Try.prog 3 #[.agg #[.int .i64 x0, .slice Ax1 x1.length cx1, .slice Ax2 x2.length cx2, .int .i64 x3, .slice Ax4 x4.length cx4], .agg #[.int .i64 e0, .int .i64 e1]] w fun e w' => e = .returned (.bool true) ∧ Below w.heap.size w w' := by
  have hu1 := Try.underlying27
  have hu2 := Try.underlying36
  have hu3 := Try.underlying29
  have HTE_ := Aside0.mk hTE
  clear hTE
  have HZ_ := Aside0.mk hZ
  have HT_ := Aside0.mk hT
  have HS_ := Aside0.mk hS
  have HI_ := Aside0.mk hI
  have HE_ := Aside0.mk hE
  have HE2_ := Aside0.mk hE2
  have HM_ := Aside0.mk hM
  have HM2_ := Aside0.mk hM2
  have HH_ := Aside0.mk hH
  clear hZ hT hS hI hE hE2 hM hM2 hH
  have Cx1 := Aside0.mk hx1
  have Ex1 := Aside0.mk he1
  have Cx2 := Aside0.mk hx2
  have Ex2 := Aside0.mk he2
  have Cx4 := Aside0.mk hx4
  have Ex4 := Aside0.mk he4
  clear hx1 he1 hx2 he2 hx4 he4
  have z0 : decide (z < 0) = false := decide_eq_false hz
  have z1 : decide (mk1 < 0) = false := decide_eq_false hq1
  have z2 : decide (mk2 < 0) = false := decide_eq_false hq2
  have z3 : (mk2 != mk2) = false := by simp
  have z4 : (b != b) = false := by simp
  have z5r0 : (r0 != r0) = false := by simp
  have HB := Aside0.mk (Below.refl w.heap.size w)
  go_enter Try.func3, Try.ntmps3
  go_upto_region 5 with (first | ((with_reducible refine gate_dst (N := 2) rfl ?_); refine box_event ?hg (N := 2) ?hd (cs := #[.int .i64 x0, .slice Ax1 x1.length cx1, .slice Ax2 x2.length cx2, .int .i64 x3, .slice Ax4 x4.length cx4]) (t := 27) ?hr ?_; (case hd => rfl); (case hg => rfl); (case hr => first | (go_simp; done) | (go_simp; rfl)); intro ga hg w1 hbox hb; have BA := Aside0.mk hbox; have GA := Aside0.mk ((by rw [hg]; exact below_size (bs HB)) : w.heap.size ≤ ga); replace HB := Aside0.mk (below_step (bs HB) hb); clear hb hbox hg; replace Cx1 := Aside0.mk (Kd.C_below Cx1.out HB.out); replace Cx2 := Aside0.mk (Kd.C_below Cx2.out HB.out); replace Cx4 := Aside0.mk (Kd.C_below Cx4.out HB.out); obtain ⟨zc0, zc1, zc2, zc3, zc4, zf0, zf1, zf2, zf3, zf4⟩ := czq BA) | ((with_reducible refine gate_dst (N := 3) rfl ?_); refine box_event ?hg (N := 3) ?hd (cs := #[.int .i64 e0, .int .i64 e1]) (t := 29) ?hr ?_; (case hd => rfl); (case hg => rfl); (case hr => first | (go_simp; done) | (go_simp; rfl)); intro ge hg w1e hbox hb; have BE := Aside0.mk hbox; have hbe := hb; have GE := Aside0.mk ((by rw [hg]; exact below_size (bs HB)) : w.heap.size ≤ ge); replace HB := Aside0.mk (below_step (bs HB) hb); clear hb hbox hg; replace BA := nb BA hbe; replace Cx1 := Aside0.mk (Kd.C_below Cx1.out hbe); replace Cx2 := Aside0.mk (Kd.C_below Cx2.out hbe); replace Cx4 := Aside0.mk (Kd.C_below Cx4.out hbe); clear hbe; clear zc0 zc1 zc2 zc3 zc4 zf0 zf1 zf2 zf3 zf4; obtain ⟨zc0, zc1, zc2, zc3, zc4, zf0, zf1, zf2, zf3, zf4⟩ := czq BA) | (go_at_call 5; (refine (laws_szWork.calls x0 _ _ x1 _ _ x2 x3 _ _ x4 1048576 z _ Cx1.out Ex1.out Cx2.out Ex2.out Cx4.out Ex4.out HZ_.out).mono ?_); rintro e w2 ⟨rfl, hb⟩; have HS1 := Aside0.mk hb; clear hb))
  clear zc0 zc1 zc2 zc3 zc4 zf0 zf1 zf2 zf3 zf4
  replace BA := Aside0.mk (blk_below BA.out HS1.out)
  replace BE := Aside0.mk (blk_below BE.out HS1.out)
  replace Cx1 := Aside0.mk (Kd.C_below Cx1.out HS1.out)
  replace Cx2 := Aside0.mk (Kd.C_below Cx2.out HS1.out)
  replace Cx4 := Aside0.mk (Kd.C_below Cx4.out HS1.out)
  have K0 := Aside0.mk (below_step HB.out HS1.out)
  clear HB HS1
  have RBA := BA
  have RBE := BE
  have HB := Aside0.mk (Below.refl w2.heap.size w2)
  go_cut [6, 7, 8] (fun v6 v7 v8 wc => ∃ (gs : Nat) (As1 : Option Addr) (cs1 : Nat) (As2 : Option Addr) (cs2 : Nat) (As4 : Option Addr) (cs4 : Nat), v6 = .pointer (some ⟨gs, 0, none⟩) ∧ v7 = .int .i64 r0 ∧ v8 = .bool b ∧ Aside0 (wc.heap[gs]? = some (.cells #[.int .i64 g0, .slice As1 g1.length cs1, .slice As2 g2.length cs2, .int .i64 g3, .slice As4 g4.length cs4] 36 (0, 0))) ∧ Aside0 (Kd.R k40 40 wc w2.heap.size (fun _ => True) (.slice As1 g1.length cs1) g1) ∧ Aside0 (Kd.R k40 40 wc w2.heap.size (fun _ => True) (.slice As2 g2.length cs2) g2) ∧ Aside0 (Kd.R k56 56 wc w2.heap.size (fun _ => True) (.slice As4 g4.length cs4) g4) ∧ Aside0 (Below w2.heap.size w2 wc) ∧ Aside0 (w2.heap.size ≤ gs))
  case first =>
    clear z0 z1 z2 z3 z4 z5r0 hl1 hl2 hl4 HZ_ HE_ HE2_ HM_ HM2_ HH_ hz hq1 hq2 GA GE BA BE K0 HI_
    have BS := ()
    have nc0 : ∀ w : World, (w.alloc (.cells #[.int .i64 0, .slice none 0 0, .slice none 0 0, .int .i64 0, .slice none 0 0] 36)).cell? ⟨w.heap.size, 0, none⟩ = some (.int .i64 0) := fun w => (blk_cell (blk_new w _) 0).trans rfl
    have nf0 : ∀ w : World, (w.alloc (.cells #[.int .i64 0, .slice none 0 0, .slice none 0 0, .int .i64 0, .slice none 0 0] 36)).frozen? ⟨w.heap.size, 0, none⟩ = false := fun w => blk_frozen (blk_new w _) 0
    have nc1 : ∀ w : World, (w.alloc (.cells #[.int .i64 0, .slice none 0 0, .slice none 0 0, .int .i64 0, .slice none 0 0] 36)).cell? ⟨w.heap.size, 1, none⟩ = some (.slice none 0 0) := fun w => (blk_cell (blk_new w _) 1).trans rfl
    have nf1 : ∀ w : World, (w.alloc (.cells #[.int .i64 0, .slice none 0 0, .slice none 0 0, .int .i64 0, .slice none 0 0] 36)).frozen? ⟨w.heap.size, 1, none⟩ = false := fun w => blk_frozen (blk_new w _) 1
    have nc2 : ∀ w : World, (w.alloc (.cells #[.int .i64 0, .slice none 0 0, .slice none 0 0, .int .i64 0, .slice none 0 0] 36)).cell? ⟨w.heap.size, 2, none⟩ = some (.slice none 0 0) := fun w => (blk_cell (blk_new w _) 2).trans rfl
    have nf2 : ∀ w : World, (w.alloc (.cells #[.int .i64 0, .slice none 0 0, .slice none 0 0, .int .i64 0, .slice none 0 0] 36)).frozen? ⟨w.heap.size, 2, none⟩ = false := fun w => blk_frozen (blk_new w _) 2
    have nc3 : ∀ w : World, (w.alloc (.cells #[.int .i64 0, .slice none 0 0, .slice none 0 0, .int .i64 0, .slice none 0 0] 36)).cell? ⟨w.heap.size, 3, none⟩ = some (.int .i64 0) := fun w => (blk_cell (blk_new w _) 3).trans rfl
    have nf3 : ∀ w : World, (w.alloc (.cells #[.int .i64 0, .slice none 0 0, .slice none 0 0, .int .i64 0, .slice none 0 0] 36)).frozen? ⟨w.heap.size, 3, none⟩ = false := fun w => blk_frozen (blk_new w _) 3
    have nc4 : ∀ w : World, (w.alloc (.cells #[.int .i64 0, .slice none 0 0, .slice none 0 0, .int .i64 0, .slice none 0 0] 36)).cell? ⟨w.heap.size, 4, none⟩ = some (.slice none 0 0) := fun w => (blk_cell (blk_new w _) 4).trans rfl
    have nf4 : ∀ w : World, (w.alloc (.cells #[.int .i64 0, .slice none 0 0, .slice none 0 0, .int .i64 0, .slice none 0 0] 36)).frozen? ⟨w.heap.size, 4, none⟩ = false := fun w => blk_frozen (blk_new w _) 4
    go_region_held3 (fun w' => w'.cell? ⟨ga, 0, none⟩ = some (.int .i64 x0) ∧ w'.cell? ⟨ga, 1, none⟩ = some (.slice Ax1 x1.length cx1) ∧ w'.cell? ⟨ga, 2, none⟩ = some (.slice Ax2 x2.length cx2) ∧ w'.cell? ⟨ga, 3, none⟩ = some (.int .i64 x3) ∧ w'.cell? ⟨ga, 4, none⟩ = some (.slice Ax4 x4.length cx4) ∧ w'.cell? ⟨ge, 0, none⟩ = some (.int .i64 e0) ∧ w'.cell? ⟨ge, 1, none⟩ = some (.int .i64 e1)) (first | exact ⟨(blk_cell (bf RBA NRBA) 0).trans rfl, (blk_cell (bf RBA NRBA) 1).trans rfl, (blk_cell (bf RBA NRBA) 2).trans rfl, (blk_cell (bf RBA NRBA) 3).trans rfl, (blk_cell (bf RBA NRBA) 4).trans rfl, (blk_cell (bf RBE NRBE) 0).trans rfl, (blk_cell (bf RBE NRBE) 1).trans rfl⟩ | exact ⟨(blk_cell (bk RBA) 0).trans rfl, (blk_cell (bk RBA) 1).trans rfl, (blk_cell (bk RBA) 2).trans rfl, (blk_cell (bk RBA) 3).trans rfl, (blk_cell (bk RBA) 4).trans rfl, (blk_cell (bk RBE) 0).trans rfl, (blk_cell (bk RBE) 1).trans rfl⟩) (first | (go_at_call 7; (refine (laws_toWork.calls kt x0 _ _ x1 _ _ x2 x3 _ _ x4 y0 y1 y2 y3 y4 _ (Kd.C_below Cx1.out (bs HB)) Ex1.out (Kd.C_below Cx2.out (bs HB)) Ex2.out (Kd.C_below Cx4.out (bs HB)) Ex4.out HT_.out).mono ?_); rintro e w3 ⟨vt1, vt2, vt4, rfl, ht1, ht2, ht4, hb⟩; obtain ⟨At1, ct1, et1⟩ := Kd.R_slice ht1; subst et1; have Ot1 := Aside0.mk ht1; obtain ⟨At2, ct2, et2⟩ := Kd.R_slice ht2; subst et2; have Ot2 := Aside0.mk ht2; obtain ⟨At4, ct4, et4⟩ := Kd.R_slice ht4; subst et4; have Ot4 := Aside0.mk ht4; have NEt1_2 := Aside0.mk (fun k hk => ht1.1 k hk); have NEt2_1 := Aside0.mk (fun k hk => ht2.1 k hk); (try replace BS := nb BS hb); (try ((first | have hn_ := newbox hb | have hn_ := newboxD hb); obtain ⟨gs, hg, BS⟩ := hn_; (try replace hg : gs = w2.heap.size := hg); have G_ := Aside0.mk ((by rw [hg]; exact below_size (bs HB)) : w2.heap.size ≤ gs); have NRBA := nn RBA hg; have NRBE := nn RBE hg; subst hg)); replace RBA := nb RBA hb; replace RBE := nb RBE hb; replace HB := Aside0.mk (below_step (bs HB) hb); clear hb ht1 ht2 ht4) | (go_at_call 8; (refine (laws_toExtent.calls e0 e1 d0 d1 _ HTE_.out).mono ?_); rintro e w3e ⟨rfl, hb⟩; (try replace Ot1 := nr Ot1 hb); (try replace Ot2 := nr Ot2 hb); (try replace Ot4 := nr Ot4 hb); (try replace BS := nb BS hb); (try ((first | have hn_ := newbox hb | have hn_ := newboxD hb); obtain ⟨gs, hg, BS⟩ := hn_; (try replace hg : gs = w2.heap.size := hg); have G_ := Aside0.mk ((by rw [hg]; exact below_size (bs HB)) : w2.heap.size ≤ gs); have NRBA := nn RBA hg; have NRBE := nn RBE hg; subst hg)); replace RBA := nb RBA hb; replace RBE := nb RBE hb; replace HB := Aside0.mk (below_step (bs HB) hb); clear hb) | (go_at_call 6; (refine (spec_PromiseFree.calls ks y0 _ _ y1 _ _ y2 y3 _ _ y4 d0 d1 g0 g1 g2 g3 g4 r0 b _ (rc0 Ot1) (Kd.R_reads' Ot1.out).2.1 (rc0 Ot2) (Kd.R_reads' Ot2.out).2.1 (rc0 Ot4) (Kd.R_reads' Ot4.out).2.1 HS_.out).mono ?_); rintro e wb ⟨vs1, vs2, vs4, rfl, hs1, hs2, hs4, hb⟩; obtain ⟨As1, cs1, es1⟩ := Kd.R_slice hs1; subst es1; have Os1 := Aside0.mk hs1; obtain ⟨As2, cs2, es2⟩ := Kd.R_slice hs2; subst es2; have Os2 := Aside0.mk hs2; obtain ⟨As4, cs4, es4⟩ := Kd.R_slice hs4; subst es4; have Os4 := Aside0.mk hs4; have NEs1_2 := Aside0.mk (fun k hk => hs1.1 k hk); have NEs2_1 := Aside0.mk (fun k hk => hs2.1 k hk); replace Os1 := Aside0.mk (Kd.R_lower Os1.out (below_size (bs HB))); replace Os2 := Aside0.mk (Kd.R_lower Os2.out (below_size (bs HB))); replace Os4 := Aside0.mk (Kd.R_lower Os4.out (below_size (bs HB))); (try replace BS := nb BS hb); (try ((first | have hn_ := newbox hb | have hn_ := newboxD hb); obtain ⟨gs, hg, BS⟩ := hn_; (try replace hg : gs = w2.heap.size := hg); have G_ := Aside0.mk ((by rw [hg]; exact below_size (bs HB)) : w2.heap.size ≤ gs); have NRBA := nn RBA hg; have NRBE := nn RBE hg; subst hg)); replace RBA := nb RBA hb; replace RBE := nb RBE hb; replace HB := Aside0.mk (below_step (bs HB) hb); clear hb hs1 hs2 hs4; (try (have hz_ := czq BS; obtain ⟨zc0, zc1, zc2, zc3, zc4, zf0, zf1, zf2, zf3, zf4⟩ := hz_))))
    all_goals (go_wp2; go_meet; (case rel => first | (have hG_ := G_; exact ⟨_, As1, cs1, As2, cs2, As4, cs4, rfl, rfl, rfl, ⟨(blk_put (cs := #[.int .i64 g0, .slice As1 g1.length cs1, .slice As2 g2.length cs2, .int .i64 g3, .slice none 0 0]) (blk_put (cs := #[.int .i64 g0, .slice As1 g1.length cs1, .slice As2 g2.length cs2, .int .i64 0, .slice none 0 0]) (blk_put (cs := #[.int .i64 g0, .slice As1 g1.length cs1, .slice none 0 0, .int .i64 0, .slice none 0 0]) (blk_put (cs := #[.int .i64 g0, .slice none 0 0, .slice none 0 0, .int .i64 0, .slice none 0 0]) (blk_put (cs := #[.int .i64 0, .slice none 0 0, .slice none 0 0, .int .i64 0, .slice none 0 0]) BS.out 0 (.int .i64 g0) rfl) 1 (.slice As1 g1.length cs1) rfl) 2 (.slice As2 g2.length cs2) rfl) 3 (.int .i64 g3) rfl) 4 (.slice As4 g4.length cs4) rfl)⟩, ⟨rfU Os1 BS⟩, ⟨rfU Os2 BS⟩, ⟨rfU Os4 BS⟩, ⟨bs1 HB G_⟩, G_⟩) | exact ⟨_, As1, cs1, As2, cs2, As4, cs4, rfl, rfl, rfl, ⟨blk_new wb _⟩, ⟨Kd.R_mono (rr Os1.out) (fun _ _ => trivial)⟩, ⟨Kd.R_mono (rr Os2.out) (fun _ _ => trivial)⟩, ⟨Kd.R_mono (rr Os4.out) (fun _ _ => trivial)⟩, ⟨bs HB⟩, ⟨below_size HB.out⟩⟩))
  clear HB RBA RBE
  obtain ⟨gs, As1, cs1, As2, cs2, As4, cs4, rfl, rfl, rfl, BS, Os1, Os2, Os4, HB, GEgs⟩ := hcut
  rename World => W3
  replace BA := Aside0.mk (blk_below BA.out HB.out)
  replace BE := Aside0.mk (blk_below BE.out HB.out)
  replace Cx1 := Aside0.mk (Kd.C_below Cx1.out HB.out)
  replace Cx2 := Aside0.mk (Kd.C_below Cx2.out HB.out)
  replace Cx4 := Aside0.mk (Kd.C_below Cx4.out HB.out)
  replace K0 := Aside0.mk (below_step K0.out HB.out)
  clear HB
  have Fs1 := Os1
  have FC1 := Cx1
  have Fs2 := Os2
  have FC2 := Cx2
  have Fs4 := Os4
  have FC4 := Cx4
  have FBA := BA
  have FBS := BS
  have FK0 := K0
  have FBE := BE
  obtain ⟨rc0, rc1, rc2, rc3, rc4, rf0, rf1, rf2, rf3, rf4⟩ := czq BA
  go_upto_region 7 with (first | (go_at_call 7; (refine (laws_toWork.calls kt x0 _ _ x1 _ _ x2 x3 _ _ x4 y0 y1 y2 y3 y4 _ Cx1.out Ex1.out Cx2.out Ex2.out Cx4.out Ex4.out HT_.out).mono ?_); rintro e w5 ⟨vu1, vu2, vu4, rfl, hu1, hu2, hu4, hb⟩; obtain ⟨Au1, cu1, eu1⟩ := Kd.R_slice hu1; subst eu1; have Ou1 := Aside0.mk hu1; obtain ⟨Au2, cu2, eu2⟩ := Kd.R_slice hu2; subst eu2; have Ou2 := Aside0.mk hu2; obtain ⟨Au4, cu4, eu4⟩ := Kd.R_slice hu4; subst eu4; have Ou4 := Aside0.mk hu4; have NEu1_2 := Aside0.mk (fun k hk => hu1.1 k hk); have NEu2_1 := Aside0.mk (fun k hk => hu2.1 k hk); have HB := Aside0.mk hb; clear hb hu1 hu2 hu4) | ((with_reducible refine gate_dst (N := 9) rfl ?_); refine box_event ?hg (N := 9) ?hd (cs := #[.int .i64 0, .slice none 0 0, .slice none 0 0, .int .i64 0, .slice none 0 0]) (t := 36) ?hr ?_; (case hd => rfl); (case hg => rfl); (case hr => first | (go_simp; done) | (go_simp; rfl)); intro gx hg wb hbox hb; have BX := Aside0.mk hbox; replace Ou1 := nr Ou1 hb; replace Ou2 := nr Ou2 hb; replace Ou4 := nr Ou4 hb; have G_ := Aside0.mk ((by rw [hg]; exact below_size (bs HB)) : W3.heap.size ≤ gx); replace HB := Aside0.mk (below_step (bs HB) hb); clear hb hbox hg; obtain ⟨zc0, zc1, zc2, zc3, zc4, zf0, zf1, zf2, zf3, zf4⟩ := czq BX))
  clear rc0 rc1 rc2 rc3 rc4 rf0 rf1 rf2 rf3 rf4
  have n0 : Aside0 ((((((wb.setCell ⟨gx, 0, none⟩ (.int .i64 y0)).setCell ⟨gx, 1, none⟩ (.slice Au1 y1.length cu1)).setCell ⟨gx, 2, none⟩ (.slice Au2 y2.length cu2)).setCell ⟨gx, 3, none⟩ (.int .i64 y3)).setCell ⟨gx, 4, none⟩ (.slice Au4 y4.length cu4)).heap[gx]? = some (.cells #[.int .i64 y0, .slice Au1 y1.length cu1, .slice Au2 y2.length cu2, .int .i64 y3, .slice Au4 y4.length cu4] 36 (0, 0))) := ⟨(blk_put (cs := #[.int .i64 y0, .slice Au1 y1.length cu1, .slice Au2 y2.length cu2, .int .i64 y3, .slice none 0 0]) (blk_put (cs := #[.int .i64 y0, .slice Au1 y1.length cu1, .slice Au2 y2.length cu2, .int .i64 0, .slice none 0 0]) (blk_put (cs := #[.int .i64 y0, .slice Au1 y1.length cu1, .slice none 0 0, .int .i64 0, .slice none 0 0]) (blk_put (cs := #[.int .i64 y0, .slice none 0 0, .slice none 0 0, .int .i64 0, .slice none 0 0]) (blk_put (cs := #[.int .i64 0, .slice none 0 0, .slice none 0 0, .int .i64 0, .slice none 0 0]) BX.out 0 (.int .i64 y0) rfl) 1 (.slice Au1 y1.length cu1) rfl) 2 (.slice Au2 y2.length cu2) rfl) 3 (.int .i64 y3) rfl) 4 (.slice Au4 y4.length cu4) rfl)⟩
  have m1 : Aside0 (Kd.R k40 40 (((((wb.setCell ⟨gx, 0, none⟩ (.int .i64 y0)).setCell ⟨gx, 1, none⟩ (.slice Au1 y1.length cu1)).setCell ⟨gx, 2, none⟩ (.slice Au2 y2.length cu2)).setCell ⟨gx, 3, none⟩ (.int .i64 y3)).setCell ⟨gx, 4, none⟩ (.slice Au4 y4.length cu4)) _ (fun _ => True) (.slice Au1 y1.length cu1) y1) := ⟨rfU Ou1 BX⟩
  have m2 : Aside0 (Kd.R k40 40 (((((wb.setCell ⟨gx, 0, none⟩ (.int .i64 y0)).setCell ⟨gx, 1, none⟩ (.slice Au1 y1.length cu1)).setCell ⟨gx, 2, none⟩ (.slice Au2 y2.length cu2)).setCell ⟨gx, 3, none⟩ (.int .i64 y3)).setCell ⟨gx, 4, none⟩ (.slice Au4 y4.length cu4)) _ (fun _ => True) (.slice Au2 y2.length cu2) y2) := ⟨rfU Ou2 BX⟩
  have m4 : Aside0 (Kd.R k56 56 (((((wb.setCell ⟨gx, 0, none⟩ (.int .i64 y0)).setCell ⟨gx, 1, none⟩ (.slice Au1 y1.length cu1)).setCell ⟨gx, 2, none⟩ (.slice Au2 y2.length cu2)).setCell ⟨gx, 3, none⟩ (.int .i64 y3)).setCell ⟨gx, 4, none⟩ (.slice Au4 y4.length cu4)) _ (fun _ => True) (.slice Au4 y4.length cu4) y4) := ⟨rfU Ou4 BX⟩
  have n9 : Aside0 (Below W3.heap.size W3 (((((wb.setCell ⟨gx, 0, none⟩ (.int .i64 y0)).setCell ⟨gx, 1, none⟩ (.slice Au1 y1.length cu1)).setCell ⟨gx, 2, none⟩ (.slice Au2 y2.length cu2)).setCell ⟨gx, 3, none⟩ (.int .i64 y3)).setCell ⟨gx, 4, none⟩ (.slice Au4 y4.length cu4))) := ⟨bs1 HB G_⟩
  have GEgx := G_
  clear Ou1 Ou2 Ou4 HB G_ BX zc0 zc1 zc2 zc3 zc4 zf0 zf1 zf2 zf3 zf4
  generalize (((((wb.setCell ⟨gx, 0, none⟩ (.int .i64 y0)).setCell ⟨gx, 1, none⟩ (.slice Au1 y1.length cu1)).setCell ⟨gx, 2, none⟩ (.slice Au2 y2.length cu2)).setCell ⟨gx, 3, none⟩ (.int .i64 y3)).setCell ⟨gx, 4, none⟩ (.slice Au4 y4.length cu4)) = W4 at n0 m1 m2 m4 n9 ⊢
  have BX := n0
  have Ou1 := m1
  have Ou2 := m2
  have Ou4 := m4
  have HB := n9
  clear n0 n9 m1 m2 m4
  replace Os1 := Aside0.mk (Kd.R_below Os1.out HB.out)
  replace Os2 := Aside0.mk (Kd.R_below Os2.out HB.out)
  replace Os4 := Aside0.mk (Kd.R_below Os4.out HB.out)
  replace BA := Aside0.mk (blk_below BA.out HB.out)
  replace BS := Aside0.mk (blk_below BS.out HB.out)
  replace BE := Aside0.mk (blk_below BE.out HB.out)
  replace Cx1 := Aside0.mk (Kd.C_below Cx1.out HB.out)
  replace Cx2 := Aside0.mk (Kd.C_below Cx2.out HB.out)
  replace Cx4 := Aside0.mk (Kd.C_below Cx4.out HB.out)
  replace K0 := Aside0.mk (below_step K0.out HB.out)
  have K3 := HB
  clear HB
  have ORu1 := Ou1
  have ORu2 := Ou2
  have ORu4 := Ou4
  have RBX := BX
  have RBE := BE
  have HB := Aside0.mk (Below.refl W4.heap.size W4)
  go_cut [10, 11, 12] (fun v10 v11 v12 wc => ∃ (gg : Nat) (Ad1 : Option Addr) (cd1 : Nat) (Ad2 : Option Addr) (cd2 : Nat) (Ad4 : Option Addr) (cd4 : Nat), v10 = .pointer (some ⟨gg, 0, none⟩) ∧ v11 = .int .i64 r0 ∧ v12 = .bool b ∧ Aside0 (wc.heap[gg]? = some (.cells #[.int .i64 g0, .slice Ad1 g1.length cd1, .slice Ad2 g2.length cd2, .int .i64 g3, .slice Ad4 g4.length cd4] 36 (0, 0))) ∧ Aside0 (Kd.R k40 40 wc W4.heap.size (fun _ => True) (.slice Ad1 g1.length cd1) g1) ∧ Aside0 (Kd.R k40 40 wc W4.heap.size (fun _ => True) (.slice Ad2 g2.length cd2) g2) ∧ Aside0 (Kd.R k56 56 wc W4.heap.size (fun _ => True) (.slice Ad4 g4.length cd4) g4) ∧ Aside0 (Below W4.heap.size W4 wc) ∧ Aside0 (W4.heap.size ≤ gg) ∧ Aside0 (∀ k, (.slice Ad1 g1.length cd1 : Value).ownBlock = some k → some k ≠ (.slice Ad2 g2.length cd2 : Value).ownBlock) ∧ Aside0 (∀ k, (.slice Ad2 g2.length cd2 : Value).ownBlock = some k → some k ≠ (.slice Ad1 g1.length cd1 : Value).ownBlock))
  case first =>
    clear z0 z1 z2 z3 z4 z5r0 hl1 hl2 hl4 HZ_ HE_ HE2_ HM_ HM2_ HH_ hz hq1 hq2 GA GE BA BE BS BX K0 K3 FBA FBS FBE FK0 HT_ HS_ GEgs GEgx Fs1 Fs2 Fs4 FC1 FC2 FC4 Os1 Os2 Os4 Ou1 Ou2 Ou4 Cx1 Cx2 Cx4 Ex1 Ex2 Ex4
    have BG := ()
    have nc0 : ∀ w : World, (w.alloc (.cells #[.int .i64 0, .slice none 0 0, .slice none 0 0, .int .i64 0, .slice none 0 0] 36)).cell? ⟨w.heap.size, 0, none⟩ = some (.int .i64 0) := fun w => (blk_cell (blk_new w _) 0).trans rfl
    have nf0 : ∀ w : World, (w.alloc (.cells #[.int .i64 0, .slice none 0 0, .slice none 0 0, .int .i64 0, .slice none 0 0] 36)).frozen? ⟨w.heap.size, 0, none⟩ = false := fun w => blk_frozen (blk_new w _) 0
    have nc1 : ∀ w : World, (w.alloc (.cells #[.int .i64 0, .slice none 0 0, .slice none 0 0, .int .i64 0, .slice none 0 0] 36)).cell? ⟨w.heap.size, 1, none⟩ = some (.slice none 0 0) := fun w => (blk_cell (blk_new w _) 1).trans rfl
    have nf1 : ∀ w : World, (w.alloc (.cells #[.int .i64 0, .slice none 0 0, .slice none 0 0, .int .i64 0, .slice none 0 0] 36)).frozen? ⟨w.heap.size, 1, none⟩ = false := fun w => blk_frozen (blk_new w _) 1
    have nc2 : ∀ w : World, (w.alloc (.cells #[.int .i64 0, .slice none 0 0, .slice none 0 0, .int .i64 0, .slice none 0 0] 36)).cell? ⟨w.heap.size, 2, none⟩ = some (.slice none 0 0) := fun w => (blk_cell (blk_new w _) 2).trans rfl
    have nf2 : ∀ w : World, (w.alloc (.cells #[.int .i64 0, .slice none 0 0, .slice none 0 0, .int .i64 0, .slice none 0 0] 36)).frozen? ⟨w.heap.size, 2, none⟩ = false := fun w => blk_frozen (blk_new w _) 2
    have nc3 : ∀ w : World, (w.alloc (.cells #[.int .i64 0, .slice none 0 0, .slice none 0 0, .int .i64 0, .slice none 0 0] 36)).cell? ⟨w.heap.size, 3, none⟩ = some (.int .i64 0) := fun w => (blk_cell (blk_new w _) 3).trans rfl
    have nf3 : ∀ w : World, (w.alloc (.cells #[.int .i64 0, .slice none 0 0, .slice none 0 0, .int .i64 0, .slice none 0 0] 36)).frozen? ⟨w.heap.size, 3, none⟩ = false := fun w => blk_frozen (blk_new w _) 3
    have nc4 : ∀ w : World, (w.alloc (.cells #[.int .i64 0, .slice none 0 0, .slice none 0 0, .int .i64 0, .slice none 0 0] 36)).cell? ⟨w.heap.size, 4, none⟩ = some (.slice none 0 0) := fun w => (blk_cell (blk_new w _) 4).trans rfl
    have nf4 : ∀ w : World, (w.alloc (.cells #[.int .i64 0, .slice none 0 0, .slice none 0 0, .int .i64 0, .slice none 0 0] 36)).frozen? ⟨w.heap.size, 4, none⟩ = false := fun w => blk_frozen (blk_new w _) 4
    go_region_held3 (fun w' => w'.cell? ⟨gx, 0, none⟩ = some (.int .i64 y0) ∧ w'.cell? ⟨gx, 1, none⟩ = some (.slice Au1 y1.length cu1) ∧ w'.cell? ⟨gx, 2, none⟩ = some (.slice Au2 y2.length cu2) ∧ w'.cell? ⟨gx, 3, none⟩ = some (.int .i64 y3) ∧ w'.cell? ⟨gx, 4, none⟩ = some (.slice Au4 y4.length cu4) ∧ w'.cell? ⟨ge, 0, none⟩ = some (.int .i64 e0) ∧ w'.cell? ⟨ge, 1, none⟩ = some (.int .i64 e1)) (first | exact ⟨(blk_cell (bf RBX NRBX) 0).trans rfl, (blk_cell (bf RBX NRBX) 1).trans rfl, (blk_cell (bf RBX NRBX) 2).trans rfl, (blk_cell (bf RBX NRBX) 3).trans rfl, (blk_cell (bf RBX NRBX) 4).trans rfl, (blk_cell (bf RBE NRBE) 0).trans rfl, (blk_cell (bf RBE NRBE) 1).trans rfl⟩ | exact ⟨(blk_cell (bk RBX) 0).trans rfl, (blk_cell (bk RBX) 1).trans rfl, (blk_cell (bk RBX) 2).trans rfl, (blk_cell (bk RBX) 3).trans rfl, (blk_cell (bk RBX) 4).trans rfl, (blk_cell (bk RBE) 0).trans rfl, (blk_cell (bk RBE) 1).trans rfl⟩) (first | (go_at_call 8; (refine (laws_toExtent.calls e0 e1 d0 d1 _ HTE_.out).mono ?_); rintro e w6e ⟨rfl, hb⟩; (try replace ORu1 := nr ORu1 hb); (try replace ORu2 := nr ORu2 hb); (try replace ORu4 := nr ORu4 hb); (try replace BG := nb BG hb); (try ((first | have hn_ := newbox hb | have hn_ := newboxD hb); obtain ⟨gg, hg, BG⟩ := hn_; (try replace hg : gg = W4.heap.size := hg); have G_ := Aside0.mk ((by rw [hg]; exact below_size (bs HB)) : W4.heap.size ≤ gg); have NRBX := nn RBX hg; have NRBE := nn RBE hg; subst hg)); replace RBX := nb RBX hb; replace RBE := nb RBE hb; replace HB := Aside0.mk (below_step (bs HB) hb); clear hb) | (go_at_call 9; (refine (impl_PromiseFree.calls ki y0 _ _ y1 _ _ y2 y3 _ _ y4 d0 d1 g0 g1 g2 g3 g4 r0 b _ (rc0 ORu1) (Kd.R_reads' ORu1.out).2.1 (rc0 ORu2) (Kd.R_reads' ORu2.out).2.1 (rc0 ORu4) (Kd.R_reads' ORu4.out).2.1 HI_.out).mono ?_); rintro e wb ⟨vd1, vd2, vd4, rfl, hd1, hd2, hd4, hb⟩; obtain ⟨Ad1, cd1, ed1⟩ := Kd.R_slice hd1; subst ed1; have Od1 := Aside0.mk hd1; obtain ⟨Ad2, cd2, ed2⟩ := Kd.R_slice hd2; subst ed2; have Od2 := Aside0.mk hd2; obtain ⟨Ad4, cd4, ed4⟩ := Kd.R_slice hd4; subst ed4; have Od4 := Aside0.mk hd4; have NEd1_2 := Aside0.mk (fun k hk => hd1.1 k hk); have NEd2_1 := Aside0.mk (fun k hk => hd2.1 k hk); replace Od1 := Aside0.mk (Kd.R_lower Od1.out (below_size (bs HB))); replace Od2 := Aside0.mk (Kd.R_lower Od2.out (below_size (bs HB))); replace Od4 := Aside0.mk (Kd.R_lower Od4.out (below_size (bs HB))); (try replace BG := nb BG hb); (try ((first | have hn_ := newbox hb | have hn_ := newboxD hb); obtain ⟨gg, hg, BG⟩ := hn_; (try replace hg : gg = W4.heap.size := hg); have G_ := Aside0.mk ((by rw [hg]; exact below_size (bs HB)) : W4.heap.size ≤ gg); have NRBX := nn RBX hg; have NRBE := nn RBE hg; subst hg)); replace RBX := nb RBX hb; replace RBE := nb RBE hb; replace HB := Aside0.mk (below_step (bs HB) hb); clear hb hd1 hd2 hd4; (try (have hz_ := czq BG; obtain ⟨zc0, zc1, zc2, zc3, zc4, zf0, zf1, zf2, zf3, zf4⟩ := hz_))))
    all_goals (go_wp2; go_meet; (case rel => first | (have hG_ := G_; exact ⟨_, Ad1, cd1, Ad2, cd2, Ad4, cd4, rfl, rfl, rfl, ⟨(blk_put (cs := #[.int .i64 g0, .slice Ad1 g1.length cd1, .slice Ad2 g2.length cd2, .int .i64 g3, .slice none 0 0]) (blk_put (cs := #[.int .i64 g0, .slice Ad1 g1.length cd1, .slice Ad2 g2.length cd2, .int .i64 0, .slice none 0 0]) (blk_put (cs := #[.int .i64 g0, .slice Ad1 g1.length cd1, .slice none 0 0, .int .i64 0, .slice none 0 0]) (blk_put (cs := #[.int .i64 g0, .slice none 0 0, .slice none 0 0, .int .i64 0, .slice none 0 0]) (blk_put (cs := #[.int .i64 0, .slice none 0 0, .slice none 0 0, .int .i64 0, .slice none 0 0]) BG.out 0 (.int .i64 g0) rfl) 1 (.slice Ad1 g1.length cd1) rfl) 2 (.slice Ad2 g2.length cd2) rfl) 3 (.int .i64 g3) rfl) 4 (.slice Ad4 g4.length cd4) rfl)⟩, ⟨rfU Od1 BG⟩, ⟨rfU Od2 BG⟩, ⟨rfU Od4 BG⟩, ⟨bs1 HB G_⟩, G_, NEd1_2, NEd2_1⟩) | exact ⟨_, Ad1, cd1, Ad2, cd2, Ad4, cd4, rfl, rfl, rfl, ⟨blk_new wb _⟩, ⟨Kd.R_mono (rr Od1.out) (fun _ _ => trivial)⟩, ⟨Kd.R_mono (rr Od2.out) (fun _ _ => trivial)⟩, ⟨Kd.R_mono (rr Od4.out) (fun _ _ => trivial)⟩, ⟨bs HB⟩, ⟨below_size HB.out⟩, NEd1_2, NEd2_1⟩))
  clear HB RBX RBE ORu1 ORu2 ORu4
  obtain ⟨gg, Ad1, cd1, Ad2, cd2, Ad4, cd4, rfl, rfl, rfl, BG, Od1, Od2, Od4, HB, GEgg, NEd1_2, NEd2_1⟩ := hcut
  rename World => W5
  have LU1 := Aside0.mk (fun k hk => own_lt' Ou1.out k hk)
  have LU2 := Aside0.mk (fun k hk => own_lt' Ou2.out k hk)
  have LU4 := Aside0.mk (fun k hk => own_lt' Ou4.out k hk)
  replace Os1 := Aside0.mk (Kd.R_below Os1.out HB.out)
  replace Os2 := Aside0.mk (Kd.R_below Os2.out HB.out)
  replace Os4 := Aside0.mk (Kd.R_below Os4.out HB.out)
  replace Ou1 := Aside0.mk (Kd.R_below Ou1.out HB.out)
  replace Ou2 := Aside0.mk (Kd.R_below Ou2.out HB.out)
  replace Ou4 := Aside0.mk (Kd.R_below Ou4.out HB.out)
  replace BA := Aside0.mk (blk_below BA.out HB.out)
  replace BS := Aside0.mk (blk_below BS.out HB.out)
  replace BX := Aside0.mk (blk_below BX.out HB.out)
  replace BE := Aside0.mk (blk_below BE.out HB.out)
  replace Cx1 := Aside0.mk (Kd.C_below Cx1.out HB.out)
  replace Cx2 := Aside0.mk (Kd.C_below Cx2.out HB.out)
  replace Cx4 := Aside0.mk (Kd.C_below Cx4.out HB.out)
  replace K0 := Aside0.mk (below_step K0.out HB.out)
  have K34 := Aside0.mk K3.out.size
  replace K3 := Aside0.mk (below_step K3.out HB.out)
  clear HB
  have hq := laws_eqWork.calls ke g0 _ _ g1 _ _ g2 g3 _ _ g4 g0 _ _ g1 _ _ g2 g3 _ _ g4 true W5 (Kd.R_reads' Od1.out).2.2 (Kd.R_reads' Od1.out).2.1 (Kd.R_reads' Od2.out).2.2 (Kd.R_reads' Od2.out).2.1 (Kd.R_reads' Od4.out).2.2 (Kd.R_reads' Od4.out).2.1 (Kd.R_reads' Os1.out).2.2 (Kd.R_reads' Os1.out).2.1 (Kd.R_reads' Os2.out).2.2 (Kd.R_reads' Os2.out).2.1 (Kd.R_reads' Os4.out).2.2 (Kd.R_reads' Os4.out).2.1 HE_.out
  obtain ⟨rc0, rc1, rc2, rc3, rc4, rf0, rf1, rf2, rf3, rf4⟩ := czq BG
  obtain ⟨tc0, tc1, tc2, tc3, tc4, tf0, tf1, tf2, tf3, tf4⟩ := czq BS
  go_upto_region 10 with (first | (go_at_call 10; (refine hq.mono ?_); rintro e w7 ⟨rfl, hb⟩; have HB := Aside0.mk hb; clear hb hq))
  clear rc0 rc1 rc2 rc3 rc4 rf0 rf1 rf2 rf3 rf4 tc0 tc1 tc2 tc3 tc4 tf0 tf1 tf2 tf3 tf4
  replace Os1 := Aside0.mk (Kd.R_below Os1.out HB.out)
  replace Os2 := Aside0.mk (Kd.R_below Os2.out HB.out)
  replace Os4 := Aside0.mk (Kd.R_below Os4.out HB.out)
  replace Ou1 := Aside0.mk (Kd.R_below Ou1.out HB.out)
  replace Ou2 := Aside0.mk (Kd.R_below Ou2.out HB.out)
  replace Ou4 := Aside0.mk (Kd.R_below Ou4.out HB.out)
  replace Od1 := Aside0.mk (Kd.R_below Od1.out HB.out)
  replace Od2 := Aside0.mk (Kd.R_below Od2.out HB.out)
  replace Od4 := Aside0.mk (Kd.R_below Od4.out HB.out)
  replace BA := Aside0.mk (blk_below BA.out HB.out)
  replace BS := Aside0.mk (blk_below BS.out HB.out)
  replace BX := Aside0.mk (blk_below BX.out HB.out)
  replace BG := Aside0.mk (blk_below BG.out HB.out)
  replace BE := Aside0.mk (blk_below BE.out HB.out)
  replace Cx1 := Aside0.mk (Kd.C_below Cx1.out HB.out)
  replace Cx2 := Aside0.mk (Kd.C_below Cx2.out HB.out)
  replace Cx4 := Aside0.mk (Kd.C_below Cx4.out HB.out)
  replace K0 := Aside0.mk (below_step K0.out HB.out)
  replace K3 := Aside0.mk (below_step K3.out HB.out)
  clear HB
  go_region_held3 (fun w' => w'.cell? ⟨gx, 0, none⟩ = some (.int .i64 y0) ∧ w'.cell? ⟨gx, 1, none⟩ = some (.slice Au1 y1.length cu1) ∧ w'.cell? ⟨gx, 2, none⟩ = some (.slice Au2 y2.length cu2) ∧ w'.cell? ⟨gx, 3, none⟩ = some (.int .i64 y3) ∧ w'.cell? ⟨gx, 4, none⟩ = some (.slice Au4 y4.length cu4) ∧ w'.cell? ⟨ga, 0, none⟩ = some (.int .i64 x0) ∧ w'.cell? ⟨ga, 1, none⟩ = some (.slice Ax1 x1.length cx1) ∧ w'.cell? ⟨ga, 2, none⟩ = some (.slice Ax2 x2.length cx2) ∧ w'.cell? ⟨ga, 3, none⟩ = some (.int .i64 x3) ∧ w'.cell? ⟨ga, 4, none⟩ = some (.slice Ax4 x4.length cx4)) (exact ⟨(blk_cell (bk BX) 0).trans rfl, (blk_cell (bk BX) 1).trans rfl, (blk_cell (bk BX) 2).trans rfl, (blk_cell (bk BX) 3).trans rfl, (blk_cell (bk BX) 4).trans rfl, (blk_cell (bk BA) 0).trans rfl, (blk_cell (bk BA) 1).trans rfl, (blk_cell (bk BA) 2).trans rfl, (blk_cell (bk BA) 3).trans rfl, (blk_cell (bk BA) 4).trans rfl⟩) (first | (go_at_call 7; (refine (laws_toWork.calls kt x0 _ _ x1 _ _ x2 x3 _ _ x4 y0 y1 y2 y3 y4 _ (Kd.C_below Cx1.out st_below) Ex1.out (Kd.C_below Cx2.out st_below) Ex2.out (Kd.C_below Cx4.out st_below) Ex4.out HT_.out).mono ?_); rintro e w8 ⟨vv1, vv2, vv4, rfl, hv1, hv2, hv4, hb⟩; obtain ⟨Av1, cv1, ev1⟩ := Kd.R_slice hv1; subst ev1; have Ov1 := Aside0.mk hv1; obtain ⟨Av2, cv2, ev2⟩ := Kd.R_slice hv2; subst ev2; have Ov2 := Aside0.mk hv2; obtain ⟨Av4, cv4, ev4⟩ := Kd.R_slice hv4; subst ev4; have Ov4 := Aside0.mk hv4; have NEv1_2 := Aside0.mk (fun k hk => hv1.1 k hk); have NEv2_1 := Aside0.mk (fun k hk => hv2.1 k hk); have HB := Aside0.mk (below_step (st_below (W0 := w7)) hb); replace Ou1 := nr Ou1 hb; replace Ou2 := nr Ou2 hb; replace Ou4 := nr Ou4 hb; replace BX := nb BX hb; replace BA := nb BA hb; clear hb hv1 hv2 hv4) | (go_at_call 10; (refine (laws_eqWork.calls ke2 y0 _ _ y1 _ _ y2 y3 _ _ y4 y0 _ _ y1 _ _ y2 y3 _ _ y4 true _ (Kd.R_reads' Ou1.out).2.2 (Kd.R_reads' Ou1.out).2.1 (Kd.R_reads' Ou2.out).2.2 (Kd.R_reads' Ou2.out).2.1 (Kd.R_reads' Ou4.out).2.2 (Kd.R_reads' Ou4.out).2.1 (Kd.R_reads' Ov1.out).2.2 (Kd.R_reads' Ov1.out).2.1 (Kd.R_reads' Ov2.out).2.2 (Kd.R_reads' Ov2.out).2.1 (Kd.R_reads' Ov4.out).2.2 (Kd.R_reads' Ov4.out).2.1 HE2_.out).mono ?_); rintro e w9 ⟨rfl, hb⟩; replace HB := Aside0.mk (below_step HB.out hb); replace BX := nb BX hb; replace BA := nb BA hb; replace Ou1 := nr Ou1 hb; replace Ou2 := nr Ou2 hb; replace Ou4 := nr Ou4 hb; clear hb))
  clear Ov1 Ov2 Ov4
  replace Os1 := Aside0.mk (Kd.R_below Os1.out HB.out)
  replace Os2 := Aside0.mk (Kd.R_below Os2.out HB.out)
  replace Os4 := Aside0.mk (Kd.R_below Os4.out HB.out)
  replace Od1 := Aside0.mk (Kd.R_below Od1.out HB.out)
  replace Od2 := Aside0.mk (Kd.R_below Od2.out HB.out)
  replace Od4 := Aside0.mk (Kd.R_below Od4.out HB.out)
  replace BS := Aside0.mk (blk_below BS.out HB.out)
  replace BG := Aside0.mk (blk_below BG.out HB.out)
  replace BE := Aside0.mk (blk_below BE.out HB.out)
  replace Cx1 := Aside0.mk (Kd.C_below Cx1.out HB.out)
  replace Cx2 := Aside0.mk (Kd.C_below Cx2.out HB.out)
  replace Cx4 := Aside0.mk (Kd.C_below Cx4.out HB.out)
  replace K0 := Aside0.mk (below_step K0.out HB.out)
  replace K3 := Aside0.mk (below_step K3.out HB.out)
  clear HB
  have LA : ∀ k : Nat, some k = (.slice Au1 y1.length cu1 : Value).ownBlock ∨ some k = (.slice Au2 y2.length cu2 : Value).ownBlock ∨ some k = (.slice Au4 y4.length cu4 : Value).ownBlock → k < W4.heap.size := fun k => fun h => h.elim (LU1.out k) (fun h => h.elim (LU2.out k) (LU4.out k))
  have hm := laws_markWork.calls km y0 (fun k_ => some k_ = (.slice Au1 y1.length cu1 : Value).ownBlock) (.slice Au1 y1.length cu1) y1 (fun k_ => some k_ = (.slice Au2 y2.length cu2 : Value).ownBlock) (.slice Au2 y2.length cu2) y2 y3 (fun k_ => some k_ = (.slice Au4 y4.length cu4 : Value).ownBlock) (.slice Au4 y4.length cu4) y4 1 mk1 p1 p2 p4 W3 w9 K3.out (R_tightB rfl Ou1.out) (fun k h1 => NEu1_2.out k h1.symm) (R_tightB rfl Ou2.out) (fun k h1 => NEu2_1.out k h1.symm) (R_tightB rfl Ou4.out) HM_.out
  obtain ⟨rc0, rc1, rc2, rc3, rc4, rf0, rf1, rf2, rf3, rf4⟩ := czq BX
  go_upto_region 14 with (first | (go_at_call 11; (refine hm.mono ?_); rintro e w10 ⟨rfl, hp1, hp2, hp4, hb, hk⟩; have HB := Aside0.mk hb; have HK := Aside0.mk hk; have Op1 := Aside0.mk hp1; have Op2 := Aside0.mk hp2; have Op4 := Aside0.mk hp4; clear hb hk hm hp1 hp2 hp4))
  clear rc0 rc1 rc2 rc3 rc4 rf0 rf1 rf2 rf3 rf4
  replace Os1 := Aside0.mk (Kd.R_below Fs1.out HB.out)
  replace Cx1 := Aside0.mk (Kd.C_below FC1.out HB.out)
  replace Os2 := Aside0.mk (Kd.R_below Fs2.out HB.out)
  replace Cx2 := Aside0.mk (Kd.C_below FC2.out HB.out)
  replace Os4 := Aside0.mk (Kd.R_below Fs4.out HB.out)
  replace Cx4 := Aside0.mk (Kd.C_below FC4.out HB.out)
  replace BA := Aside0.mk (blk_below FBA.out HB.out)
  replace BS := Aside0.mk (blk_below FBS.out HB.out)
  replace BE := Aside0.mk (blk_below FBE.out HB.out)
  replace K0 := Aside0.mk (below_step FK0.out HB.out)
  replace K3 := HB
  replace Od1 := Aside0.mk (R_keptB Od1.out LA HK.out)
  replace Od2 := Aside0.mk (R_keptB Od2.out LA HK.out)
  replace Od4 := Aside0.mk (R_keptB Od4.out LA HK.out)
  replace BG := Aside0.mk ((HK.out.2 gg (blk_lt BG.out) (fun h => absurd (LA gg h) (Nat.not_lt.2 GEgg.out))).trans BG.out)
  clear HB HK Op1 Op2 Op4
  have hq := laws_eqWork.calls ke g0 _ _ g1 _ _ g2 g3 _ _ g4 g0 _ _ g1 _ _ g2 g3 _ _ g4 true w10 (Kd.R_reads' Od1.out).2.2 (Kd.R_reads' Od1.out).2.1 (Kd.R_reads' Od2.out).2.2 (Kd.R_reads' Od2.out).2.1 (Kd.R_reads' Od4.out).2.2 (Kd.R_reads' Od4.out).2.1 (Kd.R_reads' Os1.out).2.2 (Kd.R_reads' Os1.out).2.1 (Kd.R_reads' Os2.out).2.2 (Kd.R_reads' Os2.out).2.1 (Kd.R_reads' Os4.out).2.2 (Kd.R_reads' Os4.out).2.1 HE_.out
  obtain ⟨rc0, rc1, rc2, rc3, rc4, rf0, rf1, rf2, rf3, rf4⟩ := czq BG
  obtain ⟨tc0, tc1, tc2, tc3, tc4, tf0, tf1, tf2, tf3, tf4⟩ := czq BS
  go_upto_region 16 with (first | (go_at_call 10; (refine hq.mono ?_); rintro e w11 ⟨rfl, hb⟩; have HB := Aside0.mk hb; clear hb hq))
  clear rc0 rc1 rc2 rc3 rc4 rf0 rf1 rf2 rf3 rf4 tc0 tc1 tc2 tc3 tc4 tf0 tf1 tf2 tf3 tf4
  replace Os1 := Aside0.mk (Kd.R_below Os1.out HB.out)
  replace Os2 := Aside0.mk (Kd.R_below Os2.out HB.out)
  replace Os4 := Aside0.mk (Kd.R_below Os4.out HB.out)
  replace Od1 := Aside0.mk (Kd.R_below Od1.out HB.out)
  replace Od2 := Aside0.mk (Kd.R_below Od2.out HB.out)
  replace Od4 := Aside0.mk (Kd.R_below Od4.out HB.out)
  replace BS := Aside0.mk (blk_below BS.out HB.out)
  replace BG := Aside0.mk (blk_below BG.out HB.out)
  replace BE := Aside0.mk (blk_below BE.out HB.out)
  replace Cx1 := Aside0.mk (Kd.C_below Cx1.out HB.out)
  replace Cx2 := Aside0.mk (Kd.C_below Cx2.out HB.out)
  replace Cx4 := Aside0.mk (Kd.C_below Cx4.out HB.out)
  replace K0 := Aside0.mk (below_step K0.out HB.out)
  replace K3 := Aside0.mk (below_step K3.out HB.out)
  clear HB
  have hm := laws_markWork.calls km2 g0 (fun k_ => some k_ = (.slice Ad1 g1.length cd1 : Value).ownBlock) (.slice Ad1 g1.length cd1) g1 (fun k_ => some k_ = (.slice Ad2 g2.length cd2 : Value).ownBlock) (.slice Ad2 g2.length cd2) g2 g3 (fun k_ => some k_ = (.slice Ad4 g4.length cd4 : Value).ownBlock) (.slice Ad4 g4.length cd4) g4 1 mk2 q1 q2 q4 W3 w11 K3.out (R_tightB rfl (Kd.R_lower Od1.out K34.out)) (fun k h1 => NEd1_2.out k h1.symm) (R_tightB rfl (Kd.R_lower Od2.out K34.out)) (fun k h1 => NEd2_1.out k h1.symm) (R_tightB rfl (Kd.R_lower Od4.out K34.out)) HM2_.out
  obtain ⟨rc0, rc1, rc2, rc3, rc4, rf0, rf1, rf2, rf3, rf4⟩ := czq BG
  go_upto_region 18 with (first | (go_at_call 11; (refine hm.mono ?_); rintro e w12 ⟨rfl, hp1, hp2, hp4, hb, hk⟩; have HB := Aside0.mk hb; have HK := Aside0.mk hk; have Oq1 := Aside0.mk hp1; have Oq2 := Aside0.mk hp2; have Oq4 := Aside0.mk hp4; clear hb hk hm hp1 hp2 hp4))
  clear rc0 rc1 rc2 rc3 rc4 rf0 rf1 rf2 rf3 rf4
  replace Os1 := Aside0.mk (Kd.R_below Fs1.out HB.out)
  replace Cx1 := Aside0.mk (Kd.C_below FC1.out HB.out)
  replace Os2 := Aside0.mk (Kd.R_below Fs2.out HB.out)
  replace Cx2 := Aside0.mk (Kd.C_below FC2.out HB.out)
  replace Os4 := Aside0.mk (Kd.R_below Fs4.out HB.out)
  replace Cx4 := Aside0.mk (Kd.C_below FC4.out HB.out)
  replace BA := Aside0.mk (blk_below FBA.out HB.out)
  replace BS := Aside0.mk (blk_below FBS.out HB.out)
  replace BE := Aside0.mk (blk_below FBE.out HB.out)
  replace K0 := Aside0.mk (below_step FK0.out HB.out)
  replace K3 := HB
  replace BG := Aside0.mk ((HK.out.2 gg (blk_lt BG.out) (fun h => h.elim (fun h => own_ne' Od1.out BG.out (by decide) h) (fun h => h.elim (fun h => own_ne' Od2.out BG.out (by decide) h) (fun h => own_ne' Od4.out BG.out (by decide) h)))).trans BG.out)
  clear HB HK
  have hh := laws_heldWork.calls kh g0 _ _ q1 _ _ q2 g3 _ _ q4 1 mk2 w12 (Kd.R_reads' Oq1.out).2.2 (show _ ≤ _ from hl1 ▸ (Kd.R_reads' Oq1.out).2.1) (Kd.R_reads' Oq2.out).2.2 (show _ ≤ _ from hl2 ▸ (Kd.R_reads' Oq2.out).2.1) (Kd.R_reads' Oq4.out).2.2 (show _ ≤ _ from hl4 ▸ (Kd.R_reads' Oq4.out).2.1) HH_.out
  rw [hl1, hl2, hl4] at hh
  obtain ⟨rc0, rc1, rc2, rc3, rc4, rf0, rf1, rf2, rf3, rf4⟩ := czq BG
  go_upto_region 24 with (first | (go_at_call 12; (refine hh.mono ?_); rintro e w13 ⟨rfl, hb⟩; have HB := Aside0.mk hb; clear hb hh))
  clear rc0 rc1 rc2 rc3 rc4 rf0 rf1 rf2 rf3 rf4
  replace Os1 := Aside0.mk (Kd.R_below Os1.out HB.out)
  replace Os2 := Aside0.mk (Kd.R_below Os2.out HB.out)
  replace Os4 := Aside0.mk (Kd.R_below Os4.out HB.out)
  replace Oq1 := Aside0.mk (Kd.R_below Oq1.out HB.out)
  replace Oq2 := Aside0.mk (Kd.R_below Oq2.out HB.out)
  replace Oq4 := Aside0.mk (Kd.R_below Oq4.out HB.out)
  replace BS := Aside0.mk (blk_below BS.out HB.out)
  replace BG := Aside0.mk (blk_below BG.out HB.out)
  replace BA := Aside0.mk (blk_below BA.out HB.out)
  replace BE := Aside0.mk (blk_below BE.out HB.out)
  replace Cx1 := Aside0.mk (Kd.C_below Cx1.out HB.out)
  replace Cx2 := Aside0.mk (Kd.C_below Cx2.out HB.out)
  replace Cx4 := Aside0.mk (Kd.C_below Cx4.out HB.out)
  replace K0 := Aside0.mk (below_step K0.out HB.out)
  clear HB
  have RBA := BA
  have RBE := BE
  have HB := Aside0.mk (Below.refl w13.heap.size w13)
  go_cut [16, 17, 18] (fun v16 v17 v18 wc => ∃ (gh : Nat) (Ah1 : Option Addr) (ch1 : Nat) (Ah2 : Option Addr) (ch2 : Nat) (Ah4 : Option Addr) (ch4 : Nat), v16 = .pointer (some ⟨gh, 0, none⟩) ∧ v17 = .int .i64 r0 ∧ v18 = .bool b ∧ Aside0 (wc.heap[gh]? = some (.cells #[.int .i64 g0, .slice Ah1 g1.length ch1, .slice Ah2 g2.length ch2, .int .i64 g3, .slice Ah4 g4.length ch4] 36 (0, 0))) ∧ Aside0 (Kd.R k40 40 wc w13.heap.size (fun _ => True) (.slice Ah1 g1.length ch1) g1) ∧ Aside0 (Kd.R k40 40 wc w13.heap.size (fun _ => True) (.slice Ah2 g2.length ch2) g2) ∧ Aside0 (Kd.R k56 56 wc w13.heap.size (fun _ => True) (.slice Ah4 g4.length ch4) g4) ∧ Aside0 (Below w13.heap.size w13 wc) ∧ Aside0 (w13.heap.size ≤ gh))
  case first =>
    clear z0 z1 z2 z3 z4 z5r0 hl1 hl2 hl4 HZ_ HE_ HE2_ HM_ HM2_ HH_ hz hq1 hq2 GA GE BA BE BS BG K0 K3 FBA FBS FBE FK0 HS_ GEgs GEgx GEgg K34 LA Fs1 Fs2 Fs4 FC1 FC2 FC4 Os1 Os2 Os4 Oq1 Oq2 Oq4 LU1 LU2 LU4 Ou1 Ou2 Ou4 Od1 Od2 Od4
    have BH := ()
    have nc0 : ∀ w : World, (w.alloc (.cells #[.int .i64 0, .slice none 0 0, .slice none 0 0, .int .i64 0, .slice none 0 0] 36)).cell? ⟨w.heap.size, 0, none⟩ = some (.int .i64 0) := fun w => (blk_cell (blk_new w _) 0).trans rfl
    have nf0 : ∀ w : World, (w.alloc (.cells #[.int .i64 0, .slice none 0 0, .slice none 0 0, .int .i64 0, .slice none 0 0] 36)).frozen? ⟨w.heap.size, 0, none⟩ = false := fun w => blk_frozen (blk_new w _) 0
    have nc1 : ∀ w : World, (w.alloc (.cells #[.int .i64 0, .slice none 0 0, .slice none 0 0, .int .i64 0, .slice none 0 0] 36)).cell? ⟨w.heap.size, 1, none⟩ = some (.slice none 0 0) := fun w => (blk_cell (blk_new w _) 1).trans rfl
    have nf1 : ∀ w : World, (w.alloc (.cells #[.int .i64 0, .slice none 0 0, .slice none 0 0, .int .i64 0, .slice none 0 0] 36)).frozen? ⟨w.heap.size, 1, none⟩ = false := fun w => blk_frozen (blk_new w _) 1
    have nc2 : ∀ w : World, (w.alloc (.cells #[.int .i64 0, .slice none 0 0, .slice none 0 0, .int .i64 0, .slice none 0 0] 36)).cell? ⟨w.heap.size, 2, none⟩ = some (.slice none 0 0) := fun w => (blk_cell (blk_new w _) 2).trans rfl
    have nf2 : ∀ w : World, (w.alloc (.cells #[.int .i64 0, .slice none 0 0, .slice none 0 0, .int .i64 0, .slice none 0 0] 36)).frozen? ⟨w.heap.size, 2, none⟩ = false := fun w => blk_frozen (blk_new w _) 2
    have nc3 : ∀ w : World, (w.alloc (.cells #[.int .i64 0, .slice none 0 0, .slice none 0 0, .int .i64 0, .slice none 0 0] 36)).cell? ⟨w.heap.size, 3, none⟩ = some (.int .i64 0) := fun w => (blk_cell (blk_new w _) 3).trans rfl
    have nf3 : ∀ w : World, (w.alloc (.cells #[.int .i64 0, .slice none 0 0, .slice none 0 0, .int .i64 0, .slice none 0 0] 36)).frozen? ⟨w.heap.size, 3, none⟩ = false := fun w => blk_frozen (blk_new w _) 3
    have nc4 : ∀ w : World, (w.alloc (.cells #[.int .i64 0, .slice none 0 0, .slice none 0 0, .int .i64 0, .slice none 0 0] 36)).cell? ⟨w.heap.size, 4, none⟩ = some (.slice none 0 0) := fun w => (blk_cell (blk_new w _) 4).trans rfl
    have nf4 : ∀ w : World, (w.alloc (.cells #[.int .i64 0, .slice none 0 0, .slice none 0 0, .int .i64 0, .slice none 0 0] 36)).frozen? ⟨w.heap.size, 4, none⟩ = false := fun w => blk_frozen (blk_new w _) 4
    go_region_held3 (fun w' => w'.cell? ⟨ga, 0, none⟩ = some (.int .i64 x0) ∧ w'.cell? ⟨ga, 1, none⟩ = some (.slice Ax1 x1.length cx1) ∧ w'.cell? ⟨ga, 2, none⟩ = some (.slice Ax2 x2.length cx2) ∧ w'.cell? ⟨ga, 3, none⟩ = some (.int .i64 x3) ∧ w'.cell? ⟨ga, 4, none⟩ = some (.slice Ax4 x4.length cx4) ∧ w'.cell? ⟨ge, 0, none⟩ = some (.int .i64 e0) ∧ w'.cell? ⟨ge, 1, none⟩ = some (.int .i64 e1)) (first | exact ⟨(blk_cell (bf RBA NRBA) 0).trans rfl, (blk_cell (bf RBA NRBA) 1).trans rfl, (blk_cell (bf RBA NRBA) 2).trans rfl, (blk_cell (bf RBA NRBA) 3).trans rfl, (blk_cell (bf RBA NRBA) 4).trans rfl, (blk_cell (bf RBE NRBE) 0).trans rfl, (blk_cell (bf RBE NRBE) 1).trans rfl⟩ | exact ⟨(blk_cell (bk RBA) 0).trans rfl, (blk_cell (bk RBA) 1).trans rfl, (blk_cell (bk RBA) 2).trans rfl, (blk_cell (bk RBA) 3).trans rfl, (blk_cell (bk RBA) 4).trans rfl, (blk_cell (bk RBE) 0).trans rfl, (blk_cell (bk RBE) 1).trans rfl⟩) (first | (go_at_call 7; (refine (laws_toWork.calls kt x0 _ _ x1 _ _ x2 x3 _ _ x4 y0 y1 y2 y3 y4 _ (Kd.C_below Cx1.out (bs HB)) Ex1.out (Kd.C_below Cx2.out (bs HB)) Ex2.out (Kd.C_below Cx4.out (bs HB)) Ex4.out HT_.out).mono ?_); rintro e w14 ⟨vt1, vt2, vt4, rfl, ht1, ht2, ht4, hb⟩; obtain ⟨At1, ct1, et1⟩ := Kd.R_slice ht1; subst et1; have Ot1 := Aside0.mk ht1; obtain ⟨At2, ct2, et2⟩ := Kd.R_slice ht2; subst et2; have Ot2 := Aside0.mk ht2; obtain ⟨At4, ct4, et4⟩ := Kd.R_slice ht4; subst et4; have Ot4 := Aside0.mk ht4; have NEt1_2 := Aside0.mk (fun k hk => ht1.1 k hk); have NEt2_1 := Aside0.mk (fun k hk => ht2.1 k hk); (try replace BH := nb BH hb); (try ((first | have hn_ := newbox hb | have hn_ := newboxD hb); obtain ⟨gh, hg, BH⟩ := hn_; (try replace hg : gh = w13.heap.size := hg); have G_ := Aside0.mk ((by rw [hg]; exact below_size (bs HB)) : w13.heap.size ≤ gh); have NRBA := nn RBA hg; have NRBE := nn RBE hg; subst hg)); replace RBA := nb RBA hb; replace RBE := nb RBE hb; replace HB := Aside0.mk (below_step (bs HB) hb); clear hb ht1 ht2 ht4) | (go_at_call 8; (refine (laws_toExtent.calls e0 e1 d0 d1 _ HTE_.out).mono ?_); rintro e w14e ⟨rfl, hb⟩; (try replace Ot1 := nr Ot1 hb); (try replace Ot2 := nr Ot2 hb); (try replace Ot4 := nr Ot4 hb); (try replace BH := nb BH hb); (try ((first | have hn_ := newbox hb | have hn_ := newboxD hb); obtain ⟨gh, hg, BH⟩ := hn_; (try replace hg : gh = w13.heap.size := hg); have G_ := Aside0.mk ((by rw [hg]; exact below_size (bs HB)) : w13.heap.size ≤ gh); have NRBA := nn RBA hg; have NRBE := nn RBE hg; subst hg)); replace RBA := nb RBA hb; replace RBE := nb RBE hb; replace HB := Aside0.mk (below_step (bs HB) hb); clear hb) | (go_at_call 9; (refine (impl_PromiseFree.calls ki y0 _ _ y1 _ _ y2 y3 _ _ y4 d0 d1 g0 g1 g2 g3 g4 r0 b _ (rc0 Ot1) (Kd.R_reads' Ot1.out).2.1 (rc0 Ot2) (Kd.R_reads' Ot2.out).2.1 (rc0 Ot4) (Kd.R_reads' Ot4.out).2.1 HI_.out).mono ?_); rintro e wb ⟨vh1, vh2, vh4, rfl, hh1, hh2, hh4, hb⟩; obtain ⟨Ah1, ch1, eh1⟩ := Kd.R_slice hh1; subst eh1; have Oh1 := Aside0.mk hh1; obtain ⟨Ah2, ch2, eh2⟩ := Kd.R_slice hh2; subst eh2; have Oh2 := Aside0.mk hh2; obtain ⟨Ah4, ch4, eh4⟩ := Kd.R_slice hh4; subst eh4; have Oh4 := Aside0.mk hh4; have NEh1_2 := Aside0.mk (fun k hk => hh1.1 k hk); have NEh2_1 := Aside0.mk (fun k hk => hh2.1 k hk); replace Oh1 := Aside0.mk (Kd.R_lower Oh1.out (below_size (bs HB))); replace Oh2 := Aside0.mk (Kd.R_lower Oh2.out (below_size (bs HB))); replace Oh4 := Aside0.mk (Kd.R_lower Oh4.out (below_size (bs HB))); (try replace BH := nb BH hb); (try ((first | have hn_ := newbox hb | have hn_ := newboxD hb); obtain ⟨gh, hg, BH⟩ := hn_; (try replace hg : gh = w13.heap.size := hg); have G_ := Aside0.mk ((by rw [hg]; exact below_size (bs HB)) : w13.heap.size ≤ gh); have NRBA := nn RBA hg; have NRBE := nn RBE hg; subst hg)); replace RBA := nb RBA hb; replace RBE := nb RBE hb; replace HB := Aside0.mk (below_step (bs HB) hb); clear hb hh1 hh2 hh4; (try (have hz_ := czq BH; obtain ⟨zc0, zc1, zc2, zc3, zc4, zf0, zf1, zf2, zf3, zf4⟩ := hz_))))
    all_goals (go_wp2; go_meet; (case rel => first | (have hG_ := G_; exact ⟨_, Ah1, ch1, Ah2, ch2, Ah4, ch4, rfl, rfl, rfl, ⟨(blk_put (cs := #[.int .i64 g0, .slice Ah1 g1.length ch1, .slice Ah2 g2.length ch2, .int .i64 g3, .slice none 0 0]) (blk_put (cs := #[.int .i64 g0, .slice Ah1 g1.length ch1, .slice Ah2 g2.length ch2, .int .i64 0, .slice none 0 0]) (blk_put (cs := #[.int .i64 g0, .slice Ah1 g1.length ch1, .slice none 0 0, .int .i64 0, .slice none 0 0]) (blk_put (cs := #[.int .i64 g0, .slice none 0 0, .slice none 0 0, .int .i64 0, .slice none 0 0]) (blk_put (cs := #[.int .i64 0, .slice none 0 0, .slice none 0 0, .int .i64 0, .slice none 0 0]) BH.out 0 (.int .i64 g0) rfl) 1 (.slice Ah1 g1.length ch1) rfl) 2 (.slice Ah2 g2.length ch2) rfl) 3 (.int .i64 g3) rfl) 4 (.slice Ah4 g4.length ch4) rfl)⟩, ⟨rfU Oh1 BH⟩, ⟨rfU Oh2 BH⟩, ⟨rfU Oh4 BH⟩, ⟨bs1 HB G_⟩, G_⟩) | exact ⟨_, Ah1, ch1, Ah2, ch2, Ah4, ch4, rfl, rfl, rfl, ⟨blk_new wb _⟩, ⟨Kd.R_mono (rr Oh1.out) (fun _ _ => trivial)⟩, ⟨Kd.R_mono (rr Oh2.out) (fun _ _ => trivial)⟩, ⟨Kd.R_mono (rr Oh4.out) (fun _ _ => trivial)⟩, ⟨bs HB⟩, ⟨below_size HB.out⟩⟩))
  clear HB RBA RBE
  obtain ⟨gh, Ah1, ch1, Ah2, ch2, Ah4, ch4, rfl, rfl, rfl, BH, Oh1, Oh2, Oh4, HB, GEgh⟩ := hcut
  rename World => W9
  replace Os1 := Aside0.mk (Kd.R_below Os1.out HB.out)
  replace Os2 := Aside0.mk (Kd.R_below Os2.out HB.out)
  replace Os4 := Aside0.mk (Kd.R_below Os4.out HB.out)
  replace Oq1 := Aside0.mk (Kd.R_below Oq1.out HB.out)
  replace Oq2 := Aside0.mk (Kd.R_below Oq2.out HB.out)
  replace Oq4 := Aside0.mk (Kd.R_below Oq4.out HB.out)
  replace BS := Aside0.mk (blk_below BS.out HB.out)
  replace BG := Aside0.mk (blk_below BG.out HB.out)
  replace Cx1 := Aside0.mk (Kd.C_below Cx1.out HB.out)
  replace Cx2 := Aside0.mk (Kd.C_below Cx2.out HB.out)
  replace Cx4 := Aside0.mk (Kd.C_below Cx4.out HB.out)
  replace K0 := Aside0.mk (below_step K0.out HB.out)
  clear HB
  have hq := laws_eqWork.calls ke g0 _ _ g1 _ _ g2 g3 _ _ g4 g0 _ _ g1 _ _ g2 g3 _ _ g4 true W9 (Kd.R_reads' Oh1.out).2.2 (Kd.R_reads' Oh1.out).2.1 (Kd.R_reads' Oh2.out).2.2 (Kd.R_reads' Oh2.out).2.1 (Kd.R_reads' Oh4.out).2.2 (Kd.R_reads' Oh4.out).2.1 (Kd.R_reads' Os1.out).2.2 (Kd.R_reads' Os1.out).2.1 (Kd.R_reads' Os2.out).2.2 (Kd.R_reads' Os2.out).2.1 (Kd.R_reads' Os4.out).2.2 (Kd.R_reads' Os4.out).2.1 HE_.out
  obtain ⟨rc0, rc1, rc2, rc3, rc4, rf0, rf1, rf2, rf3, rf4⟩ := czq BH
  obtain ⟨tc0, tc1, tc2, tc3, tc4, tf0, tf1, tf2, tf3, tf4⟩ := czq BS
  go_upto_region 27 with (first | (go_at_call 10; (refine hq.mono ?_); rintro e w16 ⟨rfl, hb⟩; have HB := Aside0.mk hb; clear hb hq))
  clear rc0 rc1 rc2 rc3 rc4 rf0 rf1 rf2 rf3 rf4 tc0 tc1 tc2 tc3 tc4 tf0 tf1 tf2 tf3 tf4
  replace Oq1 := Aside0.mk (Kd.R_below Oq1.out HB.out)
  replace Oq2 := Aside0.mk (Kd.R_below Oq2.out HB.out)
  replace Oq4 := Aside0.mk (Kd.R_below Oq4.out HB.out)
  replace BG := Aside0.mk (blk_below BG.out HB.out)
  replace K0 := Aside0.mk (below_step K0.out HB.out)
  clear HB
  have hh := laws_heldWork.calls kh g0 _ _ q1 _ _ q2 g3 _ _ q4 1 mk2 w16 (Kd.R_reads' Oq1.out).2.2 (show _ ≤ _ from hl1 ▸ (Kd.R_reads' Oq1.out).2.1) (Kd.R_reads' Oq2.out).2.2 (show _ ≤ _ from hl2 ▸ (Kd.R_reads' Oq2.out).2.1) (Kd.R_reads' Oq4.out).2.2 (show _ ≤ _ from hl4 ▸ (Kd.R_reads' Oq4.out).2.1) HH_.out
  rw [hl1, hl2, hl4] at hh
  obtain ⟨rc0, rc1, rc2, rc3, rc4, rf0, rf1, rf2, rf3, rf4⟩ := czq BG
  go_wp2_with (first | (go_at_call 12; (refine hh.mono ?_); rintro e w17 ⟨rfl, hb⟩; replace K0 := Aside0.mk (below_step K0.out hb); clear hb hh))
  go_ret
  exact ⟨by first | rfl | (simp; done) | (simp [*]; done), bs K0⟩
end Go.Proofs.Ytpfimjgfojdhhaa.G
