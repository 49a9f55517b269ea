/- The law FnExactDropName, walked by hand. No statement. -/
import Derived.Test.YtfbjeppfnlfejaaDoorNewMarkS
import Derived.Test.YtfbjeppfnlfejaaDoorDropImpl
import Derived.Test.YtfbjeppfnlfejaaDoorG1
import Derived.Test.YtfbjeppfnlfejaaDoorG3
import Derived.Test.YtfbjeppfnlfejaaDoorG5
namespace Go.Proofs.YtfbjeppfnlfejaaDoor.G
open Go.RowKit Go.Proofs.YtfbjeppfnlfejaaDoorW.PrintWords Go.Proofs.YtfbjeppfnlfejaaDoorW.PrintLast Go.Proofs.YtfbjeppfnlfejaaDoorW.PrintMore
set_option linter.unusedVariables false
set_option linter.unusedSimpArgs false
theorem R_keptB {α : Type} {d : Kd α} {e : Nat} {w w1 : World} {base : Nat} {ok P : Nat → Prop} {v : Value} {xs : List α} (h : d.R e w base ok v xs) (hP : ∀ k, P k → k < base) (hk : Kept w w1 P) : d.R e w1 base ok v xs :=
  Kd.R_mono (Kd.R_step (Kd.R_bound h) (fun k hb hlt => hk.2 k hlt (fun hp => absurd (hP k hp) (Nat.not_lt.2 hb.2.1)))) (fun k h => h.1)
theorem S_keptB {α : Type} {d : Kd α} {e : Nat} {w w1 : World} {base : Nat} {ok P : Nat → Prop} {v : Value} {xs : List α} (h : Kd.S d e w base ok v xs) (hP : ∀ k, P k → k < base) (hk : Kept w w1 P) : Kd.S d e w1 base ok v xs :=
  Kd.S_mono (Kd.S_step (Kd.S_bound h) (fun k hb hlt => hk.2 k hlt (fun hp => absurd (hP k hp) (Nat.not_lt.2 hb.2.1)))) (fun k h => h.1)
set_option maxHeartbeats 16000000 in
set_option maxRecDepth 100000 in
theorem laws_FnExactDropName.long (x0 : Int) (x1 : List Int) (x2 : List S60) (sm : ByteArray) (hs : ¬ sm.size ≤ 1048576) (w : World) {Ax1 : Option Addr} {cx1 : Nat} (hx1 : Kd.C (Kd.int .i64) w Ax1 x1.length x1) (he1 : x1.length ≤ cx1) {Ax2 : Option Addr} {cx2 : Nat} (hx2 : Kd.C k60 w Ax2 x2.length x2) (he2 : x2.length ≤ cx2) :
    Calls Tryd.prog 3 #[.agg #[.int .i64 x0, .slice Ax1 x1.length cx1, .slice Ax2 x2.length cx2], .string sm] w fun e w' => e = .returned (.bool true) ∧ Below w.heap.size w w' := by
  have hu1 := Tryd.underlying25
  have hu2 := Tryd.underlying29
  have Cx1 := Ah hx1
  have Ex1 := Ah he1
  have Cx2 := Ah hx2
  have Ex2 := Ah he2
  clear hx1 he1 hx2 he2
  have z5 : decide ((1048576 : Int) < (sm.size : Int)) = true := decide_eq_true (by omega)
  have HB := Ah (Below.refl w.heap.size w)
  go_enter Tryd.func3, Tryd.ntmps3
  go_wp2_with (first | ((with_reducible refine gate_dst (N := 2) rfl ?_); refine boxL 2 25 #[.int .i64 x0, .slice Ax1 x1.length cx1, .slice Ax2 x2.length cx2] ?_; intro ga hg w1 BA hb; have G_ := gw hg (bs HB); replace HB := Ah (below_step (bs HB) hb); clear hb hg; replace Cx1 := Ah (Kd.C_below Cx1.out HB.out); replace Cx2 := Ah (Kd.C_below Cx2.out HB.out); obtain ⟨zc0, zc1, zc2, zf0, zf1, zf2⟩ := czD BA))
  go_ret
  exact ⟨er, bs HB⟩
set_option maxHeartbeats 16000000 in
set_option maxRecDepth 100000 in
theorem laws_FnExactDropName.early (kz : Nat) (x0 : Int) (x1 : List Int) (x2 : List S60) (sm : ByteArray) (z : Int) (hs : sm.size ≤ 1048576) (hZ : laws_szDir.f kz x0 x1 x2 1048576 = some z) (hz : z < 0) (w : World) {Ax1 : Option Addr} {cx1 : Nat} (hx1 : Kd.C (Kd.int .i64) w Ax1 x1.length x1) (he1 : x1.length ≤ cx1) {Ax2 : Option Addr} {cx2 : Nat} (hx2 : Kd.C k60 w Ax2 x2.length x2) (he2 : x2.length ≤ cx2) :
    Calls Tryd.prog 3 #[.agg #[.int .i64 x0, .slice Ax1 x1.length cx1, .slice Ax2 x2.length cx2], .string sm] w fun e w' => e = .returned (.bool true) ∧ Below w.heap.size w w' := by
  have hu1 := Tryd.underlying25
  have hu2 := Tryd.underlying29
  have Cx1 := Ah hx1
  have Ex1 := Ah he1
  have Cx2 := Ah hx2
  have Ex2 := Ah he2
  clear hx1 he1 hx2 he2
  have HZ_ := Ah hZ
  clear hZ
  have z0 : decide (z < 0) = true := decide_eq_true hz
  have z5 : decide ((1048576 : Int) < (sm.size : Int)) = false := decide_eq_false (by omega)
  have HB := Ah (Below.refl w.heap.size w)
  go_enter Tryd.func3, Tryd.ntmps3
  go_wp2_with (first | ((with_reducible refine gate_dst (N := 2) rfl ?_); refine boxL 2 25 #[.int .i64 x0, .slice Ax1 x1.length cx1, .slice Ax2 x2.length cx2] ?_; intro ga hg w1 BA hb; have G_ := gw hg (bs HB); replace HB := Ah (below_step (bs HB) hb); clear hb hg; replace Cx1 := Ah (Kd.C_below Cx1.out HB.out); replace Cx2 := Ah (Kd.C_below Cx2.out HB.out); obtain ⟨zc0, zc1, zc2, zf0, zf1, zf2⟩ := czD BA) | (go_at_call 4; (refine (laws_szDir.calls kz x0 _ _ x1 _ _ x2 1048576 z _ Cx1.out Ex1.out Cx2.out Ex2.out HZ_.out).mono ?_); rintro e w2 ⟨rfl, hb⟩; replace HB := Ah (below_step HB.out hb); clear hb))
  go_ret
  exact ⟨er, bs HB⟩
set_option maxHeartbeats 16000000 in
set_option maxRecDepth 100000 in
theorem laws_FnExactDropName.run (kz kt ke ke2 km km' kn kn' kh : Nat) (x0 : Int) (x1 : List Int) (x2 : List S60) (sm : ByteArray) (y0 : Int) (y1 : List Int) (y2 : List S46) (G0 : Int) (G1 : List Int) (G2 : List S46) (p1 q1 : List Int) (p2 q2 : List S46) (z t mk1 t2 mk2 : Int) (b : Bool) (hs : sm.size ≤ 1048576)
    (hZ : laws_szDir.f kz x0 x1 x2 1048576 = some z) (hz : ¬ z < 0) (hT : laws_toDir.f kt x0 x1 x2 = some (y0, y1, y2)) (hS : SpecDrop y0 y1 y2 sm G0 G1 G2 b) (hI : ImplDrop y0 y1 y2 sm G0 G1 G2 b)
    (hE : laws_eqDir.f ke G0 G1 G2 G0 G1 G2 = some true) (hE2 : laws_eqDir.f ke2 y0 y1 y2 y0 y1 y2 = some true) (hM : laws_markIntS.f km y1 1 = some (t, p1)) (hC : laws_markBucketS.f km' y2 t = some (mk1, p2)) (hq1 : ¬ mk1 < 0) (hM2 : laws_markIntS.f kn G1 1 = some (t2, q1)) (hC2 : laws_markBucketS.f kn' G2 t2 = some (mk2, q2)) (hq2 : ¬ mk2 < 0) (hH : laws_heldDir.f kh G0 q1 q2 1 = some mk2) (hl1 : q1.length = G1.length) (hl2 : q2.length = G2.length) (w : World) {Ax1 : Option Addr} {cx1 : Nat} (hx1 : Kd.C (Kd.int .i64) w Ax1 x1.length x1) (he1 : x1.length ≤ cx1) {Ax2 : Option Addr} {cx2 : Nat} (hx2 : Kd.C k60 w Ax2 x2.length x2) (he2 : x2.length ≤ cx2) :
    Calls Tryd.prog 3 #[.agg #[.int .i64 x0, .slice Ax1 x1.length cx1, .slice Ax2 x2.length cx2], .string sm] w fun e w' => e = .returned (.bool true) ∧ Below w.heap.size w w' := by
  have hu1 := Tryd.underlying25
  have hu2 := Tryd.underlying29
  have Cx1 := Ah hx1
  have Ex1 := Ah he1
  have Cx2 := Ah hx2
  have Ex2 := Ah he2
  clear hx1 he1 hx2 he2
  have HZ_ := Ah hZ
  clear hZ
  have z0 : decide (z < 0) = false := decide_eq_false hz
  have z5 : decide ((1048576 : Int) < (sm.size : Int)) = false := decide_eq_false (by omega)
  have HB := Ah (Below.refl w.heap.size w)
  have HT_ := Ah hT
  clear hT
  have HS_ := Ah hS
  clear hS
  have HI_ := Ah hI
  clear hI
  have HE_ := Ah hE
  clear hE
  have HE2_ := Ah hE2
  clear hE2
  have HM_ := Ah hM
  clear hM
  have HC_ := Ah hC
  clear hC
  have HM2_ := Ah hM2
  clear hM2
  have HC2_ := Ah hC2
  clear hC2
  have HH_ := Ah hH
  clear hH
  have z1 : decide (mk1 < 0) = false := decide_eq_false hq1
  have z2 : decide (mk2 < 0) = false := decide_eq_false hq2
  have z3 : (mk2 != mk2) = false := by simp
  have z4 : (b != b) = false := by simp
  go_enter Tryd.func3, Tryd.ntmps3
  go_upto_region 7 with (first | ((with_reducible refine gate_dst (N := 2) rfl ?_); refine boxL 2 25 #[.int .i64 x0, .slice Ax1 x1.length cx1, .slice Ax2 x2.length cx2] ?_; intro ga hg w1 BA hb; have G_ := gw hg (bs HB); replace HB := Ah (below_step (bs HB) hb); clear hb hg; replace Cx1 := Ah (Kd.C_below Cx1.out HB.out); replace Cx2 := Ah (Kd.C_below Cx2.out HB.out); obtain ⟨zc0, zc1, zc2, zf0, zf1, zf2⟩ := czD BA) | (go_at_call 4; (refine (laws_szDir.calls kz x0 _ _ x1 _ _ x2 1048576 z _ Cx1.out Ex1.out Cx2.out Ex2.out HZ_.out).mono ?_); rintro e w2 ⟨rfl, hb⟩; have HS1 := Ah hb; clear hb))
  clear zc0 zc1 zc2 zf0 zf1 zf2
  replace BA := Ah (blk_below BA.out HS1.out)
  replace Cx1 := Ah (Kd.C_below Cx1.out HS1.out)
  replace Cx2 := Ah (Kd.C_below Cx2.out HS1.out)
  have K0 := Ah (below_step HB.out HS1.out)
  clear HB HS1 G_
  obtain ⟨rc0, rc1, rc2, rf0, rf1, rf2⟩ := czD BA
  go_upto_region 8 with (first | (go_at_call 6; (refine (laws_toDir.calls kt x0 _ _ x1 _ _ x2 y0 y1 y2 _ Cx1.out Ex1.out Cx2.out Ex2.out HT_.out).mono ?_); rintro e w3 ⟨vt1, vt2, rfl, ht1, ht2, hb⟩; obtain ⟨At1, ct1, et1⟩ := Kd.R_slice ht1; subst et1; have Ot1 := Ah ht1; obtain ⟨At2, ct2, et2⟩ := Kd.S_slice ht2; subst et2; have Ot2 := Ah ht2; have HB := Ah hb; clear hb ht1 ht2) | (go_at_call 5; (refine (spec_DropName.calls y0 _ _ y1 _ _ y2 sm G0 G1 G2 b _ (Kd.R_reads' (rr Ot1.out)).2.2 (Kd.R_reads' Ot1.out).2.1 (Kd.S_reads' (ssD Ot2)).2.2 (Kd.S_reads' Ot2.out).2.1 HS_.out).mono ?_); rintro e w4 ⟨vs1, vs2, rfl, hs1, hs2, hb⟩; obtain ⟨As1, cs1, es1⟩ := Kd.R_slice hs1; subst es1; have Os1 := Ah hs1; obtain ⟨As2, cs2, es2⟩ := Kd.S_slice hs2; subst es2; have Os2 := Ah hs2; replace HB := Ah (below_step HB.out hb); clear hb hs1 hs2) | ((with_reducible refine gate_dst (N := 6) rfl ?_); refine boxL 6 29 #[.int .i64 0, .slice none 0 0, .slice none 0 0] ?_; intro gs hg wb BS hb; replace Os1 := nr Os1 hb; replace Os2 := sbD Os2 hb; have G_ := gw hg (bs HB); replace HB := Ah (below_step (bs HB) hb); clear hb hg; obtain ⟨zc0, zc1, zc2, zf0, zf1, zf2⟩ := czD BS))
  clear rc0 rc1 rc2 rf0 rf1 rf2
  clear Ot1 Ot2
  have n0 : Aside0 ((((wb.setCell ⟨gs, 0, none⟩ (.int .i64 G0)).setCell ⟨gs, 1, none⟩ (.slice As1 G1.length cs1)).setCell ⟨gs, 2, none⟩ (.slice As2 G2.length cs2)).heap[gs]? = some (.cells #[.int .i64 G0, .slice As1 G1.length cs1, .slice As2 G2.length cs2] 29 (0, 0))) := ⟨(blk_put (cs := #[.int .i64 G0, .slice As1 G1.length cs1, .slice none 0 0]) (blk_put (cs := #[.int .i64 G0, .slice none 0 0, .slice none 0 0]) (blk_put (cs := #[.int .i64 0, .slice none 0 0, .slice none 0 0]) BS.out 0 (.int .i64 G0) rfl) 1 (.slice As1 G1.length cs1) rfl) 2 (.slice As2 G2.length cs2) rfl)⟩
  have m1 : Aside0 (Kd.R (Kd.int .i64) 3 (((wb.setCell ⟨gs, 0, none⟩ (.int .i64 G0)).setCell ⟨gs, 1, none⟩ (.slice As1 G1.length cs1)).setCell ⟨gs, 2, none⟩ (.slice As2 G2.length cs2)) _ (fun _ => True) (.slice As1 G1.length cs1) G1) := ⟨rfU Os1 BS⟩
  have m2 : Aside0 (Kd.S k46 46 (((wb.setCell ⟨gs, 0, none⟩ (.int .i64 G0)).setCell ⟨gs, 1, none⟩ (.slice As1 G1.length cs1)).setCell ⟨gs, 2, none⟩ (.slice As2 G2.length cs2)) _ (fun _ => True) (.slice As2 G2.length cs2) G2) := ⟨sfU Os2 BS⟩
  have n9 : Aside0 (Below w2.heap.size w2 (((wb.setCell ⟨gs, 0, none⟩ (.int .i64 G0)).setCell ⟨gs, 1, none⟩ (.slice As1 G1.length cs1)).setCell ⟨gs, 2, none⟩ (.slice As2 G2.length cs2))) := ⟨bs1 HB G_⟩
  clear Os1 Os2 HB BS zc0 zc1 zc2 zf0 zf1 zf2
  generalize (((wb.setCell ⟨gs, 0, none⟩ (.int .i64 G0)).setCell ⟨gs, 1, none⟩ (.slice As1 G1.length cs1)).setCell ⟨gs, 2, none⟩ (.slice As2 G2.length cs2)) = WS at n0 m1 m2 n9 ⊢
  have BS := n0
  have HB := n9
  have Os1 := m1
  have Os2 := m2
  clear n0 n9 m1 m2
  replace BA := Ah (blk_below BA.out HB.out)
  replace Cx1 := Ah (Kd.C_below Cx1.out HB.out)
  replace Cx2 := Ah (Kd.C_below Cx2.out HB.out)
  replace K0 := Ah (below_step K0.out HB.out)
  clear HB G_
  have FBA := BA
  have FCx1 := Cx1
  have FCx2 := Cx2
  have FBS := BS
  have FOs1 := Os1
  have FOs2 := Os2
  have FK0 := K0
  obtain ⟨rc0, rc1, rc2, rf0, rf1, rf2⟩ := czD BA
  go_upto_region 9 with (first | (go_at_call 6; (refine (laws_toDir.calls kt x0 _ _ x1 _ _ x2 y0 y1 y2 _ Cx1.out Ex1.out Cx2.out Ex2.out HT_.out).mono ?_); rintro e w5 ⟨vu1, vu2, rfl, hu1, hu2, hb⟩; obtain ⟨Au1, cu1, eu1⟩ := Kd.R_slice hu1; subst eu1; have Ou1 := Ah hu1; obtain ⟨Au2, cu2, eu2⟩ := Kd.S_slice hu2; subst eu2; have Ou2 := Ah hu2; have HB := Ah hb; clear hb hu1 hu2) | ((with_reducible refine gate_dst (N := 8) rfl ?_); refine boxL 8 29 #[.int .i64 0, .slice none 0 0, .slice none 0 0] ?_; intro gx hg wc BX hb; replace Ou1 := nr Ou1 hb; replace Ou2 := sbD Ou2 hb; have G_ := gw hg (bs HB); replace HB := Ah (below_step (bs HB) hb); clear hb hg; obtain ⟨zc0, zc1, zc2, zf0, zf1, zf2⟩ := czD BX))
  clear rc0 rc1 rc2 rf0 rf1 rf2
  have n0 : Aside0 ((((wc.setCell ⟨gx, 0, none⟩ (.int .i64 y0)).setCell ⟨gx, 1, none⟩ (.slice Au1 y1.length cu1)).setCell ⟨gx, 2, none⟩ (.slice Au2 y2.length cu2)).heap[gx]? = some (.cells #[.int .i64 y0, .slice Au1 y1.length cu1, .slice Au2 y2.length cu2] 29 (0, 0))) := ⟨(blk_put (cs := #[.int .i64 y0, .slice Au1 y1.length cu1, .slice none 0 0]) (blk_put (cs := #[.int .i64 y0, .slice none 0 0, .slice none 0 0]) (blk_put (cs := #[.int .i64 0, .slice none 0 0, .slice none 0 0]) BX.out 0 (.int .i64 y0) rfl) 1 (.slice Au1 y1.length cu1) rfl) 2 (.slice Au2 y2.length cu2) rfl)⟩
  have m1 : Aside0 (Kd.R (Kd.int .i64) 3 (((wc.setCell ⟨gx, 0, none⟩ (.int .i64 y0)).setCell ⟨gx, 1, none⟩ (.slice Au1 y1.length cu1)).setCell ⟨gx, 2, none⟩ (.slice Au2 y2.length cu2)) _ (fun _ => True) (.slice Au1 y1.length cu1) y1) := ⟨rfU Ou1 BX⟩
  have m2 : Aside0 (Kd.S k46 46 (((wc.setCell ⟨gx, 0, none⟩ (.int .i64 y0)).setCell ⟨gx, 1, none⟩ (.slice Au1 y1.length cu1)).setCell ⟨gx, 2, none⟩ (.slice Au2 y2.length cu2)) _ (fun _ => True) (.slice Au2 y2.length cu2) y2) := ⟨sfU Ou2 BX⟩
  have n9 : Aside0 (Below WS.heap.size WS (((wc.setCell ⟨gx, 0, none⟩ (.int .i64 y0)).setCell ⟨gx, 1, none⟩ (.slice Au1 y1.length cu1)).setCell ⟨gx, 2, none⟩ (.slice Au2 y2.length cu2))) := ⟨bs1 HB G_⟩
  clear Ou1 Ou2 HB BX zc0 zc1 zc2 zf0 zf1 zf2
  generalize (((wc.setCell ⟨gx, 0, none⟩ (.int .i64 y0)).setCell ⟨gx, 1, none⟩ (.slice Au1 y1.length cu1)).setCell ⟨gx, 2, none⟩ (.slice Au2 y2.length cu2)) = WX at n0 m1 m2 n9 ⊢
  have BX := n0
  have HB := n9
  have Ou1 := m1
  have Ou2 := m2
  clear n0 n9 m1 m2
  replace BA := Ah (blk_below BA.out HB.out)
  replace Cx1 := Ah (Kd.C_below Cx1.out HB.out)
  replace Cx2 := Ah (Kd.C_below Cx2.out HB.out)
  replace BS := Ah (blk_below BS.out HB.out)
  replace Os1 := Ah (Kd.R_below Os1.out HB.out)
  replace Os2 := Ah (Kd.S_below Os2.out HB.out)
  replace K0 := Ah (below_step K0.out HB.out)
  have K3 := HB
  have K34 := Ah HB.out.size
  clear HB G_
  replace Ou1 := Ah (Kd.R_mono (ok' := fun k => k < WX.heap.size) (Kd.R_bound Ou1.out) (fun k hk => hk.2.2.1))
  replace Ou2 := Ah (Kd.S_mono (ok' := fun k => k < WX.heap.size) (Kd.S_bound Ou2.out) (fun k hk => hk.2.2.1))
  obtain ⟨rc0, rc1, rc2, rf0, rf1, rf2⟩ := czD BX
  go_upto_region 10 with (first | (go_at_call 7; (refine (impl_DropName.calls y0 _ _ y1 _ _ y2 sm G0 G1 G2 b _ (Kd.R_reads' (rr Ou1.out)).2.2 (Kd.R_reads' Ou1.out).2.1 (Kd.S_reads' (ssD Ou2)).2.2 (Kd.S_reads' Ou2.out).2.1 HI_.out).mono ?_); rintro e w6 ⟨vg1, vg2, rfl, hg1, hg2, hb⟩; obtain ⟨Ag1, cg1, eg1⟩ := Kd.R_slice hg1; subst eg1; have Og1 := Ah hg1; obtain ⟨Ag2, cg2, eg2⟩ := Kd.S_slice hg2; subst eg2; have Og2 := Ah hg2; have HB := Ah hb; clear hb hg1 hg2) | ((with_reducible refine gate_dst (N := 9) rfl ?_); refine boxL 9 29 #[.int .i64 0, .slice none 0 0, .slice none 0 0] ?_; intro gg hg wd BG hb; replace Og1 := nr Og1 hb; replace Og2 := sbD Og2 hb; have G_ := gw hg (bs HB); replace HB := Ah (below_step (bs HB) hb); clear hb hg; obtain ⟨zc0, zc1, zc2, zf0, zf1, zf2⟩ := czD BG))
  clear rc0 rc1 rc2 rf0 rf1 rf2
  have n0 : Aside0 ((((wd.setCell ⟨gg, 0, none⟩ (.int .i64 G0)).setCell ⟨gg, 1, none⟩ (.slice Ag1 G1.length cg1)).setCell ⟨gg, 2, none⟩ (.slice Ag2 G2.length cg2)).heap[gg]? = some (.cells #[.int .i64 G0, .slice Ag1 G1.length cg1, .slice Ag2 G2.length cg2] 29 (0, 0))) := ⟨(blk_put (cs := #[.int .i64 G0, .slice Ag1 G1.length cg1, .slice none 0 0]) (blk_put (cs := #[.int .i64 G0, .slice none 0 0, .slice none 0 0]) (blk_put (cs := #[.int .i64 0, .slice none 0 0, .slice none 0 0]) BG.out 0 (.int .i64 G0) rfl) 1 (.slice Ag1 G1.length cg1) rfl) 2 (.slice Ag2 G2.length cg2) rfl)⟩
  have m1 : Aside0 (Kd.R (Kd.int .i64) 3 (((wd.setCell ⟨gg, 0, none⟩ (.int .i64 G0)).setCell ⟨gg, 1, none⟩ (.slice Ag1 G1.length cg1)).setCell ⟨gg, 2, none⟩ (.slice Ag2 G2.length cg2)) _ (fun _ => True) (.slice Ag1 G1.length cg1) G1) := ⟨rfU Og1 BG⟩
  have m2 : Aside0 (Kd.S k46 46 (((wd.setCell ⟨gg, 0, none⟩ (.int .i64 G0)).setCell ⟨gg, 1, none⟩ (.slice Ag1 G1.length cg1)).setCell ⟨gg, 2, none⟩ (.slice Ag2 G2.length cg2)) _ (fun _ => True) (.slice Ag2 G2.length cg2) G2) := ⟨sfU Og2 BG⟩
  have n9 : Aside0 (Below WX.heap.size WX (((wd.setCell ⟨gg, 0, none⟩ (.int .i64 G0)).setCell ⟨gg, 1, none⟩ (.slice Ag1 G1.length cg1)).setCell ⟨gg, 2, none⟩ (.slice Ag2 G2.length cg2))) := ⟨bs1 HB G_⟩
  clear Og1 Og2 HB BG zc0 zc1 zc2 zf0 zf1 zf2
  generalize (((wd.setCell ⟨gg, 0, none⟩ (.int .i64 G0)).setCell ⟨gg, 1, none⟩ (.slice Ag1 G1.length cg1)).setCell ⟨gg, 2, none⟩ (.slice Ag2 G2.length cg2)) = WG at n0 m1 m2 n9 ⊢
  have BG := n0
  have HB := n9
  have Og1 := m1
  have Og2 := m2
  clear n0 n9 m1 m2
  replace BA := Ah (blk_below BA.out HB.out)
  replace Cx1 := Ah (Kd.C_below Cx1.out HB.out)
  replace Cx2 := Ah (Kd.C_below Cx2.out HB.out)
  replace BS := Ah (blk_below BS.out HB.out)
  replace Os1 := Ah (Kd.R_below Os1.out HB.out)
  replace Os2 := Ah (Kd.S_below Os2.out HB.out)
  replace K0 := Ah (below_step K0.out HB.out)
  replace BX := Ah (blk_below BX.out HB.out)
  replace Ou1 := Ah (Kd.R_below Ou1.out HB.out)
  replace Ou2 := Ah (Kd.S_below Ou2.out HB.out)
  replace K3 := Ah (below_step K3.out HB.out)
  have GG := G_
  clear HB G_
  obtain ⟨rc0, rc1, rc2, rf0, rf1, rf2⟩ := czD BG
  obtain ⟨sc0, sc1, sc2, sf0, sf1, sf2⟩ := czD BS
  go_upto_region 12 with (first | (go_at_call 8; (refine (laws_eqDir.calls ke G0 _ _ G1 _ _ G2 G0 _ _ G1 _ _ G2 true _ (Kd.R_reads' (rr Og1.out)).2.2 (Kd.R_reads' Og1.out).2.1 (Kd.S_reads' (ssD Og2)).2.2 (Kd.S_reads' Og2.out).2.1 (Kd.R_reads' (rr Os1.out)).2.2 (Kd.R_reads' Os1.out).2.1 (Kd.S_reads' (ssD Os2)).2.2 (Kd.S_reads' Os2.out).2.1 HE_.out).mono ?_); rintro e w7 ⟨rfl, hb⟩; have HB := Ah hb; clear hb))
  clear rc0 rc1 rc2 rf0 rf1 rf2 sc0 sc1 sc2 sf0 sf1 sf2
  replace BA := Ah (blk_below BA.out HB.out)
  replace Cx1 := Ah (Kd.C_below Cx1.out HB.out)
  replace Cx2 := Ah (Kd.C_below Cx2.out HB.out)
  replace BS := Ah (blk_below BS.out HB.out)
  replace Os1 := Ah (Kd.R_below Os1.out HB.out)
  replace Os2 := Ah (Kd.S_below Os2.out HB.out)
  replace K0 := Ah (below_step K0.out HB.out)
  replace BX := Ah (blk_below BX.out HB.out)
  replace Ou1 := Ah (Kd.R_below Ou1.out HB.out)
  replace Ou2 := Ah (Kd.S_below Ou2.out HB.out)
  replace K3 := Ah (below_step K3.out HB.out)
  replace BG := Ah (blk_below BG.out HB.out)
  replace Og1 := Ah (Kd.R_below Og1.out HB.out)
  replace Og2 := Ah (Kd.S_below Og2.out HB.out)
  clear HB
  go_region_held3 (fun w' => w'.cell? ⟨gx, 0, none⟩ = some (.int .i64 y0) ∧ w'.cell? ⟨gx, 1, none⟩ = some (.slice Au1 y1.length cu1) ∧ w'.cell? ⟨gx, 2, none⟩ = some (.slice Au2 y2.length cu2) ∧ w'.cell? ⟨ga, 0, none⟩ = some (.int .i64 x0) ∧ w'.cell? ⟨ga, 1, none⟩ = some (.slice Ax1 x1.length cx1) ∧ w'.cell? ⟨ga, 2, none⟩ = some (.slice Ax2 x2.length cx2)) (exact ⟨(blk_cell (bk BX) 0).trans rfl, (blk_cell (bk BX) 1).trans rfl, (blk_cell (bk BX) 2).trans rfl, (blk_cell (bk BA) 0).trans rfl, (blk_cell (bk BA) 1).trans rfl, (blk_cell (bk BA) 2).trans rfl⟩) (first | (go_at_call 6; (refine (laws_toDir.calls kt x0 _ _ x1 _ _ x2 y0 y1 y2 _ (Kd.C_below Cx1.out st_below) Ex1.out (Kd.C_below Cx2.out st_below) Ex2.out HT_.out).mono ?_); rintro e w8 ⟨vv1, vv2, rfl, hv1, hv2, hb⟩; obtain ⟨Av1, cv1, ev1⟩ := Kd.R_slice hv1; subst ev1; have Ov1 := Ah hv1; obtain ⟨Av2, cv2, ev2⟩ := Kd.S_slice hv2; subst ev2; have Ov2 := Ah hv2; have HB := Ah (below_step (st_below (W0 := w7)) hb); replace Ou1 := nr Ou1 hb; replace Ou2 := sbD Ou2 hb; replace BX := nb BX hb; replace BA := nb BA hb; clear hb hv1 hv2) | (go_at_call 8; (refine (laws_eqDir.calls ke2 y0 _ _ y1 _ _ y2 y0 _ _ y1 _ _ y2 true _ (Kd.R_reads' (rr Ou1.out)).2.2 (Kd.R_reads' Ou1.out).2.1 (Kd.S_reads' (ssD Ou2)).2.2 (Kd.S_reads' Ou2.out).2.1 (Kd.R_reads' (rr Ov1.out)).2.2 (Kd.R_reads' Ov1.out).2.1 (Kd.S_reads' (ssD Ov2)).2.2 (Kd.S_reads' Ov2.out).2.1 HE2_.out).mono ?_); rintro e w9 ⟨rfl, hb⟩; replace HB := Ah (below_step HB.out hb); replace Ou1 := nr Ou1 hb; replace Ou2 := sbD Ou2 hb; replace BX := nb BX hb; replace BA := nb BA hb; clear hb))
  clear Ov1 Ov2
  replace BS := Ah (blk_below BS.out HB.out)
  replace Os1 := Ah (Kd.R_below Os1.out HB.out)
  replace Os2 := Ah (Kd.S_below Os2.out HB.out)
  replace K0 := Ah (below_step K0.out HB.out)
  replace K3 := Ah (below_step K3.out HB.out)
  replace BG := Ah (blk_below BG.out HB.out)
  replace Og1 := Ah (Kd.R_below Og1.out HB.out)
  replace Og2 := Ah (Kd.S_below Og2.out HB.out)
  clear HB
  have hm := laws_markDir.calls km km' y0 _ _ y1 _ _ y2 1 t mk1 p1 p2 WS w9 K3.out Ou1.out Ou2.out HM_.out HC_.out
  obtain ⟨rc0, rc1, rc2, rf0, rf1, rf2⟩ := czD BX
  go_upto_region 16 with (first | (go_at_call 9; (refine hm.mono ?_); rintro e w10 ⟨rfl, _, _, hb, hk⟩; have HB := Ah hb; have HK := Ah hk; clear hb hk hm))
  clear rc0 rc1 rc2 rf0 rf1 rf2
  clear Ou1 Ou2 BX
  replace Og1 := Ah (R_keptB Og1.out (fun k h => h.elim (fun h => h) (fun h => h)) HK.out)
  replace Og2 := Ah (S_keptB Og2.out (fun k h => h.elim (fun h => h) (fun h => h)) HK.out)
  replace BG := Ah ((HK.out.2 gg (blk_lt BG.out) (fun h => absurd (h.elim (fun h => h) (fun h => h) : gg < WX.heap.size) (Nat.not_lt.2 GG.out))).trans BG.out)
  replace BA := Ah (blk_below FBA.out HB.out)
  replace Cx1 := Ah (Kd.C_below FCx1.out HB.out)
  replace Cx2 := Ah (Kd.C_below FCx2.out HB.out)
  replace BS := Ah (blk_below FBS.out HB.out)
  replace Os1 := Ah (Kd.R_below FOs1.out HB.out)
  replace Os2 := Ah (Kd.S_below FOs2.out HB.out)
  replace K0 := Ah (below_step FK0.out HB.out)
  replace K3 := HB
  clear HB HK
  obtain ⟨rc0, rc1, rc2, rf0, rf1, rf2⟩ := czD BG
  obtain ⟨sc0, sc1, sc2, sf0, sf1, sf2⟩ := czD BS
  go_upto_region 19 with (first | (go_at_call 8; (refine (laws_eqDir.calls ke G0 _ _ G1 _ _ G2 G0 _ _ G1 _ _ G2 true _ (Kd.R_reads' (rr Og1.out)).2.2 (Kd.R_reads' Og1.out).2.1 (Kd.S_reads' (ssD Og2)).2.2 (Kd.S_reads' Og2.out).2.1 (Kd.R_reads' (rr Os1.out)).2.2 (Kd.R_reads' Os1.out).2.1 (Kd.S_reads' (ssD Os2)).2.2 (Kd.S_reads' Os2.out).2.1 HE_.out).mono ?_); rintro e w11 ⟨rfl, hb⟩; have HB := Ah hb; clear hb))
  clear rc0 rc1 rc2 rf0 rf1 rf2 sc0 sc1 sc2 sf0 sf1 sf2
  replace BA := Ah (blk_below BA.out HB.out)
  replace Cx1 := Ah (Kd.C_below Cx1.out HB.out)
  replace Cx2 := Ah (Kd.C_below Cx2.out HB.out)
  replace BS := Ah (blk_below BS.out HB.out)
  replace Os1 := Ah (Kd.R_below Os1.out HB.out)
  replace Os2 := Ah (Kd.S_below Os2.out HB.out)
  replace K0 := Ah (below_step K0.out HB.out)
  replace K3 := Ah (below_step K3.out HB.out)
  replace BG := Ah (blk_below BG.out HB.out)
  replace Og1 := Ah (Kd.R_below Og1.out HB.out)
  replace Og2 := Ah (Kd.S_below Og2.out HB.out)
  clear HB
  have hm := laws_markDir.calls kn kn' G0 _ _ G1 _ _ G2 1 t2 mk2 q1 q2 WS w11 K3.out (R_typedIn (Kd.R_lower Og1.out K34.out)) (S_typedIn (Kd.S_lower Og2.out K34.out)) HM2_.out HC2_.out
  obtain ⟨rc0, rc1, rc2, rf0, rf1, rf2⟩ := czD BG
  go_upto_region 21 with (first | (go_at_call 9; (refine hm.mono ?_); rintro e w12 ⟨rfl, ho1, ho2, hb, hk⟩; have HB := Ah hb; have HK := Ah hk; have Oq1 := Ah ho1; have Oq2 := Ah ho2; clear hb hk hm ho1 ho2))
  clear rc0 rc1 rc2 rf0 rf1 rf2
  clear Og1 Og2
  replace BG := Ah ((HK.out.2 gg (blk_lt BG.out) (fun h => h.elim (fun h => typed_no h.2 (show TypedIn w11 [29] gg from ⟨_, List.mem_cons_self, _, BG.out⟩) (by decide)) (fun h => typed_no h.2 (show TypedIn w11 [29] gg from ⟨_, List.mem_cons_self, _, BG.out⟩) (by decide)))).trans BG.out)
  replace BA := Ah (blk_below FBA.out HB.out)
  replace Cx1 := Ah (Kd.C_below FCx1.out HB.out)
  replace Cx2 := Ah (Kd.C_below FCx2.out HB.out)
  replace BS := Ah (blk_below FBS.out HB.out)
  replace Os1 := Ah (Kd.R_below FOs1.out HB.out)
  replace Os2 := Ah (Kd.S_below FOs2.out HB.out)
  replace K0 := Ah (below_step FK0.out HB.out)
  replace K3 := HB
  clear HB HK
  have hh := laws_heldDir.calls kh G0 Ag1 cg1 q1 Ag2 cg2 q2 1 mk2 w12 (Kd.R_reads' Oq1.out).2.2 (show q1.length ≤ _ from hl1 ▸ (Kd.R_reads' Oq1.out).2.1) (Kd.S_reads' Oq2.out).2.2 (show q2.length ≤ _ from hl2 ▸ (Kd.S_reads' Oq2.out).2.1) HH_.out
  rw [hl1, hl2] at hh
  obtain ⟨rc0, rc1, rc2, rf0, rf1, rf2⟩ := czD BG
  go_upto_region 26 with (first | (go_at_call 10; (refine hh.mono ?_); rintro e w13 ⟨rfl, hb⟩; have HB := Ah hb; clear hb hh))
  clear rc0 rc1 rc2 rf0 rf1 rf2
  replace BA := Ah (blk_below BA.out HB.out)
  replace Cx1 := Ah (Kd.C_below Cx1.out HB.out)
  replace Cx2 := Ah (Kd.C_below Cx2.out HB.out)
  replace BS := Ah (blk_below BS.out HB.out)
  replace Os1 := Ah (Kd.R_below Os1.out HB.out)
  replace Os2 := Ah (Kd.S_below Os2.out HB.out)
  replace K0 := Ah (below_step K0.out HB.out)
  replace BG := Ah (blk_below BG.out HB.out)
  replace Oq1 := Ah (Kd.R_below Oq1.out HB.out)
  replace Oq2 := Ah (Kd.S_below Oq2.out HB.out)
  clear HB
  obtain ⟨rc0, rc1, rc2, rf0, rf1, rf2⟩ := czD BA
  go_upto_region 27 with (first | (go_at_call 6; (refine (laws_toDir.calls kt x0 _ _ x1 _ _ x2 y0 y1 y2 _ Cx1.out Ex1.out Cx2.out Ex2.out HT_.out).mono ?_); rintro e w14 ⟨vt1, vt2, rfl, ht1, ht2, hb⟩; obtain ⟨At1, ct1, et1⟩ := Kd.R_slice ht1; subst et1; have Ot1 := Ah ht1; obtain ⟨At2, ct2, et2⟩ := Kd.S_slice ht2; subst et2; have Ot2 := Ah ht2; have HB := Ah hb; clear hb ht1 ht2) | (go_at_call 7; (refine (impl_DropName.calls y0 _ _ y1 _ _ y2 sm G0 G1 G2 b _ (Kd.R_reads' (rr Ot1.out)).2.2 (Kd.R_reads' Ot1.out).2.1 (Kd.S_reads' (ssD Ot2)).2.2 (Kd.S_reads' Ot2.out).2.1 HI_.out).mono ?_); rintro e w15 ⟨vh1, vh2, rfl, hh1, hh2, hb⟩; obtain ⟨Ah1, ch1, eh1⟩ := Kd.R_slice hh1; subst eh1; have Oh1 := Ah hh1; obtain ⟨Ah2, ch2, eh2⟩ := Kd.S_slice hh2; subst eh2; have Oh2 := Ah hh2; replace HB := Ah (below_step HB.out hb); clear hb hh1 hh2) | ((with_reducible refine gate_dst (N := 14) rfl ?_); refine boxL 14 29 #[.int .i64 0, .slice none 0 0, .slice none 0 0] ?_; intro gh hg we BH hb; replace Oh1 := nr Oh1 hb; replace Oh2 := sbD Oh2 hb; have G_ := gw hg (bs HB); replace HB := Ah (below_step (bs HB) hb); clear hb hg; obtain ⟨zc0, zc1, zc2, zf0, zf1, zf2⟩ := czD BH))
  clear rc0 rc1 rc2 rf0 rf1 rf2
  clear Ot1 Ot2
  have n0 : Aside0 ((((we.setCell ⟨gh, 0, none⟩ (.int .i64 G0)).setCell ⟨gh, 1, none⟩ (.slice Ah1 G1.length ch1)).setCell ⟨gh, 2, none⟩ (.slice Ah2 G2.length ch2)).heap[gh]? = some (.cells #[.int .i64 G0, .slice Ah1 G1.length ch1, .slice Ah2 G2.length ch2] 29 (0, 0))) := ⟨(blk_put (cs := #[.int .i64 G0, .slice Ah1 G1.length ch1, .slice none 0 0]) (blk_put (cs := #[.int .i64 G0, .slice none 0 0, .slice none 0 0]) (blk_put (cs := #[.int .i64 0, .slice none 0 0, .slice none 0 0]) BH.out 0 (.int .i64 G0) rfl) 1 (.slice Ah1 G1.length ch1) rfl) 2 (.slice Ah2 G2.length ch2) rfl)⟩
  have m1 : Aside0 (Kd.R (Kd.int .i64) 3 (((we.setCell ⟨gh, 0, none⟩ (.int .i64 G0)).setCell ⟨gh, 1, none⟩ (.slice Ah1 G1.length ch1)).setCell ⟨gh, 2, none⟩ (.slice Ah2 G2.length ch2)) _ (fun _ => True) (.slice Ah1 G1.length ch1) G1) := ⟨rfU Oh1 BH⟩
  have m2 : Aside0 (Kd.S k46 46 (((we.setCell ⟨gh, 0, none⟩ (.int .i64 G0)).setCell ⟨gh, 1, none⟩ (.slice Ah1 G1.length ch1)).setCell ⟨gh, 2, none⟩ (.slice Ah2 G2.length ch2)) _ (fun _ => True) (.slice Ah2 G2.length ch2) G2) := ⟨sfU Oh2 BH⟩
  have n9 : Aside0 (Below w13.heap.size w13 (((we.setCell ⟨gh, 0, none⟩ (.int .i64 G0)).setCell ⟨gh, 1, none⟩ (.slice Ah1 G1.length ch1)).setCell ⟨gh, 2, none⟩ (.slice Ah2 G2.length ch2))) := ⟨bs1 HB G_⟩
  clear Oh1 Oh2 HB BH zc0 zc1 zc2 zf0 zf1 zf2
  generalize (((we.setCell ⟨gh, 0, none⟩ (.int .i64 G0)).setCell ⟨gh, 1, none⟩ (.slice Ah1 G1.length ch1)).setCell ⟨gh, 2, none⟩ (.slice Ah2 G2.length ch2)) = WH at n0 m1 m2 n9 ⊢
  have BH := n0
  have HB := n9
  have Oh1 := m1
  have Oh2 := m2
  clear n0 n9 m1 m2
  replace BS := Ah (blk_below BS.out HB.out)
  replace Os1 := Ah (Kd.R_below Os1.out HB.out)
  replace Os2 := Ah (Kd.S_below Os2.out HB.out)
  replace K0 := Ah (below_step K0.out HB.out)
  replace BG := Ah (blk_below BG.out HB.out)
  replace Oq1 := Ah (Kd.R_below Oq1.out HB.out)
  replace Oq2 := Ah (Kd.S_below Oq2.out HB.out)
  clear HB G_
  obtain ⟨rc0, rc1, rc2, rf0, rf1, rf2⟩ := czD BH
  obtain ⟨sc0, sc1, sc2, sf0, sf1, sf2⟩ := czD BS
  go_upto_region 30 with (first | (go_at_call 8; (refine (laws_eqDir.calls ke G0 _ _ G1 _ _ G2 G0 _ _ G1 _ _ G2 true _ (Kd.R_reads' (rr Oh1.out)).2.2 (Kd.R_reads' Oh1.out).2.1 (Kd.S_reads' (ssD Oh2)).2.2 (Kd.S_reads' Oh2.out).2.1 (Kd.R_reads' (rr Os1.out)).2.2 (Kd.R_reads' Os1.out).2.1 (Kd.S_reads' (ssD Os2)).2.2 (Kd.S_reads' Os2.out).2.1 HE_.out).mono ?_); rintro e w16 ⟨rfl, hb⟩; have HB := Ah hb; clear hb))
  clear rc0 rc1 rc2 rf0 rf1 rf2 sc0 sc1 sc2 sf0 sf1 sf2
  replace K0 := Ah (below_step K0.out HB.out)
  replace BG := Ah (blk_below BG.out HB.out)
  replace Oq1 := Ah (Kd.R_below Oq1.out HB.out)
  replace Oq2 := Ah (Kd.S_below Oq2.out HB.out)
  clear HB
  have hh := laws_heldDir.calls kh G0 Ag1 cg1 q1 Ag2 cg2 q2 1 mk2 w16 (Kd.R_reads' Oq1.out).2.2 (show q1.length ≤ _ from hl1 ▸ (Kd.R_reads' Oq1.out).2.1) (Kd.S_reads' Oq2.out).2.2 (show q2.length ≤ _ from hl2 ▸ (Kd.S_reads' Oq2.out).2.1) HH_.out
  rw [hl1, hl2] at hh
  obtain ⟨rc0, rc1, rc2, rf0, rf1, rf2⟩ := czD BG
  go_wp2_with (first | (go_at_call 10; (refine hh.mono ?_); rintro e w17 ⟨rfl, hb⟩; replace K0 := Ah (below_step K0.out hb); clear hb hh))
  go_ret
  exact ⟨er, bs K0⟩
end Go.Proofs.YtfbjeppfnlfejaaDoor.G
