/- The law FnExactNamesOf, walked by hand. No statement. -/
import Derived.Test.YtggkhamidkmjpaaDoorNewMarkB
namespace Go.Proofs.YtggkhamidkmjpaaDoor.G
open Go.RowKit Go.Proofs.YtggkhamidkmjpaaDoorW.PrintWords Go.Proofs.YtggkhamidkmjpaaDoorW.PrintLast Go.Proofs.YtggkhamidkmjpaaDoorW.PrintMore
set_option linter.unusedVariables false
set_option linter.unusedSimpArgs false
theorem rfU {α : Type} {d : Kd α} {e : Nat} {W0 W : World} {base : Nat} {ok : Nat → Prop} {v : Value} {xs : List α} {g t : Nat} {cells : Array Value} (h : Aside0 (d.R e W0 base ok v xs)) (b : Aside0 (W0.heap[g]? = some (.cells cells t (0, 0)))) (ht : ∀ q, q ∈ e :: d.E → q ≠ t := by decide) [s : FarL g W0 W] : d.R e W base (fun _ => True) v xs := Kd.R_mono (rf h b ht) (fun _ _ => trivial)
/-- A row whose blocks are younger than the written ones stays. -/
theorem R_keptB {α : Type} {d : Kd α} {e : Nat} {w w1 : World} {base : Nat} {ok P : Nat → Prop} {v : Value} {xs : List α} (h : d.R e w base ok v xs) (hP : ∀ k, P k → k < base) (hk : Kept w w1 P) : d.R e w1 base ok v xs :=
  Kd.R_mono (Kd.R_step (Kd.R_bound h) (fun k hb hlt => hk.2 k hlt (fun hp => absurd (hP k hp) (Nat.not_lt.2 hb.2.1)))) (fun k h => h.1)
theorem R_tightB {α : Type} {d : Kd α} {e : Nat} {w : World} {base : Nat} {ok : Nat → Prop} {v : Value} {xs : List α} (hE : d.E = []) (h : d.R e w base ok v xs) : d.R e w base (fun k => some k = v.ownBlock) v xs := by
  obtain ⟨h0, inner, ho, hr⟩ := h
  refine ⟨fun k hk => hk.symm, inner, ho, hr.imp_ (fun p c hp => d.M_mono (fun k hk => ?_) (d.M_bound hp))⟩
  obtain ⟨_, _, _, q, hq, _⟩ := hk
  rw [hE] at hq
  cases hq
theorem own_lt' {α : Type} {d : Kd α} {e : Nat} {w : World} {base : Nat} {ok : Nat → Prop} {v : Value} {xs : List α} (h : d.R e w base ok v xs) (k : Nat) (hk : some k = v.ownBlock) : k < w.heap.size := ((Kd.R_bound h).1 k hk.symm).2.2.1
theorem own_ne' {α : Type} {d : Kd α} {e : Nat} {w : World} {base : Nat} {ok : Nat → Prop} {v : Value} {xs : List α} {g t : Nat} {cells : Array Value} (h : d.R e w base ok v xs) (hb : w.heap[g]? = some (.cells cells t (0, 0))) (ht : ∀ q, q ∈ e :: d.E → q ≠ t) (hk : some g = v.ownBlock) : False := by
  obtain ⟨_, _, _, q, hq, cells', hc⟩ := (Kd.R_bound h).1 g hk.symm
  rw [hc] at hb
  injection hb with hb
  injection hb with _ h2 _
  exact ht q hq h2
theorem sfU {α : Type} {d : Kd α} {e : Nat} {W0 W : World} {base : Nat} {ok : Nat → Prop} {v : Value} {xs : List α} {g t : Nat} {cells : Array Value} (h : Aside0 (Kd.S d e W0 base ok v xs)) (b : Aside0 (W0.heap[g]? = some (.cells cells t (0, 0)))) (ht : ∀ q, q ∈ e :: d.E → q ≠ t := by decide) [s : FarL g W0 W] : Kd.S d e W base (fun _ => True) v xs :=
  Kd.S_mono (Kd.S_step (Kd.S_types h.out b.out ht) (fun k hk hl => s.out.2 k hk.2 hl)) (fun _ _ => trivial)
theorem czq {w : World} {g : Nat} {t : TypeId} {a0 a1 a2 : Value} (h : Aside0 (w.heap[g]? = some (.cells #[a0, a1, a2] t (0, 0)))) : w.cell? ⟨g, 0, none⟩ = some a0 ∧ w.cell? ⟨g, 1, none⟩ = some a1 ∧ w.cell? ⟨g, 2, none⟩ = some a2 ∧ w.frozen? ⟨g, 0, none⟩ = false ∧ w.frozen? ⟨g, 1, none⟩ = false ∧ w.frozen? ⟨g, 2, none⟩ = false := ⟨(blk_cell h.out 0).trans rfl, (blk_cell h.out 1).trans rfl, (blk_cell h.out 2).trans rfl, blk_frozen h.out 0, blk_frozen h.out 1, blk_frozen h.out 2⟩
set_option maxHeartbeats 16000000 in
set_option maxRecDepth 100000 in
theorem laws_FnExactNamesOf.early (kz : Nat) (x0 : Int) (x1 : List Int) (x2 : List S60) (z : Int) (hZ : laws_szDir.f kz x0 x1 x2 1048576 = some z) (hz : z < 0) (w : World) {Ax1 : Option Addr} {cx1 : Nat} (hx1 : Kd.C (Kd.int .i64) w Ax1 x1.length x1) (he1 : x1.length ≤ cx1) {Ax2 : Option Addr} {cx2 : Nat} (hx2 : Kd.C k60 w Ax2 x2.length x2) (he2 : x2.length ≤ cx2) :
    Calls Tryd.prog 3 #[.agg #[.int .i64 x0, .slice Ax1 x1.length cx1, .slice Ax2 x2.length cx2]] w fun e w' => e = .returned (.bool true) ∧ Below w.heap.size w w' := by
  have hu1 := Tryd.underlying25
  have hu2 := Tryd.underlying32
  have Cx1 := Aside0.mk hx1
  have Ex1 := Aside0.mk he1
  have Cx2 := Aside0.mk hx2
  have Ex2 := Aside0.mk he2
  clear hx1 he1 hx2 he2
  have HZ_ := Aside0.mk hZ
  clear hZ
  have z0 : decide (z < 0) = true := decide_eq_true hz
  have HB := Aside0.mk (Below.refl w.heap.size w)
  go_enter Tryd.func3, Tryd.ntmps3
  go_wp2_with (first | ((with_reducible refine gate_dst (N := 1) rfl ?_); refine box_event ?hg (N := 1) ?hd (cs := #[.int .i64 x0, .slice Ax1 x1.length cx1, .slice Ax2 x2.length cx2]) (t := 25) ?hr ?_; (case hd => rfl); (case hg => rfl); (case hr => first | (go_simp; done) | (go_simp; rfl)); intro ga hg w1 hbox hb; have BA := Aside0.mk hbox; have G_ := Aside0.mk ((by rw [hg]; exact below_size (bs HB)) : w.heap.size ≤ ga); replace HB := Aside0.mk (below_step (bs HB) hb); clear hb hbox hg; replace Cx1 := Aside0.mk (Kd.C_below Cx1.out HB.out); replace Cx2 := Aside0.mk (Kd.C_below Cx2.out HB.out); obtain ⟨zc0, zc1, zc2, zf0, zf1, zf2⟩ := czq BA) | (go_at_call 4; (refine (laws_szDir.calls kz x0 _ _ x1 _ _ x2 1048576 z _ Cx1.out Ex1.out Cx2.out Ex2.out HZ_.out).mono ?_); rintro e w2 ⟨rfl, hb⟩; replace HB := Aside0.mk (below_step HB.out hb); clear hb))
  go_ret
  exact ⟨by first | rfl | (simp; done) | (simp [*]; done), bs HB⟩
set_option maxHeartbeats 16000000 in
set_option maxRecDepth 100000 in
theorem laws_FnExactNamesOf.run (kz kt ks ki ke ke2 km km' km2 kh : Nat) (x0 : Int) (x1 : List Int) (x2 : List S60) (y0 : Int) (y1 : List Int) (y2 : List S43) (G q : List S45) (p1 : List Int) (p2 : List S43) (z t mk1 mk2 : Int) (b : Bool)
    (hZ : laws_szDir.f kz x0 x1 x2 1048576 = some z) (hz : ¬ z < 0) (hT : laws_toDir.f kt x0 x1 x2 = some (y0, y1, y2)) (hS : spec_NamesOf.f ks y0 y1 y2 = some (G, b)) (hI : impl_NamesOf.f ki y0 y1 y2 = some (G, b))
    (hE : laws_eqNameS.f ke G G = some true) (hE2 : laws_eqDir.f ke2 y0 y1 y2 y0 y1 y2 = some true) (hM : laws_markIntS.f km y1 1 = some (t, p1)) (hC : laws_markBucketS.f km' y2 t = some (mk1, p2)) (hq1 : ¬ mk1 < 0) (hM2 : laws_markNameS.f km2 G 1 = some (mk2, q)) (hq2 : ¬ mk2 < 0) (hH : laws_heldNameS.f kh q 1 = some mk2) (hl : q.length = G.length) (w : World) {Ax1 : Option Addr} {cx1 : Nat} (hx1 : Kd.C (Kd.int .i64) w Ax1 x1.length x1) (he1 : x1.length ≤ cx1) {Ax2 : Option Addr} {cx2 : Nat} (hx2 : Kd.C k60 w Ax2 x2.length x2) (he2 : x2.length ≤ cx2) :
    Calls Tryd.prog 3 #[.agg #[.int .i64 x0, .slice Ax1 x1.length cx1, .slice Ax2 x2.length cx2]] w fun e w' => e = .returned (.bool true) ∧ Below w.heap.size w w' := by
  have hu1 := Tryd.underlying25
  have hu2 := Tryd.underlying32
  have Cx1 := Aside0.mk hx1
  have Ex1 := Aside0.mk he1
  have Cx2 := Aside0.mk hx2
  have Ex2 := Aside0.mk he2
  clear hx1 he1 hx2 he2
  have HZ_ := Aside0.mk hZ
  clear hZ
  have z0 : decide (z < 0) = false := decide_eq_false hz
  have HB := Aside0.mk (Below.refl w.heap.size w)
  have HT_ := Aside0.mk hT
  clear hT
  have HS_ := Aside0.mk hS
  clear hS
  have HI_ := Aside0.mk hI
  clear hI
  have HE_ := Aside0.mk hE
  clear hE
  have HE2_ := Aside0.mk hE2
  clear hE2
  have HM_ := Aside0.mk hM
  clear hM
  have HC_ := Aside0.mk hC
  clear hC
  have HM2_ := Aside0.mk hM2
  clear hM2
  have HH_ := Aside0.mk hH
  clear hH
  have z1 : decide (mk1 < 0) = false := decide_eq_false hq1
  have z2 : decide (mk2 < 0) = false := decide_eq_false hq2
  have z3 : (mk2 != mk2) = false := by simp
  have z4 : (b != b) = false := by simp
  go_enter Tryd.func3, Tryd.ntmps3
  go_upto_region 5 with (first | ((with_reducible refine gate_dst (N := 1) rfl ?_); refine box_event ?hg (N := 1) ?hd (cs := #[.int .i64 x0, .slice Ax1 x1.length cx1, .slice Ax2 x2.length cx2]) (t := 25) ?hr ?_; (case hd => rfl); (case hg => rfl); (case hr => first | (go_simp; done) | (go_simp; rfl)); intro ga hg w1 hbox hb; have BA := Aside0.mk hbox; have G_ := Aside0.mk ((by rw [hg]; exact below_size (bs HB)) : w.heap.size ≤ ga); replace HB := Aside0.mk (below_step (bs HB) hb); clear hb hbox hg; replace Cx1 := Aside0.mk (Kd.C_below Cx1.out HB.out); replace Cx2 := Aside0.mk (Kd.C_below Cx2.out HB.out); obtain ⟨zc0, zc1, zc2, zf0, zf1, zf2⟩ := czq BA) | (go_at_call 4; (refine (laws_szDir.calls kz x0 _ _ x1 _ _ x2 1048576 z _ Cx1.out Ex1.out Cx2.out Ex2.out HZ_.out).mono ?_); rintro e w2 ⟨rfl, hb⟩; have HS1 := Aside0.mk hb; clear hb))
  clear zc0 zc1 zc2 zf0 zf1 zf2
  replace BA := Aside0.mk (blk_below BA.out HS1.out)
  replace Cx1 := Aside0.mk (Kd.C_below Cx1.out HS1.out)
  replace Cx2 := Aside0.mk (Kd.C_below Cx2.out HS1.out)
  have K0 := Aside0.mk (below_step HB.out HS1.out)
  clear HB HS1 G_
  obtain ⟨rc0, rc1, rc2, rf0, rf1, rf2⟩ := czq BA
  go_upto_region 6 with (first | (go_at_call 6; (refine (laws_toDir.calls kt x0 _ _ x1 _ _ x2 y0 y1 y2 _ Cx1.out Ex1.out Cx2.out Ex2.out HT_.out).mono ?_); rintro e w3 ⟨vt1, vt2, rfl, ht1, ht2, hb⟩; obtain ⟨At1, ct1, et1⟩ := Kd.R_slice ht1; subst et1; have Ot1 := Aside0.mk ht1; obtain ⟨At2, ct2, et2⟩ := Kd.R_slice (Kd.S_R ht2); subst et2; have Ot2 := Aside0.mk ht2; have HB := Aside0.mk hb; clear hb ht1 ht2) | (go_at_call 5; (refine (spec_NamesOf.calls ks y0 _ _ y1 _ _ y2 G b _ (Kd.R_reads' Ot1.out).2.2 (Kd.R_reads' Ot1.out).2.1 (Kd.R_reads' (Kd.S_R Ot2.out)).2.2 (Kd.R_reads' (Kd.S_R Ot2.out)).2.1 HS_.out).mono ?_); rintro e w4 ⟨vs, rfl, hs, hb⟩; obtain ⟨As, cs, es⟩ := Kd.R_slice hs; subst es; have Os := Aside0.mk hs; replace HB := Aside0.mk (below_step HB.out hb); clear hb hs))
  clear rc0 rc1 rc2 rf0 rf1 rf2
  clear Ot1 Ot2
  replace BA := Aside0.mk (blk_below BA.out HB.out)
  replace Cx1 := Aside0.mk (Kd.C_below Cx1.out HB.out)
  replace Cx2 := Aside0.mk (Kd.C_below Cx2.out HB.out)
  replace K0 := Aside0.mk (below_step K0.out HB.out)
  clear HB
  have Fs := Os
  have FC1 := Cx1
  have FC2 := Cx2
  have FBA := BA
  have FK0 := K0
  obtain ⟨rc0, rc1, rc2, rf0, rf1, rf2⟩ := czq BA
  go_upto_region 7 with (first | (go_at_call 6; (refine (laws_toDir.calls kt x0 _ _ x1 _ _ x2 y0 y1 y2 _ Cx1.out Ex1.out Cx2.out Ex2.out HT_.out).mono ?_); rintro e w5 ⟨vu1, vu2, rfl, hu1, hu2, hb⟩; obtain ⟨Au1, cu1, eu1⟩ := Kd.R_slice hu1; subst eu1; have Ou1 := Aside0.mk hu1; obtain ⟨Au2, cu2, eu2⟩ := Kd.R_slice (Kd.S_R hu2); subst eu2; have Ou2 := Aside0.mk hu2; have HB := Aside0.mk hb; clear hb hu1 hu2) | ((with_reducible refine gate_dst (N := 6) rfl ?_); refine box_event ?hg (N := 6) ?hd (cs := #[.int .i64 0, .slice none 0 0, .slice none 0 0]) (t := 32) ?hr ?_; (case hd => rfl); (case hg => rfl); (case hr => first | (go_simp; done) | (go_simp; rfl)); intro gx hg wb hbox hb; have BX := Aside0.mk hbox; replace Ou1 := nr Ou1 hb; replace Ou2 := sb Ou2 hb; have G_ := Aside0.mk ((by rw [hg]; exact below_size (bs HB)) : w4.heap.size ≤ gx); replace HB := Aside0.mk (below_step (bs HB) hb); clear hb hbox hg; obtain ⟨zc0, zc1, zc2, zf0, zf1, zf2⟩ := czq BX))
  clear rc0 rc1 rc2 rf0 rf1 rf2
  have n0 : Aside0 ((((wb.setCell ⟨gx, 0, none⟩ (.int .i64 y0)).setCell ⟨gx, 1, none⟩ (.slice Au1 y1.length cu1)).setCell ⟨gx, 2, none⟩ (.slice Au2 y2.length cu2)).heap[gx]? = some (.cells #[.int .i64 y0, .slice Au1 y1.length cu1, .slice Au2 y2.length cu2] 32 (0, 0))) := ⟨(blk_put (cs := #[.int .i64 y0, .slice Au1 y1.length cu1, .slice none 0 0]) (blk_put (cs := #[.int .i64 y0, .slice none 0 0, .slice none 0 0]) (blk_put (cs := #[.int .i64 0, .slice none 0 0, .slice none 0 0]) BX.out 0 (.int .i64 y0) rfl) 1 (.slice Au1 y1.length cu1) rfl) 2 (.slice Au2 y2.length cu2) rfl)⟩
  have m1 : Aside0 (Kd.R (Kd.int .i64) 3 (((wb.setCell ⟨gx, 0, none⟩ (.int .i64 y0)).setCell ⟨gx, 1, none⟩ (.slice Au1 y1.length cu1)).setCell ⟨gx, 2, none⟩ (.slice Au2 y2.length cu2)) _ (fun _ => True) (.slice Au1 y1.length cu1) y1) := ⟨Go.Proofs.YtggkhamidkmjpaaDoor.G.rfU Ou1 BX⟩
  have m2 : Aside0 (Kd.S k43 43 (((wb.setCell ⟨gx, 0, none⟩ (.int .i64 y0)).setCell ⟨gx, 1, none⟩ (.slice Au1 y1.length cu1)).setCell ⟨gx, 2, none⟩ (.slice Au2 y2.length cu2)) _ (fun _ => True) (.slice Au2 y2.length cu2) y2) := ⟨Go.Proofs.YtggkhamidkmjpaaDoor.G.sfU Ou2 BX⟩
  have n9 : Aside0 (Below w4.heap.size w4 (((wb.setCell ⟨gx, 0, none⟩ (.int .i64 y0)).setCell ⟨gx, 1, none⟩ (.slice Au1 y1.length cu1)).setCell ⟨gx, 2, none⟩ (.slice Au2 y2.length cu2))) := ⟨bs1 HB G_⟩
  clear Ou1 Ou2 HB G_ BX zc0 zc1 zc2 zf0 zf1 zf2
  generalize (((wb.setCell ⟨gx, 0, none⟩ (.int .i64 y0)).setCell ⟨gx, 1, none⟩ (.slice Au1 y1.length cu1)).setCell ⟨gx, 2, none⟩ (.slice Au2 y2.length cu2)) = W4 at n0 m1 m2 n9 ⊢
  have BX := n0
  have HB := n9
  have Ou1 := Aside0.mk (Kd.R_mono (ok' := fun k => k < W4.heap.size) (Kd.R_bound m1.out) (fun k hk => hk.2.2.1))
  have Ou2 := Aside0.mk (Kd.S_mono (ok' := fun k => k < W4.heap.size) (Kd.S_bound m2.out) (fun k hk => hk.2.2.1))
  clear n0 n9 m1 m2
  replace Os := Aside0.mk (Kd.R_below Os.out HB.out)
  replace Cx1 := Aside0.mk (Kd.C_below Cx1.out HB.out)
  replace Cx2 := Aside0.mk (Kd.C_below Cx2.out HB.out)
  replace BA := Aside0.mk (blk_below BA.out HB.out)
  replace K0 := Aside0.mk (below_step K0.out HB.out)
  have K3 := HB
  have K34 := Aside0.mk HB.out.size
  clear HB
  obtain ⟨rc0, rc1, rc2, rf0, rf1, rf2⟩ := czq BX
  go_upto_region 8 with (first | (go_at_call 7; (refine (impl_NamesOf.calls ki y0 _ _ y1 _ _ y2 G b _ (Kd.R_reads' Ou1.out).2.2 (Kd.R_reads' Ou1.out).2.1 (Kd.R_reads' (Kd.S_R Ou2.out)).2.2 (Kd.R_reads' (Kd.S_R Ou2.out)).2.1 HI_.out).mono ?_); rintro e w6 ⟨vg, rfl, hg, hb⟩; obtain ⟨Ag, cg, eg⟩ := Kd.R_slice hg; subst eg; have Og := Aside0.mk hg; have HB := Aside0.mk hb; clear hb hg))
  clear rc0 rc1 rc2 rf0 rf1 rf2
  replace Os := Aside0.mk (Kd.R_below Os.out HB.out)
  replace Ou1 := Aside0.mk (Kd.R_below Ou1.out HB.out)
  replace Ou2 := Aside0.mk (Kd.S_below Ou2.out HB.out)
  replace Cx1 := Aside0.mk (Kd.C_below Cx1.out HB.out)
  replace Cx2 := Aside0.mk (Kd.C_below Cx2.out HB.out)
  replace BA := Aside0.mk (blk_below BA.out HB.out)
  replace BX := Aside0.mk (blk_below BX.out HB.out)
  replace K0 := Aside0.mk (below_step K0.out HB.out)
  replace K3 := Aside0.mk (below_step K3.out HB.out)
  clear HB
  have hq := laws_eqNameS.calls ke _ _ G _ _ G true w6 (Kd.R_reads' Og.out).2.2 (Kd.R_reads' Og.out).2.1 (Kd.R_reads' Os.out).2.2 (Kd.R_reads' Os.out).2.1 HE_.out
  go_upto_region 10 with (first | (go_at_call 8; (refine hq.mono ?_); rintro e w7 ⟨rfl, hb⟩; have HB := Aside0.mk hb; clear hb hq))
  replace Os := Aside0.mk (Kd.R_below Os.out HB.out)
  replace Ou1 := Aside0.mk (Kd.R_below Ou1.out HB.out)
  replace Ou2 := Aside0.mk (Kd.S_below Ou2.out HB.out)
  replace Cx1 := Aside0.mk (Kd.C_below Cx1.out HB.out)
  replace Cx2 := Aside0.mk (Kd.C_below Cx2.out HB.out)
  replace BA := Aside0.mk (blk_below BA.out HB.out)
  replace BX := Aside0.mk (blk_below BX.out HB.out)
  replace K0 := Aside0.mk (below_step K0.out HB.out)
  replace K3 := Aside0.mk (below_step K3.out HB.out)
  replace Og := Aside0.mk (Kd.R_below Og.out HB.out)
  clear HB
  go_region_held3 (fun w' => w'.cell? ⟨gx, 0, none⟩ = some (.int .i64 y0) ∧ w'.cell? ⟨gx, 1, none⟩ = some (.slice Au1 y1.length cu1) ∧ w'.cell? ⟨gx, 2, none⟩ = some (.slice Au2 y2.length cu2) ∧ w'.cell? ⟨ga, 0, none⟩ = some (.int .i64 x0) ∧ w'.cell? ⟨ga, 1, none⟩ = some (.slice Ax1 x1.length cx1) ∧ w'.cell? ⟨ga, 2, none⟩ = some (.slice Ax2 x2.length cx2)) (exact ⟨(blk_cell (bk BX) 0).trans rfl, (blk_cell (bk BX) 1).trans rfl, (blk_cell (bk BX) 2).trans rfl, (blk_cell (bk BA) 0).trans rfl, (blk_cell (bk BA) 1).trans rfl, (blk_cell (bk BA) 2).trans rfl⟩) (first | (go_at_call 6; (refine (laws_toDir.calls kt x0 _ _ x1 _ _ x2 y0 y1 y2 _ (Kd.C_below Cx1.out st_below) Ex1.out (Kd.C_below Cx2.out st_below) Ex2.out HT_.out).mono ?_); rintro e w8 ⟨vv1, vv2, rfl, hv1, hv2, hb⟩; obtain ⟨Av1, cv1, ev1⟩ := Kd.R_slice hv1; subst ev1; have Ov1 := Aside0.mk hv1; obtain ⟨Av2, cv2, ev2⟩ := Kd.R_slice (Kd.S_R hv2); subst ev2; have Ov2 := Aside0.mk hv2; have HB := Aside0.mk (below_step (st_below (W0 := w7)) hb); replace Ou1 := nr Ou1 hb; replace Ou2 := sb Ou2 hb; replace BX := nb BX hb; replace BA := nb BA hb; clear hb hv1 hv2) | (go_at_call 9; (refine (laws_eqDir.calls ke2 y0 _ _ y1 _ _ y2 y0 _ _ y1 _ _ y2 true _ (Kd.R_reads' Ou1.out).2.2 (Kd.R_reads' Ou1.out).2.1 (Kd.R_reads' (Kd.S_R Ou2.out)).2.2 (Kd.R_reads' (Kd.S_R Ou2.out)).2.1 (Kd.R_reads' Ov1.out).2.2 (Kd.R_reads' Ov1.out).2.1 (Kd.R_reads' (Kd.S_R Ov2.out)).2.2 (Kd.R_reads' (Kd.S_R Ov2.out)).2.1 HE2_.out).mono ?_); rintro e w9 ⟨rfl, hb⟩; replace HB := Aside0.mk (below_step HB.out hb); replace Ou1 := nr Ou1 hb; replace Ou2 := sb Ou2 hb; replace BX := nb BX hb; replace BA := nb BA hb; clear hb))
  clear Ov1 Ov2
  replace Os := Aside0.mk (Kd.R_below Os.out HB.out)
  replace Og := Aside0.mk (Kd.R_below Og.out HB.out)
  replace K0 := Aside0.mk (below_step K0.out HB.out)
  replace K3 := Aside0.mk (below_step K3.out HB.out)
  clear HB
  have hm := laws_markDir.calls km km' y0 _ _ y1 _ _ y2 1 t mk1 p1 p2 w4 w9 K3.out Ou1.out Ou2.out HM_.out HC_.out
  obtain ⟨rc0, rc1, rc2, rf0, rf1, rf2⟩ := czq BX
  go_upto_region 14 with (first | (go_at_call 10; (refine hm.mono ?_); rintro e w10 ⟨rfl, hb, hk⟩; have HB := Aside0.mk hb; have HK := Aside0.mk hk; clear hb hk hm))
  clear rc0 rc1 rc2 rf0 rf1 rf2
  clear Ou1 Ou2 BX
  replace Og := Aside0.mk (R_keptB Og.out (fun k h => h.elim (fun h => h) (fun h => h)) HK.out)
  replace Os := Aside0.mk (Kd.R_below Fs.out HB.out)
  replace Cx1 := Aside0.mk (Kd.C_below FC1.out HB.out)
  replace Cx2 := Aside0.mk (Kd.C_below FC2.out HB.out)
  replace BA := Aside0.mk (blk_below FBA.out HB.out)
  replace K0 := Aside0.mk (below_step FK0.out HB.out)
  replace K3 := HB
  clear HB HK
  have hq := laws_eqNameS.calls ke _ _ G _ _ G true w10 (Kd.R_reads' Og.out).2.2 (Kd.R_reads' Og.out).2.1 (Kd.R_reads' Os.out).2.2 (Kd.R_reads' Os.out).2.1 HE_.out
  go_upto_region 17 with (first | (go_at_call 8; (refine hq.mono ?_); rintro e w11 ⟨rfl, hb⟩; have HB := Aside0.mk hb; clear hb hq))
  replace Os := Aside0.mk (Kd.R_below Os.out HB.out)
  replace Og := Aside0.mk (Kd.R_below Og.out HB.out)
  replace K0 := Aside0.mk (below_step K0.out HB.out)
  replace K3 := Aside0.mk (below_step K3.out HB.out)
  clear HB
  have hm := laws_markNameS.calls km2 _ _ G 1 mk2 q w4 w11 K3.out (Kd.R_lower Og.out K34.out) HM2_.out
  go_upto_region 19 with (first | (go_at_call 11; (refine hm.mono ?_); rintro e w12 ⟨rfl, hp, hb, hk⟩; have HB := Aside0.mk hb; have HK := Aside0.mk hk; have Oq := Aside0.mk hp; clear hb hk hp hm))
  clear Og
  replace Os := Aside0.mk (Kd.R_below Fs.out HB.out)
  replace Cx1 := Aside0.mk (Kd.C_below FC1.out HB.out)
  replace Cx2 := Aside0.mk (Kd.C_below FC2.out HB.out)
  replace BA := Aside0.mk (blk_below FBA.out HB.out)
  replace K0 := Aside0.mk (below_step FK0.out HB.out)
  replace K3 := HB
  clear HB HK
  have hh := laws_heldNameS.calls kh _ _ q 1 mk2 w12 (Kd.R_reads' Oq.out).2.2 (show q.length ≤ _ from hl ▸ (Kd.R_reads' Oq.out).2.1) HH_.out
  rw [hl] at hh
  go_upto_region 24 with (first | (go_at_call 12; (refine hh.mono ?_); rintro e w13 ⟨rfl, hb⟩; have HB := Aside0.mk hb; clear hb hh))
  replace Os := Aside0.mk (Kd.R_below Os.out HB.out)
  replace Oq := Aside0.mk (Kd.R_below Oq.out HB.out)
  replace Cx1 := Aside0.mk (Kd.C_below Cx1.out HB.out)
  replace Cx2 := Aside0.mk (Kd.C_below Cx2.out HB.out)
  replace BA := Aside0.mk (blk_below BA.out HB.out)
  replace K0 := Aside0.mk (below_step K0.out HB.out)
  clear HB
  obtain ⟨rc0, rc1, rc2, rf0, rf1, rf2⟩ := czq BA
  go_upto_region 25 with (first | (go_at_call 6; (refine (laws_toDir.calls kt x0 _ _ x1 _ _ x2 y0 y1 y2 _ Cx1.out Ex1.out Cx2.out Ex2.out HT_.out).mono ?_); rintro e w14 ⟨vt1, vt2, rfl, ht1, ht2, hb⟩; obtain ⟨At1, ct1, et1⟩ := Kd.R_slice ht1; subst et1; have Ot1 := Aside0.mk ht1; obtain ⟨At2, ct2, et2⟩ := Kd.R_slice (Kd.S_R ht2); subst et2; have Ot2 := Aside0.mk ht2; have HB := Aside0.mk hb; clear hb ht1 ht2) | (go_at_call 7; (refine (impl_NamesOf.calls ki y0 _ _ y1 _ _ y2 G b _ (Kd.R_reads' Ot1.out).2.2 (Kd.R_reads' Ot1.out).2.1 (Kd.R_reads' (Kd.S_R Ot2.out)).2.2 (Kd.R_reads' (Kd.S_R Ot2.out)).2.1 HI_.out).mono ?_); rintro e w15 ⟨vh, rfl, hh_, hb⟩; obtain ⟨Ah, ch, eh⟩ := Kd.R_slice hh_; subst eh; have Oh := Aside0.mk hh_; replace HB := Aside0.mk (below_step HB.out hb); clear hb hh_))
  clear rc0 rc1 rc2 rf0 rf1 rf2
  clear Ot1 Ot2
  replace Os := Aside0.mk (Kd.R_below Os.out HB.out)
  replace Oq := Aside0.mk (Kd.R_below Oq.out HB.out)
  replace K0 := Aside0.mk (below_step K0.out HB.out)
  clear HB
  have hq := laws_eqNameS.calls ke _ _ G _ _ G true w15 (Kd.R_reads' Oh.out).2.2 (Kd.R_reads' Oh.out).2.1 (Kd.R_reads' Os.out).2.2 (Kd.R_reads' Os.out).2.1 HE_.out
  go_upto_region 28 with (first | (go_at_call 8; (refine hq.mono ?_); rintro e w16 ⟨rfl, hb⟩; have HB := Aside0.mk hb; clear hb hq))
  replace Oq := Aside0.mk (Kd.R_below Oq.out HB.out)
  replace K0 := Aside0.mk (below_step K0.out HB.out)
  clear HB
  have hh := laws_heldNameS.calls kh _ _ q 1 mk2 w16 (Kd.R_reads' Oq.out).2.2 (show q.length ≤ _ from hl ▸ (Kd.R_reads' Oq.out).2.1) HH_.out
  rw [hl] at hh
  go_wp2_with (first | (go_at_call 12; (refine hh.mono ?_); rintro e w17 ⟨rfl, hb⟩; replace K0 := Aside0.mk (below_step K0.out hb); clear hb hh))
  go_ret
  exact ⟨by first | rfl | (simp; done) | (simp [*]; done), bs K0⟩
end Go.Proofs.YtggkhamidkmjpaaDoor.G
