/- The law FnExactNewNames, walked by hand. No statement. -/
import Derived.Test.YtdclpgcmeabmbaaNewMarkN
namespace Go.Proofs.Ytdclpgcmeabmbaa.G
open Go.RowKit Go.Proofs.YtdclpgcmeabmbaaW.PrintWords Go.Proofs.YtdclpgcmeabmbaaW.PrintLast Go.Proofs.YtdclpgcmeabmbaaW.PrintMore
set_option linter.unusedVariables false
set_option linter.unusedSimpArgs false
theorem rfU {α : Type} {d : Kd α} {e : Nat} {W0 W : World} {base : Nat} {ok : Nat → Prop} {v : Value} {xs : List α} {g t : Nat} {cells : Array Value} (h : Aside0 (d.R e W0 base ok v xs)) (b : Aside0 (W0.heap[g]? = some (.cells cells t (0, 0)))) (ht : ∀ q, q ∈ e :: d.E → q ≠ t := by decide) [s : FarL g W0 W] : d.R e W base (fun _ => True) v xs := Kd.R_mono (rf h b ht) (fun _ _ => trivial)
theorem sfU {α : Type} {d : Kd α} {e : Nat} {W0 W : World} {base : Nat} {ok : Nat → Prop} {v : Value} {xs : List α} {g t : Nat} {cells : Array Value} (h : Aside0 (Kd.S d e W0 base ok v xs)) (b : Aside0 (W0.heap[g]? = some (.cells cells t (0, 0)))) (ht : ∀ q, q ∈ e :: d.E → q ≠ t := by decide) [s : FarL g W0 W] : Kd.S d e W base (fun _ => True) v xs :=
  Kd.S_mono (Kd.S_step (Kd.S_types h.out b.out ht) (fun k hk hl => s.out.2 k hk.2 hl)) (fun _ _ => trivial)
theorem cz1_ {w : World} {g : Nat} {t : TypeId} {a0 : Value} (h : Aside0 (w.heap[g]? = some (.cells #[a0] t (0, 0)))) : w.cell? ⟨g, 0, none⟩ = some a0 := (blk_cell h.out 0).trans rfl
theorem fz1_ {w : World} {g : Nat} {t : TypeId} {a0 : Value} (h : Aside0 (w.heap[g]? = some (.cells #[a0] t (0, 0)))) : w.frozen? ⟨g, 0, none⟩ = false := blk_frozen h.out 0
theorem cz3_ {w : World} {g : Nat} {t : TypeId} {a0 a1 a2 : Value} (h : Aside0 (w.heap[g]? = some (.cells #[a0, a1, a2] t (0, 0)))) : w.cell? ⟨g, 0, none⟩ = some a0 ∧ w.cell? ⟨g, 1, none⟩ = some a1 ∧ w.cell? ⟨g, 2, none⟩ = some a2 := ⟨(blk_cell h.out 0).trans rfl, (blk_cell h.out 1).trans rfl, (blk_cell h.out 2).trans rfl⟩
theorem fz3_ {w : World} {g : Nat} {t : TypeId} {a0 a1 a2 : Value} (h : Aside0 (w.heap[g]? = some (.cells #[a0, a1, a2] t (0, 0)))) : w.frozen? ⟨g, 0, none⟩ = false ∧ w.frozen? ⟨g, 1, none⟩ = false ∧ w.frozen? ⟨g, 2, none⟩ = false := ⟨blk_frozen h.out 0, blk_frozen h.out 1, blk_frozen h.out 2⟩
set_option maxHeartbeats 8000000 in
set_option maxRecDepth 100000 in
theorem laws_FnExactNewNames.calls (ke k1 k2 k3 : Nat) (t2 m2 : List S61) (x y : Int) (hS : spec_NewNames.f = some t2) (hI : impl_NewNames.f = some t2) (hE : laws_eqNames.f ke t2 t2 = some true) (hC : laws_markInodeS.f k2 t2 1 = some (y, m2)) (hl2 : m2.length = t2.length) (hH : laws_heldNames.f k3 m2 1 = some y) (hy : ¬ y < 0) (w : World) :
    Calls Try.prog 5 #[] w fun e w' => e = .returned (.bool true) ∧ Below w.heap.size w w' := by
  have hu := Try.underlying43
  have HS_ := Aside0.mk hS
  have HI_ := Aside0.mk hI
  have HE_ := Aside0.mk hE
  have HC_ := Aside0.mk hC
  have HH_ := Aside0.mk hH
  clear hS hI hE hC hH
  have y0 : decide (y < 0) = false := decide_eq_false hy
  go_enter Try.func5, Try.ntmps5
  go_upto_region 2 with (first | (go_at_call 16; (with_reducible refine (spec_NewNames.calls t2 _ HS_.out).mono ?_); rintro e w5 ⟨va2, rfl, ha2, hb⟩; obtain ⟨Aa2, ca2, ea2⟩ := Kd.R_slice (Kd.S_R ha2); subst ea2; have Oa2 := Aside0.mk ha2; have HB := Aside0.mk hb; clear hb ha2) | ((with_reducible refine gate_dst (N := 1) rfl ?_); refine box_event ?hg (N := 1) ?hd (cs := #[.slice none 0 0]) (t := 43) ?hr ?_; (case hd => rfl); (case hg => rfl); (case hr => first | (go_simp; done) | (go_simp; rfl)); intro ga hg w6 hbox hb; have BA := Aside0.mk (hbox); replace Oa2 := sb Oa2 hb; have GA := Aside0.mk ((by rw [hg]; exact below_size (bs HB)) : w.heap.size ≤ ga); replace HB := Aside0.mk (below_step (bs HB) hb); clear hb hbox hg; have pac0 := cz1_ BA; have paf0 := fz1_ BA))
  have n0 : Aside0 ((w6.setCell ⟨ga, 0, none⟩ (.slice Aa2 t2.length ca2)).heap[ga]? = some (.cells #[.slice Aa2 t2.length ca2] 43 (0, 0))) := ⟨(blk_put (cs := #[.slice none 0 0]) BA.out 0 (.slice Aa2 t2.length ca2) rfl)⟩
  have n2 : Aside0 (Kd.S k61 61 (w6.setCell ⟨ga, 0, none⟩ (.slice Aa2 t2.length ca2)) w.heap.size (fun _ => True) (.slice Aa2 t2.length ca2) t2) := ⟨Go.Proofs.Ytdclpgcmeabmbaa.G.sfU Oa2 BA⟩
  have n9 : Aside0 (Below w.heap.size w (w6.setCell ⟨ga, 0, none⟩ (.slice Aa2 t2.length ca2))) := ⟨bs1 HB GA⟩
  clear Oa2 HB GA pac0 paf0 BA
  generalize (w6.setCell ⟨ga, 0, none⟩ (.slice Aa2 t2.length ca2)) = W1 at n0 n2 n9 ⊢
  have BA := n0
  have Oa2 := n2
  have HB := n9
  clear n0 n9 n2
  have HB1 := HB
  clear HB
  go_upto_region 3 with (first | (go_at_call 17; (with_reducible refine (impl_NewNames.calls t2 _ HI_.out).mono ?_); rintro e w7 ⟨vb2, rfl, hb2, hb⟩; obtain ⟨Ab2, cb2, eb2⟩ := Kd.R_slice (Kd.S_R hb2); subst eb2; have Ob2 := Aside0.mk hb2; have HB := Aside0.mk hb; clear hb hb2) | ((with_reducible refine gate_dst (N := 2) rfl ?_); refine box_event ?hg (N := 2) ?hd (cs := #[.slice none 0 0]) (t := 43) ?hr ?_; (case hd => rfl); (case hg => rfl); (case hr => first | (go_simp; done) | (go_simp; rfl)); intro gb hg w8 hbox hb; have BB := Aside0.mk (hbox); replace Ob2 := sb Ob2 hb; have GB := Aside0.mk ((by rw [hg]; exact below_size (bs HB)) : W1.heap.size ≤ gb); replace HB := Aside0.mk (below_step (bs HB) hb); clear hb hbox hg; have pbc0 := cz1_ BB; have pbf0 := fz1_ BB))
  have n0 : Aside0 ((w8.setCell ⟨gb, 0, none⟩ (.slice Ab2 t2.length cb2)).heap[gb]? = some (.cells #[.slice Ab2 t2.length cb2] 43 (0, 0))) := ⟨(blk_put (cs := #[.slice none 0 0]) BB.out 0 (.slice Ab2 t2.length cb2) rfl)⟩
  have n2 : Aside0 (Kd.S k61 61 (w8.setCell ⟨gb, 0, none⟩ (.slice Ab2 t2.length cb2)) W1.heap.size (fun _ => True) (.slice Ab2 t2.length cb2) t2) := ⟨Go.Proofs.Ytdclpgcmeabmbaa.G.sfU Ob2 BB⟩
  have n9 : Aside0 (Below W1.heap.size W1 (w8.setCell ⟨gb, 0, none⟩ (.slice Ab2 t2.length cb2))) := ⟨bs1 HB GB⟩
  clear Ob2 HB GB pbc0 pbf0 BB
  generalize (w8.setCell ⟨gb, 0, none⟩ (.slice Ab2 t2.length cb2)) = W2 at n0 n2 n9 ⊢
  have BB := n0
  have Ob2 := n2
  have HB := n9
  clear n0 n9 n2
  have Na2 := Aside0.mk (Kd.S_below Oa2.out HB.out)
  have NBA := Aside0.mk (blk_below BA.out HB.out)
  have hq := laws_eqNames.calls ke _ _ t2 _ _ t2 true W2 (Kd.R_reads' (Kd.S_R Ob2.out)).2.2 (Kd.R_reads' (Kd.S_R Ob2.out)).2.1 (Kd.R_reads' (Kd.S_R Na2.out)).2.2 (Kd.R_reads' (Kd.S_R Na2.out)).2.1 HE_.out
  have pac0 := cz1_ NBA
  have paf0 := fz1_ NBA
  have pbc0 := cz1_ BB
  have pbf0 := fz1_ BB
  go_upto_region 5 with (first | (go_at_call 18; (refine hq.mono ?_); rintro e w9 ⟨rfl, hb⟩; have HQ := Aside0.mk hb; clear hb hq))
  clear pac0 pbc0 paf0 pbf0 Na2 NBA
  have HW9 := Aside0.mk (below_step HB.out HQ.out)
  have P2 := Aside0.mk (Kd.S_below Ob2.out HQ.out)
  have BB9 := Aside0.mk (blk_below BB.out HQ.out)
  have pbc0 := cz1_ BB9
  have pbf0 := fz1_ BB9
  have hm := laws_markNames.calls k2 _ _ t2 1 y m2 W1 w9 HW9.out P2.out HC_.out
  go_upto_region 7 with (first | (go_at_call 19; (refine hm.mono ?_); rintro e w10 ⟨rfl, r2_, hb, hbx⟩; have HM := Aside0.mk hb; have HX := Aside0.mk hbx; have M2 := Aside0.mk r2_; clear r2_; clear hb hbx hm))
  have BB10 := Aside0.mk (HX.out _ _ BB9.out)
  clear pbc0 pbf0 BB9 P2
  have hh := laws_heldNames.calls k3 _ _ m2 1 y w10 (Kd.R_reads' (Kd.S_R M2.out)).2.2 (show m2.length ≤ _ from hl2 ▸ (Kd.R_reads' (Kd.S_R M2.out)).2.1) HH_.out
  rw [hl2] at hh
  have pbc0 := cz1_ BB10
  have pbf0 := fz1_ BB10
  have y1 : (y != y) = false := by simp
  go_upto_region 13 with (first | (go_at_call 20; (refine hh.mono ?_); rintro e w11 ⟨rfl, hb⟩; have HD := Aside0.mk hb; clear hb hh))
  clear pbc0 pbf0
  have H11 := Aside0.mk (below_step HM.out HD.out)
  clear HB
  go_upto_region 14 with (first | (go_at_call 17; (with_reducible refine (impl_NewNames.calls t2 _ HI_.out).mono ?_); rintro e w12 ⟨vd2, rfl, hd2, hb⟩; obtain ⟨Ad2, cd2, ed2⟩ := Kd.R_slice (Kd.S_R hd2); subst ed2; have Od2 := Aside0.mk hd2; have HB := Aside0.mk hb; clear hb hd2) | ((with_reducible refine gate_dst (N := 5) rfl ?_); refine box_event ?hg (N := 5) ?hd (cs := #[.slice none 0 0]) (t := 43) ?hr ?_; (case hd => rfl); (case hg => rfl); (case hr => first | (go_simp; done) | (go_simp; rfl)); intro gd hg w13 hbox hb; have BD := Aside0.mk (hbox); replace Od2 := sb Od2 hb; have GD := Aside0.mk ((by rw [hg]; exact below_size (bs HB)) : w11.heap.size ≤ gd); replace HB := Aside0.mk (below_step (bs HB) hb); clear hb hbox hg; have pdc0 := cz1_ BD; have pdf0 := fz1_ BD))
  have n0 : Aside0 ((w13.setCell ⟨gd, 0, none⟩ (.slice Ad2 t2.length cd2)).heap[gd]? = some (.cells #[.slice Ad2 t2.length cd2] 43 (0, 0))) := ⟨(blk_put (cs := #[.slice none 0 0]) BD.out 0 (.slice Ad2 t2.length cd2) rfl)⟩
  have n2 : Aside0 (Kd.S k61 61 (w13.setCell ⟨gd, 0, none⟩ (.slice Ad2 t2.length cd2)) w11.heap.size (fun _ => True) (.slice Ad2 t2.length cd2) t2) := ⟨Go.Proofs.Ytdclpgcmeabmbaa.G.sfU Od2 BD⟩
  have n9 : Aside0 (Below w11.heap.size w11 (w13.setCell ⟨gd, 0, none⟩ (.slice Ad2 t2.length cd2))) := ⟨bs1 HB GD⟩
  clear Od2 HB GD pdc0 pdf0 BD
  generalize (w13.setCell ⟨gd, 0, none⟩ (.slice Ad2 t2.length cd2)) = W3 at n0 n2 n9 ⊢
  have BD := n0
  have Od2 := n2
  have HB := n9
  clear n0 n9 n2
  have H1W := Aside0.mk (below_step H11.out HB.out)
  have Na2 := Aside0.mk (Kd.S_below Oa2.out H1W.out)
  have NBA := Aside0.mk (blk_below BA.out H1W.out)
  have hq := laws_eqNames.calls ke _ _ t2 _ _ t2 true W3 (Kd.R_reads' (Kd.S_R Od2.out)).2.2 (Kd.R_reads' (Kd.S_R Od2.out)).2.1 (Kd.R_reads' (Kd.S_R Na2.out)).2.2 (Kd.R_reads' (Kd.S_R Na2.out)).2.1 HE_.out
  have BB11 := Aside0.mk (blk_below (blk_below BB10.out HD.out) HB.out)
  have pac0 := cz1_ NBA
  have paf0 := fz1_ NBA
  have pdc0 := cz1_ BD
  have pdf0 := fz1_ BD
  have pbc0 := cz1_ BB11
  have pbf0 := fz1_ BB11
  go_upto_region 16 with (first | (go_at_call 18; (refine hq.mono ?_); rintro e w14 ⟨rfl, hb⟩; have HQ2 := Aside0.mk hb; clear hb hq))
  clear pac0 paf0 pbc0 pbf0 pdc0 pdf0
  have HE3 := Aside0.mk (below_step (below_step HD.out HB.out) HQ2.out)
  have M2' := Aside0.mk (Kd.S_below M2.out HE3.out)
  have hh := laws_heldNames.calls k3 _ _ m2 1 y w14 (Kd.R_reads' (Kd.S_R M2'.out)).2.2 (show m2.length ≤ _ from hl2 ▸ (Kd.R_reads' (Kd.S_R M2'.out)).2.1) HH_.out
  rw [hl2] at hh
  have BB14 := Aside0.mk (blk_below BB11.out HQ2.out)
  have pbc0 := cz1_ BB14
  have pbf0 := fz1_ BB14
  have HF := Aside0.mk (below_step HB1.out (below_step H1W.out HQ2.out))
  go_wp2_with (first | (go_at_call 20; (refine hh.mono ?_); rintro e w15 ⟨rfl, hb⟩; have HG := Aside0.mk (below_step HF.out hb); clear hb hh))
  go_ret
  exact ⟨by first | rfl | (simp; done) | (simp [*]; done), bs HG⟩
end Go.Proofs.Ytdclpgcmeabmbaa.G
