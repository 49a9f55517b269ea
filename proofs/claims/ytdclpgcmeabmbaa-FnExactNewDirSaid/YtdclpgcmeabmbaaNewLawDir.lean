/- The law FnExactNewDir, walked by hand. No statement. -/
import Derived.Test.YtdclpgcmeabmbaaNewMark
namespace Go.Proofs.Ytdclpgcmeabmbaa.G
open Go.RowKit Go.Proofs.YtdclpgcmeabmbaaW.PrintWords Go.Proofs.YtdclpgcmeabmbaaW.PrintLast Go.Proofs.YtdclpgcmeabmbaaW.PrintMore
set_option linter.unusedVariables false
set_option linter.unusedSimpArgs false
theorem rfU {α : Type} {d : Kd α} {e : Nat} {W0 W : World} {base : Nat} {ok : Nat → Prop} {v : Value} {xs : List α} {g t : Nat} {cells : Array Value} (h : Aside0 (d.R e W0 base ok v xs)) (b : Aside0 (W0.heap[g]? = some (.cells cells t (0, 0)))) (ht : ∀ q, q ∈ e :: d.E → q ≠ t := by decide) [s : FarL g W0 W] : d.R e W base (fun _ => True) v xs := Kd.R_mono (rf h b ht) (fun _ _ => trivial)
theorem sfU {α : Type} {d : Kd α} {e : Nat} {W0 W : World} {base : Nat} {ok : Nat → Prop} {v : Value} {xs : List α} {g t : Nat} {cells : Array Value} (h : Aside0 (Kd.S d e W0 base ok v xs)) (b : Aside0 (W0.heap[g]? = some (.cells cells t (0, 0)))) (ht : ∀ q, q ∈ e :: d.E → q ≠ t := by decide) [s : FarL g W0 W] : Kd.S d e W base (fun _ => True) v xs :=
  Kd.S_mono (Kd.S_step (Kd.S_types h.out b.out ht) (fun k hk hl => s.out.2 k hk.2 hl)) (fun _ _ => trivial)
theorem cz1_ {w : World} {g : Nat} {t : TypeId} {a0 : Value} (h : Aside0 (w.heap[g]? = some (.cells #[a0] t (0, 0)))) : w.cell? ⟨g, 0, none⟩ = some a0 := (blk_cell h.out 0).trans rfl
theorem fz1_ {w : World} {g : Nat} {t : TypeId} {a0 : Value} (h : Aside0 (w.heap[g]? = some (.cells #[a0] t (0, 0)))) : w.frozen? ⟨g, 0, none⟩ = false := blk_frozen h.out 0
theorem cz3_ {w : World} {g : Nat} {t : TypeId} {a0 a1 a2 : Value} (h : Aside0 (w.heap[g]? = some (.cells #[a0, a1, a2] t (0, 0)))) : w.cell? ⟨g, 0, none⟩ = some a0 ∧ w.cell? ⟨g, 1, none⟩ = some a1 ∧ w.cell? ⟨g, 2, none⟩ = some a2 := ⟨(blk_cell h.out 0).trans rfl, (blk_cell h.out 1).trans rfl, (blk_cell h.out 2).trans rfl⟩
theorem fz3_ {w : World} {g : Nat} {t : TypeId} {a0 a1 a2 : Value} (h : Aside0 (w.heap[g]? = some (.cells #[a0, a1, a2] t (0, 0)))) : w.frozen? ⟨g, 0, none⟩ = false ∧ w.frozen? ⟨g, 1, none⟩ = false ∧ w.frozen? ⟨g, 2, none⟩ = false := ⟨blk_frozen h.out 0, blk_frozen h.out 1, blk_frozen h.out 2⟩
set_option maxHeartbeats 8000000 in
set_option maxRecDepth 100000 in
theorem laws_FnExactNewDir.calls (ke k1 k2 k3 : Nat) (t1 m1 : List Int) (t2 m2 : List S55) (x y : Int) (hS : spec_NewDir.f = some (0, t1, t2)) (hI : impl_NewDir.f = some (0, t1, t2)) (hE : laws_eqDir.f ke 0 t1 t2 0 t1 t2 = some true) (hA : laws_markIntS.f k1 t1 1 = some (x, m1)) (hC : laws_markBucketS.f k2 t2 x = some (y, m2)) (hl1 : m1.length = t1.length) (hl2 : m2.length = t2.length) (hH : laws_heldDir.f k3 0 m1 m2 1 = some y) (hy : ¬ y < 0) (w : World) :
    Calls Try.prog 4 #[] w fun e w' => e = .returned (.bool true) ∧ Below w.heap.size w w' := by
  have hu := Try.underlying36
  have HS_ := Aside0.mk hS
  have HI_ := Aside0.mk hI
  have HE_ := Aside0.mk hE
  have HC_ := Aside0.mk hC
  have HH_ := Aside0.mk hH
  have HA_ := Aside0.mk hA
  clear hS hI hE hC hH hA
  have y0 : decide (y < 0) = false := decide_eq_false hy
  go_enter Try.func4, Try.ntmps4
  go_upto_region 2 with (first | (go_at_call 11; (with_reducible refine (spec_NewDir.calls 0 t1 t2 _ HS_.out).mono ?_); rintro e w5 ⟨va1, va2, rfl, ha1, ha2, hb⟩; obtain ⟨Aa1, ca1, ea1⟩ := Kd.R_slice (ha1); subst ea1; have Oa1 := Aside0.mk ha1; obtain ⟨Aa2, ca2, ea2⟩ := Kd.R_slice (Kd.S_R ha2); subst ea2; have Oa2 := Aside0.mk ha2; have HB := Aside0.mk hb; clear hb ha1 ha2) | ((with_reducible refine gate_dst (N := 1) rfl ?_); refine box_event ?hg (N := 1) ?hd (cs := #[.int .i64 0, .slice none 0 0, .slice none 0 0]) (t := 36) ?hr ?_; (case hd => rfl); (case hg => rfl); (case hr => first | (go_simp; done) | (go_simp; rfl)); intro ga hg w6 hbox hb; have BA := Aside0.mk (hbox); replace Oa1 := nr Oa1 hb; replace Oa2 := sb Oa2 hb; have GA := Aside0.mk ((by rw [hg]; exact below_size (bs HB)) : w.heap.size ≤ ga); replace HB := Aside0.mk (below_step (bs HB) hb); clear hb hbox hg; obtain ⟨pac0, pac1, pac2⟩ := cz3_ BA; obtain ⟨paf0, paf1, paf2⟩ := fz3_ BA))
  have n0 : Aside0 ((((w6.setCell ⟨ga, 0, none⟩ (.int .i64 0)).setCell ⟨ga, 1, none⟩ (.slice Aa1 t1.length ca1)).setCell ⟨ga, 2, none⟩ (.slice Aa2 t2.length ca2)).heap[ga]? = some (.cells #[.int .i64 0, .slice Aa1 t1.length ca1, .slice Aa2 t2.length ca2] 36 (0, 0))) := ⟨(blk_put (cs := #[.int .i64 0, .slice Aa1 t1.length ca1, .slice none 0 0]) (blk_put (cs := #[.int .i64 0, .slice none 0 0, .slice none 0 0]) (blk_put (cs := #[.int .i64 0, .slice none 0 0, .slice none 0 0]) BA.out 0 (.int .i64 0) rfl) 1 (.slice Aa1 t1.length ca1) rfl) 2 (.slice Aa2 t2.length ca2) rfl)⟩
  have n1 : Aside0 (Kd.R (Kd.int .i64) 3 (((w6.setCell ⟨ga, 0, none⟩ (.int .i64 0)).setCell ⟨ga, 1, none⟩ (.slice Aa1 t1.length ca1)).setCell ⟨ga, 2, none⟩ (.slice Aa2 t2.length ca2)) w.heap.size (fun _ => True) (.slice Aa1 t1.length ca1) t1) := ⟨Go.Proofs.Ytdclpgcmeabmbaa.G.rfU Oa1 BA⟩
  have n2 : Aside0 (Kd.S k55 55 (((w6.setCell ⟨ga, 0, none⟩ (.int .i64 0)).setCell ⟨ga, 1, none⟩ (.slice Aa1 t1.length ca1)).setCell ⟨ga, 2, none⟩ (.slice Aa2 t2.length ca2)) w.heap.size (fun _ => True) (.slice Aa2 t2.length ca2) t2) := ⟨Go.Proofs.Ytdclpgcmeabmbaa.G.sfU Oa2 BA⟩
  have n9 : Aside0 (Below w.heap.size w (((w6.setCell ⟨ga, 0, none⟩ (.int .i64 0)).setCell ⟨ga, 1, none⟩ (.slice Aa1 t1.length ca1)).setCell ⟨ga, 2, none⟩ (.slice Aa2 t2.length ca2))) := ⟨bs1 HB GA⟩
  clear Oa1 Oa2 HB GA pac0 pac1 pac2 paf0 paf1 paf2 BA
  generalize (((w6.setCell ⟨ga, 0, none⟩ (.int .i64 0)).setCell ⟨ga, 1, none⟩ (.slice Aa1 t1.length ca1)).setCell ⟨ga, 2, none⟩ (.slice Aa2 t2.length ca2)) = W1 at n0 n1 n2 n9 ⊢
  have BA := n0
  have Oa1 := n1
  have Oa2 := n2
  have HB := n9
  clear n0 n9 n1 n2
  have HB1 := HB
  clear HB
  go_upto_region 3 with (first | (go_at_call 12; (with_reducible refine (impl_NewDir.calls 0 t1 t2 _ HI_.out).mono ?_); rintro e w7 ⟨vb1, vb2, rfl, hb1, hb2, hb⟩; obtain ⟨Ab1, cb1, eb1⟩ := Kd.R_slice (hb1); subst eb1; have Ob1 := Aside0.mk hb1; obtain ⟨Ab2, cb2, eb2⟩ := Kd.R_slice (Kd.S_R hb2); subst eb2; have Ob2 := Aside0.mk hb2; have HB := Aside0.mk hb; clear hb hb1 hb2) | ((with_reducible refine gate_dst (N := 2) rfl ?_); refine box_event ?hg (N := 2) ?hd (cs := #[.int .i64 0, .slice none 0 0, .slice none 0 0]) (t := 36) ?hr ?_; (case hd => rfl); (case hg => rfl); (case hr => first | (go_simp; done) | (go_simp; rfl)); intro gb hg w8 hbox hb; have BB := Aside0.mk (hbox); replace Ob1 := nr Ob1 hb; replace Ob2 := sb Ob2 hb; have GB := Aside0.mk ((by rw [hg]; exact below_size (bs HB)) : W1.heap.size ≤ gb); replace HB := Aside0.mk (below_step (bs HB) hb); clear hb hbox hg; obtain ⟨pbc0, pbc1, pbc2⟩ := cz3_ BB; obtain ⟨pbf0, pbf1, pbf2⟩ := fz3_ BB))
  have n0 : Aside0 ((((w8.setCell ⟨gb, 0, none⟩ (.int .i64 0)).setCell ⟨gb, 1, none⟩ (.slice Ab1 t1.length cb1)).setCell ⟨gb, 2, none⟩ (.slice Ab2 t2.length cb2)).heap[gb]? = some (.cells #[.int .i64 0, .slice Ab1 t1.length cb1, .slice Ab2 t2.length cb2] 36 (0, 0))) := ⟨(blk_put (cs := #[.int .i64 0, .slice Ab1 t1.length cb1, .slice none 0 0]) (blk_put (cs := #[.int .i64 0, .slice none 0 0, .slice none 0 0]) (blk_put (cs := #[.int .i64 0, .slice none 0 0, .slice none 0 0]) BB.out 0 (.int .i64 0) rfl) 1 (.slice Ab1 t1.length cb1) rfl) 2 (.slice Ab2 t2.length cb2) rfl)⟩
  have n1 : Aside0 (Kd.R (Kd.int .i64) 3 (((w8.setCell ⟨gb, 0, none⟩ (.int .i64 0)).setCell ⟨gb, 1, none⟩ (.slice Ab1 t1.length cb1)).setCell ⟨gb, 2, none⟩ (.slice Ab2 t2.length cb2)) W1.heap.size (fun _ => True) (.slice Ab1 t1.length cb1) t1) := ⟨Go.Proofs.Ytdclpgcmeabmbaa.G.rfU Ob1 BB⟩
  have n2 : Aside0 (Kd.S k55 55 (((w8.setCell ⟨gb, 0, none⟩ (.int .i64 0)).setCell ⟨gb, 1, none⟩ (.slice Ab1 t1.length cb1)).setCell ⟨gb, 2, none⟩ (.slice Ab2 t2.length cb2)) W1.heap.size (fun _ => True) (.slice Ab2 t2.length cb2) t2) := ⟨Go.Proofs.Ytdclpgcmeabmbaa.G.sfU Ob2 BB⟩
  have n9 : Aside0 (Below W1.heap.size W1 (((w8.setCell ⟨gb, 0, none⟩ (.int .i64 0)).setCell ⟨gb, 1, none⟩ (.slice Ab1 t1.length cb1)).setCell ⟨gb, 2, none⟩ (.slice Ab2 t2.length cb2))) := ⟨bs1 HB GB⟩
  clear Ob1 Ob2 HB GB pbc0 pbc1 pbc2 pbf0 pbf1 pbf2 BB
  generalize (((w8.setCell ⟨gb, 0, none⟩ (.int .i64 0)).setCell ⟨gb, 1, none⟩ (.slice Ab1 t1.length cb1)).setCell ⟨gb, 2, none⟩ (.slice Ab2 t2.length cb2)) = W2 at n0 n1 n2 n9 ⊢
  have BB := n0
  have Ob1 := n1
  have Ob2 := n2
  have HB := n9
  clear n0 n9 n1 n2
  have Na1 := Aside0.mk (Kd.R_below Oa1.out HB.out)
  have Na2 := Aside0.mk (Kd.S_below Oa2.out HB.out)
  have NBA := Aside0.mk (blk_below BA.out HB.out)
  have hq := laws_eqDir.calls ke 0 _ _ t1 _ _ t2 0 _ _ t1 _ _ t2 true W2 (Kd.R_reads' (Ob1.out)).2.2 (Kd.R_reads' (Ob1.out)).2.1 (Kd.R_reads' (Kd.S_R Ob2.out)).2.2 (Kd.R_reads' (Kd.S_R Ob2.out)).2.1 (Kd.R_reads' (Na1.out)).2.2 (Kd.R_reads' (Na1.out)).2.1 (Kd.R_reads' (Kd.S_R Na2.out)).2.2 (Kd.R_reads' (Kd.S_R Na2.out)).2.1 HE_.out
  obtain ⟨pac0, pac1, pac2⟩ := cz3_ NBA
  obtain ⟨paf0, paf1, paf2⟩ := fz3_ NBA
  obtain ⟨pbc0, pbc1, pbc2⟩ := cz3_ BB
  obtain ⟨pbf0, pbf1, pbf2⟩ := fz3_ BB
  go_upto_region 5 with (first | (go_at_call 13; (refine hq.mono ?_); rintro e w9 ⟨rfl, hb⟩; have HQ := Aside0.mk hb; clear hb hq))
  clear pac0 pbc0 pac1 pbc1 pac2 pbc2 paf0 pbf0 paf1 pbf1 paf2 pbf2 Na1 Na2 NBA
  have HW9 := Aside0.mk (below_step HB.out HQ.out)
  have P1 := Aside0.mk (Kd.R_below Ob1.out HQ.out)
  have P2 := Aside0.mk (Kd.S_below Ob2.out HQ.out)
  have BB9 := Aside0.mk (blk_below BB.out HQ.out)
  obtain ⟨pbc0, pbc1, pbc2⟩ := cz3_ BB9
  obtain ⟨pbf0, pbf1, pbf2⟩ := fz3_ BB9
  have hm := laws_markDir.calls k1 k2 0 _ _ t1 _ _ t2 1 x y m1 m2 W1 w9 HW9.out P1.out P2.out HA_.out HC_.out
  go_upto_region 7 with (first | (go_at_call 14; (refine hm.mono ?_); rintro e w10 ⟨rfl, ⟨r1_, r2_⟩, hb, hbx⟩; have HM := Aside0.mk hb; have HX := Aside0.mk hbx; have M1 := Aside0.mk r1_; have M2 := Aside0.mk r2_; clear r1_ r2_; clear hb hbx hm))
  have BB10 := Aside0.mk (HX.out _ _ BB9.out)
  clear pbc0 pbc1 pbc2 pbf0 pbf1 pbf2 BB9 P1 P2
  have hh := laws_heldDir.calls k3 0 _ _ m1 _ _ m2 1 y w10 (Kd.R_reads' (M1.out)).2.2 (show m1.length ≤ _ from hl1 ▸ (Kd.R_reads' (M1.out)).2.1) (Kd.R_reads' (Kd.S_R M2.out)).2.2 (show m2.length ≤ _ from hl2 ▸ (Kd.R_reads' (Kd.S_R M2.out)).2.1) HH_.out
  rw [hl1, hl2] at hh
  obtain ⟨pbc0, pbc1, pbc2⟩ := cz3_ BB10
  obtain ⟨pbf0, pbf1, pbf2⟩ := fz3_ BB10
  have y1 : (y != y) = false := by simp
  go_upto_region 13 with (first | (go_at_call 15; (refine hh.mono ?_); rintro e w11 ⟨rfl, hb⟩; have HD := Aside0.mk hb; clear hb hh))
  clear pbc0 pbc1 pbc2 pbf0 pbf1 pbf2
  have H11 := Aside0.mk (below_step HM.out HD.out)
  clear HB
  go_upto_region 14 with (first | (go_at_call 12; (with_reducible refine (impl_NewDir.calls 0 t1 t2 _ HI_.out).mono ?_); rintro e w12 ⟨vd1, vd2, rfl, hd1, hd2, hb⟩; obtain ⟨Ad1, cd1, ed1⟩ := Kd.R_slice (hd1); subst ed1; have Od1 := Aside0.mk hd1; obtain ⟨Ad2, cd2, ed2⟩ := Kd.R_slice (Kd.S_R hd2); subst ed2; have Od2 := Aside0.mk hd2; have HB := Aside0.mk hb; clear hb hd1 hd2) | ((with_reducible refine gate_dst (N := 5) rfl ?_); refine box_event ?hg (N := 5) ?hd (cs := #[.int .i64 0, .slice none 0 0, .slice none 0 0]) (t := 36) ?hr ?_; (case hd => rfl); (case hg => rfl); (case hr => first | (go_simp; done) | (go_simp; rfl)); intro gd hg w13 hbox hb; have BD := Aside0.mk (hbox); replace Od1 := nr Od1 hb; replace Od2 := sb Od2 hb; have GD := Aside0.mk ((by rw [hg]; exact below_size (bs HB)) : w11.heap.size ≤ gd); replace HB := Aside0.mk (below_step (bs HB) hb); clear hb hbox hg; obtain ⟨pdc0, pdc1, pdc2⟩ := cz3_ BD; obtain ⟨pdf0, pdf1, pdf2⟩ := fz3_ BD))
  have n0 : Aside0 ((((w13.setCell ⟨gd, 0, none⟩ (.int .i64 0)).setCell ⟨gd, 1, none⟩ (.slice Ad1 t1.length cd1)).setCell ⟨gd, 2, none⟩ (.slice Ad2 t2.length cd2)).heap[gd]? = some (.cells #[.int .i64 0, .slice Ad1 t1.length cd1, .slice Ad2 t2.length cd2] 36 (0, 0))) := ⟨(blk_put (cs := #[.int .i64 0, .slice Ad1 t1.length cd1, .slice none 0 0]) (blk_put (cs := #[.int .i64 0, .slice none 0 0, .slice none 0 0]) (blk_put (cs := #[.int .i64 0, .slice none 0 0, .slice none 0 0]) BD.out 0 (.int .i64 0) rfl) 1 (.slice Ad1 t1.length cd1) rfl) 2 (.slice Ad2 t2.length cd2) rfl)⟩
  have n1 : Aside0 (Kd.R (Kd.int .i64) 3 (((w13.setCell ⟨gd, 0, none⟩ (.int .i64 0)).setCell ⟨gd, 1, none⟩ (.slice Ad1 t1.length cd1)).setCell ⟨gd, 2, none⟩ (.slice Ad2 t2.length cd2)) w11.heap.size (fun _ => True) (.slice Ad1 t1.length cd1) t1) := ⟨Go.Proofs.Ytdclpgcmeabmbaa.G.rfU Od1 BD⟩
  have n2 : Aside0 (Kd.S k55 55 (((w13.setCell ⟨gd, 0, none⟩ (.int .i64 0)).setCell ⟨gd, 1, none⟩ (.slice Ad1 t1.length cd1)).setCell ⟨gd, 2, none⟩ (.slice Ad2 t2.length cd2)) w11.heap.size (fun _ => True) (.slice Ad2 t2.length cd2) t2) := ⟨Go.Proofs.Ytdclpgcmeabmbaa.G.sfU Od2 BD⟩
  have n9 : Aside0 (Below w11.heap.size w11 (((w13.setCell ⟨gd, 0, none⟩ (.int .i64 0)).setCell ⟨gd, 1, none⟩ (.slice Ad1 t1.length cd1)).setCell ⟨gd, 2, none⟩ (.slice Ad2 t2.length cd2))) := ⟨bs1 HB GD⟩
  clear Od1 Od2 HB GD pdc0 pdc1 pdc2 pdf0 pdf1 pdf2 BD
  generalize (((w13.setCell ⟨gd, 0, none⟩ (.int .i64 0)).setCell ⟨gd, 1, none⟩ (.slice Ad1 t1.length cd1)).setCell ⟨gd, 2, none⟩ (.slice Ad2 t2.length cd2)) = W3 at n0 n1 n2 n9 ⊢
  have BD := n0
  have Od1 := n1
  have Od2 := n2
  have HB := n9
  clear n0 n9 n1 n2
  have H1W := Aside0.mk (below_step H11.out HB.out)
  have Na1 := Aside0.mk (Kd.R_below Oa1.out H1W.out)
  have Na2 := Aside0.mk (Kd.S_below Oa2.out H1W.out)
  have NBA := Aside0.mk (blk_below BA.out H1W.out)
  have hq := laws_eqDir.calls ke 0 _ _ t1 _ _ t2 0 _ _ t1 _ _ t2 true W3 (Kd.R_reads' (Od1.out)).2.2 (Kd.R_reads' (Od1.out)).2.1 (Kd.R_reads' (Kd.S_R Od2.out)).2.2 (Kd.R_reads' (Kd.S_R Od2.out)).2.1 (Kd.R_reads' (Na1.out)).2.2 (Kd.R_reads' (Na1.out)).2.1 (Kd.R_reads' (Kd.S_R Na2.out)).2.2 (Kd.R_reads' (Kd.S_R Na2.out)).2.1 HE_.out
  have BB11 := Aside0.mk (blk_below (blk_below BB10.out HD.out) HB.out)
  obtain ⟨pac0, pac1, pac2⟩ := cz3_ NBA
  obtain ⟨paf0, paf1, paf2⟩ := fz3_ NBA
  obtain ⟨pdc0, pdc1, pdc2⟩ := cz3_ BD
  obtain ⟨pdf0, pdf1, pdf2⟩ := fz3_ BD
  obtain ⟨pbc0, pbc1, pbc2⟩ := cz3_ BB11
  obtain ⟨pbf0, pbf1, pbf2⟩ := fz3_ BB11
  go_upto_region 16 with (first | (go_at_call 13; (refine hq.mono ?_); rintro e w14 ⟨rfl, hb⟩; have HQ2 := Aside0.mk hb; clear hb hq))
  clear pac0 pac1 pac2 paf0 paf1 paf2 pbc0 pbc1 pbc2 pbf0 pbf1 pbf2 pdc0 pdc1 pdc2 pdf0 pdf1 pdf2
  have HE3 := Aside0.mk (below_step (below_step HD.out HB.out) HQ2.out)
  have M1' := Aside0.mk (Kd.R_below M1.out HE3.out)
  have M2' := Aside0.mk (Kd.S_below M2.out HE3.out)
  have hh := laws_heldDir.calls k3 0 _ _ m1 _ _ m2 1 y w14 (Kd.R_reads' (M1'.out)).2.2 (show m1.length ≤ _ from hl1 ▸ (Kd.R_reads' (M1'.out)).2.1) (Kd.R_reads' (Kd.S_R M2'.out)).2.2 (show m2.length ≤ _ from hl2 ▸ (Kd.R_reads' (Kd.S_R M2'.out)).2.1) HH_.out
  rw [hl1, hl2] at hh
  have BB14 := Aside0.mk (blk_below BB11.out HQ2.out)
  obtain ⟨pbc0, pbc1, pbc2⟩ := cz3_ BB14
  obtain ⟨pbf0, pbf1, pbf2⟩ := fz3_ BB14
  have HF := Aside0.mk (below_step HB1.out (below_step H1W.out HQ2.out))
  go_wp2_with (first | (go_at_call 15; (refine hh.mono ?_); rintro e w15 ⟨rfl, hb⟩; have HG := Aside0.mk (below_step HF.out hb); clear hb hh))
  go_ret
  exact ⟨by first | rfl | (simp; done) | (simp [*]; done), bs HG⟩
end Go.Proofs.Ytdclpgcmeabmbaa.G
