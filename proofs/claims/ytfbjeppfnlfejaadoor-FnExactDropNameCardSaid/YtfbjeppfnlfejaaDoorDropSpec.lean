/- spec.DropName, walked by hand. No statement. -/
import Derived.Test.YtfbjeppfnlfejaaDoorG2
import Derived.Test.YtfbjeppfnlfejaaDoorG1
import Derived.Test.YtfbjeppfnlfejaaDoorG3
namespace Go.Proofs.YtfbjeppfnlfejaaDoor.G
open Go.RowKit Go.Proofs.YtfbjeppfnlfejaaDoorW.PrintWords Go.Proofs.YtfbjeppfnlfejaaDoorW.PrintLast Go.Proofs.YtfbjeppfnlfejaaDoorW.PrintMore
set_option linter.unusedVariables false
set_option linter.unusedSimpArgs false
/-- The buckets, the name at q gone from bucket n. -/
def dropE (l : List S46) (n q : Int) : List S46 := l.set n.toNat (⟨(rd_T46 l n).f0, (rd_T46 l n).f1.take q.toNat ++ (rd_T46 l n).f1.drop (q.toNat + 1)⟩ : S46)
theorem rfU {α : Type} {d : Kd α} {e : Nat} {W0 W : World} {base : Nat} {ok : Nat → Prop} {v : Value} {xs : List α} {g t : Nat} {cells : Array Value} (h : Aside0 (d.R e W0 base ok v xs)) (b : Aside0 (W0.heap[g]? = some (.cells cells t (0, 0)))) (ht : ∀ q, q ∈ e :: d.E → q ≠ t := by decide) [s : FarL g W0 W] : d.R e W base (fun _ => True) v xs := Kd.R_mono (rf h b ht) (fun _ _ => trivial)
theorem sfU {α : Type} {d : Kd α} {e : Nat} {W0 W : World} {base : Nat} {ok : Nat → Prop} {v : Value} {xs : List α} {g t : Nat} {cells : Array Value} (h : Aside0 (Kd.S d e W0 base ok v xs)) (b : Aside0 (W0.heap[g]? = some (.cells cells t (0, 0)))) (ht : ∀ q, q ∈ e :: d.E → q ≠ t := by decide) [s : FarL g W0 W] : Kd.S d e W base (fun _ => True) v xs :=
  Kd.S_mono (Kd.S_step (Kd.S_types h.out b.out ht) (fun k hk hl => s.out.2 k hk.2 hl)) (fun _ _ => trivial)
theorem ssD {α : Type} {d : Kd α} {e base : Nat} {ok : Nat → Prop} {W0 W : World} {v : Value} {xs : List α} (h : Aside0 (Kd.S d e W0 base ok v xs)) [s : StL [] W0 W] : Kd.S d e W base ok v xs := Kd.S_below h.out st_below
theorem tyno {w : World} {k t : Nat} {E : List Nat} {cs : Array Value} (h : ∃ q, q ∈ E ∧ ∃ cells, w.heap[k]? = some (.cells cells q (0, 0))) (hb : w.heap[k]? = some (.cells cs t (0, 0))) (ht : ∀ q, q ∈ E → q ≠ t) : False := by
  obtain ⟨q, hq, cells, hc⟩ := h
  rw [hc] at hb
  injection hb with hb
  injection hb with _ h2 _
  exact ht q hq h2
theorem tyno2 {w : World} {k : Nat} {E E' : List Nat} (h : ∃ q, q ∈ E ∧ ∃ cells, w.heap[k]? = some (.cells cells q (0, 0))) (h' : ∃ q, q ∈ E' ∧ ∃ cells, w.heap[k]? = some (.cells cells q (0, 0))) (ht : ∀ q, q ∈ E → ∀ q', q' ∈ E' → q ≠ q') : False := by
  obtain ⟨q', hq', cells, hc⟩ := h'
  exact tyno h hc (fun q hq => ht q hq q' hq')
theorem fz_kept {w W : World} {S : Nat → Prop} {a : Addr} (hf : w.frozen? a = false) (hl : a.block < w.heap.size) (hk : Kept w W S) (hne : ¬ S a.block) : W.frozen? a = false := by
  have := hk.2 a.block hl hne
  simpa [World.frozen?, this] using hf
theorem made0 {α : Type} (d : Kd α) (e : Nat) (w : World) {W : World} [s : StL [] (w.alloc (.cells #[] e)) W] : d.R e W w.heap.size (fun _ => True) (.slice (some ⟨w.heap.size, 0, none⟩) 0 0) [] :=
  ⟨fun _ _ => trivial, [], ⟨by simp, .inr ⟨w.heap.size, 0, #[], rfl, Nat.le_refl _, blk_below (blk_new w (.cells #[] e)) st_below, Nat.le_refl _, by decide, by simp, by simp⟩⟩, Reps.none _ _⟩
theorem sbD {α : Type} {d : Kd α} {e base : Nat} {ok : Nat → Prop} {W0 W W1 : World} {v : Value} {xs : List α} (h : Aside0 (Kd.S d e W0 base ok v xs)) (hb : Below W.heap.size W W1) [s : StL [] W0 W] : Aside0 (Kd.S d e W1 base ok v xs) := ⟨Kd.S_below (Kd.S_below h.out st_below) hb⟩
theorem czD {w : World} {g : Nat} {t : TypeId} {a0 a1 a2 : Value} (h : Aside0 (w.heap[g]? = some (.cells #[a0, a1, a2] t (0, 0)))) : w.cell? ⟨g, 0, none⟩ = some a0 ∧ w.cell? ⟨g, 1, none⟩ = some a1 ∧ w.cell? ⟨g, 2, none⟩ = some a2 ∧ w.frozen? ⟨g, 0, none⟩ = false ∧ w.frozen? ⟨g, 1, none⟩ = false ∧ w.frozen? ⟨g, 2, none⟩ = false := ⟨(blk_cell h.out 0).trans rfl, (blk_cell h.out 1).trans rfl, (blk_cell h.out 2).trans rfl, blk_frozen h.out 0, blk_frozen h.out 1, blk_frozen h.out 2⟩
set_option maxHeartbeats 8000000 in
set_option maxRecDepth 100000 in
theorem spec_DropName.bad (k : Nat) (a0 : Int) (A1 : Option Addr) (c1 : Nat) (l1 : List Int) (A2 : Option Addr) (c2 : Nat) (l2 : List S46) (sm : ByteArray) (w : World) (hr1 : Kd.C (Kd.int .i64) w A1 l1.length l1) (hc1 : l1.length ≤ c1) (hr2 : Kd.C k46 w A2 l2.length l2) (hc2 : l2.length ≤ c2)
    (hG : spec_GoodDir.f k a0 l1 l2 = some false) :
    Calls Tryd.prog 5 #[.agg #[.int .i64 a0, .slice A1 l1.length c1, .slice A2 l2.length c2], .string sm] w fun e w' => e = .returned (.tuple #[.agg #[.int .i64 0, .slice none 0 0, .slice none 0 0], .bool false]) ∧ Below w.heap.size w w' := by
  have hu := Tryd.underlying29
  have huB := Tryd.underlying46
  have C1 := Ah hr1
  have E1 := Ah hc1
  have C2 := Ah hr2
  have E2 := Ah hc2
  have HB := Ah (Below.refl w.heap.size w)
  clear hr1 hc1 hr2 hc2
  have HG := Ah hG
  clear hG
  go_enter Tryd.func5, Tryd.ntmps5
  go_wp2_with (first | ((with_reducible refine gate_dst (N := 2) rfl ?_); refine boxL 2 29 #[.int .i64 a0, .slice A1 l1.length c1, .slice A2 l2.length c2] ?_; intro ga hg w1 BA hb; have GA := gw hg (bs HB); replace HB := Ah (below_step (bs HB) hb); clear hb hg) | ((with_reducible refine gate_dst (N := 4) rfl ?_); refine boxL 4 29 #[.int .i64 0, .slice none 0 0, .slice none 0 0] ?_; intro gr hg w2 BR hb; have GR := gw hg (bs HB); have NAR := nm BA hg; replace BA := nb BA hb; replace HB := Ah (below_step (bs HB) hb); clear hb hg; obtain ⟨zc0, zc1, zc2, zf0, zf1, zf2⟩ := czD BA; obtain ⟨yc0, yc1, yc2, yf0, yf1, yf2⟩ := czD BR) | (go_at_call 13; (with_reducible refine (spec_GoodDir.calls k a0 _ _ l1 _ _ l2 false _ ?s1 E1.out ?s2 E2.out HG.out).mono ?_); (case s1 => exact cb C1 HB); (case s2 => exact cb C2 HB); rintro e w3 ⟨rfl, hb⟩; clear zc0 zc1 zc2 zf0 zf1 zf2 yc0 yc1 yc2 yf0 yf1 yf2; replace BA := nb BA hb; replace BR := nb BR hb; replace HB := Ah (below_step (bs HB) hb); clear hb; obtain ⟨zc0, zc1, zc2, zf0, zf1, zf2⟩ := czD BA; obtain ⟨yc0, yc1, yc2, yf0, yf1, yf2⟩ := czD BR))
  refine bodyPost_ret (results_ct rfl _ _ gr 29 #[.int .i64 0, .slice none 0 0, .slice none 0 0] (0, 0) _ rfl (by (with_reducible repeat (first | refine blk_drewN ?_ _ | refine blk_drew ?_ | refine blk_alloc ?_ _)); refine blk_put (cs := #[.int .i64 0, .slice none 0 0, .slice none 0 0]) ?_ 2 _ rfl; (with_reducible repeat (first | refine blk_drewN ?_ _ | refine blk_drew ?_ | refine blk_alloc ?_ _)); refine blk_put (cs := #[.int .i64 0, .slice none 0 0, .slice none 0 0]) ?_ 1 _ rfl; (with_reducible repeat (first | refine blk_drewN ?_ _ | refine blk_drew ?_ | refine blk_alloc ?_ _)); refine blk_put (cs := #[.int .i64 0, .slice none 0 0, .slice none 0 0]) ?_ 0 _ rfl; (with_reducible repeat (first | refine blk_drewN ?_ _ | refine blk_drew ?_ | refine blk_alloc ?_ _)); exact BR.out) hu rfl (by kernel_rfl)) rfl ?_
  exact ⟨er, bs1 HB GR⟩
set_option maxHeartbeats 8000000 in
set_option maxRecDepth 100000 in
theorem spec_DropName.noname (kn : Nat) (k : Nat) (a0 : Int) (A1 : Option Addr) (c1 : Nat) (l1 : List Int) (A2 : Option Addr) (c2 : Nat) (l2 : List S46) (sm : ByteArray) (w : World) (hr1 : Kd.C (Kd.int .i64) w A1 l1.length l1) (hc1 : l1.length ≤ c1) (hr2 : Kd.C k46 w A2 l2.length l2) (hc2 : l2.length ≤ c2)
    (hG : spec_GoodDir.f k a0 l1 l2 = some true) (hN : spec_l8Name.f kn sm = some false) :
    Calls Tryd.prog 5 #[.agg #[.int .i64 a0, .slice A1 l1.length c1, .slice A2 l2.length c2], .string sm] w fun e w' => e = .returned (.tuple #[.agg #[.int .i64 0, .slice none 0 0, .slice none 0 0], .bool false]) ∧ Below w.heap.size w w' := by
  have hu := Tryd.underlying29
  have huB := Tryd.underlying46
  have C1 := Ah hr1
  have E1 := Ah hc1
  have C2 := Ah hr2
  have E2 := Ah hc2
  have HB := Ah (Below.refl w.heap.size w)
  clear hr1 hc1 hr2 hc2
  have HG := Ah hG
  clear hG
  have HN := Ah hN
  clear hN
  go_enter Tryd.func5, Tryd.ntmps5
  go_wp2_with (first | ((with_reducible refine gate_dst (N := 2) rfl ?_); refine boxL 2 29 #[.int .i64 a0, .slice A1 l1.length c1, .slice A2 l2.length c2] ?_; intro ga hg w1 BA hb; have GA := gw hg (bs HB); replace HB := Ah (below_step (bs HB) hb); clear hb hg) | ((with_reducible refine gate_dst (N := 4) rfl ?_); refine boxL 4 29 #[.int .i64 0, .slice none 0 0, .slice none 0 0] ?_; intro gr hg w2 BR hb; have GR := gw hg (bs HB); have NAR := nm BA hg; replace BA := nb BA hb; replace HB := Ah (below_step (bs HB) hb); clear hb hg; obtain ⟨zc0, zc1, zc2, zf0, zf1, zf2⟩ := czD BA; obtain ⟨yc0, yc1, yc2, yf0, yf1, yf2⟩ := czD BR) | (go_at_call 13; (with_reducible refine (spec_GoodDir.calls k a0 _ _ l1 _ _ l2 true _ ?s1 E1.out ?s2 E2.out HG.out).mono ?_); (case s1 => exact cb C1 HB); (case s2 => exact cb C2 HB); rintro e w3 ⟨rfl, hb⟩; clear zc0 zc1 zc2 zf0 zf1 zf2 yc0 yc1 yc2 yf0 yf1 yf2; replace BA := nb BA hb; replace BR := nb BR hb; replace HB := Ah (below_step (bs HB) hb); clear hb; obtain ⟨zc0, zc1, zc2, zf0, zf1, zf2⟩ := czD BA; obtain ⟨yc0, yc1, yc2, yf0, yf1, yf2⟩ := czD BR) | (go_at_call 14; (with_reducible refine (spec_l8Name.calls kn sm false _ HN.out).mono ?_); rintro e w4 ⟨rfl, hd⟩; have hb := hd.below; clear hd; clear zc0 zc1 zc2 zf0 zf1 zf2 yc0 yc1 yc2 yf0 yf1 yf2; replace BA := nb BA hb; replace BR := nb BR hb; replace HB := Ah (below_step (bs HB) hb); clear hb; obtain ⟨zc0, zc1, zc2, zf0, zf1, zf2⟩ := czD BA; obtain ⟨yc0, yc1, yc2, yf0, yf1, yf2⟩ := czD BR))
  refine bodyPost_ret (results_ct rfl _ _ gr 29 #[.int .i64 0, .slice none 0 0, .slice none 0 0] (0, 0) _ rfl (by (with_reducible repeat (first | refine blk_drewN ?_ _ | refine blk_drew ?_ | refine blk_alloc ?_ _)); refine blk_put (cs := #[.int .i64 0, .slice none 0 0, .slice none 0 0]) ?_ 2 _ rfl; (with_reducible repeat (first | refine blk_drewN ?_ _ | refine blk_drew ?_ | refine blk_alloc ?_ _)); refine blk_put (cs := #[.int .i64 0, .slice none 0 0, .slice none 0 0]) ?_ 1 _ rfl; (with_reducible repeat (first | refine blk_drewN ?_ _ | refine blk_drew ?_ | refine blk_alloc ?_ _)); refine blk_put (cs := #[.int .i64 0, .slice none 0 0, .slice none 0 0]) ?_ 0 _ rfl; (with_reducible repeat (first | refine blk_drewN ?_ _ | refine blk_drew ?_ | refine blk_alloc ?_ _)); exact BR.out) hu rfl (by kernel_rfl)) rfl ?_
  exact ⟨er, bs1 HB GR⟩
set_option maxHeartbeats 8000000 in
set_option maxRecDepth 100000 in
theorem spec_DropName.nothas (kn : Nat) (ko : Nat) (o0 : Int) (o1 : List Int) (o2 : List S46) (kb ka : Nat) (n q : Int) (k : Nat) (a0 : Int) (A1 : Option Addr) (c1 : Nat) (l1 : List Int) (A2 : Option Addr) (c2 : Nat) (l2 : List S46) (sm : ByteArray) (w : World) (hr1 : Kd.C (Kd.int .i64) w A1 l1.length l1) (hc1 : l1.length ≤ c1) (hr2 : Kd.C k46 w A2 l2.length l2) (hc2 : l2.length ≤ c2)
    (hG : spec_GoodDir.f k a0 l1 l2 = some true) (hN : spec_l8Name.f kn sm = some true) (hO : spec_l8Own.f ko a0 l1 l2 = some (o0, o1, o2)) (hK : spec_l8Bucket.f kb o0 o1 o2 sm = some n) (h0 : 0 ≤ n) (h1 : n < (o2.length : Int)) (hA : spec_l8At.f ka (rd_T46 o2 n).f1 sm = some (q, false)) :
    Calls Tryd.prog 5 #[.agg #[.int .i64 a0, .slice A1 l1.length c1, .slice A2 l2.length c2], .string sm] w fun e w' => e = .returned (.tuple #[.agg #[.int .i64 0, .slice none 0 0, .slice none 0 0], .bool false]) ∧ Below w.heap.size w w' := by
  have hu := Tryd.underlying29
  have huB := Tryd.underlying46
  have C1 := Ah hr1
  have E1 := Ah hc1
  have C2 := Ah hr2
  have E2 := Ah hc2
  have HB := Ah (Below.refl w.heap.size w)
  clear hr1 hc1 hr2 hc2
  have HG := Ah hG
  clear hG
  have HN := Ah hN
  clear hN
  have HO := Ah hO
  clear hO
  have HK := Ah hK
  clear hK
  have HA := Ah hA
  clear hA
  go_enter Tryd.func5, Tryd.ntmps5
  go_upto_region 4 with (first | ((with_reducible refine gate_dst (N := 2) rfl ?_); refine boxL 2 29 #[.int .i64 a0, .slice A1 l1.length c1, .slice A2 l2.length c2] ?_; intro ga hg w1 BA hb; have GA := gw hg (bs HB); replace HB := Ah (below_step (bs HB) hb); clear hb hg) | ((with_reducible refine gate_dst (N := 4) rfl ?_); refine boxL 4 29 #[.int .i64 0, .slice none 0 0, .slice none 0 0] ?_; intro gr hg w2 BR hb; have GR := gw hg (bs HB); have NAR := nm BA hg; replace BA := nb BA hb; replace HB := Ah (below_step (bs HB) hb); clear hb hg; obtain ⟨zc0, zc1, zc2, zf0, zf1, zf2⟩ := czD BA; obtain ⟨yc0, yc1, yc2, yf0, yf1, yf2⟩ := czD BR) | (go_at_call 13; (with_reducible refine (spec_GoodDir.calls k a0 _ _ l1 _ _ l2 true _ ?s1 E1.out ?s2 E2.out HG.out).mono ?_); (case s1 => exact cb C1 HB); (case s2 => exact cb C2 HB); rintro e w3 ⟨rfl, hb⟩; clear zc0 zc1 zc2 zf0 zf1 zf2 yc0 yc1 yc2 yf0 yf1 yf2; replace BA := nb BA hb; replace BR := nb BR hb; replace HB := Ah (below_step (bs HB) hb); clear hb; obtain ⟨zc0, zc1, zc2, zf0, zf1, zf2⟩ := czD BA; obtain ⟨yc0, yc1, yc2, yf0, yf1, yf2⟩ := czD BR) | (go_at_call 14; (with_reducible refine (spec_l8Name.calls kn sm true _ HN.out).mono ?_); rintro e w4 ⟨rfl, hd⟩; have hb := hd.below; clear hd; clear zc0 zc1 zc2 zf0 zf1 zf2 yc0 yc1 yc2 yf0 yf1 yf2; replace BA := nb BA hb; replace BR := nb BR hb; replace HB := Ah (below_step (bs HB) hb); clear hb; obtain ⟨zc0, zc1, zc2, zf0, zf1, zf2⟩ := czD BA; obtain ⟨yc0, yc1, yc2, yf0, yf1, yf2⟩ := czD BR) | (go_at_call 15; (with_reducible refine (spec_l8Own.calls ko a0 _ _ l1 _ _ l2 o0 o1 o2 _ ?s1 E1.out ?s2 E2.out HO.out).mono ?_); (case s1 => exact cb C1 HB); (case s2 => exact cb C2 HB); rintro e w5 ⟨v1, v2, rfl, h1, h2, hb⟩; obtain ⟨B1, d1, q1⟩ := Kd.R_slice h1; subst q1; obtain ⟨B2, d2, q2⟩ := Kd.S_slice h2; subst q2; have O1 := Ah h1; have O2 := Ah h2; clear h1 h2; have HB5 := Ah hb; clear zc0 zc1 zc2 zf0 zf1 zf2 yc0 yc1 yc2 yf0 yf1 yf2; replace BA := nb BA hb; replace BR := nb BR hb; have G5 := Ah (blk_lt BA.out); have K5 := HB; replace HB := Ah (below_step (bs HB) hb); clear hb; obtain ⟨zc0, zc1, zc2, zf0, zf1, zf2⟩ := czD BA; obtain ⟨yc0, yc1, yc2, yf0, yf1, yf2⟩ := czD BR))
  have n0 : Aside0 ((((w5.setCell ⟨ga, 0, none⟩ (.int .i64 o0)).setCell ⟨ga, 1, none⟩ (.slice B1 o1.length d1)).setCell ⟨ga, 2, none⟩ (.slice B2 o2.length d2)).heap[ga]? = some (.cells #[.int .i64 o0, .slice B1 o1.length d1, .slice B2 o2.length d2] 29 (0, 0))) := ⟨(blk_put (cs := #[.int .i64 o0, .slice B1 o1.length d1, .slice A2 l2.length c2]) (blk_put (cs := #[.int .i64 o0, .slice A1 l1.length c1, .slice A2 l2.length c2]) (blk_put (cs := #[.int .i64 a0, .slice A1 l1.length c1, .slice A2 l2.length c2]) BA.out 0 (.int .i64 o0) rfl) 1 (.slice B1 o1.length d1) rfl) 2 (.slice B2 o2.length d2) rfl)⟩
  have n1 : Aside0 ((((w5.setCell ⟨ga, 0, none⟩ (.int .i64 o0)).setCell ⟨ga, 1, none⟩ (.slice B1 o1.length d1)).setCell ⟨ga, 2, none⟩ (.slice B2 o2.length d2)).heap[gr]? = some (.cells #[.int .i64 0, .slice none 0 0, .slice none 0 0] 29 (0, 0))) := ⟨bf BR NAR⟩
  have m1 : Aside0 (Kd.R (Kd.int .i64) 3 (((w5.setCell ⟨ga, 0, none⟩ (.int .i64 o0)).setCell ⟨ga, 1, none⟩ (.slice B1 o1.length d1)).setCell ⟨ga, 2, none⟩ (.slice B2 o2.length d2)) _ (fun _ => True) (.slice B1 o1.length d1) o1) := ⟨rfU O1 BA⟩
  have m2 : Aside0 (Kd.S k46 46 (((w5.setCell ⟨ga, 0, none⟩ (.int .i64 o0)).setCell ⟨ga, 1, none⟩ (.slice B1 o1.length d1)).setCell ⟨ga, 2, none⟩ (.slice B2 o2.length d2)) _ (fun _ => True) (.slice B2 o2.length d2) o2) := ⟨sfU O2 BA⟩
  have n9 : Aside0 (Below w.heap.size w (((w5.setCell ⟨ga, 0, none⟩ (.int .i64 o0)).setCell ⟨ga, 1, none⟩ (.slice B1 o1.length d1)).setCell ⟨ga, 2, none⟩ (.slice B2 o2.length d2))) := ⟨bs1 HB GA⟩
  clear O1 O2 HB BA BR zc0 zc1 zc2 zf0 zf1 zf2 yc0 yc1 yc2 yf0 yf1 yf2 NAR GA G5 HB5
  generalize (((w5.setCell ⟨ga, 0, none⟩ (.int .i64 o0)).setCell ⟨ga, 1, none⟩ (.slice B1 o1.length d1)).setCell ⟨ga, 2, none⟩ (.slice B2 o2.length d2)) = W4 at n0 n1 m1 m2 n9 ⊢
  have BX := n0
  have BR := n1
  have O1 := m1
  have O2 := m2
  have HB := n9
  clear n0 n1 m1 m2 n9
  obtain ⟨zc0, zc1, zc2, zf0, zf1, zf2⟩ := czD BX
  go_upto_region 5 with (first | (go_at_call 16; (with_reducible refine (spec_l8Bucket.calls kb o0 _ _ o1 _ _ o2 sm n _ ?s1 ?s2 ?s3 ?s4 HK.out).mono ?_); (case s1 => exact (Kd.R_reads' (rr O1.out)).2.2); (case s2 => exact (Kd.R_reads' O1.out).2.1); (case s3 => exact (Kd.S_reads' (ssD O2)).2.2); (case s4 => exact (Kd.S_reads' O2.out).2.1); rintro e w6 ⟨rfl, hb⟩; replace O1 := nr O1 hb; replace O2 := sbD O2 hb; replace BX := nb BX hb; replace BR := nb BR hb; replace HB := Ah (below_step (bs HB) hb); clear hb; clear zc0 zc1 zc2 zf0 zf1 zf2))
  obtain ⟨gq, cq, eq_, _, _, cellsQ, hQ_⟩ := Kd.S_form O2.out (by omega)
  have GQ := Ah hQ_
  clear hQ_
  injection eq_ with ea_ _ ec_
  subst ea_
  subst ec_
  obtain ⟨oki, ce, hcl, hM, hcc, hfr, hoki, hH⟩ := Kd.S_elem (Kd.S_mono (ok' := fun k => k < w6.heap.size) (Kd.S_bound O2.out) (fun k hk => hk.2.2.1)) z46 n h0 h1
  obtain ⟨vn, rfl, hN_⟩ := k46_openM (x := rd_T46 o2 n) hM
  obtain ⟨An, cn, rfl⟩ := Kd.R_slice hN_
  have ON := Ah hN_
  have HH := Ah hH
  have HI := Ah hoki
  have hx1 := hcc 1 _ rfl
  have hx0 := hx1
  have hf1 := hfr 1
  simp only [show (k46).sz = 2 from rfl] at hx1 hf1 hx0
  clear hcl hM hcc hfr hoki hH hN_
  have p0 := eq_true h0
  have p1 := eq_true h1
  have H0 := Ah h0
  have H1 := Ah h1
  clear h0 h1
  obtain ⟨zc0, zc1, zc2, zf0, zf1, zf2⟩ := czD BX
  go_wp2_with (first | (go_at_call 17; (with_reducible refine (spec_l8At.calls ka An cn _ sm q false _ ?s1 ?s2 HA.out).mono ?_); (case s1 => exact (Kd.R_reads' (rr ON.out)).2.2); (case s2 => exact (Kd.R_reads' ON.out).2.1); rintro e w7 ⟨rfl, hd⟩; have hb := hd.below; clear hd; replace ON := nr ON hb; have HB7 := Ah hb; replace O1 := nr O1 hb; replace O2 := sbD O2 hb; replace BX := nb BX hb; replace BR := nb BR hb; replace HB := Ah (below_step (bs HB) hb); clear hb; clear zc0 zc1 zc2 zf0 zf1 zf2; obtain ⟨yc0, yc1, yc2, yf0, yf1, yf2⟩ := czD BR))
  refine bodyPost_ret (results_ct rfl _ _ gr 29 #[.int .i64 0, .slice none 0 0, .slice none 0 0] (0, 0) _ rfl (by (with_reducible repeat (first | refine blk_drewN ?_ _ | refine blk_drew ?_ | refine blk_alloc ?_ _)); refine blk_put (cs := #[.int .i64 0, .slice none 0 0, .slice none 0 0]) ?_ 2 _ rfl; (with_reducible repeat (first | refine blk_drewN ?_ _ | refine blk_drew ?_ | refine blk_alloc ?_ _)); refine blk_put (cs := #[.int .i64 0, .slice none 0 0, .slice none 0 0]) ?_ 1 _ rfl; (with_reducible repeat (first | refine blk_drewN ?_ _ | refine blk_drew ?_ | refine blk_alloc ?_ _)); refine blk_put (cs := #[.int .i64 0, .slice none 0 0, .slice none 0 0]) ?_ 0 _ rfl; (with_reducible repeat (first | refine blk_drewN ?_ _ | refine blk_drew ?_ | refine blk_alloc ?_ _)); exact BR.out) hu rfl (by kernel_rfl)) rfl ?_
  exact ⟨er, bs1 HB GR⟩
set_option maxHeartbeats 8000000 in
set_option maxRecDepth 100000 in
theorem spec_DropName.yes (kn : Nat) (ko : Nat) (o0 : Int) (o1 : List Int) (o2 : List S46) (kb ka : Nat) (n q : Int) (k : Nat) (a0 : Int) (A1 : Option Addr) (c1 : Nat) (l1 : List Int) (A2 : Option Addr) (c2 : Nat) (l2 : List S46) (sm : ByteArray) (w : World) (hr1 : Kd.C (Kd.int .i64) w A1 l1.length l1) (hc1 : l1.length ≤ c1) (hr2 : Kd.C k46 w A2 l2.length l2) (hc2 : l2.length ≤ c2)
    (hG : spec_GoodDir.f k a0 l1 l2 = some true) (hN : spec_l8Name.f kn sm = some true) (hO : spec_l8Own.f ko a0 l1 l2 = some (o0, o1, o2)) (hK : spec_l8Bucket.f kb o0 o1 o2 sm = some n) (h0 : 0 ≤ n) (h1 : n < (o2.length : Int)) (hA : spec_l8At.f ka (rd_T46 o2 n).f1 sm = some (q, true)) (q0 : 0 ≤ q) (q1 : q < ((rd_T46 o2 n).f1.length : Int)) (ql : (rd_T46 o2 n).f1.length ≤ 1048576) :
    Calls Tryd.prog 5 #[.agg #[.int .i64 a0, .slice A1 l1.length c1, .slice A2 l2.length c2], .string sm] w fun e w' => ∃ v1 v2 : Value, e = .returned (.tuple #[.agg #[.int .i64 o0, v1, v2], .bool true]) ∧ Kd.R (Kd.int .i64) 3 w' w.heap.size (fun _ => True) v1 o1 ∧ Kd.S k46 46 w' w.heap.size (fun _ => True) v2 (dropE o2 n q) ∧ Below w.heap.size w w' := by
  have hu := Tryd.underlying29
  have huB := Tryd.underlying46
  have C1 := Ah hr1
  have E1 := Ah hc1
  have C2 := Ah hr2
  have E2 := Ah hc2
  have HB := Ah (Below.refl w.heap.size w)
  clear hr1 hc1 hr2 hc2
  have HG := Ah hG
  clear hG
  have HN := Ah hN
  clear hN
  have HO := Ah hO
  clear hO
  have HK := Ah hK
  clear hK
  have HA := Ah hA
  clear hA
  go_enter Tryd.func5, Tryd.ntmps5
  go_upto_region 4 with (first | ((with_reducible refine gate_dst (N := 2) rfl ?_); refine boxL 2 29 #[.int .i64 a0, .slice A1 l1.length c1, .slice A2 l2.length c2] ?_; intro ga hg w1 BA hb; have GA := gw hg (bs HB); replace HB := Ah (below_step (bs HB) hb); clear hb hg) | ((with_reducible refine gate_dst (N := 4) rfl ?_); refine boxL 4 29 #[.int .i64 0, .slice none 0 0, .slice none 0 0] ?_; intro gr hg w2 BR hb; have GR := gw hg (bs HB); have NAR := nm BA hg; replace BA := nb BA hb; replace HB := Ah (below_step (bs HB) hb); clear hb hg; obtain ⟨zc0, zc1, zc2, zf0, zf1, zf2⟩ := czD BA; obtain ⟨yc0, yc1, yc2, yf0, yf1, yf2⟩ := czD BR) | (go_at_call 13; (with_reducible refine (spec_GoodDir.calls k a0 _ _ l1 _ _ l2 true _ ?s1 E1.out ?s2 E2.out HG.out).mono ?_); (case s1 => exact cb C1 HB); (case s2 => exact cb C2 HB); rintro e w3 ⟨rfl, hb⟩; clear zc0 zc1 zc2 zf0 zf1 zf2 yc0 yc1 yc2 yf0 yf1 yf2; replace BA := nb BA hb; replace BR := nb BR hb; replace HB := Ah (below_step (bs HB) hb); clear hb; obtain ⟨zc0, zc1, zc2, zf0, zf1, zf2⟩ := czD BA; obtain ⟨yc0, yc1, yc2, yf0, yf1, yf2⟩ := czD BR) | (go_at_call 14; (with_reducible refine (spec_l8Name.calls kn sm true _ HN.out).mono ?_); rintro e w4 ⟨rfl, hd⟩; have hb := hd.below; clear hd; clear zc0 zc1 zc2 zf0 zf1 zf2 yc0 yc1 yc2 yf0 yf1 yf2; replace BA := nb BA hb; replace BR := nb BR hb; replace HB := Ah (below_step (bs HB) hb); clear hb; obtain ⟨zc0, zc1, zc2, zf0, zf1, zf2⟩ := czD BA; obtain ⟨yc0, yc1, yc2, yf0, yf1, yf2⟩ := czD BR) | (go_at_call 15; (with_reducible refine (spec_l8Own.calls ko a0 _ _ l1 _ _ l2 o0 o1 o2 _ ?s1 E1.out ?s2 E2.out HO.out).mono ?_); (case s1 => exact cb C1 HB); (case s2 => exact cb C2 HB); rintro e w5 ⟨v1, v2, rfl, h1, h2, hb⟩; obtain ⟨B1, d1, q1⟩ := Kd.R_slice h1; subst q1; obtain ⟨B2, d2, q2⟩ := Kd.S_slice h2; subst q2; have O1 := Ah h1; have O2 := Ah h2; clear h1 h2; have HB5 := Ah hb; clear zc0 zc1 zc2 zf0 zf1 zf2 yc0 yc1 yc2 yf0 yf1 yf2; replace BA := nb BA hb; replace BR := nb BR hb; have G5 := Ah (blk_lt BA.out); have K5 := HB; replace HB := Ah (below_step (bs HB) hb); clear hb; obtain ⟨zc0, zc1, zc2, zf0, zf1, zf2⟩ := czD BA; obtain ⟨yc0, yc1, yc2, yf0, yf1, yf2⟩ := czD BR))
  have n0 : Aside0 ((((w5.setCell ⟨ga, 0, none⟩ (.int .i64 o0)).setCell ⟨ga, 1, none⟩ (.slice B1 o1.length d1)).setCell ⟨ga, 2, none⟩ (.slice B2 o2.length d2)).heap[ga]? = some (.cells #[.int .i64 o0, .slice B1 o1.length d1, .slice B2 o2.length d2] 29 (0, 0))) := ⟨(blk_put (cs := #[.int .i64 o0, .slice B1 o1.length d1, .slice A2 l2.length c2]) (blk_put (cs := #[.int .i64 o0, .slice A1 l1.length c1, .slice A2 l2.length c2]) (blk_put (cs := #[.int .i64 a0, .slice A1 l1.length c1, .slice A2 l2.length c2]) BA.out 0 (.int .i64 o0) rfl) 1 (.slice B1 o1.length d1) rfl) 2 (.slice B2 o2.length d2) rfl)⟩
  have n1 : Aside0 ((((w5.setCell ⟨ga, 0, none⟩ (.int .i64 o0)).setCell ⟨ga, 1, none⟩ (.slice B1 o1.length d1)).setCell ⟨ga, 2, none⟩ (.slice B2 o2.length d2)).heap[gr]? = some (.cells #[.int .i64 0, .slice none 0 0, .slice none 0 0] 29 (0, 0))) := ⟨bf BR NAR⟩
  have m1 : Aside0 (Kd.R (Kd.int .i64) 3 (((w5.setCell ⟨ga, 0, none⟩ (.int .i64 o0)).setCell ⟨ga, 1, none⟩ (.slice B1 o1.length d1)).setCell ⟨ga, 2, none⟩ (.slice B2 o2.length d2)) _ (fun _ => True) (.slice B1 o1.length d1) o1) := ⟨rfU O1 BA⟩
  have m2 : Aside0 (Kd.S k46 46 (((w5.setCell ⟨ga, 0, none⟩ (.int .i64 o0)).setCell ⟨ga, 1, none⟩ (.slice B1 o1.length d1)).setCell ⟨ga, 2, none⟩ (.slice B2 o2.length d2)) _ (fun _ => True) (.slice B2 o2.length d2) o2) := ⟨sfU O2 BA⟩
  have n9 : Aside0 (Below w.heap.size w (((w5.setCell ⟨ga, 0, none⟩ (.int .i64 o0)).setCell ⟨ga, 1, none⟩ (.slice B1 o1.length d1)).setCell ⟨ga, 2, none⟩ (.slice B2 o2.length d2))) := ⟨bs1 HB GA⟩
  clear O1 O2 HB BA BR zc0 zc1 zc2 zf0 zf1 zf2 yc0 yc1 yc2 yf0 yf1 yf2 NAR GA G5 HB5
  generalize (((w5.setCell ⟨ga, 0, none⟩ (.int .i64 o0)).setCell ⟨ga, 1, none⟩ (.slice B1 o1.length d1)).setCell ⟨ga, 2, none⟩ (.slice B2 o2.length d2)) = W4 at n0 n1 m1 m2 n9 ⊢
  have BX := n0
  have BR := n1
  have O1 := m1
  have O2 := m2
  have HB := n9
  clear n0 n1 m1 m2 n9
  obtain ⟨zc0, zc1, zc2, zf0, zf1, zf2⟩ := czD BX
  go_upto_region 5 with (first | (go_at_call 16; (with_reducible refine (spec_l8Bucket.calls kb o0 _ _ o1 _ _ o2 sm n _ ?s1 ?s2 ?s3 ?s4 HK.out).mono ?_); (case s1 => exact (Kd.R_reads' (rr O1.out)).2.2); (case s2 => exact (Kd.R_reads' O1.out).2.1); (case s3 => exact (Kd.S_reads' (ssD O2)).2.2); (case s4 => exact (Kd.S_reads' O2.out).2.1); rintro e w6 ⟨rfl, hb⟩; replace O1 := nr O1 hb; replace O2 := sbD O2 hb; replace BX := nb BX hb; replace BR := nb BR hb; replace HB := Ah (below_step (bs HB) hb); clear hb; clear zc0 zc1 zc2 zf0 zf1 zf2))
  obtain ⟨gq, cq, eq_, _, _, cellsQ, hQ_⟩ := Kd.S_form O2.out (by omega)
  have GQ := Ah hQ_
  clear hQ_
  injection eq_ with ea_ _ ec_
  subst ea_
  subst ec_
  obtain ⟨oki, ce, hcl, hM, hcc, hfr, hoki, hH⟩ := Kd.S_elem (Kd.S_mono (ok' := fun k => k < w6.heap.size) (Kd.S_bound O2.out) (fun k hk => hk.2.2.1)) z46 n h0 h1
  obtain ⟨vn, rfl, hN_⟩ := k46_openM (x := rd_T46 o2 n) hM
  obtain ⟨An, cn, rfl⟩ := Kd.R_slice hN_
  have ON := Ah hN_
  have HH := Ah hH
  have HI := Ah hoki
  have hx1 := hcc 1 _ rfl
  have hx0 := hx1
  have hf1 := hfr 1
  simp only [show (k46).sz = 2 from rfl] at hx1 hf1 hx0
  clear hcl hM hcc hfr hoki hH hN_
  have p0 := eq_true h0
  have p1 := eq_true h1
  have H0 := Ah h0
  have H1 := Ah h1
  clear h0 h1
  obtain ⟨zc0, zc1, zc2, zf0, zf1, zf2⟩ := czD BX
  go_upto_region 8 with (first | (go_at_call 17; (with_reducible refine (spec_l8At.calls ka An cn _ sm q true _ ?s1 ?s2 HA.out).mono ?_); (case s1 => exact (Kd.R_reads' (rr ON.out)).2.2); (case s2 => exact (Kd.R_reads' ON.out).2.1); rintro e w7 ⟨rfl, hd⟩; have hb := hd.below; clear hd; replace ON := nr ON hb; have HB7 := Ah hb; replace O1 := nr O1 hb; replace O2 := sbD O2 hb; replace BX := nb BX hb; replace BR := nb BR hb; replace HB := Ah (below_step (bs HB) hb); clear hb))
  replace hx1 := pw_cell_below HB7.out hx1
  have hf2 : w7.frozen? ⟨gq, n.toNat * 2 + 1, none⟩ = false := (HB7.out.frozen (p := ⟨gq, n.toNat * 2 + 1, none⟩) (World.block_lt_of_cell? w6 _ hx0)).trans hf1
  replace HH := Ah (Kd.H_below HH.out HB7.out)
  clear zc0 zc1 zc2 zf0 zf1 zf2 hx0 hf1
  obtain ⟨j, rfl⟩ : ∃ j : Nat, q = j := ⟨q.toNat, by omega⟩
  obtain ⟨N, hN_⟩ : ∃ N, N = (rd_T46 o2 n).f1 := ⟨_, rfl⟩
  have HNe := Ah hN_
  rw [← hN_] at ON hx1 HH HA q1 ql
  clear hN_
  have hNc := (Kd.R_reads' ON.out).2.1
  have CN := Ah (Kd.R_reads' ON.out).2.2
  have ej : (j : Int).toNat = j := Int.toNat_natCast j
  have hjl : j < N.length := by omega
  have hcm := Kd.R_capm ON.out (by omega)
  have p2 : (0 : Int) ≤ (j : Int) := by omega
  have p3 : (j : Int) ≤ (N.length : Int) := by omega
  have p4 : (N.length : Int) ≤ (cn : Int) := by omega
  have p5 : j ≤ cn := by omega
  have hwr : IntKind.i64.wrap ((j : Int) + 1) = (j : Int) + 1 := by rw [IntKind.wrap_i64]; omega
  have hp0 : (0 : Int) ≤ (j : Int) + 1 := by omega
  have hp1 : (j : Int) + 1 ≤ (N.length : Int) := by omega
  have hp2 : ((j : Int) + 1).toNat = j + 1 := by omega
  obtain ⟨gN, cN, eN_, _, _, _, _⟩ := Kd.R_form ON.out (by omega)
  injection eN_ with ea_ _ ec_
  subst ea_
  subst ec_
  obtain ⟨A', hA', hC'⟩ : ∃ A' : Option Addr, (if cn = j + 1 then some (⟨gN, 0, none⟩ : Addr) else some ⟨gN, (j + 1) * 2, none⟩) = A' ∧ Aside0 (Kd.C k53 w7 A' (N.length - (j + 1)) (N.drop (j + 1))) := ⟨_, rfl, ⟨by
    have h := Kd.C_drop (m := j + 1) (c := cn) CN.out hjl hNc
    rw [List.length_drop] at h
    by_cases hc : cn = j + 1
    · rw [if_pos hc] at h ⊢; exact h
    · rw [if_neg hc] at h ⊢; rw [Option.map_some, Addr.add_lit, Nat.zero_add] at h; exact h⟩⟩
  have CT : Aside0 (Kd.C k53 w7 (some ⟨gN, 0, none⟩) j (N.take j)) := ⟨by have h := Kd.C_take (m := j) CN.out (Nat.le_of_lt hjl); rw [List.length_take, Nat.min_eq_left (Nat.le_of_lt hjl)] at h; exact h⟩
  have Hx7 := Ah hx1
  have Hf7 := Ah hf2
  have lQ := Ah (World.block_lt_of_cell? w7 _ hx1)
  have huN := Tryd.underlying44
  have HL1 := Ah (show (0 + j) * 24 ≤ 140737488355328 by omega)
  have HL2 := Ah (show (j + (N.length - (j + 1))) * 24 ≤ 140737488355328 by omega)
  have BX7 := BX
  refine start_ (n := 26) (S := fun w' => w'.cell? ⟨ga, 2, none⟩ = some (.slice (some ⟨gq, 0, none⟩) o2.length d2) ∧ w'.cell? ⟨gq, n.toNat * 2 + 1, none⟩ = some (.slice (some ⟨gN, 0, none⟩) N.length cn)) (ds := [25]) #[false, false, false, false, false, false, false, false, false, false, false, false, false, false, false, false, false, false, false, false, false, false, false, false, false, false] (by kernel_rfl) rfl rfl ⟨(blk_cell (bk BX) 2).trans rfl, pw_cell_below st_below hx1⟩ (fun hHeld => ?_)
  refine pure_ (i := 0) (N := some 37) (v := ?_) (a' := ?_) #[true, false, false, false, false, false, false, false, false, false, false, false, false, false, false, false, false, false, false, false, false, false, false, false, false, false] rfl rfl (by kernel_rfl) (fun _ _ _ h => h) (Or.inl ⟨by rfl, ?_⟩) ?_ ?_
  rotate_left
  · intro w'
    go_simp
    with_reducible rfl
  rotate_left
  · simp only [Act.put, List.setIfInBounds_toArray, List.set_cons_zero, List.set_cons_succ, i64_w, i32_w]
    rfl
  refine pure_ (i := 2) (N := some 39) (v := ?_) (a' := ?_) #[true, false, true, false, false, false, false, false, false, false, false, false, false, false, false, false, false, false, false, false, false, false, false, false, false, false] rfl rfl (by kernel_rfl) (fun _ _ _ h => h) (Or.inl ⟨by rfl, ?_⟩) ?_ ?_
  rotate_left
  · intro w'
    go_simp
    with_reducible rfl
  rotate_left
  · simp only [Act.put, List.setIfInBounds_toArray, List.set_cons_zero, List.set_cons_succ, i64_w, i32_w]
    rfl
  refine pure_ (i := 4) (N := some 41) (v := ?_) (a' := ?_) #[true, false, true, false, true, false, false, false, false, false, false, false, false, false, false, false, false, false, false, false, false, false, false, false, false, false] rfl rfl (by kernel_rfl) (fun _ _ _ h => h) (Or.inl ⟨by rfl, ?_⟩) ?_ ?_
  rotate_left
  · intro w'
    go_simp
    with_reducible rfl
  rotate_left
  · simp only [Act.put, List.setIfInBounds_toArray, List.set_cons_zero, List.set_cons_succ, i64_w, i32_w]
    rfl
  refine pure_ (i := 6) (N := some 43) (v := ?_) (a' := ?_) #[true, false, true, false, true, false, true, false, false, false, false, false, false, false, false, false, false, false, false, false, false, false, false, false, false, false] rfl rfl (by kernel_rfl) (fun _ _ _ h => h) (Or.inl ⟨by rfl, ?_⟩) ?_ ?_
  rotate_left
  · intro w'
    go_simp
    with_reducible rfl
  rotate_left
  · simp only [Act.put, List.setIfInBounds_toArray, List.set_cons_zero, List.set_cons_succ, i64_w, i32_w]
    rfl
  refine pure_ (i := 10) (N := some 47) (v := ?_) (a' := ?_) #[true, false, true, false, true, false, true, false, false, false, true, false, false, false, false, false, false, false, false, false, false, false, false, false, false, false] rfl rfl (by kernel_rfl) (fun _ _ _ h => h) (Or.inl ⟨by rfl, ?_⟩) ?_ ?_
  rotate_left
  · intro w'
    go_simp
    with_reducible rfl
  rotate_left
  · simp only [Act.put, List.setIfInBounds_toArray, List.set_cons_zero, List.set_cons_succ, i64_w, i32_w]
    rfl
  refine pure_ (i := 13) (N := some 50) (v := ?_) (a' := ?_) #[true, false, true, false, true, false, true, false, false, false, true, false, false, true, false, false, false, false, false, false, false, false, false, false, false, false] rfl rfl (by kernel_rfl) (fun _ _ _ h => h) (Or.inl ⟨by rfl, ?_⟩) ?_ ?_
  rotate_left
  · intro w'
    go_simp
    with_reducible rfl
  rotate_left
  · simp only [Act.put, List.setIfInBounds_toArray, List.set_cons_zero, List.set_cons_succ, i64_w, i32_w]
    rfl
  refine pure_ (i := 15) (N := some 52) (v := ?_) (a' := ?_) #[true, false, true, false, true, false, true, false, false, false, true, false, false, true, false, true, false, false, false, false, false, false, false, false, false, false] rfl rfl (by kernel_rfl) (fun _ _ _ h => h) (Or.inl ⟨by rfl, ?_⟩) ?_ ?_
  rotate_left
  · intro w'
    go_simp
    with_reducible rfl
  rotate_left
  · simp only [Act.put, List.setIfInBounds_toArray, List.set_cons_zero, List.set_cons_succ, i64_w, i32_w]
    rfl
  refine pure_ (i := 19) (N := some 56) (v := ?_) (a' := ?_) #[true, false, true, false, true, false, true, false, false, false, true, false, false, true, false, true, false, false, false, true, false, false, false, false, false, false] rfl rfl (by kernel_rfl) (fun _ _ _ h => h) (Or.inl ⟨by rfl, ?_⟩) ?_ ?_
  rotate_left
  · intro w'
    go_simp
    with_reducible rfl
  rotate_left
  · simp only [Act.put, List.setIfInBounds_toArray, List.set_cons_zero, List.set_cons_succ, i64_w, i32_w]
    rfl
  refine pure_ (i := 20) (N := some 57) (v := ?_) (a' := ?_) #[true, false, true, false, true, false, true, false, false, false, true, false, false, true, false, true, false, false, false, true, true, false, false, false, false, false] rfl rfl (by kernel_rfl) (fun _ _ _ h => h) (Or.inl ⟨by rfl, ?_⟩) ?_ ?_
  rotate_left
  · intro w'
    go_simp
    with_reducible rfl
  rotate_left
  · simp only [Act.put, List.setIfInBounds_toArray, List.set_cons_zero, List.set_cons_succ, i64_w, i32_w]
    rfl
  refine take_ (i := 1) (N := some 38) (v := ?_) (a' := ?_) #[true, true, true, false, true, false, true, false, false, false, true, false, false, true, false, true, false, false, false, true, true, false, false, false, false, false] rfl rfl (by kernel_rfl) (fun _ _ _ h => h) (Or.inl ⟨by rfl, ?_⟩) hHeld ?_ ?_
  rotate_left
  · rintro w' ⟨s0, s1⟩
    go_simp
    with_reducible rfl
  rotate_left
  · simp only [Act.put, List.setIfInBounds_toArray, List.set_cons_zero, List.set_cons_succ, i64_w, i32_w]
    rfl
  refine take_ (i := 5) (N := some 42) (v := ?_) (a' := ?_) #[true, true, true, false, true, true, true, false, false, false, true, false, false, true, false, true, false, false, false, true, true, false, false, false, false, false] rfl rfl (by kernel_rfl) (fun _ _ _ h => h) (Or.inl ⟨by rfl, ?_⟩) hHeld ?_ ?_
  rotate_left
  · rintro w' ⟨s0, s1⟩
    go_simp
    with_reducible rfl
  rotate_left
  · simp only [Act.put, List.setIfInBounds_toArray, List.set_cons_zero, List.set_cons_succ, i64_w, i32_w]
    rfl
  refine pure_ (i := 7) (N := some 44) (v := ?_) (a' := ?_) #[true, true, true, false, true, true, true, true, false, false, true, false, false, true, false, true, false, false, false, true, true, false, false, false, false, false] rfl rfl (by kernel_rfl) (fun _ _ _ h => h) (Or.inl ⟨by rfl, ?_⟩) ?_ ?_
  rotate_left
  · intro w'
    go_simp
    with_reducible rfl
  rotate_left
  · simp only [Act.put, List.setIfInBounds_toArray, List.set_cons_zero, List.set_cons_succ, i64_w, i32_w]
    rfl
  refine pure_ (i := 8) (N := some 45) (v := ?_) (a' := ?_) #[true, true, true, false, true, true, true, true, true, false, true, false, false, true, false, true, false, false, false, true, true, false, false, false, false, false] rfl rfl (by kernel_rfl) (fun _ _ _ h => h) (Or.inl ⟨by rfl, ?_⟩) ?_ ?_
  rotate_left
  · intro w'
    go_simp
    with_reducible rfl
  rotate_left
  · simp only [Act.put, List.setIfInBounds_toArray, List.set_cons_zero, List.set_cons_succ, i64_w, i32_w]
    rfl
  refine take_ (i := 9) (N := some 46) (v := ?_) (a' := ?_) #[true, true, true, false, true, true, true, true, true, true, true, false, false, true, false, true, false, false, false, true, true, false, false, false, false, false] rfl rfl (by kernel_rfl) (fun _ _ _ h => h) (Or.inl ⟨by rfl, ?_⟩) hHeld ?_ ?_
  rotate_left
  · rintro w' ⟨s0, s1⟩
    go_simp
    with_reducible rfl
  rotate_left
  · simp only [Act.put, List.setIfInBounds_toArray, List.set_cons_zero, List.set_cons_succ, i64_w, i32_w]
    rfl
  refine pure_ (i := 11) (N := some 48) (v := ?_) (a' := ?_) #[true, true, true, false, true, true, true, true, true, true, true, true, false, true, false, true, false, false, false, true, true, false, false, false, false, false] rfl rfl (by kernel_rfl) (fun _ _ _ h => h) (Or.inl ⟨by rfl, ?_⟩) ?_ ?_
  rotate_left
  · intro w'
    go_simp
    with_reducible rfl
  rotate_left
  · simp only [Act.put, List.setIfInBounds_toArray, List.set_cons_zero, List.set_cons_succ, i64_w, i32_w]
    rfl
  refine take_ (i := 14) (N := some 51) (v := ?_) (a' := ?_) #[true, true, true, false, true, true, true, true, true, true, true, true, false, true, true, true, false, false, false, true, true, false, false, false, false, false] rfl rfl (by kernel_rfl) (fun _ _ _ h => h) (Or.inl ⟨by rfl, ?_⟩) hHeld ?_ ?_
  rotate_left
  · rintro w' ⟨s0, s1⟩
    go_simp
    with_reducible rfl
  rotate_left
  · simp only [Act.put, List.setIfInBounds_toArray, List.set_cons_zero, List.set_cons_succ, i64_w, i32_w]
    rfl
  refine pure_ (i := 16) (N := some 53) (v := ?_) (a' := ?_) #[true, true, true, false, true, true, true, true, true, true, true, true, false, true, true, true, true, false, false, true, true, false, false, false, false, false] rfl rfl (by kernel_rfl) (fun _ _ _ h => h) (Or.inl ⟨by rfl, ?_⟩) ?_ ?_
  rotate_left
  · intro w'
    go_simp
    with_reducible rfl
  rotate_left
  · simp only [Act.put, List.setIfInBounds_toArray, List.set_cons_zero, List.set_cons_succ, i64_w, i32_w]
    rfl
  refine pure_ (i := 17) (N := some 54) (v := ?_) (a' := ?_) #[true, true, true, false, true, true, true, true, true, true, true, true, false, true, true, true, true, true, false, true, true, false, false, false, false, false] rfl rfl (by kernel_rfl) (fun _ _ _ h => h) (Or.inl ⟨by rfl, ?_⟩) ?_ ?_
  rotate_left
  · intro w'
    go_simp
    with_reducible rfl
  rotate_left
  · simp only [Act.put, List.setIfInBounds_toArray, List.set_cons_zero, List.set_cons_succ, i64_w, i32_w]
    rfl
  refine take_ (i := 18) (N := some 55) (v := ?_) (a' := ?_) #[true, true, true, false, true, true, true, true, true, true, true, true, false, true, true, true, true, true, true, true, true, false, false, false, false, false] rfl rfl (by kernel_rfl) (fun _ _ _ h => h) (Or.inl ⟨by rfl, ?_⟩) hHeld ?_ ?_
  rotate_left
  · rintro w' ⟨s0, s1⟩
    go_simp
    with_reducible rfl
  rotate_left
  · simp only [Act.put, List.setIfInBounds_toArray, List.set_cons_zero, List.set_cons_succ, i64_w, i32_w]
    rfl
  refine pure_ (i := 21) (N := some 58) (v := ?_) (a' := ?_) #[true, true, true, false, true, true, true, true, true, true, true, true, false, true, true, true, true, true, true, true, true, true, false, false, false, false] rfl rfl (by kernel_rfl) (fun _ _ _ h => h) (Or.inl ⟨by rfl, ?_⟩) ?_ ?_
  rotate_left
  · intro w'
    go_simp
    with_reducible rfl
  rotate_left
  · simp only [Act.put, List.setIfInBounds_toArray, List.set_cons_zero, List.set_cons_succ, i64_w, i32_w]
    rfl
  refine one_ (i := 3) (N := some 40) #[true, true, true, true, true, true, true, true, true, true, true, true, false, true, true, true, true, true, true, true, true, true, false, false, false, false] rfl rfl (by kernel_rfl) (by decide) (fun K hK => ?_)
  refine value_ (w1 := ?_) (v := ?_) (by rfl) rfl ?_ ?_
  rotate_left 2
  · go_simp
    constructor
    · rfl
    · rfl
  refine hK.out _ _ ⟨(blk_cell (bk BX) 2).trans rfl, pw_cell_below st_below hx1⟩ (fun hHeld => ?_)
  clear hK K
  refine norm_ (a' := ?_) ?_ ?_
  rotate_left
  · show Act.put _ (some 40) _ = _
    simp only [Act.put, List.setIfInBounds_toArray, List.set_cons_zero, List.set_cons_succ, i64_w, i32_w]
    rfl
  refine one_ (i := 12) (N := some 49) #[true, true, true, true, true, true, true, true, true, true, true, true, true, true, true, true, true, true, true, true, true, true, false, false, false, false] rfl rfl (by kernel_rfl) (by decide) (fun K hK => ?_)
  refine Kd.R_append_rows_step k53 (w0 := w7) w7.heap.size (by rfl) (.tmp 40) (.tmp 48) 44 53 (.agg #[.string ⟨#[]⟩, .int .i64 0]) 24 rfl huN info53 rfl (by decide) (by omega) (.slice (some ⟨w7.heap.size, 0, none⟩) 0 0) ([] : List S53) (N.take j) (some ⟨gN, 0, none⟩) (j) (cn) (fun _ => True) (fun _ => False) (by simp [Act.eval, Act.put]) (by simp [Act.eval, Act.put]) ?aO ?aR (fun _ _ h => h) (fun _ h => h.elim) (fun _ _ => trivial) ?aB ?aS ?aL ?_; (case aO => exact made0 k53 53 w7); (case aR => exact Kd.C_below CT.out st_below); (case aB => exact st_below); (case aS => exact below_size st_below); (case aL => exact HL1.out); intro v8 w8 ho hb hg hat; rw [List.nil_append] at ho; obtain ⟨Ae, ce8, e8⟩ := Kd.R_slice ho; subst e8; have R8 := Ah ho; have HB8 := Ah hb; have hx8 := pw_cell_below hb hx1; replace BX := Ah (blk_below BX.out hb); clear ho hb hg hat hx1; have hx1 := hx8; clear hx8
  refine hK.out _ _ ⟨(blk_cell (bk BX) 2).trans rfl, pw_cell_below st_below hx1⟩ (fun hHeld => ?_)
  clear hK K
  refine norm_ (a' := ?_) ?_ ?_
  rotate_left
  · show Act.put _ (some 49) _ = _
    simp only [Act.put, List.setIfInBounds_toArray, List.set_cons_zero, List.set_cons_succ, i64_w, i32_w]
    rfl
  refine one_ (i := 22) (N := some 59) #[true, true, true, true, true, true, true, true, true, true, true, true, true, true, true, true, true, true, true, true, true, true, true, false, false, false] rfl rfl (by kernel_rfl) (by decide) (fun K hK => ?_)
  refine Kd.R_append_rows_step k53 (w0 := w7) w7.heap.size (by rfl) (.tmp 49) (.tmp 58) 44 53 (.agg #[.string ⟨#[]⟩, .int .i64 0]) 24 rfl huN info53 rfl (by decide) (by omega) (.slice Ae (N.take j).length ce8) (N.take j) (N.drop (j + 1)) (A') (N.length - (j + 1)) (cn - (j + 1)) (fun _ => True) (fun _ => False) (by simp [Act.eval, Act.put]) (by simp [Act.eval, Act.put]) ?aO ?aR (fun _ _ h => h) (fun _ h => h.elim) (fun _ _ => trivial) ?aB ?aS ?aL ?_; (case aO => exact rr R8.out); (case aR => exact Kd.C_below (Kd.C_below hC'.out HB8.out) st_below); (case aB => exact bs HB8); (case aS => exact below_size (bs HB8)); (case aL => rw [List.length_take, Nat.min_eq_left (Nat.le_of_lt hjl)]; exact HL2.out); intro v9 w9 ho hb hg hat; obtain ⟨Af, cf9, e9⟩ := Kd.R_slice ho; obtain ⟨m9, hm9⟩ : ∃ m, m = (N.take j ++ N.drop (j + 1)).length := ⟨_, rfl⟩; rw [← hm9] at e9; clear hm9; subst e9; have R9 := Ah ho; have HB9 := Ah hb; clear hx1; have hx1 := pw_cell_below hb Hx7.out; have hf1 : w9.frozen? ⟨gq, n.toNat * 2 + 1, none⟩ = false := (hb.frozen (p := ⟨gq, n.toNat * 2 + 1, none⟩) lQ.out).trans Hf7.out; clear ho hb hg hat R8 HB8; have BX9 := BX; clear BX; have BX := Ah (blk_below BX7.out HB9.out)
  refine hK.out _ _ ⟨(blk_cell (bk BX) 2).trans rfl, pw_cell_below st_below hx1⟩ (fun hHeld => ?_)
  clear hK K
  refine norm_ (a' := ?_) ?_ ?_
  rotate_left
  · show Act.put _ (some 59) _ = _
    simp only [Act.put, List.setIfInBounds_toArray, List.set_cons_zero, List.set_cons_succ, i64_w, i32_w]
    rfl
  refine pure_ (i := 23) (N := some 60) (v := ?_) (a' := ?_) #[true, true, true, true, true, true, true, true, true, true, true, true, true, true, true, true, true, true, true, true, true, true, true, true, false, false] rfl rfl (by kernel_rfl) (fun _ _ _ h => h) (Or.inl ⟨by rfl, ?_⟩) ?_ ?_
  rotate_left
  · intro w'
    go_simp
    with_reducible rfl
  rotate_left
  · simp only [Act.put, List.setIfInBounds_toArray, List.set_cons_zero, List.set_cons_succ, i64_w, i32_w]
    rfl
  refine pure_ (i := 24) (N := some 61) (v := ?_) (a' := ?_) #[true, true, true, true, true, true, true, true, true, true, true, true, true, true, true, true, true, true, true, true, true, true, true, true, true, false] rfl rfl (by kernel_rfl) (fun _ _ _ h => h) (Or.inl ⟨by rfl, ?_⟩) ?_ ?_
  rotate_left
  · intro w'
    go_simp
    with_reducible rfl
  rotate_left
  · simp only [Act.put, List.setIfInBounds_toArray, List.set_cons_zero, List.set_cons_succ, i64_w, i32_w]
    rfl
  refine last_ (i := 25) (N := none) #[true, true, true, true, true, true, true, true, true, true, true, true, true, true, true, true, true, true, true, true, true, true, true, true, true, true] rfl rfl (by kernel_rfl) (by decide) (fun K hK => ?_)
  refine skip_ (w1 := ?_) (by rfl) rfl ?_ ?_
  rotate_left
  · go_simp
    rfl
  refine hK.out _ _ ?_
  clear hK K
  refine done_ (by kernel_rfl) ?_

  have lq := Kd.S_base O2.out gq (by simp [Value.ownBlock])
  have hww := K5.out.size
  have lq2 : gq < w7.heap.size := lQ.out
  have HS := Kd.S_seg (okg := fun k => w7.heap.size ≤ k) (ok := fun _ => True) (Kd.H_mono (Kd.H_below HH.out HB9.out) (fun k hk => ⟨trivial, Nat.not_le.2 (Nat.lt_of_lt_of_le hk HB7.out.size)⟩)) H0.out H1.out (seg := [.slice Af m9 cf9]) (j := 1) (show 2 ≤ 2 from by decide) (x' := (⟨(rd_T46 o2 n).f0, N.take j ++ N.drop (j + 1)⟩ : S46)) (k46_mkM w9 w4.heap.size (fun k => w7.heap.size ≤ k) _ (Kd.R_lower (Kd.R_mono (Kd.R_bound R9.out) (fun k hk => hk.2.1)) (by omega))) (fun k hk => .inr hk) (fun k hk => ⟨trivial, by have hk' : w7.heap.size ≤ k := hk; omega⟩)
  have GQ9 := Ah (blk_below (blk_below GQ.out HB7.out) HB9.out)
  have BR9 := Ah (blk_below BR.out HB9.out)
  have O19 := Ah (Kd.R_below O1.out HB9.out)
  have B9 := Ah (below_step HB.out HB9.out)
  have n2 : Aside0 (Kd.S k46 46 (w9.setCell ⟨gq, n.toNat * 2 + 1, none⟩ (.slice Af m9 cf9)) w4.heap.size (fun _ => True) (.slice (some ⟨gq, 0, none⟩) o2.length d2) (dropE o2 n (j : Int))) := ⟨by unfold dropE; rw [ej, ← HNe.out]; exact HS.1⟩
  have n0 : Aside0 ((w9.setCell ⟨gq, n.toNat * 2 + 1, none⟩ (.slice Af m9 cf9)).heap[ga]? = _) := ⟨bf BX ⟨blk_ne BX.out GQ9.out (by decide)⟩⟩
  have n1 : Aside0 ((w9.setCell ⟨gq, n.toNat * 2 + 1, none⟩ (.slice Af m9 cf9)).heap[gr]? = _) := ⟨bf BR9 ⟨blk_ne BR9.out GQ9.out (by decide)⟩⟩
  have n3 : Aside0 (Kd.R (Kd.int .i64) 3 (w9.setCell ⟨gq, n.toNat * 2 + 1, none⟩ (.slice Af m9 cf9)) w4.heap.size (fun _ => True) (.slice B1 o1.length d1) o1) := ⟨rfU O19 GQ9⟩
  have n4 : Aside0 (Below w.heap.size w (w9.setCell ⟨gq, n.toNat * 2 + 1, none⟩ (.slice Af m9 cf9))) := ⟨below_set B9.out (by omega)⟩
  clear BX BR O1 O2 HB HS hx1 hf1
  generalize (w9.setCell ⟨gq, n.toNat * 2 + 1, none⟩ (.slice Af m9 cf9)) = W10 at n0 n1 n2 n3 n4 ⊢
  obtain ⟨zc0, zc1, zc2, zf0, zf1, zf2⟩ := czD n0
  obtain ⟨yc0, yc1, yc2, yf0, yf1, yf2⟩ := czD n1
  go_wp2
  refine bodyPost_ret (results_ct rfl _ _ gr 29 #[.int .i64 o0, .slice B1 o1.length d1, .slice (some ⟨gq, 0, none⟩) o2.length d2] (0, 0) _ rfl (by (with_reducible repeat (first | refine blk_drewN ?_ _ | refine blk_drew ?_ | refine blk_alloc ?_ _)); refine blk_put (cs := #[.int .i64 o0, .slice B1 o1.length d1, .slice none 0 0]) ?_ 2 _ rfl; (with_reducible repeat (first | refine blk_drewN ?_ _ | refine blk_drew ?_ | refine blk_alloc ?_ _)); refine blk_put (cs := #[.int .i64 o0, .slice none 0 0, .slice none 0 0]) ?_ 1 _ rfl; (with_reducible repeat (first | refine blk_drewN ?_ _ | refine blk_drew ?_ | refine blk_alloc ?_ _)); refine blk_put (cs := #[.int .i64 0, .slice none 0 0, .slice none 0 0]) ?_ 0 _ rfl; (with_reducible repeat (first | refine blk_drewN ?_ _ | refine blk_drew ?_ | refine blk_alloc ?_ _)); exact n1.out) hu rfl (by kernel_rfl)) rfl ?_
  exact ⟨_, _, er, Kd.R_lower (rfU n3 n1) hww, Kd.S_lower (sfU n2 n1) hww, bs1 n4 GR⟩
inductive SpecDrop (a0 : Int) (l1 : List Int) (l2 : List S46) (sm : ByteArray) : Int → List Int → List S46 → Bool → Prop
  | bad {k : Nat} : spec_GoodDir.f k a0 l1 l2 = some false → SpecDrop a0 l1 l2 sm 0 [] [] false
  | noname {k : Nat} {k' : Nat} : spec_GoodDir.f k a0 l1 l2 = some true → spec_l8Name.f k' sm = some false → SpecDrop a0 l1 l2 sm 0 [] [] false
  | nothas {k ko kb k' ka : Nat} {o0 : Int} {o1 : List Int} {o2 : List S46} {n q : Int} : spec_GoodDir.f k a0 l1 l2 = some true → spec_l8Name.f k' sm = some true → spec_l8Own.f ko a0 l1 l2 = some (o0, o1, o2) → spec_l8Bucket.f kb o0 o1 o2 sm = some n → 0 ≤ n → n < (o2.length : Int) → spec_l8At.f ka (rd_T46 o2 n).f1 sm = some (q, false) → SpecDrop a0 l1 l2 sm 0 [] [] false
  | yes {k ko kb k' ka : Nat} {o0 : Int} {o1 : List Int} {o2 : List S46} {n q : Int} : spec_GoodDir.f k a0 l1 l2 = some true → spec_l8Name.f k' sm = some true → spec_l8Own.f ko a0 l1 l2 = some (o0, o1, o2) → spec_l8Bucket.f kb o0 o1 o2 sm = some n → 0 ≤ n → n < (o2.length : Int) → spec_l8At.f ka (rd_T46 o2 n).f1 sm = some (q, true) → 0 ≤ q → q < ((rd_T46 o2 n).f1.length : Int) → (rd_T46 o2 n).f1.length ≤ 1048576 → SpecDrop a0 l1 l2 sm o0 o1 (dropE o2 n q) true
theorem spec_DropName.calls (a0 : Int) (A1 : Option Addr) (c1 : Nat) (l1 : List Int) (A2 : Option Addr) (c2 : Nat) (l2 : List S46) (sm : ByteArray) (r0 : Int) (r1 : List Int) (r2 : List S46) (b : Bool) (w : World) (hr1 : Kd.C (Kd.int .i64) w A1 l1.length l1) (hc1 : l1.length ≤ c1) (hr2 : Kd.C k46 w A2 l2.length l2) (hc2 : l2.length ≤ c2) (h : SpecDrop a0 l1 l2 sm r0 r1 r2 b) :
    Calls Tryd.prog 5 #[.agg #[.int .i64 a0, .slice A1 l1.length c1, .slice A2 l2.length c2], .string sm] w fun e w' => ∃ v1 v2 : Value, e = .returned (.tuple #[.agg #[.int .i64 r0, v1, v2], .bool b]) ∧ Kd.R (Kd.int .i64) 3 w' w.heap.size (fun _ => True) v1 r1 ∧ Kd.S k46 46 w' w.heap.size (fun _ => True) v2 r2 ∧ Below w.heap.size w w' := by
  cases h with
  | bad e1 => exact (spec_DropName.bad _ a0 A1 c1 l1 A2 c2 l2 sm w hr1 hc1 hr2 hc2 e1).mono fun e w' hp => ⟨_, _, hp.1, Kd.R_nil _ _ _ _ _, Kd.S_nil _ _ _ _ _, hp.2⟩
  | noname e1 e2 => exact (spec_DropName.noname _ _ a0 A1 c1 l1 A2 c2 l2 sm w hr1 hc1 hr2 hc2 e1 e2).mono fun e w' hp => ⟨_, _, hp.1, Kd.R_nil _ _ _ _ _, Kd.S_nil _ _ _ _ _, hp.2⟩
  | nothas e1 e2 e3 e4 e5 e6 e7 => exact (spec_DropName.nothas _ _ _ _ _ _ _ _ _ _ a0 A1 c1 l1 A2 c2 l2 sm w hr1 hc1 hr2 hc2 e1 e2 e3 e4 e5 e6 e7).mono fun e w' hp => ⟨_, _, hp.1, Kd.R_nil _ _ _ _ _, Kd.S_nil _ _ _ _ _, hp.2⟩
  | yes e1 e2 e3 e4 e5 e6 e7 e8 e9 ea => exact spec_DropName.yes _ _ _ _ _ _ _ _ _ _ a0 A1 c1 l1 A2 c2 l2 sm w hr1 hc1 hr2 hc2 e1 e2 e3 e4 e5 e6 e7 e8 e9 ea
end Go.Proofs.YtfbjeppfnlfejaaDoor.G
