/- impl.DropName, walked by hand. No statement. -/
import Derived.Test.YtfbjeppfnlfejaaDoorDropSpec
import Derived.Test.YtfbjeppfnlfejaaDoorG4
import Derived.Test.YtfbjeppfnlfejaaDoorG3
import Derived.Test.YtfbjeppfnlfejaaDoorG5
namespace Go.Proofs.YtfbjeppfnlfejaaDoor.G
open Go.RowKit Go.Proofs.YtfbjeppfnlfejaaDoorW.PrintWords Go.Proofs.YtfbjeppfnlfejaaDoorW.PrintLast Go.Proofs.YtfbjeppfnlfejaaDoorW.PrintMore
set_option linter.unusedVariables false
set_option linter.unusedSimpArgs false
set_option maxHeartbeats 8000000 in
set_option maxRecDepth 100000 in
theorem impl_DropName.bad (k : Nat) (a0 : Int) (A1 : Option Addr) (c1 : Nat) (l1 : List Int) (A2 : Option Addr) (c2 : Nat) (l2 : List S46) (sm : ByteArray) (w : World) (hr1 : Kd.C (Kd.int .i64) w A1 l1.length l1) (hc1 : l1.length ≤ c1) (hr2 : Kd.C k46 w A2 l2.length l2) (hc2 : l2.length ≤ c2)
    (hG : impl_GoodDir.f k a0 l1 l2 = some false) :
    Calls Tryd.prog 7 #[.agg #[.int .i64 a0, .slice A1 l1.length c1, .slice A2 l2.length c2], .string sm] w fun e w' => e = .returned (.tuple #[.agg #[.int .i64 0, .slice none 0 0, .slice none 0 0], .bool false]) ∧ Below w.heap.size w w' := by
  have hu := Tryd.underlying29
  have huB := Tryd.underlying46
  have C1 := Ah hr1
  have E1 := Ah hc1
  have C2 := Ah hr2
  have E2 := Ah hc2
  have HB := Ah (Below.refl w.heap.size w)
  clear hr1 hc1 hr2 hc2
  have HG := Ah hG
  clear hG
  go_enter Tryd.func7, Tryd.ntmps7
  go_wp2_with (first | ((with_reducible refine gate_dst (N := 2) rfl ?_); refine boxL 2 29 #[.int .i64 a0, .slice A1 l1.length c1, .slice A2 l2.length c2] ?_; intro ga hg w1 BA hb; have GA := gw hg (bs HB); replace HB := Ah (below_step (bs HB) hb); clear hb hg) | ((with_reducible refine gate_dst (N := 4) rfl ?_); refine boxL 4 29 #[.int .i64 0, .slice none 0 0, .slice none 0 0] ?_; intro gr hg w2 BR hb; have GR := gw hg (bs HB); have NAR := nm BA hg; replace BA := nb BA hb; replace HB := Ah (below_step (bs HB) hb); clear hb hg; obtain ⟨zc0, zc1, zc2, zf0, zf1, zf2⟩ := czD BA; obtain ⟨yc0, yc1, yc2, yf0, yf1, yf2⟩ := czD BR) | (go_at_call 20; (with_reducible refine (impl_GoodDir.calls k a0 _ _ l1 _ _ l2 false _ ?s1 E1.out ?s2 E2.out HG.out).mono ?_); (case s1 => exact cb C1 HB); (case s2 => exact cb C2 HB); rintro e w3 ⟨rfl, hb⟩; clear zc0 zc1 zc2 zf0 zf1 zf2 yc0 yc1 yc2 yf0 yf1 yf2; replace BA := nb BA hb; replace BR := nb BR hb; replace HB := Ah (below_step (bs HB) hb); clear hb; obtain ⟨zc0, zc1, zc2, zf0, zf1, zf2⟩ := czD BA; obtain ⟨yc0, yc1, yc2, yf0, yf1, yf2⟩ := czD BR))
  refine bodyPost_ret (results_ct rfl _ _ gr 29 #[.int .i64 0, .slice none 0 0, .slice none 0 0] (0, 0) _ rfl (by (with_reducible repeat (first | refine blk_drewN ?_ _ | refine blk_drew ?_ | refine blk_alloc ?_ _)); refine blk_put (cs := #[.int .i64 0, .slice none 0 0, .slice none 0 0]) ?_ 2 _ rfl; (with_reducible repeat (first | refine blk_drewN ?_ _ | refine blk_drew ?_ | refine blk_alloc ?_ _)); refine blk_put (cs := #[.int .i64 0, .slice none 0 0, .slice none 0 0]) ?_ 1 _ rfl; (with_reducible repeat (first | refine blk_drewN ?_ _ | refine blk_drew ?_ | refine blk_alloc ?_ _)); refine blk_put (cs := #[.int .i64 0, .slice none 0 0, .slice none 0 0]) ?_ 0 _ rfl; (with_reducible repeat (first | refine blk_drewN ?_ _ | refine blk_drew ?_ | refine blk_alloc ?_ _)); exact BR.out) hu rfl (by kernel_rfl)) rfl ?_
  exact ⟨er, bs1 HB GR⟩
set_option maxHeartbeats 8000000 in
set_option maxRecDepth 100000 in
theorem impl_DropName.noname (k : Nat) (a0 : Int) (A1 : Option Addr) (c1 : Nat) (l1 : List Int) (A2 : Option Addr) (c2 : Nat) (l2 : List S46) (sm : ByteArray) (w : World) (hr1 : Kd.C (Kd.int .i64) w A1 l1.length l1) (hc1 : l1.length ≤ c1) (hr2 : Kd.C k46 w A2 l2.length l2) (hc2 : l2.length ≤ c2)
    (hG : impl_GoodDir.f k a0 l1 l2 = some true) (hN : impl_isName.f sm = some false) :
    Calls Tryd.prog 7 #[.agg #[.int .i64 a0, .slice A1 l1.length c1, .slice A2 l2.length c2], .string sm] w fun e w' => e = .returned (.tuple #[.agg #[.int .i64 0, .slice none 0 0, .slice none 0 0], .bool false]) ∧ Below w.heap.size w w' := by
  have hu := Tryd.underlying29
  have huB := Tryd.underlying46
  have C1 := Ah hr1
  have E1 := Ah hc1
  have C2 := Ah hr2
  have E2 := Ah hc2
  have HB := Ah (Below.refl w.heap.size w)
  clear hr1 hc1 hr2 hc2
  have HG := Ah hG
  clear hG
  have HN := Ah hN
  clear hN
  go_enter Tryd.func7, Tryd.ntmps7
  go_wp2_with (first | ((with_reducible refine gate_dst (N := 2) rfl ?_); refine boxL 2 29 #[.int .i64 a0, .slice A1 l1.length c1, .slice A2 l2.length c2] ?_; intro ga hg w1 BA hb; have GA := gw hg (bs HB); replace HB := Ah (below_step (bs HB) hb); clear hb hg) | ((with_reducible refine gate_dst (N := 4) rfl ?_); refine boxL 4 29 #[.int .i64 0, .slice none 0 0, .slice none 0 0] ?_; intro gr hg w2 BR hb; have GR := gw hg (bs HB); have NAR := nm BA hg; replace BA := nb BA hb; replace HB := Ah (below_step (bs HB) hb); clear hb hg; obtain ⟨zc0, zc1, zc2, zf0, zf1, zf2⟩ := czD BA; obtain ⟨yc0, yc1, yc2, yf0, yf1, yf2⟩ := czD BR) | (go_at_call 20; (with_reducible refine (impl_GoodDir.calls k a0 _ _ l1 _ _ l2 true _ ?s1 E1.out ?s2 E2.out HG.out).mono ?_); (case s1 => exact cb C1 HB); (case s2 => exact cb C2 HB); rintro e w3 ⟨rfl, hb⟩; clear zc0 zc1 zc2 zf0 zf1 zf2 yc0 yc1 yc2 yf0 yf1 yf2; replace BA := nb BA hb; replace BR := nb BR hb; replace HB := Ah (below_step (bs HB) hb); clear hb; obtain ⟨zc0, zc1, zc2, zf0, zf1, zf2⟩ := czD BA; obtain ⟨yc0, yc1, yc2, yf0, yf1, yf2⟩ := czD BR) | (go_at_call 21; (with_reducible refine (impl_isName.calls sm false _ HN.out).mono ?_); rintro e w4 ⟨rfl, hb⟩; clear zc0 zc1 zc2 zf0 zf1 zf2 yc0 yc1 yc2 yf0 yf1 yf2; replace BA := nb BA hb; replace BR := nb BR hb; replace HB := Ah (below_step (bs HB) hb); clear hb; obtain ⟨zc0, zc1, zc2, zf0, zf1, zf2⟩ := czD BA; obtain ⟨yc0, yc1, yc2, yf0, yf1, yf2⟩ := czD BR))
  refine bodyPost_ret (results_ct rfl _ _ gr 29 #[.int .i64 0, .slice none 0 0, .slice none 0 0] (0, 0) _ rfl (by (with_reducible repeat (first | refine blk_drewN ?_ _ | refine blk_drew ?_ | refine blk_alloc ?_ _)); refine blk_put (cs := #[.int .i64 0, .slice none 0 0, .slice none 0 0]) ?_ 2 _ rfl; (with_reducible repeat (first | refine blk_drewN ?_ _ | refine blk_drew ?_ | refine blk_alloc ?_ _)); refine blk_put (cs := #[.int .i64 0, .slice none 0 0, .slice none 0 0]) ?_ 1 _ rfl; (with_reducible repeat (first | refine blk_drewN ?_ _ | refine blk_drew ?_ | refine blk_alloc ?_ _)); refine blk_put (cs := #[.int .i64 0, .slice none 0 0, .slice none 0 0]) ?_ 0 _ rfl; (with_reducible repeat (first | refine blk_drewN ?_ _ | refine blk_drew ?_ | refine blk_alloc ?_ _)); exact BR.out) hu rfl (by kernel_rfl)) rfl ?_
  exact ⟨er, bs1 HB GR⟩
set_option maxHeartbeats 8000000 in
set_option maxRecDepth 100000 in
theorem impl_DropName.nothas (ko : Nat) (o0 : Int) (o1 : List Int) (o2 : List S46) (kb : Nat) (n q : Int) (k : Nat) (a0 : Int) (A1 : Option Addr) (c1 : Nat) (l1 : List Int) (A2 : Option Addr) (c2 : Nat) (l2 : List S46) (sm : ByteArray) (w : World) (hr1 : Kd.C (Kd.int .i64) w A1 l1.length l1) (hc1 : l1.length ≤ c1) (hr2 : Kd.C k46 w A2 l2.length l2) (hc2 : l2.length ≤ c2)
    (hG : impl_GoodDir.f k a0 l1 l2 = some true) (hN : impl_isName.f sm = some true) (hO : impl_ownDir.f ko a0 l1 l2 = some (o0, o1, o2)) (hK : impl_Dir_find.f kb o0 o1 o2 sm = some (n, q, false)) (h0 : 0 ≤ n) (h1 : n < (o2.length : Int))  :
    Calls Tryd.prog 7 #[.agg #[.int .i64 a0, .slice A1 l1.length c1, .slice A2 l2.length c2], .string sm] w fun e w' => e = .returned (.tuple #[.agg #[.int .i64 0, .slice none 0 0, .slice none 0 0], .bool false]) ∧ Below w.heap.size w w' := by
  have hu := Tryd.underlying29
  have huB := Tryd.underlying46
  have C1 := Ah hr1
  have E1 := Ah hc1
  have C2 := Ah hr2
  have E2 := Ah hc2
  have HB := Ah (Below.refl w.heap.size w)
  clear hr1 hc1 hr2 hc2
  have HG := Ah hG
  clear hG
  have HN := Ah hN
  clear hN
  have HO := Ah hO
  clear hO
  have HK := Ah hK
  clear hK
  go_enter Tryd.func7, Tryd.ntmps7
  go_upto_region 4 with (first | ((with_reducible refine gate_dst (N := 2) rfl ?_); refine boxL 2 29 #[.int .i64 a0, .slice A1 l1.length c1, .slice A2 l2.length c2] ?_; intro ga hg w1 BA hb; have GA := gw hg (bs HB); replace HB := Ah (below_step (bs HB) hb); clear hb hg) | ((with_reducible refine gate_dst (N := 4) rfl ?_); refine boxL 4 29 #[.int .i64 0, .slice none 0 0, .slice none 0 0] ?_; intro gr hg w2 BR hb; have GR := gw hg (bs HB); have NAR := nm BA hg; replace BA := nb BA hb; replace HB := Ah (below_step (bs HB) hb); clear hb hg; obtain ⟨zc0, zc1, zc2, zf0, zf1, zf2⟩ := czD BA; obtain ⟨yc0, yc1, yc2, yf0, yf1, yf2⟩ := czD BR) | (go_at_call 20; (with_reducible refine (impl_GoodDir.calls k a0 _ _ l1 _ _ l2 true _ ?s1 E1.out ?s2 E2.out HG.out).mono ?_); (case s1 => exact cb C1 HB); (case s2 => exact cb C2 HB); rintro e w3 ⟨rfl, hb⟩; clear zc0 zc1 zc2 zf0 zf1 zf2 yc0 yc1 yc2 yf0 yf1 yf2; replace BA := nb BA hb; replace BR := nb BR hb; replace HB := Ah (below_step (bs HB) hb); clear hb; obtain ⟨zc0, zc1, zc2, zf0, zf1, zf2⟩ := czD BA; obtain ⟨yc0, yc1, yc2, yf0, yf1, yf2⟩ := czD BR) | (go_at_call 21; (with_reducible refine (impl_isName.calls sm true _ HN.out).mono ?_); rintro e w4 ⟨rfl, hb⟩; clear zc0 zc1 zc2 zf0 zf1 zf2 yc0 yc1 yc2 yf0 yf1 yf2; replace BA := nb BA hb; replace BR := nb BR hb; replace HB := Ah (below_step (bs HB) hb); clear hb; obtain ⟨zc0, zc1, zc2, zf0, zf1, zf2⟩ := czD BA; obtain ⟨yc0, yc1, yc2, yf0, yf1, yf2⟩ := czD BR) | (go_at_call 22; (with_reducible refine (impl_ownDir.calls ko a0 _ _ l1 _ _ l2 o0 o1 o2 _ ?s1 E1.out ?s2 E2.out HO.out).mono ?_); (case s1 => exact cb C1 HB); (case s2 => exact cb C2 HB); rintro e w5 ⟨v1, v2, rfl, h1, h2, hb⟩; obtain ⟨B1, d1, q1⟩ := Kd.R_slice h1; subst q1; obtain ⟨B2, d2, q2⟩ := Kd.S_slice h2; subst q2; have O1 := Ah h1; have O2 := Ah h2; clear h1 h2; have HB5 := Ah hb; clear zc0 zc1 zc2 zf0 zf1 zf2 yc0 yc1 yc2 yf0 yf1 yf2; replace BA := nb BA hb; replace BR := nb BR hb; have G5 := Ah (blk_lt BA.out); have K5 := HB; replace HB := Ah (below_step (bs HB) hb); clear hb; obtain ⟨zc0, zc1, zc2, zf0, zf1, zf2⟩ := czD BA; obtain ⟨yc0, yc1, yc2, yf0, yf1, yf2⟩ := czD BR) | ((with_reducible refine gate_dst (N := 6) rfl ?_); refine boxL 6 29 #[.int .i64 0, .slice none 0 0, .slice none 0 0] ?_; intro go hg wo BO hb; have GO := gw hg (bs HB); have NRO := nn BR hg; replace BR := nb BR hb; replace O1 := nr O1 hb; replace O2 := sbD O2 hb; replace HB := Ah (below_step (bs HB) hb); have GO4 := gw hg (bs HB5); replace HB5 := Ah (below_step (bs HB5) hb); clear zc0 zc1 zc2 zf0 zf1 zf2 yc0 yc1 yc2 yf0 yf1 yf2; clear hb hg BA GA NAR; obtain ⟨yc0, yc1, yc2, yf0, yf1, yf2⟩ := czD BR; obtain ⟨zc0, zc1, zc2, zf0, zf1, zf2⟩ := czD BO))
  have n0 : Aside0 ((((wo.setCell ⟨go, 0, none⟩ (.int .i64 o0)).setCell ⟨go, 1, none⟩ (.slice B1 o1.length d1)).setCell ⟨go, 2, none⟩ (.slice B2 o2.length d2)).heap[go]? = some (.cells #[.int .i64 o0, .slice B1 o1.length d1, .slice B2 o2.length d2] 29 (0, 0))) := ⟨(blk_put (cs := #[.int .i64 o0, .slice B1 o1.length d1, .slice none 0 0]) (blk_put (cs := #[.int .i64 o0, .slice none 0 0, .slice none 0 0]) (blk_put (cs := #[.int .i64 0, .slice none 0 0, .slice none 0 0]) BO.out 0 (.int .i64 o0) rfl) 1 (.slice B1 o1.length d1) rfl) 2 (.slice B2 o2.length d2) rfl)⟩
  have n1 : Aside0 ((((wo.setCell ⟨go, 0, none⟩ (.int .i64 o0)).setCell ⟨go, 1, none⟩ (.slice B1 o1.length d1)).setCell ⟨go, 2, none⟩ (.slice B2 o2.length d2)).heap[gr]? = some (.cells #[.int .i64 0, .slice none 0 0, .slice none 0 0] 29 (0, 0))) := ⟨bf BR NRO⟩
  have m1 : Aside0 (Kd.R (Kd.int .i64) 3 (((wo.setCell ⟨go, 0, none⟩ (.int .i64 o0)).setCell ⟨go, 1, none⟩ (.slice B1 o1.length d1)).setCell ⟨go, 2, none⟩ (.slice B2 o2.length d2)) _ (fun _ => True) (.slice B1 o1.length d1) o1) := ⟨rfU O1 BO⟩
  have m2 : Aside0 (Kd.S k46 46 (((wo.setCell ⟨go, 0, none⟩ (.int .i64 o0)).setCell ⟨go, 1, none⟩ (.slice B1 o1.length d1)).setCell ⟨go, 2, none⟩ (.slice B2 o2.length d2)) _ (fun _ => True) (.slice B2 o2.length d2) o2) := ⟨sfU O2 BO⟩
  have n8 : Aside0 (Below w4.heap.size w4 (((wo.setCell ⟨go, 0, none⟩ (.int .i64 o0)).setCell ⟨go, 1, none⟩ (.slice B1 o1.length d1)).setCell ⟨go, 2, none⟩ (.slice B2 o2.length d2))) := ⟨bs1 HB5 GO4⟩
  have n9 : Aside0 (Below w.heap.size w (((wo.setCell ⟨go, 0, none⟩ (.int .i64 o0)).setCell ⟨go, 1, none⟩ (.slice B1 o1.length d1)).setCell ⟨go, 2, none⟩ (.slice B2 o2.length d2))) := ⟨bs1 HB GO⟩
  clear O1 O2 HB BO BR zc0 zc1 zc2 zf0 zf1 zf2 yc0 yc1 yc2 yf0 yf1 yf2 NRO GO G5 HB5 GO4
  generalize (((wo.setCell ⟨go, 0, none⟩ (.int .i64 o0)).setCell ⟨go, 1, none⟩ (.slice B1 o1.length d1)).setCell ⟨go, 2, none⟩ (.slice B2 o2.length d2)) = W4 at n0 n1 m1 m2 n9 n8 ⊢
  have BX := n0
  have BR := n1
  have O1 := m1
  have O2 := m2
  have HB := n9
  clear n0 n1 m1 m2 n9
  have HB5 := n8
  clear n8
  obtain ⟨zc0, zc1, zc2, zf0, zf1, zf2⟩ := czD BX
  go_upto_region 5 with (first | (go_at_call 23; (with_reducible refine (impl_Dir_find.calls kb o0 _ _ o1 _ _ o2 sm n q false _ ?s1 ?s2 ?s3 ?s4 HK.out).mono ?_); (case s1 => exact (Kd.R_reads' (rr O1.out)).2.2); (case s2 => exact (Kd.R_reads' O1.out).2.1); (case s3 => exact (Kd.S_reads' (ssD O2)).2.2); (case s4 => exact (Kd.S_reads' O2.out).2.1); rintro e w6 ⟨rfl, hb⟩; replace O1 := nr O1 hb; replace O2 := sbD O2 hb; replace BX := nb BX hb; replace BR := nb BR hb; replace HB := Ah (below_step (bs HB) hb); replace HB5 := Ah (below_step (bs HB5) hb); clear hb; clear zc0 zc1 zc2 zf0 zf1 zf2))
  obtain ⟨yc0, yc1, yc2, yf0, yf1, yf2⟩ := czD BR
  go_wp2
  refine bodyPost_ret (results_ct rfl _ _ gr 29 #[.int .i64 0, .slice none 0 0, .slice none 0 0] (0, 0) _ rfl (by (with_reducible repeat (first | refine blk_drewN ?_ _ | refine blk_drew ?_ | refine blk_alloc ?_ _)); refine blk_put (cs := #[.int .i64 0, .slice none 0 0, .slice none 0 0]) ?_ 2 _ rfl; (with_reducible repeat (first | refine blk_drewN ?_ _ | refine blk_drew ?_ | refine blk_alloc ?_ _)); refine blk_put (cs := #[.int .i64 0, .slice none 0 0, .slice none 0 0]) ?_ 1 _ rfl; (with_reducible repeat (first | refine blk_drewN ?_ _ | refine blk_drew ?_ | refine blk_alloc ?_ _)); refine blk_put (cs := #[.int .i64 0, .slice none 0 0, .slice none 0 0]) ?_ 0 _ rfl; (with_reducible repeat (first | refine blk_drewN ?_ _ | refine blk_drew ?_ | refine blk_alloc ?_ _)); exact BR.out) hu rfl (by kernel_rfl)) rfl ?_
  exact ⟨er, bs1 HB GR⟩
set_option maxHeartbeats 8000000 in
set_option maxRecDepth 100000 in
theorem impl_DropName.yes (ko : Nat) (o0 : Int) (o1 : List Int) (o2 : List S46) (kb : Nat) (n q : Int) (k : Nat) (a0 : Int) (A1 : Option Addr) (c1 : Nat) (l1 : List Int) (A2 : Option Addr) (c2 : Nat) (l2 : List S46) (sm : ByteArray) (w : World) (hr1 : Kd.C (Kd.int .i64) w A1 l1.length l1) (hc1 : l1.length ≤ c1) (hr2 : Kd.C k46 w A2 l2.length l2) (hc2 : l2.length ≤ c2)
    (hG : impl_GoodDir.f k a0 l1 l2 = some true) (hN : impl_isName.f sm = some true) (hO : impl_ownDir.f ko a0 l1 l2 = some (o0, o1, o2)) (hK : impl_Dir_find.f kb o0 o1 o2 sm = some (n, q, true)) (h0 : 0 ≤ n) (h1 : n < (o2.length : Int))  (q0 : 0 ≤ q) (q1 : q < ((rd_T46 o2 n).f1.length : Int)) (ql : (rd_T46 o2 n).f1.length ≤ 1048576) :
    Calls Tryd.prog 7 #[.agg #[.int .i64 a0, .slice A1 l1.length c1, .slice A2 l2.length c2], .string sm] w fun e w' => ∃ v1 v2 : Value, e = .returned (.tuple #[.agg #[.int .i64 o0, v1, v2], .bool true]) ∧ Kd.R (Kd.int .i64) 3 w' w.heap.size (fun _ => True) v1 o1 ∧ Kd.S k46 46 w' w.heap.size (fun _ => True) v2 (dropE o2 n q) ∧ Below w.heap.size w w' := by
  have hu := Tryd.underlying29
  have huB := Tryd.underlying46
  have C1 := Ah hr1
  have E1 := Ah hc1
  have C2 := Ah hr2
  have E2 := Ah hc2
  have HB := Ah (Below.refl w.heap.size w)
  clear hr1 hc1 hr2 hc2
  have HG := Ah hG
  clear hG
  have HN := Ah hN
  clear hN
  have HO := Ah hO
  clear hO
  have HK := Ah hK
  clear hK
  go_enter Tryd.func7, Tryd.ntmps7
  go_upto_region 4 with (first | ((with_reducible refine gate_dst (N := 2) rfl ?_); refine boxL 2 29 #[.int .i64 a0, .slice A1 l1.length c1, .slice A2 l2.length c2] ?_; intro ga hg w1 BA hb; have GA := gw hg (bs HB); replace HB := Ah (below_step (bs HB) hb); clear hb hg) | ((with_reducible refine gate_dst (N := 4) rfl ?_); refine boxL 4 29 #[.int .i64 0, .slice none 0 0, .slice none 0 0] ?_; intro gr hg w2 BR hb; have GR := gw hg (bs HB); have NAR := nm BA hg; replace BA := nb BA hb; replace HB := Ah (below_step (bs HB) hb); clear hb hg; obtain ⟨zc0, zc1, zc2, zf0, zf1, zf2⟩ := czD BA; obtain ⟨yc0, yc1, yc2, yf0, yf1, yf2⟩ := czD BR) | (go_at_call 20; (with_reducible refine (impl_GoodDir.calls k a0 _ _ l1 _ _ l2 true _ ?s1 E1.out ?s2 E2.out HG.out).mono ?_); (case s1 => exact cb C1 HB); (case s2 => exact cb C2 HB); rintro e w3 ⟨rfl, hb⟩; clear zc0 zc1 zc2 zf0 zf1 zf2 yc0 yc1 yc2 yf0 yf1 yf2; replace BA := nb BA hb; replace BR := nb BR hb; replace HB := Ah (below_step (bs HB) hb); clear hb; obtain ⟨zc0, zc1, zc2, zf0, zf1, zf2⟩ := czD BA; obtain ⟨yc0, yc1, yc2, yf0, yf1, yf2⟩ := czD BR) | (go_at_call 21; (with_reducible refine (impl_isName.calls sm true _ HN.out).mono ?_); rintro e w4 ⟨rfl, hb⟩; clear zc0 zc1 zc2 zf0 zf1 zf2 yc0 yc1 yc2 yf0 yf1 yf2; replace BA := nb BA hb; replace BR := nb BR hb; replace HB := Ah (below_step (bs HB) hb); clear hb; obtain ⟨zc0, zc1, zc2, zf0, zf1, zf2⟩ := czD BA; obtain ⟨yc0, yc1, yc2, yf0, yf1, yf2⟩ := czD BR) | (go_at_call 22; (with_reducible refine (impl_ownDir.calls ko a0 _ _ l1 _ _ l2 o0 o1 o2 _ ?s1 E1.out ?s2 E2.out HO.out).mono ?_); (case s1 => exact cb C1 HB); (case s2 => exact cb C2 HB); rintro e w5 ⟨v1, v2, rfl, h1, h2, hb⟩; obtain ⟨B1, d1, q1⟩ := Kd.R_slice h1; subst q1; obtain ⟨B2, d2, q2⟩ := Kd.S_slice h2; subst q2; have O1 := Ah h1; have O2 := Ah h2; clear h1 h2; have HB5 := Ah hb; clear zc0 zc1 zc2 zf0 zf1 zf2 yc0 yc1 yc2 yf0 yf1 yf2; replace BA := nb BA hb; replace BR := nb BR hb; have G5 := Ah (blk_lt BA.out); have K5 := HB; replace HB := Ah (below_step (bs HB) hb); clear hb; obtain ⟨zc0, zc1, zc2, zf0, zf1, zf2⟩ := czD BA; obtain ⟨yc0, yc1, yc2, yf0, yf1, yf2⟩ := czD BR) | ((with_reducible refine gate_dst (N := 6) rfl ?_); refine boxL 6 29 #[.int .i64 0, .slice none 0 0, .slice none 0 0] ?_; intro go hg wo BO hb; have GO := gw hg (bs HB); have NRO := nn BR hg; replace BR := nb BR hb; replace O1 := nr O1 hb; replace O2 := sbD O2 hb; replace HB := Ah (below_step (bs HB) hb); have GO4 := gw hg (bs HB5); replace HB5 := Ah (below_step (bs HB5) hb); clear zc0 zc1 zc2 zf0 zf1 zf2 yc0 yc1 yc2 yf0 yf1 yf2; clear hb hg BA GA NAR; obtain ⟨yc0, yc1, yc2, yf0, yf1, yf2⟩ := czD BR; obtain ⟨zc0, zc1, zc2, zf0, zf1, zf2⟩ := czD BO))
  have n0 : Aside0 ((((wo.setCell ⟨go, 0, none⟩ (.int .i64 o0)).setCell ⟨go, 1, none⟩ (.slice B1 o1.length d1)).setCell ⟨go, 2, none⟩ (.slice B2 o2.length d2)).heap[go]? = some (.cells #[.int .i64 o0, .slice B1 o1.length d1, .slice B2 o2.length d2] 29 (0, 0))) := ⟨(blk_put (cs := #[.int .i64 o0, .slice B1 o1.length d1, .slice none 0 0]) (blk_put (cs := #[.int .i64 o0, .slice none 0 0, .slice none 0 0]) (blk_put (cs := #[.int .i64 0, .slice none 0 0, .slice none 0 0]) BO.out 0 (.int .i64 o0) rfl) 1 (.slice B1 o1.length d1) rfl) 2 (.slice B2 o2.length d2) rfl)⟩
  have n1 : Aside0 ((((wo.setCell ⟨go, 0, none⟩ (.int .i64 o0)).setCell ⟨go, 1, none⟩ (.slice B1 o1.length d1)).setCell ⟨go, 2, none⟩ (.slice B2 o2.length d2)).heap[gr]? = some (.cells #[.int .i64 0, .slice none 0 0, .slice none 0 0] 29 (0, 0))) := ⟨bf BR NRO⟩
  have m1 : Aside0 (Kd.R (Kd.int .i64) 3 (((wo.setCell ⟨go, 0, none⟩ (.int .i64 o0)).setCell ⟨go, 1, none⟩ (.slice B1 o1.length d1)).setCell ⟨go, 2, none⟩ (.slice B2 o2.length d2)) _ (fun _ => True) (.slice B1 o1.length d1) o1) := ⟨rfU O1 BO⟩
  have m2 : Aside0 (Kd.S k46 46 (((wo.setCell ⟨go, 0, none⟩ (.int .i64 o0)).setCell ⟨go, 1, none⟩ (.slice B1 o1.length d1)).setCell ⟨go, 2, none⟩ (.slice B2 o2.length d2)) _ (fun _ => True) (.slice B2 o2.length d2) o2) := ⟨sfU O2 BO⟩
  have n8 : Aside0 (Below w4.heap.size w4 (((wo.setCell ⟨go, 0, none⟩ (.int .i64 o0)).setCell ⟨go, 1, none⟩ (.slice B1 o1.length d1)).setCell ⟨go, 2, none⟩ (.slice B2 o2.length d2))) := ⟨bs1 HB5 GO4⟩
  have n9 : Aside0 (Below w.heap.size w (((wo.setCell ⟨go, 0, none⟩ (.int .i64 o0)).setCell ⟨go, 1, none⟩ (.slice B1 o1.length d1)).setCell ⟨go, 2, none⟩ (.slice B2 o2.length d2))) := ⟨bs1 HB GO⟩
  clear O1 O2 HB BO BR zc0 zc1 zc2 zf0 zf1 zf2 yc0 yc1 yc2 yf0 yf1 yf2 NRO GO G5 HB5 GO4
  generalize (((wo.setCell ⟨go, 0, none⟩ (.int .i64 o0)).setCell ⟨go, 1, none⟩ (.slice B1 o1.length d1)).setCell ⟨go, 2, none⟩ (.slice B2 o2.length d2)) = W4 at n0 n1 m1 m2 n9 n8 ⊢
  have BX := n0
  have BR := n1
  have O1 := m1
  have O2 := m2
  have HB := n9
  clear n0 n1 m1 m2 n9
  have HB5 := n8
  clear n8
  obtain ⟨zc0, zc1, zc2, zf0, zf1, zf2⟩ := czD BX
  go_upto_region 5 with (first | (go_at_call 23; (with_reducible refine (impl_Dir_find.calls kb o0 _ _ o1 _ _ o2 sm n q true _ ?s1 ?s2 ?s3 ?s4 HK.out).mono ?_); (case s1 => exact (Kd.R_reads' (rr O1.out)).2.2); (case s2 => exact (Kd.R_reads' O1.out).2.1); (case s3 => exact (Kd.S_reads' (ssD O2)).2.2); (case s4 => exact (Kd.S_reads' O2.out).2.1); rintro e w6 ⟨rfl, hb⟩; replace O1 := nr O1 hb; replace O2 := sbD O2 hb; replace BX := nb BX hb; replace BR := nb BR hb; replace HB := Ah (below_step (bs HB) hb); replace HB5 := Ah (below_step (bs HB5) hb); clear hb; clear zc0 zc1 zc2 zf0 zf1 zf2))
  obtain ⟨gq, cq, eq_, _, _, cellsQ, hQ_⟩ := Kd.S_form O2.out (by omega)
  have GQ := Ah hQ_
  clear hQ_
  injection eq_ with ea_ _ ec_
  subst ea_
  subst ec_
  obtain ⟨oki, ce, hcl, hM, hcc, hfr, hoki, hH⟩ := Kd.S_elem (Kd.S_mono (ok' := fun k => k < w6.heap.size) (Kd.S_bound O2.out) (fun k hk => hk.2.2.1)) z46 n h0 h1
  obtain ⟨vn, rfl, hN_⟩ := k46_openM (x := rd_T46 o2 n) hM
  obtain ⟨An, cn, rfl⟩ := Kd.R_slice hN_
  have ON := Ah hN_
  have HH := Ah hH
  have HI := Ah hoki
  have hx1 := hcc 1 _ rfl
  have hx0 := hx1
  have hf1 := hfr 1
  simp only [show (k46).sz = 2 from rfl] at hx1 hf1 hx0
  clear hcl hM hcc hfr hoki hH hN_
  have p0 := eq_true h0
  have p1 := eq_true h1
  have H0 := Ah h0
  have H1 := Ah h1
  clear h0 h1
  obtain ⟨zc0, zc1, zc2, zf0, zf1, zf2⟩ := czD BX
  have hf2 := hf1
  clear hx0
  obtain ⟨j, rfl⟩ : ∃ j : Nat, q = j := ⟨q.toNat, by omega⟩
  obtain ⟨N, hN_⟩ : ∃ N, N = (rd_T46 o2 n).f1 := ⟨_, rfl⟩
  have HNe := Ah hN_
  rw [← hN_] at ON hx1 HH q1 ql
  clear hN_
  have ej : (j : Int).toNat = j := Int.toNat_natCast j
  have hjl : j < N.length := by omega
  have p2 : (0 : Int) ≤ (j : Int) := by omega
  have hwr : IntKind.i64.wrap ((j : Int) + 1) = (j : Int) + 1 := by rw [IntKind.wrap_i64]; omega
  obtain ⟨gN, cN, eN_, _, _, _, _⟩ := Kd.R_form ON.out (by omega)
  injection eN_ with ea_ _ ec_
  subst ea_
  subst ec_
  go_upto_region 7 with (fail)
  have HD := Ah (show impl_Name_24.f N (j : Int) ((j : Int) + 1) = some (N.take j ++ N.drop (j + 1)) from by unfold impl_Name_24.f; rw [if_pos ⟨p2, by omega, by omega⟩, ej, show ((j : Int) + 1).toNat = j + 1 from by omega])
  refine start_ (n := 16) (S := fun w' => w'.cell? ⟨go, 2, none⟩ = some (.slice (some ⟨gq, 0, none⟩) o2.length d2) ∧ w'.cell? ⟨gq, n.toNat * 2 + 1, none⟩ = some (.slice (some ⟨gN, 0, none⟩) N.length cn)) (ds := [15]) #[false, false, false, false, false, false, false, false, false, false, false, false, false, false, false, false] (by kernel_rfl) rfl rfl ⟨(blk_cell (bk BX) 2).trans rfl, pw_cell_below st_below hx1⟩ (fun hHeld => ?_)
  refine pure_ (i := 0) (N := some 31) (v := ?_) (a' := ?_) #[true, false, false, false, false, false, false, false, false, false, false, false, false, false, false, false] rfl rfl (by kernel_rfl) (fun _ _ _ h => h) (Or.inl ⟨by rfl, ?_⟩) ?_ ?_
  rotate_left
  · intro w'
    go_simp
    with_reducible rfl
  rotate_left
  · simp only [Act.put, List.setIfInBounds_toArray, List.set_cons_zero, List.set_cons_succ, i64_w, i32_w]
    rfl
  refine pure_ (i := 2) (N := some 33) (v := ?_) (a' := ?_) #[true, false, true, false, false, false, false, false, false, false, false, false, false, false, false, false] rfl rfl (by kernel_rfl) (fun _ _ _ h => h) (Or.inl ⟨by rfl, ?_⟩) ?_ ?_
  rotate_left
  · intro w'
    go_simp
    with_reducible rfl
  rotate_left
  · simp only [Act.put, List.setIfInBounds_toArray, List.set_cons_zero, List.set_cons_succ, i64_w, i32_w]
    rfl
  refine pure_ (i := 3) (N := some 34) (v := ?_) (a' := ?_) #[true, false, true, true, false, false, false, false, false, false, false, false, false, false, false, false] rfl rfl (by kernel_rfl) (fun _ _ _ h => h) (Or.inl ⟨by rfl, ?_⟩) ?_ ?_
  rotate_left
  · intro w'
    go_simp
    with_reducible rfl
  rotate_left
  · simp only [Act.put, List.setIfInBounds_toArray, List.set_cons_zero, List.set_cons_succ, i64_w, i32_w]
    rfl
  refine pure_ (i := 5) (N := some 36) (v := ?_) (a' := ?_) #[true, false, true, true, false, true, false, false, false, false, false, false, false, false, false, false] rfl rfl (by kernel_rfl) (fun _ _ _ h => h) (Or.inl ⟨by rfl, ?_⟩) ?_ ?_
  rotate_left
  · intro w'
    go_simp
    with_reducible rfl
  rotate_left
  · simp only [Act.put, List.setIfInBounds_toArray, List.set_cons_zero, List.set_cons_succ, i64_w, i32_w]
    rfl
  refine pure_ (i := 9) (N := some 40) (v := ?_) (a' := ?_) #[true, false, true, true, false, true, false, false, false, true, false, false, false, false, false, false] rfl rfl (by kernel_rfl) (fun _ _ _ h => h) (Or.inl ⟨by rfl, ?_⟩) ?_ ?_
  rotate_left
  · intro w'
    go_simp
    with_reducible rfl
  rotate_left
  · simp only [Act.put, List.setIfInBounds_toArray, List.set_cons_zero, List.set_cons_succ, i64_w, i32_w]
    rfl
  refine pure_ (i := 10) (N := some 41) (v := ?_) (a' := ?_) #[true, false, true, true, false, true, false, false, false, true, true, false, false, false, false, false] rfl rfl (by kernel_rfl) (fun _ _ _ h => h) (Or.inl ⟨by rfl, ?_⟩) ?_ ?_
  rotate_left
  · intro w'
    go_simp
    with_reducible rfl
  rotate_left
  · simp only [Act.put, List.setIfInBounds_toArray, List.set_cons_zero, List.set_cons_succ, i64_w, i32_w]
    rfl
  refine pure_ (i := 11) (N := some 42) (v := ?_) (a' := ?_) #[true, false, true, true, false, true, false, false, false, true, true, true, false, false, false, false] rfl rfl (by kernel_rfl) (fun _ _ _ h => h) (Or.inl ⟨by rfl, ?_⟩) ?_ ?_
  rotate_left
  · intro w'
    go_simp
    with_reducible rfl
  rotate_left
  · simp only [Act.put, List.setIfInBounds_toArray, List.set_cons_zero, List.set_cons_succ, i64_w, i32_w]
    rfl
  refine take_ (i := 1) (N := some 32) (v := ?_) (a' := ?_) #[true, true, true, true, false, true, false, false, false, true, true, true, false, false, false, false] rfl rfl (by kernel_rfl) (fun _ _ _ h => h) (Or.inl ⟨by rfl, ?_⟩) hHeld ?_ ?_
  rotate_left
  · rintro w' ⟨s0, s1⟩
    go_simp
    with_reducible rfl
  rotate_left
  · simp only [Act.put, List.setIfInBounds_toArray, List.set_cons_zero, List.set_cons_succ, i64_w, i32_w]
    rfl
  refine take_ (i := 4) (N := some 35) (v := ?_) (a' := ?_) #[true, true, true, true, true, true, false, false, false, true, true, true, false, false, false, false] rfl rfl (by kernel_rfl) (fun _ _ _ h => h) (Or.inl ⟨by rfl, ?_⟩) hHeld ?_ ?_
  rotate_left
  · rintro w' ⟨s0, s1⟩
    go_simp
    with_reducible rfl
  rotate_left
  · simp only [Act.put, List.setIfInBounds_toArray, List.set_cons_zero, List.set_cons_succ, i64_w, i32_w]
    rfl
  refine pure_ (i := 6) (N := some 37) (v := ?_) (a' := ?_) #[true, true, true, true, true, true, true, false, false, true, true, true, false, false, false, false] rfl rfl (by kernel_rfl) (fun _ _ _ h => h) (Or.inl ⟨by rfl, ?_⟩) ?_ ?_
  rotate_left
  · intro w'
    go_simp
    with_reducible rfl
  rotate_left
  · simp only [Act.put, List.setIfInBounds_toArray, List.set_cons_zero, List.set_cons_succ, i64_w, i32_w]
    rfl
  refine pure_ (i := 7) (N := some 38) (v := ?_) (a' := ?_) #[true, true, true, true, true, true, true, true, false, true, true, true, false, false, false, false] rfl rfl (by kernel_rfl) (fun _ _ _ h => h) (Or.inl ⟨by rfl, ?_⟩) ?_ ?_
  rotate_left
  · intro w'
    go_simp
    with_reducible rfl
  rotate_left
  · simp only [Act.put, List.setIfInBounds_toArray, List.set_cons_zero, List.set_cons_succ, i64_w, i32_w]
    rfl
  refine take_ (i := 8) (N := some 39) (v := ?_) (a' := ?_) #[true, true, true, true, true, true, true, true, true, true, true, true, false, false, false, false] rfl rfl (by kernel_rfl) (fun _ _ _ h => h) (Or.inl ⟨by rfl, ?_⟩) hHeld ?_ ?_
  rotate_left
  · rintro w' ⟨s0, s1⟩
    go_simp
    with_reducible rfl
  rotate_left
  · simp only [Act.put, List.setIfInBounds_toArray, List.set_cons_zero, List.set_cons_succ, i64_w, i32_w]
    rfl
  refine one_ (i := 12) (N := some 43) #[true, true, true, true, true, true, true, true, true, true, true, true, true, false, false, false] rfl rfl (by kernel_rfl) (by decide) (fun K hK => ?_)
  refine goes_ Tryd.func24 (by kernel_rfl) rfl #[.slice (some ⟨gN, 0, none⟩) N.length cn, .int .i64 (j : Int), .int .i64 ((j : Int) + 1)] (by rfl) rfl rfl (by simp only [List.map_toArray, List.map_cons, List.map_nil]; rfl) ?_
  with_reducible refine (impl_Name_24.calls _ _ N (j : Int) ((j : Int) + 1) _ w4 _ (bs HB5) (rr (Kd.R_bound ON.out)) HD.out).mono ?_
  rintro e w8 ⟨v0, rfl, hr, ho_, hb, hk⟩
  obtain ⟨Af, cf9, e9⟩ := Kd.R_slice hr; obtain ⟨m9, hm9⟩ : ∃ m, m = (N.take j ++ N.drop (j + 1)).length := ⟨_, rfl⟩; rw [← hm9] at e9; clear hm9; subst e9; refine ⟨_, rfl, ?_⟩
  have R9 := Ah hr; have HB8 := Ah hb; have HK8 := Ah (show Kept w6 w8 _ from hk); have hx7 := hx1; clear hx1 hr ho_ hb hk; have hx1 := cell_kept hx7 HK8.out (fun hp => (HI.out gq hp.1).2 rfl); have hf1 : w8.frozen? ⟨gq, n.toNat * 2 + 1, none⟩ = false := fz_kept hf2 (World.block_lt_of_cell? w6 _ hx7) HK8.out (fun hp => (HI.out gq hp.1).2 rfl); have BX6 := BX; clear BX; have BX := Ah ((HK8.out.2 go (blk_lt BX6.out) (fun hp => tyno hp.2.2.2 BX6.out (by decide))).trans BX6.out)
  refine hK.out _ _ ⟨(blk_cell (bk BX) 2).trans rfl, pw_cell_below st_below hx1⟩ (fun hHeld => ?_)
  clear hK K
  refine norm_ (a' := ?_) ?_ ?_
  rotate_left
  · show Act.put _ (some 43) _ = _
    simp only [Act.put, List.setIfInBounds_toArray, List.set_cons_zero, List.set_cons_succ, i64_w, i32_w]
    rfl
  refine pure_ (i := 13) (N := some 44) (v := ?_) (a' := ?_) #[true, true, true, true, true, true, true, true, true, true, true, true, true, true, false, false] rfl rfl (by kernel_rfl) (fun _ _ _ h => h) (Or.inl ⟨by rfl, ?_⟩) ?_ ?_
  rotate_left
  · intro w'
    go_simp
    with_reducible rfl
  rotate_left
  · simp only [Act.put, List.setIfInBounds_toArray, List.set_cons_zero, List.set_cons_succ, i64_w, i32_w]
    rfl
  refine pure_ (i := 14) (N := some 45) (v := ?_) (a' := ?_) #[true, true, true, true, true, true, true, true, true, true, true, true, true, true, true, false] rfl rfl (by kernel_rfl) (fun _ _ _ h => h) (Or.inl ⟨by rfl, ?_⟩) ?_ ?_
  rotate_left
  · intro w'
    go_simp
    with_reducible rfl
  rotate_left
  · simp only [Act.put, List.setIfInBounds_toArray, List.set_cons_zero, List.set_cons_succ, i64_w, i32_w]
    rfl
  refine last_ (i := 15) (N := none) #[true, true, true, true, true, true, true, true, true, true, true, true, true, true, true, true] rfl rfl (by kernel_rfl) (by decide) (fun K hK => ?_)
  refine skip_ (w1 := ?_) (by rfl) rfl ?_ ?_
  rotate_left
  · go_simp
    rfl
  refine hK.out _ _ ?_
  clear hK K
  refine done_ (by kernel_rfl) ?_

  have lq := Kd.S_base O2.out gq (by simp [Value.ownBlock])
  have hww := K5.out.size
  have HS := Kd.S_seg (okg := fun _ => False) (ok := fun _ => True) (Kd.H_mono (Kd.H_step HH.out (fun k _ hn hl => HK8.out.2 k hl (fun hp => hn hp.1))) (fun k hk => ⟨trivial, fun h => h⟩)) H0.out H1.out (seg := [.slice Af m9 cf9]) (j := 1) (show 2 ≤ 2 from by decide) (x' := (⟨(rd_T46 o2 n).f0, N.take j ++ N.drop (j + 1)⟩ : S46)) (k46_mkM w8 w4.heap.size oki _ (Kd.R_mono R9.out (fun k hk => hk.1))) (fun k hk => .inl hk) (fun k hk => hk.elim)
  have GQ9 := Ah ((HK8.out.2 gq (blk_lt GQ.out) (fun hp => (HI.out gq hp.1).2 rfl)).trans GQ.out)
  have BR9 := Ah ((HK8.out.2 gr (blk_lt BR.out) (fun hp => tyno hp.2.2.2 BR.out (by decide))).trans BR.out)
  have O19 := Ah (Kd.R_mono (ok' := fun _ => True) (Kd.R_step (Kd.R_bound O1.out) (fun k ho hl => HK8.out.2 k hl (fun hp => tyno2 hp.2.2.2 ho.2.2.2 (by decide)))) (fun _ _ => trivial))
  have B9 := Ah (below_step K5.out HB8.out)
  have n2 : Aside0 (Kd.S k46 46 (w8.setCell ⟨gq, n.toNat * 2 + 1, none⟩ (.slice Af m9 cf9)) w4.heap.size (fun _ => True) (.slice (some ⟨gq, 0, none⟩) o2.length d2) (dropE o2 n (j : Int))) := ⟨by unfold dropE; rw [ej, ← HNe.out]; exact HS.1⟩
  have n0 : Aside0 ((w8.setCell ⟨gq, n.toNat * 2 + 1, none⟩ (.slice Af m9 cf9)).heap[go]? = _) := ⟨bf BX ⟨blk_ne BX.out GQ9.out (by decide)⟩⟩
  have n1 : Aside0 ((w8.setCell ⟨gq, n.toNat * 2 + 1, none⟩ (.slice Af m9 cf9)).heap[gr]? = _) := ⟨bf BR9 ⟨blk_ne BR9.out GQ9.out (by decide)⟩⟩
  have n3 : Aside0 (Kd.R (Kd.int .i64) 3 (w8.setCell ⟨gq, n.toNat * 2 + 1, none⟩ (.slice Af m9 cf9)) w4.heap.size (fun _ => True) (.slice B1 o1.length d1) o1) := ⟨rfU O19 GQ9⟩
  have n4 : Aside0 (Below w.heap.size w (w8.setCell ⟨gq, n.toNat * 2 + 1, none⟩ (.slice Af m9 cf9))) := ⟨below_set B9.out (by omega)⟩
  clear BX BR O1 O2 HB HS hx1 hf1
  generalize (w8.setCell ⟨gq, n.toNat * 2 + 1, none⟩ (.slice Af m9 cf9)) = W10 at n0 n1 n2 n3 n4 ⊢
  obtain ⟨zc0, zc1, zc2, zf0, zf1, zf2⟩ := czD n0
  obtain ⟨yc0, yc1, yc2, yf0, yf1, yf2⟩ := czD n1
  go_wp2
  refine bodyPost_ret (results_ct rfl _ _ gr 29 #[.int .i64 o0, .slice B1 o1.length d1, .slice (some ⟨gq, 0, none⟩) o2.length d2] (0, 0) _ rfl (by (with_reducible repeat (first | refine blk_drewN ?_ _ | refine blk_drew ?_ | refine blk_alloc ?_ _)); refine blk_put (cs := #[.int .i64 o0, .slice B1 o1.length d1, .slice none 0 0]) ?_ 2 _ rfl; (with_reducible repeat (first | refine blk_drewN ?_ _ | refine blk_drew ?_ | refine blk_alloc ?_ _)); refine blk_put (cs := #[.int .i64 o0, .slice none 0 0, .slice none 0 0]) ?_ 1 _ rfl; (with_reducible repeat (first | refine blk_drewN ?_ _ | refine blk_drew ?_ | refine blk_alloc ?_ _)); refine blk_put (cs := #[.int .i64 0, .slice none 0 0, .slice none 0 0]) ?_ 0 _ rfl; (with_reducible repeat (first | refine blk_drewN ?_ _ | refine blk_drew ?_ | refine blk_alloc ?_ _)); exact n1.out) hu rfl (by kernel_rfl)) rfl ?_
  exact ⟨_, _, er, Kd.R_lower (rfU n3 n1) hww, Kd.S_lower (sfU n2 n1) hww, bs1 n4 GR⟩
inductive ImplDrop (a0 : Int) (l1 : List Int) (l2 : List S46) (sm : ByteArray) : Int → List Int → List S46 → Bool → Prop
  | bad {k : Nat} : impl_GoodDir.f k a0 l1 l2 = some false → ImplDrop a0 l1 l2 sm 0 [] [] false
  | noname {k : Nat} : impl_GoodDir.f k a0 l1 l2 = some true → impl_isName.f sm = some false → ImplDrop a0 l1 l2 sm 0 [] [] false
  | nothas {k ko kb : Nat} {o0 : Int} {o1 : List Int} {o2 : List S46} {n q : Int} : impl_GoodDir.f k a0 l1 l2 = some true → impl_isName.f sm = some true → impl_ownDir.f ko a0 l1 l2 = some (o0, o1, o2) → impl_Dir_find.f kb o0 o1 o2 sm = some (n, q, false) → 0 ≤ n → n < (o2.length : Int) → ImplDrop a0 l1 l2 sm 0 [] [] false
  | yes {k ko kb : Nat} {o0 : Int} {o1 : List Int} {o2 : List S46} {n q : Int} : impl_GoodDir.f k a0 l1 l2 = some true → impl_isName.f sm = some true → impl_ownDir.f ko a0 l1 l2 = some (o0, o1, o2) → impl_Dir_find.f kb o0 o1 o2 sm = some (n, q, true) → 0 ≤ n → n < (o2.length : Int) → 0 ≤ q → q < ((rd_T46 o2 n).f1.length : Int) → (rd_T46 o2 n).f1.length ≤ 1048576 → ImplDrop a0 l1 l2 sm o0 o1 (dropE o2 n q) true
theorem impl_DropName.calls (a0 : Int) (A1 : Option Addr) (c1 : Nat) (l1 : List Int) (A2 : Option Addr) (c2 : Nat) (l2 : List S46) (sm : ByteArray) (r0 : Int) (r1 : List Int) (r2 : List S46) (b : Bool) (w : World) (hr1 : Kd.C (Kd.int .i64) w A1 l1.length l1) (hc1 : l1.length ≤ c1) (hr2 : Kd.C k46 w A2 l2.length l2) (hc2 : l2.length ≤ c2) (h : ImplDrop a0 l1 l2 sm r0 r1 r2 b) :
    Calls Tryd.prog 7 #[.agg #[.int .i64 a0, .slice A1 l1.length c1, .slice A2 l2.length c2], .string sm] w fun e w' => ∃ v1 v2 : Value, e = .returned (.tuple #[.agg #[.int .i64 r0, v1, v2], .bool b]) ∧ Kd.R (Kd.int .i64) 3 w' w.heap.size (fun _ => True) v1 r1 ∧ Kd.S k46 46 w' w.heap.size (fun _ => True) v2 r2 ∧ Below w.heap.size w w' := by
  cases h with
  | bad e1 => exact (impl_DropName.bad _ a0 A1 c1 l1 A2 c2 l2 sm w hr1 hc1 hr2 hc2 e1).mono fun e w' hp => ⟨_, _, hp.1, Kd.R_nil _ _ _ _ _, Kd.S_nil _ _ _ _ _, hp.2⟩
  | noname e1 e2 => exact (impl_DropName.noname _ a0 A1 c1 l1 A2 c2 l2 sm w hr1 hc1 hr2 hc2 e1 e2).mono fun e w' hp => ⟨_, _, hp.1, Kd.R_nil _ _ _ _ _, Kd.S_nil _ _ _ _ _, hp.2⟩
  | nothas e1 e2 e3 e4 e5 e6 => exact (impl_DropName.nothas _ _ _ _ _ _ _ _ a0 A1 c1 l1 A2 c2 l2 sm w hr1 hc1 hr2 hc2 e1 e2 e3 e4 e5 e6).mono fun e w' hp => ⟨_, _, hp.1, Kd.R_nil _ _ _ _ _, Kd.S_nil _ _ _ _ _, hp.2⟩
  | yes e1 e2 e3 e4 e5 e6 e8 e9 ea => exact impl_DropName.yes _ _ _ _ _ _ _ _ a0 A1 c1 l1 A2 c2 l2 sm w hr1 hc1 hr2 hc2 e1 e2 e3 e4 e5 e6 e8 e9 ea
end Go.Proofs.YtfbjeppfnlfejaaDoor.G
