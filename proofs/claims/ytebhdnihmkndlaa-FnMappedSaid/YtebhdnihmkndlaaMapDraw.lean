/- What a cursor draws: next, pick, pieces and maps, as plain facts. No statement. -/
import Derived.Test.YtebhdnihmkndlaaMapPutF
import Derived.Test.YtebhdnihmkndlaaMapPunchF
import Derived.Test.YtebhdnihmkndlaaMapWrS
import Derived.Laws.BitsAllLaws
import Derived.Test.YtebhdnihmkndlaaG5
import Derived.Test.YtebhdnihmkndlaaG4
namespace Go.Proofs.Ytebhdnihmkndlaa.Q
open Go.RowKit Go.Proofs.YtebhdnihmkndlaaW.PrintWords Go.Proofs.Ytebhdnihmkndlaa.G
set_option linter.unusedVariables false
set_option linter.unusedSimpArgs false
/-- Each byte is one. -/
def ByteList (l : List Int) : Prop := ∀ y ∈ l, 0 ≤ y ∧ y ≤ 255
theorem bytes_of {l : List Int} (h : ∀ y0 ∈ l, (Lit.int .u8 y0).wf = true) : ByteList l := fun y hy => by
  have h1 : IntKind.u8.min = 0 := by rfl
  have h2 : IntKind.u8.max = 255 := by rfl
  have := h y hy
  simp [Lit.wf] at this
  omega
theorem low_byte (x : Int) (h0 : 0 ≤ x) (h1 : x < 18446744073709551616) : 0 ≤ wrap64 (Go.bits .and .u64 x 255) ∧ wrap64 (Go.bits .and .u64 x 255) ≤ 255 := by
  rw [u64_and x 255 h0 h1 (by decide) (by decide)];have e : x.toNat &&& (255 : Int).toNat ≤ 255 := Nat.and_le_right;rw [w64 (by omega) (by omega)]
  omega
theorem wrapu (x : Int) : 0 ≤ IntKind.u64.wrap x / 1099511627776 ∧ IntKind.u64.wrap x / 1099511627776 < 18446744073709551616 := by
  rw [IntKind.wrap_u64]
  omega
theorem next_ok (l : List Int) (hl : ByteList l) (p q : Int) (h0 : 0 ≤ p) (h1 : p < 4611686018427387904) :
    ∃ v q', spec_l1Cur_next.f l p q = some (v, p + 1, q') ∧ 0 ≤ v ∧ v ≤ 255 := by
  have hw : wrap64 (p + 1) = p + 1 := w64 (by omega) (by omega);unfold spec_l1Cur_next.f;rw [hw]
  by_cases c1 : p < (l.length : Int)
  · have hb : 0 ≤ rd l p ∧ rd l p ≤ 255 := hl _ (getD_mem l p.toNat 0 (by omega))
    rw [if_pos c1, if_pos h0, if_pos (show p + 1 ≤ (l.length : Int) by omega)];exact ⟨_, _, rfl, by rw [w64 (by omega) (by omega)]; omega, by rw [w64 (by omega) (by omega)]; omega⟩
  · rw [if_neg c1, if_neg (show ¬ p + 1 ≤ (l.length : Int) by omega)]
    have e := wrapu ((IntKind.u64.wrap ((IntKind.u64.wrap (q * 6364136223846793005)))) + 1442695040888963407);have e2 := low_byte _ e.1 e.2;exact ⟨_, _, rfl, e2.1, e2.2⟩
theorem pick_ok (l : List Int) (hl : ByteList l) (p q a : Int) (h0 : 0 ≤ p) (h1 : p < 4000000000000000000) (ha : a ≤ 1000000) :
    ∃ v p' q', spec_l1Cur_pick.f l p q a = some (v, p', q') ∧ p ≤ p' ∧ p' ≤ p + 2 ∧ 0 ≤ v ∧ (1 < a → v < a) ∧ (a ≤ 1 → v = 0) := by
  unfold spec_l1Cur_pick.f
  by_cases c1 : a ≤ 1
  · rw [if_pos c1]
    exact ⟨0, p, q, rfl, by omega, by omega, by omega, fun h => absurd c1 (by omega), fun _ => rfl⟩
  rw [if_neg c1];obtain ⟨v, q1, e1, v0, v1⟩ := next_ok l hl p q h0 (by omega);rw [e1]
  by_cases c2 : a > 200
  · obtain ⟨v', q2, e2, v2, v3⟩ := next_ok l hl (p + 1) q1 (by omega) (by omega)
    have w1 : wrap64 (v * 256) = v * 256 := w64 (by omega) (by omega);have w2 : wrap64 (v * 256 + v') = v * 256 + v' := w64 (by omega) (by omega);refine ⟨Int.tmod (v * 256 + v') a, p + 1 + 1, q2, ?_, by omega, by omega, Int.tmod_nonneg _ (by omega), fun _ => Int.tmod_lt_of_pos _ (by omega), fun h => absurd h c1⟩;rw [Option.bind_some];dsimp only;rw [if_pos c2, e2, Option.bind_some, if_neg (show ¬ a = 0 by omega)];dsimp only;rw [w1, w2]
  · refine ⟨Int.tmod v a, p + 1, q1, ?_, by omega, by omega, Int.tmod_nonneg _ (by omega), fun _ => Int.tmod_lt_of_pos _ (by omega), fun h => absurd h c1⟩
    rw [Option.bind_some, if_neg c2, if_neg (show ¬ a = 0 by omega)]
theorem one_ok (l : List Int) (hl : ByteList l) (p q a : Int) (h0 : 0 ≤ p) (h1 : p < 4000000000000000000) (ha : a ≤ 1000000) :
    ∃ v p' q', spec_l1Cur_one.f l p q a = some (v, p', q') ∧ p ≤ p' ∧ p' ≤ p + 2 := by
  obtain ⟨v, p', q', e, h2, h3, _⟩ := pick_ok l hl p q a h0 h1 ha;exact ⟨_, p', q', by unfold spec_l1Cur_one.f; rw [e]; rfl, h2, h3⟩
theorem piece_ok (l : List Int) (hl : ByteList l) (p q : Int) (h0 : 0 ≤ p) (h1 : p < 3000000000000000000) :
    ∃ a b c d p' q', spec_l1Cur_piece.f l p q = some (a, b, c, d, p', q') ∧ p ≤ p' ∧ p' ≤ p + 12 := by
  obtain ⟨v1, p1, q1, e1, a1, b1, _⟩ := pick_ok l hl p q 30 h0 (by omega) (by omega);obtain ⟨v2, p2, q2, e2, a2, b2, _⟩ := pick_ok l hl p1 q1 6 (by omega) (by omega) (by omega);obtain ⟨v3, p3, q3, e3, a3, b3, _⟩ := pick_ok l hl p2 q2 60 (by omega) (by omega) (by omega);obtain ⟨v4, p4, q4, e4, a4, b4⟩ := one_ok l hl p3 q3 2 (by omega) (by omega) (by omega);obtain ⟨v5, p5, q5, e5, a5, b5⟩ := one_ok l hl p4 q4 30 (by omega) (by omega) (by omega);obtain ⟨v6, p6, q6, e6, a6, b6, c6, d6, _⟩ := pick_ok l hl p5 q5 3 (by omega) (by omega) (by omega);unfold spec_l1Cur_piece.f
  cases v5 with
  | false =>
    exact ⟨_, _, _, _, p5, q5, by rw [e1, Option.bind_some, e2, Option.bind_some, e3, Option.bind_some, e4, Option.bind_some, e5, Option.bind_some]; exact if_neg Bool.false_ne_true, by omega, by omega⟩
  | true =>
    have d6' := d6 (by omega)
    have ea : spec_l1Cur_among.f l p5 q5 [-1, 198, 200] = some (rd [-1, 198, 200] v6, p6, q6) := by
      unfold spec_l1Cur_among.f
      show (spec_l1Cur_pick.f l p5 q5 3).bind _ = _
      rw [e6, Option.bind_some];exact (if_pos c6).trans (if_pos d6')
    refine ⟨rd [-1, 198, 200] v6, wrap64 (1 + v2), v3, v4, p6, q6, ?_, by omega, by omega⟩;rw [e1, Option.bind_some, e2, Option.bind_some, e3, Option.bind_some, e4, Option.bind_some, e5, Option.bind_some];refine (if_pos rfl).trans ?_;rw [ea, Option.bind_some]
abbrev FM := List Pc × Int × Int
theorem fm_last (l : List Int) (hl : ByteList l) (b : Bool) (p q : Int) (m : List Pc) (hm : m.length ≤ 40) (hb : b = true → 0 < m.length) (h0 : 0 ≤ p) (h1 : p ≤ 1000010) :
    ∃ r : FM, Ev (fun k => spec_l1Cur_fileMap.j2 k b l p q m) r ∧ r.1.length ≤ 40 ∧ 0 ≤ r.2.1 ∧ r.2.1 ≤ 1000100 := by
  cases b with
  | false =>
    refine ⟨(m, p, q), ?_, hm, h0, by show p ≤ _; omega⟩;refine Ev.step (fun k => by rw [spec_l1Cur_fileMap.j2]) ?_;exact Ev.neg Bool.false_ne_true (Ev.now _)
  | true =>
    have hp := hb rfl;obtain ⟨v1, p1, q1, e1, a1, b1, c1, d1, z1⟩ := pick_ok l hl p q (m.length : Int) h0 (by omega) (by omega);obtain ⟨v2, p2, q2, e2, a2, b2, _⟩ := pick_ok l hl p1 q1 3 (by omega) (by omega) (by omega)
    have hv : v1 < (m.length : Int) := by
      by_cases e : 1 < (m.length : Int)
      · exact d1 e
      · rw [z1 (by omega)]; omega
    obtain ⟨v3, p3, q3, e3, a3, b3, _⟩ := pick_ok l hl p2 q2 5 (by omega) (by omega) (by omega);obtain ⟨v4, p4, q4, e4, a4, b4, _⟩ := pick_ok l hl p2 q2 9 (by omega) (by omega) (by omega)
    by_cases c2 : v2 = 0
    · refine ⟨(m.set v1.toNat ⟨(rd_T27 m v1).f0, wrap64 ((rd_T27 m v1).f1 + wrap64 (v3 - 2)), (rd_T27 m v1).f2, (rd_T27 m v1).f3⟩, p3, q3), ?_, ?_, ?_, ?_⟩
      · refine Ev.step (fun k => by rw [spec_l1Cur_fileMap.j2]) ?_
        exact Ev.pos rfl (Ev.bindc _ e1 (Ev.bindc _ e2 (Ev.pos c2 (Ev.pos c1 (Ev.pos hv (Ev.bindc _ e3 (Ev.now _)))))))
      · show (m.set _ _).length ≤ 40
        rw [List.length_set]; exact hm
      · show 0 ≤ p3; omega
      · show p3 ≤ _; omega
    · by_cases c3 : v2 = 1
      · refine ⟨(m.set v1.toNat ⟨(rd_T27 m v1).f0, (rd_T27 m v1).f1, v4, (rd_T27 m v1).f3⟩, p4, q4), ?_, ?_, ?_, ?_⟩
        · refine Ev.step (fun k => by rw [spec_l1Cur_fileMap.j2]) ?_
          exact Ev.pos rfl (Ev.bindc _ e1 (Ev.bindc _ e2 (Ev.neg c2 (Ev.pos c3 (Ev.bindc _ e4 (Ev.pos c1 (Ev.pos hv (Ev.now _))))))))
        · show (m.set _ _).length ≤ 40
          rw [List.length_set]; exact hm
        · show 0 ≤ p4; omega
        · show p4 ≤ _; omega
      · refine ⟨(m.set v1.toNat ⟨wrap64 (v4 - 1), (rd_T27 m v1).f1, (rd_T27 m v1).f2, (rd_T27 m v1).f3⟩, p4, q4), ?_, ?_, ?_, ?_⟩
        · refine Ev.step (fun k => by rw [spec_l1Cur_fileMap.j2]) ?_
          exact Ev.pos rfl (Ev.bindc _ e1 (Ev.bindc _ e2 (Ev.neg c2 (Ev.neg c3 (Ev.bindc _ e4 (Ev.pos c1 (Ev.pos hv (Ev.now _))))))))
        · show (m.set _ _).length ≤ 40
          rw [List.length_set]; exact hm
        · show 0 ≤ p4; omega
        · show p4 ≤ _; omega
theorem fm_loop (l : List Int) (hl : ByteList l) : ∀ (d : Nat) (x4 p q : Int) (m : List Pc), Good m → 0 ≤ p → p + 40 * (d : Int) ≤ 1000000 →
    ∃ r : FM, Ev (fun k => spec_l1Cur_fileMap.l0 k x4 (d : Int) l p q m) r ∧ r.1.length ≤ 40 ∧ 0 ≤ r.2.1 ∧ r.2.1 ≤ 1000100
  | 0, x4, p, q, m, hm, h0, h1 => by
    by_cases c : (m.length : Int) > 0
    · obtain ⟨v, p1, q1, e1, a1, b1⟩ := one_ok l hl p q 20 h0 (by omega) (by omega)
      obtain ⟨r, er, hr⟩ := fm_last l hl v p1 q1 m hm.1 (fun _ => by omega) (by omega) (by omega);refine ⟨r, ?_, hr⟩;refine Ev.step (fun k => by rw [spec_l1Cur_fileMap.l0]) ?_;exact Ev.neg (by omega) (Ev.pos c (Ev.bindc _ e1 er))
    · obtain ⟨r, er, hr⟩ := fm_last l hl false p q m hm.1 (fun h => by cases h) h0 (by omega)
      refine ⟨r, ?_, hr⟩;refine Ev.step (fun k => by rw [spec_l1Cur_fileMap.l0]) ?_;exact Ev.neg (by omega) (Ev.neg c er)
  | d + 1, x4, p, q, m, hm, h0, h1 => by
    have hw : wrap64 (((d + 1 : Nat) : Int) - 1) = (d : Int) := by rw [w64 (by omega) (by omega)]; omega
    obtain ⟨pa, pb, pc, pd, p1, q1, e1, a1, b1⟩ := piece_ok l hl p q h0 (by omega);obtain ⟨v2, p2, q2, e2, a2, b2, _⟩ := pick_ok l hl p1 q1 6 (by omega) (by omega) (by omega);obtain ⟨v3, p3, q3, e3, a3, b3, _⟩ := pick_ok l hl p2 q2 30 (by omega) (by omega) (by omega)
    have hml : m.length ≤ 1048576 := by have := hm.1; omega
    have pos : ((d + 1 : Nat) : Int) > 0 := by omega
    by_cases c0 : v2 = 0
    · obtain ⟨v4, p4, q4, e4, a4, b4, _⟩ := pick_ok l hl p3 q3 5 (by omega) (by omega) (by omega)
      obtain ⟨s, hs, hg⟩ := punch_ok m hm v3 v4
      by_cases c : s.2.2 = true
      · obtain ⟨r, er, hr⟩ := fm_loop l hl d x4 p4 q4 s.1 (hg c) (by omega) (by omega)
        refine ⟨r, ?_, hr⟩;refine Ev.step (fun k => by rw [spec_l1Cur_fileMap.l0]) ?_;refine Ev.pos pos (Ev.bindc _ e1 (Ev.bindc _ e2 (Ev.pos c0 (Ev.bindc _ e3 (Ev.bindc _ e4 (Ev.bind' _ hs (Ev.pos c ?_)))))));rw [hw]; exact er
      · obtain ⟨r, er, hr⟩ := fm_loop l hl d x4 p4 q4 m hm (by omega) (by omega)
        refine ⟨r, ?_, hr⟩;refine Ev.step (fun k => by rw [spec_l1Cur_fileMap.l0]) ?_;refine Ev.pos pos (Ev.bindc _ e1 (Ev.bindc _ e2 (Ev.pos c0 (Ev.bindc _ e3 (Ev.bindc _ e4 (Ev.bind' _ hs (Ev.neg c ?_)))))));rw [hw]; exact er
    by_cases c1 : v2 = 1
    · obtain ⟨v4, p4, q4, e4, a4, b4, _⟩ := pick_ok l hl p3 q3 3 (by omega) (by omega) (by omega)
      obtain ⟨s, hs, hg⟩ := written_ok m hm v3 (wrap64 (1 + v4))
      by_cases c : s.2 = true
      · obtain ⟨r, er, hr⟩ := fm_loop l hl d x4 p4 q4 s.1 (hg c) (by omega) (by omega)
        refine ⟨r, ?_, hr⟩;refine Ev.step (fun k => by rw [spec_l1Cur_fileMap.l0]) ?_;refine Ev.pos pos (Ev.bindc _ e1 (Ev.bindc _ e2 (Ev.neg c0 (Ev.pos c1 (Ev.bindc _ e3 (Ev.bindc _ e4 (Ev.bind' _ hs (Ev.pos c ?_))))))));rw [hw]; exact er
      · obtain ⟨r, er, hr⟩ := fm_loop l hl d x4 p4 q4 m hm (by omega) (by omega)
        refine ⟨r, ?_, hr⟩;refine Ev.step (fun k => by rw [spec_l1Cur_fileMap.l0]) ?_;refine Ev.pos pos (Ev.bindc _ e1 (Ev.bindc _ e2 (Ev.neg c0 (Ev.pos c1 (Ev.bindc _ e3 (Ev.bindc _ e4 (Ev.bind' _ hs (Ev.neg c ?_))))))));rw [hw]; exact er
    have j1 : ∀ b : Bool, ∃ r : FM, Ev (fun k => spec_l1Cur_fileMap.j1 k x4 ((d + 1 : Nat) : Int) b l p2 q2 m pa pb pc pd) r ∧ r.1.length ≤ 40 ∧ 0 ≤ r.2.1 ∧ r.2.1 ≤ 1000100 := fun b => by
      cases b with
      | true =>
        obtain ⟨s, hs, _, hg⟩ := mapPiece_evs m hml ⟨x4, pb, wrap64 (x4 + 100), pd⟩
        by_cases c : s.2 = true
        · obtain ⟨r, er, hr⟩ := fm_loop l hl d (wrap64 (x4 + pb)) p2 q2 s.1 (hg.1 c).2.2.2.1 (by omega) (by omega)
          refine ⟨r, ?_, hr⟩;refine Ev.step (fun k => by rw [spec_l1Cur_fileMap.j1]) ?_;refine Ev.pos rfl (Ev.bind' _ hs (Ev.pos c ?_));rw [hw]; exact er
        · obtain ⟨r, er, hr⟩ := fm_loop l hl d (wrap64 (x4 + pb)) p2 q2 m hm (by omega) (by omega)
          refine ⟨r, ?_, hr⟩;refine Ev.step (fun k => by rw [spec_l1Cur_fileMap.j1]) ?_;refine Ev.pos rfl (Ev.bind' _ hs (Ev.neg c ?_));rw [hw]; exact er
      | false =>
        obtain ⟨s, hs, _, hg⟩ := mapPiece_evs m hml ⟨pa, pb, pc, pd⟩
        by_cases c : s.2 = true
        · obtain ⟨r, er, hr⟩ := fm_loop l hl d x4 p2 q2 s.1 (hg.1 c).2.2.2.1 (by omega) (by omega)
          refine ⟨r, ?_, hr⟩;refine Ev.step (fun k => by rw [spec_l1Cur_fileMap.j1]) ?_;refine Ev.neg Bool.false_ne_true (Ev.bind' _ hs (Ev.pos c ?_));rw [hw]; exact er
        · obtain ⟨r, er, hr⟩ := fm_loop l hl d x4 p2 q2 m hm (by omega) (by omega)
          refine ⟨r, ?_, hr⟩;refine Ev.step (fun k => by rw [spec_l1Cur_fileMap.j1]) ?_;refine Ev.neg Bool.false_ne_true (Ev.bind' _ hs (Ev.neg c ?_));rw [hw]; exact er
    by_cases c2 : v2 = 2
    · obtain ⟨r, er, hr⟩ := j1 (v2 == 2)
      refine ⟨r, ?_, hr⟩;refine Ev.step (fun k => by rw [spec_l1Cur_fileMap.l0]) ?_;exact Ev.pos pos (Ev.bindc _ e1 (Ev.bindc _ e2 (Ev.neg c0 (Ev.neg c1 (Ev.pos c2 er)))))
    · obtain ⟨r, er, hr⟩ := j1 (v2 == 3)
      refine ⟨r, ?_, hr⟩;refine Ev.step (fun k => by rw [spec_l1Cur_fileMap.l0]) ?_;exact Ev.pos pos (Ev.bindc _ e1 (Ev.bindc _ e2 (Ev.neg c0 (Ev.neg c1 (Ev.neg c2 er)))))
theorem good_nil : Good [] := ⟨Nat.zero_le _, fun i hi => absurd hi (Nat.not_lt_zero _)⟩
theorem fileMap_ok (l : List Int) (hl : ByteList l) : ∃ r : FM, Ev (fun k => spec_l1Cur_fileMap.f k l 0 0) r ∧ r.1.length ≤ 40 ∧ 0 ≤ r.2.1 ∧ r.2.1 ≤ 1000100 := by
  obtain ⟨v1, p1, q1, e1, a1, b1, c1, d1, _⟩ := pick_ok l hl 0 0 12 (by omega) (by omega) (by omega);have hv := d1 (by omega);obtain ⟨r, er, hr⟩ := fm_loop l hl v1.toNat 0 p1 q1 [] good_nil (by omega) (by omega);refine ⟨r, ?_, hr⟩;unfold spec_l1Cur_fileMap.f;refine Ev.bindc _ e1 ?_;rw [show ((v1.toNat : Nat) : Int) = v1 by omega] at er;exact er
end Go.Proofs.Ytebhdnihmkndlaa.Q
