import Derived.Test.YtebhdnihmkndlaaMapPutF
import Derived.Test.YtebhdnihmkndlaaMapStretch
import Derived.Test.YtebhdnihmkndlaaG4
namespace Go.Proofs.Ytebhdnihmkndlaa.Q
open Go.RowKit Go.Proofs.YtebhdnihmkndlaaW.PrintWords Go.Proofs.Ytebhdnihmkndlaa.G
set_option linter.unusedVariables false
set_option linter.unusedSimpArgs false

/-- The lengths of pieces, added up. -/
def sumL (l : List Pc) : Int := (l.map (fun p : Pc => p.f1)).foldl (· + ·) 0
theorem sumL_succ (l : List Pc) (i : Nat) (h : i < l.length) : sumL (l.take (i + 1)) = sumL (l.take i) + (l.getD i pz).f1 := by
  unfold sumL;rw [take_succ_getD l i pz h, List.map_append, List.foldl_append]
  rfl
/-- Pieces in order within a stretch: their lengths make it up just where all of it is mapped. -/
theorem sum_full (q : List Pc) (h : Ord q) (fr : Int) (h0 : 0 ≤ fr) (hi : ∀ p, p ∈ q → fr ≤ p.f0) : ∀ i, i ≤ q.length → ∀ e : Int, (e = if i = 0 then fr else (q.getD (i - 1) pz).f0 + (q.getD (i - 1) pz).f1) → (fr ≤ e ∧ sumL (q.take i) ≤ e - fr ∧ 0 ≤ sumL (q.take i)) ∧ (sumL (q.take i) = e - fr ↔ ∀ n : Nat, fr ≤ (n : Int) → (n : Int) < e → ∃ p, p ∈ q.take i ∧ Holds p n) := by
  intro i
  induction i with
  | zero =>
    intro _ e he;rw [if_pos rfl] at he;subst he
    have hz : sumL (q.take 0) = 0 := by simp [sumL]
    rw [hz];exact ⟨⟨by omega, by omega, by omega⟩, ⟨fun _ n h1 h2 => by omega, fun _ => by omega⟩⟩
  | succ i ih =>
    intro hi' e he
    have hil : i < q.length := by omega
    obtain ⟨⟨a1, a2, a3⟩, a4⟩ := ih (by omega) _ rfl;rw [if_neg (by omega), Nat.add_sub_cancel] at he;have hp := h.1 i hil;unfold InR at hp;have hge := hi _ (getD_mem q i pz hil)
    have hprev : (if i = 0 then fr else (q.getD (i - 1) pz).f0 + (q.getD (i - 1) pz).f1) ≤ (q.getD i pz).f0 := by
      by_cases e0 : i = 0
      · rw [if_pos e0]; exact hge
      · rw [if_neg e0]; exact ord_lt h (i - 1) i (by omega) hil
    have hle : ∀ j, j < i → (q.getD j pz).f0 + (q.getD j pz).f1 ≤ (if i = 0 then fr else (q.getD (i - 1) pz).f0 + (q.getD (i - 1) pz).f1) := fun j hj => by
      rw [if_neg (by omega)]
      by_cases e0 : j = i - 1
      · rw [e0]; omega
      · have h1 := ord_lt h j (i - 1) (by omega) (by omega)
        have h2 := h.1 (i - 1) (by omega);unfold InR at h2
        omega
    generalize (if i = 0 then fr else (q.getD (i - 1) pz).f0 + (q.getD (i - 1) pz).f1) = e' at a1 a2 a4 hprev hle
    rw [sumL_succ q i hil];refine ⟨⟨by omega, by omega, by omega⟩, ?_⟩
    constructor
    · intro hs n hn1 hn2
      have hsum : sumL (q.take i) = e' - fr := by omega
      have hst : e' = (q.getD i pz).f0 := by omega
      by_cases hn : (n : Int) < e'
      · obtain ⟨p, b1, b2⟩ := (a4.1 hsum) n hn1 hn
        exact ⟨p, by rw [take_succ_getD q i pz hil]; exact List.mem_append_left _ b1, b2⟩
      · refine ⟨q.getD i pz, by rw [take_succ_getD q i pz hil]; exact List.mem_append_right _ (List.mem_singleton_self _), ?_⟩
        unfold Holds
        omega
    · intro hall
      have hback : ∀ n : Nat, fr ≤ (n : Int) → (n : Int) < (q.getD i pz).f0 → ∃ p, p ∈ q.take i ∧ Holds p n := fun n hn1 hn2 => by
        obtain ⟨p, b1, b2⟩ := hall n hn1 (by omega);rw [take_succ_getD q i pz hil] at b1
        rcases List.mem_append.1 b1 with b1 | b1
        · exact ⟨p, b1, b2⟩
        · rw [List.mem_singleton.1 b1] at b2
          unfold Holds at b2
          omega
      have hst : e' = (q.getD i pz).f0 := by
        refine Classical.byContradiction fun hne => ?_
        obtain ⟨p, b1, b2⟩ := hback e'.toNat (by omega) (by omega);obtain ⟨j, hj, hjl, rfl⟩ := mem_take_getD pz b1;unfold Holds at b2;have hj2 := hle j hj
        omega
      have := a4.2 (fun n hn1 hn2 => hback n hn1 (by omega))
      omega
theorem sum_all (q : List Pc) (h : Ord q) (fr lg : Int) (h0 : 0 ≤ fr) (h1 : 0 ≤ lg) (hi : ∀ p, p ∈ q → fr ≤ p.f0 ∧ p.f0 + p.f1 ≤ fr + lg) : sumL q = lg ↔ ∀ n : Nat, fr ≤ (n : Int) → (n : Int) < fr + lg → ∃ p, p ∈ q ∧ Holds p n := by
  obtain ⟨⟨a1, a2, a3⟩, a4⟩ := sum_full q h fr h0 (fun p hp => (hi p hp).1) q.length (Nat.le_refl _) _ rfl;rw [List.take_length] at a2 a3 a4
  have he : (if q.length = 0 then fr else (q.getD (q.length - 1) pz).f0 + (q.getD (q.length - 1) pz).f1) ≤ fr + lg := by
    by_cases e : q.length = 0
    · rw [if_pos e]; omega
    · rw [if_neg e]; exact (hi _ (getD_mem q _ pz (by omega))).2
  have hup : ∀ p, p ∈ q → p.f0 + p.f1 ≤ (if q.length = 0 then fr else (q.getD (q.length - 1) pz).f0 + (q.getD (q.length - 1) pz).f1) := fun p hp => by
    obtain ⟨j, hj, rfl⟩ := mem_getD pz hp;rw [if_neg (by omega)]
    by_cases e0 : j = q.length - 1
    · rw [e0]; omega
    · have h1 := ord_lt h j (q.length - 1) (by omega) (by omega)
      have h2 := h.1 (q.length - 1) (by omega);unfold InR at h2
      omega
  generalize (if q.length = 0 then fr else (q.getD (q.length - 1) pz).f0 + (q.getD (q.length - 1) pz).f1) = e at a1 a2 a4 he hup
  constructor
  · intro hs n hn1 hn2
    exact a4.1 (by omega) n hn1 (by omega)
  · intro hall
    have hs := a4.2 (fun n hn1 hn2 => hall n hn1 (by omega))
    by_cases e0 : lg = 0
    · omega
    · obtain ⟨p, hp, hpn⟩ := hall (fr + lg - 1).toNat (by omega) (by omega)
      have := hup p hp;unfold Holds at hpn
      omega
/-- The cells of a map with a stretch written: the first x blocks of it. -/
theorem cellAt_nil' (n : Nat) : (cellAt ([] : List Pc) n).f0 = false := rfl
/-- The reference puts the written parts back, one after another. -/
theorem putAll_ev (o q : List Pc) (ho : Ord o) (hq : Ord q) (hd : ∀ n : Nat, (cellAt q n).f0 = true → cellAt o n = z55) (b : Int) (hb : 0 ≤ b ∧ b ≤ 200) (hS : ∀ i, i ≤ q.length → 0 ≤ sumL (q.take i) ∧ sumL (q.take i) ≤ 200) (r : List Pc × Bool)
    (fin : ∀ m : List Pc, Ord m → (∀ n, cellAt m n = if (cellAt q n).f0 = true then ⟨true, (cellAt q n).f1, false⟩ else cellAt o n) → Ev (fun k => (spec_l9Joined.f k m).bind fun t => (if sumL q = b then ((spec_GoodMap.f k t).bind fun t2 => (if t2 = true then (some (t, true)) else (some (([] : List Pc), false)))) else (some (([] : List Pc), false)))) r) :
    Ev (fun k => spec_WrittenMap.l0 k b o 0 q (q.length : Int) 0) r := by
  have hql := ord_length hq
  have key : ∀ d i, q.length - i = d → i ≤ q.length → ∀ m : List Pc, Ord m → (∀ n, cellAt m n = if (cellAt (q.take i) n).f0 = true then ⟨true, (cellAt (q.take i) n).f1, false⟩ else cellAt o n) → Ev (fun k => spec_WrittenMap.l0 k b m (sumL (q.take i)) q (q.length : Int) (i : Int)) r := by
    intro d
    induction d with
    | zero =>
      intro i hdd hi m hm hcell
      have : i = q.length := by omega
      subst this;rw [List.take_length] at hcell ⊢;refine Ev.step (fun k => by rw [spec_WrittenMap.l0]) ?_;exact Ev.neg (by omega) (fin m hm hcell)
    | succ d ih =>
      intro i hdd hi m hm hcell
      have hil : i < q.length := by omega
      have hp := hq.1 i hil;have hp' := hp;unfold InR at hp';have s1 := hS i hi;have s2 := hS (i + 1) (by omega);rw [sumL_succ q i hil] at s2;have hmlen := ord_length hm
      have hpre : ∀ n : Nat, Holds (q.getD i pz) n → (cellAt (q.take i) n).f0 = false := fun n hn => by
        cases e : (cellAt (q.take i) n).f0 with
        | false => rfl
        | true =>
          obtain ⟨p, hpm, hpn⟩ := (cells_f0 (ord_take hq i) n).1 e;obtain ⟨j, hj, hjl, rfl⟩ := mem_take_getD pz hpm;have := ord_lt hq j i hj hil;unfold Holds at hn hpn
          omega
      have hap : ∀ u ∈ m, u.f0 + u.f1 ≤ (q.getD i pz).f0 ∨ (q.getD i pz).f0 + (q.getD i pz).f1 ≤ u.f0 := fun u hu => by
        refine Classical.byContradiction fun hne => ?_
        have hui := ord_inr hm hu;unfold InR at hui
        obtain ⟨n, h1, h2⟩ : ∃ n : Nat, Holds u n ∧ Holds (q.getD i pz) n := by
          by_cases e : u.f0 ≤ (q.getD i pz).f0
          · exact ⟨(q.getD i pz).f0.toNat, by unfold Holds; omega, by unfold Holds; omega⟩
          · exact ⟨u.f0.toNat, by unfold Holds; omega, by unfold Holds; omega⟩
        have c1 := cellAt_mem hm hu h1;have c2 : (cellAt q n).f0 = true := (cells_f0 hq n).2 ⟨_, getD_mem q i pz hil, h2⟩;rw [hcell n, hpre n h2, if_neg (by simp), hd n c2] at c1;have := congrArg S55.f0 c1
        simp [z55] at this
      obtain ⟨k0, hk1, hk2, hk3, hput⟩ := put_ev m ⟨(q.getD i pz).f0, (q.getD i pz).f1, (q.getD i pz).f2, false⟩ (by omega);have hpr : InR ⟨(q.getD i pz).f0, (q.getD i pz).f1, (q.getD i pz).f2, false⟩ := hp;have hpo := put_ord hm hpr hk1 hk2 hk3 hap
      have next := ih (i + 1) (by omega) (by omega) _ hpo (fun n => by
        rw [put_cell hm hpo n]
        have hts : cellAt (q.take (i + 1)) n = if Holds (q.getD i pz) n then ⟨true, (q.getD i pz).f2 + ((n : Int) - (q.getD i pz).f0), (q.getD i pz).f3⟩ else cellAt (q.take i) n := by
          have hmem : q.getD i pz ∈ q.take (i + 1) := by rw [take_succ_getD q i pz hil]; simp
          by_cases hh : Holds (q.getD i pz) n
          · rw [if_pos hh]; exact cellAt_mem (ord_take hq _) hmem hh
          · rw [if_neg hh]
            rcases cellAt_cases (ord_take hq i) n with ⟨u, hu, hun, e⟩ | ⟨hno, e⟩
            · rw [e]
              exact cellAt_mem (ord_take hq _) (by rw [take_succ_getD q i pz hil]; exact List.mem_append_left _ hu) hun
            · rw [e]
              refine cellAt_none fun u hu => ?_
              rw [take_succ_getD q i pz hil] at hu
              rcases List.mem_append.1 hu with hu | hu
              · exact hno u hu
              · rw [List.mem_singleton.1 hu]; exact hh
        rw [hts]
        by_cases hh : Holds (q.getD i pz) n
        · have hh2 : Holds ⟨(q.getD i pz).f0, (q.getD i pz).f1, (q.getD i pz).f2, false⟩ n := hh
          rw [if_pos hh, if_pos hh2, if_pos rfl]
        · have hh2 : ¬ Holds ⟨(q.getD i pz).f0, (q.getD i pz).f1, (q.getD i pz).f2, false⟩ n := hh
          rw [if_neg hh, if_neg hh2, hcell n])
      refine Ev.step (fun k => by rw [spec_WrittenMap.l0]) ?_;rw [rd_cast, w64 (x := (i : Int) + 1) (by omega) (by omega), w64 (x := sumL (q.take i) + (q.getD i pz).f1) (by omega) (by omega), ← sumL_succ q i hil];refine Ev.pos (by omega) ?_;refine Ev.pos (by omega) ?_;refine Ev.pos (by omega) ?_;refine Ev.bind' _ hput ?_;exact next
  have := key q.length 0 rfl (by omega) o ho (fun n => by rw [List.take_zero, cellAt_nil', if_neg (by simp)])
  have hz : sumL (q.take 0) = 0 := by simp [sumL]
  rw [hz] at this;exact this
/-- The same cells, the same map. -/
theorem same_cells {x y : List Pc} (hx : Canon x) (hy : Canon y) (ex : ∀ p ∈ x, p.f0 + p.f1 ≤ 200) (ey : ∀ p ∈ y, p.f0 + p.f1 ≤ 200) (h : ∀ n, cellAt x n = cellAt y n) : (if Good x then (x, true) else ([], false)) = (if Good y then (y, true) else (([] : List Pc), false)) := by
  have h1 := mapOf_ev (cellsOf x) x hx (by rw [cellsOf_length]; omega) (fun i hi => by rw [cellsOf_length]; exact ex _ (getD_mem x i pz hi)) (fun n hn => by rw [cellsOf_length] at hn; exact cellsOf_get x n hn);have h2 := mapOf_ev (cellsOf x) y hy (by rw [cellsOf_length]; omega) (fun i hi => by rw [cellsOf_length]; exact ey _ (getD_mem y i pz hi)) (fun n hn => by rw [cellsOf_length] at hn; rw [cellsOf_get x n hn, h n]);obtain ⟨k1, e1⟩ := h1;obtain ⟨k2, e2⟩ := h2;have e3 := e1 (max k1 k2) (Nat.le_max_left _ _);rw [e2 (max k1 k2) (Nat.le_max_right _ _)] at e3;exact (Option.some.inj e3).symm
theorem written_ok (l : List Pc) (hg : Good l) (a b : Int) : ∃ r, Ev (fun k => spec_WrittenMap.f k l a b) r ∧ (r.2 = true → Good r.1) := by
  have hl : l.length ≤ 1048576 := by have := hg.1; omega
  have g1 := spec_GoodMap_ev l hl;obtain ⟨x, hx1, hx2⟩ := stretch_eq a b;unfold spec_WrittenMap.f
  cases x with
  | false =>
    refine ⟨([], false), Ev.bind' _ g1 (Ev.pos (by simpa using hg) (Ev.bindc _ hx1 ?_)), fun h => by cases h⟩;refine Ev.step (fun k => by rw [spec_WrittenMap.j0]) ?_;exact Ev.pos rfl (Ev.now _)
  | true =>
    have hs' := hx2.1 rfl;have hc := good_canon hg.2;unfold Str at hs';obtain ⟨o, q, hcut, inv⟩ := cut_ev l hc a b (by omega) (by omega) (by omega)
    have fin : ∀ m : List Pc, Ord m → ∃ out, Ev (fun k => spec_l9Joined.f k m) out ∧ Canon out ∧ (∀ n, cellAt out n = cellAt m n) ∧ ∀ p ∈ out, p.f0 + p.f1 ≤ 200 := fun m hm => by
      obtain ⟨out, e1, e2, e3, e4⟩ := joined_ev m hm;exact ⟨out, e1, e2, e3, e4 200 (fun p hp => by have := ord_inr hm hp; unfold InR at this; omega)⟩
    have hd : ∀ n : Nat, (cellAt q n).f0 = true → cellAt o n = z55 := fun n e => by
      rw [cut_in hc inv n] at e
      by_cases e2 : a ≤ (n : Int) ∧ (n : Int) < a + b
      · rw [cut_out hc inv n, if_pos e2]
      · rw [if_neg e2] at e
        simp [z55] at e
    have hS : ∀ i, i ≤ q.length → 0 ≤ sumL (q.take i) ∧ sumL (q.take i) ≤ 200 := fun i hi => by
      obtain ⟨⟨a1, a2, a3⟩, _⟩ := sum_full q inv.oq a (by omega) (fun p hp => (inv.iq p hp).1) i hi _ rfl
      have : (if i = 0 then a else (q.getD (i - 1) pz).f0 + (q.getD (i - 1) pz).f1) ≤ a + b := by
        by_cases e : i = 0
        · rw [if_pos e]; omega
        · rw [if_neg e]; exact (inv.iq _ (getD_mem q _ pz (by omega))).2
      omega
    have specEv : ∀ r, (∀ m : List Pc, Ord m → (∀ n, cellAt m n = if (cellAt q n).f0 = true then ⟨true, (cellAt q n).f1, false⟩ else cellAt o n) → Ev (fun k => (spec_l9Joined.f k m).bind fun t => (if sumL q = b then ((spec_GoodMap.f k t).bind fun t2 => (if t2 = true then (some (t, true)) else (some (([] : List Pc), false)))) else (some (([] : List Pc), false)))) r) → Ev (fun k => (spec_GoodMap.f k l).bind fun t => (if t = true then ((spec_l9Stretch.f a b).bind fun t2 => (spec_WrittenMap.j0 k a b (!t2) l)) else (spec_WrittenMap.j0 k a b true l))) r := fun r h => by
      refine Ev.bind' _ g1 (Ev.pos (by simpa using hg) (Ev.bindc _ hx1 ?_));refine Ev.step (fun k => by rw [spec_WrittenMap.j0]) (Ev.neg (by simp) (Ev.bind' _ hcut ?_));exact putAll_ev o q inv.co.1 inv.oq hd b (by omega) hS r h
    obtain ⟨m0, hm0, hc0⟩ : ∃ m : List Pc, Ord m ∧ ∀ n, cellAt m n = if (cellAt q n).f0 = true then ⟨true, (cellAt q n).f1, false⟩ else cellAt o n := by
      refine Classical.byContradiction fun hno => ?_
      have h1 := specEv ([], true) (fun m hm hcell => absurd ⟨m, hm, hcell⟩ hno);have h2 := specEv ([], false) (fun m hm hcell => absurd ⟨m, hm, hcell⟩ hno);obtain ⟨k1, e1⟩ := h1;obtain ⟨k2, e2⟩ := h2;have e3 := e1 (max k1 k2) (Nat.le_max_left _ _);have e4 := e2 (max k1 k2) (Nat.le_max_right _ _);rw [e3] at e4;have := Option.some.inj e4
      simp at this
    obtain ⟨out, hj, hcan, hcell, hend⟩ := fin m0 hm0;refine ⟨if sumL q = b then (if Good out then (out, true) else ([], false)) else ([], false), specEv _ (fun m hm' hcell' => ?_), ?_⟩
    · obtain ⟨out', hj', hcan', hcell'', hend'⟩ := fin m hm'
      refine Ev.bind' _ hj' ?_
      by_cases hsum : sumL q = b
      · have hol := ord_length hcan'.1
        refine Ev.pos hsum (Ev.bind' _ (spec_GoodMap_ev out' (by omega)) ?_);rw [if_pos hsum, same_cells hcan hcan' hend hend' (fun n => by rw [hcell n, hc0 n, hcell'' n, hcell' n])]
        by_cases ho : Good out'
        · rw [if_pos ho]
          exact Ev.pos (by simpa using ho) (Ev.now _)
        · rw [if_neg ho]
          exact Ev.neg (by simpa using ho) (Ev.now _)
      · rw [if_neg hsum]
        exact Ev.neg hsum (Ev.now _)
    · by_cases hsum : sumL q = b
      · rw [if_pos hsum]
        by_cases ho : Good out
        · rw [if_pos ho]; exact fun _ => ho
        · rw [if_neg ho]; exact fun h => by cases h
      · rw [if_neg hsum]; exact fun h => by cases h
end Go.Proofs.Ytebhdnihmkndlaa.Q
