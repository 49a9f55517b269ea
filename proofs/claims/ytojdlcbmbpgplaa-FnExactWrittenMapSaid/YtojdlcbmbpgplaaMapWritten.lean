import Derived.Test.YtojdlcbmbpgplaaMapPut
import Derived.Test.YtojdlcbmbpgplaaMapCut
import Derived.Test.YtojdlcbmbpgplaaG11
import Derived.Test.YtojdlcbmbpgplaaG19
namespace Go.Proofs.Ytojdlcbmbpgplaa.Q
open Go.RowKit Go.Proofs.YtojdlcbmbpgplaaW.PrintWords Go.Proofs.Ytojdlcbmbpgplaa.G
set_option linter.unusedVariables false
set_option linter.unusedSimpArgs false

/-- A stretch of file blocks. -/
def Str (a b : Int) : Prop := (0 ≤ a ∧ a ≤ 200) ∧ 0 ≤ b ∧ b ≤ 200 - a
theorem stretch_eq (a b : Int) : ∃ x : Bool, spec_l9Stretch.f a b = some x ∧ (x = true ↔ Str a b) := by
  unfold spec_l9Stretch.f
  rw [l1In_eq, Option.bind_some]
  by_cases h : 0 ≤ a ∧ a ≤ 200
  · rw [if_pos (by simpa using h), l1In_eq, w64 (x := 200 - a) (by omega) (by omega)]
    exact ⟨_, rfl, by unfold Str; simp only [decide_eq_true_eq]; omega⟩
  · rw [if_neg (by simpa using h)]
    exact ⟨_, rfl, by unfold Str; simp only [Bool.false_eq_true, false_iff]; omega⟩
theorem isRange_ev (l : List Pc) (hl : l.length ≤ 1048576) (a b : Int) : ∃ x : Bool, Ev (fun k => impl_isRange.f k l a b) x ∧ (x = true ↔ Good l ∧ Str a b) := by
  unfold impl_isRange.f
  have g := impl_GoodMap_ev l hl
  by_cases hg : Good l
  · by_cases h : 0 ≤ a ∧ a ≤ 200
    · refine ⟨_, Ev.bind' _ g (Ev.pos (by simpa using hg) (Ev.bindc _ (within_eq _ _ _) (Ev.pos (by simpa using h) (Ev.bindc _ (within_eq _ _ _) (Ev.now _))))), ?_⟩
      rw [w64 (x := 200 - a) (by omega) (by omega)]
      unfold Str
      simp only [decide_eq_true_eq]
      constructor
      · intro e; exact ⟨hg, by omega, by omega, by omega⟩
      · intro e; omega
    · refine ⟨_, Ev.bind' _ g (Ev.pos (by simpa using hg) (Ev.bindc _ (within_eq _ _ _) (Ev.neg (by simpa using h) (Ev.now _)))), ?_⟩
      unfold Str
      simp only [Bool.false_eq_true, false_iff]
      omega
  · exact ⟨_, Ev.bind' _ g (Ev.neg (by simpa using hg) (Ev.now _)), by simp only [Bool.false_eq_true, false_iff]; exact fun e => hg e.1⟩
/-- The lengths of pieces, added up. -/
def sumL (l : List Pc) : Int := (l.map (fun p : Pc => p.f1)).foldl (· + ·) 0
theorem sumL_succ (l : List Pc) (i : Nat) (h : i < l.length) : sumL (l.take (i + 1)) = sumL (l.take i) + (l.getD i pz).f1 := by
  unfold sumL
  rw [take_succ_getD l i pz h, List.map_append, List.foldl_append]
  rfl
/-- Pieces in order within a stretch: their lengths make it up just where all of it is mapped. -/
theorem sum_full (q : List Pc) (h : Ord q) (fr : Int) (h0 : 0 ≤ fr) (hi : ∀ p, p ∈ q → fr ≤ p.f0) : ∀ i, i ≤ q.length → ∀ e : Int, (e = if i = 0 then fr else (q.getD (i - 1) pz).f0 + (q.getD (i - 1) pz).f1) → (fr ≤ e ∧ sumL (q.take i) ≤ e - fr ∧ 0 ≤ sumL (q.take i)) ∧ (sumL (q.take i) = e - fr ↔ ∀ n : Nat, fr ≤ (n : Int) → (n : Int) < e → ∃ p, p ∈ q.take i ∧ Holds p n) := by
  intro i
  induction i with
  | zero =>
    intro _ e he
    rw [if_pos rfl] at he
    subst he
    have hz : sumL (q.take 0) = 0 := by simp [sumL]
    rw [hz]
    exact ⟨⟨by omega, by omega, by omega⟩, ⟨fun _ n h1 h2 => by omega, fun _ => by omega⟩⟩
  | succ i ih =>
    intro hi' e he
    have hil : i < q.length := by omega
    obtain ⟨⟨a1, a2, a3⟩, a4⟩ := ih (by omega) _ rfl
    rw [if_neg (by omega), Nat.add_sub_cancel] at he
    have hp := h.1 i hil
    unfold InR at hp
    have hge := hi _ (getD_mem q i pz hil)
    have hprev : (if i = 0 then fr else (q.getD (i - 1) pz).f0 + (q.getD (i - 1) pz).f1) ≤ (q.getD i pz).f0 := by
      by_cases e0 : i = 0
      · rw [if_pos e0]; exact hge
      · rw [if_neg e0]; exact ord_lt h (i - 1) i (by omega) hil
    have hle : ∀ j, j < i → (q.getD j pz).f0 + (q.getD j pz).f1 ≤ (if i = 0 then fr else (q.getD (i - 1) pz).f0 + (q.getD (i - 1) pz).f1) := fun j hj => by
      rw [if_neg (by omega)]
      by_cases e0 : j = i - 1
      · rw [e0]; omega
      · have h1 := ord_lt h j (i - 1) (by omega) (by omega)
        have h2 := h.1 (i - 1) (by omega)
        unfold InR at h2
        omega
    generalize (if i = 0 then fr else (q.getD (i - 1) pz).f0 + (q.getD (i - 1) pz).f1) = e' at a1 a2 a4 hprev hle
    rw [sumL_succ q i hil]
    refine ⟨⟨by omega, by omega, by omega⟩, ?_⟩
    constructor
    · intro hs n hn1 hn2
      have hsum : sumL (q.take i) = e' - fr := by omega
      have hst : e' = (q.getD i pz).f0 := by omega
      by_cases hn : (n : Int) < e'
      · obtain ⟨p, b1, b2⟩ := (a4.1 hsum) n hn1 hn
        exact ⟨p, by rw [take_succ_getD q i pz hil]; exact List.mem_append_left _ b1, b2⟩
      · refine ⟨q.getD i pz, by rw [take_succ_getD q i pz hil]; exact List.mem_append_right _ (List.mem_singleton_self _), ?_⟩
        unfold Holds
        omega
    · intro hall
      have hback : ∀ n : Nat, fr ≤ (n : Int) → (n : Int) < (q.getD i pz).f0 → ∃ p, p ∈ q.take i ∧ Holds p n := fun n hn1 hn2 => by
        obtain ⟨p, b1, b2⟩ := hall n hn1 (by omega)
        rw [take_succ_getD q i pz hil] at b1
        rcases List.mem_append.1 b1 with b1 | b1
        · exact ⟨p, b1, b2⟩
        · rw [List.mem_singleton.1 b1] at b2
          unfold Holds at b2
          omega
      have hst : e' = (q.getD i pz).f0 := by
        refine Classical.byContradiction fun hne => ?_
        obtain ⟨p, b1, b2⟩ := hback e'.toNat (by omega) (by omega)
        obtain ⟨j, hj, hjl, rfl⟩ := mem_take_getD pz b1
        unfold Holds at b2
        have hj2 := hle j hj
        omega
      have := a4.2 (fun n hn1 hn2 => hback n hn1 (by omega))
      omega
theorem sum_all (q : List Pc) (h : Ord q) (fr lg : Int) (h0 : 0 ≤ fr) (h1 : 0 ≤ lg) (hi : ∀ p, p ∈ q → fr ≤ p.f0 ∧ p.f0 + p.f1 ≤ fr + lg) : sumL q = lg ↔ ∀ n : Nat, fr ≤ (n : Int) → (n : Int) < fr + lg → ∃ p, p ∈ q ∧ Holds p n := by
  obtain ⟨⟨a1, a2, a3⟩, a4⟩ := sum_full q h fr h0 (fun p hp => (hi p hp).1) q.length (Nat.le_refl _) _ rfl
  rw [List.take_length] at a2 a3 a4
  have he : (if q.length = 0 then fr else (q.getD (q.length - 1) pz).f0 + (q.getD (q.length - 1) pz).f1) ≤ fr + lg := by
    by_cases e : q.length = 0
    · rw [if_pos e]; omega
    · rw [if_neg e]; exact (hi _ (getD_mem q _ pz (by omega))).2
  have hup : ∀ p, p ∈ q → p.f0 + p.f1 ≤ (if q.length = 0 then fr else (q.getD (q.length - 1) pz).f0 + (q.getD (q.length - 1) pz).f1) := fun p hp => by
    obtain ⟨j, hj, rfl⟩ := mem_getD pz hp
    rw [if_neg (by omega)]
    by_cases e0 : j = q.length - 1
    · rw [e0]; omega
    · have h1 := ord_lt h j (q.length - 1) (by omega) (by omega)
      have h2 := h.1 (q.length - 1) (by omega)
      unfold InR at h2
      omega
  generalize (if q.length = 0 then fr else (q.getD (q.length - 1) pz).f0 + (q.getD (q.length - 1) pz).f1) = e at a1 a2 a4 he hup
  constructor
  · intro hs n hn1 hn2
    exact a4.1 (by omega) n hn1 (by omega)
  · intro hall
    have hs := a4.2 (fun n hn1 hn2 => hall n hn1 (by omega))
    by_cases e0 : lg = 0
    · omega
    · obtain ⟨p, hp, hpn⟩ := hall (fr + lg - 1).toNat (by omega) (by omega)
      have := hup p hp
      unfold Holds at hpn
      omega
/-- The cells of a map with a stretch written: the first x blocks of it. -/
def wrCells (l : List Pc) (a : Int) (x : Nat) : List Cell := (List.range 200).map (fun n : Nat => if a ≤ (n : Int) ∧ (n : Int) < a + (x : Int) then (⟨(cellAt l n).f0, (cellAt l n).f1, false⟩ : Cell) else cellAt l n)
theorem wrCells_len (l : List Pc) (a : Int) (x : Nat) : (wrCells l a x).length = 200 := by simp [wrCells]
theorem wrCells_get (l : List Pc) (a : Int) (x n : Nat) (h : n < 200) : (wrCells l a x).getD n z78 = if a ≤ (n : Int) ∧ (n : Int) < a + (x : Int) then (⟨(cellAt l n).f0, (cellAt l n).f1, false⟩ : Cell) else cellAt l n := by
  rw [getD_eq _ _ _ (by rw [wrCells_len]; exact h)]
  simp [wrCells]
theorem wrCells_zero (l : List Pc) (a : Int) : wrCells l a 0 = cellsOf l := by
  unfold wrCells cellsOf
  refine List.map_congr_left fun n _ => ?_
  rw [if_neg (by omega)]
theorem wrCells_set (l : List Pc) (a : Int) (x m : Nat) (hm : (m : Int) = a + (x : Int)) (h : m < 200) : (wrCells l a x).set m ⟨(cellAt l m).f0, (cellAt l m).f1, false⟩ = wrCells l a (x + 1) := by
  unfold wrCells
  rw [range_map_set _ _ _ _ h]
  refine List.map_congr_left fun n _ => ?_
  by_cases e : n = m
  · subst e
    rw [if_pos rfl, if_pos (by omega)]
  · rw [if_neg e]
    by_cases e2 : a ≤ (n : Int) ∧ (n : Int) < a + (x : Int)
    · rw [if_pos e2, if_pos (by omega)]
    · rw [if_neg e2, if_neg (by omega)]
theorem cellAt_nil' (n : Nat) : (cellAt ([] : List Pc) n).f0 = false := rfl
/-- The reference puts the written parts back, one after another. -/
theorem putAll_ev (o q : List Pc) (ho : Ord o) (hq : Ord q) (hd : ∀ n : Nat, (cellAt q n).f0 = true → cellAt o n = z78) (b : Int) (hb : 0 ≤ b ∧ b ≤ 200) (hS : ∀ i, i ≤ q.length → 0 ≤ sumL (q.take i) ∧ sumL (q.take i) ≤ 200) (r : List Pc × Bool)
    (fin : ∀ m : List Pc, Ord m → (∀ n, cellAt m n = if (cellAt q n).f0 = true then ⟨true, (cellAt q n).f1, false⟩ else cellAt o n) → Ev (fun k => (spec_l9Joined.f k m).bind fun t => (if sumL q = b then ((spec_GoodMap.f k t).bind fun t2 => (if t2 = true then (some (t, true)) else (some (([] : List Pc), false)))) else (some (([] : List Pc), false)))) r) :
    Ev (fun k => spec_WrittenMap.l0 k b o 0 q (q.length : Int) 0) r := by
  have hql := ord_length hq
  have key : ∀ d i, q.length - i = d → i ≤ q.length → ∀ m : List Pc, Ord m → (∀ n, cellAt m n = if (cellAt (q.take i) n).f0 = true then ⟨true, (cellAt (q.take i) n).f1, false⟩ else cellAt o n) → Ev (fun k => spec_WrittenMap.l0 k b m (sumL (q.take i)) q (q.length : Int) (i : Int)) r := by
    intro d
    induction d with
    | zero =>
      intro i hdd hi m hm hcell
      have : i = q.length := by omega
      subst this
      rw [List.take_length] at hcell ⊢
      refine Ev.step (fun k => by rw [spec_WrittenMap.l0]) ?_
      exact Ev.neg (by omega) (fin m hm hcell)
    | succ d ih =>
      intro i hdd hi m hm hcell
      have hil : i < q.length := by omega
      have hp := hq.1 i hil
      have hp' := hp
      unfold InR at hp'
      have s1 := hS i hi
      have s2 := hS (i + 1) (by omega)
      rw [sumL_succ q i hil] at s2
      have hmlen := ord_length hm
      have hpre : ∀ n : Nat, Holds (q.getD i pz) n → (cellAt (q.take i) n).f0 = false := fun n hn => by
        cases e : (cellAt (q.take i) n).f0 with
        | false => rfl
        | true =>
          obtain ⟨p, hpm, hpn⟩ := (cells_f0 (ord_take hq i) n).1 e
          obtain ⟨j, hj, hjl, rfl⟩ := mem_take_getD pz hpm
          have := ord_lt hq j i hj hil
          unfold Holds at hn hpn
          omega
      have hap : ∀ u ∈ m, u.f0 + u.f1 ≤ (q.getD i pz).f0 ∨ (q.getD i pz).f0 + (q.getD i pz).f1 ≤ u.f0 := fun u hu => by
        refine Classical.byContradiction fun hne => ?_
        have hui := ord_inr hm hu
        unfold InR at hui
        obtain ⟨n, h1, h2⟩ : ∃ n : Nat, Holds u n ∧ Holds (q.getD i pz) n := by
          by_cases e : u.f0 ≤ (q.getD i pz).f0
          · exact ⟨(q.getD i pz).f0.toNat, by unfold Holds; omega, by unfold Holds; omega⟩
          · exact ⟨u.f0.toNat, by unfold Holds; omega, by unfold Holds; omega⟩
        have c1 := cellAt_mem hm hu h1
        have c2 : (cellAt q n).f0 = true := (cells_f0 hq n).2 ⟨_, getD_mem q i pz hil, h2⟩
        rw [hcell n, hpre n h2, if_neg (by simp), hd n c2] at c1
        have := congrArg S78.f0 c1
        simp [z78] at this
      obtain ⟨k0, hk1, hk2, hk3, hput⟩ := put_ev m ⟨(q.getD i pz).f0, (q.getD i pz).f1, (q.getD i pz).f2, false⟩ (by omega)
      have hpr : InR ⟨(q.getD i pz).f0, (q.getD i pz).f1, (q.getD i pz).f2, false⟩ := hp
      have hpo := put_ord hm hpr hk1 hk2 hk3 hap
      have next := ih (i + 1) (by omega) (by omega) _ hpo (fun n => by
        rw [put_cell hm hpo n]
        have hts : cellAt (q.take (i + 1)) n = if Holds (q.getD i pz) n then ⟨true, (q.getD i pz).f2 + ((n : Int) - (q.getD i pz).f0), (q.getD i pz).f3⟩ else cellAt (q.take i) n := by
          have hmem : q.getD i pz ∈ q.take (i + 1) := by rw [take_succ_getD q i pz hil]; simp
          by_cases hh : Holds (q.getD i pz) n
          · rw [if_pos hh]; exact cellAt_mem (ord_take hq _) hmem hh
          · rw [if_neg hh]
            rcases cellAt_cases (ord_take hq i) n with ⟨u, hu, hun, e⟩ | ⟨hno, e⟩
            · rw [e]
              exact cellAt_mem (ord_take hq _) (by rw [take_succ_getD q i pz hil]; exact List.mem_append_left _ hu) hun
            · rw [e]
              refine cellAt_none fun u hu => ?_
              rw [take_succ_getD q i pz hil] at hu
              rcases List.mem_append.1 hu with hu | hu
              · exact hno u hu
              · rw [List.mem_singleton.1 hu]; exact hh
        rw [hts]
        by_cases hh : Holds (q.getD i pz) n
        · have hh2 : Holds ⟨(q.getD i pz).f0, (q.getD i pz).f1, (q.getD i pz).f2, false⟩ n := hh
          rw [if_pos hh, if_pos hh2, if_pos rfl]
        · have hh2 : ¬ Holds ⟨(q.getD i pz).f0, (q.getD i pz).f1, (q.getD i pz).f2, false⟩ n := hh
          rw [if_neg hh, if_neg hh2, hcell n])
      refine Ev.step (fun k => by rw [spec_WrittenMap.l0]) ?_
      rw [rd_cast, w64 (x := (i : Int) + 1) (by omega) (by omega), w64 (x := sumL (q.take i) + (q.getD i pz).f1) (by omega) (by omega), ← sumL_succ q i hil]
      refine Ev.pos (by omega) ?_
      refine Ev.pos (by omega) ?_
      refine Ev.pos (by omega) ?_
      refine Ev.bind' _ hput ?_
      exact next
  have := key q.length 0 rfl (by omega) o ho (fun n => by rw [List.take_zero, cellAt_nil', if_neg (by simp)])
  have hz : sumL (q.take 0) = 0 := by simp [sumL]
  rw [hz] at this
  exact this
theorem writtenMap_both (l : List Pc) (a b : Int) (hl : l.length ≤ 1048576) : ∃ r, Ev (fun k => spec_WrittenMap.f k l a b) r ∧ Ev (fun k => impl_WrittenMap.f k l a b) r ∧ r.1.length ≤ 2000000 := by
  have n1 : Ev (fun k => spec_WrittenMap.j0 k a b true l) ([], false) := Ev.step (fun k => by rw [spec_WrittenMap.j0]) (Ev.pos rfl (Ev.now _))
  have g1 := spec_GoodMap_ev l hl
  obtain ⟨x, hx1, hx2⟩ := stretch_eq a b
  obtain ⟨y, hy1, hy2⟩ := isRange_ev l hl a b
  unfold spec_WrittenMap.f impl_WrittenMap.f
  by_cases hg : Good l
  · by_cases hs : Str a b
    · obtain rfl : x = true := hx2.2 hs
      obtain rfl : y = true := hy2.2 ⟨hg, hs⟩
      have hc := good_canon hg.2
      have hs' := hs
      unfold Str at hs'
      obtain ⟨o, q, hcut, inv⟩ := cut_ev l hc a b (by omega) (by omega) (by omega)
      have hfull := sum_all q inv.oq a b (by omega) (by omega) inv.iq
      have hcov : ∀ n : Nat, a ≤ (n : Int) → (n : Int) < a + b → ((∃ p, p ∈ q ∧ Holds p n) ↔ (cellAt l n).f0 = true) := fun n h1 h2 => by
        rw [← cells_f0 inv.oq n, cut_in hc inv n, if_pos ⟨h1, h2⟩]
      -- the joined map
      have fin : ∀ m : List Pc, Ord m → (∀ n, cellAt m n = if (cellAt q n).f0 = true then ⟨true, (cellAt q n).f1, false⟩ else cellAt o n) → ∃ out, Ev (fun k => spec_l9Joined.f k m) out ∧ Canon out ∧ (∀ n, cellAt out n = cellAt m n) ∧ ∀ p ∈ out, p.f0 + p.f1 ≤ 200 := fun m hm _ => by
        obtain ⟨out, e1, e2, e3, e4⟩ := joined_ev m hm
        exact ⟨out, e1, e2, e3, e4 200 (fun p hp => by have := ord_inr hm hp; unfold InR at this; omega)⟩
      have hd : ∀ n : Nat, (cellAt q n).f0 = true → cellAt o n = z78 := fun n e => by
        rw [cut_in hc inv n] at e
        by_cases e2 : a ≤ (n : Int) ∧ (n : Int) < a + b
        · rw [cut_out hc inv n, if_pos e2]
        · rw [if_neg e2] at e
          simp [z78] at e
      have hS : ∀ i, i ≤ q.length → 0 ≤ sumL (q.take i) ∧ sumL (q.take i) ≤ 200 := fun i hi => by
        obtain ⟨⟨a1, a2, a3⟩, _⟩ := sum_full q inv.oq a (by omega) (fun p hp => (inv.iq p hp).1) i hi _ rfl
        have : (if i = 0 then a else (q.getD (i - 1) pz).f0 + (q.getD (i - 1) pz).f1) ≤ a + b := by
          by_cases e : i = 0
          · rw [if_pos e]; omega
          · rw [if_neg e]; exact (inv.iq _ (getD_mem q _ pz (by omega))).2
        omega
      have specEv : ∀ r, (∀ m : List Pc, Ord m → (∀ n, cellAt m n = if (cellAt q n).f0 = true then ⟨true, (cellAt q n).f1, false⟩ else cellAt o n) → Ev (fun k => (spec_l9Joined.f k m).bind fun t => (if sumL q = b then ((spec_GoodMap.f k t).bind fun t2 => (if t2 = true then (some (t, true)) else (some (([] : List Pc), false)))) else (some (([] : List Pc), false)))) r) → Ev (fun k => (spec_GoodMap.f k l).bind fun t => (if t = true then ((spec_l9Stretch.f a b).bind fun t2 => (spec_WrittenMap.j0 k a b (!t2) l)) else (spec_WrittenMap.j0 k a b true l))) r := fun r h => by
        refine Ev.bind' _ g1 (Ev.pos (by simpa using hg) (Ev.bindc _ hx1 ?_))
        refine Ev.step (fun k => by rw [spec_WrittenMap.j0]) (Ev.neg (by simp) (Ev.bind' _ hcut ?_))
        exact putAll_ev o q inv.co.1 inv.oq hd b (by omega) hS r h
      have implEv : ∀ r, ((∀ x : Nat, (x : Int) < b → (cellAt l (a + (x : Int)).toNat).f0 = true) → Ev (fun k => impl_mapOf.f k (wrCells l a b.toNat)) r) → ((∃ x : Nat, (x : Int) < b ∧ (cellAt l (a + (x : Int)).toNat).f0 ≠ true) → r = ([], false)) → Ev (fun k => (impl_isRange.f k l a b).bind fun t => (if t = true then ((impl_FileMap_cells.f k l).bind fun t2 => (impl_WrittenMap.l0 k a b t2 a)) else (some (([] : List Pc), false)))) r := fun r h1 h2 => by
        refine Ev.bind' _ hy1 (Ev.pos rfl (Ev.bind' _ (cells_ev l hg.2 hl) ?_))
        rw [← wrCells_zero l a]
        have loop := mscan (L := fun k x => impl_WrittenMap.l0 k a b (wrCells l a x) (a + (x : Int))) (n := b.toNat) (p := fun x => (cellAt l (a + (x : Int)).toNat).f0 = true) (r := r) (fun h => by
          refine Ev.step (fun k => by rw [impl_WrittenMap.l0]) ?_
          rw [w64 (x := a + b) (by omega) (by omega)]
          refine Ev.neg (by omega) (Ev.bind' _ (h1 fun x hx => h x (by omega)) (Ev.now _))) (fun x hx _ hb next => by
          have hget := wrCells_get l a x (a + (x : Int)).toNat (by omega)
          rw [if_neg (by omega)] at hget
          have er : rd_T78 (wrCells l a x) (a + (x : Int)) = cellAt l (a + (x : Int)).toNat := hget
          have hset := wrCells_set l a x (a + (x : Int)).toNat (by omega) (by omega)
          refine Ev.step (fun k => by rw [impl_WrittenMap.l0]) ?_
          rw [w64 (x := a + b) (by omega) (by omega), w64 (x := a + (x : Int) + 1) (by omega) (by omega), wrCells_len, er, hset, show a + (x : Int) + 1 = a + ((x + 1 : Nat) : Int) by omega]
          exact Ev.pos (by omega) (Ev.pos (by omega) (Ev.pos (by omega) (Ev.pos hb next)))) (fun x hx _ hb => by
          have hget := wrCells_get l a x (a + (x : Int)).toNat (by omega)
          rw [if_neg (by omega)] at hget
          have er : rd_T78 (wrCells l a x) (a + (x : Int)) = cellAt l (a + (x : Int)).toNat := hget
          refine Ev.step (fun k => by rw [impl_WrittenMap.l0]) ?_
          rw [w64 (x := a + b) (by omega) (by omega), wrCells_len, er, h2 ⟨x, by omega, hb⟩]
          exact Ev.pos (by omega) (Ev.pos (by omega) (Ev.pos (by omega) (Ev.neg hb (Ev.now _)))))
        have e0 : a + ((0 : Nat) : Int) = a := by omega
        simp only [e0] at loop
        exact loop
      by_cases hall : ∀ n : Nat, a ≤ (n : Int) → (n : Int) < a + b → (cellAt l n).f0 = true
      · have hsum : sumL q = b := hfull.2 fun n h1 h2 => (hcov n h1 h2).2 (hall n h1 h2)
        -- some joined map
        obtain ⟨m0, hm0, hc0⟩ : ∃ m : List Pc, Ord m ∧ ∀ n, cellAt m n = if (cellAt q n).f0 = true then ⟨true, (cellAt q n).f1, false⟩ else cellAt o n := by
          refine Classical.byContradiction fun hno => ?_
          -- were there none, the walk would end in any answer
          have h1 := specEv ([], true) (fun m hm hcell => absurd ⟨m, hm, hcell⟩ hno)
          have h2 := specEv ([], false) (fun m hm hcell => absurd ⟨m, hm, hcell⟩ hno)
          obtain ⟨k1, e1⟩ := h1
          obtain ⟨k2, e2⟩ := h2
          have e3 := e1 (max k1 k2) (Nat.le_max_left _ _)
          have e4 := e2 (max k1 k2) (Nat.le_max_right _ _)
          rw [e3] at e4
          have := Option.some.inj e4
          simp at this
        obtain ⟨out, hj, hcan, hcell, hend⟩ := fin m0 hm0 hc0
        have hcells : ∀ n, n < 200 → (wrCells l a b.toNat).getD n z78 = cellAt out n := fun n hn => by
          rw [wrCells_get _ _ _ _ hn, hcell n, hc0 n, cut_in hc inv n, cut_out hc inv n, show ((b.toNat : Nat) : Int) = b by omega]
          by_cases e : a ≤ (n : Int) ∧ (n : Int) < a + b
          · rw [if_pos e, if_pos e, if_pos (hall n e.1 e.2), hall n e.1 e.2]
          · rw [if_neg e, if_neg e, if_neg (by simp [z78]), if_neg e]
        have hm := mapOf_ev (wrCells l a b.toNat) out hcan (by rw [wrCells_len]; omega) (fun i hi => by rw [wrCells_len]; exact hend _ (getD_mem out i pz hi)) (fun n hn => hcells n (by rw [wrCells_len] at hn; exact hn))
        have holen := ord_length hcan.1
        refine ⟨if Good out then (out, true) else ([], false), specEv _ (fun m hm' hcell' => ?_), implEv _ (fun _ => hm) (fun ⟨x, hx, e⟩ => absurd (hall _ (by omega) (by omega)) e), ?_⟩
        · obtain ⟨out', hj', hcan', hcell'', hend'⟩ := fin m hm' hcell'
          -- the same list: both are what the program makes of these cells
          have hm2 := mapOf_ev (wrCells l a b.toNat) out' hcan' (by rw [wrCells_len]; omega) (fun i hi => by rw [wrCells_len]; exact hend' _ (getD_mem out' i pz hi)) (fun n hn => by
            rw [wrCells_len] at hn
            rw [hcells n hn, hcell n, hc0 n, hcell'' n, hcell' n])
          have holen' := ord_length hcan'.1
          have same : (if Good out' then (out', true) else ([], false)) = (if Good out then (out, true) else (([] : List Pc), false)) := by
            obtain ⟨k1, e1⟩ := hm2
            obtain ⟨k2, e2⟩ := hm
            have e3 := e1 (max k1 k2) (Nat.le_max_left _ _)
            have e4 := e2 (max k1 k2) (Nat.le_max_right _ _)
            rw [e3] at e4
            exact Option.some.inj e4
          rw [← same]
          refine Ev.bind' _ hj' (Ev.pos hsum (Ev.bind' _ (spec_GoodMap_ev out' (by omega)) ?_))
          by_cases hgo : Good out'
          · rw [if_pos hgo]; exact Ev.pos (by simpa using hgo) (Ev.now _)
          · rw [if_neg hgo]; exact Ev.neg (by simpa using hgo) (Ev.now _)
        · by_cases hgo : Good out
          · rw [if_pos hgo]
            show out.length ≤ 2000000
            omega
          · rw [if_neg hgo]; simp
      · have hsum : sumL q ≠ b := fun e => hall fun n h1 h2 => (hcov n h1 h2).1 (hfull.1 e n h1 h2)
        refine ⟨([], false), specEv _ (fun m hm hcell => ?_), implEv _ (fun h => ?_) (fun _ => rfl), by simp⟩
        · obtain ⟨out, hj, _⟩ := fin m hm hcell
          exact Ev.bind' _ hj (Ev.neg hsum (Ev.now _))
        · exfalso
          refine hall fun n h1 h2 => ?_
          have := h ((n : Int) - a).toNat (by omega)
          rwa [show (a + ((((n : Int) - a).toNat : Nat) : Int)).toNat = n by omega] at this
    · obtain rfl : x = false := by
        cases x with
        | false => rfl
        | true => exact absurd (hx2.1 rfl) hs
      obtain rfl : y = false := by
        cases y with
        | false => rfl
        | true => exact absurd (hy2.1 rfl).2 hs
      exact ⟨([], false), Ev.bind' _ g1 (Ev.pos (by simpa using hg) (Ev.bindc _ hx1 n1)), Ev.bind' _ hy1 (Ev.neg (by simp) (Ev.now _)), by simp⟩
  · obtain rfl : y = false := by
      cases y with
      | false => rfl
      | true => exact absurd (hy2.1 rfl).1 hg
    exact ⟨([], false), Ev.bind' _ g1 (Ev.neg (by simpa using hg) n1), Ev.bind' _ hy1 (Ev.neg (by simp) (Ev.now _)), by simp⟩
end Go.Proofs.Ytojdlcbmbpgplaa.Q
