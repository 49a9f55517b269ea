/- How many blocks a map has: told by its cells. No statement. -/
import Derived.Test.YtebhdnihmkndlaaMapPutF
import Derived.Test.YtebhdnihmkndlaaG7
namespace Go.Proofs.Ytebhdnihmkndlaa.Q
open Go.RowKit Go.Proofs.YtebhdnihmkndlaaW.PrintWords Go.Proofs.Ytebhdnihmkndlaa.G
set_option linter.unusedVariables false
set_option linter.unusedSimpArgs false
open Classical in
/-- How many numbers below N have P. -/
noncomputable def cnt (P : Nat → Prop) : Nat → Int
  | 0 => 0
  | n + 1 => cnt P n + if P n then 1 else 0
theorem cnt_congr {P Q : Nat → Prop} : ∀ N, (∀ n, n < N → (P n ↔ Q n)) → cnt P N = cnt Q N
  | 0, _ => rfl
  | N + 1, h => by
    rw [cnt, cnt, cnt_congr N (fun n hn => h n (by omega))]
    by_cases c : P N
    · rw [if_pos c, if_pos ((h N (by omega)).1 c)]
    · rw [if_neg c, if_neg (fun q => c ((h N (by omega)).2 q))]
theorem cnt_mono {P Q : Nat → Prop} : ∀ N, (∀ n, n < N → P n → Q n) → cnt P N ≤ cnt Q N
  | 0, _ => Int.le_refl _
  | N + 1, h => by
    have := cnt_mono N (fun n hn => h n (by omega));rw [cnt, cnt]
    by_cases c : P N
    · rw [if_pos c, if_pos (h N (by omega) c)]; omega
    · rw [if_neg c]
      by_cases d : Q N
      · rw [if_pos d]; omega
      · rw [if_neg d]; omega
theorem cnt_or {P Q : Nat → Prop} : ∀ N, (∀ n, n < N → P n → ¬ Q n) → cnt (fun n => P n ∨ Q n) N = cnt P N + cnt Q N
  | 0, _ => rfl
  | N + 1, h => by
    have := cnt_or N (fun n hn => h n (by omega));rw [cnt, cnt, cnt, this]
    by_cases c : P N
    · rw [if_pos (.inl c), if_pos c, if_neg (h N (by omega) c)]; omega
    · rw [if_neg c]
      by_cases d : Q N
      · rw [if_pos (.inr d), if_pos d]; omega
      · rw [if_neg (fun q => q.elim c d), if_neg d]; omega
theorem cnt_none {P : Nat → Prop} : ∀ N, (∀ n, n < N → ¬ P n) → cnt P N = 0
  | 0, _ => rfl
  | N + 1, h => by rw [cnt, cnt_none N (fun n hn => h n (by omega)), if_neg (h N (by omega))]; rfl
theorem cnt_le (P : Nat → Prop) : ∀ N, 0 ≤ cnt P N ∧ cnt P N ≤ (N : Int)
  | 0 => ⟨Int.le_refl _, Int.le_refl _⟩
  | N + 1 => by
    have := cnt_le P N;rw [cnt]
    by_cases c : P N
    · rw [if_pos c]; omega
    · rw [if_neg c]; omega
theorem cnt_run (a b : Int) (h0 : 0 ≤ a) (h1 : 0 ≤ b) : ∀ N : Nat, cnt (fun n => a ≤ (n : Int) ∧ (n : Int) < a + b) N = if (N : Int) ≤ a then 0 else if (N : Int) ≤ a + b then (N : Int) - a else b
  | 0 => by rw [cnt, if_pos (by omega)]
  | N + 1 => by
    rw [cnt, cnt_run a b h0 h1 N]
    by_cases c : a ≤ (N : Int) ∧ (N : Int) < a + b
    · rw [if_pos c, if_neg (show ¬ ((N + 1 : Nat) : Int) ≤ a by omega), if_pos (show ((N + 1 : Nat) : Int) ≤ a + b by omega)]
      by_cases d : (N : Int) ≤ a
      · rw [if_pos d]; omega
      · rw [if_neg d, if_pos (by omega)]; omega
    · rw [if_neg c]
      by_cases d : (N : Int) ≤ a
      · rw [if_pos d]
        by_cases e : ((N + 1 : Nat) : Int) ≤ a
        · rw [if_pos e]; rfl
        · rw [if_neg e]
          by_cases f : ((N + 1 : Nat) : Int) ≤ a + b
          · omega
          · rw [if_neg f]; omega
      · rw [if_neg d, if_neg (show ¬ ((N + 1 : Nat) : Int) ≤ a by omega), if_neg (show ¬ ((N + 1 : Nat) : Int) ≤ a + b by omega)]
        by_cases f : (N : Int) ≤ a + b
        · rw [if_pos f]; omega
        · rw [if_neg f]; omega
/-- The blocks of the first i pieces with g. -/
def HasG (g : Pc → Bool) (l : List Pc) (i n : Nat) : Prop := ∃ j, j < i ∧ j < l.length ∧ Holds (l.getD j pz) n ∧ g (l.getD j pz) = true
theorem hasG_succ {g : Pc → Bool} {l : List Pc} (h : Ord l) (i : Nat) (hi : i < l.length) : cnt (HasG g l (i + 1)) 200 = cnt (HasG g l i) 200 + if g (l.getD i pz) = true then (l.getD i pz).f1 else 0 := by
  have hr := h.1 i hi;unfold InR at hr
  by_cases c : g (l.getD i pz) = true
  · rw [if_pos c]
    have e : cnt (HasG g l (i + 1)) 200 = cnt (fun n => HasG g l i n ∨ ((l.getD i pz).f0 ≤ (n : Int) ∧ (n : Int) < (l.getD i pz).f0 + (l.getD i pz).f1)) 200 := cnt_congr 200 fun n _ => by
      constructor
      · rintro ⟨j, h1, h2, h3, h4⟩
        by_cases e : j = i
        · subst e; exact .inr h3
        · exact .inl ⟨j, by omega, h2, h3, h4⟩
      · rintro (⟨j, h1, h2, h3, h4⟩ | h3)
        · exact ⟨j, by omega, h2, h3, h4⟩
        · exact ⟨i, by omega, hi, h3, c⟩
    rw [e, cnt_or 200 (fun n _ => by
      rintro ⟨j, h1, h2, h3, h4⟩ h5;have h6 := ord_lt h j i h1 hi;unfold Holds at h3
      omega), cnt_run _ _ (by omega) (by omega), if_neg (by omega)]
    by_cases d : ((200 : Nat) : Int) ≤ (l.getD i pz).f0 + (l.getD i pz).f1
    · rw [if_pos d]; omega
    · rw [if_neg d]
  · rw [if_neg c, Int.add_zero]
    exact cnt_congr 200 fun n _ => by
      constructor
      · rintro ⟨j, h1, h2, h3, h4⟩
        by_cases e : j = i
        · subst e; exact absurd h4 c
        · exact ⟨j, by omega, h2, h3, h4⟩
      · rintro ⟨j, h1, h2, h3, h4⟩
        exact ⟨j, by omega, h2, h3, h4⟩
theorem hasG_zero (g : Pc → Bool) (l : List Pc) : cnt (HasG g l 0) 200 = 0 := cnt_none 200 fun n _ => by
  rintro ⟨j, h1, _⟩
  omega
def gAll (_ : Pc) : Bool := true
def gFresh (p : Pc) : Bool := p.f3
theorem size_loop (l : List Pc) (h : Ord l) (hl : l.length ≤ 1000) : ∀ (d i : Nat), l.length - i = d → i ≤ l.length →
    Ev (fun k => impl_MapSize.l0 k (cnt (HasG gAll l i) 200) (cnt (HasG gFresh l i) 200) l (l.length : Int) (i : Int)) (cnt (HasG gAll l l.length) 200, cnt (HasG gFresh l l.length) 200, true) := by
  intro d
  induction d with
  | zero =>
    intro i hd hi
    obtain rfl : i = l.length := by omega
    refine Ev.step (fun k => by rw [impl_MapSize.l0]) ?_;exact Ev.neg (by omega) (Ev.now _)
  | succ d ih =>
    intro i hd hi
    have hlt : i < l.length := by omega
    have nx := ih (i + 1) (by omega) (by omega);have hr := h.1 i hlt;unfold InR at hr;have b1 := cnt_le (HasG gAll l i) 200;have b2 := cnt_le (HasG gFresh l i) 200;rw [hasG_succ h i hlt, hasG_succ h i hlt] at nx;have e1 : gAll (l.getD i pz) = true := rfl;rw [if_pos e1] at nx;refine Ev.step (fun k => by rw [impl_MapSize.l0]) (Ev.pos (by omega) (Ev.pos (by omega) (Ev.pos (by omega) ?_)));rw [rd_cast, w64 (x := cnt (HasG gAll l i) 200 + (l.getD i pz).f1) (by omega) (by omega), w64 (x := cnt (HasG gFresh l i) 200 + (l.getD i pz).f1) (by omega) (by omega), show wrap64 ((i : Int) + 1) = ((i + 1 : Nat) : Int) by rw [w64 (by omega) (by omega)]; rfl]
    by_cases c : (l.getD i pz).f3 = true
    · have c' : gFresh (l.getD i pz) = true := c
      rw [if_pos c'] at nx;exact Ev.pos c nx
    · have c' : ¬ gFresh (l.getD i pz) = true := c
      rw [if_neg c', Int.add_zero] at nx;exact Ev.neg c nx
/-- What MapSize tells of a good map: its cells, counted. -/
theorem size_ev (l : List Pc) (hg : Good l) : Ev (fun k => impl_MapSize.f k l) (cnt (fun n => (cellAt l n).f0 = true) 200, cnt (fun n => (cellAt l n).f0 = true ∧ (cellAt l n).f2 = true) 200, true) := by
  have hl : l.length ≤ 1048576 := by have := hg.1; omega
  have ho := (good_canon hg.2).1;have h1 := size_loop l ho (by have := hg.1; omega) l.length 0 rfl (Nat.zero_le _);rw [hasG_zero, hasG_zero] at h1
  have e1 : cnt (HasG gAll l l.length) 200 = cnt (fun n => (cellAt l n).f0 = true) 200 := cnt_congr 200 fun n _ => by
    constructor
    · rintro ⟨j, _, h2, h3, _⟩
      rw [cellAt_in ho j h2 n h3]
    · intro h
      obtain ⟨q, hq, hn⟩ := (cells_f0 ho n).1 h;obtain ⟨j, hj, rfl⟩ := mem_getD pz hq;exact ⟨j, hj, hj, hn, rfl⟩
  have e2 : cnt (HasG gFresh l l.length) 200 = cnt (fun n => (cellAt l n).f0 = true ∧ (cellAt l n).f2 = true) 200 := cnt_congr 200 fun n _ => by
    constructor
    · rintro ⟨j, _, h2, h3, h4⟩
      rw [cellAt_in ho j h2 n h3];exact ⟨rfl, h4⟩
    · rintro ⟨h, h4⟩
      obtain ⟨q, hq, hn⟩ := (cells_f0 ho n).1 h;obtain ⟨j, hj, rfl⟩ := mem_getD pz hq;rw [cellAt_in ho j hj n hn] at h4;exact ⟨j, hj, hj, hn, h4⟩
  rw [e1, e2] at h1;unfold impl_MapSize.f;exact Ev.bind' _ (impl_GoodMap_ev l hl) (Ev.pos (by simpa using hg) h1)
end Go.Proofs.Ytebhdnihmkndlaa.Q
