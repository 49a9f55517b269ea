/- The plain law of FnMapped: a piece that is put lies where it is told, all else as before, and cut out again it is as it was. No condition. -/
import Derived.Test.YtebhdnihmkndlaaMapDraw
import Derived.Test.YtebhdnihmkndlaaMapCount
import Derived.Test.YtebhdnihmkndlaaG7
import Derived.Test.YtebhdnihmkndlaaG5
import Derived.Test.YtebhdnihmkndlaaG6
namespace Go.Proofs.Ytebhdnihmkndlaa.Q
open Go.RowKit Go.Proofs.YtebhdnihmkndlaaW.PrintWords Go.Proofs.Ytebhdnihmkndlaa.G
set_option linter.unusedVariables false
set_option linter.unusedSimpArgs false
theorem sameMaps_refl (l : List Pc) (hl : l.length ≤ 1048576) : Ev (fun k => laws_sameMaps.f k l l) true := by
  have key : ∀ d i, l.length - i = d → i ≤ l.length → Ev (fun k => laws_sameMaps.l0 k (l.length : Int) (i : Int) l l) true := by
    intro d
    induction d with
    | zero =>
      intro i hd hi;refine Ev.step (fun k => by rw [laws_sameMaps.l0]) ?_;exact Ev.neg (by omega) (Ev.now _)
    | succ d ih =>
      intro i hd hi;refine Ev.step (fun k => by rw [laws_sameMaps.l0]) ?_;refine Ev.pos (by omega) (Ev.pos (by omega) (Ev.pos (by omega) (Ev.pos (by omega) (Ev.neg (by simp) ?_))));rw [show wrap64 ((i : Int) + 1) = ((i + 1 : Nat) : Int) by rw [w64 (by omega) (by omega)]; rfl];exact ih (i + 1) (by omega) (by omega)
  unfold laws_sameMaps.f;exact Ev.pos rfl (key l.length 0 rfl (Nat.zero_le _))
theorem sameExtents_one (x : Ex) : Ev (fun k => laws_sameExtents.f k [x] [x]) true := by
  have h1 : Ev (fun k => laws_sameExtents.l0 k [x] [x] (([x] : List Ex).length : Int) 1) true := by
    refine Ev.step (fun k => by rw [laws_sameExtents.l0]) ?_;exact Ev.neg (by simp) (Ev.now _)
  unfold laws_sameExtents.f;refine Ev.pos rfl ?_;refine Ev.step (fun k => by rw [laws_sameExtents.l0]) ?_;have hz : wrap64 ((0 : Int) + 1) = 1 := w64 (by omega) (by omega);refine Ev.pos (by simp) (Ev.pos (by omega) (Ev.pos (by simp) (Ev.pos (by simp) (Ev.neg (by simp) ?_))));rw [hz];exact h1
theorem blockAt_ev (l : List Pc) (hg : Good l) (n : Nat) (hn : n < 200) : Ev (fun k => impl_BlockAt.f k l (n : Int)) (if (cellAt l n).f0 = true then ((cellAt l n).f1, (cellAt l n).f2, true) else (-1, false, true)) := by
  have hl : l.length ≤ 1048576 := by have := hg.1; omega
  unfold impl_BlockAt.f;refine Ev.bind' _ (impl_GoodMap_ev l hl) (Ev.pos (by simpa using hg) (Ev.bindc _ (within_eq _ _ _) ?_));rw [decide_eq_true (show (0 : Int) ≤ (n : Int) ∧ (n : Int) ≤ 199 by omega)];refine Ev.step (fun k => by rw [impl_BlockAt.j0]) ?_;refine Ev.neg Bool.false_ne_true (Ev.bind' _ (cells_ev l hg.2 hl) (Ev.pos (by omega) (Ev.pos (by rw [cellsOf_length]; omega) ?_)));rw [show rd_T55 (cellsOf l) (n : Int) = cellAt l n from (rdcell_cast _ n).trans (cellsOf_get l n hn)]
  by_cases c : (cellAt l n).f0 = true
  · exact Ev.pos c (Ev.now' (by rw [if_pos c]))
  · exact Ev.neg c (Ev.now' (by rw [if_neg c]))
theorem mapped_end (m x : List Pc) (a b c : Int) (e : Bool) (hm : Good m) (hx : Good x) (hp : IsPiece ⟨a, b, c, e⟩) (hn : ∀ n : Nat, Holds ⟨a, b, c, e⟩ n → (cellAt m n).f0 ≠ true) (hc : ∀ n : Nat, cellAt x n = if Holds ⟨a, b, c, e⟩ n then ⟨true, c + ((n : Int) - a), e⟩ else cellAt m n) :
    Ev (fun k => laws_FnMapped.l0 k ((200 : Nat) : Int) m a b c e x) true := by
  have hp' := hp;unfold IsPiece at hp';simp only at hp'
  have hml : m.length ≤ 1048576 := by have := hm.1; omega
  have hxl : x.length ≤ 1048576 := by have := hx.1; omega
  have s1 := size_ev m hm;have s2 := size_ev x hx;have back := punch_back m x hm hx ⟨a, b, c, e⟩ hp hn hc;have k1 := cnt_le (fun n => (cellAt m n).f0 = true) 200
  have e1 : cnt (fun n => (cellAt x n).f0 = true) 200 = cnt (fun n => (cellAt m n).f0 = true) 200 + b := by
    have h1 : cnt (fun n => (cellAt x n).f0 = true) 200 = cnt (fun n => (cellAt m n).f0 = true ∨ (a ≤ (n : Int) ∧ (n : Int) < a + b)) 200 := cnt_congr 200 fun n _ => by
      rw [hc n]
      by_cases h : Holds ⟨a, b, c, e⟩ n
      · rw [if_pos h]
        exact ⟨fun _ => .inr h, fun _ => rfl⟩
      · rw [if_neg h]
        exact ⟨.inl, fun q => q.elim id (fun q => absurd q h)⟩
    rw [h1, cnt_or (P := fun n => (cellAt m n).f0 = true) (Q := fun n : Nat => a ≤ (n : Int) ∧ (n : Int) < a + b) 200 (fun n _ q r => hn n r q), cnt_run a b (by omega) (by omega), if_neg (by omega)]
    by_cases d : ((200 : Nat) : Int) ≤ a + b
    · rw [if_pos d]; omega
    · rw [if_neg d]
  have e2 : cnt (fun n => (cellAt m n).f0 = true ∧ (cellAt m n).f2 = true) 200 ≤ cnt (fun n => (cellAt x n).f0 = true ∧ (cellAt x n).f2 = true) 200 := cnt_mono 200 fun n _ h => by
    rw [hc n, if_neg (fun q => hn n q h.1)];exact h
  refine Ev.step (fun k => by rw [laws_FnMapped.l0]) ?_;refine Ev.neg (by omega) (Ev.bind' _ s1 (Ev.bind' _ s2 (Ev.bind' _ back (Ev.pos rfl (Ev.pos rfl (Ev.pos rfl (Ev.pos ?_ (Ev.neg (show ¬ _ < _ from Int.not_lt.2 e2) (Ev.bind' _ (sameMaps_refl m hml) ?_)))))))))
  · show cnt _ 200 = wrap64 (cnt _ 200 + b)
    rw [w64 (by omega) (by omega)];exact e1
  · refine Ev.step (fun k => by rw [laws_FnMapped.j4]) ?_
    refine Ev.neg Bool.false_ne_true (Ev.bind' _ (sameExtents_one ⟨c, b⟩) (Ev.pos rfl (Ev.bind' _ (impl_GoodMap_ev x hxl) ?_)));rw [decide_eq_true hx];exact Ev.now _
theorem mapped_loop (m x : List Pc) (a b c : Int) (e : Bool) (hm : Good m) (hx : Good x) (hp : IsPiece ⟨a, b, c, e⟩) (hn : ∀ n : Nat, Holds ⟨a, b, c, e⟩ n → (cellAt m n).f0 ≠ true) (hc : ∀ n : Nat, cellAt x n = if Holds ⟨a, b, c, e⟩ n then ⟨true, c + ((n : Int) - a), e⟩ else cellAt m n) : ∀ d n : Nat, 200 - n = d → n ≤ 200 →
    Ev (fun k => laws_FnMapped.l0 k (n : Int) m a b c e x) true := by
  have hp' := hp;unfold IsPiece at hp';simp only at hp';intro d
  induction d with
  | zero =>
    intro n hd hle
    obtain rfl : n = 200 := by omega
    exact mapped_end m x a b c e hm hx hp hn hc
  | succ d ih =>
    intro n hd hle
    have hlt : n < 200 := by omega
    have nx := ih (n + 1) (by omega) (by omega)
    have hw : wrap64 ((n : Int) + 1) = ((n + 1 : Nat) : Int) := by rw [w64 (by omega) (by omega)]; rfl
    have b1 := blockAt_ev m hm n hlt;have b2 := blockAt_ev x hx n hlt;rw [hc n] at b2;refine Ev.step (fun k => by rw [laws_FnMapped.l0]) ?_
    by_cases h : Holds ⟨a, b, c, e⟩ n
    · rw [if_neg (hn n h)] at b1
      rw [if_pos h] at b2;rw [if_pos rfl] at b2;have h' := h;unfold Holds at h';simp only at h';refine Ev.pos (by omega) (Ev.bind' _ b1 (Ev.bind' _ b2 (Ev.pos rfl ?_)));refine Ev.step (fun k => by rw [laws_FnMapped.j2]) ?_;refine Ev.neg Bool.false_ne_true (Ev.pos (by omega) ?_);rw [w64 (x := a + b) (by omega) (by omega), decide_eq_true h'.2];refine Ev.step (fun k => by rw [laws_FnMapped.j3]) ?_;refine Ev.pos rfl (Ev.pos rfl (Ev.pos ?_ (Ev.neg (by simp) ?_)))
      · rw [w64 (x := c + (n : Int)) (by omega) (by omega), w64 (x := c + (n : Int) - a) (by omega) (by omega)]
        show c + ((n : Int) - a) = c + (n : Int) - a
        omega
      · rw [hw]; exact nx
    · rw [if_neg h] at b2
      have h' := h;unfold Holds at h';simp only at h'
      have j3 : ∀ (u : Int) (f : Bool), Ev (fun k => laws_FnMapped.j3 k (n : Int) u f u f false m a b c e x) true := fun u f => by
        refine Ev.step (fun k => by rw [laws_FnMapped.j3]) ?_;refine Ev.neg Bool.false_ne_true (Ev.pos rfl (Ev.neg (by simp) ?_));rw [hw]; exact nx
      have j2 : ∀ (u : Int) (f : Bool), Ev (fun k => laws_FnMapped.j2 k (n : Int) u f u f (!true) m a b c e x) true := fun u f => by
        refine Ev.step (fun k => by rw [laws_FnMapped.j2]) ?_;refine Ev.neg Bool.false_ne_true (Ev.ite (fun q => ?_) (fun _ => j3 u f));rw [w64 (x := a + b) (by omega) (by omega), decide_eq_false (fun r => h' ⟨by omega, r⟩)];exact j3 u f
      by_cases q : (cellAt m n).f0 = true
      · rw [if_pos q] at b1 b2
        exact Ev.pos (by omega) (Ev.bind' _ b1 (Ev.bind' _ b2 (Ev.pos rfl (j2 _ _))))
      · rw [if_neg q] at b1 b2
        exact Ev.pos (by omega) (Ev.bind' _ b1 (Ev.bind' _ b2 (Ev.pos rfl (j2 _ _))))
theorem FnMapped : laws_FnMapped.Pure := by
  intro l0 ho;have hb := bytes_of ho.2
  suffices h : Ev (fun k => laws_FnMapped.f k l0) true by
    obtain ⟨K, h⟩ := h;exact ⟨K, h K (Nat.le_refl _)⟩
  unfold laws_FnMapped.f;refine Ev.ite (fun _ => Ev.now _) (fun _ => ?_);obtain ⟨⟨m, p1, q1⟩, em, hml, hp0, hp1⟩ := fileMap_ok l0 hb;have hml' : m.length ≤ 40 := hml;obtain ⟨a, b, c, e, p2, q2, ep, _, _⟩ := piece_ok l0 hb p1 q1 hp0 (by have : p1 ≤ 1000100 := hp1; omega)
  have ed : Ev (fun k => spec_DrawMapPiece.f k l0) (m, a, b, c, e) := by
    unfold spec_DrawMapPiece.f;exact Ev.bind' _ em (Ev.bindc _ ep (Ev.now _))
  obtain ⟨⟨x, ok⟩, es, ei, hok⟩ := mapPiece_evs m (by omega) ⟨a, b, c, e⟩
  have j0 : Ev (fun k => laws_FnMapped.j0 k ok false m a b c e x) true := by
    refine Ev.step (fun k => by rw [laws_FnMapped.j0]) ?_;refine Ev.neg Bool.false_ne_true ?_
    cases ok with
    | true =>
      obtain ⟨hm, hp, hn, hx, hc⟩ := hok.1 rfl;exact Ev.pos rfl (mapped_loop m x a b c e hm hx hp hn hc 200 0 rfl (Nat.zero_le _))
    | false =>
      have hx : x = [] := hok.2 rfl;exact Ev.neg Bool.false_ne_true (Ev.now' (by rw [hx]; rfl))
  have hxl : x.length ≤ 1048576 := by
    cases ok with
    | true => have := (hok.1 rfl).2.2.2.1.1; have h2 : x.length ≤ 40 := this; omega
    | false => have hx : x = [] := hok.2 rfl; rw [hx]; exact Nat.zero_le _
  refine Ev.bind' _ ed (Ev.bind' _ ei (Ev.bind' _ es (Ev.neg (by simp) (Ev.bind' _ (sameMaps_refl x hxl) (Ev.pos rfl (Ev.bind' _ (impl_GoodMap_ev m (by omega)) (Ev.bind' _ (spec_GoodMap_ev m (by omega)) ?_)))))));rw [show (decide (Good m) != decide (Good m)) = false by simp];exact j0
end Go.Proofs.Ytebhdnihmkndlaa.Q
