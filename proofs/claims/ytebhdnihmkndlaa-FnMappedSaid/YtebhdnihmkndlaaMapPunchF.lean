import Derived.Test.YtebhdnihmkndlaaMapParts
import Derived.Test.YtebhdnihmkndlaaMapStretch
import Derived.Test.YtebhdnihmkndlaaMapBlocks
import Derived.Test.YtebhdnihmkndlaaG4
import Derived.Test.YtebhdnihmkndlaaG7
namespace Go.Proofs.Ytebhdnihmkndlaa.Q
open Go.RowKit Go.Proofs.YtebhdnihmkndlaaW.PrintWords Go.Proofs.Ytebhdnihmkndlaa.G
set_option linter.unusedVariables false
set_option linter.unusedSimpArgs false

theorem cut_len (l : List Pc) (a b : Nat) (h : a + b ≤ 200) : (((cellsOf l).take (a + b)).drop a).length = b := by
  rw [List.length_drop, List.length_take, cellsOf_length]; omega
theorem cut_get (l : List Pc) (a b n : Nat) (h : a + b ≤ 200) (hn : n < b) : (((cellsOf l).take (a + b)).drop a).getD n z55 = cellAt l (a + n) := by
  rw [← cellsOf_get l (a + n) (by omega)];simp only [List.getD_eq_getElem?_getD, List.getElem?_drop, List.getElem?_take];rw [if_pos (by omega)]
theorem cleared_len (l : List Pc) (a b : Nat) (h : a + b ≤ 200) : ((cellsOf l).take a ++ List.replicate b z55 ++ (cellsOf l).drop (a + b)).length = 200 := by
  rw [List.length_append, List.length_append, List.length_take, List.length_replicate, List.length_drop, cellsOf_length]; omega
theorem cleared_get (l : List Pc) (a b n : Nat) (h : a + b ≤ 200) (hn : n < 200) : ((cellsOf l).take a ++ List.replicate b z55 ++ (cellsOf l).drop (a + b)).getD n z55 = if a ≤ n ∧ n < a + b then z55 else cellAt l n := by
  have e := cellsOf_get l n hn;have hl := cellsOf_length l;simp only [List.getD_eq_getElem?_getD] at e ⊢
  have h1 : ((cellsOf l).take a).length = a := by rw [List.length_take]; omega
  have h2 : ((cellsOf l).take a ++ List.replicate b z55).length = a + b := by rw [List.length_append, h1, List.length_replicate]
  by_cases c1 : n < a
  · rw [if_neg (by omega), List.getElem?_append_left (by omega), List.getElem?_append_left (by omega), List.getElem?_take, if_pos c1]
    exact e
  · by_cases c2 : n < a + b
    · rw [if_pos (by omega), List.getElem?_append_left (by omega), List.getElem?_append_right (by omega), h1, List.getElem?_replicate, if_pos (by omega)]
      rfl
    · rw [if_neg (by omega), List.getElem?_append_right (by omega), h2, List.getElem?_drop, show a + b + (n - (a + b)) = n by omega]
      exact e
/-- A stretch cut out, by the reference: some answer; a map that is told is good. -/
theorem punch_ok (l : List Pc) (hg : Good l) (a b : Int) : ∃ r, Ev (fun k => spec_PunchMap.f k l a b) r ∧ (r.2.2 = true → Good r.1) := by
  have hl : l.length ≤ 1048576 := by have := hg.1; omega
  have g1 := spec_GoodMap_ev l hl;obtain ⟨x, hx1, hx2⟩ := stretch_eq a b;unfold spec_PunchMap.f
  cases x with
  | true =>
    have hs := hx2.1 rfl;have hc := good_canon hg.2;unfold Str at hs;obtain ⟨o, q, hcut, inv⟩ := cut_ev l hc a b (by omega) (by omega) (by omega);obtain ⟨E, hE1, _, _⟩ := cut_extents hg (by omega) (by omega) inv;have hol := ord_length inv.co.1;refine ⟨if Good o then (o, E, true) else ([], [], false), Ev.bind' _ g1 (Ev.pos (by simpa using hg) (Ev.bindc true hx1 ?_)), ?_⟩
    · refine Ev.step (fun k => by rw [spec_PunchMap.j0]) (Ev.neg (by simp) (Ev.bind' _ hcut (Ev.bind' _ (spec_GoodMap_ev o (by omega)) ?_)))
      by_cases hgo : Good o
      · rw [if_pos hgo]
        exact Ev.pos (decide_eq_true hgo) (Ev.bind' _ hE1 (Ev.now _))
      · rw [if_neg hgo]
        exact Ev.neg (by simpa using hgo) (Ev.now _)
    · by_cases hgo : Good o
      · rw [if_pos hgo]; exact fun _ => hgo
      · rw [if_neg hgo]; exact fun h => by cases h
  | false =>
    refine ⟨([], [], false), Ev.bind' _ g1 (Ev.pos (by simpa using hg) (Ev.bindc _ hx1 ?_)), fun h => by cases h⟩;refine Ev.step (fun k => by rw [spec_PunchMap.j0]) ?_;exact Ev.pos rfl (Ev.now _)
/-- Cut out of a map where a piece was put into m: m comes back, and the piece's blocks. -/
theorem punch_back (m x : List Pc) (hm : Good m) (hx : Good x) (p : Pc) (hp : IsPiece p) (hn : ∀ n : Nat, Holds p n → (cellAt m n).f0 ≠ true) (hc : ∀ n : Nat, cellAt x n = if Holds p n then ⟨true, p.f2 + ((n : Int) - p.f0), p.f3⟩ else cellAt m n) :
    Ev (fun k => impl_PunchMap.f k x p.f0 p.f1) (m, [(⟨p.f2, p.f1⟩ : Ex)], true) := by
  have hl : x.length ≤ 1048576 := by have := hx.1; omega
  have hp' := hp;unfold IsPiece at hp';have hcx := good_canon hx.2;have hcm := good_canon hm.2;obtain ⟨y, hy1, hy2⟩ := isRange_ev x hl p.f0 p.f1;obtain rfl : y = true := hy2.2 ⟨hx, by unfold Str; omega⟩;obtain ⟨a', ha⟩ : ∃ a' : Nat, p.f0 = (a' : Int) := ⟨p.f0.toNat, by omega⟩;obtain ⟨b', hb⟩ : ∃ b' : Nat, p.f1 = (b' : Int) := ⟨p.f1.toNat, by omega⟩
  have hab : a' + b' ≤ 200 := by omega
  have hin : ∀ n : Nat, Holds p n ↔ a' ≤ n ∧ n < a' + b' := fun n => by unfold Holds; omega
  have hz : ∀ n : Nat, (cellAt m n).f0 ≠ true → cellAt m n = z55 := fun n h => by
    unfold cellAt at h ⊢
    split at h
    · exact absurd rfl h
    · rfl
  have hmap := mapOf_ev ((cellsOf x).take a' ++ List.replicate b' z55 ++ (cellsOf x).drop (a' + b')) m hcm (by rw [cleared_len x _ _ hab]; omega) (fun i hi => by
    rw [cleared_len x _ _ hab];have h2 := hcm.1.1 i hi;unfold InR at h2
    omega) (fun n hn2 => by
    rw [cleared_len x _ _ hab] at hn2;rw [cleared_get x _ _ _ hab hn2, hc n]
    by_cases e : a' ≤ n ∧ n < a' + b'
    · rw [if_pos e, hz n (hn n ((hin n).2 e))]
    · rw [if_neg e, if_neg (fun h => e ((hin n).1 h))])
  rw [if_pos hm] at hmap
  have hE : ECanon 400 [(⟨p.f2, p.f1⟩ : Ex)] := by
    refine ⟨⟨fun i hi => ?_, fun i hi => ?_⟩, fun i hi => ?_⟩
    · obtain rfl : i = 0 := by simpa using hi
      show EIn 400 ⟨p.f2, p.f1⟩
      unfold EIn;simp only
      omega
    · simp at hi
    · simp at hi
  have hcut : ∀ n, n < b' → (((cellsOf x).take (a' + b')).drop a').getD n z55 = ⟨true, p.f2 + (n : Int), p.f3⟩ := fun n hn2 => by
    rw [cut_get x _ _ _ hab hn2, hc (a' + n), if_pos ((hin _).2 (by omega))]
    congr 1
    omega
  have hblk := blocksIn_ev (((cellsOf x).take (a' + b')).drop a') (by rw [cut_len x _ _ hab]; omega) (fun n hn2 hf => by
    rw [cut_len x _ _ hab] at hn2;rw [hcut n hn2]
    show 0 ≤ p.f2 + (n : Int) ∧ p.f2 + (n : Int) < 400
    omega) _ hE (fun b hb2 => by
    rw [cut_len x _ _ hab];unfold InE EHolds;simp only [List.mem_singleton, exists_eq_left]
    constructor
    · intro h
      refine ⟨((b : Int) - p.f2).toNat, by omega, ?_, ?_⟩
      · rw [hcut _ (by omega)]
      · rw [hcut _ (by omega)]
        show p.f2 + _ = _
        omega
    · rintro ⟨n, hn2, _, e⟩
      rw [hcut n hn2] at e;have e' : p.f2 + (n : Int) = (b : Int) := e
      omega)
  unfold impl_PunchMap.f;refine Ev.bind' _ hy1 (Ev.pos rfl (Ev.bind' _ (cells_ev x hx.2 hl) ?_));rw [ha, hb] at *;rw [w64 (x := (a' : Int) + (b' : Int)) (by omega) (by omega), cellsOf_length, show ((a' : Int) + (b' : Int)).toNat = a' + b' by omega, Int.toNat_natCast];refine Ev.pos (by omega) (Ev.pos (by omega) (Ev.pos (by omega) (Ev.bindc _ rfl (Ev.bind' _ hblk ?_))));rw [cut_len x _ _ hab];exact Ev.bind' _ hmap (Ev.pos rfl (Ev.now _))
end Go.Proofs.Ytebhdnihmkndlaa.Q
