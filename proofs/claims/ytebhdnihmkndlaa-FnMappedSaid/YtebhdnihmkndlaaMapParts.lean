import Derived.Test.YtebhdnihmkndlaaMapCanon
import Derived.Test.YtebhdnihmkndlaaMapCut
import Derived.Test.YtebhdnihmkndlaaMapBlocks
namespace Go.Proofs.Ytebhdnihmkndlaa.Q
open Go.RowKit Go.Proofs.YtebhdnihmkndlaaW.PrintWords Go.Proofs.Ytebhdnihmkndlaa.G
set_option linter.unusedVariables false
set_option linter.unusedSimpArgs false

/-- Parts of a good map's pieces lie apart on the device. -/
theorem parts_apart {l m : List Pc} (hg : Good l) (hm : Ord m) (hs : ∀ p, p ∈ m → ∃ j, j < l.length ∧ Part p (l.getD j pz)) : ∀ i j, i < j → j < m.length → Apart (m.getD i pz) (m.getD j pz) := by
  intro i j hij hj;obtain ⟨u, hu, pu⟩ := hs _ (getD_mem m i pz (by omega));obtain ⟨v, hv, pv⟩ := hs _ (getD_mem m j pz hj);have h1 := ord_lt hm i j hij hj;unfold Part at pu pv;unfold Apart
  rcases Nat.lt_trichotomy u v with h | h | h
  · have := (hg.2 v hv).2.2 u h
    unfold Apart at this
    omega
  · subst h; omega
  · have := (hg.2 u hu).2.2 v h
    unfold Apart at this
    omega
/-- Parts of a good map's pieces, in order, none going on with the one before: a good map, if they are not too many. -/
theorem parts_good {l m : List Pc} (hg : Good l) (hm : Canon m) (hs : ∀ p, p ∈ m → ∃ j, j < l.length ∧ Part p (l.getD j pz)) (hn : m.length ≤ 40) : Good m := by
  refine ⟨hn, fun i hi => ⟨hm.1.1 i hi, fun h0 => ?_, fun j hj => parts_apart hg hm.1 hs j i hj hi⟩⟩;have a := hm.1.2 (i - 1) (by omega);have b := hm.2 (i - 1) (by omega);rw [show i - 1 + 1 = i by omega] at a b;exact ⟨a, b⟩
/-- The extents of what was cut out are the blocks of its cells. -/
theorem cut_extents {l o q : List Pc} {fr en : Int} (hg : Good l) (h0 : 0 ≤ fr) (h2 : en ≤ 200) (inv : CutInv l fr en l.length o q) : ∃ E, Ev (fun k => spec_l9Extents.f k q) E ∧ ECanon 400 E ∧ ∀ b : Nat, InE E b ↔ ∃ n : Nat, (fr ≤ (n : Int) ∧ (n : Int) < en) ∧ (cellAt l n).f0 = true ∧ (cellAt l n).f1 = (b : Int) := by
  have hc := good_canon hg.2;have hql := ord_length inv.oq;obtain ⟨E, h1, h2', h3⟩ := extents_ev q (fun p hp => ord_inr inv.oq hp) (parts_apart hg inv.oq inv.sq) (by omega);refine ⟨E, h1, h2', fun b => ?_⟩;rw [h3 b]
  constructor
  · rintro ⟨p, hp, hpb⟩
    have hi := ord_inr inv.oq hp;have hr := inv.iq p hp;unfold InR at hi;unfold PHolds at hpb
    have hn : Holds p (p.f0 + ((b : Int) - p.f2)).toNat := by unfold Holds; omega
    have hin : fr ≤ (((p.f0 + ((b : Int) - p.f2)).toNat : Nat) : Int) ∧ (((p.f0 + ((b : Int) - p.f2)).toNat : Nat) : Int) < en := by omega
    have e := cut_in hc inv (p.f0 + ((b : Int) - p.f2)).toNat;rw [if_pos hin, cellAt_mem inv.oq hp hn] at e;refine ⟨_, hin, ?_, ?_⟩
    · rw [← e]
    · rw [← e]
      simp only
      omega
  · rintro ⟨n, hin, hf, e⟩
    have e1 := cut_in hc inv n;rw [if_pos hin] at e1;rw [← e1] at hf e
    rcases cellAt_cases inv.oq n with ⟨p, hp, hpn, e2⟩ | ⟨_, e2⟩
    · rw [e2] at e
      refine ⟨p, hp, ?_⟩;unfold Holds at hpn;unfold PHolds;simp only at e
      omega
    · rw [e2] at hf
      cases hf
/-- A cell's block lies on the device. -/
theorem cell_range {l : List Pc} (h : Ord l) (n : Nat) (hf : (cellAt l n).f0 = true) : 0 ≤ (cellAt l n).f1 ∧ (cellAt l n).f1 < 400 := by
  rcases cellAt_cases h n with ⟨p, hp, hpn, e⟩ | ⟨_, e⟩
  · rw [e]
    have := ord_inr h hp;unfold InR at this;unfold Holds at hpn;simp only
    omega
  · rw [e] at hf
    cases hf
theorem cellsOf_drop (l : List Pc) (a n : Nat) (h : a + n < 200) : ((cellsOf l).drop a).getD n z55 = cellAt l (a + n) := by
  rw [← cellsOf_get l (a + n) h]
  simp [List.getD_eq_getElem?_getD]
theorem cellsOf_take (l : List Pc) (a n : Nat) (h : n < a) (h2 : n < 200) : ((cellsOf l).take a).getD n z55 = cellAt l n := by
  rw [← cellsOf_get l n h2]
  simp [List.getD_eq_getElem?_getD, h]
end Go.Proofs.Ytebhdnihmkndlaa.Q
