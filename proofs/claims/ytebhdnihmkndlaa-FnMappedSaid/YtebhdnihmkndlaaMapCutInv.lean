import Derived.Test.YtebhdnihmkndlaaMapTheory
namespace Go.Proofs.Ytebhdnihmkndlaa.Q
open Go.RowKit Go.Proofs.YtebhdnihmkndlaaW.PrintWords Go.Proofs.Ytebhdnihmkndlaa.G
set_option linter.unusedVariables false
set_option linter.unusedSimpArgs false

/-- A part of a piece. -/
def Part (p q : Pc) : Prop := q.f0 ≤ p.f0 ∧ 1 ≤ p.f1 ∧ p.f0 + p.f1 ≤ q.f0 + q.f1 ∧ p.f2 - p.f0 = q.f2 - q.f0 ∧ p.f3 = q.f3
/-- What the reference's cut holds after i pieces. -/
structure CutInv (l : List Pc) (fr en : Int) (i : Nat) (o q : List Pc) : Prop where
  co : Canon o
  oq : Ord q
  iq : ∀ p, p ∈ q → fr ≤ p.f0 ∧ p.f0 + p.f1 ≤ en
  io : ∀ p, p ∈ o → p.f0 + p.f1 ≤ fr ∨ en ≤ p.f0 ∨ en ≤ fr
  so : ∀ p, p ∈ o → ∃ j, j < i ∧ Part p (l.getD j pz)
  sq : ∀ p, p ∈ q → ∃ j, j < i ∧ Part p (l.getD j pz)
  ho : ∀ j, j < i → ∀ n : Nat, Holds (l.getD j pz) n → ¬ (fr ≤ (n : Int) ∧ (n : Int) < en) → ∃ p, p ∈ o ∧ Holds p n
  lo : (∀ j, j < l.length → (l.getD j pz).f0 + (l.getD j pz).f1 ≤ en) → o.length ≤ i
  hq : ∀ j, j < i → ∀ n : Nat, Holds (l.getD j pz) n → (fr ≤ (n : Int) ∧ (n : Int) < en) → ∃ p, p ∈ q ∧ Holds p n
theorem inR_part {p q : Pc} (h : Part p q) (hq : InR q) : InR p := by
  unfold Part at h;unfold InR at hq ⊢
  omega
theorem last_mem {l : List Pc} (h : 0 < l.length) : l.getD (l.length - 1) pz ∈ l := getD_mem l _ pz (by omega)
/-- One part more of a piece that comes behind. -/
theorem canon_part {l o : List Pc} {i : Nat} {r : Pc} (hc : Canon l) (hi : i < l.length) (co : Canon o) (so : ∀ p, p ∈ o → ∃ j, j < i ∧ Part p (l.getD j pz)) (hr : Part r (l.getD i pz)) : Canon (o ++ [r]) := by
  refine canon_snoc co (inR_part hr (hc.1.1 i hi)) fun h0 => ?_
  obtain ⟨j, hj, hp⟩ := so _ (last_mem h0)
  generalize o.getD (o.length - 1) pz = p at hp ⊢
  have h1 := ord_lt hc.1 j i hj hi;have hr' := hr;have hp' := hp;unfold Part at hr' hp';refine ⟨by omega, fun hg => ?_⟩;unfold Goes at hg;have hq := hc.1.1 i hi;unfold InR at hq
  by_cases e : j + 1 = i
  · subst e
    refine hc.2 j hi ⟨by omega, by omega, ?_⟩;rw [← hp'.2.2.2.2, hg.2.2, hr'.2.2.2.2]
  · have h2 := ord_lt hc.1 j (i - 1) (by omega) (by omega)
    have h3 := ord_lt hc.1 (i - 1) i (by omega) hi;have h4 := hc.1.1 (i - 1) (by omega);unfold InR at h4
    omega
theorem ord_part {l o : List Pc} {i : Nat} {r : Pc} (hc : Ord l) (hi : i < l.length) (co : Ord o) (so : ∀ p, p ∈ o → ∃ j, j < i ∧ Part p (l.getD j pz)) (hr : Part r (l.getD i pz)) : Ord (o ++ [r]) := by
  refine ord_snoc co (inR_part hr (hc.1 i hi)) fun h0 => ?_
  obtain ⟨j, hj, hp⟩ := so _ (last_mem h0)
  generalize o.getD (o.length - 1) pz = p at hp ⊢
  have h1 := ord_lt hc j i hj hi;unfold Part at hr hp
  omega
/-- A piece that lies without the stretch. -/
theorem inv_out {l : List Pc} {fr en : Int} {i : Nat} {o q : List Pc} (hc : Canon l) (hi : i < l.length) (h : CutInv l fr en i o q) (hx : (l.getD i pz).f0 + (l.getD i pz).f1 ≤ fr ∨ en ≤ (l.getD i pz).f0 ∨ en ≤ fr) (hfe : fr ≤ en) : CutInv l fr en (i + 1) (o ++ [l.getD i pz]) q := by
  have hq := hc.1.1 i hi
  have hpp : Part (l.getD i pz) (l.getD i pz) := by
    unfold InR at hq;unfold Part;exact ⟨by omega, by omega, by omega, by omega, rfl⟩
  refine ⟨canon_part hc hi h.co h.so hpp, h.oq, h.iq, fun p hp => ?_, fun p hp => ?_, fun p hp => ?_, fun j hj n hn hr => ?_, fun ha => ?_, fun j hj n hn hr => ?_⟩
  · rcases List.mem_append.1 hp with hp | hp
    · exact h.io p hp
    · rw [List.mem_singleton.1 hp]; exact hx
  · rcases List.mem_append.1 hp with hp | hp
    · obtain ⟨j, h1, h2⟩ := h.so p hp
      exact ⟨j, by omega, h2⟩
    · rw [List.mem_singleton.1 hp]; exact ⟨i, by omega, hpp⟩
  · obtain ⟨j, h1, h2⟩ := h.sq p hp
    exact ⟨j, by omega, h2⟩
  · by_cases e : j = i
    · subst e
      exact ⟨_, List.mem_append_right _ (List.mem_singleton_self _), hn⟩
    · obtain ⟨p, h1, h2⟩ := h.ho j (by omega) n hn hr
      exact ⟨p, List.mem_append_left _ h1, h2⟩
  · have := h.lo ha
    rw [List.length_append, List.length_singleton]
    omega
  · by_cases e : j = i
    · subst e
      unfold Holds at hn
      omega
    · exact h.hq j (by omega) n hn hr
/-- A piece of which some lies within: what stays at the left, and at the right, and what is within. -/
theorem inv_mid {l : List Pc} {fr en : Int} {i : Nat} {o q : List Pc} (hc : Canon l) (hi : i < l.length) (h : CutInv l fr en i o q) (lo hi' : Int) (h1 : lo = fr ∧ (l.getD i pz).f0 < fr ∨ lo = (l.getD i pz).f0 ∧ fr ≤ (l.getD i pz).f0) (h2 : hi' = en ∧ en < (l.getD i pz).f0 + (l.getD i pz).f1 ∨ hi' = (l.getD i pz).f0 + (l.getD i pz).f1 ∧ (l.getD i pz).f0 + (l.getD i pz).f1 ≤ en) (hlt : lo < hi') (L R : List Pc)
    (hL : (L = [⟨(l.getD i pz).f0, lo - (l.getD i pz).f0, (l.getD i pz).f2, (l.getD i pz).f3⟩] ∧ (l.getD i pz).f0 < lo) ∨ (L = [] ∧ lo = (l.getD i pz).f0))
    (hR : (R = [⟨hi', (l.getD i pz).f0 + (l.getD i pz).f1 - hi', (l.getD i pz).f2 + hi' - (l.getD i pz).f0, (l.getD i pz).f3⟩] ∧ hi' < (l.getD i pz).f0 + (l.getD i pz).f1) ∨ (R = [] ∧ hi' = (l.getD i pz).f0 + (l.getD i pz).f1)) :
    CutInv l fr en (i + 1) (o ++ L ++ R) (q ++ [⟨lo, hi' - lo, (l.getD i pz).f2 + lo - (l.getD i pz).f0, (l.getD i pz).f3⟩]) := by
  have hq := hc.1.1 i hi;have hq' := hq;unfold InR at hq'
  have pM : Part ⟨lo, hi' - lo, (l.getD i pz).f2 + lo - (l.getD i pz).f0, (l.getD i pz).f3⟩ (l.getD i pz) := by
    unfold Part;exact ⟨by first | (simp only; done) | (simp only; omega) | omega, by first | (simp only; done) | (simp only; omega) | omega, by first | (simp only; done) | (simp only; omega) | omega, by first | (simp only; done) | (simp only; omega) | omega, rfl⟩
  have pL : ∀ p, p ∈ L → Part p (l.getD i pz) ∧ p.f0 + p.f1 = fr ∧ p.f0 = (l.getD i pz).f0 ∧ p.f0 + p.f1 = lo := fun p hp => by
    rcases hL with ⟨rfl, e⟩ | ⟨rfl, _⟩
    · rw [List.mem_singleton.1 hp]
      unfold Part;exact ⟨⟨by first | (simp only; done) | (simp only; omega) | omega, by first | (simp only; done) | (simp only; omega) | omega, by first | (simp only; done) | (simp only; omega) | omega, by first | (simp only; done) | (simp only; omega) | omega, rfl⟩, by first | (simp only; done) | (simp only; omega) | omega, rfl, by first | (simp only; done) | (simp only; omega) | omega⟩
    · cases hp
  have pR : ∀ p, p ∈ R → Part p (l.getD i pz) ∧ p.f0 = en ∧ p.f0 = hi' ∧ p.f0 + p.f1 = (l.getD i pz).f0 + (l.getD i pz).f1 := fun p hp => by
    rcases hR with ⟨rfl, e⟩ | ⟨rfl, _⟩
    · rw [List.mem_singleton.1 hp]
      unfold Part;exact ⟨⟨by first | (simp only; done) | (simp only; omega) | omega, by first | (simp only; done) | (simp only; omega) | omega, by first | (simp only; done) | (simp only; omega) | omega, by first | (simp only; done) | (simp only; omega) | omega, rfl⟩, by first | (simp only; done) | (simp only; omega) | omega, rfl, by first | (simp only; done) | (simp only; omega) | omega⟩
    · cases hp
  have cL : Canon (o ++ L) := by
    rcases hL with ⟨rfl, e⟩ | ⟨rfl, _⟩
    · exact canon_part hc hi h.co h.so (pL _ (List.mem_singleton_self _)).1
    · rw [List.append_nil]; exact h.co
  have cR : Canon (o ++ L ++ R) := by
    rcases hR with ⟨rfl, e⟩ | ⟨rfl, _⟩
    · have pr := pR _ (List.mem_singleton_self _)
      refine canon_snoc cL (inR_part pr.1 hq) fun h0 => ?_
      have hm := last_mem h0
      generalize (o ++ L).getD ((o ++ L).length - 1) pz = p at hm ⊢
      have hlast : p.f0 + p.f1 < hi' := by
        rcases List.mem_append.1 hm with hm | hm
        · obtain ⟨j, hj, hp⟩ := h.so p hm
          have := ord_lt hc.1 j i hj hi;unfold Part at hp
          omega
        · have := pL p hm
          omega
      refine ⟨by first | (simp only; done) | (simp only; omega) | omega, fun hg => ?_⟩;unfold Goes at hg;simp only at hg
      omega
    · rw [List.append_nil]; exact cL
  refine ⟨cR, ord_part hc.1 hi h.oq h.sq pM, fun p hp => ?_, fun p hp => ?_, fun p hp => ?_, fun p hp => ?_, fun j hj n hn hr => ?_, fun ha => ?_, fun j hj n hn hr => ?_⟩
  · rcases List.mem_append.1 hp with hp | hp
    · exact h.iq p hp
    · rw [List.mem_singleton.1 hp]; exact ⟨by first | (simp only; done) | (simp only; omega) | omega, by first | (simp only; done) | (simp only; omega) | omega⟩
  · rcases List.mem_append.1 hp with hp | hp
    · rcases List.mem_append.1 hp with hp | hp
      · exact h.io p hp
      · have := pL p hp; omega
    · have := pR p hp; omega
  · rcases List.mem_append.1 hp with hp | hp
    · rcases List.mem_append.1 hp with hp | hp
      · obtain ⟨j, a, b⟩ := h.so p hp
        exact ⟨j, by omega, b⟩
      · exact ⟨i, by omega, (pL p hp).1⟩
    · exact ⟨i, by omega, (pR p hp).1⟩
  · rcases List.mem_append.1 hp with hp | hp
    · obtain ⟨j, a, b⟩ := h.sq p hp
      exact ⟨j, by omega, b⟩
    · rw [List.mem_singleton.1 hp]; exact ⟨i, by omega, pM⟩
  · by_cases e : j = i
    · subst e
      unfold Holds at hn
      by_cases e2 : (n : Int) < lo
      · rcases hL with ⟨rfl, e3⟩ | ⟨rfl, e3⟩
        · refine ⟨_, List.mem_append_left _ (List.mem_append_right _ (List.mem_singleton_self _)), ?_⟩
          unfold Holds;simp only
          omega
        · omega
      · rcases hR with ⟨rfl, e3⟩ | ⟨rfl, e3⟩
        · refine ⟨_, List.mem_append_right _ (List.mem_singleton_self _), ?_⟩
          unfold Holds;simp only
          omega
        · omega
    · obtain ⟨p, a, b⟩ := h.ho j (by omega) n hn hr
      exact ⟨p, List.mem_append_left _ (List.mem_append_left _ a), b⟩
  · have := h.lo ha
    have hai := ha i hi;rw [List.length_append, List.length_append]
    rcases hR with ⟨_, e⟩ | ⟨rfl, _⟩
    · omega
    · rcases hL with ⟨rfl, _⟩ | ⟨rfl, _⟩
      · simp only [List.length_singleton, List.length_nil]; omega
      · simp only [List.length_nil]; omega
  · by_cases e : j = i
    · subst e
      unfold Holds at hn;refine ⟨_, List.mem_append_right _ (List.mem_singleton_self _), ?_⟩;unfold Holds;simp only
      omega
    · obtain ⟨p, a, b⟩ := h.hq j (by omega) n hn hr
      exact ⟨p, List.mem_append_left _ a, b⟩
/-- The cells of what is without the stretch. -/
theorem cut_out {l o q : List Pc} {fr en : Int} (hc : Canon l) (h : CutInv l fr en l.length o q) (n : Nat) : cellAt o n = if fr ≤ (n : Int) ∧ (n : Int) < en then z55 else cellAt l n := by
  by_cases e : fr ≤ (n : Int) ∧ (n : Int) < en
  · rw [if_pos e]
    refine cellAt_none fun p hp hn => ?_
    have := h.io p hp;unfold Holds at hn
    omega
  · rw [if_neg e]
    rcases cellAt_cases hc.1 n with ⟨p, hp, hpn, e1⟩ | ⟨hno, e1⟩
    · obtain ⟨j, hj, rfl⟩ := mem_getD pz hp
      obtain ⟨r, hr, hrn⟩ := h.ho j hj n hpn e;obtain ⟨m, hm, hpart⟩ := h.so r hr;rw [cellAt_mem h.co.1 hr hrn];unfold Part at hpart;have e2 := cellAt_in hc.1 m hm n (by unfold Holds at hrn ⊢; omega);rw [e2, hpart.2.2.2.2]
      congr 1
      omega
    · rw [e1]
      refine cellAt_none fun p hp hn => ?_
      obtain ⟨m, hm, hpart⟩ := h.so p hp;refine hno _ (getD_mem l m pz hm) ?_;unfold Part at hpart;unfold Holds at hn ⊢
      omega
/-- .. within. -/
theorem cut_in {l o q : List Pc} {fr en : Int} (hc : Canon l) (h : CutInv l fr en l.length o q) (n : Nat) : cellAt q n = if fr ≤ (n : Int) ∧ (n : Int) < en then cellAt l n else z55 := by
  by_cases e : fr ≤ (n : Int) ∧ (n : Int) < en
  · rw [if_pos e]
    rcases cellAt_cases hc.1 n with ⟨p, hp, hpn, e1⟩ | ⟨hno, e1⟩
    · obtain ⟨j, hj, rfl⟩ := mem_getD pz hp
      obtain ⟨r, hr, hrn⟩ := h.hq j hj n hpn e;obtain ⟨m, hm, hpart⟩ := h.sq r hr;rw [cellAt_mem h.oq hr hrn];unfold Part at hpart;have e2 := cellAt_in hc.1 m hm n (by unfold Holds at hrn ⊢; omega);rw [e2, hpart.2.2.2.2]
      congr 1
      omega
    · rw [e1]
      refine cellAt_none fun p hp hn => ?_
      obtain ⟨m, hm, hpart⟩ := h.sq p hp;refine hno _ (getD_mem l m pz hm) ?_;unfold Part at hpart;unfold Holds at hn ⊢
      omega
  · rw [if_neg e]
    refine cellAt_none fun p hp hn => ?_
    have := h.iq p hp;unfold Holds at hn
    omega
end Go.Proofs.Ytebhdnihmkndlaa.Q
