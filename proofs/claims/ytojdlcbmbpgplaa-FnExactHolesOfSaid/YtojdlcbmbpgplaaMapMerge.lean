import Derived.Test.YtojdlcbmbpgplaaMapTheory
import Derived.Test.YtojdlcbmbpgplaaG21
namespace Go.Proofs.Ytojdlcbmbpgplaa.Q
open Go.RowKit Go.Proofs.YtojdlcbmbpgplaaW.PrintWords Go.Proofs.Ytojdlcbmbpgplaa.G
set_option linter.unusedVariables false
set_option linter.unusedSimpArgs false

/-- Places told one by one, joined to the row E that holds just these. -/
theorem merged_abs (L : Nat → List Ex → Nat → Option (List Ex)) (N : Nat) (hN : N ≤ 1000) (E : List Ex) (hE : ECanon (N : Int) E)
    (hend : ∀ out, Ev (fun k => L k out N) out)
    (hskip : ∀ out n, n < N → ¬ InE E n → Ev (fun k => L k out (n + 1)) E → Ev (fun k => L k out n) E)
    (hjoin : ∀ out n, n < N → InE E n → 0 < out.length → out.length ≤ 1000 → (out.getD (out.length - 1) ez).f0 + (out.getD (out.length - 1) ez).f1 = (n : Int) → 0 ≤ (out.getD (out.length - 1) ez).f0 → 0 ≤ (out.getD (out.length - 1) ez).f1 → Ev (fun k => L k (out.set (out.length - 1) ⟨(out.getD (out.length - 1) ez).f0, (out.getD (out.length - 1) ez).f1 + 1⟩) (n + 1)) E → Ev (fun k => L k out n) E)
    (hpush : ∀ out n, n < N → InE E n → out.length ≤ 1000 → (0 < out.length → (out.getD (out.length - 1) ez).f0 + (out.getD (out.length - 1) ez).f1 ≠ (n : Int) ∧ 0 ≤ (out.getD (out.length - 1) ez).f0 ∧ 0 ≤ (out.getD (out.length - 1) ez).f1 ∧ (out.getD (out.length - 1) ez).f0 + (out.getD (out.length - 1) ez).f1 ≤ 1000) → Ev (fun k => L k (out ++ [⟨(n : Int), 1⟩]) (n + 1)) E → Ev (fun k => L k out n) E) :
    Ev (fun k => L k [] 0) E := by
  have hlen : E.length ≤ 1000 := by rcases eord_length hE.1 with h | h <;> omega
  have key : ∀ d n, N - n = d → n ≤ N →
      (∀ i, i ≤ E.length → (∀ j, j < i → (E.getD j ez).f0 + (E.getD j ez).f1 ≤ (n : Int)) → (i < E.length → (n : Int) ≤ (E.getD i ez).f0) → Ev (fun k => L k (E.take i) n) E) ∧
      (∀ i x, i < E.length → 1 ≤ x → (x : Int) ≤ (E.getD i ez).f1 → (n : Int) = (E.getD i ez).f0 + (x : Int) → Ev (fun k => L k (E.take i ++ [⟨(E.getD i ez).f0, (x : Int)⟩]) n) E) := by
    intro d
    induction d with
    | zero =>
      intro n hd hn
      have hnN : n = N := by omega
      subst hnN
      refine ⟨fun i hi ha hb => ?_, fun i x hi h1 h2 h3 => ?_⟩
      · have : i = E.length := by
          by_cases e : i < E.length
          · have h1 := hb e
            have h2 := hE.1.1 i e
            unfold EIn at h2
            omega
          · omega
        subst this
        rw [List.take_length]
        exact hend E
      · have h4 := hE.1.1 i hi
        unfold EIn at h4
        have h5 : (x : Int) = (E.getD i ez).f1 := by omega
        have h6 : i + 1 = E.length := by
          by_cases e : i + 1 < E.length
          · have h7 := ecanon_lt hE i (i + 1) (by omega) e
            have h8 := hE.1.1 (i + 1) e
            unfold EIn at h8
            omega
          · omega
        have h9 : E.take i ++ [⟨(E.getD i ez).f0, (x : Int)⟩] = E := by
          rw [h5]
          have := take_succ_getD E i ez hi
          rw [h6, List.take_length] at this
          exact this.symm
        rw [h9]
        exact hend E
    | succ d ih =>
      intro n hd hn
      obtain ⟨ihA, ihB⟩ := ih (n + 1) (by omega) (by omega)
      have hlt : n < N := by omega
      have modeA : ∀ i, i ≤ E.length → (∀ j, j < i → (E.getD j ez).f0 + (E.getD j ez).f1 ≤ (n : Int)) → (i < E.length → (n : Int) ≤ (E.getD i ez).f0) → Ev (fun k => L k (E.take i) n) E := by
        intro i hi ha hb
        have hti : (E.take i).length = i := by rw [List.length_take]; omega
        by_cases hs : i < E.length ∧ (E.getD i ez).f0 = (n : Int)
        · obtain ⟨hil, h0⟩ := hs
          have hr := hE.1.1 i hil
          unfold EIn at hr
          refine hpush _ n hlt ⟨_, getD_mem E i ez hil, by unfold EHolds; omega⟩ (by omega) (fun h => ?_) ?_
          · rw [hti, take_get _ _ _ _ (by omega)]
            have h1 := ecanon_lt hE (i - 1) i (by omega) hil
            have h2 := hE.1.1 (i - 1) (by omega)
            unfold EIn at h2
            omega
          · have next := ihB i 1 hil (by omega) (by omega) (by omega)
            have e1 : (⟨(E.getD i ez).f0, 1⟩ : Ex) = ⟨(n : Int), 1⟩ := by rw [h0]
            rw [e1] at next
            exact next
        · refine hskip _ n hlt ?_ (ihA i hi (fun j hj => by have := ha j hj; omega) (fun hil => ?_))
          · rintro ⟨e, he, hn⟩
            obtain ⟨j, hj, rfl⟩ := mem_getD ez he
            unfold EHolds at hn
            by_cases e : j < i
            · have := ha j e; omega
            · by_cases e2 : j = i
              · subst e2
                have := hb hj
                exact hs ⟨hj, by omega⟩
              · have h1 := eord_lt hE.1 i j (by omega) hj
                have h2 := hb (by omega)
                have h3 := hE.1.1 i (by omega)
                unfold EIn at h3
                omega
          · have h1 := hb hil
            have : (E.getD i ez).f0 ≠ (n : Int) := fun e => hs ⟨hil, e⟩
            omega
      refine ⟨modeA, fun i x hi h1 h2 h3 => ?_⟩
      by_cases hx : (x : Int) = (E.getD i ez).f1
      · have h4 : E.take i ++ [⟨(E.getD i ez).f0, (x : Int)⟩] = E.take (i + 1) := by rw [hx, take_succ_getD E i ez hi]
        rw [h4]
        refine modeA (i + 1) (by omega) (fun j hj => ?_) (fun hil => ?_)
        · by_cases e : j = i
          · subst e; omega
          · have h5 := eord_lt hE.1 j i (by omega) hi
            have h6 := hE.1.1 i hi
            unfold EIn at h6
            omega
        · have := ecanon_lt hE i (i + 1) (by omega) hil
          omega
      · have hr := hE.1.1 i hi
        unfold EIn at hr
        have hti : (E.take i).length = i := by rw [List.length_take]; omega
        have hl : (E.take i ++ [(⟨(E.getD i ez).f0, (x : Int)⟩ : Ex)]).length - 1 = i := by rw [List.length_append, hti, List.length_singleton]; omega
        have hg : (E.take i ++ [(⟨(E.getD i ez).f0, (x : Int)⟩ : Ex)]).getD i ez = ⟨(E.getD i ez).f0, (x : Int)⟩ := by
          rw [getD_append_right _ _ _ _ (by omega), hti, Nat.sub_self]
          rfl
        refine hjoin _ n hlt ⟨_, getD_mem E i ez hi, by unfold EHolds; omega⟩ (by simp) (by rw [List.length_append, hti, List.length_singleton]; omega) ?_ ?_ ?_ ?_
        · rw [hl, hg]; exact h3.symm
        · rw [hl, hg]; exact hr.1
        · rw [hl, hg]; show (0 : Int) ≤ (x : Int); omega
        · rw [hl, hg, List.set_append_right _ _ (by omega), hti, Nat.sub_self]
          have next := ihB i (x + 1) hi (by omega) (by omega) (by omega)
          exact next
  have := (key N 0 rfl (by omega)).1 0 (by omega) (fun j h => by omega) (fun h => by
    have := hE.1.1 0 h
    unfold EIn at this
    omega)
  rw [List.take_zero] at this
  exact this
theorem setlast_cast (out : List Ex) (h : 0 < out.length) (hb : out.length ≤ 1000) : wrap64 ((out.length : Int) - 1) = ((out.length - 1 : Nat) : Int) := last_cast out h (by omega)
theorem merged_holes_ev (E : List Ex) (N : Nat) (hN : N ≤ 1000) (hE : ECanon (N : Int) E) (cells : List Cell) (hc : N ≤ cells.length) (hh : ∀ n, n < N → (InE E n ↔ (cells.getD n z78).f0 = false)) : Ev (fun k => impl_merged_at_impl_HolesOf_1.f k (N : Int) cells) E := by
  have rdc : ∀ n : Nat, n < N → impl_HolesOf_1.f (n : Int) cells = some (!(cells.getD n z78).f0) := by
    intro n hn
    unfold impl_HolesOf_1.f
    rw [if_pos (by omega), if_pos (by omega)]
    simp [rd_T78]
  unfold impl_merged_at_impl_HolesOf_1.f
  refine merged_abs (fun k out n => impl_merged_at_impl_HolesOf_1.l0 k out (N : Int) (n : Int) cells) N hN E hE ?_ ?_ ?_ ?_
  · intro out
    refine Ev.step (fun k => by rw [impl_merged_at_impl_HolesOf_1.l0]) ?_
    exact Ev.neg (by omega) (Ev.now _)
  · intro out n hn hno next
    refine Ev.step (fun k => by rw [impl_merged_at_impl_HolesOf_1.l0]) ?_
    rw [w64 (x := (n : Int) + 1) (by omega) (by omega)]
    refine Ev.pos (by omega) (Ev.bindc _ (rdc n hn) (Ev.neg ?_ next))
    intro h
    exact hno ((hh n hn).2 (by simpa using h))
  · intro out n hn hin h0 hl he hf0 hf1 next
    refine Ev.step (fun k => by rw [impl_merged_at_impl_HolesOf_1.l0]) ?_
    rw [w64 (x := (n : Int) + 1) (by omega) (by omega), setlast_cast out h0 hl, rde_cast, he, w64 (x := (n : Int)) (by omega) (by omega), w64 (x := (out.getD (out.length - 1) ez).f1 + 1) (by omega) (by omega), Int.toNat_natCast]
    refine Ev.pos (by omega) (Ev.bindc _ (rdc n hn) (Ev.pos ?_ (Ev.pos (by omega) (Ev.pos (by omega) (Ev.pos (by omega) (Ev.pos rfl next))))))
    rw [(hh n hn).1 hin]
    rfl
  · intro out n hn hin hl h0 next
    refine Ev.step (fun k => by rw [impl_merged_at_impl_HolesOf_1.l0]) ?_
    rw [w64 (x := (n : Int) + 1) (by omega) (by omega)]
    refine Ev.pos (by omega) (Ev.bindc _ (rdc n hn) (Ev.pos ?_ ?_))
    · rw [(hh n hn).1 hin]
      rfl
    · by_cases hz : 0 < out.length
      · obtain ⟨h1, h2, h3, h4⟩ := h0 hz
        rw [setlast_cast out hz hl, rde_cast, w64 (x := (out.getD (out.length - 1) ez).f0 + (out.getD (out.length - 1) ez).f1) (by omega) (by omega)]
        exact Ev.pos (by omega) (Ev.pos (by omega) (Ev.pos (by omega) (Ev.neg h1 (Ev.pos (by omega) next))))
      · refine Ev.neg ?_ (Ev.pos (by omega) next)
        rw [show out.length = 0 by omega, w64 (by omega) (by omega)]
        omega
/-- The holes of the reference. -/
theorem specHoles_ev (l : List Pc) (hl : Ord l) (b : Nat) (hb : b ≤ 200) : ∃ E, Ev (fun k => spec_HolesOf.l0 k (b : Int) [] 0 l (l.length : Int) 0) (E, true) ∧ ECanon (b : Int) E ∧ ∀ n, n < b → (InE E n ↔ ∀ p ∈ l, ¬ Holds p n) := by
  have hlen := ord_length hl
  have key : ∀ d i, l.length - i = d → i ≤ l.length → ∀ (out : List Ex) (at_ : Nat), (at_ : Int) ≤ 200 → out.length ≤ i → (i < l.length → (at_ : Int) ≤ (l.getD i pz).f0) → ECanon (b : Int) out → (0 < out.length → (out.getD (out.length - 1) ez).f0 + (out.getD (out.length - 1) ez).f1 < (at_ : Int)) → (∀ j, j < i → (l.getD j pz).f0 + (l.getD j pz).f1 ≤ (at_ : Int)) → (∀ n : Nat, InE out n ↔ (n < b ∧ n < at_ ∧ ∀ j, j < i → ¬ Holds (l.getD j pz) n)) →
      ∃ E, Ev (fun k => spec_HolesOf.l0 k (b : Int) out (at_ : Int) l (l.length : Int) (i : Int)) (E, true) ∧ ECanon (b : Int) E ∧ ∀ n, n < b → (InE E n ↔ ∀ p ∈ l, ¬ Holds p n) := by
    intro d
    induction d with
    | zero =>
      intro i hd hi out at_ hat hol hnx ho hlast hends hin
      have hil : i = l.length := by omega
      subst hil
      have hmem : ∀ n : Nat, (∀ j, j < l.length → ¬ Holds (l.getD j pz) n) ↔ ∀ p ∈ l, ¬ Holds p n := by
        intro n
        constructor
        · intro h p hp
          obtain ⟨j, hj, rfl⟩ := mem_getD pz hp
          exact h j hj
        · intro h j hj
          exact h _ (getD_mem l j pz hj)
      by_cases hc : at_ < b
      · refine ⟨out ++ [⟨(at_ : Int), (b : Int) - (at_ : Int)⟩], ?_, ?_, fun n hn => ?_⟩
        · refine Ev.step (fun k => by rw [spec_HolesOf.l0]) ?_
          rw [w64 (x := (b : Int) - (at_ : Int)) (by omega) (by omega)]
          exact Ev.neg (by omega) (Ev.pos (by omega) (Ev.pos (by omega) (Ev.now _)))
        · exact ecanon_snoc ho (by unfold EIn; simp only; omega) hlast
        · rw [inE_snoc, hin n, ← hmem]
          unfold EHolds
          simp only
          constructor
          · rintro (h | h)
            · exact h.2.2
            · intro j hj hh
              have := hends j hj
              unfold Holds at hh
              omega
          · intro h
            by_cases e : n < at_
            · exact .inl ⟨hn, e, h⟩
            · exact .inr (by omega)
      · refine ⟨out, ?_, ho, fun n hn => ?_⟩
        · refine Ev.step (fun k => by rw [spec_HolesOf.l0]) ?_
          exact Ev.neg (by omega) (Ev.neg (by omega) (Ev.now _))
        · rw [hin n, ← hmem]
          exact ⟨fun h => h.2.2, fun h => ⟨hn, by omega, h⟩⟩
    | succ d ih =>
      intro i hd hi out at_ hat hol hnx ho hlast hends hin
      have hil : i < l.length := by omega
      have hp := hl.1 i hil
      unfold InR at hp
      have h1 := hnx hil
      obtain ⟨at2, h2⟩ : ∃ at2 : Nat, (at2 : Int) = (l.getD i pz).f0 + (l.getD i pz).f1 := ⟨((l.getD i pz).f0 + (l.getD i pz).f1).toNat, by omega⟩
      have hends' : ∀ j, j < i + 1 → (l.getD j pz).f0 + (l.getD j pz).f1 ≤ (at2 : Int) := by
        intro j hj
        by_cases e : j = i
        · subst e; omega
        · have := hends j (by omega); omega
      have hnx' : i + 1 < l.length → (at2 : Int) ≤ (l.getD (i + 1) pz).f0 := fun h => by
        have := hl.2 i h
        omega
      -- the end of the hole ahead of this piece
      obtain ⟨en, h3⟩ : ∃ en : Nat, (en : Int) = if (l.getD i pz).f0 > (b : Int) then (b : Int) else (l.getD i pz).f0 := ⟨(if (l.getD i pz).f0 > (b : Int) then (b : Int) else (l.getD i pz).f0).toNat, by split <;> omega⟩
      have h4 : (en : Int) ≤ (b : Int) ∧ (en : Int) ≤ (l.getD i pz).f0 ∧ ((en : Int) = (b : Int) ∨ (en : Int) = (l.getD i pz).f0) := by
        split at h3 <;> omega
      have goon : ∃ (out2 : List Ex), ECanon (b : Int) out2 ∧ out2.length ≤ i + 1 ∧ (0 < out2.length → (out2.getD (out2.length - 1) ez).f0 + (out2.getD (out2.length - 1) ez).f1 < (at2 : Int)) ∧ (∀ n : Nat, InE out2 n ↔ (n < b ∧ n < at2 ∧ ∀ j, j < i + 1 → ¬ Holds (l.getD j pz) n)) ∧ out2 = (if at_ < en then out ++ [⟨(at_ : Int), (en : Int) - (at_ : Int)⟩] else out) := by
        have hmem : ∀ n : Nat, (n < b ∧ n < at2 ∧ ∀ j, j < i + 1 → ¬ Holds (l.getD j pz) n) ↔ ((n < b ∧ n < at_ ∧ ∀ j, j < i → ¬ Holds (l.getD j pz) n) ∨ (at_ ≤ n ∧ n < en)) := by
          intro n
          constructor
          · rintro ⟨a1, a2, a3⟩
            have a4 := a3 i (by omega)
            unfold Holds at a4
            by_cases e : n < at_
            · exact .inl ⟨a1, e, fun j hj => a3 j (by omega)⟩
            · exact .inr ⟨by omega, by omega⟩
          · rintro (⟨a1, a2, a3⟩ | ⟨a1, a2⟩)
            · refine ⟨a1, by omega, fun j hj => ?_⟩
              by_cases e : j = i
              · subst e
                unfold Holds
                omega
              · exact a3 j (by omega)
            · refine ⟨by omega, by omega, fun j hj => ?_⟩
              unfold Holds
              by_cases e : j = i
              · subst e; omega
              · have := hends j (by omega); omega
        by_cases hc : at_ < en
        · refine ⟨out ++ [⟨(at_ : Int), (en : Int) - (at_ : Int)⟩], ecanon_snoc ho (by unfold EIn; simp only; omega) hlast, by simp; omega, fun _ => ?_, fun n => ?_, by rw [if_pos hc]⟩
          · rw [List.length_append, List.length_singleton, getD_append_right _ _ _ _ (by omega), show out.length + 1 - 1 - out.length = 0 by omega]
            show (at_ : Int) + ((en : Int) - (at_ : Int)) < _
            omega
          · rw [inE_snoc, hin n, hmem n]
            unfold EHolds
            simp only
            constructor
            · rintro (h | h)
              · exact .inl h
              · exact .inr (by omega)
            · rintro (h | h)
              · exact .inl h
              · exact .inr (by omega)
        · refine ⟨out, ho, by omega, fun h => by have := hlast h; omega, fun n => ?_, by rw [if_neg hc]⟩
          rw [hin n, hmem n]
          constructor
          · exact .inl
          · rintro (h | h)
            · exact h
            · omega
      obtain ⟨out2, g1, g2, g3, g4, g5⟩ := goon
      obtain ⟨E, h5, h6, h7⟩ := ih (i + 1) (by omega) (by omega) out2 at2 (by omega) g2 hnx' g1 g3 hends' g4
      refine ⟨E, ?_, h6, h7⟩
      refine Ev.step (fun k => by rw [spec_HolesOf.l0]) ?_
      rw [rd_cast, w64 (x := (i : Int) + 1) (by omega) (by omega), w64 (x := (l.getD i pz).f0 + (l.getD i pz).f1) (by omega) (by omega), ← h2, w64 (x := (b : Int) - (at_ : Int)) (by omega) (by omega), w64 (x := (l.getD i pz).f0 - (at_ : Int)) (by omega) (by omega)]
      refine Ev.pos (by omega) (Ev.pos (by omega) (Ev.pos (by omega) (Ev.ite (fun hb2 => ?_) (fun hb2 => ?_))))
      · rw [if_pos hb2] at h3
        by_cases hc : at_ < en
        · rw [if_pos hc] at g5
          rw [g5, h3] at h5
          exact Ev.pos (by omega) (Ev.pos (by omega) h5)
        · rw [if_neg hc] at g5
          rw [g5] at h5
          exact Ev.neg (by omega) h5
      · rw [if_neg hb2] at h3
        by_cases hc : at_ < en
        · rw [if_pos hc] at g5
          rw [g5, h3] at h5
          exact Ev.pos (by omega) (Ev.pos (by omega) h5)
        · rw [if_neg hc] at g5
          rw [g5] at h5
          exact Ev.neg (by omega) h5
  exact key l.length 0 rfl (by omega) [] 0 (by omega) (by simp) (fun h => by have := hl.1 0 h; unfold InR at this; omega) (ecanon_nil _) (fun h => by simp at h) (fun j h => by omega) (fun n => by
    constructor
    · rintro ⟨e, he, _⟩; simp at he
    · rintro ⟨_, h, _⟩; omega)
theorem cellAt_f0 {l : List Pc} (h : Ord l) (n : Nat) : (cellAt l n).f0 = false ↔ ∀ p ∈ l, ¬ Holds p n := by
  rcases cellAt_cases h n with ⟨p, hp, hn, e⟩ | ⟨hno, e⟩
  · rw [e]
    constructor
    · intro h; cases h
    · intro h; exact absurd hn (h p hp)
  · rw [e]
    exact ⟨fun _ => hno, fun _ => rfl⟩
theorem holes_ev (l : List Pc) (hl : l.length ≤ 1048576) (b : Int) : ∃ r, Ev (fun k => spec_HolesOf.f k l b) r ∧ Ev (fun k => impl_HolesOf.f k l b) r ∧ r.1.length ≤ 1000 := by
  have g1 := spec_GoodMap_ev l hl
  have g2 := impl_GoodMap_ev l hl
  have no1 : Ev (fun k => spec_HolesOf.j0 k b true l) ([], false) := by
    refine Ev.step (fun k => by rw [spec_HolesOf.j0]) ?_
    exact Ev.pos rfl (Ev.now _)
  have no2 : Ev (fun k => impl_HolesOf.j0 k b true l) ([], false) := by
    refine Ev.step (fun k => by rw [impl_HolesOf.j0]) ?_
    exact Ev.pos rfl (Ev.now _)
  by_cases hg : Good l
  · by_cases hb : 0 ≤ b ∧ b ≤ 200
    · have ho := (good_canon hg.2).1
      obtain ⟨E, h1, h2, h3⟩ := specHoles_ev l ho b.toNat (by omega)
      have hbn : ((b.toNat : Nat) : Int) = b := by omega
      rw [hbn] at h1 h2
      refine ⟨(E, true), ?_, ?_, ?_⟩
      · unfold spec_HolesOf.f
        refine Ev.bind' _ g1 (Ev.pos (by simpa using hg) (Ev.bindc _ (l1In_eq _ _ _) ?_))
        rw [decide_eq_true hb]
        refine Ev.step (fun k => by rw [spec_HolesOf.j0]) ?_
        exact Ev.neg (by decide) h1
      · unfold impl_HolesOf.f
        refine Ev.bind' _ g2 (Ev.pos (by simpa using hg) (Ev.bindc _ (within_eq _ _ _) ?_))
        rw [decide_eq_true hb]
        refine Ev.step (fun k => by rw [impl_HolesOf.j0]) ?_
        refine Ev.neg (by decide) (Ev.bind' _ (cells_ev l hg.2 hl) (Ev.bind' E ?_ (Ev.now _)))
        have hm := merged_holes_ev E b.toNat (by omega) (by rw [hbn]; exact h2) (cellsOf l) (by rw [cellsOf_length]; omega) (fun n hn => by
          rw [h3 n hn, cellsOf_get l n (by omega), cellAt_f0 ho])
        rw [hbn] at hm
        exact hm
      · have := eord_length h2.1
        show E.length ≤ 1000
        omega
    · refine ⟨([], false), ?_, ?_, by simp⟩
      · unfold spec_HolesOf.f
        refine Ev.bind' _ g1 (Ev.pos (by simpa using hg) (Ev.bindc _ (l1In_eq _ _ _) ?_))
        rw [decide_eq_false hb]
        exact no1
      · unfold impl_HolesOf.f
        refine Ev.bind' _ g2 (Ev.pos (by simpa using hg) (Ev.bindc _ (within_eq _ _ _) ?_))
        rw [decide_eq_false hb]
        exact no2
  · refine ⟨([], false), ?_, ?_, by simp⟩
    · unfold spec_HolesOf.f
      exact Ev.bind' _ g1 (Ev.neg (by simpa using hg) no1)
    · unfold impl_HolesOf.f
      exact Ev.bind' _ g2 (Ev.neg (by simpa using hg) no2)
end Go.Proofs.Ytojdlcbmbpgplaa.Q
