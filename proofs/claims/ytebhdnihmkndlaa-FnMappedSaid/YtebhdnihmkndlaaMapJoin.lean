import Derived.Test.YtebhdnihmkndlaaMapTheory
import Derived.Test.YtebhdnihmkndlaaG3
namespace Go.Proofs.Ytebhdnihmkndlaa.Q
open Go.RowKit Go.Proofs.YtebhdnihmkndlaaW.PrintWords Go.Proofs.Ytebhdnihmkndlaa.G
set_option linter.unusedVariables false
set_option linter.unusedSimpArgs false

/-- The reference's join: what comes out goes nowhere on, and holds what went in. -/
theorem joined_ev (l : List Pc) (h : Ord l) : ∃ out, Ev (fun k => spec_l9Joined.f k l) out ∧ Canon out ∧ (∀ n, cellAt out n = cellAt l n) ∧ ∀ N : Int, (∀ p ∈ l, p.f0 + p.f1 ≤ N) → ∀ p ∈ out, p.f0 + p.f1 ≤ N := by
  have hlen := ord_length h
  have key : ∀ d i, l.length - i = d → i ≤ l.length → ∀ out : List Pc, Canon out → out.length ≤ i → (0 < i → 0 < out.length ∧ (out.getD (out.length - 1) pz).f0 + (out.getD (out.length - 1) pz).f1 = (l.getD (i - 1) pz).f0 + (l.getD (i - 1) pz).f1) → (∀ n, cellAt out n = cellAt (l.take i) n) → (∀ N : Int, (∀ p ∈ l, p.f0 + p.f1 ≤ N) → ∀ p ∈ out, p.f0 + p.f1 ≤ N) →
      ∃ out', Ev (fun k => spec_l9Joined.l0 k out l (l.length : Int) (i : Int)) out' ∧ Canon out' ∧ (∀ n, cellAt out' n = cellAt l n) ∧ ∀ N : Int, (∀ p ∈ l, p.f0 + p.f1 ≤ N) → ∀ p ∈ out', p.f0 + p.f1 ≤ N := by
    intro d
    induction d with
    | zero =>
      intro i hd hi out ho hol hlast hcell hend
      have : i = l.length := by omega
      subst this;refine ⟨out, Ev.step (fun k => by rw [spec_l9Joined.l0]) (Ev.neg (by omega) (Ev.now _)), ho, fun n => by rw [hcell n, List.take_length], hend⟩
    | succ d ih =>
      intro i hd hi out ho hol hlast hcell hend
      have hil : i < l.length := by omega
      have hp := h.1 i hil;have hpm := getD_mem l i pz hil
      have hts : ∀ n, cellAt (l.take (i + 1)) n = if Holds (l.getD i pz) n then ⟨true, (l.getD i pz).f2 + ((n : Int) - (l.getD i pz).f0), (l.getD i pz).f3⟩ else cellAt (l.take i) n := by
        intro n
        have hm : l.getD i pz ∈ l.take (i + 1) := by rw [take_succ_getD l i pz hil]; simp
        by_cases hh : Holds (l.getD i pz) n
        · rw [if_pos hh]; exact cellAt_mem (ord_take h _) hm hh
        · rw [if_neg hh]
          rcases cellAt_cases (ord_take h i) n with ⟨q, hq, hqn, e⟩ | ⟨hno, e⟩
          · rw [e]
            exact cellAt_mem (ord_take h _) (by rw [take_succ_getD l i pz hil]; exact List.mem_append_left _ hq) hqn
          · rw [e]
            refine cellAt_none fun q hq => ?_
            rw [take_succ_getD l i pz hil] at hq
            rcases List.mem_append.1 hq with hq | hq
            · exact hno q hq
            · rw [List.mem_singleton.1 hq]; exact hh
      have eta : (⟨(l.getD i pz).f0, (l.getD i pz).f1, (l.getD i pz).f2, (l.getD i pz).f3⟩ : Pc) = l.getD i pz := rfl
      have app : (0 < out.length → ¬ Goes (out.getD (out.length - 1) pz) (l.getD i pz)) → ∃ out', Ev (fun k => spec_l9Joined.l0 k (out ++ [l.getD i pz]) l (l.length : Int) ((i : Int) + 1)) out' ∧ Canon out' ∧ (∀ n, cellAt out' n = cellAt l n) ∧ ∀ N : Int, (∀ p ∈ l, p.f0 + p.f1 ≤ N) → ∀ p ∈ out', p.f0 + p.f1 ≤ N := by
        intro hng
        have hc' : Canon (out ++ [l.getD i pz]) := canon_snoc ho hp fun h0 => ⟨by
          have hi0 : 0 < i := by omega
          have := (hlast hi0).2;have := ord_lt h (i - 1) i (by omega) hil
          omega, hng h0⟩
        refine ih (i + 1) (by omega) (by omega) _ hc' (by simp; omega) (fun _ => ⟨by simp, ?_⟩) (fun n => ?_) (fun N hN p hp' => ?_)
        · rw [List.length_append, List.length_singleton, getD_append_right _ _ _ _ (by omega), show out.length + 1 - 1 - out.length = 0 by omega]
          rfl
        · rw [hts n]
          by_cases hh : Holds (l.getD i pz) n
          · rw [if_pos hh]; exact cellAt_mem hc'.1 (by simp) hh
          · rw [if_neg hh, ← hcell n]
            rcases cellAt_cases ho.1 n with ⟨q, hq, hqn, e⟩ | ⟨hno, e⟩
            · rw [e]; exact cellAt_mem hc'.1 (List.mem_append_left _ hq) hqn
            · rw [e]
              refine cellAt_none fun q hq => ?_
              rcases List.mem_append.1 hq with hq | hq
              · exact hno q hq
              · rw [List.mem_singleton.1 hq]; exact hh
        · rcases List.mem_append.1 hp' with hq | hq
          · exact hend N hN p hq
          · rw [List.mem_singleton.1 hq]; exact hN _ hpm
      by_cases h0 : 0 < out.length
      · have hol' : out.length ≤ 200 := by omega
        have hrd : rd_T27 out ((out.length - 1 : Nat) : Int) = out.getD (out.length - 1) pz := rd_cast _ _;have hq := ho.1.1 (out.length - 1) (by omega)
        have hi0 : 0 < i := by
          by_cases e : 0 < i
          · exact e
          · omega
        have hle := (hlast hi0).2;have hprev := ord_lt h (i - 1) i (by omega) hil
        by_cases hgo : Goes (out.getD (out.length - 1) pz) (l.getD i pz)
        · -- joined
          have hq' := hq;have hp' := hp;unfold InR at hq' hp';have hgo' := hgo;unfold Goes at hgo'
          have hsplit : out = out.take (out.length - 1) ++ [out.getD (out.length - 1) pz] := by
            have := take_succ_getD out (out.length - 1) pz (by omega);rw [show out.length - 1 + 1 = out.length by omega, List.take_length] at this;exact this
          generalize hQ : out.getD (out.length - 1) pz = q at *
          generalize hO : out.take (out.length - 1) = o at *
          have hol2 : o.length = out.length - 1 := by rw [← hO, List.length_take]; omega
          have hoc : Canon o := by rw [← hO]; exact canon_take ho _
          have hset : out.set (out.length - 1) ⟨q.f0, q.f1 + (l.getD i pz).f1, q.f2, q.f3⟩ = o ++ [⟨q.f0, q.f1 + (l.getD i pz).f1, q.f2, q.f3⟩] := by
            conv => lhs; arg 1; rw [hsplit]
            rw [List.set_append_right _ _ (by omega), hol2, Nat.sub_self]
            rfl
          have hlo : 0 < o.length → (o.getD (o.length - 1) pz).f0 + (o.getD (o.length - 1) pz).f1 ≤ q.f0 ∧ ¬ Goes (o.getD (o.length - 1) pz) q := by
            intro ho0
            have e1 : o.getD (o.length - 1) pz = out.getD (out.length - 1 - 1) pz := by
              rw [hsplit, getD_append_left _ _ _ _ (by rw [← hsplit]; omega)];rw [← hsplit, hol2]
            have e2 := ho.1.2 (out.length - 1 - 1) (by omega);have e3 := ho.2 (out.length - 1 - 1) (by omega);rw [show out.length - 1 - 1 + 1 = out.length - 1 by omega, hQ] at e2 e3;rw [e1];exact ⟨e2, e3⟩
          have hn : Canon (o ++ [⟨q.f0, q.f1 + (l.getD i pz).f1, q.f2, q.f3⟩]) := canon_snoc hoc (by unfold InR; simp only; omega) fun ho0 => ⟨(hlo ho0).1, fun hg => (hlo ho0).2 (by unfold Goes at hg ⊢; exact hg)⟩
          obtain ⟨out', h1, h2, h3, h4⟩ := ih (i + 1) (by omega) (by omega) _ hn (by simp; omega) (fun _ => ⟨by simp, by
            rw [List.length_append, List.length_singleton, getD_append_right _ _ _ _ (by omega), show o.length + 1 - 1 - o.length = 0 by omega]
            show q.f0 + (q.f1 + (l.getD i pz).f1) = _
            rw [show i + 1 - 1 = i by omega]
            omega⟩) (fun n => by
              rw [hts n, ← hcell n]
              by_cases hh : Holds (l.getD i pz) n
              · rw [if_pos hh, cellAt_mem hn.1 (p := ⟨q.f0, q.f1 + (l.getD i pz).f1, q.f2, q.f3⟩) (by simp) (by unfold Holds at hh ⊢; simp only; omega)]
                simp only
                congr 1
                · omega
                · exact hgo'.2.2
              · rw [if_neg hh]
                by_cases hh2 : Holds q n
                · rw [cellAt_mem hn.1 (p := ⟨q.f0, q.f1 + (l.getD i pz).f1, q.f2, q.f3⟩) (by simp) (by unfold Holds at hh2 ⊢; simp only; omega), cellAt_mem ho.1 (p := q) (by rw [hsplit]; simp) hh2]
                · rcases cellAt_cases hoc.1 n with ⟨u, hu, hun, e⟩ | ⟨hno, e⟩
                  · rw [cellAt_mem hn.1 (List.mem_append_left _ hu) hun, cellAt_mem ho.1 (p := u) (by rw [hsplit]; exact List.mem_append_left _ hu) hun]
                  · have a1 : cellAt (o ++ [(⟨q.f0, q.f1 + (l.getD i pz).f1, q.f2, q.f3⟩ : Pc)]) n = z55 := by
                      refine cellAt_none fun u hu => ?_
                      rcases List.mem_append.1 hu with hu | hu
                      · exact hno u hu
                      · rw [List.mem_singleton.1 hu]
                        unfold Holds at hh hh2 ⊢;simp only
                        omega
                    have a2 : cellAt out n = z55 := by
                      refine cellAt_none fun u hu => ?_
                      rw [hsplit] at hu
                      rcases List.mem_append.1 hu with hu | hu
                      · exact hno u hu
                      · rw [List.mem_singleton.1 hu]; exact hh2
                    rw [a1, a2]) (fun N hN u hu => by
              rcases List.mem_append.1 hu with hu | hu
              · exact hend N hN u (by rw [hsplit]; exact List.mem_append_left _ hu)
              · rw [List.mem_singleton.1 hu]
                have := hN _ hpm;simp only
                omega)
          refine ⟨out', Ev.step (fun k => by rw [spec_l9Joined.l0]) ?_, h2, h3, h4⟩;rw [rd_cast l i, last_cast out h0 (by omega), hrd, w64 (x := (i : Int) + 1) (by omega) (by omega)];refine Ev.pos (by omega) (Ev.pos (by omega) (Ev.pos (by omega) (Ev.pos (by omega) (Ev.pos (by omega) (Ev.pos (by omega) (Ev.bindc _ (l9Goes_eq _ _ hq) ?_))))));refine Ev.pos (by simpa using hgo) ?_;rw [w64 (x := q.f1 + (l.getD i pz).f1) (by omega) (by omega), Int.toNat_natCast, hset];exact h1
        · obtain ⟨out', h1, h2, h3, h4⟩ := app fun _ => hgo
          refine ⟨out', Ev.step (fun k => by rw [spec_l9Joined.l0]) ?_, h2, h3, h4⟩;rw [rd_cast l i, last_cast out h0 (by omega), hrd, w64 (x := (i : Int) + 1) (by omega) (by omega), eta];refine Ev.pos (by omega) (Ev.pos (by omega) (Ev.pos (by omega) (Ev.pos (by omega) (Ev.pos (by omega) (Ev.pos (by omega) (Ev.bindc _ (l9Goes_eq _ _ hq) ?_))))));exact Ev.neg (by simpa using hgo) (Ev.pos (by omega) h1)
      · obtain ⟨out', h1, h2, h3, h4⟩ := app fun h => absurd h h0
        refine ⟨out', Ev.step (fun k => by rw [spec_l9Joined.l0]) ?_, h2, h3, h4⟩;rw [rd_cast l i, w64 (x := (i : Int) + 1) (by omega) (by omega), eta];refine Ev.pos (by omega) (Ev.pos (by omega) (Ev.pos (by omega) (Ev.neg ?_ (Ev.pos (by omega) h1))));rw [show out.length = 0 by omega, w64 (by omega) (by omega)]
        omega
  unfold spec_l9Joined.f;exact key l.length 0 rfl (by omega) [] ⟨⟨by intro i hi; simp at hi, by intro i hi; simp at hi⟩, by intro i hi; simp at hi⟩ (by simp) (by intro h; omega) (by intro n; rw [List.take_zero]) (by intro N _ p hp; simp at hp)

/-- The reference's put. -/
theorem put_ev (l : List Pc) (p : Pc) (hl : l.length ≤ 1000) : ∃ k0 : Nat, k0 ≤ l.length ∧ (∀ j, j < k0 → (l.getD j pz).f0 < p.f0) ∧ (k0 < l.length → p.f0 ≤ (l.getD k0 pz).f0) ∧ Ev (fun k => spec_l9Put.f k l p.f0 p.f1 p.f2 p.f3) (l.take k0 ++ [p] ++ l.drop k0) := by
  have key : ∀ d i, l.length - i = d → i ≤ l.length → (∀ j, j < i → (l.getD j pz).f0 < p.f0) → ∃ k0 : Nat, k0 ≤ l.length ∧ (∀ j, j < k0 → (l.getD j pz).f0 < p.f0) ∧ (k0 < l.length → p.f0 ≤ (l.getD k0 pz).f0) ∧ Ev (fun k => spec_l9Put.l0 k l (i : Int) p.f0 p.f1 p.f2 p.f3) (l.take k0 ++ [p] ++ l.drop k0) := by
    intro d
    induction d with
    | zero =>
      intro i hd hi hj
      have : i = l.length := by omega
      subst this;refine ⟨l.length, Nat.le_refl _, hj, by omega, Ev.step (fun k => by rw [spec_l9Put.l0]) ?_⟩;refine Ev.neg (by omega) (Ev.pos (by omega) (Ev.pos (by omega) (Ev.bindc _ rfl (Ev.pos (by simp; omega) (Ev.bindc _ rfl (Ev.pos (by simp; omega) (Ev.bindc _ rfl (Ev.bindc _ rfl (Ev.pos (by simp; omega) (Ev.now' (by simp)))))))))))
    | succ d ih =>
      intro i hd hi hj
      have hil : i < l.length := by omega
      by_cases hlt : (l.getD i pz).f0 < p.f0
      · obtain ⟨k0, h1, h2, h3, h4⟩ := ih (i + 1) (by omega) (by omega) (fun j hj' => by
          by_cases e : j = i
          · subst e; exact hlt
          · exact hj j (by omega))
        refine ⟨k0, h1, h2, h3, Ev.step (fun k => by rw [spec_l9Put.l0]) ?_⟩;rw [rd_cast, w64 (x := (i : Int) + 1) (by omega) (by omega)];exact Ev.pos (by omega) (Ev.pos (by omega) (Ev.pos hlt h4))
      · refine ⟨i, hi, hj, fun _ => by omega, Ev.step (fun k => by rw [spec_l9Put.l0]) ?_⟩
        rw [rd_cast];refine Ev.pos (by omega) (Ev.pos (by omega) (Ev.neg hlt (Ev.pos (by omega) (Ev.bindc _ rfl (Ev.pos (by simp; omega) (Ev.bindc _ rfl (Ev.pos (by simp; omega) (Ev.bindc _ rfl (Ev.bindc _ rfl (Ev.pos (by simp; omega) (Ev.now' (by simp))))))))))))
  unfold spec_l9Put.f;exact key l.length 0 rfl (by omega) (by intro j hj; omega)
/-- Put in where nothing lies. -/
theorem put_ord {l : List Pc} {p : Pc} {k0 : Nat} (h : Ord l) (hp : InR p) (hk : k0 ≤ l.length) (h1 : ∀ j, j < k0 → (l.getD j pz).f0 < p.f0) (h2 : k0 < l.length → p.f0 ≤ (l.getD k0 pz).f0) (hap : ∀ q ∈ l, q.f0 + q.f1 ≤ p.f0 ∨ p.f0 + p.f1 ≤ q.f0) : Ord (l.take k0 ++ [p] ++ l.drop k0) := by
  have hpr := hp;unfold InR at hpr
  have hto : Ord (l.take k0 ++ [p]) := ord_snoc (ord_take h k0) hp fun h0 => by
    have e1 : (l.take k0).length = k0 := by rw [List.length_take]; omega
    have e2 : (l.take k0).getD ((l.take k0).length - 1) pz = l.getD (k0 - 1) pz := by
      rw [e1]
      simp [List.getD_eq_getElem?_getD, show k0 - 1 < k0 by omega]
    rw [e2];have e3 := h1 (k0 - 1) (by omega);have e4 := hap _ (getD_mem l (k0 - 1) pz (by omega));have e5 := h.1 (k0 - 1) (by omega);unfold InR at e5
    omega
  have hln : (l.take k0 ++ [p]).length = k0 + 1 := by rw [List.length_append, List.length_take, List.length_singleton]; omega
  have hd : ∀ j, (l.drop k0).getD j pz = l.getD (k0 + j) pz := fun j => by simp [List.getD_eq_getElem?_getD]
  refine ⟨fun i hi => ?_, fun i hi => ?_⟩
  · by_cases e : i < k0 + 1
    · rw [getD_append_left _ _ _ _ (by omega)]; exact hto.1 i (by omega)
    · rw [getD_append_right _ _ _ _ (by omega), hd, hln]
      rw [List.length_append, hln, List.length_drop] at hi;exact h.1 _ (by omega)
  · rw [List.length_append, hln, List.length_drop] at hi
    by_cases e : i + 1 < k0 + 1
    · rw [getD_append_left (l.take k0 ++ [p]) _ i _ (by omega), getD_append_left (l.take k0 ++ [p]) _ (i + 1) _ (by omega)]; exact hto.2 i (by omega)
    · rw [getD_append_right (l.take k0 ++ [p]) _ (i + 1) _ (by omega), hd, hln]
      by_cases e2 : i = k0
      · subst e2
        rw [getD_append_left (l.take i ++ [p]) _ _ _ (by omega), getD_append_right (l.take i) _ _ _ (by rw [List.length_take]; omega), show i - (l.take i).length = 0 by rw [List.length_take]; omega, show i + (i + 1 - (i + 1)) = i by omega]
        show p.f0 + p.f1 ≤ _
        have e3 := h2 (by omega);have e4 := hap _ (getD_mem l i pz (by omega));have e5 := h.1 i (by omega);unfold InR at e5
        omega
      · rw [getD_append_right (l.take k0 ++ [p]) _ i _ (by omega), hd, hln]
        have := h.2 (k0 + (i - (k0 + 1))) (by omega);rw [show k0 + (i + 1 - (k0 + 1)) = k0 + (i - (k0 + 1)) + 1 by omega];exact this
theorem put_mem {l : List Pc} {p q : Pc} {k0 : Nat} : q ∈ l.take k0 ++ [p] ++ l.drop k0 ↔ q = p ∨ q ∈ l := by
  rw [List.mem_append, List.mem_append, List.mem_singleton]
  conv => rhs; rw [← List.take_append_drop k0 l, List.mem_append]
  constructor
  · rintro ((h | h) | h)
    · exact .inr (.inl h)
    · exact .inl h
    · exact .inr (.inr h)
  · rintro (h | h | h)
    · exact .inl (.inr h)
    · exact .inl (.inl h)
    · exact .inr h
theorem put_cell {l : List Pc} {p : Pc} {k0 : Nat} (h : Ord l) (ho : Ord (l.take k0 ++ [p] ++ l.drop k0)) (n : Nat) : cellAt (l.take k0 ++ [p] ++ l.drop k0) n = if Holds p n then ⟨true, p.f2 + ((n : Int) - p.f0), p.f3⟩ else cellAt l n := by
  by_cases hh : Holds p n
  · rw [if_pos hh]; exact cellAt_mem ho (put_mem.2 (.inl rfl)) hh
  · rw [if_neg hh]
    rcases cellAt_cases h n with ⟨q, hq, hqn, e⟩ | ⟨hno, e⟩
    · rw [e]; exact cellAt_mem ho (put_mem.2 (.inr hq)) hqn
    · rw [e]
      refine cellAt_none fun q hq => ?_
      rcases put_mem.1 hq with rfl | hq
      · exact hh
      · exact hno q hq
end Go.Proofs.Ytebhdnihmkndlaa.Q
