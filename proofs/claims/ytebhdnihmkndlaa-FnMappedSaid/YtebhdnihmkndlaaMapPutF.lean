import Derived.Test.YtebhdnihmkndlaaMapCanon
import Derived.Test.YtebhdnihmkndlaaMapJoin
import Derived.Test.YtebhdnihmkndlaaG3
import Derived.Test.YtebhdnihmkndlaaG6
namespace Go.Proofs.Ytebhdnihmkndlaa.Q
open Go.RowKit Go.Proofs.YtebhdnihmkndlaaW.PrintWords Go.Proofs.Ytebhdnihmkndlaa.G
set_option linter.unusedVariables false
set_option linter.unusedSimpArgs false

/-- A loop that tests one place after another. -/
theorem mscan {β : Type} {L : Nat → Nat → Option β} {n : Nat} {p : Nat → Prop} {r : β} (h1 : (∀ i, i < n → p i) → Ev (fun k => L k n) r) (h2 : ∀ i, i < n → (∀ j, j < i → p j) → p i → Ev (fun k => L k (i + 1)) r → Ev (fun k => L k i) r) (h3 : ∀ i, i < n → (∀ j, j < i → p j) → ¬ p i → Ev (fun k => L k i) r) : Ev (fun k => L k 0) r := by
  have key : ∀ d i, n - i = d → i ≤ n → (∀ j, j < i → p j) → Ev (fun k => L k i) r := by
    intro d
    induction d with
    | zero =>
      intro i hd hi hp
      have : i = n := by omega
      subst this;exact h1 hp
    | succ d ih =>
      intro i hd hi hp
      by_cases e : p i
      · refine h2 i (by omega) hp e (ih (i + 1) (by omega) (by omega) fun j hj => ?_)
        by_cases e2 : j = i
        · subst e2; exact e
        · exact hp j (by omega)
      · exact h3 i (by omega) hp e
  exact key n 0 rfl (by omega) (fun j h => by omega)
/-- Two pieces have a file block in common. -/
def FO (q p : Pc) : Prop := q.f0 < p.f0 + p.f1 ∧ p.f0 < q.f0 + q.f1
/-- .. a block of the device. -/
def DO (q p : Pc) : Prop := q.f2 < p.f2 + p.f1 ∧ p.f2 < q.f2 + q.f1
instance (q p : Pc) : Decidable (FO q p) := by unfold FO; infer_instance
instance (q p : Pc) : Decidable (DO q p) := by unfold DO; infer_instance
/-- In a good map no two file blocks lie on one block of the device. -/
theorem good_inj {l : List Pc} (h : Good l) {n m : Nat} {b : Int} {f g : Bool} (hn : cellAt l n = ⟨true, b, f⟩) (hm : cellAt l m = ⟨true, b, g⟩) : n = m := by
  have ho := (good_canon h.2).1
  have notz : ∀ (b : Int) (f : Bool), (z55 : Cell) ≠ ⟨true, b, f⟩ := fun b f e => by
    have := congrArg S55.f0 e
    simp [z55] at this
  rcases cellAt_cases ho n with ⟨p, hp, hpn, e⟩ | ⟨_, e⟩
  · rcases cellAt_cases ho m with ⟨q, hq, hqm, e2⟩ | ⟨_, e2⟩
    · rw [e] at hn
      rw [e2] at hm;have e3 := congrArg S55.f1 hn;have e4 := congrArg S55.f1 hm;simp only at e3 e4;obtain ⟨i, hi, rfl⟩ := mem_getD pz hp;obtain ⟨j, hj, rfl⟩ := mem_getD pz hq;unfold Holds at hpn hqm
      rcases Nat.lt_trichotomy i j with hij | hij | hij
      · have := (h.2 j hj).2.2 i hij
        unfold Apart at this
        omega
      · subst hij; omega
      · have := (h.2 i hi).2.2 j hij
        unfold Apart at this
        omega
    · rw [e2] at hm
      exact absurd hm (notz _ _)
  · rw [e] at hn
    exact absurd hn (notz _ _)
theorem cells_f0 {l : List Pc} (h : Ord l) (n : Nat) : (cellAt l n).f0 = true ↔ ∃ q ∈ l, Holds q n := by
  rcases cellAt_cases h n with ⟨q, hq, hqn, e⟩ | ⟨hno, e⟩
  · rw [e]
    exact ⟨fun _ => ⟨q, hq, hqn⟩, fun _ => rfl⟩
  · rw [e]
    refine ⟨fun h => by simp [z55] at h, fun ⟨q, hq, hqn⟩ => absurd hqn (hno q hq)⟩
theorem rdcell_cast (l : List Cell) (i : Nat) : rd_T55 l (i : Int) = l.getD i z55 := by simp [rd_T55]
/-- The cells of a map with the first blocks of a piece more. -/
def withCells (l : List Pc) (p : Pc) (x : Nat) : List Cell := (List.range 200).map (fun n : Nat => if p.f0 ≤ (n : Int) ∧ (n : Int) < p.f0 + (x : Int) then (⟨true, p.f2 + ((n : Int) - p.f0), p.f3⟩ : Cell) else cellAt l n)
theorem withCells_len (l : List Pc) (p : Pc) (x : Nat) : (withCells l p x).length = 200 := by simp [withCells]
theorem withCells_get (l : List Pc) (p : Pc) (x n : Nat) (h : n < 200) : (withCells l p x).getD n z55 = if p.f0 ≤ (n : Int) ∧ (n : Int) < p.f0 + (x : Int) then (⟨true, p.f2 + ((n : Int) - p.f0), p.f3⟩ : Cell) else cellAt l n := by
  rw [getD_eq _ _ _ (by rw [withCells_len]; exact h)]
  simp [withCells]
theorem withCells_zero (l : List Pc) (p : Pc) : withCells l p 0 = cellsOf l := by
  unfold withCells cellsOf
  refine List.map_congr_left fun n _ => ?_
  rw [if_neg (by omega)]
theorem withCells_set (l : List Pc) (p : Pc) (x m : Nat) (hm : (m : Int) = p.f0 + (x : Int)) (h : m < 200) : (withCells l p x).set m ⟨true, p.f2 + (x : Int), p.f3⟩ = withCells l p (x + 1) := by
  unfold withCells;rw [range_map_set _ _ _ _ h]
  refine List.map_congr_left fun n _ => ?_
  by_cases e : n = m
  · subst e
    rw [if_pos rfl, if_pos (by omega)]
    congr 1
    omega
  · rw [if_neg e]
    by_cases e2 : p.f0 ≤ (n : Int) ∧ (n : Int) < p.f0 + (x : Int)
    · rw [if_pos e2, if_pos (by omega)]
    · rw [if_neg e2, if_neg (by omega)]
/-- What a piece put is, where it is put. -/
def PutOk (l : List Pc) (p : Pc) (r : List Pc × Bool) : Prop := (r.2 = true → Good l ∧ IsPiece p ∧ (∀ n : Nat, Holds p n → (cellAt l n).f0 ≠ true) ∧ Good r.1 ∧ ∀ n : Nat, cellAt r.1 n = if Holds p n then ⟨true, p.f2 + ((n : Int) - p.f0), p.f3⟩ else cellAt l n) ∧ (r.2 = false → r.1 = [])
theorem PutOk.zero (l : List Pc) (p : Pc) : PutOk l p ([], false) := ⟨fun h => (by cases h), fun _ => rfl⟩
theorem mapPiece_evs (l : List Pc) (hl : l.length ≤ 1048576) (p : Pc) : ∃ r, Ev (fun k => spec_MapPiece.f k l p.f0 p.f1 p.f2 p.f3) r ∧ Ev (fun k => impl_MapPiece.f k l p.f0 p.f1 p.f2 p.f3) r ∧ PutOk l p r := by
  have n1 : Ev (fun k => spec_MapPiece.j0 k true l p.f0 p.f1 p.f2 p.f3) ([], false) := Ev.step (fun k => by rw [spec_MapPiece.j0]) (Ev.pos rfl (Ev.now _));have n2 : Ev (fun k => impl_MapPiece.j0 k true l p.f0 p.f1 p.f2 p.f3) ([], false) := Ev.step (fun k => by rw [impl_MapPiece.j0]) (Ev.pos rfl (Ev.now _));unfold spec_MapPiece.f impl_MapPiece.f
  by_cases hg : Good l
  · by_cases hp : IsPiece p
    · have hc := good_canon hg.2
      have hlen := ord_length hc.1;have hp' := hp;unfold IsPiece at hp';obtain ⟨k0, hk1, hk2, hk3, hput⟩ := put_ev l p (by omega)
      -- what the reference does
      have spec : ∀ r, ((∀ i, i < l.length → ¬ (FO (l.getD i pz) p ∨ DO (l.getD i pz) p)) → Ev (fun k => (spec_l9Put.f k l p.f0 p.f1 p.f2 p.f3).bind fun t => ((spec_l9Joined.f k t).bind fun t2 => ((spec_GoodMap.f k t2).bind fun t3 => (if t3 = true then (some (t2, true)) else (some (([] : List Pc), false)))))) r) → ((∃ i, i < l.length ∧ (FO (l.getD i pz) p ∨ DO (l.getD i pz) p)) → r = ([], false)) → Ev (fun k => spec_MapPiece.j0 k false l p.f0 p.f1 p.f2 p.f3) r := by
        intro r h1 h2;refine Ev.step (fun k => by rw [spec_MapPiece.j0]) (Ev.neg (by simp) ?_);refine mscan (L := fun k i => spec_MapPiece.l0 k l (l.length : Int) (i : Int) l p.f0 p.f1 p.f2 p.f3) (n := l.length) (p := fun i => ¬ (FO (l.getD i pz) p ∨ DO (l.getD i pz) p)) ?_ ?_ ?_
        · intro h
          refine Ev.step (fun k => by rw [spec_MapPiece.l0]) ?_;exact Ev.neg (by omega) (h1 h)
        · intro i hi _ hb next
          have hq := hc.1.1 i hi;unfold InR at hq;unfold FO DO at hb;refine Ev.step (fun k => by rw [spec_MapPiece.l0]) ?_;rw [rd_cast, w64 (x := (i : Int) + 1) (by omega) (by omega), w64 (x := p.f0 + p.f1) (by omega) (by omega), w64 (x := p.f2 + p.f1) (by omega) (by omega), w64 (x := (l.getD i pz).f0 + (l.getD i pz).f1) (by omega) (by omega), w64 (x := (l.getD i pz).f2 + (l.getD i pz).f1) (by omega) (by omega)];refine Ev.pos (by omega) (Ev.pos (by omega) (Ev.pos (by omega) (Ev.ite (fun a => Ev.neg (by omega) (Ev.ite (fun b => Ev.neg (by omega) next) (fun _ => next))) (fun a => Ev.ite (fun b => Ev.neg (by omega) next) (fun _ => next)))))
        · intro i hi _ hb
          have hr : r = ([], false) := h2 ⟨i, hi, Classical.byContradiction fun e => hb e⟩
          have hb : FO (l.getD i pz) p ∨ DO (l.getD i pz) p := Classical.byContradiction fun e => hb e
          have hq := hc.1.1 i hi;unfold InR at hq;unfold FO DO at hb;refine Ev.step (fun k => by rw [spec_MapPiece.l0]) ?_;rw [rd_cast, w64 (x := (i : Int) + 1) (by omega) (by omega), w64 (x := p.f0 + p.f1) (by omega) (by omega), w64 (x := p.f2 + p.f1) (by omega) (by omega), w64 (x := (l.getD i pz).f0 + (l.getD i pz).f1) (by omega) (by omega), w64 (x := (l.getD i pz).f2 + (l.getD i pz).f1) (by omega) (by omega), hr];refine Ev.pos (by omega) (Ev.pos (by omega) (Ev.pos (by omega) (Ev.ite (fun a => Ev.ite (fun _ => Ev.now _) (fun b => Ev.pos (by omega) (Ev.pos (by omega) (Ev.now _)))) (fun a => Ev.pos (by omega) (Ev.pos (by omega) (Ev.now _))))))
      -- what the program does
      have impl : ∀ r, ((∀ x : Nat, (x : Int) < p.f1 → (cellAt l (p.f0 + (x : Int)).toNat).f0 ≠ true) → Ev (fun k => impl_mapOf.f k (withCells l p p.f1.toNat)) r) → ((∃ x : Nat, (x : Int) < p.f1 ∧ (cellAt l (p.f0 + (x : Int)).toNat).f0 = true) → r = ([], false)) → Ev (fun k => impl_MapPiece.j0 k false l p.f0 p.f1 p.f2 p.f3) r := by
        intro r h1 h2;refine Ev.step (fun k => by rw [impl_MapPiece.j0]) (Ev.neg (by simp) (Ev.bind' _ (cells_ev l hg.2 hl) ?_));rw [← withCells_zero l p];refine mscan (L := fun k x => impl_MapPiece.l0 k (withCells l p x) p.f1 (x : Int) p.f0 p.f1 p.f2 p.f3) (n := p.f1.toNat) (p := fun x => (cellAt l (p.f0 + (x : Int)).toNat).f0 ≠ true) ?_ ?_ ?_
        · intro h
          refine Ev.step (fun k => by rw [impl_MapPiece.l0]) ?_;refine Ev.neg (by omega) (Ev.bind' _ (h1 fun x hx => h x (by omega)) (Ev.now _))
        · intro x hx _ hb next
          have hget := withCells_get l p x (p.f0 + (x : Int)).toNat (by omega);rw [if_neg (by omega)] at hget;refine Ev.step (fun k => by rw [impl_MapPiece.l0]) ?_;rw [w64 (x := p.f0 + (x : Int)) (by omega) (by omega), w64 (x := p.f2 + (x : Int)) (by omega) (by omega), w64 (x := (x : Int) + 1) (by omega) (by omega), withCells_len, withCells_set l p x (p.f0 + (x : Int)).toNat (by omega) (by omega)];refine Ev.pos (by omega) (Ev.pos (by omega) (Ev.pos (by omega) (Ev.neg ?_ next)));have e : rd_T55 (withCells l p x) (p.f0 + (x : Int)) = (withCells l p x).getD (p.f0 + (x : Int)).toNat z55 := rfl;rw [e, hget];exact hb
        · intro x hx _ hb
          have hb : (cellAt l (p.f0 + (x : Int)).toNat).f0 = true := Classical.byContradiction fun e => hb e
          have hget := withCells_get l p x (p.f0 + (x : Int)).toNat (by omega);rw [if_neg (by omega)] at hget;refine Ev.step (fun k => by rw [impl_MapPiece.l0]) ?_;rw [w64 (x := p.f0 + (x : Int)) (by omega) (by omega), w64 (x := p.f2 + (x : Int)) (by omega) (by omega), w64 (x := (x : Int) + 1) (by omega) (by omega), withCells_len];rw [h2 ⟨x, by omega, hb⟩];refine Ev.pos (by omega) (Ev.pos (by omega) (Ev.pos (by omega) (Ev.pos ?_ (Ev.now _))));have e : rd_T55 (withCells l p x) (p.f0 + (x : Int)) = (withCells l p x).getD (p.f0 + (x : Int)).toNat z55 := rfl;rw [e, hget];exact hb
      have s0 : ∀ r, Ev (fun k => spec_MapPiece.j0 k false l p.f0 p.f1 p.f2 p.f3) r → Ev (fun k => (spec_GoodMap.f k l).bind fun t => (if t = true then ((spec_l9Piece.f p.f0 p.f1 p.f2 p.f3).bind fun t2 => (spec_MapPiece.j0 k (!t2) l p.f0 p.f1 p.f2 p.f3)) else (spec_MapPiece.j0 k true l p.f0 p.f1 p.f2 p.f3))) r := fun r h => by
        refine Ev.bind' _ (spec_GoodMap_ev l hl) (Ev.pos (by simpa using hg) (Ev.bindc _ (l9Piece_eq p) ?_));rw [decide_eq_true hp];exact h
      have i0 : ∀ r, Ev (fun k => impl_MapPiece.j0 k false l p.f0 p.f1 p.f2 p.f3) r → Ev (fun k => (impl_GoodMap.f k l).bind fun t => (if t = true then ((impl_isPiece.f p.f0 p.f1 p.f2 p.f3).bind fun t2 => (impl_MapPiece.j0 k (!t2) l p.f0 p.f1 p.f2 p.f3)) else (impl_MapPiece.j0 k true l p.f0 p.f1 p.f2 p.f3))) r := fun r h => by
        refine Ev.bind' _ (impl_GoodMap_ev l hl) (Ev.pos (by simpa using hg) (Ev.bindc _ (isPiece_eq p) ?_));rw [decide_eq_true hp];exact h
      by_cases hf : ∃ i, i < l.length ∧ FO (l.getD i pz) p
      · obtain ⟨i, hi, hfo⟩ := hf
        refine ⟨([], false), s0 _ (spec _ (fun h => absurd (.inl hfo) (h i hi)) (fun _ => rfl)), i0 _ (impl _ (fun h => ?_) (fun _ => rfl)), PutOk.zero _ _⟩
        exfalso
        have hq := hc.1.1 i hi;unfold InR at hq;unfold FO at hfo
        -- a block that both hold
        by_cases e : (l.getD i pz).f0 ≤ p.f0
        · refine h 0 (by omega) ((cells_f0 hc.1 _).2 ⟨_, getD_mem l i pz hi, ?_⟩)
          unfold Holds
          omega
        · refine h ((l.getD i pz).f0 - p.f0).toNat (by omega) ((cells_f0 hc.1 _).2 ⟨_, getD_mem l i pz hi, ?_⟩)
          unfold Holds
          omega
      · have hf' : ∀ i, i < l.length → ¬ FO (l.getD i pz) p := fun i hi h => hf ⟨i, hi, h⟩
        have hap : ∀ q ∈ l, q.f0 + q.f1 ≤ p.f0 ∨ p.f0 + p.f1 ≤ q.f0 := fun q hq => by
          obtain ⟨i, hi, rfl⟩ := mem_getD pz hq;have := hf' i hi;unfold FO at this
          omega
        have hpo := put_ord hc.1 hp hk1 hk2 hk3 hap;obtain ⟨out, hj, hcan, hcell, hend⟩ := joined_ev _ hpo
        have hend' := hend 200 (fun q hq => by
          rcases put_mem.1 hq with rfl | hq
          · omega
          · have := ord_inr hc.1 hq
            unfold InR at this
            omega)
        have hfree : ∀ x : Nat, (x : Int) < p.f1 → (cellAt l (p.f0 + (x : Int)).toNat).f0 ≠ true := fun x hx e => by
          obtain ⟨q, hq, hqn⟩ := (cells_f0 hc.1 _).1 e;have := hap q hq;unfold Holds at hqn
          omega
        have hcells : ∀ n, n < 200 → (withCells l p p.f1.toNat).getD n z55 = cellAt out n := fun n hn => by
          rw [withCells_get _ _ _ _ hn, hcell n, put_cell hc.1 hpo n, show ((p.f1.toNat : Nat) : Int) = p.f1 by omega];unfold Holds
          rfl
        have hm := mapOf_ev (withCells l p p.f1.toNat) out hcan (by rw [withCells_len]; omega) (fun i hi => by
          rw [withCells_len]
          exact hend' _ (getD_mem out i pz hi)) (fun n hn => hcells n (by rw [withCells_len] at hn; exact hn))
        have holen := ord_length hcan.1
        by_cases hd : ∃ i, i < l.length ∧ DO (l.getD i pz) p
        · obtain ⟨i, hi, hdo⟩ := hd
          have hno : ¬ Good out := fun ho => by
            have hq := hc.1.1 i hi;unfold InR at hq;have hdo' := hdo;unfold DO at hdo'
            -- a block of the device that both have
            obtain ⟨b, hb1, hb2, hb3, hb4⟩ : ∃ b : Int, p.f2 ≤ b ∧ b < p.f2 + p.f1 ∧ (l.getD i pz).f2 ≤ b ∧ b < (l.getD i pz).f2 + (l.getD i pz).f1 := by
              by_cases e : (l.getD i pz).f2 ≤ p.f2
              · exact ⟨p.f2, by omega, by omega, by omega, by omega⟩
              · exact ⟨(l.getD i pz).f2, by omega, by omega, by omega, by omega⟩
            have c1 : cellAt out (p.f0 + (b - p.f2)).toNat = ⟨true, b, p.f3⟩ := by
              rw [hcell, put_cell hc.1 hpo, if_pos (by unfold Holds; omega)]
              congr 1
              omega
            have c2 : cellAt out ((l.getD i pz).f0 + (b - (l.getD i pz).f2)).toNat = ⟨true, b, (l.getD i pz).f3⟩ := by
              have := hap _ (getD_mem l i pz hi);rw [hcell, put_cell hc.1 hpo, if_neg (by unfold Holds; omega), cellAt_in hc.1 i hi _ (by unfold Holds; omega)]
              congr 1
              omega
            have := good_inj ho c1 c2;have := hap _ (getD_mem l i pz hi)
            omega
          rw [if_neg hno] at hm;exact ⟨([], false), s0 _ (spec _ (fun h => absurd (.inr hdo) (h i hi)) (fun _ => rfl)), i0 _ (impl _ (fun _ => hm) (fun _ => rfl)), PutOk.zero _ _⟩
        · refine ⟨if Good out then (out, true) else ([], false), s0 _ (spec _ (fun _ => ?_) (fun ⟨i, hi, h⟩ => ?_)), i0 _ (impl _ (fun _ => hm) (fun ⟨x, hx, e⟩ => absurd e (hfree x hx))), ?_⟩
          · refine Ev.bind' _ hput (Ev.bind' _ hj (Ev.bind' _ (spec_GoodMap_ev out (by omega)) ?_))
            by_cases ho : Good out
            · rw [if_pos ho]
              exact Ev.pos (by simpa using ho) (Ev.now _)
            · rw [if_neg ho]
              exact Ev.neg (by simpa using ho) (Ev.now _)
          · rcases h with h | h
            · exact absurd h (hf' i hi)
            · exact absurd ⟨i, hi, h⟩ hd
          · by_cases ho : Good out
            · rw [if_pos ho]
              refine ⟨fun _ => ⟨hg, hp, fun n hn => ?_, ho, fun n => by rw [hcell n, put_cell hc.1 hpo n]⟩, fun h => by cases h⟩;have hn' := hn;unfold Holds at hn';have h5 := hfree ((n : Int) - p.f0).toNat (by omega);rw [show (p.f0 + (((n : Int) - p.f0).toNat : Int)).toNat = n by omega] at h5;exact h5
            · rw [if_neg ho]; exact PutOk.zero _ _
    · refine ⟨([], false), Ev.bind' _ (spec_GoodMap_ev l hl) (Ev.pos (by simpa using hg) (Ev.bindc _ (l9Piece_eq p) ?_)), Ev.bind' _ (impl_GoodMap_ev l hl) (Ev.pos (by simpa using hg) (Ev.bindc _ (isPiece_eq p) ?_)), PutOk.zero _ _⟩
      · rw [decide_eq_false hp]
        exact n1
      · rw [decide_eq_false hp]
        exact n2
  · exact ⟨([], false), Ev.bind' _ (spec_GoodMap_ev l hl) (Ev.neg (by simpa using hg) n1), Ev.bind' _ (impl_GoodMap_ev l hl) (Ev.neg (by simpa using hg) n2), PutOk.zero _ _⟩
end Go.Proofs.Ytebhdnihmkndlaa.Q
