import Derived.Test.YtebhdnihmkndlaaMapExt
import Derived.Test.YtebhdnihmkndlaaMapMergeAbs
import Derived.Test.YtebhdnihmkndlaaG7
namespace Go.Proofs.Ytebhdnihmkndlaa.Q
open Go.RowKit Go.Proofs.YtebhdnihmkndlaaW.PrintWords Go.Proofs.Ytebhdnihmkndlaa.G
set_option linter.unusedVariables false
set_option linter.unusedSimpArgs false

theorem merged_blocks_ev (E : List Ex) (N : Nat) (hN : N ≤ 1000) (hE : ECanon (N : Int) E) (used : List Bool) (hc : N ≤ used.length) (hh : ∀ n, n < N → (InE E n ↔ used.getD n false = true)) : Ev (fun k => impl_merged_at_impl_blocksIn_1.f k (N : Int) used) E := by
  have rdc : ∀ n : Nat, n < N → impl_blocksIn_1.f (n : Int) used = some (used.getD n false) := by
    intro n hn;unfold impl_blocksIn_1.f;rw [if_pos (by omega), if_pos (by omega)]
    simp [rdOf]
  unfold impl_merged_at_impl_blocksIn_1.f;refine merged_abs (fun k out n => impl_merged_at_impl_blocksIn_1.l0 k out (N : Int) (n : Int) used) N hN E hE ?_ ?_ ?_ ?_
  · intro out
    refine Ev.step (fun k => by rw [impl_merged_at_impl_blocksIn_1.l0]) ?_;exact Ev.neg (by omega) (Ev.now _)
  · intro out n hn hno next
    refine Ev.step (fun k => by rw [impl_merged_at_impl_blocksIn_1.l0]) ?_;rw [w64 (x := (n : Int) + 1) (by omega) (by omega)];refine Ev.pos (by omega) (Ev.bindc _ (rdc n hn) (Ev.neg ?_ next));intro h;exact hno ((hh n hn).2 h)
  · intro out n hn hin h0 hl he hf0 hf1 next
    refine Ev.step (fun k => by rw [impl_merged_at_impl_blocksIn_1.l0]) ?_;rw [w64 (x := (n : Int) + 1) (by omega) (by omega), setlast_cast out h0 hl, rde_cast, he, w64 (x := (n : Int)) (by omega) (by omega), w64 (x := (out.getD (out.length - 1) ez).f1 + 1) (by omega) (by omega), Int.toNat_natCast];exact Ev.pos (by omega) (Ev.bindc _ (rdc n hn) (Ev.pos ((hh n hn).1 hin) (Ev.pos (by omega) (Ev.pos (by omega) (Ev.pos (by omega) (Ev.pos rfl next))))))
  · intro out n hn hin hl h0 next
    refine Ev.step (fun k => by rw [impl_merged_at_impl_blocksIn_1.l0]) ?_;rw [w64 (x := (n : Int) + 1) (by omega) (by omega)];refine Ev.pos (by omega) (Ev.bindc _ (rdc n hn) (Ev.pos ((hh n hn).1 hin) ?_))
    by_cases hz : 0 < out.length
    · obtain ⟨h1, h2, h3, h4⟩ := h0 hz
      rw [setlast_cast out hz hl, rde_cast, w64 (x := (out.getD (out.length - 1) ez).f0 + (out.getD (out.length - 1) ez).f1) (by omega) (by omega)];exact Ev.pos (by omega) (Ev.pos (by omega) (Ev.pos (by omega) (Ev.neg h1 (Ev.pos (by omega) next))))
    · refine Ev.neg ?_ (Ev.pos (by omega) next)
      rw [show out.length = 0 by omega, w64 (by omega) (by omega)]
      omega
/-- The blocks that cells hold. -/
def usedBy (cells : List Cell) (i : Nat) : List Bool := (List.range 400).map (fun b : Nat => decide (∃ n, n < i ∧ (cells.getD n z55).f0 = true ∧ (cells.getD n z55).f1 = (b : Int)))
theorem usedBy_len (cells : List Cell) (i : Nat) : (usedBy cells i).length = 400 := by simp [usedBy]
theorem usedBy_get (cells : List Cell) (i b : Nat) (h : b < 400) : (usedBy cells i).getD b false = true ↔ ∃ n, n < i ∧ (cells.getD n z55).f0 = true ∧ (cells.getD n z55).f1 = (b : Int) := by
  rw [getD_eq _ _ _ (by rw [usedBy_len]; exact h)]
  simp [usedBy]
theorem blocksIn_ev (cells : List Cell) (hl : cells.length ≤ 200) (hb : ∀ n, n < cells.length → (cells.getD n z55).f0 = true → 0 ≤ (cells.getD n z55).f1 ∧ (cells.getD n z55).f1 < 400) (E : List Ex) (hE : ECanon 400 E) (hh : ∀ b, b < 400 → (InE E b ↔ ∃ n, n < cells.length ∧ (cells.getD n z55).f0 = true ∧ (cells.getD n z55).f1 = (b : Int))) : Ev (fun k => impl_blocksIn.f k cells) E := by
  have loop : ∀ d i, cells.length - i = d → i ≤ cells.length → Ev (fun k => impl_blocksIn.l0 k cells (cells.length : Int) (i : Int) (usedBy cells i)) E := by
    intro d
    induction d with
    | zero =>
      intro i hd hi
      have : i = cells.length := by omega
      subst this;refine Ev.step (fun k => by rw [impl_blocksIn.l0]) ?_;refine Ev.neg (by omega) (Ev.bind' E ?_ (Ev.now _));exact merged_blocks_ev E 400 (by omega) hE _ (by rw [usedBy_len]; omega) (fun n hn => by rw [hh n hn, usedBy_get _ _ _ hn])
    | succ d ih =>
      intro i hd hi;have ih' := ih (i + 1) (by omega) (by omega)
      have hr : rd_T55 cells (i : Int) = cells.getD i z55 := by simp [rd_T55]
      refine Ev.step (fun k => by rw [impl_blocksIn.l0]) ?_;rw [hr, w64 (x := (i : Int) + 1) (by omega) (by omega)];refine Ev.pos (by omega) (Ev.pos (by omega) (Ev.pos (by omega) (Ev.ite (fun hm => ?_) (fun hm => ?_))))
      · obtain ⟨h0, h1⟩ := hb i (by omega) hm
        refine Ev.pos h0 (Ev.pos (by rw [usedBy_len]; omega) ?_)
        have e : (usedBy cells i).set (cells.getD i z55).f1.toNat true = usedBy cells (i + 1) := by
          unfold usedBy;rw [range_map_set _ _ _ _ (by omega)]
          refine List.map_congr_left fun b _ => ?_
          by_cases e1 : b = (cells.getD i z55).f1.toNat
          · rw [if_pos e1]
            symm
            rw [decide_eq_true_eq];exact ⟨i, by omega, hm, by omega⟩
          · rw [if_neg e1]
            refine decide_eq_decide.2 ⟨fun ⟨n, h2, h3⟩ => ⟨n, by omega, h3⟩, fun ⟨n, h2, h3, h4⟩ => ⟨n, ?_, h3, h4⟩⟩
            by_cases e2 : n = i
            · subst e2; omega
            · omega
        rw [e];exact ih'
      · have e : usedBy cells i = usedBy cells (i + 1) := by
          unfold usedBy
          refine List.map_congr_left fun b _ => ?_
          refine decide_eq_decide.2 ⟨fun ⟨n, h2, h3⟩ => ⟨n, by omega, h3⟩, fun ⟨n, h2, h3, h4⟩ => ⟨n, ?_, h3, h4⟩⟩
          by_cases e2 : n = i
          · subst e2; exact absurd h3 hm
          · omega
        rw [e];exact ih'
  unfold impl_blocksIn.f;refine Ev.pos (by omega) ?_;have := loop cells.length 0 rfl (by omega)
  have e : usedBy cells 0 = List.replicate 400 false := by
    unfold usedBy;rw [List.eq_replicate_iff];refine ⟨by rw [List.length_map, List.length_range], fun x hx => ?_⟩;obtain ⟨b, _, rfl⟩ := List.mem_map.1 hx;refine decide_eq_false ?_;rintro ⟨n, h, _⟩
    omega
  rw [e] at this;exact this
end Go.Proofs.Ytebhdnihmkndlaa.Q
