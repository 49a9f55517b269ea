/- GoodWork of the reference and of the program: the same answer; the intents of a state. -/
import Derived.Test.YtpfimjgfojdhhaaIntItems
import Derived.Test.YtpfimjgfojdhhaaG3
import Derived.Test.YtpfimjgfojdhhaaG5
namespace Go.Proofs.Ytpfimjgfojdhhaa.Q
open Go.RowKit Go.Proofs.YtpfimjgfojdhhaaW.PrintWords Go.Proofs.Ytpfimjgfojdhhaa.G
set_option linter.unusedVariables false
theorem runI_length {n : Int} {fp : List X_} : ∀ (l out o : List It), runI n fp out l = some o → o.length ≤ out.length + l.length
  | [], out, o, h => by rw [runI] at h; obtain rfl := Option.some.inj h; simp
  | x :: t, out, o, h => by
    rw [runI] at h
    cases e : istep n fp out x with
    | none => rw [e] at h; cases h
    | some o1 =>
      rw [e] at h;have h1 := istep_length e;have h2 := runI_length t o1 o h;rw [List.length_cons]
      omega
/-- The intents of a state, as both see them: none where it is no state. -/
theorem goodIntents_full (n : Int) (fp m : List X_) (nxt : Int) (l : List It) (hfp : fp.length ≤ 1048576) (hl : l.length ≤ 1048576) :
    ∃ o : Option (List It), Ev (fun k => impl_goodIntents.f k n fp m nxt l) (ansI o) ∧ Ev (fun k => spec_GoodWork.f k n fp m nxt l) o.isSome ∧
      (∀ out, o = some out → out.length ≤ 30 ∧ runI n fp [] l = some out ∧ l.length ≤ 30 ∧ 1 ≤ n ∧ n ≤ 400 ∧ fp.length ≤ 60 ∧ nxt = (out.length : Int) + 1) := by
  obtain ⟨g, e1, e2, hg⟩ := goodFree_full n fp m hfp
  have badj : Ev (fun k => impl_intentsOf.j0 k l true n fp m) (ansI none) :=
    Ev.step (fun k => by rw [impl_intentsOf.j0]) (Ev.pos rfl (Ev.now' (show (([] : List It), false) = ansI none from rfl)))
  unfold impl_goodIntents.f impl_intentsOf.f spec_GoodWork.f
  cases g with
  | false =>
    exact ⟨none, Ev.bind' _ (Ev.bind' _ e2 (Ev.neg Bool.false_ne_true badj)) (Ev.neg Bool.false_ne_true (Ev.now _)), Ev.bind' _ e1 (Ev.neg Bool.false_ne_true (Ev.now _)), fun _ h => by cases h⟩
  | true =>
    obtain ⟨n1, n2, f60⟩ := hg rfl
    have hs : Ev (fun k => spec_l12Items.l0 k l 1 l (l.length : Int) 0 n fp m) (ansS (decide ((l.length : Int) ≤ 30)) (runI n fp [] l)) :=
      scan_s n fp m l n1 n2 f60 hl l.length 0 [] rfl (Nat.zero_le _) (Nat.zero_le _) Inv.start
    have hs' : Ev (fun k => spec_l12Items.f k n fp m l) (ansS (decide ((l.length : Int) ≤ 30)) (runI n fp [] l)) := by
      unfold spec_l12Items.f;exact hs
    by_cases c : (l.length : Int) ≤ 30
    · have hi : Ev (fun k => impl_intentsOf.l0 k [] l (l.length : Int) 0 n fp m) (ansI (runI n fp [] l)) :=
        scan_i n fp m l n1 n2 f60 (by omega) l.length 0 [] rfl (Nat.zero_le _) (Nat.zero_le _)
      have hd : decide ((l.length : Int) > 30) = false := decide_eq_false (by omega)
      have hi' : Ev (fun k => (impl_GoodFree.f k n fp m).bind fun t382 => (if t382 = true then (impl_intentsOf.j0 k l (decide ((l.length : Int) > 30)) n fp m) else (impl_intentsOf.j0 k l true n fp m))) (ansI (runI n fp [] l)) :=
        Ev.bind' _ e2 (Ev.pos rfl (by rw [hd]; exact Ev.step (fun k => by rw [impl_intentsOf.j0]) (Ev.neg Bool.false_ne_true hi)))
      rw [decide_eq_true c] at hs'
      cases e : runI n fp [] l with
      | none =>
        rw [e] at hs' hi';exact ⟨none, Ev.bind' _ hi' (Ev.neg Bool.false_ne_true (Ev.now _)), Ev.bind' _ e1 (Ev.pos rfl (Ev.bind' _ hs' (Ev.neg Bool.false_ne_true (Ev.now _)))), fun _ h => by cases h⟩
      | some out =>
        rw [e] at hs' hi';have hol := runI_length l [] out e;rw [List.length_nil] at hol;have hw : wrap64 ((out.length : Int) + 1) = (out.length : Int) + 1 := w64 (by omega) (by omega)
        by_cases d : nxt = (out.length : Int) + 1
        · exact ⟨some out, Ev.bind' _ hi' (Ev.pos rfl (Ev.pos (by rw [d]; exact hw.symm) (Ev.now _))), Ev.bind' _ e1 (Ev.pos rfl (Ev.bind' _ hs' (Ev.pos rfl (Ev.now' (by simp [ansS, d]))))), fun o h => by
            obtain rfl := Option.some.inj h
            exact ⟨by omega, rfl, by omega, n1, n2, f60, d⟩⟩
        · exact ⟨none, Ev.bind' _ hi' (Ev.pos rfl (Ev.neg (fun h => d (h.trans hw)) (Ev.now _))), Ev.bind' _ e1 (Ev.pos rfl (Ev.bind' _ hs' (Ev.pos rfl (Ev.now' (by
            simp only [ansS, Option.isSome_none, beq_eq_false_iff_ne, ne_eq]
            exact fun h => d h.symm))))), fun _ h => by cases h⟩
    · have hd : decide ((l.length : Int) > 30) = true := decide_eq_true (by omega)
      rw [decide_eq_false c] at hs';refine ⟨none, Ev.bind' _ (Ev.bind' _ e2 (Ev.pos rfl (by rw [hd]; exact badj))) (Ev.neg Bool.false_ne_true (Ev.now _)), Ev.bind' _ e1 (Ev.pos rfl (Ev.bind' _ hs' ?_)), fun _ h => by cases h⟩
      cases e : runI n fp [] l with
      | none => exact Ev.neg Bool.false_ne_true (Ev.now _)
      | some out => exact Ev.neg Bool.false_ne_true (Ev.now _)
theorem goodWork_both (n : Int) (fp m : List X_) (nxt : Int) (l : List It) (hfp : fp.length ≤ 1048576) (hm : m.length ≤ 1048576) (hl : l.length ≤ 1048576) :
    ∃ r, Ev (fun k => spec_GoodWork.f k n fp m nxt l) r ∧ Ev (fun k => impl_GoodWork.f k n fp m nxt l) r := by
  obtain ⟨o, h1, h2, _⟩ := goodIntents_full n fp m nxt l hfp hl;refine ⟨o.isSome, h2, ?_⟩;unfold impl_GoodWork.f;refine Ev.bind' _ h1 (Ev.now' ?_)
  cases o <;> rfl
end Go.Proofs.Ytpfimjgfojdhhaa.Q
