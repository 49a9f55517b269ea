/- The law FnExactNamesOf, for all arguments: its walk behind the plain law. No condition. -/
import Derived.Test.YtggkhamidkmjpaaDoorLawNamesOf
import Derived.Test.YtggkhamidkmjpaaDoorDirNamesB
import Derived.Test.YtggkhamidkmjpaaDoorDirArgs
namespace Go.Proofs.YtggkhamidkmjpaaDoor.Q
open Go.RowKit Go.Proofs.YtggkhamidkmjpaaDoorW.PrintWords Go.Proofs.YtggkhamidkmjpaaDoor.G
set_option linter.unusedVariables false
set_option linter.unusedSimpArgs false
theorem Ev.at {α : Type} {g : Nat → Option α} {r : α} (h : Ev g r) : ∃ k, g k = some r := by
  obtain ⟨K, h⟩ := h
  exact ⟨K, h K (Nat.le_refl _)⟩
theorem markBucketS_go : ∀ (d i : Nat) (x : List S43) (a : Int), x.length - i = d → i ≤ x.length → x.length ≤ 1048576 → (∀ j, j < x.length → (x.getD j z43).f1.length ≤ 1048576) → 0 ≤ a → a + 2097153 * (d : Int) ≤ 1152921504606846976 →
    ∃ (q : Int) (m : List S43), Ev (fun k => laws_markBucketS.l0 k x a (i : Int)) (q, m) ∧ a ≤ q := by
  intro d
  induction d with
  | zero =>
    intro i x a hd hi hx hn h0 h1
    exact ⟨a, x, Ev.step (fun k => by rw [laws_markBucketS.l0]) (Ev.neg (by omega) (Ev.now _)), Int.le_refl _⟩
  | succ d ih =>
    intro i x a hd hi hx hn h0 h1
    have hlt : i < x.length := by omega
    have hl := hn i hlt
    obtain ⟨t, p, e1, _, b1, b2, b3⟩ := markNameS_ev (x.getD i z43).f1 (a + 1) (by omega) (by omega)
    obtain ⟨q, m, e2, b4⟩ := ih (i + 1) (x.set i (⟨a, p⟩ : S43)) t (by rw [List.length_set]; omega) (by rw [List.length_set]; omega) (by rw [List.length_set]; omega) (fun j hj => by
      rw [List.length_set] at hj
      rw [List.getD_eq_getElem?_getD, List.getElem?_set]
      by_cases c : i = j
      · rw [if_pos c, if_pos hlt]
        show p.length ≤ _
        omega
      · rw [if_neg c, ← List.getD_eq_getElem?_getD]
        exact hn j hj) (by omega) (by omega)
    refine ⟨q, m, Ev.step (fun k => by rw [laws_markBucketS.l0]) (Ev.pos (by omega) (Ev.pos (by omega) ?_)), by omega⟩
    rw [w64 (x := a + 1) (by omega) (by omega), w64 (x := (i : Int) + 1) (by omega) (by omega), Int.toNat_natCast, rdiBucket]
    exact Ev.bind' _ e1 e2
theorem FnExactNamesOf_run (x0 : Int) (x1 : List Int) (x2 : List S60) (o0 : ok25 (⟨x0, x1, x2⟩ : S25)) {A1 A2 : Option Addr} {c1 c2 : Nat} (w : World)
    (hr1 : Kd.C (Kd.int .i64) w A1 x1.length x1) (hc1 : x1.length ≤ c1) (hr2 : Kd.C k60 w A2 x2.length x2) (hc2 : x2.length ≤ c2) :
    Calls Tryd.prog 3 #[.agg #[.int .i64 x0, .slice A1 x1.length c1, .slice A2 x2.length c2]] w fun e w' => e = .returned (.bool true) ∧ Below w.heap.size w w' := by
  obtain ⟨t0, e0, n0⟩ := szDir_ev x0 x1 x2 (o0.2.1).1 (o0.2.2).1 (o0.2.2).2 1048576 (by omega) (by omega)
  obtain ⟨_, hZ⟩ := Ev.at e0
  by_cases c0 : t0 < 0
  · exact laws_FnExactNamesOf.early _ x0 x1 x2 t0 hZ c0 w hr1 hc1 hr2 hc2
  obtain ⟨_, l1, l2, l3⟩ := n0 c0
  obtain ⟨Z, hn⟩ := dir_sizes x1 x2 l1 l2 l3
  have l3' : ∀ j, j < x2.length → (x2.getD j z60).f1.length ≤ 1048576 := fun j hj => by have := (l3 j hj).1; omega
  have k2 : (x2.map convBucket).length ≤ 1048576 := by rw [List.length_map]; omega
  obtain ⟨kt, hT⟩ := Ev.at (toDir_ev x0 x1 x2 (by omega) (by omega) l3')
  obtain ⟨g, b, hs, hi, hg⟩ := namesOf_both x0 x1 (x2.map convBucket) Z
  obtain ⟨ks, hS⟩ := Ev.at hs
  obtain ⟨ki, hI⟩ := Ev.at hi
  obtain ⟨ke, hE⟩ := Ev.at (eqNameS_refl g (by omega))
  obtain ⟨ke2, hE2⟩ := Ev.at (eqDir_refl x0 x1 (x2.map convBucket) (by omega) k2 hn)
  obtain ⟨t, p1, em, _, b1, b2, _⟩ := markIntS_ev x1 1 (by omega) (by omega)
  obtain ⟨km, hM⟩ := Ev.at em
  obtain ⟨mk1, p2, em1, b3⟩ := markBucketS_go (x2.map convBucket).length 0 (x2.map convBucket) t (by omega) (by omega) k2 hn (by omega) (by omega)
  obtain ⟨km', hC⟩ := Ev.at em1
  obtain ⟨mk2, q, em2, eh, b4, b5, hl⟩ := markNameS_ev g 1 (by omega) (by omega)
  obtain ⟨km2, hM2⟩ := Ev.at em2
  obtain ⟨kh, hH⟩ := Ev.at eh
  exact laws_FnExactNamesOf.run _ kt ks ki ke ke2 km km' km2 kh x0 x1 x2 x0 x1 (x2.map convBucket) g q p1 p2 t0 t mk1 mk2 b hZ c0 hT hS hI hE hE2 hM hC (by omega) hM2 (by omega) hH hl w hr1 hc1 hr2 hc2
end Go.Proofs.YtggkhamidkmjpaaDoor.Q
