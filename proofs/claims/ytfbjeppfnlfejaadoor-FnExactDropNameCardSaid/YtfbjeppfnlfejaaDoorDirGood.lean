/- GoodDir: the two ask the same. -/
import Derived.Test.YtfbjeppfnlfejaaDoorDirImpl
namespace Go.Proofs.YtfbjeppfnlfejaaDoor.Q
open Go.RowKit Go.Proofs.YtfbjeppfnlfejaaDoorW.PrintWords Go.Proofs.YtfbjeppfnlfejaaDoor.G
set_option linter.unusedVariables false
set_option linter.unusedSimpArgs false
theorem cntp_mono (p q : Nat → Bool) : ∀ n, (∀ j, j < n → p j = true → q j = true) → cntp p n ≤ cntp q n
  | 0, _ => Nat.le_refl _
  | n + 1, h => by
    have ih := cntp_mono p q n (fun j hj => h j (by omega))
    have hn := h n (by omega)
    rw [cntp, cntp]
    by_cases a : p n = true
    · rw [if_pos a, if_pos (hn a)]; omega
    · rw [if_neg a]; omega
theorem cntp_eq (p q : Nat → Bool) : ∀ n, (∀ j, j < n → p j = true → q j = true) → cntp p n = cntp q n → ∀ j, j < n → q j = true → p j = true
  | 0, _, _, j, hj, _ => absurd hj (by omega)
  | n + 1, h, e, j, hj, hq => by
    have m := cntp_mono p q n (fun j hj => h j (by omega))
    have hn := h n (by omega)
    rw [cntp, cntp] at e
    by_cases b : q n = true
    · by_cases a : p n = true
      · rw [if_pos a, if_pos b] at e
        by_cases c : j = n
        · subst c; exact a
        · exact cntp_eq p q n (fun j hj => h j (by omega)) (by omega) j (by omega) hq
      · rw [if_neg a, if_pos b] at e; omega
    · by_cases a : p n = true
      · exact absurd (hn a) b
      · rw [if_neg a, if_neg b] at e
        by_cases c : j = n
        · subst c; exact absurd hq b
        · exact cntp_eq p q n (fun j hj => h j (by omega)) (by omega) j (by omega) hq
theorem cntp_congr (p q : Nat → Bool) : ∀ n, (∀ j, j < n → p j = q j) → cntp p n = cntp q n
  | 0, _ => rfl
  | n + 1, h => by rw [cntp, cntp, h n (by omega), cntp_congr p q n (fun j hj => h j (by omega))]
/-- How many numbers below n leave f. -/
theorem cntp_mod (m f : Nat) (hm : 0 < m) (hf : f < m) : ∀ n, cntp (fun j => j % m == f) n = (n + m - 1 - f) / m
  | 0 => by rw [cntp, Nat.div_eq_of_lt (by omega)]
  | n + 1 => by
    rw [cntp, cntp_mod m f hm hf n]
    have e : n + 1 + m - 1 - f = (n + m - 1 - f) + 1 := by omega
    rw [e, Nat.succ_div]
    congr 1
    have e2 : n + m - 1 - f + 1 = n + (m - f) := by omega
    rw [e2]
    have key : (n % m == f) = true ↔ m ∣ n + (m - f) := by
      have dm := Nat.div_add_mod n m
      have lt := Nat.mod_lt n hm
      rw [beq_iff_eq]
      constructor
      · intro h
        refine ⟨n / m + 1, ?_⟩
        rw [Nat.mul_add]
        omega
      · intro h
        have h0 := Nat.mod_eq_zero_of_dvd h
        by_cases c : f ≤ n % m
        · have e3 : n + (m - f) = m * (n / m + 1) + (n % m - f) := by rw [Nat.mul_add]; omega
          rw [e3, Nat.mul_add_mod, Nat.mod_eq_of_lt (by omega)] at h0
          omega
        · have e3 : n + (m - f) = m * (n / m) + (n % m + (m - f)) := by omega
          rw [e3, Nat.mul_add_mod, Nat.mod_eq_of_lt (by omega)] at h0
          omega
    by_cases c : (n % m == f) = true
    · rw [if_pos c, if_pos (key.1 c)]
    · rw [if_neg c, if_neg (fun q => c (key.2 q))]
theorem cntp_class (m q f : Nat) (hm : 0 < m) (hf : f < m) : cntp (fun j => j % m == f) (m * q) = q := by
  rw [cntp_mod m f hm hf]
  have e : m * q + m - 1 - f = (m - 1 - f) + m * q := by omega
  rw [e, Nat.add_mul_div_left _ _ hm, Nat.div_eq_of_lt (by omega), Nat.zero_add]
section
variable {D : Int} {sl : List Int} {bs : List Bu}
theorem pw_nat (i : Nat) (d : Int) : (i : Int) % pw d = ((i % 2 ^ d.toNat : Nat) : Int) := by unfold pw; omega
theorem len_split (d : Int) (d0 : 0 ≤ d) (d1 : d ≤ D) (hn : (sl.length : Int) = pw D) : ∃ q, sl.length = 2 ^ d.toNat * q ∧ (sl.length : Int) / pw d = (q : Int) := by
  refine ⟨2 ^ (D.toNat - d.toNat), ?_, ?_⟩
  · rw [← Nat.pow_add]
    have : d.toNat + (D.toNat - d.toNat) = D.toNat := by omega
    rw [this]
    unfold pw at hn
    omega
  · have e : sl.length = 2 ^ d.toNat * 2 ^ (D.toNat - d.toNat) := by
      rw [← Nat.pow_add]
      have : d.toNat + (D.toNat - d.toNat) = D.toNat := by omega
      rw [this]
      unfold pw at hn
      omega
    unfold pw
    rw [← Int.natCast_ediv, e, Nat.mul_div_cancel_left _ (Nat.pow_pos (by decide))]
/-- A slot's class, of the program's facts. -/
theorem class_i (G : GoodI D sl bs) (i j : Nat) (hi : i < sl.length) (hj : j < sl.length) :
    rd sl (j : Int) = rd sl (i : Int) ↔ j % 2 ^ (dep bs (rd sl (i : Int))).toNat = i % 2 ^ (dep bs (rd sl (i : Int))).toNat := by
  have si := G.S i hi
  have fwd : ∀ q : Nat, q < sl.length → rd sl (q : Int) = rd sl (i : Int) → q % 2 ^ (dep bs (rd sl (i : Int))).toNat = i % 2 ^ (dep bs (rd sl (i : Int))).toNat := fun q hq e => by
    have sq := G.S q hq
    have a1 := si.fi; have a2 := si.fm; have b1 := sq.fi; have b2 := sq.fm
    rw [e] at b1 b2
    rw [pw_nat] at a1 a2 b1 b2
    generalize i % 2 ^ (dep bs (rd sl (i : Int))).toNat = x at *
    generalize q % 2 ^ (dep bs (rd sl (i : Int))).toNat = y at *
    by_cases c : y < x
    · exact absurd b1 (a2 y (by omega))
    · by_cases d : x < y
      · exact absurd a1 (b2 x (by omega))
      · omega
  refine ⟨fwd j hj, fun h => ?_⟩
  have d0 := si.bk.d0; have d1 := si.bk.d1
  obtain ⟨q, e1, e2⟩ := len_split (sl := sl) (dep bs (rd sl (i : Int))) d0 d1 G.n
  have c := G.C (rd sl (i : Int)).toNat (by have := si.k0; have := si.k1; omega)
  rw [Int.toNat_of_nonneg si.k0, e2] at c
  have hp : 0 < 2 ^ (dep bs (rd sl (i : Int))).toNat := Nat.pow_pos (by decide)
  have c2 := cntp_class (2 ^ (dep bs (rd sl (i : Int))).toNat) q (i % 2 ^ (dep bs (rd sl (i : Int))).toNat) hp (Nat.mod_lt _ hp)
  rw [← e1] at c2
  have := cntp_eq (fun j => rd sl (j : Int) == rd sl (i : Int)) (fun j => j % 2 ^ (dep bs (rd sl (i : Int))).toNat == i % 2 ^ (dep bs (rd sl (i : Int))).toNat) sl.length
    (fun q hq h => by rw [beq_iff_eq] at h ⊢; exact fwd q hq h) (by omega) j hj (by rw [beq_iff_eq]; exact h)
  rwa [beq_iff_eq] at this
theorem class_s (G : GoodS D sl bs) (i j : Nat) (hi : i < sl.length) (hj : j < sl.length) :
    rd sl (j : Int) = rd sl (i : Int) ↔ j % 2 ^ (dep bs (rd sl (i : Int))).toNat = i % 2 ^ (dep bs (rd sl (i : Int))).toNat := by
  by_cases c : j < i
  · have h := ((G.S i hi).pr j c).1
    rw [pw_nat, pw_nat] at h
    rw [h]
    omega
  · by_cases d : i < j
    · have h := ((G.S j hj).pr i d).2
      rw [pw_nat, pw_nat] at h
      constructor
      · intro e
        have := h.1 e.symm
        omega
      · intro e
        exact (h.2 (by omega)).symm
    · have : i = j := by omega
      subst this
      simp
theorem good_iff : GoodI D sl bs ↔ GoodS D sl bs := by
  constructor
  · intro G
    have sr := seen_rng sl sl.length
    have L := G.L
    have ex : ∀ b : Nat, b < bs.length → ∃ j, j < sl.length ∧ rd sl (j : Int) = (b : Int) := fun b hb => seen_onto sl (b : Int) (by omega) sl.length (by omega)
    refine ⟨G.D0, G.D1, G.n, by omega, fun i hi => ?_, fun b hb => ?_, L⟩
    · have s := G.S i hi
      refine ⟨s.k0, s.k1, s.k2, s.bk.d0, s.bk.d1, fun j hj => ?_⟩
      have c1 := class_i G i j hi (by omega)
      have c2 := class_i G j i (by omega) hi
      refine ⟨?_, ?_⟩
      · rw [pw_nat, pw_nat, c1]
        omega
      · rw [pw_nat, pw_nat, eq_comm (a := rd sl (j : Int)), c2]
        omega
    · obtain ⟨j, hj, e⟩ := ex b hb
      have bk := (G.S j hj).bk
      rw [e] at bk
      refine ⟨fun i hi => ?_, bk.n⟩
      have n := bk.N i hi
      have h := G.N b hb i hi
      rw [G.n] at h
      exact ⟨n.nm, n.f0, n.f1, n.or_, h⟩
  · intro G
    have sr := seen_rng sl sl.length
    have L := G.L
    refine ⟨G.D0, G.D1, G.n, fun i hi => ?_, L, fun b hb => ?_, fun b hb i hi => ?_⟩
    · have s := G.S i hi
      have k0 := s.k0; have k1 := s.k1
      have N := G.N (rd sl (i : Int)).toNat (by omega)
      rw [Int.toNat_of_nonneg k0] at N
      have hp : 0 < 2 ^ (dep bs (rd sl (i : Int))).toNat := Nat.pow_pos (by decide)
      have hm := Nat.mod_le i (2 ^ (dep bs (rd sl (i : Int))).toNat)
      have hl := Nat.mod_lt i hp
      refine ⟨k0, k1, s.k2, ⟨s.d0, s.d1, N.2, fun q hq => ?_⟩, ?_, fun j hj => ?_⟩
      · have n := N.1 q hq
        exact ⟨n.nm, n.f0, n.f1, n.or_⟩
      · rw [pw_nat, class_s G i _ hi (by omega)]
        exact Nat.mod_mod _ _
      · rw [pw_nat] at hj
        intro e
        have := (class_s G i j hi (by omega)).1 e
        rw [Nat.mod_eq_of_lt (by omega)] at this
        omega
    · obtain ⟨i, hi, e⟩ := seen_onto sl (b : Int) (by omega) sl.length (by omega)
      have s := G.S i hi
      obtain ⟨q, e1, e2⟩ := len_split (sl := sl) (dep bs (rd sl (i : Int))) s.d0 s.d1 G.n
      have hp : 0 < 2 ^ (dep bs (rd sl (i : Int))).toNat := Nat.pow_pos (by decide)
      have c2 := cntp_class (2 ^ (dep bs (rd sl (i : Int))).toNat) q (i % 2 ^ (dep bs (rd sl (i : Int))).toNat) hp (Nat.mod_lt _ hp)
      rw [← e1] at c2
      rw [← e, e2, ← c2]
      congr 1
      refine cntp_congr _ _ _ (fun j hj => ?_)
      rw [Bool.eq_iff_iff, beq_iff_eq, beq_iff_eq]
      exact class_s G i j hi hj
    · have n := (G.N b hb).1 i hi
      rw [G.n]
      exact n.hs
/-- GoodDir of both. -/
theorem goodDir_ev (D : Int) (sl : List Int) (bs : List Bu) (Z : SzOk sl bs) : ∃ r : Bool, (Ev (fun k => spec_GoodDir.f k D sl bs) r ∧ Ev (fun k => impl_GoodDir.f k D sl bs) r) ∧ (r = true ↔ GoodS D sl bs) := by
  classical
  exact ⟨decide (GoodS D sl bs), ⟨spec_ev Z _ decide_eq_true_iff, impl_ev Z _ (by rw [good_iff]; exact decide_eq_true_iff)⟩, decide_eq_true_iff⟩
end
end Go.Proofs.YtfbjeppfnlfejaaDoor.Q
