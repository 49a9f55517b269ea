/- The program's count of names, breadth first. -/
import Derived.Test.YtoneooblgdoooaaDoorNameSeen
import Derived.Test.YtoneooblgdoooaaDoorNameBase
import Derived.Test.YtoneooblgdoooaaDoorG2
namespace Go.Proofs.YtoneooblgdoooaaDoor.Q
open Go.RowKit Go.Proofs.YtoneooblgdoooaaDoorW.PrintWords Go.Proofs.YtoneooblgdoooaaDoor.G
set_option linter.unusedVariables false
set_option linter.unusedSimpArgs false
abbrev Vi := S62
theorem rdV (l : List Vi) (i : Nat) : rd_T62 l (i : Int) = l.getD i z62 := by simp [rd_T62]
/-- How many directories below n are not yet named. -/
def N0 (t : List Ino) (s : List Int) : Nat → Nat
  | 0 => 0
  | n + 1 => N0 t s n + if isd t n = true ∧ rd s (n : Int) = 0 then 1 else 0
theorem N0_le (t : List Ino) (s : List Int) : ∀ n, N0 t s n ≤ n
  | 0 => Nat.le_refl _
  | n + 1 => by have := N0_le t s n; rw [N0]; split <;> omega
theorem N0_mono (t : List Ino) (s s' : List Int) : ∀ n, (∀ f, f < n → isd t f = true → rd s' (f : Int) = 0 → rd s (f : Int) = 0) → N0 t s' n ≤ N0 t s n
  | 0, _ => Nat.le_refl _
  | n + 1, h => by
    have ih := N0_mono t s s' n (fun f hf => h f (by omega))
    rw [N0, N0]
    by_cases c : isd t n = true ∧ rd s' (n : Int) = 0
    · rw [if_pos c, if_pos ⟨c.1, h n (by omega) c.1 c.2⟩]; omega
    · rw [if_neg c]; omega
theorem N0_less (t : List Ino) (s s' : List Int) (x : Nat) (hd : isd t x = true) (h0 : rd s (x : Int) = 0) (h1 : rd s' (x : Int) ≠ 0) : ∀ n, x < n → (∀ f, f < n → isd t f = true → rd s' (f : Int) = 0 → rd s (f : Int) = 0) → N0 t s' n + 1 ≤ N0 t s n
  | 0, hx, _ => absurd hx (by omega)
  | n + 1, hx, h => by
    rw [N0, N0]
    by_cases e : x = n
    · subst e
      have ih := N0_mono t s s' x (fun f hf => h f (by omega))
      rw [if_neg (fun q => h1 q.2), if_pos ⟨hd, h0⟩]; omega
    · have ih := N0_less t s s' x hd h0 h1 n (by omega) (fun f hf => h f (by omega))
      by_cases c : isd t n = true ∧ rd s' (n : Int) = 0
      · rw [if_pos c, if_pos ⟨c.1, h n (by omega) c.1 c.2⟩]; omega
      · rw [if_neg c]; omega
/-- What the visits still lead to. -/
def Wp (t : List Ino) (P : List Vi) : List Nat := P.flatMap fun v => U t (8 - v.f1.toNat) v.f0.toNat
def CP (t : List Ino) (P : List Vi) : Prop := ∀ v ∈ P, C t (8 - v.f1.toNat) v.f0.toNat
def CX (t : List Ino) (xs : List Nm) (d : Nat) : Prop := ∀ x ∈ xs, d < 8 ∧ inr t x ∧ (isd t (fl x) = true → C t (7 - d) (fl x))
theorem Wp_cons (t : List Ino) (v : Vi) (P : List Vi) : Wp t (v :: P) = U t (8 - v.f1.toNat) v.f0.toNat ++ Wp t P := by unfold Wp; rw [List.flatMap_cons]
theorem Wp_snoc (t : List Ino) (v : Vi) (P : List Vi) : Wp t (P ++ [v]) = Wp t P ++ U t (8 - v.f1.toNat) v.f0.toNat := by unfold Wp; rw [List.flatMap_append]; simp
/-- A visit's names, told by the visit's depth. -/
theorem open_visit (t : List Ino) (k d : Nat) (h : d ≤ 8) : (C t (8 - d) k ↔ CX t (nms t k) d) ∧ (d < 8 → U t (8 - d) k = Ux t (7 - d) (nms t k)) ∧ (CX t (nms t k) d → U t (8 - d) k = Ux t (7 - d) (nms t k)) := by
  by_cases c : d = 8
  · subst c
    have key : C t 0 k ↔ CX t (nms t k) 8 := by
      constructor
      · intro q x hx
        rw [show nms t k = [] from q] at hx
        cases hx
      · intro q
        show nms t k = []
        cases hl : nms t k with
        | nil => rfl
        | cons x xs => exact absurd (q x (by rw [hl]; simp)).1 (by omega)
    refine ⟨key, fun q => absurd q (by omega), fun q => ?_⟩
    have e : nms t k = [] := key.2 q
    rw [e]
    rfl
  · have e : 8 - d = (7 - d) + 1 := by omega
    rw [e]
    refine ⟨⟨fun q x hx => ⟨by omega, q x hx⟩, fun q x hx => (q x hx).2⟩, fun _ => U_succ .., fun _ => U_succ ..⟩
structure Inv (t : List Ino) (s : List Int) (most : Int) (line : List Vi) (μ : Nat) : Prop where
  ls : s.length = t.length
  rs : ∀ f, f < t.length → 0 ≤ rd s (f : Int) ∧ rd s (f : Int) + (μ : Int) ≤ 4000
  ll : line.length + N0 t s t.length ≤ 61
  lv : ∀ v ∈ line, 0 ≤ v.f0 ∧ v.f0 < (t.length : Int) ∧ 0 ≤ v.f1 ∧ v.f1 + (N0 t s t.length : Int) ≤ 61 ∧ v.f1 ≤ most
  m0 : 0 ≤ most
  m1 : most ≤ 62
/-- What an answer (most, named, ok) says, where so much is still to be met. -/
def Res (t : List Ino) (s : List Int) (most : Int) (cond : Prop) (L : List Nat) (r : Int × List Int × Bool) : Prop :=
  (r.2.2 = true → most ≤ r.1 ∧ r.2.1.length = t.length) ∧
  (most ≤ 8 → ((r.2.2 = true ∧ r.1 ≤ 8) ↔ cond ∧ G t (fun f => rd s (f : Int)) L) ∧ (r.2.2 = true → r.1 ≤ 8 → ∀ f, f < t.length → rd r.2.1 (f : Int) = rd s (f : Int) + (L.count f : Int)))
theorem deep_ev (t : List Ino) (zt : t.length ≤ 60) (h20 : ∀ k, (nms t k).length ≤ 20) : ∀ μ : Nat,
    (∀ s most line i, Inv t s most line μ → i ≤ line.length → (N0 t s t.length + (line.length - i)) * 21 ≤ μ →
      ∃ r, Ev (fun q => impl_Names_deepest.l0 q s most line (i : Int) t) r ∧ Res t s most (CP t (line.drop i)) (Wp t (line.drop i)) r) ∧
    (∀ s most line i j, Inv t s most line μ → i < line.length → j ≤ (nms t (line.getD i z62).f0.toNat).length →
      (N0 t s t.length + (line.length - i - 1)) * 21 + ((nms t (line.getD i z62).f0.toNat).length - j) ≤ μ →
      ∃ r, Ev (fun q => impl_Names_deepest.l1 q s most line (i : Int) (nms t (line.getD i z62).f0.toNat) ((nms t (line.getD i z62).f0.toNat).length : Int) (j : Int) t) r ∧
        Res t s most (CX t ((nms t (line.getD i z62).f0.toNat).drop j) (line.getD i z62).f1.toNat ∧ CP t (line.drop (i + 1))) (Ux t (7 - (line.getD i z62).f1.toNat) ((nms t (line.getD i z62).f0.toNat).drop j) ++ Wp t (line.drop (i + 1))) r) := by
  intro μ
  induction μ using Nat.strongRecOn with
  | _ μ ih =>
  have outer : ∀ s most line i, Inv t s most line μ → i ≤ line.length → (N0 t s t.length + (line.length - i)) * 21 ≤ μ →
      ∃ r, Ev (fun q => impl_Names_deepest.l0 q s most line (i : Int) t) r ∧ Res t s most (CP t (line.drop i)) (Wp t (line.drop i)) r := by
    intro s most line i I hi hμ
    have ll := I.ll
    by_cases c : i = line.length
    · subst c
      rw [List.drop_length]
      refine ⟨(most, s, true), Ev.step (fun q => by rw [impl_Names_deepest.l0]) (Ev.neg (by omega) (Ev.now _)), fun _ => ⟨Int.le_refl _, I.ls⟩, fun hm => ⟨⟨fun _ => ⟨fun v hv => absurd hv (by simp), G_nil _ _⟩, fun _ => ⟨rfl, hm⟩⟩, fun _ _ f _ => by simp [Wp]⟩⟩
    · have hil : i < line.length := by omega
      have n20 := h20 (line.getD i z62).f0.toNat
      have hv := I.lv _ (getD_mem line i z62 hil)
      obtain ⟨r, e, h1, h2⟩ := (ih (μ - 1) (by omega)).2 s most line i 0 ⟨I.ls, fun f hf => by have := I.rs f hf; omega, I.ll, I.lv, I.m0, I.m1⟩ hil (by omega) (by omega)
      rw [List.drop_zero] at h2
      have ed := drop_getD line i z62 hil
      refine ⟨r, ?_, h1, ?_⟩
      · refine Ev.step (fun q => by rw [impl_Names_deepest.l0]) ?_
        rw [rdV]
        have e2 : (line.getD i z62).f0 = (((line.getD i z62).f0.toNat : Nat) : Int) := by omega
        refine Ev.pos (by omega) (Ev.pos (by omega) (Ev.pos (by omega) (Ev.pos (by omega) ?_)))
        rw [e2, rdI]
        exact e
      · rw [ed]
        generalize line.getD i z62 = v at hv h2 ⊢
        intro hm
        obtain ⟨h3, h4⟩ := h2 hm
        obtain ⟨o1, o2, o3⟩ := open_visit t v.f0.toNat v.f1.toNat (by omega)
        rw [Wp_cons]
        have cp : CP t (v :: line.drop (i + 1)) ↔ CX t (nms t v.f0.toNat) v.f1.toNat ∧ CP t (line.drop (i + 1)) := by
          unfold CP
          rw [List.forall_mem_cons, o1]
        rw [cp]
        constructor
        · rw [h3]
          constructor
          · intro ⟨⟨a, b⟩, g⟩
            rw [o3 a]
            exact ⟨⟨a, b⟩, g⟩
          · intro ⟨⟨a, b⟩, g⟩
            rw [o3 a] at g
            exact ⟨⟨a, b⟩, g⟩
        · intro a b f hf
          have x := (h3.1 ⟨a, b⟩).1.1
          rw [o3 x]
          exact h4 a b f hf
  refine ⟨outer, ?_⟩
  intro s most line i j I hil hj hμ
  have ll := I.ll
  have hv := I.lv _ (getD_mem line i z62 hil)
  have n20 := h20 (line.getD i z62).f0.toNat
  have rv : ∀ line2 : List Vi, rd_T62 (line ++ line2) (i : Int) = line.getD i z62 := fun line2 => by rw [rdV, getD_append_left _ _ _ _ hil]
  have rv0 := rv []
  rw [List.append_nil] at rv0
  obtain ⟨v, ev⟩ : ∃ v, v = line.getD i z62 := ⟨_, rfl⟩
  rw [← ev] at hv n20 hj hμ rv0 ⊢
  simp only [← ev] at rv
  obtain ⟨k, ek⟩ : ∃ k, k = v.f0.toNat := ⟨_, rfl⟩
  obtain ⟨d, edp⟩ : ∃ d, d = v.f1.toNat := ⟨_, rfl⟩
  rw [← ek] at n20 hj hμ ⊢
  rw [← edp]
  by_cases c : j = (nms t k).length
  · subst c
    obtain ⟨r, e, h⟩ := outer s most line (i + 1) I (by omega) (by omega)
    rw [List.drop_length, Ux_nil, List.nil_append]
    refine ⟨r, Ev.step (fun q => by rw [impl_Names_deepest.l1]) (Ev.neg (by omega) ?_), h.1, fun hm => ?_⟩
    · rw [wS (i := i) (by omega)]
      exact e
    · obtain ⟨h3, h4⟩ := h.2 hm
      refine ⟨?_, h4⟩
      rw [h3]
      exact ⟨fun q => ⟨⟨fun x hx => absurd hx (by simp), q.1⟩, q.2⟩, fun q => ⟨q.1.2, q.2⟩⟩
  have hjl : j < (nms t k).length := by omega
  have edj := drop_getD (nms t k) j zN hjl
  have ex : rd_T42 (nms t k) (j : Int) = (nms t k).getD j zN := rdiName _ j
  rw [edj]
  generalize (nms t k).getD j zN = x at ex ⊢
  rw [Ux_cons]
  have ms := I.m0
  have ms1 := I.m1
  by_cases cr : 1 ≤ x.f1 ∧ x.f1 ≤ (t.length : Int) - 1
  rotate_left
  · refine ⟨(0, [], false), Ev.step (fun q => by rw [impl_Names_deepest.l1]) (Ev.pos (by omega) (Ev.pos (by omega) (Ev.pos (by omega) ?_))), fun h => absurd h (by simp), fun hm => ⟨⟨fun h => absurd h.1 (by simp), fun h => absurd (h.1.1 x (by simp)).2.1 cr⟩, fun h => absurd h (by simp)⟩⟩
    rw [ex, w64 (x := (t.length : Int) - 1) (by omega) (by omega)]
    exact Ev.bindc _ (within_eq' _ _ _) (Ev.neg (by simpa using cr) (Ev.now _))
  have ef : ((fl x : Nat) : Int) = x.f1 := by unfold fl; omega
  have hfl : fl x < t.length := by omega
  have rsx := I.rs (fl x) hfl
  have ls := I.ls
  obtain ⟨y, hy⟩ : ∃ y, y = s.set (fl x) (rd s (fl x : Int) + 1) := ⟨_, rfl⟩
  have ly : y.length = t.length := by rw [hy, List.length_set]; exact ls
  have ry : ∀ f : Nat, rd y (f : Int) = rd s (f : Int) + if f = fl x then 1 else 0 := fun f => by
    rw [hy, rd_set _ _ _ _ (by omega)]
    by_cases c : f = fl x
    · subst c; rw [if_pos rfl, if_pos rfl]
    · rw [if_neg c, if_neg c]; omega
  obtain ⟨most2, hm2⟩ : ∃ m2, m2 = mx most (v.f1 + 1) := ⟨_, rfl⟩
  have hmx : most ≤ most2 ∧ v.f1 + 1 ≤ most2 ∧ (most2 = most ∨ most2 = v.f1 + 1) := by
    rw [hm2]; unfold mx; split <;> omega
  have enter : ∀ r, Ev (fun q => if (t.getD (fl x) zI).f0 = true then (if (rd y x.f1) > 1 then (some (0, ([] : List Int), false)) else (if line.length < 8796093022208 then (impl_Names_deepest.l1 q y most2 (line ++ [(⟨x.f1, v.f1 + 1⟩ : Vi)]) (i : Int) (nms t k) ((nms t k).length : Int) ((j + 1 : Nat) : Int) t) else (none))) else (impl_Names_deepest.l1 q y most2 line (i : Int) (nms t k) ((nms t k).length : Int) ((j + 1 : Nat) : Int) t)) r →
      Ev (fun q => impl_Names_deepest.l1 q s most line (i : Int) (nms t k) ((nms t k).length : Int) (j : Int) t) r := fun r e => by
    refine Ev.step (fun q => by rw [impl_Names_deepest.l1]) ?_
    rw [ex, w64 (x := (t.length : Int) - 1) (by omega) (by omega), rv0, w64 (x := v.f1 + 1) (by omega) (by omega), wS (i := j) (by omega), ← hm2, ← ef, rdI, Int.toNat_natCast, w64 (x := rd s (fl x : Int) + 1) (by omega) (by omega), ← hy]
    refine Ev.pos (by omega) (Ev.pos (by omega) (Ev.pos (by omega) (Ev.bindc _ (within_eq' _ _ _) (Ev.pos (by simpa [ef] using cr) ?_))))
    refine Ev.pos (by omega) (Ev.pos (by omega) (Ev.pos (by omega) (Ev.pos (by omega) (Ev.bindc y rfl (Ev.pos (by omega) ?_)))))
    rw [← ef] at e
    exact e
  have n0m : N0 t y t.length ≤ N0 t s t.length := N0_mono t s y _ (fun f hf hd h => by
    have := I.rs f hf
    rw [ry] at h
    split at h <;> omega)
  have ryx : rd y x.f1 = rd s (fl x : Int) + 1 := by rw [← ef, ry, if_pos rfl]
  have ri : ∀ f, f < t.length → 0 ≤ rd y (f : Int) ∧ rd y (f : Int) + ((μ - 1 : Nat) : Int) ≤ 4000 := fun f hf => by
    have := I.rs f hf
    rw [ry]
    split <;> omega
  by_cases cd : isd t (fl x) = true
  rotate_left
  · obtain ⟨r, e, h1, h2⟩ := (ih (μ - 1) (by omega)).2 y most2 line i (j + 1) ⟨ly, ri, by omega, fun w hw => by have := I.lv w hw; omega, by omega, by omega⟩ hil (by rw [← ev, ← ek]; omega) (by rw [← ev, ← ek]; omega)
    rw [← ev, ← ek] at e
    rw [← ev, ← ek, ← edp] at h2
    refine ⟨r, enter _ (Ev.neg cd e), fun h => ⟨by have := (h1 h).1; omega, (h1 h).2⟩, fun hm => ?_⟩
    rw [if_neg cd]
    by_cases c8 : d < 8
    rotate_left
    · refine ⟨⟨fun h => ?_, fun h => absurd (h.1.1 x (by simp)).1 c8⟩, fun h h8 => ?_⟩
      · have := (h1 h.1).1; omega
      · have := (h1 h).1; omega
    obtain ⟨h3, h4⟩ := h2 (by omega)
    have cnt : ∀ f, (((fl x :: ([] : List Nat)) ++ Ux t (7 - d) ((nms t k).drop (j + 1))) ++ Wp t (line.drop (i + 1))).count f = (if f = fl x then 1 else 0) + (Ux t (7 - d) ((nms t k).drop (j + 1)) ++ Wp t (line.drop (i + 1))).count f := fun f => by
      rw [List.append_assoc, List.count_append, List.count_cons, List.count_nil]
      by_cases c : f = fl x
      · subst c; simp
      · have : ¬ (fl x == f) = true := by simpa using fun q => c q.symm
        simp [c, this]
    refine ⟨?_, fun h h8 f hf => ?_⟩
    · rw [h3]
      have key : G t (fun f => rd s (f : Int)) (((fl x :: ([] : List Nat)) ++ Ux t (7 - d) ((nms t k).drop (j + 1))) ++ Wp t (line.drop (i + 1))) ↔ G t (fun f => rd y (f : Int)) (Ux t (7 - d) ((nms t k).drop (j + 1)) ++ Wp t (line.drop (i + 1))) := by
        rw [List.append_assoc, List.cons_append, List.nil_append, G_cons t _ (fun f => rd y (f : Int)) _ _ (fun f _ => ry f)]
        exact ⟨fun h => h.2, fun h => ⟨fun h2 => absurd h2 cd, h⟩⟩
      rw [key]
      refine and_congr_left fun _ => and_congr_left fun _ => ?_
      unfold CX
      rw [List.forall_mem_cons]
      exact ⟨fun h => ⟨⟨c8, cr, fun h2 => absurd h2 cd⟩, h⟩, fun h => h.2⟩
    · rw [h4 h h8 f hf, ry, cnt]
      by_cases c : f = fl x
      · rw [if_pos c, if_pos c]; omega
      · rw [if_neg c, if_neg c]; omega
  · by_cases c2 : rd s (fl x : Int) + 1 > 1
    · refine ⟨(0, [], false), enter _ (Ev.pos cd (Ev.pos (by omega) (Ev.now _))), fun h => absurd h (by simp), fun hm => ⟨⟨fun h => absurd h.1 (by simp), fun h => ?_⟩, fun h => absurd h (by simp)⟩⟩
      have q : rd s (fl x : Int) + _ ≤ 1 := h.2 (fl x) cd (by simp)
      rw [List.count_append, List.count_append, List.count_cons_self] at q
      omega
    have n0l : N0 t y t.length + 1 ≤ N0 t s t.length := N0_less t s y (fl x) cd (by omega) (by rw [ry, if_pos rfl]; omega) _ hfl (fun f hf hd h => by
      have := I.rs f hf
      rw [ry] at h
      split at h <;> omega)
    have gx : (line ++ [(⟨x.f1, v.f1 + 1⟩ : Vi)]).getD i z62 = v := by rw [getD_append_left _ _ _ _ hil, ← ev]
    obtain ⟨r, e, h1, h2⟩ := (ih (μ - 1) (by omega)).2 y most2 (line ++ [(⟨x.f1, v.f1 + 1⟩ : Vi)]) i (j + 1)
      ⟨ly, ri, by rw [List.length_append, List.length_singleton]; omega, fun w hw => by
        rcases List.mem_append.1 hw with hw | hw
        · have := I.lv w hw; omega
        · rw [List.mem_singleton] at hw
          subst hw
          refine ⟨by show 0 ≤ x.f1; omega, by show x.f1 < _; omega, by show 0 ≤ v.f1 + 1; omega, by show v.f1 + 1 + _ ≤ (61 : Int); omega, by show v.f1 + 1 ≤ _; omega⟩, by omega, by omega⟩
      (by rw [List.length_append]; omega) (by rw [gx, ← ek]; omega) (by rw [gx, ← ek, List.length_append, List.length_singleton]; omega)
    rw [gx, ← ek] at e
    rw [gx, ← ek, ← edp, List.drop_append_of_le_length (by omega), Wp_snoc] at h2
    have t1 : ((⟨x.f1, v.f1 + 1⟩ : Vi).f1).toNat = d + 1 := by show (v.f1 + 1).toNat = _; omega
    have t0 : ((⟨x.f1, v.f1 + 1⟩ : Vi).f0).toNat = fl x := rfl
    rw [t1, t0] at h2
    refine ⟨r, enter _ (Ev.pos cd (Ev.neg (by omega) (Ev.pos (by omega) e))), fun h => ⟨by have := (h1 h).1; omega, (h1 h).2⟩, fun hm => ?_⟩
    rw [if_pos cd]
    by_cases c8 : d < 8
    rotate_left
    · refine ⟨⟨fun h => ?_, fun h => absurd (h.1.1 x (by simp)).1 c8⟩, fun h h8 => ?_⟩
      · have := (h1 h.1).1; omega
      · have := (h1 h).1; omega
    obtain ⟨h3, h4⟩ := h2 (by omega)
    have e7 : 8 - (d + 1) = 7 - d := by omega
    rw [e7] at h3 h4
    have pm : ((fl x :: U t (7 - d) (fl x)) ++ Ux t (7 - d) ((nms t k).drop (j + 1)) ++ Wp t (line.drop (i + 1))).Perm (fl x :: (Ux t (7 - d) ((nms t k).drop (j + 1)) ++ (Wp t (line.drop (i + 1)) ++ U t (7 - d) (fl x)))) := by
      rw [List.append_assoc, List.cons_append]
      refine List.Perm.cons _ ?_
      rw [← List.append_assoc (Ux t (7 - d) ((nms t k).drop (j + 1)))]
      exact List.perm_append_comm
    have cnt : ∀ f, ((fl x :: U t (7 - d) (fl x)) ++ Ux t (7 - d) ((nms t k).drop (j + 1)) ++ Wp t (line.drop (i + 1))).count f = (if f = fl x then 1 else 0) + (Ux t (7 - d) ((nms t k).drop (j + 1)) ++ (Wp t (line.drop (i + 1)) ++ U t (7 - d) (fl x))).count f := fun f => by
      rw [pm.count_eq, List.count_cons]
      by_cases c : f = fl x
      · subst c; simp; omega
      · have : ¬ (fl x == f) = true := by simpa using fun q => c q.symm
        simp [c, this]
    refine ⟨?_, fun h h8 f hf => ?_⟩
    · rw [h3]
      have key : G t (fun f => rd s (f : Int)) ((fl x :: U t (7 - d) (fl x)) ++ Ux t (7 - d) ((nms t k).drop (j + 1)) ++ Wp t (line.drop (i + 1))) ↔ G t (fun f => rd y (f : Int)) (Ux t (7 - d) ((nms t k).drop (j + 1)) ++ (Wp t (line.drop (i + 1)) ++ U t (7 - d) (fl x))) := by
        rw [G_perm t _ pm, G_cons t _ (fun f => rd y (f : Int)) _ _ (fun f _ => ry f)]
        exact ⟨fun h => h.2, fun h => ⟨fun _ => by omega, h⟩⟩
      rw [key]
      refine and_congr_left fun _ => ?_
      unfold CX CP
      rw [List.forall_mem_cons, List.forall_mem_append]
      have sg : (∀ w ∈ [(⟨x.f1, v.f1 + 1⟩ : Vi)], C t (8 - w.f1.toNat) w.f0.toNat) ↔ C t (7 - d) (fl x) := by
        rw [List.forall_mem_singleton, t1, t0, e7]
      rw [sg]
      exact ⟨fun h => ⟨⟨⟨c8, cr, fun _ => h.2.2⟩, h.1⟩, h.2.1⟩, fun h => ⟨h.1.2, h.2, h.1.1.2.2 cd⟩⟩
    · rw [h4 h h8 f hf, ry, cnt]
      by_cases c : f = fl x
      · rw [if_pos c, if_pos c]; omega
      · rw [if_neg c, if_neg c]; omega
/-- The whole count. -/
theorem deepest_ev (t : List Ino) (z0 : 0 < t.length) (zt : t.length ≤ 60) (h20 : ∀ k, (nms t k).length ≤ 20) :
    ∃ r : Int × List Int × Bool, Ev (fun q => impl_Names_deepest.f q t) r ∧ ((r.2.2 = true ∧ r.1 ≤ 8) ↔ C t 8 0 ∧ G t (fun _ => 0) (U t 8 0)) ∧
      (r.2.2 = true → r.1 ≤ 8 → r.2.1.length = t.length ∧ ∀ f, f < t.length → rd r.2.1 (f : Int) = ((U t 8 0).count f : Int)) := by
  have r0 : ∀ f : Nat, rd (List.replicate t.length 0) (f : Int) = 0 := fun f => by rw [rdw_int, getD_replicate]
  have nl := N0_le t (List.replicate t.length 0) t.length
  obtain ⟨r, e, h1, h2⟩ := (deep_ev t zt h20 2000).1 (List.replicate t.length 0) 0 [(⟨0, 0⟩ : Vi)] 0
    ⟨List.length_replicate, fun f hf => by rw [r0]; omega, by rw [List.length_singleton]; omega, fun v hv => by
      rw [List.mem_singleton] at hv
      subst hv
      exact ⟨by decide, by show (0 : Int) < _; omega, by decide, by show (0 : Int) + _ ≤ 61; omega, by decide⟩, by omega, by omega⟩ (by simp) (by rw [List.length_singleton]; omega)
  obtain ⟨h3, h4⟩ := h2 (by omega)
  have ew : Wp t ([(⟨0, 0⟩ : Vi)].drop 0) = U t 8 0 := by
    rw [List.drop_zero, Wp_cons]
    show U t 8 0 ++ [] = _
    rw [List.append_nil]
  rw [ew] at h3 h4
  have cp : CP t ([(⟨0, 0⟩ : Vi)].drop 0) ↔ C t 8 0 := by
    unfold CP
    rw [List.drop_zero, List.forall_mem_singleton]
    exact Iff.rfl
  rw [cp, G_congr t _ (fun _ => 0) _ (fun f _ => r0 f)] at h3
  refine ⟨r, ?_, h3, fun a b => ⟨(h1 a).2, fun f hf => by rw [h4 a b f hf, r0]; omega⟩⟩
  unfold impl_Names_deepest.f
  rw [Int.toNat_natCast]
  exact Ev.pos (by omega) (Ev.pos (by omega) e)
end Go.Proofs.YtoneooblgdoooaaDoor.Q
