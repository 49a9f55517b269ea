/- The names met from a directory on, to a depth: how often each inode is met. No program, no statement. -/
import Derived.Test.YtoneooblgdoooaaDoorHNames
namespace Go.Proofs.YtoneooblgdoooaaDoor.Q
open Go.RowKit Go.Proofs.YtoneooblgdoooaaDoorW.PrintWords Go.Proofs.YtoneooblgdoooaaDoor.G
set_option linter.unusedVariables false
set_option linter.unusedSimpArgs false
abbrev Ino := S40
abbrev Nm := S42
abbrev zI : Ino := z40
abbrev zN : Nm := z42
/-- The names of inode k, whether it is a directory; the inode that a name tells. -/
def nms (t : List Ino) (k : Nat) : List Nm := (t.getD k zI).f2
def isd (t : List Ino) (k : Nat) : Bool := (t.getD k zI).f0
def lnk (t : List Ino) (k : Nat) : Int := (t.getD k zI).f1
def fl (x : Nm) : Nat := x.f1.toNat
def inr (t : List Ino) (x : Nm) : Prop := 1 ≤ x.f1 ∧ x.f1 ≤ (t.length : Int) - 1
theorem isd_lt {t : List Ino} {k : Nat} (h : isd t k = true) : k < t.length := by
  by_cases c : k < t.length
  · exact c
  · unfold isd at h
    rw [List.getD_eq_getElem?_getD, List.getElem?_eq_none (by omega)] at h
    cases h
/-- All that is met from directory k on, m levels deep. -/
def U (t : List Ino) : Nat → Nat → List Nat
  | 0, _ => []
  | m + 1, k => (nms t k).flatMap fun x => fl x :: (if isd t (fl x) = true then U t m (fl x) else [])
def Ux (t : List Ino) (m : Nat) (xs : List Nm) : List Nat := xs.flatMap fun x => fl x :: (if isd t (fl x) = true then U t m (fl x) else [])
theorem U_succ (t : List Ino) (m k : Nat) : U t (m + 1) k = Ux t m (nms t k) := rfl
theorem Ux_nil (t : List Ino) (m : Nat) : Ux t m [] = [] := rfl
theorem Ux_cons (t : List Ino) (m : Nat) (x : Nm) (xs : List Nm) : Ux t m (x :: xs) = (fl x :: (if isd t (fl x) = true then U t m (fl x) else [])) ++ Ux t m xs := by unfold Ux; rw [List.flatMap_cons]
/-- No path is longer than m; all names tell an inode. -/
def C (t : List Ino) : Nat → Nat → Prop
  | 0, k => nms t k = []
  | m + 1, k => ∀ x ∈ nms t k, inr t x ∧ (isd t (fl x) = true → C t m (fl x))
/-- With what was met before, no directory is met twice. -/
def G (t : List Ino) (s : Nat → Int) (L : List Nat) : Prop := ∀ f, isd t f = true → f ∈ L → s f + (L.count f : Int) ≤ 1
theorem G_nil (t : List Ino) (s : Nat → Int) : G t s [] := fun f _ h => absurd h (by simp)
theorem G_append (t : List Ino) (s : Nat → Int) (A B : List Nat) : G t s (A ++ B) ↔ G t s A ∧ G t (fun f => s f + (A.count f : Int)) B := by
  constructor
  · intro h
    refine ⟨fun f hd hm => ?_, fun f hd hm => ?_⟩
    · have := h f hd (List.mem_append.2 (.inl hm))
      rw [List.count_append] at this
      omega
    · have := h f hd (List.mem_append.2 (.inr hm))
      rw [List.count_append] at this
      show s f + (A.count f : Int) + (B.count f : Int) ≤ 1
      omega
  · intro ⟨h1, h2⟩ f hd hm
    rw [List.count_append]
    by_cases c : f ∈ B
    · have := h2 f hd c
      simp only at this
      omega
    · have e : B.count f = 0 := List.count_eq_zero.2 c
      have := h1 f hd ((List.mem_append.1 hm).resolve_right c)
      omega
theorem G_congr (t : List Ino) (s s' : Nat → Int) (L : List Nat) (h : ∀ f, isd t f = true → s f = s' f) : G t s L ↔ G t s' L := by
  constructor
  · intro q f hd hm; rw [← h f hd]; exact q f hd hm
  · intro q f hd hm; rw [h f hd]; exact q f hd hm
theorem G_perm (t : List Ino) (s : Nat → Int) {A B : List Nat} (p : A.Perm B) : G t s A ↔ G t s B := by
  constructor
  · intro q f hd hm; rw [← p.count_eq]; exact q f hd (p.mem_iff.2 hm)
  · intro q f hd hm; rw [p.count_eq]; exact q f hd (p.mem_iff.1 hm)
/-- One more is met. -/
theorem G_cons (t : List Ino) (s s' : Nat → Int) (x : Nat) (L : List Nat) (hs : ∀ f, isd t f = true → s' f = s f + if f = x then 1 else 0) :
    G t s (x :: L) ↔ (isd t x = true → s x + 1 ≤ 1) ∧ G t s' L := by
  have e : x :: L = [x] ++ L := rfl
  rw [e, G_append]
  refine and_congr ?_ (G_congr t _ _ L fun f hd => ?_)
  · constructor
    · intro h hd
      have := h x hd (by simp)
      simpa using this
    · intro h f hd hm
      have : f = x := by simpa using hm
      subst this
      simpa using h hd
  · rw [hs f hd, List.count_cons, List.count_nil]
    by_cases c : f = x
    · subst c; simp
    · have : ¬ (x == f) = true := by simpa using fun q => c q.symm
      simp [c, this]
theorem flatMap_len {α β : Type} (f : α → List β) (B : Nat) : ∀ xs : List α, (∀ x ∈ xs, (f x).length ≤ B) → (xs.flatMap f).length ≤ xs.length * B
  | [], _ => by simp
  | x :: xs, h => by
    have h1 := h x (by simp)
    have h2 := flatMap_len f B xs (fun y hy => h y (by simp [hy]))
    rw [List.flatMap_cons, List.length_append, List.length_cons, Nat.succ_mul]
    omega
def bnd : Nat → Nat
  | 0 => 0
  | m + 1 => 20 * (1 + bnd m)
theorem U_len (t : List Ino) (h : ∀ k, (nms t k).length ≤ 20) : ∀ m k, (U t m k).length ≤ bnd m
  | 0, k => by simp [U]
  | m + 1, k => by
    have key : ((nms t k).flatMap fun x => fl x :: (if isd t (fl x) = true then U t m (fl x) else [])).length ≤ (nms t k).length * (1 + bnd m) := flatMap_len _ _ _ (fun x _ => by
      have := U_len t h m (fl x)
      rw [List.length_cons]
      split
      · omega
      · simp)
    have : (nms t k).length * (1 + bnd m) ≤ 20 * (1 + bnd m) := Nat.mul_le_mul_right _ (h k)
    rw [U, bnd]
    exact Nat.le_trans key this
theorem U8_len (t : List Ino) (h : ∀ k, (nms t k).length ≤ 20) (k : Nat) : (U t 8 k).length ≤ 100000000000 := Nat.le_trans (U_len t h 8 k) (by decide)
/-- Whatever directory is met has names that all tell an inode. -/
theorem C_mem (t : List Ino) : ∀ m k, C t m k → ∀ f, f ∈ U t m k → isd t f = true → ∀ x ∈ nms t f, inr t x
  | 0, k, _, f, hf, _, x, _ => absurd hf (by simp [U])
  | m + 1, k, h, f, hf, hd, x, hx => by
    rw [U, List.mem_flatMap] at hf
    obtain ⟨y, hy, hf⟩ := hf
    have hC := (h y hy).2
    rw [List.mem_cons] at hf
    have key : isd t (fl y) = true → f = fl y → inr t x := fun d e => by
      subst e
      have c := hC d
      cases m with
      | zero => rw [show nms t (fl y) = [] from c] at hx; cases hx
      | succ m => exact (c x hx).1
    rcases hf with e | hf
    · exact key (e ▸ hd) e
    · split at hf
      · rename_i d
        exact C_mem t m (fl y) (hC d) f hf hd x hx
      · cases hf
end Go.Proofs.YtoneooblgdoooaaDoor.Q
