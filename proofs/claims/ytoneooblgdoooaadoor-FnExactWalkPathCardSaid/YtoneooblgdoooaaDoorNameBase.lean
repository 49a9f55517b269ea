/- Names of the reference and of the program (out of DirBase). -/
import Derived.Test.YtoneooblgdoooaaDoorKit
import Derived.Test.YtoneooblgdoooaaDoorG1
import Derived.Test.YtoneooblgdoooaaDoorG2
namespace Go.Proofs.YtoneooblgdoooaaDoor.Q
open Go.RowKit Go.Proofs.YtoneooblgdoooaaDoorW.PrintWords Go.Proofs.YtoneooblgdoooaaDoor.G
set_option linter.unusedVariables false
set_option linter.unusedSimpArgs false
theorem in_eq (a b c : Int) : spec_l1In.f a b c = some (decide (b ≤ a ∧ a ≤ c)) := by
  unfold spec_l1In.f
  by_cases h : a ≥ b
  · rw [if_pos h]
    by_cases h2 : a ≤ c
    · rw [decide_eq_true h2, decide_eq_true ⟨h, h2⟩]
    · rw [decide_eq_false h2, decide_eq_false (fun q => h2 q.2)]
  · rw [if_neg h, decide_eq_false (fun q => h q.1)]
theorem within_eq' (a b c : Int) : impl_within.f a b c = some (decide (b ≤ a ∧ a ≤ c)) := in_eq a b c
/-! ### a name -/
def okByte (b : UInt8) : Bool := (97 ≤ b.toNat && b.toNat ≤ 122) || (48 ≤ b.toNat && b.toNat ≤ 57) || b.toNat == 46 || b.toNat == 45
def cutset : ByteArray := ⟨#[97, 98, 99, 100, 101, 102, 103, 104, 105, 106, 107, 108, 109, 110, 111, 112, 113, 114, 115, 116, 117, 118, 119, 120, 121, 122, 48, 49, 50, 51, 52, 53, 54, 55, 56, 57, 46, 45]⟩
set_option maxRecDepth 1000000 in
theorem cut_ok (b : UInt8) : cutset.data.toList.contains b = okByte b := by
  have h : ∀ n : Fin 256, cutset.data.toList.contains (UInt8.ofNat n.val) = okByte (UInt8.ofNat n.val) := by decide
  have e := h ⟨b.toNat, b.toNat_lt⟩
  simpa using e
theorem dropWhile_nil {α : Type} (p : α → Bool) : ∀ l : List α, l.dropWhile p = [] ↔ l.all p = true
  | [] => by simp
  | a :: l => by
    rw [List.dropWhile_cons, List.all_cons]
    cases h : p a with
    | true => rw [if_pos rfl, dropWhile_nil p l, Bool.true_and]
    | false => simp
theorem trim_nil (l : List UInt8) : Lib.trimS l cutset.data.toList = [] ↔ l.all okByte = true := by
  have hf : (fun x => cutset.data.toList.contains x) = okByte := funext cut_ok
  unfold Lib.trimS Lib.trimLeftS Lib.trimRightS
  rw [hf, dropWhile_nil]
  constructor
  · intro h
    rw [List.all_eq_true] at h ⊢
    have h2 : l.reverse.dropWhile okByte = [] := by
      cases e : l.reverse.dropWhile okByte with
      | nil => rfl
      | cons a m =>
        have ha : okByte a = true := h a (by rw [e]; simp)
        have hn : ¬ okByte a = true := by
          have := List.head?_dropWhile_not okByte l.reverse
          rw [e] at this
          simpa using this
        exact absurd ha hn
    have h3 := (dropWhile_nil okByte l.reverse).1 h2
    rw [List.all_eq_true] at h3
    exact fun x hx => h3 x (List.mem_reverse.2 hx)
  · intro h
    rw [List.all_eq_true] at h ⊢
    intro x hx
    rw [List.mem_reverse] at hx
    have : x ∈ l.reverse := (List.dropWhile_sublist okByte).subset hx
    exact h x (List.mem_reverse.1 this)
/-- A name: one to twelve of the signs. -/
def isNm (s : ByteArray) : Bool := decide (1 ≤ (s.size : Int) ∧ (s.size : Int) ≤ 12) && s.data.toList.all okByte
theorem isNm_i (s : ByteArray) : impl_isName.f s = some (isNm s) := by
  unfold impl_isName.f isNm
  rw [within_eq', Option.bind_some]
  by_cases h : 1 ≤ (s.size : Int) ∧ (s.size : Int) ≤ 12
  · rw [decide_eq_true h, if_pos rfl, Bool.true_and]
    have e : strings_Trim.f s cutset = some ⟨(Lib.trimS s.data.toList cutset.data.toList).toArray⟩ := by
      unfold strings_Trim.f
      rw [if_pos ⟨by omega, by decide, by decide⟩]
    show (strings_Trim.f s cutset).bind _ = _
    rw [e, Option.bind_some]
    congr 1
    have tl : (ByteArray.mk (Lib.trimS s.data.toList cutset.data.toList).toArray).toList = Lib.trimS s.data.toList cutset.data.toList := by
      rw [Lib.toList_data]
    rw [tl]
    cases hb : s.data.toList.all okByte with
    | true => rw [(trim_nil _).2 hb]; rfl
    | false =>
      have : ¬ Lib.trimS s.data.toList cutset.data.toList = [] := fun q => by
        rw [(trim_nil _).1 q] at hb
        cases hb
      simpa using this
  · rw [decide_eq_false h, if_neg (by decide), Bool.false_and]
theorem bt_data (s : ByteArray) (i : Nat) (h : i < s.size) : bt s (i : Int) = ((s.data.toList[i]'(by simpa using h)).toNat : Int) := by
  unfold bt
  rw [dif_pos (by simpa using h)]
  rfl
theorem nm_loop (s : ByteArray) (hs : s.size ≤ 1048576) : ∀ d i, s.size - i = d → i ≤ s.size → Ev (fun k => spec_l8Name.l0 k s (i : Int)) (decide (1 ≤ (s.size : Int) ∧ (s.size : Int) ≤ 12) && (s.data.toList.drop i).all okByte) := by
  have hlen : s.data.toList.length = s.size := by simp
  intro d
  induction d with
  | zero =>
    intro i hd hi
    refine Ev.step (fun k => by rw [spec_l8Name.l0]) (Ev.neg (by omega) (Ev.bindc _ (in_eq _ _ _) (Ev.now' ?_)))
    rw [List.drop_of_length_le (by omega), List.all_nil, Bool.and_true]
  | succ d ih =>
    intro i hd hi
    have nx := ih (i + 1) (by omega) (by omega)
    have hx : i < s.data.toList.length := by omega
    rw [List.drop_eq_getElem_cons hx, List.all_cons]
    have hb := bt_data s i (by omega)
    have hw : wrap64 ((i : Int) + 1) = ((i + 1 : Nat) : Int) := by rw [w64 (by omega) (by omega)]; omega
    generalize hq : s.data.toList[i] = q at hb ⊢
    refine Ev.step (fun k => by rw [spec_l8Name.l0]) (Ev.pos (by omega) (Ev.pos (by omega) ?_))
    rw [hw, hb]
    have two : ∀ ok : Bool, ok = okByte q → (okByte q = true → Ev (fun k => spec_l8Name.l0 k s ((i + 1 : Nat) : Int)) (decide (1 ≤ (s.size : Int) ∧ (s.size : Int) ≤ 12) && (okByte q && (s.data.toList.drop (i + 1)).all okByte))) ∧ (okByte q = false → Ev (fun _ => some false) (decide (1 ≤ (s.size : Int) ∧ (s.size : Int) ≤ 12) && (okByte q && (s.data.toList.drop (i + 1)).all okByte))) := fun ok _ =>
      ⟨fun h => by rw [h, Bool.true_and]; exact nx, fun h => by rw [h, Bool.false_and, Bool.and_false]; exact Ev.now _⟩
    obtain ⟨yes, no⟩ := two _ rfl
    have ob : okByte q = ((97 ≤ q.toNat && q.toNat ≤ 122) || (48 ≤ q.toNat && q.toNat ≤ 57) || q.toNat == 46 || q.toNat == 45) := rfl
    by_cases c5 : q.toNat = 46
    · have y := yes (by rw [ob, c5]; rfl)
      repeat (first | exact y | refine Ev.pos (by omega) ?_ | refine Ev.neg (by omega) ?_)
    by_cases c6 : q.toNat = 45
    · have y := yes (by rw [ob, c6]; rfl)
      repeat (first | exact y | refine Ev.pos (by omega) ?_ | refine Ev.neg (by omega) ?_)
    by_cases c1 : 97 ≤ q.toNat ∧ q.toNat ≤ 122
    · have y := yes (by rw [ob]; simp [c1.1, c1.2])
      repeat (first | exact y | refine Ev.pos (by omega) ?_ | refine Ev.neg (by omega) ?_)
    by_cases c3 : 48 ≤ q.toNat ∧ q.toNat ≤ 57
    · have y := yes (by rw [ob]; simp [c3.1, c3.2])
      by_cases d1 : 97 ≤ q.toNat
      · repeat (first | exact y | refine Ev.pos (by omega) ?_ | refine Ev.neg (by omega) ?_)
      · repeat (first | exact y | refine Ev.pos (by omega) ?_ | refine Ev.neg (by omega) ?_)
    · have y := no (by
        rw [ob]
        have a1 : (decide (97 ≤ q.toNat) && decide (q.toNat ≤ 122)) = false := by rw [← Bool.decide_and, decide_eq_false c1]
        have a2 : (decide (48 ≤ q.toNat) && decide (q.toNat ≤ 57)) = false := by rw [← Bool.decide_and, decide_eq_false c3]
        rw [a1, a2]
        simp [c5, c6])
      by_cases d1 : 97 ≤ q.toNat
      · repeat (first | exact y | refine Ev.pos (by omega) ?_ | refine Ev.neg (by omega) ?_)
      · by_cases d2 : 48 ≤ q.toNat
        · repeat (first | exact y | refine Ev.pos (by omega) ?_ | refine Ev.neg (by omega) ?_)
        · repeat (first | exact y | refine Ev.pos (by omega) ?_ | refine Ev.neg (by omega) ?_)
theorem isNm_s (s : ByteArray) (hs : s.size ≤ 1048576) : Ev (fun k => spec_l8Name.f k s) (isNm s) := by
  unfold spec_l8Name.f isNm
  have e := nm_loop s hs s.size 0 rfl (by omega)
  rw [List.drop_zero] at e
  exact e
end Go.Proofs.YtoneooblgdoooaaDoor.Q
