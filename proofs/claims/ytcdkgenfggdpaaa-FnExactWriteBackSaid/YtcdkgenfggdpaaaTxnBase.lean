import Derived.Test.YtcdkgenfggdpaaaHWrite
import Derived.Test.YtcdkgenfggdpaaaG2
namespace Go.Proofs.Ytcdkgenfggdpaaa.Q
open Go.RowKit Go.Proofs.YtcdkgenfggdpaaaW.PrintWords Go.Proofs.Ytcdkgenfggdpaaa.G
set_option linter.unusedVariables false
set_option linter.unusedSimpArgs false

abbrev Wr := S72
def WOk (n : Int) (w : Wr) : Prop := (0 ≤ w.f0 ∧ w.f0 ≤ wrap64 (n - 1)) ∧ w.f1.size = 8
instance (n : Int) (w : Wr) : Decidable (WOk n w) := by unfold WOk; infer_instance
/-- The writes are a transaction for n sectors. -/
def TGood (n : Int) (l : List Wr) (i : Nat) : Prop := WOk n (l.getD i z72) ∧ ∀ j, j < i → (l.getD j z72).f0 ≠ (l.getD i z72).f0
def TOk (n : Int) (l : List Wr) : Prop := (∀ i, i < l.length → TGood n l i) ∧ 1 ≤ l.length ∧ l.length ≤ 8
open Classical in
noncomputable def tOk (n : Int) (l : List Wr) : Bool := decide (TOk n l)
theorem tOk_iff {n : Int} {l : List Wr} : tOk n l = true ↔ TOk n l := by
  classical
  unfold tOk
  exact decide_eq_true_iff
theorem tOk_not {n : Int} {l : List Wr} (h : ¬ TOk n l) : tOk n l = false := by
  classical
  unfold tOk
  exact decide_eq_false h
theorem rd_take (l : List Wr) (i j : Nat) (h : j < i) : rd_T72 (l.take i) (j : Int) = l.getD j z72 := by
  rw [rdiWrite]
  simp [List.getD_eq_getElem?_getD, h]
theorem specIn_eq (x lo hi : Int) : spec_l1In.f x lo hi = some (decide (lo ≤ x ∧ x ≤ hi)) := by
  unfold spec_l1In.f
  by_cases h : x ≥ lo
  · rw [if_pos h]; congr 1; simp only [decide_eq_decide]; omega
  · rw [if_neg h]; congr 1; symm; simp only [decide_eq_false_iff_not]; omega
theorem within_eq (x lo hi : Int) : impl_within.f x lo hi = some (decide (lo ≤ x ∧ x ≤ hi)) := by
  unfold impl_within.f
  by_cases h : x ≥ lo
  · rw [if_pos h]; congr 1; simp only [decide_eq_decide]; omega
  · rw [if_neg h]; congr 1; symm; simp only [decide_eq_false_iff_not]; omega
theorem specWrite_eq (n : Int) (w : Wr) : spec_l1Write.f w.f0 w.f1 n = some (decide (WOk n w)) := by
  unfold spec_l1Write.f
  rw [specIn_eq, Option.bind_some]
  by_cases h : 0 ≤ w.f0 ∧ w.f0 ≤ wrap64 (n - 1)
  · rw [if_pos (by simpa using h)]
    refine congrArg some ?_
    rw [Bool.eq_iff_iff, beq_iff_eq, decide_eq_true_iff]
    constructor
    · intro e; exact ⟨h, by omega⟩
    · intro e
      have := e.2
      omega
  · rw [if_neg (by simpa using h)]
    exact congrArg some (decide_eq_false fun e => h e.1).symm
/-- What both end with. -/
theorem tOk_end (n : Int) (l : List Wr) (h : ∀ i, i < l.length → TGood n l i) : decide ((1 : Int) ≤ (l.length : Int) ∧ (l.length : Int) ≤ 8) = tOk n l := by
  rw [Bool.eq_iff_iff, tOk_iff, decide_eq_true_eq]
  unfold TOk
  constructor
  · intro e; exact ⟨h, by omega, by omega⟩
  · intro e; have := e.2; omega
theorem l11Txn_ev (l : List Wr) (hl : l.length ≤ 1000000000) (n : Int) : Ev (fun k => spec_l11Txn.f k l n) (tOk n l) := by
  have inner : ∀ i, i < l.length → WOk n (l.getD i z72) → (TGood n l i → Ev (fun k => spec_l11Txn.l0 k l n l (l.length : Int) ((i : Int) + 1)) (tOk n l)) → ∀ d j, i - j = d → j ≤ i → (∀ j', j' < j → (l.getD j' z72).f0 ≠ (l.getD i z72).f0) →
      Ev (fun k => spec_l11Txn.l1 k l n l (l.length : Int) (i : Int) (l.take i) ((l.take i).length : Int) (j : Int) (l.getD i z72).f0 (l.getD i z72).f1) (tOk n l) := by
    intro i hi hw next d
    have hlt : (l.take i).length = i := by rw [List.length_take]; omega
    induction d with
    | zero =>
      intro j hd hj hne
      have : j = i := by omega
      subst this
      refine Ev.step (fun k => by rw [spec_l11Txn.l1]) ?_
      rw [hlt, w64 (x := (j : Int) + 1) (by omega) (by omega)]
      exact Ev.neg (by omega) (next ⟨hw, hne⟩)
    | succ d ih =>
      intro j hd hj hne
      have ih' := ih (j + 1) (by omega) (by omega)
      refine Ev.step (fun k => by rw [spec_l11Txn.l1]) ?_
      rw [hlt] at ih' ⊢
      rw [w64 (x := (j : Int) + 1) (by omega) (by omega), rd_take l i j (by omega)]
      refine Ev.pos (by omega) (Ev.pos (by omega) (Ev.pos (by omega) ?_))
      by_cases e : (l.getD j z72).f0 = (l.getD i z72).f0
      · refine Ev.pos e (Ev.now' ?_)
        rw [tOk_not]
        intro h
        exact (h.1 i hi).2 j (by omega) e
      · refine Ev.neg e (ih' fun j' hj' => ?_)
        by_cases e2 : j' = j
        · subst e2; exact e
        · exact hne j' (by omega)
  have outer : ∀ d i, l.length - i = d → i ≤ l.length → (∀ i', i' < i → TGood n l i') → Ev (fun k => spec_l11Txn.l0 k l n l (l.length : Int) (i : Int)) (tOk n l) := by
    intro d
    induction d with
    | zero =>
      intro i hd hi hg
      have : i = l.length := by omega
      subst this
      refine Ev.step (fun k => by rw [spec_l11Txn.l0]) ?_
      refine Ev.neg (by omega) (Ev.bindc _ (specIn_eq _ _ _) (Ev.now' ?_))
      exact tOk_end n l hg
    | succ d ih =>
      intro i hd hi hg
      have hil : i < l.length := by omega
      refine Ev.step (fun k => by rw [spec_l11Txn.l0]) ?_
      rw [rdiWrite]
      refine Ev.pos (by omega) (Ev.pos (by omega) (Ev.pos (by omega) (Ev.bindc _ (specWrite_eq n _) ?_)))
      by_cases hw : WOk n (l.getD i z72)
      · refine Ev.pos (by simpa using hw) (Ev.pos (by omega) (Ev.bindc _ rfl ?_))
        have := inner i hil hw (fun hg' => ih (i + 1) (by omega) (by omega) fun i' hi' => by
          by_cases e : i' = i
          · subst e; exact hg'
          · exact hg i' (by omega)) i 0 rfl (by omega) (fun j' h => by omega)
        exact this
      · refine Ev.neg (by simpa using hw) (Ev.now' ?_)
        rw [tOk_not]
        intro h
        exact hw (h.1 i hil).1
  unfold spec_l11Txn.f
  exact outer l.length 0 rfl (by omega) (fun i h => by omega)
theorem indexT_ev (m : List Wr) (hm : m.length ≤ 1000000000) (a : Int) (s : ByteArray) : ∃ t : Int, Ev (fun k => slices_IndexFunc_impl_Write_at_impl_isTxn_1.f k m a s) t ∧ (0 ≤ t ↔ ∃ j, j < m.length ∧ (m.getD j z72).f0 = a) := by
  have loop : ∀ d i, m.length - i = d → i ≤ m.length → (∀ j, j < i → (m.getD j z72).f0 ≠ a) → ∃ t : Int, Ev (fun k => slices_IndexFunc_impl_Write_at_impl_isTxn_1.l0 k m (m.length : Int) (i : Int) a s) t ∧ (0 ≤ t ↔ ∃ j, j < m.length ∧ (m.getD j z72).f0 = a) := by
    intro d
    induction d with
    | zero =>
      intro i hd hi hne
      refine ⟨-1, ?_, ?_⟩
      · refine Ev.step (fun k => by rw [slices_IndexFunc_impl_Write_at_impl_isTxn_1.l0]) ?_
        exact Ev.neg (by omega) (Ev.now _)
      · constructor
        · intro h; omega
        · rintro ⟨j, hj, e⟩; exact absurd e (hne j (by omega))
    | succ d ih =>
      intro i hd hi hne
      by_cases e : (m.getD i z72).f0 = a
      · refine ⟨(i : Int), ?_, ?_⟩
        · refine Ev.step (fun k => by rw [slices_IndexFunc_impl_Write_at_impl_isTxn_1.l0]) ?_
          rw [rdiWrite]
          refine Ev.pos (by omega) (Ev.pos (by omega) (Ev.pos (by omega) (Ev.bindc _ rfl (Ev.pos ?_ (Ev.now _)))))
          simpa using e
        · exact ⟨fun _ => ⟨i, by omega, e⟩, fun _ => by omega⟩
      · obtain ⟨t, h1, h2⟩ := ih (i + 1) (by omega) (by omega) (fun j hj => by
          by_cases e2 : j = i
          · subst e2; exact e
          · exact hne j (by omega))
        refine ⟨t, ?_, h2⟩
        refine Ev.step (fun k => by rw [slices_IndexFunc_impl_Write_at_impl_isTxn_1.l0]) ?_
        rw [rdiWrite, w64 (x := (i : Int) + 1) (by omega) (by omega)]
        refine Ev.pos (by omega) (Ev.pos (by omega) (Ev.pos (by omega) (Ev.bindc _ rfl (Ev.neg ?_ h1))))
        simpa using e
  unfold slices_IndexFunc_impl_Write_at_impl_isTxn_1.f
  exact loop m.length 0 rfl (by omega) (fun j h => by omega)
theorem isTxn_ev (l : List Wr) (hl : l.length ≤ 1000000000) (n : Int) : Ev (fun k => impl_isTxn.f k l n) (tOk n l) := by
  have outer : ∀ d i, l.length - i = d → i ≤ l.length → (∀ i', i' < i → TGood n l i') → Ev (fun k => impl_isTxn.l0 k l n l (l.length : Int) (i : Int)) (tOk n l) := by
    intro d
    induction d with
    | zero =>
      intro i hd hi hg
      have : i = l.length := by omega
      subst this
      refine Ev.step (fun k => by rw [impl_isTxn.l0]) ?_
      refine Ev.neg (by omega) (Ev.bindc _ (within_eq _ _ _) (Ev.now' ?_))
      exact tOk_end n l hg
    | succ d ih =>
      intro i hd hi hg
      have hil : i < l.length := by omega
      have hlt : (l.take i).length = i := by rw [List.length_take]; omega
      refine Ev.step (fun k => by rw [impl_isTxn.l0]) ?_
      rw [rdiWrite, w64 (x := (i : Int) + 1) (by omega) (by omega)]
      refine Ev.pos (by omega) (Ev.pos (by omega) (Ev.pos (by omega) (Ev.bindc _ (within_eq _ _ _) ?_)))
      by_cases hw : 0 ≤ (l.getD i z72).f0 ∧ (l.getD i z72).f0 ≤ wrap64 (n - 1)
      · refine Ev.pos (by simpa using hw) ?_
        by_cases h8 : (l.getD i z72).f1.size = 8
        · refine Ev.pos (by omega) (Ev.pos (by omega) ?_)
          obtain ⟨t, h1, h2⟩ := indexT_ev (l.take i) (by omega) (l.getD i z72).f0 (l.getD i z72).f1
          rw [Int.toNat_natCast]
          refine Ev.bind' (decide (t ≥ 0)) ?_ ?_
          · unfold slices_ContainsFunc_impl_Write_at_impl_isTxn_1.f
            exact Ev.bind' t h1 (Ev.now _)
          · by_cases ht : t ≥ 0
            · refine Ev.pos (by simpa using ht) (Ev.now' ?_)
              obtain ⟨j, hj, e⟩ := h2.1 ht
              rw [tOk_not]
              intro h
              refine (h.1 i hil).2 j (by omega) ?_
              rw [← e]
              simp [List.getD_eq_getElem?_getD, show j < i by omega]
            · refine Ev.neg (by simpa using ht) (ih (i + 1) (by omega) (by omega) fun i' hi' => ?_)
              by_cases e : i' = i
              · subst e
                refine ⟨⟨hw, h8⟩, fun j hj e => ht (h2.2 ⟨j, by omega, ?_⟩)⟩
                rw [← e]
                simp [List.getD_eq_getElem?_getD, hj]
              · exact hg i' (by omega)
        · refine Ev.neg (by omega) (Ev.now' ?_)
          rw [tOk_not]
          intro h
          exact h8 (h.1 i hil).1.2
      · refine Ev.neg (by simpa using hw) (Ev.now' ?_)
        rw [tOk_not]
        intro h
        exact hw (h.1 i hil).1.1
  unfold impl_isTxn.f
  exact outer l.length 0 rfl (by omega) (fun i h => by omega)

/-! ### texts -/
theorem str_append (xs ys : List Int) : strOfNums (xs ++ ys) = strOfNums xs ++ strOfNums ys := by
  apply ByteArray.ext
  simp [strOfNums]
theorem str_bytes (s : ByteArray) : strOfNums (bytesOf s) = s := by
  apply ByteArray.ext
  simp [strOfNums, bytesOf, Function.comp_def]
/-- Numbers that are bytes. -/
def AllB (xs : List Int) : Prop := ∀ x ∈ xs, 0 ≤ x ∧ x < 256
theorem bytes_str (xs : List Int) (h : AllB xs) : bytesOf (strOfNums xs) = xs := by
  unfold strOfNums bytesOf
  simp only [List.toList_toArray, List.map_map]
  conv => rhs; rw [← List.map_id xs]
  refine List.map_congr_left fun x hx => ?_
  have := h x hx
  simp only [Function.comp_apply, UInt8.toNat_ofNat', id]
  omega
theorem allB_bytes (s : ByteArray) : AllB (bytesOf s) := by
  intro x hx
  unfold bytesOf at hx
  obtain ⟨b, _, rfl⟩ := List.mem_map.1 hx
  have := b.toNat_lt
  omega
theorem allB_append {xs ys : List Int} (h : AllB xs) (k : AllB ys) : AllB (xs ++ ys) := fun x hx => by
  rcases List.mem_append.1 hx with hx | hx
  · exact h x hx
  · exact k x hx
theorem allB_cons {x : Int} {xs : List Int} (h : 0 ≤ x ∧ x < 256) (k : AllB xs) : AllB (x :: xs) := fun y hy => by
  rcases List.mem_cons.1 hy with rfl | hy
  · exact h
  · exact k y hy
def wtxt (w : Wr) : List Int := w.f0 % 256 :: bytesOf w.f1
def tbody (l : List Wr) (i : Nat) : List Int := ((l.length : Int) % 256) :: (l.take i).flatMap wtxt
def xorAll (x : Int) (xs : List Int) : Int := xs.foldl (fun x b => Go.bits .xor .u8 x b) x
/-- The text of a transaction. -/
def ttxt (l : List Wr) : List Int := tbody l l.length ++ [xorAll 0 (tbody l l.length)]
theorem allB_tbody (l : List Wr) (i : Nat) : AllB (tbody l i) := by
  unfold tbody
  refine allB_cons (by omega) fun x hx => ?_
  obtain ⟨w, _, hx⟩ := List.mem_flatMap.1 hx
  exact allB_cons (by omega) (allB_bytes _) x hx
theorem tbody_succ (l : List Wr) (i : Nat) (h : i < l.length) : tbody l (i + 1) = tbody l i ++ wtxt (l.getD i z72) := by
  unfold tbody
  rw [take_succ_getD l i z72 h]
  simp
theorem tbody_length (n : Int) (l : List Wr) (h : TOk n l) (i : Nat) (hi : i ≤ l.length) : (tbody l i).length = 1 + 9 * i := by
  induction i with
  | zero => simp [tbody]
  | succ i ih =>
    rw [tbody_succ l i (by omega), List.length_append, ih (by omega)]
    have := (h.1 i (by omega)).1.2
    unfold wtxt
    rw [List.length_cons, bytesOf_length, this]
    omega
theorem specXor_ev (s : ByteArray) (hs : s.size ≤ 1000000000) : ∀ d i (x : Int), s.size - i = d → i ≤ s.size → Ev (fun k => spec_l11Text.l1 k s x (i : Int)) (s ++ strOfNums [xorAll x ((bytesOf s).drop i)]) := by
  intro d
  induction d with
  | zero =>
    intro i x hd hi
    have : i = s.size := by omega
    subst this
    refine Ev.step (fun k => by rw [spec_l11Text.l1]) ?_
    refine Ev.neg (by omega) (Ev.bindc _ rfl (Ev.pos (by rw [str_size]; simp only [List.length_singleton]; omega) (Ev.now' ?_)))
    rw [List.drop_eq_nil_of_le (by rw [bytesOf_length]; exact Nat.le_refl _)]
    rfl
  | succ d ih =>
    intro i x hd hi
    have ih' := ih (i + 1) (Go.bits .xor .u8 x (bt s (i : Int))) (by omega) (by omega)
    refine Ev.step (fun k => by rw [spec_l11Text.l1]) ?_
    rw [w64 (x := (i : Int) + 1) (by omega) (by omega)]
    refine Ev.pos (by omega) (Ev.pos (by omega) ?_)
    have e : (bytesOf s).drop i = bt s (i : Int) :: (bytesOf s).drop (i + 1) := by
      rw [drop_getD _ i 0 (by rw [bytesOf_length]; omega), ← rd_bytesOf, rdw_int]
    rw [e]
    exact ih'
theorem implXor_ev (xs : List Int) (hs : xs.length ≤ 1000000000) : ∀ d i (x : Int), xs.length - i = d → i ≤ xs.length → Ev (fun k => impl_txnText.l1 k xs x xs (xs.length : Int) (i : Int)) (strOfNums (xs ++ [xorAll x (xs.drop i)])) := by
  intro d
  induction d with
  | zero =>
    intro i x hd hi
    have : i = xs.length := by omega
    subst this
    refine Ev.step (fun k => by rw [impl_txnText.l1]) ?_
    refine Ev.neg (by omega) (Ev.pos (by omega) (Ev.now' ?_))
    rw [List.drop_length]
    rfl
  | succ d ih =>
    intro i x hd hi
    have ih' := ih (i + 1) (Go.bits .xor .u8 x (rd xs (i : Int))) (by omega) (by omega)
    refine Ev.step (fun k => by rw [impl_txnText.l1]) ?_
    rw [w64 (x := (i : Int) + 1) (by omega) (by omega)]
    refine Ev.pos (by omega) (Ev.pos (by omega) (Ev.pos (by omega) ?_))
    have e : xs.drop i = rd xs (i : Int) :: xs.drop (i + 1) := by
      rw [drop_getD _ i 0 (by omega), rdw_int]
    rw [e]
    exact ih'
theorem l11Text_ev (n : Int) (l : List Wr) (h : TOk n l) : Ev (fun k => spec_l11Text.f k l) (strOfNums (ttxt l)) := by
  have hl := h.2.2
  have loop : ∀ d i, l.length - i = d → i ≤ l.length → Ev (fun k => spec_l11Text.l0 k (strOfNums (tbody l i)) l (l.length : Int) (i : Int)) (strOfNums (ttxt l)) := by
    intro d
    induction d with
    | zero =>
      intro i hd hi
      have : i = l.length := by omega
      subst this
      have hb := tbody_length n l h l.length (Nat.le_refl _)
      refine Ev.step (fun k => by rw [spec_l11Text.l0]) ?_
      refine Ev.neg (by omega) ?_
      have := specXor_ev (strOfNums (tbody l l.length)) (by rw [str_size]; omega) _ 0 0 rfl (by omega)
      rw [bytes_str _ (allB_tbody _ _), List.drop_zero, ← str_append] at this
      exact this
    | succ d ih =>
      intro i hd hi
      have ih' := ih (i + 1) (by omega) (by omega)
      have hb := tbody_length n l h i (by omega)
      have h8 := (h.1 i (by omega)).1.2
      refine Ev.step (fun k => by rw [spec_l11Text.l0]) ?_
      rw [rdiWrite, w64 (x := (i : Int) + 1) (by omega) (by omega)]
      refine Ev.pos (by omega) (Ev.pos (by omega) (Ev.pos (by omega) (Ev.bindc _ rfl (Ev.pos ?_ (Ev.pos ?_ ?_)))))
      · rw [str_size, h8]; simp only [List.length_singleton]; omega
      · rw [ByteArray.size_append, str_size, str_size, h8]; simp only [List.length_singleton]; omega
      · rw [tbody_succ l i (by omega), str_append] at ih'
        have e : strOfNums (wtxt (l.getD i z72)) = strOfNums [(l.getD i z72).f0 % 256] ++ (l.getD i z72).f1 := by
          unfold wtxt
          rw [← List.singleton_append, str_append, str_bytes]
        rw [e] at ih'
        exact ih'
  unfold spec_l11Text.f
  have := loop l.length 0 rfl (by omega)
  exact this
theorem txnText_ev (n : Int) (l : List Wr) (h : TOk n l) : Ev (fun k => impl_txnText.f k l) (strOfNums (ttxt l)) := by
  have hl := h.2.2
  have loop : ∀ d i, l.length - i = d → i ≤ l.length → Ev (fun k => impl_txnText.l0 k (tbody l i) l (l.length : Int) (i : Int)) (strOfNums (ttxt l)) := by
    intro d
    induction d with
    | zero =>
      intro i hd hi
      have : i = l.length := by omega
      subst this
      have hb := tbody_length n l h l.length (Nat.le_refl _)
      refine Ev.step (fun k => by rw [impl_txnText.l0]) ?_
      refine Ev.neg (by omega) ?_
      exact implXor_ev (tbody l l.length) (by omega) _ 0 0 rfl (by omega)
    | succ d ih =>
      intro i hd hi
      have ih' := ih (i + 1) (by omega) (by omega)
      have hb := tbody_length n l h i (by omega)
      have h8 := (h.1 i (by omega)).1.2
      refine Ev.step (fun k => by rw [impl_txnText.l0]) ?_
      rw [rdiWrite, w64 (x := (i : Int) + 1) (by omega) (by omega)]
      refine Ev.pos (by omega) (Ev.pos (by omega) (Ev.pos (by omega) (Ev.pos (by omega) (Ev.bindc _ rfl (Ev.pos ?_ ?_)))))
      · rw [List.length_append, h8]; simp only [List.length_singleton]; omega
      · rw [tbody_succ l i (by omega)] at ih'
        have e : tbody l i ++ wtxt (l.getD i z72) = tbody l i ++ [(l.getD i z72).f0 % 256] ++ bytesOf (l.getD i z72).f1 := by
          unfold wtxt
          simp
        rw [e] at ih'
        exact ih'
  unfold impl_txnText.f
  exact loop l.length 0 rfl (by omega)
end Go.Proofs.Ytcdkgenfggdpaaa.Q
