/- A path cut at its strokes: the reference's scan, the program's strings.Split. -/
import Derived.Test.YtoneooblgdoooaaDoorNameGood
import Derived.Lib.CountLaws
import Derived.Test.YtoneooblgdoooaaDoorG3
namespace Go.Proofs.YtoneooblgdoooaaDoor.Q
open Go.RowKit Go.Proofs.YtoneooblgdoooaaDoorW.PrintWords Go.Proofs.YtoneooblgdoooaaDoor.G
set_option linter.unusedVariables false
set_option linter.unusedSimpArgs false
def nm (l : List UInt8) : ByteArray := ⟨l.toArray⟩
theorem nm_data (l : List UInt8) : (nm l).data.toList = l := rfl
theorem nm_size (l : List UInt8) : (nm l).size = l.length := rfl
theorem nm_toList (l : List UInt8) : (nm l).toList = l := by rw [Lib.toList_data]; rfl
theorem nm_of (b : ByteArray) : nm b.data.toList = b := rfl
theorem ba_ext {a b : ByteArray} (h : a.data.toList = b.data.toList) : a = b := by rw [← nm_of a, ← nm_of b, h]
theorem nm_extract (l : List UInt8) (i j : Nat) : (nm l).extract i j = nm ((l.drop i).take (j - i)) := by
  apply ba_ext
  rw [nm_data, ByteArray.data_extract, Array.toList_extract]
  rfl
/-- The pieces between strokes. -/
def pcs : List UInt8 → List (List UInt8)
  | [] => [[]]
  | b :: l => if b = 47 then [] :: pcs l else (b :: (pcs l).headD []) :: (pcs l).tail
theorem pcs_miss : ∀ s : List UInt8, 47 ∉ s → pcs s = [s]
  | [], _ => rfl
  | b :: l, h => by
    rw [List.mem_cons, not_or] at h
    rw [pcs, if_neg (fun q => h.1 q.symm), pcs_miss l h.2]
    rfl
theorem pcs_hit : ∀ (a r : List UInt8), 47 ∉ a → pcs (a ++ 47 :: r) = a :: pcs r
  | [], r, _ => by rw [List.nil_append, pcs, if_pos rfl]
  | b :: a, r, h => by
    rw [List.mem_cons, not_or] at h
    rw [List.cons_append, pcs, if_neg (fun q => h.1 q.symm), pcs_hit a r h.2]
    rfl
theorem cut_at (s : List UInt8) (h : 47 ∈ s) : ∃ a r, s = a ++ 47 :: r ∧ 47 ∉ a := by
  induction s with
  | nil => cases h
  | cons b l ih =>
    by_cases c : b = 47
    · subst c; exact ⟨[], l, rfl, by simp⟩
    · obtain ⟨a, r, e, n⟩ := ih ((List.mem_cons.1 h).resolve_left fun q => c q.symm)
      exact ⟨b :: a, r, by rw [e]; rfl, by rw [List.mem_cons, not_or]; exact ⟨fun q => c q.symm, n⟩⟩
theorem occ_iff (s : List UInt8) (j : Nat) : Lib.occAt s [47] j = true ↔ s[j]? = some 47 := by
  unfold Lib.occAt
  rw [List.isPrefixOf_iff_prefix]
  constructor
  · intro ⟨t, ht⟩
    have : (s.drop j)[0]? = some 47 := by rw [← ht]; rfl
    rwa [List.getElem?_drop] at this
  · intro h
    obtain ⟨hj, e⟩ := List.getElem?_eq_some_iff.1 h
    rw [List.drop_eq_getElem_cons hj, e]
    exact ⟨_, rfl⟩
theorem idx_hit (a r : List UInt8) (h : 47 ∉ a) : Lib.index (a ++ 47 :: r) [47] = a.length := by
  refine Lib.index_first (by simp) ((occ_iff _ _).2 (by simp)) (fun j hj => ?_)
  rw [Bool.eq_false_iff]
  intro q
  rw [occ_iff, List.getElem?_append_left hj] at q
  exact h (List.mem_of_getElem? q)
theorem idx_miss (s : List UInt8) (h : 47 ∉ s) : Lib.index s [47] = -1 := by
  refine Lib.index_none (fun j _ => ?_)
  rw [Bool.eq_false_iff]
  intro q
  rw [occ_iff] at q
  exact h (List.mem_of_getElem? q)
theorem splitK_pcs : ∀ (n : Nat) (s : List UInt8), s.length ≤ n → Lib.splitK [47] 0 (Lib.count s [47]) s = pcs s := by
  intro n
  induction n with
  | zero =>
    intro s hs
    have : s = [] := List.eq_nil_of_length_eq_zero (by omega)
    subst this
    rfl
  | succ n ih =>
    intro s hs
    by_cases c : 47 ∈ s
    · obtain ⟨a, r, rfl, h⟩ := cut_at s c
      have ix := idx_hit a r h
      have e2 : (a ++ 47 :: r).drop (a.length + 1) = r := by
        rw [show a ++ 47 :: r = (a ++ [47]) ++ r from by simp]
        exact List.drop_left' (by simp)
      have ct := Lib.count_hit (sub := [47]) (by simp) ix
      rw [show a.length + ([47] : List UInt8).length = a.length + 1 from rfl, e2] at ct
      rw [ct, Nat.add_comm, Lib.splitK, ix]
      rw [if_neg (by rw [beq_iff_eq]; omega), pcs_hit a r h, Int.toNat_natCast, Nat.add_zero]
      rw [show a.length + ([47] : List UInt8).length = a.length + 1 from rfl, e2, List.take_left' rfl]
      rw [ih r (by rw [List.length_append, List.length_cons] at hs; omega)]
    · rw [Lib.count_miss (idx_miss s c), pcs_miss s c]
      rfl
theorem split_pcs (a : ByteArray) : Lib.splitB ⟨#[47]⟩ 0 (Lib.countB a ⟨#[47]⟩) a = (pcs a.data.toList).map nm := by
  have h := Lib.splitB_data ⟨#[47]⟩ 0 (Lib.countB a ⟨#[47]⟩) a
  have e : Lib.splitK [47] 0 (Lib.count a.data.toList [47]) a.data.toList = pcs a.data.toList := splitK_pcs _ _ (Nat.le_refl _)
  have e2 : (Lib.splitB ⟨#[47]⟩ 0 (Lib.countB a ⟨#[47]⟩) a).map (·.data.toList) = pcs a.data.toList := h.trans e
  rw [← e2, List.map_map]
  have : (nm ∘ fun b : ByteArray => b.data.toList) = id := funext fun b => nm_of b
  rw [this, List.map_id]
theorem pcs_pos : ∀ s : List UInt8, 0 < (pcs s).length
  | [] => Nat.zero_lt_one
  | b :: l => by rw [pcs]; split <;> simp
/-- A path's names. -/
def isN (p : List UInt8) : Bool := isNm (nm p)
def PV (k : Nat) (rest : List UInt8) (out : List ByteArray) : List ByteArray × Bool := if k + (pcs rest).length ≤ 8 ∧ (pcs rest).all isN = true then (out ++ (pcs rest).map nm, true) else ([], false)
theorem path_ev : ∀ (n : Nat) (rest : List UInt8), rest.length ≤ n → n ≤ 1048576 → ∀ out : List ByteArray, out.length ≤ 8 → Ev (fun q => spec_l13Path.l0 q (nm (47 :: rest)) out) (PV out.length rest out) := by
  intro n
  induction n with
  | zero =>
    intro rest hr hn out ho
    have e : rest = [] := List.eq_nil_of_length_eq_zero (by omega)
    subst e
    have pv : PV out.length [] out = ([], false) := by
      unfold PV
      rw [if_neg]
      intro ⟨_, h⟩
      have : isN [] = true := by simpa [pcs] using h
      exact absurd this (by decide)
    rw [pv]
    refine Ev.step (fun q => by rw [spec_l13Path.l0]) (Ev.neg (by rw [nm_toList]; simp) (Ev.pos (by rw [nm_size]; simp) ?_))
    have b0 : bt (nm [47]) 0 = 47 := by decide
    refine Ev.pos b0 ?_
    by_cases c : out.length = 8
    · have e : ((out.length : Int) == 8) = true := by rw [beq_iff_eq]; omega
      rw [e]
      exact Ev.step (fun q => by rw [spec_l13Path.j1]) (Ev.pos rfl (Ev.now _))
    · have e : ((out.length : Int) == 8) = false := by rw [beq_eq_false_iff_ne]; omega
      rw [e]
      refine Ev.step (fun q => by rw [spec_l13Path.j1]) (Ev.neg (by simp) ?_)
      refine Ev.step (fun q => by rw [spec_l13Path.l1]) (Ev.neg (by rw [nm_size]; simp) (Ev.pos (by omega) (Ev.pos (by rw [nm_size]; simp) ?_)))
      refine Ev.bind' _ (isNm_s _ (by rw [nm_extract, nm_size]; simp)) ?_
      rw [nm_extract]
      have : isNm (nm ((List.drop 1 [47]).take ((1 : Int).toNat - 1))) = false := by decide
      rw [this]
      exact Ev.neg (by simp) (Ev.now _)
  | succ n ih =>
    intro rest hr hn out ho
    -- the name ahead, and what comes behind it
    obtain ⟨a, r, er, na, hrr⟩ : ∃ a r, rest = a ++ r ∧ 47 ∉ a ∧ (r = [] ∨ ∃ r2, r = 47 :: r2) := by
      by_cases c : 47 ∈ rest
      · obtain ⟨a, r, e, h⟩ := cut_at rest c
        exact ⟨a, 47 :: r, e, h, .inr ⟨r, rfl⟩⟩
      · exact ⟨rest, [], by simp, c, .inl rfl⟩
    have la : a.length ≤ n + 1 := by rw [er, List.length_append] at hr; omega
    have sz : (nm (47 :: rest)).size = 1 + a.length + r.length := by rw [nm_size, er, List.length_cons, List.length_append]; omega
    have ex1 : (nm (47 :: rest)).extract 1 ((1 + a.length : Nat) : Int).toNat = nm a := by
      rw [nm_extract, Int.toNat_natCast, er, List.drop_succ_cons, List.drop_zero, Nat.add_sub_cancel_left, List.take_left' rfl]
    have ex2 : (nm (47 :: rest)).extract ((1 + a.length : Nat) : Int).toNat (nm (47 :: rest)).size = nm r := by
      rw [nm_extract, Int.toNat_natCast, sz, er, Nat.add_comm 1 a.length, List.drop_succ_cons, List.drop_left' rfl, List.take_of_length_le (by omega)]
    have pv_bad : (isN a = false ∨ out.length = 8) → PV out.length rest out = ([], false) := fun h => by
      unfold PV
      rw [if_neg]
      intro ⟨h1, h2⟩
      have pp := pcs_pos rest
      rcases h with h | h
      · have hm : a ∈ pcs rest := by
          rw [er]
          rcases hrr with e | ⟨r2, e⟩
          · rw [e, List.append_nil, pcs_miss a na]; simp
          · rw [e, pcs_hit a r2 na]; simp
        rw [List.all_eq_true.1 h2 a hm] at h
        cases h
      · omega
    have b0 : bt (nm (47 :: rest)) 0 = 47 := by
      have := bt_data (nm (47 :: rest)) 0 (by omega)
      exact this
    refine Ev.step (fun q => by rw [spec_l13Path.l0]) (Ev.neg (by rw [nm_toList]; simp) (Ev.pos (by omega) (Ev.pos b0 ?_)))
    by_cases c8 : out.length = 8
    · have e : ((out.length : Int) == 8) = true := by rw [beq_iff_eq]; omega
      rw [e, pv_bad (.inr c8)]
      exact Ev.step (fun q => by rw [spec_l13Path.j1]) (Ev.pos rfl (Ev.now _))
    have e : ((out.length : Int) == 8) = false := by rw [beq_eq_false_iff_ne]; omega
    rw [e]
    refine Ev.step (fun q => by rw [spec_l13Path.j1]) (Ev.neg (by simp) ?_)
    -- the scan
    have scan : ∀ res, Ev (fun q => spec_l13Path.l1 q (nm (47 :: rest)) out ((1 + a.length : Nat) : Int)) res → ∀ d i, a.length - i = d → i ≤ a.length → Ev (fun q => spec_l13Path.l1 q (nm (47 :: rest)) out ((1 + i : Nat) : Int)) res := by
      intro res hres d
      induction d with
      | zero =>
        intro i hd hi
        have : i = a.length := by omega
        subst this
        exact hres
      | succ d ihd =>
        intro i hd hi
        have nx := ihd (i + 1) (by omega) (by omega)
        have hb := bt_data (nm (47 :: rest)) (1 + i) (by omega)
        have hx : (nm (47 :: rest)).data.toList[1 + i]'(by rw [nm_data, er, List.length_cons, List.length_append]; omega) = a[i]'(by omega) := by
          simp only [nm_data, er, Nat.add_comm 1 i, List.getElem_cons_succ]
          exact List.getElem_append_left (by omega)
        rw [hx] at hb
        have hne : a[i]'(by omega) ≠ 47 := fun q => na (q ▸ List.getElem_mem _)
        have hne2 : ¬ bt (nm (47 :: rest)) ((1 + i : Nat) : Int) = 47 := by
          rw [hb]
          intro q
          refine hne (UInt8.toNat_inj.1 ?_)
          have : (a[i]'(by omega)).toNat = 47 := by omega
          rw [this]; rfl
        refine Ev.step (fun q => by rw [spec_l13Path.l1]) (Ev.pos (by omega) (Ev.pos (by omega) (Ev.neg hne2 ?_)))
        rw [show wrap64 (((1 + i : Nat) : Int) + 1) = ((1 + (i + 1) : Nat) : Int) from by rw [w64 (by omega) (by omega)]; omega]
        exact nx
    refine scan _ ?_ a.length 0 rfl (by omega)
    have szn : (nm a).size ≤ 1048576 := by rw [nm_size]; omega
    have nmev := isNm_s (nm a) szn
    -- behind the name
    have tail : Ev (fun q => if isN a = true then (if out.length < 8796093022208 then spec_l13Path.l0 q (nm r) (out ++ [nm a]) else none) else some (([] : List ByteArray), false)) (PV out.length rest out) := by
      by_cases c : isN a = true
      rotate_left
      · rw [pv_bad (.inl (Bool.eq_false_iff.2 c))]
        exact Ev.neg c (Ev.now _)
      refine Ev.pos c (Ev.pos (by omega) ?_)
      rcases hrr with e | ⟨r2, e⟩
      · subst e
        have pv : PV out.length rest out = (out ++ [nm a], true) := by
          unfold PV
          have ep : pcs rest = [a] := by rw [er, List.append_nil, pcs_miss a na]
          rw [ep, if_pos ⟨by rw [List.length_singleton]; omega, by simpa using c⟩]
          rfl
        rw [pv]
        refine Ev.step (fun q => by rw [spec_l13Path.l0]) (Ev.pos (by rw [nm_toList]) (Ev.now' ?_))
        rw [List.length_append, List.length_singleton, decide_eq_true (by omega)]
      · subst e
        have ep : pcs rest = a :: pcs r2 := by rw [er, pcs_hit a r2 na]
        have key := ih r2 (by rw [er, List.length_append, List.length_cons] at hr; omega) (by omega) (out ++ [nm a]) (by rw [List.length_append, List.length_singleton]; omega)
        have pv : PV out.length rest out = PV (out ++ [nm a]).length r2 (out ++ [nm a]) := by
          unfold PV
          rw [ep, List.length_append, List.length_singleton, List.length_cons, List.all_cons, c, Bool.true_and, List.map_cons, List.append_assoc, List.singleton_append]
          have : out.length + ((pcs r2).length + 1) = out.length + 1 + (pcs r2).length := by omega
          rw [this]
        rw [pv]
        exact key
    by_cases c1 : ((1 + a.length : Nat) : Int) < ((nm (47 :: rest)).size : Int)
    · rcases hrr with e | ⟨r2, e⟩
      · subst e; rw [sz, List.length_nil] at c1; omega
      have hb := bt_data (nm (47 :: rest)) (1 + a.length) (by omega)
      have hx : (nm (47 :: rest)).data.toList[1 + a.length]'(by rw [nm_data, er, List.length_cons, List.length_append, e, List.length_cons]; omega) = 47 := by
        simp only [nm_data, er, e, Nat.add_comm 1 a.length, List.getElem_cons_succ]
        simp
      rw [hx] at hb
      have hb2 : bt (nm (47 :: rest)) ((1 + a.length : Nat) : Int) = 47 := hb
      refine Ev.step (fun q => by rw [spec_l13Path.l1]) ?_
      refine Ev.pos c1 (Ev.pos (by omega) (Ev.pos hb2 (Ev.pos (by omega) (Ev.pos (by omega) ?_))))
      rw [ex1, ex2]
      exact Ev.bind' _ nmev tail
    · have r0 : r = [] := by
        rcases hrr with e | ⟨r2, e⟩
        · exact e
        · rw [sz, e, List.length_cons] at c1; omega
      refine Ev.step (fun q => by rw [spec_l13Path.l1]) ?_
      refine Ev.neg c1 (Ev.pos (by omega) (Ev.pos (by omega) ?_))
      rw [ex1, ex2]
      refine Ev.bind' _ nmev ?_
      by_cases c : isN a = true
      · refine Ev.pos c (Ev.pos (by omega) (Ev.pos (by omega) ?_))
        exact (tail.congr (fun q => by rw [if_pos c, if_pos (by omega)]))
      · refine Ev.neg c ?_
        exact (tail.congr (fun q => by rw [if_neg c]))
/-- The names of a path, of both. -/
def PA (a : ByteArray) : List ByteArray × Bool :=
  match a.data.toList with
  | [] => ([], false)
  | b :: rest => if b = 47 ∧ rest = [] then ([], true) else if b = 47 then PV 0 rest [] else ([], false)
theorem path_s (a : ByteArray) (ha : a.size ≤ 1048576) : Ev (fun q => spec_l13Path.f q a) (PA a) := by
  obtain ⟨l, rfl⟩ : ∃ l, a = nm l := ⟨_, (nm_of a).symm⟩
  rw [nm_size] at ha
  unfold spec_l13Path.f PA
  rw [nm_toList, nm_data]
  cases l with
  | nil =>
    refine Ev.neg (by simp) (Ev.step (fun q => by rw [spec_l13Path.l0]) (Ev.pos (by rw [nm_toList]) (Ev.now' ?_)))
    rfl
  | cons b rest =>
    dsimp only
    by_cases c : b = 47 ∧ rest = []
    · rw [if_pos c, c.1, c.2]
      exact Ev.pos rfl (Ev.now _)
    · rw [if_neg c]
      refine Ev.neg (fun q => c (by simpa using q)) ?_
      by_cases d : b = 47
      · subst d
        rw [if_pos rfl]
        exact path_ev rest.length rest (Nat.le_refl _) (by rw [List.length_cons] at ha; omega) [] (by simp)
      · rw [if_neg d]
        have hb := bt_data (nm (b :: rest)) 0 (by rw [nm_size, List.length_cons]; omega)
        have hne : ¬ bt (nm (b :: rest)) 0 = 47 := by
          have e : bt (nm (b :: rest)) 0 = (b.toNat : Int) := hb
          rw [e]
          intro q
          refine d (UInt8.toNat_inj.1 ?_)
          have : b.toNat = 47 := by omega
          rw [this]; rfl
        refine Ev.step (fun q => by rw [spec_l13Path.l0]) (Ev.neg (by rw [nm_toList]; simp) (Ev.pos (by rw [nm_size, List.length_cons]; omega) (Ev.neg hne ?_)))
        exact Ev.step (fun q => by rw [spec_l13Path.j1]) (Ev.pos rfl (Ev.now _))
theorem pcs_lenB : ∀ l : List UInt8, (pcs l).length ≤ l.length + 1
  | [] => Nat.le_refl _
  | b :: l => by
    have := pcs_lenB l
    have := pcs_pos l
    rw [pcs]
    split
    · rw [List.length_cons, List.length_cons]; omega
    · rw [List.length_cons, List.length_tail, List.length_cons]; omega
theorem contains_ev (l : List ByteArray) (hl : l.length ≤ 1048577) : Ev (fun q => slices_ContainsFunc_string_string_at_impl_namesIn_1.f q l) (!(l.all isNm)) := by
  have go : ∀ d i, l.length - i = d → i ≤ l.length → ∃ r : Int, Ev (fun q => slices_IndexFunc_string_string_at_impl_namesIn_1.l0 q l (l.length : Int) (i : Int)) r ∧ (r ≥ 0 ↔ ¬ (l.drop i).all isNm = true) := by
    intro d
    induction d with
    | zero =>
      intro i hd hi
      have e : i = l.length := by omega
      subst e
      refine ⟨-1, Ev.step (fun q => by rw [slices_IndexFunc_string_string_at_impl_namesIn_1.l0]) (Ev.neg (by omega) (Ev.now _)), ?_⟩
      rw [List.drop_length]
      simp
    | succ d ih =>
      intro i hd hi
      have hil : i < l.length := by omega
      obtain ⟨r, e, h⟩ := ih (i + 1) (by omega) (by omega)
      have ed := drop_getD l i ByteArray.empty hil
      have er : rdOf ByteArray.empty l (i : Int) = l.getD i ByteArray.empty := rdw_of _ l i
      have e1 : impl_namesIn_1.f (l.getD i ByteArray.empty) = some (!isNm (l.getD i ByteArray.empty)) := by
        unfold impl_namesIn_1.f
        rw [isNm_i]
        rfl
      rw [ed, List.all_cons]
      by_cases c : isNm (l.getD i ByteArray.empty) = true
      · rw [c, Bool.true_and]
        refine ⟨r, Ev.step (fun q => by rw [slices_IndexFunc_string_string_at_impl_namesIn_1.l0]) (Ev.pos (by omega) (Ev.pos (by omega) (Ev.pos (by omega) ?_))), h⟩
        rw [er, wS (i := i) (by omega)]
        exact Ev.bindc _ e1 (Ev.neg (by rw [c]; simp) e)
      · have c' := Bool.eq_false_iff.2 c
        rw [c', Bool.false_and]
        refine ⟨(i : Int), Ev.step (fun q => by rw [slices_IndexFunc_string_string_at_impl_namesIn_1.l0]) (Ev.pos (by omega) (Ev.pos (by omega) (Ev.pos (by omega) ?_))), by simp⟩
        rw [er]
        exact Ev.bindc _ e1 (Ev.pos (by rw [c']; rfl) (Ev.now _))
  obtain ⟨r, e, h⟩ := go _ 0 rfl (by omega)
  rw [List.drop_zero] at h
  unfold slices_ContainsFunc_string_string_at_impl_namesIn_1.f slices_IndexFunc_string_string_at_impl_namesIn_1.f
  refine Ev.bind' _ e (Ev.now' ?_)
  by_cases c : l.all isNm = true
  · rw [c, decide_eq_false (fun q => (h.1 q) c)]; rfl
  · rw [Bool.eq_false_iff.2 c, decide_eq_true (h.2 c)]; rfl
theorem path_i (a : ByteArray) (ha : a.size ≤ 1048576) : Ev (fun q => impl_namesIn.f q a) (PA a) := by
  obtain ⟨l, rfl⟩ : ∃ l, a = nm l := ⟨_, (nm_of a).symm⟩
  rw [nm_size] at ha
  unfold impl_namesIn.f PA
  have es : strings_Split.f (nm l) (⟨#[47]⟩ : ByteArray) = some ((pcs l).map nm) := by
    unfold strings_Split.f
    rw [if_pos ⟨by rw [nm_size]; omega, by decide⟩, split_pcs, nm_data]
  rw [nm_toList, nm_data]
  have pl := pcs_lenB l
  have pp := pcs_pos l
  have rest_ : l ≠ [47] → ∀ r, ((pcs l).headD [] = [] → (2 ≤ (pcs l).length ∧ (pcs l).length ≤ 9) → (pcs l).tail.all isN = true → r = ((pcs l).tail.map nm, true)) →
      (¬ ((pcs l).headD [] = [] ∧ (2 ≤ (pcs l).length ∧ (pcs l).length ≤ 9) ∧ (pcs l).tail.all isN = true) → r = ([], false)) →
      Ev (fun q => if l = ([47] : List UInt8) then (some (([] : List ByteArray), true)) else ((strings_Split.f (nm l) (⟨#[47]⟩ : ByteArray)).bind fun t266 => (if 0 < (t266.length : Int) then (if (rdOf ByteArray.empty t266 0).toList = ([] : List UInt8) then ((impl_within.f (t266.length : Int) 2 9).bind fun t270 => (if t270 = true then (if 1 ≤ (t266.length : Int) then ((slices_ContainsFunc_string_string_at_impl_namesIn_1.f q (t266.drop 1)).bind fun t275 => (if t275 = true then (some (([] : List ByteArray), false)) else (some ((t266.drop (1 : Int).toNat), true)))) else (none)) else (some (([] : List ByteArray), false)))) else (some (([] : List ByteArray), false))) else (none)))) r := by
    intro h0 r good bad
    refine Ev.neg h0 (Ev.bindc _ es ?_)
    have lm : ((pcs l).map nm).length = (pcs l).length := List.length_map ..
    have hd : (rdOf ByteArray.empty ((pcs l).map nm) 0).toList = (pcs l).headD [] := by
      cases h : pcs l with
      | nil => rw [h] at pp; cases pp
      | cons p ps => exact nm_toList p
    refine Ev.pos (by omega) ?_
    rw [hd]
    by_cases c1 : (pcs l).headD [] = []
    rotate_left
    · rw [bad (fun q => c1 q.1)]
      exact Ev.neg c1 (Ev.now _)
    refine Ev.pos c1 (Ev.bindc _ (within_eq' _ _ _) ?_)
    by_cases c2 : 2 ≤ (pcs l).length ∧ (pcs l).length ≤ 9
    rotate_left
    · rw [bad (fun q => c2 q.2.1)]
      refine Ev.neg ?_ (Ev.now _)
      rw [decide_eq_true_iff]
      omega
    refine Ev.pos (by rw [decide_eq_true_iff]; omega) (Ev.pos (by omega) ?_)
    have et : ((pcs l).map nm).drop 1 = (pcs l).tail.map nm := by rw [List.drop_one, List.map_tail]
    rw [show (1 : Int).toNat = 1 from rfl, et]
    refine Ev.bind' _ (contains_ev _ (by rw [List.length_map, List.length_tail]; omega)) ?_
    have ea : ((pcs l).tail.map nm).all isNm = (pcs l).tail.all isN := by rw [List.all_map]; rfl
    rw [ea]
    by_cases c3 : (pcs l).tail.all isN = true
    · rw [good c1 c2 c3]
      exact Ev.neg (by rw [c3]; simp) (Ev.now _)
    · rw [bad (fun q => c3 q.2.2)]
      exact Ev.pos (by rw [Bool.eq_false_iff.2 c3]; rfl) (Ev.now _)
  cases l with
  | nil => exact rest_ (by simp) _ (fun _ h => absurd h.1 (by decide)) (fun _ => rfl)
  | cons b rest =>
    dsimp only
    by_cases c : b = 47 ∧ rest = []
    · rw [if_pos c, c.1, c.2]
      exact Ev.pos rfl (Ev.now _)
    · rw [if_neg c]
      have h0 : b :: rest ≠ [47] := fun q => c (by simpa using q)
      by_cases d : b = 47
      · subst d
        rw [if_pos rfl]
        have ep : pcs (47 :: rest) = [] :: pcs rest := by rw [pcs, if_pos rfl]
        rw [ep] at rest_
        have p2 := pcs_pos rest
        refine rest_ h0 _ (fun _ h1 h2 => ?_) (fun h => ?_)
        · unfold PV
          rw [if_pos ⟨by have := h1.2; rw [List.length_cons] at this; omega, h2⟩]
          rfl
        · unfold PV
          rw [if_neg (fun q => h ⟨rfl, by rw [List.length_cons]; omega, q.2⟩)]
      · rw [if_neg d]
        refine rest_ h0 _ (fun h1 => ?_) (fun _ => rfl)
        rw [pcs, if_neg d] at h1
        cases h1
end Go.Proofs.YtoneooblgdoooaaDoor.Q
