import Derived.Test.YtcdkgenfggdpaaaTxnBase
import Derived.Test.YtcdkgenfggdpaaaG4
namespace Go.Proofs.Ytcdkgenfggdpaaa.Q
open Go.RowKit Go.Proofs.YtcdkgenfggdpaaaW.PrintWords Go.Proofs.Ytcdkgenfggdpaaa.G
set_option linter.unusedVariables false
set_option linter.unusedSimpArgs false

/-- The write at a place of a text. -/
def wAt (s : ByteArray) (k : Nat) : Wr := ⟨bt s ((1 + 9 * k : Nat) : Int), s.extract (2 + 9 * k) (10 + 9 * k)⟩
def wsOf (s : ByteArray) (n : Nat) : List Wr := (List.range n).map (wAt s)
theorem wsOf_len (s : ByteArray) (n : Nat) : (wsOf s n).length = n := by simp [wsOf]
theorem wsOf_succ (s : ByteArray) (n : Nat) : wsOf s (n + 1) = wsOf s n ++ [wAt s n] := by simp [wsOf, List.range_succ]
theorem bt_range (s : ByteArray) (i : Int) : 0 ≤ bt s i ∧ bt s i < 256 := by
  unfold bt
  split
  · have := (s[i.toNat]).toNat_lt
    omega
  · omega
/-- The number of writes that a text tells. -/
def nOf (s : ByteArray) : Nat := (bt s 0).toNat
/-- What both read of a text. -/
noncomputable def readOf (s : ByteArray) : List Wr × Bool := by
  classical
  exact if 0 < s.size ∧ s.size = 2 + 9 * nOf s ∧ TOk 32 (wsOf s (nOf s)) ∧ strOfNums (ttxt (wsOf s (nOf s))) = s then (wsOf s (nOf s), true) else ([], false)
theorem readOf_yes {s : ByteArray} (h : 0 < s.size ∧ s.size = 2 + 9 * nOf s ∧ TOk 32 (wsOf s (nOf s)) ∧ strOfNums (ttxt (wsOf s (nOf s))) = s) : readOf s = (wsOf s (nOf s), true) := by
  classical
  unfold readOf
  exact if_pos h
theorem readOf_no {s : ByteArray} (h : ¬ (0 < s.size ∧ s.size = 2 + 9 * nOf s ∧ TOk 32 (wsOf s (nOf s)) ∧ strOfNums (ttxt (wsOf s (nOf s))) = s)) : readOf s = ([], false) := by
  classical
  unfold readOf
  exact if_neg h
theorem ttxt_length (n : Int) (l : List Wr) (h : TOk n l) : (ttxt l).length = 2 + 9 * l.length := by
  unfold ttxt
  rw [List.length_append, tbody_length n l h l.length (Nat.le_refl _)]
  simp only [List.length_singleton]
  omega
theorem bt_str (xs : List Int) (h : AllB xs) (i : Nat) : bt (strOfNums xs) (i : Int) = xs.getD i 0 := by
  rw [← rd_bytesOf, bytes_str _ h, rdw_int]
theorem ba_inj {a b : ByteArray} (h : a.toList = b.toList) : a = b := by
  rw [ByteArray.toList_eq, ByteArray.toList_eq] at h
  apply ByteArray.ext
  exact Array.toList_inj.1 h
theorem nOf_ttxt (n : Int) (l : List Wr) (h : TOk n l) : nOf (strOfNums (ttxt l)) = l.length := by
  have h8 := h.2
  have hsz := ttxt_length n l h
  unfold nOf
  have e : bt (strOfNums (ttxt l)) 0 = (l.length : Int) := by
    have h0 : (0 : Int).toNat < (strOfNums (ttxt l)).size := by rw [str_size]; simp; omega
    unfold bt
    rw [dif_pos h0]
    unfold strOfNums ttxt tbody
    simp only [List.map_cons, List.cons_append]
    show ((UInt8.ofNat ((l.length : Int) % 256).toNat).toNat : Int) = _
    rw [UInt8.toNat_ofNat']
    omega
  omega
theorem specRead_ev (s : ByteArray) (hs : s.size ≤ 1048576) : Ev (fun k => spec_l11Read.f k s) (readOf s) := by
  have hn := bt_range s 0
  have hw0 : wrap64 (bt s 0) = bt s 0 := w64 (by omega) (by omega)
  have hnn : (nOf s : Int) = bt s 0 := by unfold nOf; omega
  have hno : s.size ≠ 0 → (s.size ≠ 2 + 9 * nOf s) → Ev (fun k => spec_l11Read.j0 k s true) (readOf s) := fun h0 h => by
    rw [readOf_no (fun e => h e.2.1)]
    refine Ev.step (fun k => by rw [spec_l11Read.j0]) ?_
    exact Ev.pos rfl (Ev.now _)
  unfold spec_l11Read.f
  by_cases h0 : s.size = 0
  · refine Ev.pos (by omega) ?_
    rw [readOf_no (fun e => by omega)]
    refine Ev.step (fun k => by rw [spec_l11Read.j0]) ?_
    exact Ev.pos rfl (Ev.now _)
  · refine Ev.neg (by omega) (Ev.pos (by omega) ?_)
    rw [hw0, w64 (x := bt s 0 * 9) (by omega) (by omega), w64 (x := 2 + bt s 0 * 9) (by omega) (by omega)]
    by_cases hsz : s.size = 2 + 9 * nOf s
    · have e : ((s.size : Int) != 2 + bt s 0 * 9) = false := by
        rw [bne_eq_false_iff_eq]
        omega
      rw [e]
      refine Ev.step (fun k => by rw [spec_l11Read.j0]) ?_
      refine Ev.neg (by decide) ?_
      have loop : ∀ d k, nOf s - k = d → k ≤ nOf s → Ev (fun q => spec_l11Read.l0 q s (wsOf s k) (k : Int)) (readOf s) := by
        intro d
        induction d with
        | zero =>
          intro k hd hk
          have : k = nOf s := by omega
          subst this
          refine Ev.step (fun k => by rw [spec_l11Read.l0]) ?_
          rw [hw0]
          refine Ev.pos (by omega) (Ev.neg (by omega) (Ev.bind' _ (l11Txn_ev _ (by rw [wsOf_len]; omega) 32) ?_))
          by_cases ht : TOk 32 (wsOf s (nOf s))
          · refine Ev.pos (tOk_iff.2 ht) (Ev.bind' _ (l11Text_ev 32 _ ht) ?_)
            by_cases he : strOfNums (ttxt (wsOf s (nOf s))) = s
            · rw [readOf_yes ⟨by omega, hsz, ht, he⟩]
              exact Ev.pos (by rw [he]) (Ev.now _)
            · rw [readOf_no (fun e => he e.2.2.2)]
              exact Ev.neg (fun e => he (ba_inj e)) (Ev.now _)
          · rw [readOf_no (fun e => ht e.2.2.1)]
            exact Ev.neg (fun e => ht (tOk_iff.1 e)) (Ev.now _)
        | succ d ih =>
          intro k hd hk
          have ih' := ih (k + 1) (by omega) (by omega)
          rw [wsOf_succ] at ih'
          refine Ev.step (fun k => by rw [spec_l11Read.l0]) ?_
          rw [hw0, w64 (x := (k : Int) * 9) (by omega) (by omega), w64 (x := 1 + (k : Int) * 9) (by omega) (by omega), w64 (x := 1 + (k : Int) * 9 + 1) (by omega) (by omega), w64 (x := 1 + (k : Int) * 9 + 1 + 8) (by omega) (by omega), w64 (x := (k : Int) + 1) (by omega) (by omega)]
          have hb := bt_range s (1 + (k : Int) * 9)
          rw [w64 (x := bt s (1 + (k : Int) * 9)) (by omega) (by omega)]
          refine Ev.pos (by omega) (Ev.pos (by omega) (Ev.pos (by omega) (Ev.pos (by omega) (Ev.pos (by omega) (Ev.pos (by omega) (Ev.pos (by omega) (Ev.pos (by rw [wsOf_len]; omega) ?_)))))))
          have e1 : (⟨bt s (1 + (k : Int) * 9), s.extract (1 + (k : Int) * 9 + 1).toNat (1 + (k : Int) * 9 + 1 + 8).toNat⟩ : Wr) = wAt s k := by
            unfold wAt
            rw [show ((1 + 9 * k : Nat) : Int) = 1 + (k : Int) * 9 by omega, show (1 + (k : Int) * 9 + 1).toNat = 2 + 9 * k by omega, show (1 + (k : Int) * 9 + 1 + 8).toNat = 10 + 9 * k by omega]
          rw [e1]
          exact ih'
      exact loop _ 0 rfl (by omega)
    · have e : ((s.size : Int) != 2 + bt s 0 * 9) = true := by
        rw [bne_iff_ne]
        omega
      rw [e]
      exact hno h0 hsz
theorem implRead_ev (s : ByteArray) (hs : s.size ≤ 1048576) : Ev (fun k => impl_ReadTxn.f k s) (readOf s) := by
  have hn := bt_range s 0
  have hnn : (nOf s : Int) = bt s 0 := by unfold nOf; omega
  unfold impl_ReadTxn.f
  by_cases hbig : (s.size : Int) > 74
  · refine Ev.pos hbig (Ev.now' ?_)
    rw [readOf_no]
    rintro ⟨_, h1, h2, _⟩
    have := h2.2.2
    rw [wsOf_len] at this
    omega
  · refine Ev.neg hbig ?_
    -- the number of writes that are cut out
    have loop : ∀ d k, s.size - 9 * k = d → (k = 0 ∨ 9 * (k - 1) + 10 < s.size) → Ev (fun q => impl_ReadTxn.l0 q s (wsOf s k) (((1 + 9 * k : Nat)) : Int)) (readOf s) := by
      intro d
      induction d using Nat.strongRecOn with
      | _ d ih =>
        intro k hd hk
        by_cases hlt : 10 + 9 * k < s.size
        · have ih' := ih (s.size - 9 * (k + 1)) (by omega) (k + 1) rfl (.inr (by omega))
          rw [wsOf_succ] at ih'
          have hb := bt_range s ((1 + 9 * k : Nat) : Int)
          refine Ev.step (fun k => by rw [impl_ReadTxn.l0]) ?_
          rw [w64 (x := ((1 + 9 * k : Nat) : Int) + 8) (by omega) (by omega), w64 (x := ((1 + 9 * k : Nat) : Int) + 8 + 1) (by omega) (by omega), w64 (x := ((1 + 9 * k : Nat) : Int) + 1) (by omega) (by omega), w64 (x := ((1 + 9 * k : Nat) : Int) + 1 + 8) (by omega) (by omega), w64 (x := ((1 + 9 * k : Nat) : Int) + 9) (by omega) (by omega), w64 (x := bt s ((1 + 9 * k : Nat) : Int)) (by omega) (by omega)]
          refine Ev.pos (by omega) (Ev.pos (by omega) (Ev.pos (by omega) (Ev.pos (by omega) (Ev.pos (by omega) (Ev.pos (by omega) (Ev.pos (by rw [wsOf_len]; omega) ?_))))))
          have e1 : (⟨bt s ((1 + 9 * k : Nat) : Int), s.extract (((1 + 9 * k : Nat) : Int) + 1).toNat (((1 + 9 * k : Nat) : Int) + 1 + 8).toNat⟩ : Wr) = wAt s k := by
            unfold wAt
            rw [show (((1 + 9 * k : Nat) : Int) + 1).toNat = 2 + 9 * k by omega, show (((1 + 9 * k : Nat) : Int) + 1 + 8).toNat = 10 + 9 * k by omega]
          rw [e1, show ((1 + 9 * k : Nat) : Int) + 9 = ((1 + 9 * (k + 1) : Nat) : Int) by omega]
          exact ih'
        · refine Ev.step (fun k => by rw [impl_ReadTxn.l0]) ?_
          rw [w64 (x := ((1 + 9 * k : Nat) : Int) + 8) (by omega) (by omega), w64 (x := ((1 + 9 * k : Nat) : Int) + 8 + 1) (by omega) (by omega)]
          refine Ev.neg (by omega) (Ev.bind' _ (isTxn_ev _ (by rw [wsOf_len]; omega) 32) ?_)
          by_cases ht : TOk 32 (wsOf s k)
          · refine Ev.pos (tOk_iff.2 ht) (Ev.bind' _ (txnText_ev 32 _ ht) ?_)
            by_cases he : strOfNums (ttxt (wsOf s k)) = s
            · have h1 := nOf_ttxt 32 _ ht
              have h2 := ttxt_length 32 _ ht
              rw [he, wsOf_len] at h1
              have h3 : s.size = 2 + 9 * k := by rw [← he, str_size, h2, wsOf_len]
              rw [readOf_yes (by rw [h1]; exact ⟨by omega, h3, ht, he⟩), h1]
              exact Ev.pos (by rw [he]) (Ev.now _)
            · rw [readOf_no]
              · exact Ev.neg (fun e => he (ba_inj e)) (Ev.now _)
              · rintro ⟨_, h1, h2, h3⟩
                have : nOf s = k := by omega
                rw [this] at h3
                exact he h3
          · rw [readOf_no]
            · exact Ev.neg (fun e => ht (tOk_iff.1 e)) (Ev.now _)
            · rintro ⟨_, h1, h2, h3⟩
              have : nOf s = k := by omega
              rw [this] at h2
              exact ht h2
    exact loop _ 0 rfl (.inl rfl)
theorem readOf_len (s : ByteArray) : (readOf s).1.length ≤ 255 := by
  have hn := bt_range s 0
  by_cases h : 0 < s.size ∧ s.size = 2 + 9 * nOf s ∧ TOk 32 (wsOf s (nOf s)) ∧ strOfNums (ttxt (wsOf s (nOf s))) = s
  · rw [readOf_yes h, wsOf_len]
    unfold nOf
    omega
  · rw [readOf_no h]
    simp
end Go.Proofs.Ytcdkgenfggdpaaa.Q
