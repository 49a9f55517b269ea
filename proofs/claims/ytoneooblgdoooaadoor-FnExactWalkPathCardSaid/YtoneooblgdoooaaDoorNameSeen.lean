/- The reference's count of names, depth first. -/
import Derived.Test.YtoneooblgdoooaaDoorNameTree
import Derived.Test.YtoneooblgdoooaaDoorG1
namespace Go.Proofs.YtoneooblgdoooaaDoor.Q
open Go.RowKit Go.Proofs.YtoneooblgdoooaaDoorW.PrintWords Go.Proofs.YtoneooblgdoooaaDoor.G
set_option linter.unusedVariables false
set_option linter.unusedSimpArgs false
theorem rd_set (l : List Int) (i f : Nat) (a : Int) (h : i < l.length) : rd (l.set i a) (f : Int) = if f = i then a else rd l (f : Int) := by
  rw [rdw_int, rdw_int]
  by_cases c : f = i
  · subst c; rw [getD_set_self _ _ _ _ h, if_pos rfl]
  · rw [getD_set_ne _ _ _ _ _ c, if_neg c]
theorem wS {i : Nat} (h : i < 4611686018427387904) : wrap64 ((i : Int) + 1) = ((i + 1 : Nat) : Int) := by rw [w64 (by omega) (by omega)]; omega
theorem wP {i : Nat} (h : i < 4611686018427387904) (h0 : 0 < i) : wrap64 ((i : Int) - 1) = ((i - 1 : Nat) : Int) := by rw [w64 (by omega) (by omega)]; omega
theorem wD {m : Nat} (h : m < 8) : wrap64 ((8 - ((m + 1 : Nat) : Int)) + 1) = 8 - (m : Int) := by rw [w64 (by omega) (by omega)]; omega
theorem rdI (t : List Ino) (i : Nat) : rd_T40 t (i : Int) = t.getD i zI := by simp [rd_T40]
theorem seen_ev (t : List Ino) (zt : t.length ≤ 60) (hr : ∀ k, ∀ x ∈ nms t k, inr t x) (h20 : ∀ k, (nms t k).length ≤ 20) :
    ∀ m, m ≤ 8 → ∀ k, k < t.length → ∀ sl : List Int, sl.length = t.length → (∀ f, f < t.length → 0 ≤ rd sl (f : Int) ∧ rd sl (f : Int) + ((U t m k).count f : Int) ≤ 4611686018427387904) →
      ∃ b sl', Ev (fun q => spec_l13Seen.f q t (k : Int) (8 - (m : Int)) sl) (b, sl') ∧ (b = true ↔ C t m k ∧ G t (fun f => rd sl (f : Int)) (U t m k)) ∧
        (b = true → sl'.length = t.length ∧ ∀ f, f < t.length → rd sl' (f : Int) = rd sl (f : Int) + ((U t m k).count f : Int)) := by
  intro m
  induction m with
  | zero =>
    intro hm k hk sl hsl hb
    have start : ∀ r, Ev (fun q => spec_l13Seen.l0 q (8 - ((0 : Nat) : Int)) sl (nms t k) ((nms t k).length : Int) 0 t) r → Ev (fun q => spec_l13Seen.f q t (k : Int) (8 - ((0 : Nat) : Int)) sl) r := fun r e => by
      refine Ev.step (fun q => by rw [spec_l13Seen.f]) (Ev.pos (by omega) (Ev.pos (by omega) ?_))
      rw [rdI]
      exact e
    cases hl : nms t k with
    | nil =>
      rw [hl] at start
      refine ⟨true, sl, start _ (Ev.step (fun q => by rw [spec_l13Seen.l0]) (Ev.neg (by simp) (Ev.now _))), ⟨fun _ => ⟨hl, G_nil _ _⟩, fun _ => rfl⟩, fun _ => ⟨hsl, fun f _ => by simp [U]⟩⟩
    | cons x xs =>
      have h20' := h20 k
      have hx := hr k x (by rw [hl]; simp)
      unfold inr at hx
      rw [hl] at start h20'
      have e0 : rd_T42 (x :: xs) 0 = x := by simp [rd_T42]
      refine ⟨false, sl.set x.f1.toNat (wrap64 (rd sl x.f1 + 1)), start (false, _) (Ev.step (fun q => by rw [spec_l13Seen.l0]) ?_), ⟨fun h => absurd h (by simp), fun h => by have q : nms t k = [] := h.1; rw [hl] at q; cases q⟩, fun h => absurd h (by simp)⟩
      rw [e0]
      refine Ev.pos (by simp) (Ev.pos (by omega) (Ev.pos (by simp) (Ev.pos (by omega) (Ev.pos (by omega) (Ev.bindc _ rfl (Ev.pos (by omega) (Ev.now _)))))))
  | succ m ih =>
    intro hm k hk sl0 hsl0 hb0
    have loop : ∀ d i, (nms t k).length - i = d → i ≤ (nms t k).length → ∀ sl : List Int, sl.length = t.length →
        (∀ f, f < t.length → 0 ≤ rd sl (f : Int) ∧ rd sl (f : Int) + ((Ux t m ((nms t k).drop i)).count f : Int) ≤ 4611686018427387904) →
        ∃ b sl', Ev (fun q => spec_l13Seen.l0 q (8 - ((m + 1 : Nat) : Int)) sl (nms t k) ((nms t k).length : Int) (i : Int) t) (b, sl') ∧
          (b = true ↔ (∀ x ∈ (nms t k).drop i, inr t x ∧ (isd t (fl x) = true → C t m (fl x))) ∧ G t (fun f => rd sl (f : Int)) (Ux t m ((nms t k).drop i))) ∧
          (b = true → sl'.length = t.length ∧ ∀ f, f < t.length → rd sl' (f : Int) = rd sl (f : Int) + ((Ux t m ((nms t k).drop i)).count f : Int)) := by
      intro d
      induction d with
      | zero =>
        intro i hd hi sl hsl hb
        have e : i = (nms t k).length := by omega
        subst e
        rw [List.drop_length]
        exact ⟨true, sl, Ev.step (fun q => by rw [spec_l13Seen.l0]) (Ev.neg (by omega) (Ev.now _)), ⟨fun _ => ⟨fun x h => absurd h (by simp), G_nil _ _⟩, fun _ => rfl⟩, fun _ => ⟨hsl, fun f _ => by simp [Ux]⟩⟩
      | succ d ihd =>
        intro i hd hi sl hsl hb
        have h20' := h20 k
        have hil : i < (nms t k).length := by omega
        have ed := drop_getD (nms t k) i zN hil
        have hmem := getD_mem (nms t k) i zN hil
        have hx := hr k _ hmem
        have ex : rd_T42 (nms t k) (i : Int) = (nms t k).getD i zN := rdiName _ i
        have next := ihd (i + 1) (by omega) (by omega)
        rw [ed] at hb ⊢
        generalize (nms t k).getD i zN = x at ed hmem hx ex hb ⊢
        have hx2 : 1 ≤ x.f1 ∧ x.f1 ≤ (t.length : Int) - 1 := hx
        have ef : ((fl x : Nat) : Int) = x.f1 := by unfold fl; omega
        have hfl : fl x < t.length := by omega
        rw [Ux_cons] at hb ⊢
        have hb1 := hb (fl x) hfl
        have b1 : rd sl (fl x : Int) + 1 ≤ 4611686018427387904 := by
          rw [List.count_append, List.count_cons_self] at hb1
          omega
        obtain ⟨y, hy⟩ : ∃ y, y = sl.set (fl x) (rd sl (fl x : Int) + 1) := ⟨_, rfl⟩
        have ly : y.length = t.length := by rw [hy, List.length_set]; exact hsl
        have ry : ∀ f : Nat, rd y (f : Int) = rd sl (f : Int) + if f = fl x then 1 else 0 := fun f => by
          rw [hy, rd_set _ _ _ _ (by omega)]
          by_cases c : f = fl x
          · subst c; rw [if_pos rfl, if_pos rfl]
          · rw [if_neg c, if_neg c]; omega
        have enter : ∀ r, Ev (fun q => if (t.getD (fl x) zI).f0 = true then (if (rd y x.f1) > 1 then (some (false, y)) else ((spec_l13Seen.f q t x.f1 (wrap64 ((8 - ((m + 1 : Nat) : Int)) + 1)) y).bind fun bt => (if bt.1 = true then (spec_l13Seen.l0 q (8 - ((m + 1 : Nat) : Int)) bt.2 (nms t k) ((nms t k).length : Int) ((i + 1 : Nat) : Int) t) else (some (false, bt.2))))) else (spec_l13Seen.l0 q (8 - ((m + 1 : Nat) : Int)) y (nms t k) ((nms t k).length : Int) ((i + 1 : Nat) : Int) t)) r →
            Ev (fun q => spec_l13Seen.l0 q (8 - ((m + 1 : Nat) : Int)) sl (nms t k) ((nms t k).length : Int) (i : Int) t) r := fun r e => by
          refine Ev.step (fun q => by rw [spec_l13Seen.l0]) ?_
          rw [ex, ← ef, rdI, Int.toNat_natCast, w64 (x := rd sl (fl x : Int) + 1) (by omega) (by omega), ← hy, wS (i := i) (by omega)]
          refine Ev.pos (by omega) (Ev.pos (by omega) (Ev.pos (by omega) (Ev.pos (by omega) (Ev.pos (by omega) (Ev.bindc y rfl (Ev.neg (by omega) (Ev.pos (by omega) ?_)))))))
          rw [← ef] at e
          exact e
        by_cases cd : isd t (fl x) = true
        rotate_left
        · -- no directory
          rw [if_neg cd] at hb ⊢
          have cnt : ∀ f, ((fl x :: ([] : List Nat)) ++ Ux t m ((nms t k).drop (i + 1))).count f = (if f = fl x then 1 else 0) + (Ux t m ((nms t k).drop (i + 1))).count f := fun f => by
            rw [List.count_append, List.count_cons, List.count_nil]
            by_cases c : f = fl x
            · subst c; simp
            · have : ¬ (fl x == f) = true := by simpa using fun q => c q.symm
              simp [c, this]
          obtain ⟨b, sl', e, hbt, hct⟩ := next y ly (fun f hf => by
            have h1 := hb f hf
            rw [cnt] at h1
            rw [ry]
            by_cases c : f = fl x
            · rw [if_pos c] at h1 ⊢; omega
            · rw [if_neg c] at h1 ⊢; omega)
          refine ⟨b, sl', enter _ (Ev.neg cd e), ?_, fun hbb => ⟨(hct hbb).1, fun f hf => ?_⟩⟩
          · rw [hbt]
            have key : G t (fun f => rd sl (f : Int)) ((fl x :: ([] : List Nat)) ++ Ux t m ((nms t k).drop (i + 1))) ↔ G t (fun f => rd y (f : Int)) (Ux t m ((nms t k).drop (i + 1))) := by
              rw [List.cons_append, List.nil_append, G_cons t _ (fun f => rd y (f : Int)) _ _ (fun f _ => ry f)]
              exact ⟨fun h => h.2, fun h => ⟨fun h2 => absurd h2 cd, h⟩⟩
            rw [key]
            refine and_congr_left fun _ => ?_
            rw [List.forall_mem_cons]
            exact ⟨fun h => ⟨⟨hx, fun h2 => absurd h2 cd⟩, h⟩, fun h => h.2⟩
          · rw [(hct hbb).2 f hf, ry, cnt]
            by_cases c : f = fl x
            · rw [if_pos c, if_pos c]; omega
            · rw [if_neg c, if_neg c]; omega
        · rw [if_pos cd] at hb ⊢
          have cnt : ∀ f, ((fl x :: U t m (fl x)) ++ Ux t m ((nms t k).drop (i + 1))).count f = (if f = fl x then 1 else 0) + (U t m (fl x)).count f + (Ux t m ((nms t k).drop (i + 1))).count f := fun f => by
            rw [List.count_append, List.count_cons]
            by_cases c : f = fl x
            · subst c; simp; omega
            · have : ¬ (fl x == f) = true := by simpa using fun q => c q.symm
              simp [c, this]
          have split_ : G t (fun f => rd sl (f : Int)) ((fl x :: U t m (fl x)) ++ Ux t m ((nms t k).drop (i + 1))) ↔ rd sl (fl x : Int) + 1 ≤ 1 ∧ G t (fun f => rd y (f : Int)) (U t m (fl x)) ∧ G t (fun f => rd y (f : Int) + ((U t m (fl x)).count f : Int)) (Ux t m ((nms t k).drop (i + 1))) := by
            rw [List.cons_append, G_cons t _ (fun f => rd y (f : Int)) _ _ (fun f _ => ry f), G_append]
            exact ⟨fun h => ⟨h.1 cd, h.2⟩, fun h => ⟨fun _ => h.1, h.2⟩⟩
          have ryx : rd y x.f1 = rd sl (fl x : Int) + 1 := by rw [← ef, ry, if_pos rfl]
          by_cases c2 : rd sl (fl x : Int) + 1 > 1
          · refine ⟨false, y, enter _ (Ev.pos cd (Ev.pos (by omega) (Ev.now _))), ⟨fun h => absurd h (by simp), fun h => absurd (split_.1 h.2).1 (by omega)⟩, fun h => absurd h (by simp)⟩
          obtain ⟨b1, y1, e1, hb1t, hc1⟩ := ih (by omega) (fl x) hfl y ly (fun f hf => by
            have h1 := hb f hf
            rw [cnt] at h1
            rw [ry]
            by_cases c : f = fl x
            · rw [if_pos c] at h1 ⊢; omega
            · rw [if_neg c] at h1 ⊢; omega)
          cases b1 with
          | false =>
            refine ⟨false, y1, enter _ (Ev.pos cd (Ev.neg (by omega) ?_)), ⟨fun h => absurd h (by simp), fun h => ?_⟩, fun h => absurd h (by simp)⟩
            · rw [wD (by omega), ← ef]
              exact Ev.bind' _ e1 (Ev.neg (by simp) (Ev.now _))
            · have h2 := (split_.1 h.2).2.1
              have h1 := ((List.forall_mem_cons.1 h.1).1).2 cd
              exact absurd (hb1t.2 ⟨h1, h2⟩) (by simp)
          | true =>
            obtain ⟨ly1, ry1⟩ := hc1 rfl
            obtain ⟨hC, hG⟩ := hb1t.1 rfl
            obtain ⟨b, sl', e, hbt, hct⟩ := next y1 ly1 (fun f hf => by
              have h1 := hb f hf
              rw [cnt] at h1
              rw [ry1 f hf, ry]
              by_cases c : f = fl x
              · rw [if_pos c] at h1 ⊢; omega
              · rw [if_neg c] at h1 ⊢; omega)
            refine ⟨b, sl', enter _ (Ev.pos cd (Ev.neg (by omega) ?_)), ?_, fun hbb => ⟨(hct hbb).1, fun f hf => ?_⟩⟩
            · rw [wD (by omega), ← ef]
              exact Ev.bind' _ e1 (Ev.pos rfl e)
            · rw [hbt, split_]
              have key := G_congr t (fun f => rd y1 (f : Int)) (fun f => rd y (f : Int) + ((U t m (fl x)).count f : Int)) (Ux t m ((nms t k).drop (i + 1))) (fun f hd => ry1 f (isd_lt hd))
              rw [key, List.forall_mem_cons]
              exact ⟨fun h => ⟨⟨⟨hx, fun _ => hC⟩, h.1⟩, by omega, hG, h.2⟩, fun h => ⟨h.1.2, h.2.2.2⟩⟩
            · rw [(hct hbb).2 f hf, ry1 f hf, ry, cnt]
              by_cases c : f = fl x
              · rw [if_pos c, if_pos c]; omega
              · rw [if_neg c, if_neg c]; omega
    obtain ⟨b, sl', e, hbt, hct⟩ := loop _ 0 rfl (by omega) sl0 hsl0 (by rw [List.drop_zero]; exact hb0)
    rw [List.drop_zero] at hbt hct
    refine ⟨b, sl', ?_, hbt, hct⟩
    refine Ev.step (fun q => by rw [spec_l13Seen.f]) (Ev.pos (by omega) (Ev.pos (by omega) ?_))
    rw [rdI]
    exact e
end Go.Proofs.YtoneooblgdoooaaDoor.Q
