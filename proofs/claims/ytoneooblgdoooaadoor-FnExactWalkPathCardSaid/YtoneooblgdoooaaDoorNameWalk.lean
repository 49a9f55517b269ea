/- WalkPath: the two lead to the same inode. -/
import Derived.Test.YtoneooblgdoooaaDoorNameFind
import Derived.Test.YtoneooblgdoooaaDoorNamePath
import Derived.Test.YtoneooblgdoooaaDoorG3
namespace Go.Proofs.YtoneooblgdoooaaDoor.Q
open Go.RowKit Go.Proofs.YtoneooblgdoooaaDoorW.PrintWords Go.Proofs.YtoneooblgdoooaaDoor.G
set_option linter.unusedVariables false
set_option linter.unusedSimpArgs false
theorem ord_of (l : List Nm) (h : ArN l) : Ord l := fun i h0 hi => by
  have o := (h.N i hi).or_ h0
  rw [show ((i : Int) - 1) = ((i - 1 : Nat) : Int) by omega]
  show Op.bytesLess (rd_T42 l ((i - 1 : Nat) : Int)).f0.toList (rd_T42 l (i : Int)).f0.toList = true
  rw [rdiName, rdiName]
  exact o
theorem walk_ev (t : List Ino) (g : GN t) (ns : List ByteArray) (hl : ns.length ≤ 1048577) : ∀ d i, ns.length - i = d → i ≤ ns.length → ∀ k, k < t.length →
    ∃ r, Ev (fun q => spec_l13Walk.l0 q (k : Int) ns (ns.length : Int) (i : Int) t) r ∧ Ev (fun q => impl_Names_walk.l0 q (k : Int) ns (ns.length : Int) (i : Int) t) r := by
  have n1 := g.n1
  intro d
  induction d with
  | zero =>
    intro i hd hi k hk
    have e : i = ns.length := by omega
    subst e
    exact ⟨_, Ev.step (fun q => by rw [spec_l13Walk.l0]) (Ev.neg (by omega) (Ev.now _)), Ev.step (fun q => by rw [impl_Names_walk.l0]) (Ev.neg (by omega) (Ev.now _))⟩
  | succ d ih =>
    intro i hd hi k hk
    have hil : i < ns.length := by omega
    have S := (g.S k hk).a
    have n20 := S.n
    have er : rdOf ByteArray.empty ns (i : Int) = ns.getD i ByteArray.empty := rdw_of _ ns i
    have es : ∀ r, Ev (fun q => if isd t k = true then ((spec_l8At.f q (nms t k) (ns.getD i ByteArray.empty)).bind fun b => (if b.2 = true then (if 0 ≤ b.1 then (if b.1 < ((nms t k).length : Int) then (spec_l13Walk.l0 q ((rd_T42 (nms t k) b.1).f1) ns (ns.length : Int) ((i + 1 : Nat) : Int) t) else none) else none) else some (0, 2))) else some (0, 4)) r →
        Ev (fun q => spec_l13Walk.l0 q (k : Int) ns (ns.length : Int) (i : Int) t) r := fun r e => by
      refine Ev.step (fun q => by rw [spec_l13Walk.l0]) (Ev.pos (by omega) (Ev.pos (by omega) (Ev.pos (by omega) (Ev.pos (by omega) (Ev.pos (by omega) ?_)))))
      rw [rdI, er, wS (i := i) (by omega)]
      exact e
    have ei : ∀ r, Ev (fun q => if isd t k = true then ((impl_Inode_find.f q (isd t k) (lnk t k) (nms t k) (ns.getD i ByteArray.empty)).bind fun b => (if b.2 = true then (if 0 ≤ b.1 then (if b.1 < ((nms t k).length : Int) then (impl_Names_walk.l0 q ((rd_T42 (nms t k) b.1).f1) ns (ns.length : Int) ((i + 1 : Nat) : Int) t) else none) else none) else some (0, 2))) else some (0, 4)) r →
        Ev (fun q => impl_Names_walk.l0 q (k : Int) ns (ns.length : Int) (i : Int) t) r := fun r e => by
      refine Ev.step (fun q => by rw [impl_Names_walk.l0]) (Ev.pos (by omega) (Ev.pos (by omega) (Ev.pos (by omega) (Ev.pos (by omega) (Ev.pos (by omega) ?_)))))
      rw [rdI, er, wS (i := i) (by omega)]
      exact e
    by_cases c : isd t k = true
    rotate_left
    · exact ⟨(0, 4), es _ (Ev.neg c (Ev.now _)), ei _ (Ev.neg c (Ev.now _))⟩
    obtain ⟨p, hp⟩ := ord_at _ (ns.getD i ByteArray.empty) (ord_of _ S)
    have fs := l8At_ev _ _ (by omega) p hp
    have fi := bsearch_ev _ _ (by omega) p hp
    have fi2 : Ev (fun q => impl_Inode_find.f q (isd t k) (lnk t k) (nms t k) (ns.getD i ByteArray.empty)) ((p : Int), hasAt (nms t k) (ns.getD i ByteArray.empty) p) := by
      unfold impl_Inode_find.f
      exact Ev.bind' _ fi (Ev.now _)
    by_cases h : hasAt (nms t k) (ns.getD i ByteArray.empty) p = true
    rotate_left
    · exact ⟨(0, 2), es _ (Ev.pos c (Ev.bind' _ fs (Ev.neg h (Ev.now _)))), ei _ (Ev.pos c (Ev.bind' _ fi2 (Ev.neg h (Ev.now _))))⟩
    have pl : p < (nms t k).length := by
      unfold hasAt at h
      rw [Bool.and_eq_true, decide_eq_true_iff] at h
      exact h.1
    have hx := g.R k hk _ (getD_mem (nms t k) p zN pl)
    unfold inr at hx
    have ex : ((rd_T42 (nms t k) (p : Int)).f1) = ((((nms t k).getD p zN).f1.toNat : Nat) : Int) := by
      rw [rdiName]
      show ((nms t k).getD p zN).f1 = _
      omega
    obtain ⟨r, rs, ri⟩ := ih (i + 1) (by omega) (by omega) (((nms t k).getD p zN).f1.toNat) (by omega)
    refine ⟨r, es _ (Ev.pos c (Ev.bind' _ fs (Ev.pos h (Ev.pos (by omega) (Ev.pos (by omega) ?_))))), ei _ (Ev.pos c (Ev.bind' _ fi2 (Ev.pos h (Ev.pos (by omega) (Ev.pos (by omega) ?_)))))⟩
    · rw [ex]; exact rs
    · rw [ex]; exact ri
theorem walkPath_both (t : List Ino) (Z : SzN t) (zt : t.length ≤ 1048576) (a : ByteArray) (ha : a.size ≤ 1048576) : ∃ r : Int × Int, Ev (fun q => spec_WalkPath.f q t a) r ∧ Ev (fun q => impl_WalkPath.f q t a) r := by
  obtain ⟨g, gs, gi, gg⟩ := goodNames_ev t Z zt
  have ps := path_s a ha
  have pi := path_i a ha
  unfold spec_WalkPath.f impl_WalkPath.f
  cases g with
  | false =>
    refine ⟨(0, 1), Ev.bind' _ ps (Ev.bind' _ gs (Ev.neg (by simp) (Ev.now _))), Ev.bind' _ pi ?_⟩
    by_cases c : (PA a).2 = true
    · exact Ev.pos c (Ev.bind' _ gi (Ev.neg (by simp) (Ev.now _)))
    · exact Ev.neg c (Ev.now _)
  | true =>
    by_cases c : (PA a).2 = true
    · have G := gg.1 rfl
      have hl : (PA a).1.length ≤ 1048577 := by
        unfold PA
        split
        · simp
        · rename_i b rest e
          have len : rest.length ≤ 1048576 := by
            have h2 : a.data.toList.length = a.size := by simp
            rw [e, List.length_cons] at h2
            omega
          split
          · simp
          · split
            · unfold PV
              split
              · have := pcs_lenB rest
                rw [List.nil_append, List.length_map]
                omega
              · simp
            · simp
      obtain ⟨r, rs, ri⟩ := walk_ev t G (PA a).1 hl _ 0 rfl (by omega) 0 (by have := G.n0; omega)
      refine ⟨r, Ev.bind' _ ps (Ev.bind' _ gs (Ev.pos rfl (Ev.pos c (Ev.bind' r ?_ (Ev.now _))))), Ev.bind' _ pi (Ev.pos c (Ev.bind' _ gi (Ev.pos rfl (Ev.bind' r ?_ (Ev.now _)))))⟩
      · unfold spec_l13Walk.f; exact rs
      · unfold impl_Names_walk.f; exact ri
    · exact ⟨(0, 1), Ev.bind' _ ps (Ev.bind' _ gs (Ev.pos rfl (Ev.neg c (Ev.now _)))), Ev.bind' _ pi (Ev.neg c (Ev.now _))⟩
end Go.Proofs.YtoneooblgdoooaaDoor.Q
