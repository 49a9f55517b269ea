/- RecoverWork of both: the same answer, for all arguments. No statement. -/
import Derived.Test.YtpfimjgfojdhhaaIntGiveEv
import Derived.Test.YtpfimjgfojdhhaaIntGood
import Derived.Test.YtpfimjgfojdhhaaG4
import Derived.Test.YtpfimjgfojdhhaaG6
import Derived.Test.YtpfimjgfojdhhaaG5
namespace Go.Proofs.Ytpfimjgfojdhhaa.Q
open Go.RowKit Go.Proofs.YtpfimjgfojdhhaaW.PrintWords Go.Proofs.Ytpfimjgfojdhhaa.G
set_option linter.unusedVariables false
set_option linter.unusedSimpArgs false
abbrev W6 := Int × List X_ × List X_ × Int × List It × Bool
abbrev zW : W6 := (0, [], [], 0, [], false)
def isI (x : It) : Bool := x.f0 == 1
def exts (l : List It) : List X_ := (l.filter isI).map (fun x => x.f2)
theorem exts_cons (x : It) (t : List It) : exts (x :: t) = if x.f0 = 1 then x.f2 :: exts t else exts t := by
  unfold exts;rw [List.filter_cons]
  by_cases c : x.f0 = 1
  · rw [if_pos c, if_pos (by simp [isI, c])]; rfl
  · rw [if_neg c, if_neg (by simp [isI, c])]
theorem runI_exts {n : Int} {fp : List X_} : ∀ (l out o : List It), runI n fp out l = some o → o.map (fun x => x.f2) = out.map (fun x => x.f2) ++ exts l
  | [], out, o, h => by rw [runI] at h; obtain rfl := Option.some.inj h; simp [exts]
  | x :: t, out, o, h => by
    rw [runI] at h
    cases e : istep n fp out x with
    | none => rw [e] at h; cases h
    | some o1 =>
      rw [e] at h;have ih := runI_exts t o1 o h;rw [ih, exts_cons];unfold istep at e
      by_cases c : x.f0 = 1
      · rw [if_pos c] at e
        rw [if_pos c]
        split at e
        · split at e
          · cases e
          · split at e
            · cases e
            · obtain rfl := Option.some.inj e
              simp
        · cases e
      · rw [if_neg c] at e
        rw [if_neg c]
        split at e
        · rename_i hc
          obtain rfl := Option.some.inj e
          congr 1
          rw [List.map_set];apply List.ext_getElem
          · simp
          · intro i h1 h2
            by_cases q : i = (x.f1 - 1).toNat
            · subst q
              rw [List.getElem_set_self, List.getElem_map, getD_eq _ _ _ (by simpa using h2)]
            · rw [List.getElem_set_ne (fun z => q z.symm)]
        · cases e
/-- What is given back, as both tell it. -/
noncomputable def gv (n : Int) (l m : List X_) (x : X_) : F4 := by
  classical
  exact if h : l.length ≤ 1048576 then Classical.choose (giveRoom_both n l m x h) else zF
theorem gv_ok (n : Int) (l m : List X_) (x : X_) (h : l.length ≤ 1048576) : Ev (fun k => spec_GiveRoom.f k n l m x.f0 x.f1) (gv n l m x) ∧ Ev (fun k => impl_GiveRoom.f k n l m x.f0 x.f1) (gv n l m x) ∧ (gv n l m x).2.1.length ≤ 60 ∧ (gv n l m x).2.2.1.length ≤ 60 := by
  unfold gv;rw [dif_pos h];exact Classical.choose_spec (giveRoom_both n l m x h)
noncomputable def allBack (n : Int) (l m : List X_) : List X_ → W6
  | [] => (n, l, m, 1, [], true)
  | x :: t => if (gv n l m x).2.2.2 = true then allBack (gv n l m x).1 (gv n l m x).2.1 (gv n l m x).2.2.1 t else zW
theorem allBack_len : ∀ (t : List X_) (n : Int) (l m : List X_), l.length ≤ 1048576 → m.length ≤ 1048576 → (allBack n l m t).2.1.length ≤ 1048576 ∧ (allBack n l m t).2.2.1.length ≤ 1048576 ∧ (allBack n l m t).2.2.2.2.1 = []
  | [], n, l, m, h1, h2 => ⟨h1, h2, rfl⟩
  | x :: t, n, l, m, h1, h2 => by
    rw [allBack];have := gv_ok n l m x h1
    by_cases c : (gv n l m x).2.2.2 = true
    · rw [if_pos c]
      exact allBack_len t _ _ _ (by omega) (by omega)
    · rw [if_neg c]
      exact ⟨Nat.zero_le _, Nat.zero_le _, rfl⟩
theorem back_s (l : List It) (hl : l.length ≤ 1048576) : ∀ (t : List It) (j : Nat) (n : Int) (fp m : List X_), l.drop j = t → j + t.length = l.length → fp.length ≤ 1048576 →
    Ev (fun k => spec_RecoverWork.l0 k l (l.length : Int) (j : Int) n fp m) (allBack n fp m (exts t))
  | [], j, n, fp, m, hd, hj, hf => by
    rw [List.length_nil] at hj;refine Ev.step (fun k => by rw [spec_RecoverWork.l0]) ?_;exact Ev.neg (by omega) (Ev.now' rfl)
  | x :: t, j, n, fp, m, hd, hj, hf => by
    rw [List.length_cons] at hj
    have hlt : j < l.length := by omega
    rw [drop_getD l j z56 hlt] at hd
    injection hd with ho ht
    refine Ev.step (fun k => by rw [spec_RecoverWork.l0]) (Ev.pos (by omega) (Ev.pos (by omega) (Ev.pos (by omega) ?_)));rw [rdI, ho, show wrap64 ((j : Int) + 1) = ((j + 1 : Nat) : Int) by rw [w64 (by omega) (by omega)]; rfl, exts_cons]
    by_cases c : x.f0 = 1
    · rw [if_pos c, allBack]
      obtain ⟨g1, _, g3, _⟩ := gv_ok n fp m x.f2 hf;refine Ev.pos c (Ev.bind' _ g1 ?_)
      by_cases d : (gv n fp m x.f2).2.2.2 = true
      · rw [if_pos d]
        exact Ev.pos d (back_s l hl t (j + 1) _ _ _ ht (by omega) (by omega))
      · rw [if_neg d]
        exact Ev.neg d (Ev.now _)
    · rw [if_neg c]
      exact Ev.neg c (back_s l hl t (j + 1) n fp m ht (by omega) hf)
theorem back_i (l : List It) (hl : l.length ≤ 1048576) : ∀ (t : List It) (j : Nat) (n : Int) (fp m : List X_), l.drop j = t → j + t.length = l.length → fp.length ≤ 1048576 →
    Ev (fun k => impl_RecoverWork.l0 k l (l.length : Int) (j : Int) n fp m) (allBack n fp m (t.map (fun x => x.f2)))
  | [], j, n, fp, m, hd, hj, hf => by
    rw [List.length_nil] at hj;refine Ev.step (fun k => by rw [impl_RecoverWork.l0]) ?_;exact Ev.neg (by omega) (Ev.now' rfl)
  | x :: t, j, n, fp, m, hd, hj, hf => by
    rw [List.length_cons] at hj
    have hlt : j < l.length := by omega
    rw [drop_getD l j z56 hlt] at hd
    injection hd with ho ht
    refine Ev.step (fun k => by rw [impl_RecoverWork.l0]) (Ev.pos (by omega) (Ev.pos (by omega) (Ev.pos (by omega) ?_)));rw [rdI, ho, show wrap64 ((j : Int) + 1) = ((j + 1 : Nat) : Int) by rw [w64 (by omega) (by omega)]; rfl, List.map_cons, allBack];obtain ⟨_, g2, g3, _⟩ := gv_ok n fp m x.f2 hf;refine Ev.bind' _ g2 ?_
    by_cases d : (gv n fp m x.f2).2.2.2 = true
    · rw [if_pos d]
      exact Ev.pos d (back_i l hl t (j + 1) _ _ _ ht (by omega) (by omega))
    · rw [if_neg d]
      exact Ev.neg d (Ev.now _)
/-- The intents of a log, as both see them: for any room; for a good one alike. -/
theorem intents_any (n : Int) (fp m : List X_) (l : List It) (hfp : fp.length ≤ 1048576) (hl : l.length ≤ 1048576) :
    ∃ o : Option (List It), Ev (fun k => impl_intentsOf.f k n fp m l) (ansI o) ∧
      (Ev (fun k => spec_GoodFree.f k n fp m) true → ∃ p : Int × Bool, Ev (fun k => spec_l12Items.f k n fp m l) p ∧ p.2 = o.isSome) ∧
      (∀ out, o = some out → out.length ≤ 30 ∧ l.length ≤ 30 ∧ out.map (fun x => x.f2) = exts l) := by
  obtain ⟨g, e1, e2, hg⟩ := goodFree_full n fp m hfp
  have badj : Ev (fun k => impl_intentsOf.j0 k l true n fp m) (ansI none) :=
    Ev.step (fun k => by rw [impl_intentsOf.j0]) (Ev.pos rfl (Ev.now' (show (([] : List It), false) = ansI none from rfl)))
  unfold impl_intentsOf.f
  cases g with
  | false =>
    exact ⟨none, Ev.bind' _ e2 (Ev.neg Bool.false_ne_true badj), fun h => (by have := Ev.uniq e1 h; cases this), fun _ h => by cases h⟩
  | true =>
    obtain ⟨n1, n2, f60⟩ := hg rfl
    have hs : Ev (fun k => spec_l12Items.f k n fp m l) (ansS (decide ((l.length : Int) ≤ 30)) (runI n fp [] l)) := by
      unfold spec_l12Items.f;exact scan_s n fp m l n1 n2 f60 hl l.length 0 [] rfl (Nat.zero_le _) (Nat.zero_le _) Inv.start
    by_cases c : (l.length : Int) ≤ 30
    · have hi : Ev (fun k => impl_intentsOf.l0 k [] l (l.length : Int) 0 n fp m) (ansI (runI n fp [] l)) :=
        scan_i n fp m l n1 n2 f60 (by omega) l.length 0 [] rfl (Nat.zero_le _) (Nat.zero_le _)
      have hd : decide ((l.length : Int) > 30) = false := decide_eq_false (by omega);refine ⟨runI n fp [] l, Ev.bind' _ e2 (Ev.pos rfl (by rw [hd]; exact Ev.step (fun k => by rw [impl_intentsOf.j0]) (Ev.neg Bool.false_ne_true hi))), fun _ => ⟨_, hs, ?_⟩, fun out h => ?_⟩
      · rw [decide_eq_true c]
        cases runI n fp [] l <;> rfl
      · have h1 := runI_length l [] out h
        rw [List.length_nil] at h1;exact ⟨by omega, by omega, by rw [runI_exts l [] out h]; simp⟩
    · have hd : decide ((l.length : Int) > 30) = true := decide_eq_true (by omega)
      refine ⟨none, Ev.bind' _ e2 (Ev.pos rfl (by rw [hd]; exact badj)), fun _ => ⟨_, hs, ?_⟩, fun _ h => by cases h⟩;rw [decide_eq_false c]
      cases runI n fp [] l <;> rfl
theorem gw_good (n : Int) (fp m : List X_) (nxt : Int) (l : List It) (hfp : fp.length ≤ 1048576) (h : Ev (fun k => spec_GoodWork.f k n fp m nxt l) true) : Ev (fun k => spec_GoodFree.f k n fp m) true := by
  obtain ⟨g, e1, _, _⟩ := goodFree_full n fp m hfp
  cases g with
  | true => exact e1
  | false =>
    have h2 : Ev (fun k => spec_GoodWork.f k n fp m nxt l) false := by
      unfold spec_GoodWork.f;exact Ev.bind' _ e1 (Ev.neg Bool.false_ne_true (Ev.now _))
    have := Ev.uniq h h2
    cases this
theorem recover_both (n : Int) (fp m : List X_) (nxt : Int) (l l1 : List It) (hfp : fp.length ≤ 1048576) (hm : m.length ≤ 1048576) (hl : l.length ≤ 1048576) (hl1 : l1.length ≤ 1048576) :
    ∃ r : W6, Ev (fun k => spec_RecoverWork.f k n fp m nxt l l1) r ∧ Ev (fun k => impl_RecoverWork.f k n fp m nxt l l1) r ∧ r.2.1.length ≤ 2000000 ∧ r.2.2.1.length ≤ 2000000 ∧ r.2.2.2.2.1.length ≤ 2000000 := by
  obtain ⟨o, h1, h2, h3⟩ := intents_any n fp m l1 hfp hl1;obtain ⟨g, gs, gi⟩ := goodWork_both n fp m nxt l hfp hm hl
  have badj : ∀ x, Ev (fun k => impl_RecoverWork.j0 k x true n fp m nxt l) zW := fun x => Ev.step (fun k => by rw [impl_RecoverWork.j0]) (Ev.pos rfl (Ev.now _))
  unfold spec_RecoverWork.f impl_RecoverWork.f
  cases g with
  | false =>
    refine ⟨zW, Ev.bind' _ gs (Ev.neg Bool.false_ne_true (Ev.now _)), Ev.bind' _ h1 ?_, Nat.zero_le _, Nat.zero_le _, Nat.zero_le _⟩
    cases o with
    | none => exact Ev.neg Bool.false_ne_true (badj _)
    | some out => exact Ev.pos rfl (Ev.bind' _ gi (badj _))
  | true =>
    have hgf := gw_good n fp m nxt l hfp gs;obtain ⟨p, hp, hp2⟩ := h2 hgf;obtain ⟨n1, n2, h60, _, hso⟩ := gf_ok n fp m hfp hgf
    cases o with
    | none =>
      have hp3 : p.2 = false := hp2;exact ⟨zW, Ev.bind' _ gs (Ev.pos rfl (Ev.bind' _ hp (Ev.neg (by rw [hp3]; exact Bool.false_ne_true) (Ev.now _)))), Ev.bind' _ h1 (Ev.neg Bool.false_ne_true (badj _)), Nat.zero_le _, Nat.zero_le _, Nat.zero_le _⟩
    | some out =>
      have hp3 : p.2 = true := hp2;obtain ⟨o30, l30, hex⟩ := h3 out rfl
      have h5 : Ev (fun k => spec_l5Of.f k n fp) (n, fp, m) := by
        unfold spec_l5Of.f;exact Ev.bindc [] rfl (Ev.pos (by rw [List.length_nil]; omega) (Ev.bind' _ (bysize_ev fp hfp) (Ev.now' (by rw [hso, List.nil_append]))))
      have ho : impl_ownFree.f n fp m = some (n, fp, m) := by
        unfold impl_ownFree.f impl_Extent_57.f;rw [if_pos (by omega), Option.bind_some, if_pos (by omega), Option.bind_some]
      have b1 := back_s l1 hl1 l1 0 n fp m rfl (by omega) hfp;have b2 := back_i out (by omega) out 0 n fp m rfl (by omega) hfp;rw [hex] at b2;obtain ⟨q1, q2, q3⟩ := allBack_len (exts l1) n fp m hfp hm
      have hj : Ev (fun k => impl_RecoverWork.j0 k out (!true) n fp m nxt l) (allBack n fp m (exts l1)) := by
        refine Ev.step (fun k => by rw [impl_RecoverWork.j0]) ?_;exact Ev.neg Bool.false_ne_true (Ev.bindc _ ho b2)
      refine ⟨allBack n fp m (exts l1), Ev.bind' _ gs (Ev.pos rfl (Ev.bind' _ hp (Ev.pos hp3 (Ev.bind' _ h5 b1)))), Ev.bind' _ h1 (Ev.pos rfl (Ev.bind' _ gi hj)), by omega, by omega, by rw [q3]; exact Nat.zero_le _⟩
end Go.Proofs.Ytpfimjgfojdhhaa.Q
