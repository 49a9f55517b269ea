/- The law FnExactDropName, for all arguments: its walk behind the plain law. No condition. -/
import Derived.Test.YtfbjeppfnlfejaaDoorLawDropName
import Derived.Test.YtfbjeppfnlfejaaDoorDirFind
import Derived.Test.YtfbjeppfnlfejaaDoorDirArgs
import Derived.Test.YtfbjeppfnlfejaaDoorHDir
namespace Go.Proofs.YtfbjeppfnlfejaaDoor.Q
open Go.RowKit Go.Proofs.YtfbjeppfnlfejaaDoorW.PrintWords Go.Proofs.YtfbjeppfnlfejaaDoor.G
set_option linter.unusedVariables false
set_option linter.unusedSimpArgs false
theorem Ev.at {α : Type} {g : Nat → Option α} {r : α} (h : Ev g r) : ∃ k, g k = some r := by
  obtain ⟨K, h⟩ := h
  exact ⟨K, h K (Nat.le_refl _)⟩
theorem take_buc (bs : List Bu) (i : Nat) (h : i < bs.length) : bs.take (i + 1) = bs.take i ++ [buc bs (i : Int)] := by
  rw [List.take_succ_eq_append_getElem h]
  congr 2
  show _ = rd_T46 bs (i : Int)
  rw [rdiBucket, List.getD_eq_getElem?_getD, List.getElem?_eq_getElem h]
  rfl
theorem ownS_ev (D : Int) (sl : List Int) (bs : List Bu) (Z : SzOk sl bs) : Ev (fun k => spec_l8Own.f k D sl bs) (D, sl, bs) := by
  have zb := Z.b
  have zs := Z.s
  have loop : ∀ d i : Nat, bs.length - i = d → i ≤ bs.length → Ev (fun k => spec_l8Own.l0 k (bs.take i) bs (bs.length : Int) (i : Int) D sl bs) (D, sl, bs) := by
    intro d
    induction d with
    | zero =>
      intro i hd hi
      have e : i = bs.length := by omega
      subst e
      exact Ev.step (fun k => by rw [spec_l8Own.l0]) (Ev.neg (by omega) (Ev.now' (by rw [List.take_length])))
    | succ d ih =>
      intro i hd hi
      have h := ih (i + 1) (by omega) (by omega)
      have zn : (rd_T46 bs (i : Int)).f1.length ≤ 1048576 := Z.n i (by omega)
      refine Ev.step (fun k => by rw [spec_l8Own.l0]) ?_
      refine Ev.pos (by omega) (Ev.pos (by omega) (Ev.pos (by omega) (Ev.bindc [] rfl ?_)))
      refine Ev.pos (by rw [List.length_nil]; omega) (Ev.pos (by rw [List.length_take]; omega) ?_)
      rw [w64 (x := (i : Int) + 1) (by omega) (by omega), List.nil_append]
      rw [take_buc bs i (by omega)] at h
      exact h
  unfold spec_l8Own.f
  refine Ev.bindc [] rfl ?_
  refine Ev.pos (by rw [List.length_nil]; omega) ?_
  rw [List.nil_append]
  exact loop _ 0 rfl (by omega)
theorem ownI_ev (D : Int) (sl : List Int) (bs : List Bu) (Z : SzOk sl bs) : Ev (fun k => impl_ownDir.f k D sl bs) (D, sl, bs) := by
  have zb := Z.b
  have zs := Z.s
  have loop : ∀ d i : Nat, bs.length - i = d → i ≤ bs.length → Ev (fun k => impl_ownDir.l0 k bs (bs.length : Int) (i : Int) D sl (bs.take i)) (D, sl, bs) := by
    intro d
    induction d with
    | zero =>
      intro i hd hi
      have e : i = bs.length := by omega
      subst e
      exact Ev.step (fun k => by rw [impl_ownDir.l0]) (Ev.neg (by omega) (Ev.now' (by rw [List.take_length])))
    | succ d ih =>
      intro i hd hi
      have h := ih (i + 1) (by omega) (by omega)
      have zn : (rd_T46 bs (i : Int)).f1.length ≤ 1048576 := Z.n i (by omega)
      have hc : impl_Name_43.f (rd_T46 bs (i : Int)).f1 = some (rd_T46 bs (i : Int)).f1 := by unfold impl_Name_43.f; exact if_pos (by omega)
      refine Ev.step (fun k => by rw [impl_ownDir.l0]) ?_
      refine Ev.pos (by omega) (Ev.pos (by omega) (Ev.pos (by omega) (Ev.bindc _ hc ?_)))
      refine Ev.pos (by rw [List.length_take]; omega) ?_
      rw [w64 (x := (i : Int) + 1) (by omega) (by omega)]
      rw [take_buc bs i (by omega)] at h
      exact h
  unfold impl_ownDir.f
  exact Ev.bindc _ (by unfold slices_Clone_int_int.f; exact if_pos (by omega)) (loop _ 0 rfl (by omega))
theorem dropE_len (bs : List Bu) (n q : Int) : (dropE bs n q).length = bs.length := by unfold dropE; rw [List.length_set]
theorem dropE_names (bs : List Bu) (n q : Int) (h0 : 0 ≤ n) (hn : ∀ j, j < bs.length → (bs.getD j z46).f1.length ≤ 1048576) : ∀ j, j < (dropE bs n q).length → ((dropE bs n q).getD j z46).f1.length ≤ 1048576 := by
  intro j hj
  rw [dropE_len] at hj
  unfold dropE
  rw [List.getD_eq_getElem?_getD, List.getElem?_set]
  by_cases c : n.toNat = j
  · rw [if_pos c, if_pos (by omega)]
    show (List.take _ _ ++ List.drop _ _).length ≤ _
    have h := hn j hj
    rw [← rdiBucket, show (j : Int) = n by omega] at h
    rw [List.length_append, List.length_take, List.length_drop]
    omega
  · rw [if_neg c, ← List.getD_eq_getElem?_getD]
    exact hn j hj
theorem dropName_both (D : Int) (sl : List Int) (bs : List Bu) (a : ByteArray) (Z : SzOk sl bs) (hn : ∀ j, j < bs.length → (bs.getD j z46).f1.length ≤ 1048576) (ha : a.size ≤ 1048576) :
    ∃ (G0 : Int) (G1 : List Int) (G2 : List Bu) (b : Bool), SpecDrop D sl bs a G0 G1 G2 b ∧ ImplDrop D sl bs a G0 G1 G2 b ∧ G1.length ≤ 1048576 ∧ G2.length ≤ 1048576 ∧ ∀ j, j < G2.length → (G2.getD j z46).f1.length ≤ 1048576 := by
  have zb := Z.b
  have zs := Z.s
  have nil : ∀ j, j < ([] : List Bu).length → (([] : List Bu).getD j z46).f1.length ≤ 1048576 := fun j hj => absurd hj (by simp)
  obtain ⟨g, ⟨gs, gi⟩, gg⟩ := goodDir_ev D sl bs Z
  obtain ⟨_, es⟩ := Ev.at gs
  obtain ⟨_, ei⟩ := Ev.at gi
  cases g with
  | false => exact ⟨0, [], [], false, .bad es, .bad ei, by simp, by simp, nil⟩
  | true =>
    have G := gg.1 rfl
    obtain ⟨_, ns⟩ := Ev.at (isNm_s a ha)
    have ni := isNm_i a
    cases c : isNm a with
    | false =>
      rw [c] at ns ni
      exact ⟨0, [], [], false, .noname es ns, .noname ei ni, by simp, by simp, nil⟩
    | true =>
      rw [c] at ns ni
      obtain ⟨p, h, fi, fs⟩ := find_ev G Z a ha
      obtain ⟨m0, m1, k0, k1⟩ := slot_rng G a
      obtain ⟨_, sb⟩ := Ev.at (l8Bucket_ev G a ha)
      obtain ⟨_, os⟩ := Ev.at (ownS_ev D sl bs Z)
      obtain ⟨_, oi⟩ := Ev.at (ownI_ev D sl bs Z)
      obtain ⟨_, fi⟩ := Ev.at fi
      obtain ⟨_, fs⟩ := Ev.at fs
      generalize rd sl (hashV a % pw D) = b at *
      cases d : hasAt (buc bs b).f1 a p with
      | false =>
        rw [d] at fi fs
        exact ⟨0, [], [], false, .nothas es ns os sb k0 k1 fs, .nothas ei ni oi fi k0 k1, by simp, by simp, nil⟩
      | true =>
        have pl : p < (buc bs b).f1.length := by
          unfold hasAt at d
          rw [Bool.and_eq_true, decide_eq_true_iff] at d
          exact d.1
        have pl' : (p : Int) < ((rd_T46 bs b).f1.length : Int) := by exact_mod_cast pl
        rw [d] at fi fs
        have bn : (buc bs b).f1.length ≤ 1048576 := by
          have h := Z.n b.toNat (by omega)
          rwa [Int.toNat_of_nonneg k0] at h
        exact ⟨D, sl, dropE bs b (p : Int), true, .yes es ns os sb k0 k1 fs (by omega) pl' bn, .yes ei ni oi fi k0 k1 (by omega) pl' bn, zs, by rw [dropE_len]; exact zb, dropE_names bs b _ k0 hn⟩
theorem markBucketS_go : ∀ (d i : Nat) (x : List S46) (a : Int), x.length - i = d → i ≤ x.length → x.length ≤ 1048576 → (∀ j, j < x.length → (x.getD j z46).f1.length ≤ 1048576) → 0 ≤ a → a + 2097153 * (d : Int) ≤ 1152921504606846976 →
    ∃ (q : Int) (m : List S46), Ev (fun k => laws_markBucketS.l0 k x a (i : Int)) (q, m) ∧ a ≤ q ∧ m.length = x.length ∧ (∀ j, j < i → m.getD j z46 = x.getD j z46) ∧ Ev (fun k => laws_heldBucketS.l0 k m a (i : Int)) q := by
  intro d
  induction d with
  | zero =>
    intro i x a hd hi hx hn h0 h1
    exact ⟨a, x, Ev.step (fun k => by rw [laws_markBucketS.l0]) (Ev.neg (by omega) (Ev.now _)), Int.le_refl _, rfl, fun _ _ => rfl, Ev.step (fun k => by rw [laws_heldBucketS.l0]) (Ev.neg (by omega) (Ev.now _))⟩
  | succ d ih =>
    intro i x a hd hi hx hn h0 h1
    have hlt : i < x.length := by omega
    have hl := hn i hlt
    obtain ⟨t, p, e1, eh, b1, b2, b3⟩ := markNameS_ev (x.getD i z46).f1 (a + 1) (by omega) (by omega)
    obtain ⟨q, m, e2, b4, b5, b6, b7⟩ := ih (i + 1) (x.set i (⟨a, p⟩ : S46)) t (by rw [List.length_set]; omega) (by rw [List.length_set]; omega) (by rw [List.length_set]; omega) (fun j hj => by
      rw [List.length_set] at hj
      rw [List.getD_eq_getElem?_getD, List.getElem?_set]
      by_cases c : i = j
      · rw [if_pos c, if_pos hlt]
        show p.length ≤ _
        omega
      · rw [if_neg c, ← List.getD_eq_getElem?_getD]
        exact hn j hj) (by omega) (by omega)
    have hm : m.getD i z46 = (⟨a, p⟩ : S46) := by
      rw [b6 i (by omega), List.getD_eq_getElem?_getD, List.getElem?_set_self hlt]
      rfl
    rw [List.length_set] at b5
    refine ⟨q, m, Ev.step (fun k => by rw [laws_markBucketS.l0]) (Ev.pos (by omega) (Ev.pos (by omega) ?_)), by omega, b5, fun j hj => ?_, Ev.step (fun k => by rw [laws_heldBucketS.l0]) (Ev.pos (by omega) (Ev.pos (by omega) ?_))⟩
    · rw [w64 (x := a + 1) (by omega) (by omega), w64 (x := (i : Int) + 1) (by omega) (by omega), Int.toNat_natCast, rdiBucket]
      exact Ev.bind' _ e1 e2
    · rw [b6 j (by omega), List.getD_eq_getElem?_getD, List.getElem?_set_ne (by omega), ← List.getD_eq_getElem?_getD]
    · rw [rdiBucket, hm, w64 (x := a + 1) (by omega) (by omega), w64 (x := (i : Int) + 1) (by omega) (by omega)]
      exact Ev.pos rfl (Ev.bind' _ eh (Ev.neg (by omega) b7))
theorem FnExactDropName_run (x0 : Int) (x1 : List Int) (x2 : List S60) (sm : ByteArray) (o0 : ok25 (⟨x0, x1, x2⟩ : S25)) {A1 A2 : Option Addr} {c1 c2 : Nat} (w : World)
    (hr1 : Kd.C (Kd.int .i64) w A1 x1.length x1) (hc1 : x1.length ≤ c1) (hr2 : Kd.C k60 w A2 x2.length x2) (hc2 : x2.length ≤ c2) :
    Calls Tryd.prog 3 #[.agg #[.int .i64 x0, .slice A1 x1.length c1, .slice A2 x2.length c2], .string sm] w fun e w' => e = .returned (.bool true) ∧ Below w.heap.size w w' := by
  by_cases hs : sm.size ≤ 1048576
  case neg => exact laws_FnExactDropName.long x0 x1 x2 sm hs w hr1 hc1 hr2 hc2
  obtain ⟨t0, e0, n0⟩ := szDir_ev x0 x1 x2 (o0.2.1).1 (o0.2.2).1 (o0.2.2).2 1048576 (by omega) (by omega)
  obtain ⟨_, hZ⟩ := Ev.at e0
  by_cases c0 : t0 < 0
  · exact laws_FnExactDropName.early _ x0 x1 x2 sm t0 hs hZ c0 w hr1 hc1 hr2 hc2
  obtain ⟨_, l1, l2, l3⟩ := n0 c0
  obtain ⟨Z, hn⟩ := dir_sizes x1 x2 l1 l2 l3
  have l3' : ∀ j, j < x2.length → (x2.getD j z60).f1.length ≤ 1048576 := fun j hj => by have := (l3 j hj).1; omega
  have k2 : (x2.map convBucket).length ≤ 1048576 := by rw [List.length_map]; omega
  obtain ⟨kt, hT⟩ := Ev.at (toDir_ev x0 x1 x2 (by omega) (by omega) l3')
  obtain ⟨G0, G1, G2, b, hS, hI, g1, g2, g3⟩ := dropName_both x0 x1 (x2.map convBucket) sm Z hn hs
  obtain ⟨ke, hE⟩ := Ev.at (eqDir_refl G0 G1 G2 g1 g2 g3)
  obtain ⟨ke2, hE2⟩ := Ev.at (eqDir_refl x0 x1 (x2.map convBucket) (by omega) k2 hn)
  obtain ⟨t, p1, em, _, b1, b2, _⟩ := markIntS_ev x1 1 (by omega) (by omega)
  obtain ⟨km, hM⟩ := Ev.at em
  obtain ⟨mk1, p2, em1, b3, _⟩ := markBucketS_go (x2.map convBucket).length 0 (x2.map convBucket) t (by omega) (by omega) k2 hn (by omega) (by omega)
  obtain ⟨km', hC⟩ := Ev.at em1
  obtain ⟨t2, q1, en, eh, b4, b5, hl1⟩ := markIntS_ev G1 1 (by omega) (by omega)
  obtain ⟨kn, hM2⟩ := Ev.at en
  obtain ⟨mk2, q2, en1, b6, hl2, _, eh2⟩ := markBucketS_go G2.length 0 G2 t2 (by omega) (by omega) g2 g3 (by omega) (by omega)
  obtain ⟨kn', hC2⟩ := Ev.at en1
  have hld : Ev (fun k => laws_heldDir.f k G0 q1 q2 1) mk2 := by
    unfold laws_heldDir.f
    exact Ev.bind' _ eh (Ev.neg (by omega) (Ev.bind' _ eh2 (Ev.neg (by omega) (Ev.now _))))
  obtain ⟨kh, hH⟩ := Ev.at hld
  exact laws_FnExactDropName.run _ kt ke ke2 km km' kn kn' kh x0 x1 x2 sm x0 x1 (x2.map convBucket) G0 G1 G2 p1 q1 p2 q2 t0 t mk1 t2 mk2 b hs hZ c0 hT hS hI hE hE2 hM hC (by omega) hM2 hC2 (by omega) hH hl1 hl2 w hr1 hc1 hr2 hc2
end Go.Proofs.YtfbjeppfnlfejaaDoor.Q
