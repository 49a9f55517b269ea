/- markDir at buckets whose names are marked, too, and what its rows hold then: by hand (over MarkB). No statement. -/
import Derived.Test.YtfbjeppfnlfejaaDoorMarkB
namespace Go.Proofs.YtfbjeppfnlfejaaDoor.G
open Go.RowKit Go.Proofs.YtfbjeppfnlfejaaDoorW.PrintWords Go.Proofs.YtfbjeppfnlfejaaDoorW.PrintLast Go.Proofs.YtfbjeppfnlfejaaDoorW.PrintMore
set_option linter.unusedVariables false
set_option linter.unusedSimpArgs false
/-- A row's blocks are of its types. -/
def TypedIn (w : World) (E : List Nat) (k : Nat) : Prop := ∃ q, q ∈ E ∧ ∃ cells, w.heap[k]? = some (.cells cells q (0, 0))
section
variable {α : Type} {d : Kd α} {e : Nat} {w w1 : World} {base : Nat} {ok : Nat → Prop} {v : Value} {xs : List α} {E : List Nat} {P : Nat → Prop}
theorem R_typedIn (h : d.R e w base ok v xs) : d.R e w base (fun k => ok k ∧ TypedIn w (e :: d.E) k) v xs := Kd.R_mono (Kd.R_bound h) (fun k hk => ⟨hk.1, hk.2.2.2⟩)
theorem S_typedIn (h : Kd.S d e w base ok v xs) : Kd.S d e w base (fun k => ok k ∧ TypedIn w (e :: d.E) k) v xs := Kd.S_mono (Kd.S_bound h) (fun k hk => ⟨hk.1, hk.2.2.2⟩)
theorem typed_no {k : Nat} {E' : List Nat} (h : TypedIn w E k) (h' : TypedIn w E' k) (ht : ∀ q, q ∈ E → ∀ q', q' ∈ E' → q ≠ q') : False := by
  obtain ⟨q, hq, cells, hc⟩ := h
  obtain ⟨q', hq', cells', hc'⟩ := h'
  rw [hc] at hc'
  injection hc' with hc'
  injection hc' with _ h2 _
  exact ht q hq q' hq' h2
/-- What is of other types than those of the written blocks stays. -/
theorem R_keptT (h : d.R e w base ok v xs) (hP : ∀ k, P k → TypedIn w E k) (hk : Kept w w1 P) (ht : ∀ q, q ∈ e :: d.E → ∀ q', q' ∈ E → q ≠ q') : d.R e w1 base ok v xs :=
  Kd.R_mono (Kd.R_step (Kd.R_bound h) (fun k hb hlt => hk.2 k hlt (fun hp => typed_no hb.2.2.2 (hP k hp) ht))) (fun k h => h.1)
theorem S_keptT (h : Kd.S d e w base ok v xs) (hP : ∀ k, P k → TypedIn w E k) (hk : Kept w w1 P) (ht : ∀ q, q ∈ e :: d.E → ∀ q', q' ∈ E → q ≠ q') : Kd.S d e w1 base ok v xs :=
  Kd.S_mono (Kd.S_step (Kd.S_bound h) (fun k hb hlt => hk.2 k hlt (fun hp => typed_no hb.2.2.2 (hP k hp) ht))) (fun k h => h.1)
theorem own_typedIn (h : d.R e w base ok v xs) (k : Nat) (hk : some k = v.ownBlock) : TypedIn w (e :: d.E) k := ((Kd.R_bound h).1 k hk.symm).2.2.2
theorem sb {W0 W W1 : World} (h : Aside0 (Kd.S d e W0 base ok v xs)) (hb : Below W.heap.size W W1) [s : StL [] W0 W] : Aside0 (Kd.S d e W1 base ok v xs) := ⟨Kd.S_below (Kd.S_below h.out st_below) hb⟩
theorem ss {W0 W : World} (h : Kd.S d e W0 base ok v xs) [s : StL [] W0 W] : Kd.S d e W base ok v xs := Kd.S_below h st_below
end
set_option maxHeartbeats 4000000 in
set_option maxRecDepth 100000 in
theorem laws_markDir.calls (k k2 : Nat) (a0 : Int) (A1 : Option Addr) (c1 : Nat) (l1 : List Int) (A2 : Option Addr) (c2 : Nat) (l2 : List S46) (a1 t r1 : Int) (r2 : List Int) (r3 : List S46) (w0 w : World) (hB : Below w0.heap.size w0 w) {ok1 ok2 : Nat → Prop}
    (ho1 : Kd.R (Kd.int .i64) 3 w w0.heap.size ok1 (.slice A1 l1.length c1) l1) (ho2 : Kd.S k46 46 w w0.heap.size ok2 (.slice A2 l2.length c2) l2) (hA : laws_markIntS.f k l1 a1 = some (t, r2)) (hC : laws_markBucketS.f k2 l2 t = some (r1, r3)) :
    Calls Tryd.prog 9 #[.agg #[.int .i64 a0, .slice A1 l1.length c1, .slice A2 l2.length c2], .int .i64 a1] w fun e w' => e = .returned (.int .i64 r1) ∧ Kd.R (Kd.int .i64) 3 w' w0.heap.size (fun _ => True) (.slice A1 l1.length c1) r2 ∧ Kd.S k46 46 w' w0.heap.size (fun _ => True) (.slice A2 l2.length c2) r3 ∧ Below w0.heap.size w0 w' ∧ Kept w w' (fun k_ => ok1 k_ ∨ ok2 k_) := by
  have hu := Tryd.underlying29
  have HA := Aside0.mk hA
  have HC := Aside0.mk hC
  have HO1 := Aside0.mk ho1
  have HO2 := Aside0.mk ho2
  have HB := Aside0.mk hB
  clear hA hC ho1 ho2 hB
  go_enter Tryd.func9, Tryd.ntmps9
  go_wp2_with (first
    | ((with_reducible refine gate_dst (N := 2) rfl ?_); refine box_event ?hg (N := 2) ?hd (cs := #[.int .i64 a0, .slice A1 l1.length c1, .slice A2 l2.length c2]) (t := 29) ?hr ?_; (case hd => rfl); (case hg => rfl); (case hr => first | (go_simp; done) | (go_simp; rfl)); intro gb hg w5 hbox hb; have BK := Aside0.mk (hbox); replace HO1 := nr HO1 hb; replace HO2 := sb HO2 hb; replace HB := Aside0.mk (below_step (bs HB) hb); have HX := Aside0.mk (show Kept w w5 (fun k_ => ok1 k_ ∨ ok2 k_) from Kept.of_below hb _); clear hb hbox hg; obtain ⟨hcz_0, hcz_1, hcz_2⟩ := cz3 BK; obtain ⟨hfz_0, hfz_1, hfz_2⟩ := fz3 BK)
    | (go_at_call 27; (with_reducible refine (laws_markIntS.calls k ?P0 (.slice A1 l1.length c1) l1 a1 t r2 w0 _ ?s1 ?s2 HA.out).mono ?_); (case s1 => exact bs HB); (case s2 => exact R_typedIn HO1.out); rintro e w6 ⟨rfl, ho, hb, hk⟩; have n1 := Aside0.mk ho; have n2 := Aside0.mk (S_keptT (ss HO2.out) (fun k_ hk_ => hk_.2) hk (by decide)); have n3 := Aside0.mk ((hk.2 gb (blk_lt (bk BK)) (fun hp => typed_no hp.2 (show TypedIn _ [29] gb from ⟨_, List.mem_cons_self, _, bk BK⟩) (by decide))).trans (bk BK)); have n4 := Aside0.mk hb; have n5 := Aside0.mk (HX.out.then_ hk (fun k_ h_ => .inl (.inl h_.1))); clear HX HO1 HO2 HB BK hcz_0 hcz_1 hcz_2 hfz_0 hfz_1 hfz_2 ho hb hk; have BK := n3; obtain ⟨hcz_0, hcz_1, hcz_2⟩ := cz3 BK; obtain ⟨hfz_0, hfz_1, hfz_2⟩ := fz3 BK)
    | (go_at_call 28; (with_reducible refine (laws_markBucketS.calls k2 ?P1 (.slice A2 l2.length c2) l2 t r1 r3 w0 _ ?s1 ?s2 HC.out).mono ?_); (case s1 => exact bs n4); (case s2 => exact S_typedIn n2.out); rintro e w7 ⟨rfl, ho, hb, hk⟩; have m1 := Aside0.mk (R_keptT (Kd.R_mono n1.out (fun _ _ => trivial) : Kd.R (Kd.int .i64) 3 _ _ (fun _ => True) _ _) (fun k_ hk_ => hk_.2) hk (by decide)); have m2 := Aside0.mk (Kd.S_mono ho (fun _ _ => trivial) : Kd.S _ _ _ _ (fun _ => True) _ _); have m3 := Aside0.mk hb; have m4 := Aside0.mk (n5.out.then_ hk (fun k_ h_ => .inl (.inr h_.1))); clear n5 n1 n2 n3 n4 BK hcz_0 hcz_1 hcz_2 hfz_0 hfz_1 hfz_2 ho hb hk))
  go_ret
  exact ⟨by first | rfl | (simp; done) | (simp [*]; done), rr m1.out, ss m2.out, bs m3, m4.out⟩
end Go.Proofs.YtfbjeppfnlfejaaDoor.G
