/- markNames at rows whose elements lead to nothing: by hand, in the walks' words. No statement. -/
import Derived.Test.YtdclpgcmeabmbaaG2
namespace Go.Proofs.Ytdclpgcmeabmbaa.G
open Go.RowKit Go.Proofs.YtdclpgcmeabmbaaW.PrintWords Go.Proofs.YtdclpgcmeabmbaaW.PrintLast Go.Proofs.YtdclpgcmeabmbaaW.PrintMore
set_option linter.unusedVariables false
set_option linter.unusedSimpArgs false
/-- A row's blocks are of its types. -/
def TypedIn (w : World) (E : List Nat) (k : Nat) : Prop := ∃ q, q ∈ E ∧ ∃ cells, w.heap[k]? = some (.cells cells q (0, 0))
section
variable {α : Type} {d : Kd α} {e : Nat} {w w1 : World} {base : Nat} {ok : Nat → Prop} {v : Value} {xs : List α} {E : List Nat} {P : Nat → Prop}
theorem R_typedIn (h : d.R e w base ok v xs) : d.R e w base (TypedIn w (e :: d.E)) v xs := Kd.R_mono (Kd.R_bound h) (fun k hk => hk.2.2.2)
theorem S_typedIn (h : Kd.S d e w base ok v xs) : Kd.S d e w base (TypedIn w (e :: d.E)) v xs := Kd.S_mono (Kd.S_bound h) (fun k hk => hk.2.2.2)
/-- The blocks of one type are as they were. -/
def BoxesStay (t : Nat) (w w' : World) : Prop := ∀ (g : Nat) (cells : Array Value), w.heap[g]? = some (Obj.cells cells t (0, 0)) → w'.heap[g]? = some (Obj.cells cells t (0, 0))
theorem typed_no {k : Nat} {E' : List Nat} (h : TypedIn w E k) (h' : TypedIn w E' k) (ht : ∀ q, q ∈ E → ∀ q', q' ∈ E' → q ≠ q') : False := by
  obtain ⟨q, hq, cells, hc⟩ := h
  obtain ⟨q', hq', cells', hc'⟩ := h'
  rw [hc] at hc'
  injection hc' with hc'
  injection hc' with _ h2 _
  exact ht q hq q' hq' h2
/-- What is of other types than those of the written blocks stays. -/
theorem R_keptT (h : d.R e w base ok v xs) (hP : ∀ k, P k → TypedIn w E k) (hk : Kept w w1 P) (ht : ∀ q, q ∈ e :: d.E → ∀ q', q' ∈ E → q ≠ q') : d.R e w1 base ok v xs :=
  Kd.R_mono (Kd.R_step (Kd.R_bound h) (fun k hb hlt => hk.2 k hlt (fun hp => typed_no hb.2.2.2 (hP k hp) ht))) (fun k h => h.1)
theorem S_keptT (h : Kd.S d e w base ok v xs) (hP : ∀ k, P k → TypedIn w E k) (hk : Kept w w1 P) (ht : ∀ q, q ∈ e :: d.E → ∀ q', q' ∈ E → q ≠ q') : Kd.S d e w1 base ok v xs :=
  Kd.S_mono (Kd.S_step (Kd.S_bound h) (fun k hb hlt => hk.2 k hlt (fun hp => typed_no hb.2.2.2 (hP k hp) ht))) (fun k h => h.1)
theorem own_typedIn (h : d.R e w base ok v xs) (k : Nat) (hk : some k = v.ownBlock) : TypedIn w (e :: d.E) k := ((Kd.R_bound h).1 k hk.symm).2.2.2
theorem sb {W0 W W1 : World} (h : Aside0 (Kd.S d e W0 base ok v xs)) (hb : Below W.heap.size W W1) [s : StL [] W0 W] : Aside0 (Kd.S d e W1 base ok v xs) := ⟨Kd.S_below (Kd.S_below h.out st_below) hb⟩
theorem ss {W0 W : World} (h : Kd.S d e W0 base ok v xs) [s : StL [] W0 W] : Kd.S d e W base ok v xs := Kd.S_below h st_below
end
set_option maxHeartbeats 4000000 in
set_option maxRecDepth 100000 in
theorem laws_markNames.calls (k2 : Nat) (A2 : Option Addr) (c2 : Nat) (l2 : List S61) (t r1 : Int) (r3 : List S61) (w0 w : World) (hB : Below w0.heap.size w0 w) {ok2 : Nat → Prop}
    (ho2 : Kd.S k61 61 w w0.heap.size ok2 (.slice A2 l2.length c2) l2) (hC : laws_markInodeS.f k2 l2 t = some (r1, r3)) :
    Calls Try.prog 19 #[.agg #[.slice A2 l2.length c2], .int .i64 t] w fun e w' => e = .returned (.int .i64 r1) ∧ Kd.S k61 61 w' w0.heap.size (fun _ => True) (.slice A2 l2.length c2) r3 ∧ Below w0.heap.size w0 w' ∧ BoxesStay 43 w w' := by
  have hu := Try.underlying43
  have HC := Aside0.mk hC
  have HO2 := Aside0.mk ho2
  have HB := Aside0.mk hB
  clear hC ho2 hB
  go_enter Try.func19, Try.ntmps19
  go_wp2_with (first
    | ((with_reducible refine gate_dst (N := 2) rfl ?_); refine box_event ?hg (N := 2) ?hd (cs := #[.slice A2 l2.length c2]) (t := 43) ?hr ?_; (case hd => rfl); (case hg => rfl); (case hr => first | (go_simp; done) | (go_simp; rfl)); intro gb hg w5 hbox hb; have BK := Aside0.mk (hbox); replace HO2 := sb HO2 hb; replace HB := Aside0.mk (below_step (bs HB) hb); have HX := Aside0.mk (show BoxesStay 43 w w5 from fun g cells h => blk_below h hb); clear hb hbox hg; have hcz_0 : w5.cell? ⟨gb, 0, none⟩ = some (.slice A2 l2.length c2) := (blk_cell BK.out 0).trans rfl; have hfz_0 : w5.frozen? ⟨gb, 0, none⟩ = false := blk_frozen BK.out 0)
    | (go_at_call 36; (with_reducible refine (laws_markInodeS.calls k2 ?P1 (.slice A2 l2.length c2) l2 t r1 r3 w0 _ ?s1 ?s2 HC.out).mono ?_); (case s1 => exact bs HB); (case s2 => exact S_typedIn HO2.out); rintro e w7 ⟨rfl, ho, hb, hk⟩; have m2 := Aside0.mk (Kd.S_mono ho (fun _ _ => trivial)); have m3 := Aside0.mk hb; have m4 := Aside0.mk (show BoxesStay 43 w w7 from fun g cells h => (hk.2 g (blk_lt (HX.out g cells h)) (fun hp => typed_no hp (show TypedIn _ [43] g from ⟨_, List.mem_cons_self, _, HX.out g cells h⟩) (by decide))).trans (HX.out g cells h)); clear HX HO2 HB BK hcz_0 hfz_0 ho hb hk))
  go_ret
  exact ⟨by first | rfl | (simp; done) | (simp [*]; done), ss m2.out, bs m3, m4.out⟩
end Go.Proofs.Ytdclpgcmeabmbaa.G
