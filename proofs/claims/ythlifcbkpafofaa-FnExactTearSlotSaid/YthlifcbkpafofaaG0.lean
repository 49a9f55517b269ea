-- Printed by a program of this session (drive.py, by way of the kit's print). Not trusted: Lean checks it.
import Derived.Test.YthlifcbkpafofaaProg
import Derived.Below
import Derived.Deep.Draws
import Derived.Deep.AppendLies
import Derived.Maps.AppendAt
import Derived.OwnWalk
import Derived.Laws.BytesArg
import Derived.Laws.MakeOwn
import Derived.Laws.OwnMore
import Derived.Deep.OwnRows
import Derived.Tactics
import Derived.Lib.ConvBytes
import Derived.Laws.Slices
import Derived.WalkKit
import Derived.KernelRfl
import Derived.RowKit3
import Derived.Deep.LoopGhost
import Derived.Deep.QuietTactic
import Derived.BigQuiet
import Derived.WideLaws
import Derived.Deep.DeepCutAuto
import Derived.Deep.CutBlock
import Derived.Deep.RegionHeld3
import Derived.Laws.Rows
import Derived.Lib.AppendStr
import Derived.ArgAppend
import Derived.Laws.IdiomCopy
import Derived.OrdersHeld
import Derived.Laws.BitsLemmas
import Derived.RowKit
import Derived.Shelf.Abstract
import Derived.Test.YthlifcbkpafofaaWWords
import Derived.Test.YthlifcbkpafofaaWLast
import Derived.Test.YthlifcbkpafofaaWTab
import Derived.Test.YthlifcbkpafofaaWFour
import Derived.Test.YthlifcbkpafofaaWQPut
import Derived.Test.YthlifcbkpafofaaWApart
import Derived.Test.YthlifcbkpafofaaWArr
import Derived.Test.YthlifcbkpafofaaWZeros
import Derived.Test.YthlifcbkpafofaaWFoot
import Derived.Test.YthlifcbkpafofaaWKept
import Derived.Test.YthlifcbkpafofaaWShare
import Derived.Test.YthlifcbkpafofaaWN
import Derived.Test.YthlifcbkpafofaaWFootNe
import Derived.Test.YthlifcbkpafofaaWAt
import Derived.Test.YthlifcbkpafofaaWEqStruct
import Derived.Test.YthlifcbkpafofaaWRepsOne
import Derived.Test.YthlifcbkpafofaaWInv
import Derived.Test.YthlifcbkpafofaaWInvWords
import Derived.Test.YthlifcbkpafofaaWGuard
import Derived.Test.YthlifcbkpafofaaWNEv
import Derived.Test.YthlifcbkpafofaaWMore
namespace Go.Proofs.Ythlifcbkpafofaa.G
open Go.RowKit Go.Proofs.YthlifcbkpafofaaW.PrintWords Go.Proofs.YthlifcbkpafofaaW.PrintLast Go.Proofs.YthlifcbkpafofaaW.PrintMore
attribute [local go_sem] max2_int min2_int max_two min_two max_three min_three max_four min_four   -- for this text's walks alone
set_option linter.unusedVariables false
set_option linter.unusedSimpArgs false


section
variable {P : Program} {ops : Array Oper} {Q : Exit → Act → World → Prop}
theorem gate_value {rest : List Oper} {o : Oper} {a : Act} {W : World} {t : Tmp} {ars : Array Operand} {ts : Array TypeId} (_ho : o.op = .call { callee := .value (.tmp t), args := ars, argTypes := ts }) (h : wpList P ops Q (o :: rest) a W) : wpList P ops Q (o :: rest) a W := h
/-- A call of a function value that a place holds, in a plain region. -/
theorem goesV_ {rest : List Oper} {oi : Oper} {a : Act} {w : World} (N : Option Tmp) (hd : oi.dst = N) (hg : oi.guard = none) {f : FuncId} {fn : Func} {t : Tmp} {lb : Array Value} {ars : Array Operand} {ts : Array TypeId} (hf : P.funcs[f]? = some fn) (hname : (fn.name == "runtime.NumGoroutine") = false) (hb : fn.body.isSome = true) (args : Array Value)
    (hop : oi.op = .call { callee := .value (.tmp t), args := ars, argTypes := ts }) (hv : a.eval (.tmp t) = .func (.func f) #[] lb) (hargs : ars.map a.eval ++ lb = args)
    (h : Calls P f args w fun e w' => ∃ v, e = .returned v ∧ wpList P ops Q rest (a.put N v) w') : wpList P ops Q (oi :: rest) a w := by
  refine wpList_plain hg fun K hK => ?_
  have he := enters_ hf hname hb args w
  have hrun : (execOp a.eval oi).run P w = .ok (.enter f args) w := by
    unfold execOp
    simp [hop, resolve, hv, Deferred.ofValue, invoke, hargs, he]
  unfold Oper.wp
  rw [hrun, Oper.upon_enter]
  refine h.mono fun e w'' hh => ?_
  obtain ⟨v, rfl, hk⟩ := hh
  subst hd
  exact hK _ _ hk
end

/-- W comes of W0 by new blocks, draws, and stores into the blocks of l. -/
class InL (g : Nat) (l : List Nat) : Prop where out : g ∈ l
instance inL_head (g : Nat) (l : List Nat) : InL g (g :: l) := ⟨List.mem_cons_self⟩
instance inL_tail (g h : Nat) (l : List Nat) [i : InL g l] : InL g (h :: l) := ⟨List.mem_cons_of_mem _ i.out⟩
class StL (l : List Nat) (W0 W : World) : Prop where out : ∀ w : World, Below w.heap.size w W0 → (∀ g, g ∈ l → w.heap.size ≤ g) → Below w.heap.size w W
instance stL_refl (l : List Nat) (W : World) : StL l W W := ⟨fun _ h _ => h⟩
instance stL_alloc (l : List Nat) (W0 W : World) (o : Obj) [s : StL l W0 W] : StL l W0 (W.alloc o) := ⟨fun w h k => below_alloc (s.out w h k) o⟩
instance stL_drewN (l : List Nat) (W0 W : World) (n : Nat) [s : StL l W0 W] : StL l W0 (W.drewN n) := ⟨fun w h k => pw_below_drewN (s.out w h k) n⟩
instance stL_drew (l : List Nat) (W0 W : World) [s : StL l W0 W] : StL l W0 W.drew := ⟨fun w h k => below_drew1 (s.out w h k)⟩
instance stL_set (l : List Nat) (W0 W : World) (g : Nat) (j : Nat) (v : Value) [i : InL g l] [s : StL l W0 W] : StL l W0 (W.setCell ⟨g, j, none⟩ v) := ⟨fun w h k => below_set (s.out w h k) (k g i.out)⟩
theorem bs {w W0 W : World} (h : Aside0 (Below w.heap.size w W0)) [s : StL [] W0 W] : Below w.heap.size w W := s.out w h.out (fun _ hg => by cases hg)
theorem bs1 {w W0 W : World} {a : Nat} (h : Aside0 (Below w.heap.size w W0)) (ha : Aside0 (w.heap.size ≤ a)) [s : StL [a] W0 W] : Below w.heap.size w W := s.out w h.out (fun g hg => by rw [List.mem_singleton.1 hg]; exact ha.out)
theorem bs2 {w W0 W : World} {a b : Nat} (h : Aside0 (Below w.heap.size w W0)) (ha : Aside0 (w.heap.size ≤ a)) (hb : Aside0 (w.heap.size ≤ b)) [s : StL [a, b] W0 W] : Below w.heap.size w W := s.out w h.out (fun g hg => by
  rcases List.mem_cons.1 hg with rfl | hg
  · exact ha.out
  · rw [List.mem_singleton.1 hg]; exact hb.out)
theorem bs3 {w W0 W : World} {a b c : Nat} (h : Aside0 (Below w.heap.size w W0)) (ha : Aside0 (w.heap.size ≤ a)) (hb : Aside0 (w.heap.size ≤ b)) (hc : Aside0 (w.heap.size ≤ c)) [s : StL [a, b, c] W0 W] : Below w.heap.size w W := s.out w h.out (fun g hg => by
  rcases List.mem_cons.1 hg with rfl | hg
  · exact ha.out
  · rcases List.mem_cons.1 hg with rfl | hg
    · exact hb.out
    · rw [List.mem_singleton.1 hg]; exact hc.out)
theorem st_below {W0 W : World} [s : StL [] W0 W] : Below W0.heap.size W0 W := s.out W0 (Below.refl _ _) (fun _ hg => by cases hg)
theorem bk {W0 W : World} {g : Nat} {o : Obj} (h : Aside0 (W0.heap[g]? = some o)) [s : StL [] W0 W] : W.heap[g]? = some o := blk_below h.out st_below
theorem rr {α : Type} {d : Kd α} {e : Nat} {W0 W : World} {base : Nat} {ok : Nat → Prop} {v : Value} {xs : List α} (h : d.R e W0 base ok v xs) [s : StL [] W0 W] : d.R e W base ok v xs := Kd.R_below h st_below
theorem cb {α : Type} {d : Kd α} {w W0 W : World} {A : Option Addr} {n : Nat} {l : List α} (h : Aside0 (d.C w A n l)) (hb : Aside0 (Below w.heap.size w W0)) [s : StL [] W0 W] : d.C W A n l := Kd.C_below (Kd.C_below h.out hb.out) st_below



def errW : Option Int → Value
  | none => .nilIface
  | some c => .iface 0 (.int .i64 c)
theorem errW_none : errW none = .nilIface := rfl
theorem errW_some (c : Int) : errW (some c) = .iface 0 (.int .i64 c) := rfl

-- the values' own types
/-! #### struct type 23 -/
structure S23 where
  f0 : Int
  f1 : Int
  f2 : ByteArray
  f3 : Int
def z23 : S23 := ⟨(0 : Int), (0 : Int), (⟨#[]⟩ : ByteArray), (0 : Int)⟩
def k23 : Kd S23 := Kd.iso (Kd.pair (Kd.int .i64) (Kd.pair (Kd.int .i64) (Kd.pair Kd.string (Kd.int .i64)))) (fun x : S23 => (x.f0, x.f1, x.f2, x.f3))
theorem k23_open {w : World} {x : S23} {cs : List Value} (h : k23.K w x cs) : cs = [.int .i64 x.f0, .int .i64 x.f1, .string x.f2, .int .i64 x.f3] := by
  obtain ⟨_, _, rfl, rfl, ⟨_, _, rfl, rfl, ⟨_, _, rfl, rfl, rfl⟩⟩⟩ := h
  exact rfl
theorem k23_openM {w : World} {base : Nat} {ok : Nat → Prop} {x : S23} {cs : List Value} (h : k23.M w base ok x cs) : cs = [.int .i64 x.f0, .int .i64 x.f1, .string x.f2, .int .i64 x.f3] := by
  obtain ⟨_, _, rfl, rfl, ⟨_, _, rfl, rfl, ⟨_, _, rfl, rfl, rfl⟩⟩⟩ := h
  exact rfl
theorem k23_mk (w : World) (x : S23)  : k23.K w x [.int .i64 x.f0, .int .i64 x.f1, .string x.f2, .int .i64 x.f3] := ⟨[.int .i64 x.f0], [.int .i64 x.f1, .string x.f2, .int .i64 x.f3], rfl, rfl, ⟨[.int .i64 x.f1], [.string x.f2, .int .i64 x.f3], rfl, rfl, ⟨[.string x.f2], [.int .i64 x.f3], rfl, rfl, rfl⟩⟩⟩
theorem k23_mkM (w : World) (base : Nat) (ok : Nat → Prop) (x : S23)  : k23.M w base ok x [.int .i64 x.f0, .int .i64 x.f1, .string x.f2, .int .i64 x.f3] := ⟨[.int .i64 x.f0], [.int .i64 x.f1, .string x.f2, .int .i64 x.f3], rfl, rfl, ⟨[.int .i64 x.f1], [.string x.f2, .int .i64 x.f3], rfl, rfl, ⟨[.string x.f2], [.int .i64 x.f3], rfl, rfl, rfl⟩⟩⟩
def rd_T23 (xs : List S23) (i : Int) : S23 := xs.getD i.toNat z23
theorem at_T23 {w : World} {A : Option Addr} {n : Nat} {xs : List S23} (h : Kd.C k23 w A n xs) (i : Int) (h0 : 0 ≤ i) (h1 : i < n) : ∃ ad , A = some ad ∧ w.cell? (ad.add (i.toNat * 4)) = some (.int .i64 (rd_T23 xs i).f0) ∧ w.cell? ⟨(ad.add (i.toNat * 4)).block, (ad.add (i.toNat * 4)).off + 1, none⟩ = some (.int .i64 (rd_T23 xs i).f1) ∧ w.cell? ⟨(ad.add (i.toNat * 4)).block, (ad.add (i.toNat * 4)).off + 2, none⟩ = some (.string (rd_T23 xs i).f2) ∧ w.cell? ⟨(ad.add (i.toNat * 4)).block, (ad.add (i.toNat * 4)).off + 3, none⟩ = some (.int .i64 (rd_T23 xs i).f3) := by
  obtain ⟨ad, c, e, _, hK, hc0⟩ := Kd.C_get h z23 i h0 h1
  have hc : ∀ j u, c[j]? = some u → w.cell? (ad.add (i.toNat * 4 + j)) = some u := hc0
  obtain rfl := k23_open hK
  exact ⟨ad, e, hc 0 _ rfl, by rw [← add_field _ _ 1 (by omega)]; exact hc 1 _ rfl, by rw [← add_field _ _ 2 (by omega)]; exact hc 2 _ rfl, by rw [← add_field _ _ 3 (by omega)]; exact hc 3 _ rfl⟩

noncomputable instance : DecidableEq S23 := fun _ _ => Classical.propDecidable _
def ok23 (x : S23) : Prop := (Lit.int .i64 x.f0).wf = true ∧ (Lit.int .i64 x.f1).wf = true ∧ x.f2.size ≤ maxLen ∧ (Lit.int .i64 x.f3).wf = true
end Go.Proofs.Ythlifcbkpafofaa.G
