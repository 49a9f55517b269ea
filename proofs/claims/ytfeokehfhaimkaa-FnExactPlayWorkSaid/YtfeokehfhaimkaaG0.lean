-- Printed by a program of this session (drive.py, by way of the kit's print). Not trusted: Lean checks it.
import Derived.Test.YtfeokehfhaimkaaProg
import Derived.Test.YtfeokehfhaimkaaExt
import Derived.Test.YtfeokehfhaimkaaExt2
import Derived.Test.YtfeokehfhaimkaaClear
import Derived.Test.YtfeokehfhaimkaaSortRow
import Derived.Test.YtfeokehfhaimkaaSortLay
import Derived.Below
import Derived.Deep.Draws
import Derived.Deep.AppendLies
import Derived.Maps.AppendAt
import Derived.OwnWalk
import Derived.Laws.BytesArg
import Derived.Laws.MakeOwn
import Derived.Laws.OwnMore
import Derived.Deep.OwnRows
import Derived.Tactics
import Derived.Lib.ConvBytes
import Derived.Laws.Slices
import Derived.WalkKit
import Derived.KernelRfl
import Derived.RowKit3
import Derived.Deep.LoopGhost
import Derived.Deep.QuietTactic
import Derived.BigQuiet
import Derived.WideLaws
import Derived.Deep.DeepCutAuto
import Derived.Deep.CutBlock
import Derived.Deep.RegionHeld3
import Derived.Laws.Rows
import Derived.Lib.AppendStr
import Derived.ArgAppend
import Derived.Laws.IdiomCopy
import Derived.OrdersHeld
import Derived.Laws.BitsLemmas
import Derived.RowKit
import Derived.Shelf.Abstract
import Derived.Test.YtfeokehfhaimkaaWWords
open Classical renaming propDecidable→aaR
open Go.Region renaming wanted→aac,Mode→aaA
open Go.RowKit.Below renaming refl→Ud
open List renaming setIfInBounds_toArray→Ok,set_cons_zero→bD,set_cons_succ→ck,mem_singleton→aap,mem_cons→abu
open Nat renaming add_zero→dH,mul_one→fl,lt_of_lt_of_le→kY,le_trans→aav
namespace Go.Proofs.Ytfeokehfhaimkaa.G
open Go.RowKit Go.Proofs.YtfeokehfhaimkaaW.PrintWords Go.Proofs.YtfeokehfhaimkaaW.PrintLast Go.Proofs.YtfeokehfhaimkaaW.PrintMore
attribute [local go_sem] zO zP zX zY zE zG zQ zR
set_option linter.unusedVariables false
set_option linter.unusedSimpArgs false
section
variable {P : Program} {ops : Array Oper} {Q : Exit → Act → World → Prop}
theorem QR {rest:List Oper}{o:Oper}{a:Act}{W:World}{t:Tmp}{ars:Array Operand}{ts:Array TypeId}(_ho:o.op= .call {callee:= .value (.tmp t),args:=ars,argTypes:=ts})(h:wpList P ops Q (o::rest) a W):wpList P ops Q (o::rest) a W:=h
theorem SM {rest:List Oper}{oi:Oper}{a:Act}{w:World}(N:Option Tmp)(hd:oi.dst=N)(hg:oi.guard=none){f:FuncId}{fn:Func}{t:Tmp}{lb:Array Value}{ars:Array Operand}{ts:Array TypeId}(hf:P.funcs[f]?=some fn)(hname:(fn.name== "runtime.NumGoroutine")=false)(hb:fn.body.isSome=true)(args:Array Value)
 (hop:oi.op= .call {callee:= .value (.tmp t),args:=ars,argTypes:=ts})(hv:a.eval (.tmp t)= .func (.func f) #[] lb)(hargs:ars.map a.eval++lb=args)
 (h:Calls P f args w fun e w'=>∃v,e= .returned v∧wpList P ops Q rest (a.put N v) w'):wpList P ops Q (oi::rest) a w:=by
 refine wpList_plain hg fun K hK=> ?_
 have he:=Qp hf hname hb args w
 have hrun:(execOp a.eval oi).run P w= .ok (.enter f args) w:=by
  unfold execOp
  simp[hop,resolve,hv,Deferred.ofValue,invoke,hargs,he]
 unfold Oper.wp;rw[hrun,Oper.upon_enter]
 refine h.mono fun e w'' hh=> ?_
 obtain⟨v,rfl,hk⟩:=hh;subst hd;exact hK _ _ hk
end
class UM(g:Nat)(l:List Nat):Prop where out:g∈l
instance inL_head(g:Nat)(l:List Nat):UM g (g::l):=⟨List.mem_cons_self⟩
instance inL_tail(g h:Nat)(l:List Nat)[i:UM g l]:UM g (h::l):=⟨List.mem_cons_of_mem _ i.out⟩
class jE(l:List Nat)(W0 W:World):Prop where out:∀w:World,Below w.heap.size w W0→(∀g,g∈l→w.heap.size≤g)→Below w.heap.size w W
instance stL_refl(l:List Nat)(W:World):jE l W W:=⟨fun _ h _=>h⟩
instance stL_alloc(l:List Nat)(W0 W:World)(o:Obj)[s:jE l W0 W]:jE l W0 (W.alloc o):=⟨fun w h k=>mr (s.out w h k) o⟩
instance stL_drewN(l:List Nat)(W0 W:World)(n:Nat)[s:jE l W0 W]:jE l W0 (W.drewN n):=⟨fun w h k=>qS (s.out w h k) n⟩
instance stL_drew(l:List Nat)(W0 W:World)[s:jE l W0 W]:jE l W0 W.drew:=⟨fun w h k=>j7 (s.out w h k)⟩
instance stL_set(l:List Nat)(W0 W:World)(g:Nat)(j:Nat)(v:Value)[i:UM g l][s:jE l W0 W]:jE l W0 (W.setCell ⟨g,j,none⟩ v):=⟨fun w h k=>fJ (s.out w h k) (k g i.out)⟩
theorem bs {w W0 W:World}(h:Z (Below w.heap.size w W0))[s:jE [] W0 W]:Below w.heap.size w W:=s.out w h.out (fun _ hg=>by cases hg)
theorem aM {w W0 W:World}{a:Nat}(h:Z (Below w.heap.size w W0))(ha:Z (w.heap.size≤a))[s:jE [a] W0 W]:Below w.heap.size w W:=s.out w h.out (fun g hg=>by rw[aap.1 hg];exact ha.out)
theorem am {w W0 W:World}{a b:Nat}(h:Z (Below w.heap.size w W0))(ha:Z (w.heap.size≤a))(hb:Z (w.heap.size≤b))[s:jE [a,b] W0 W]:Below w.heap.size w W:=s.out w h.out (fun g hg=>by
 rcases abu.1 hg with rfl|hg
 ·exact ha.out
 ·rw[aap.1 hg];exact hb.out)
theorem aw {w W0 W:World}{a b c:Nat}(h:Z (Below w.heap.size w W0))(ha:Z (w.heap.size≤a))(hb:Z (w.heap.size≤b))(hc:Z (w.heap.size≤c))[s:jE [a,b,c] W0 W]:Below w.heap.size w W:=s.out w h.out (fun g hg=>by
 rcases abu.1 hg with rfl|hg
 ·exact ha.out
 ·rcases abu.1 hg with rfl|hg
  ·exact hb.out
  ·rw[aap.1 hg];exact hc.out)
theorem Vj {W0 W:World}[s:jE [] W0 W]:Below W0.heap.size W0 W:=s.out W0 (Ud _ _) (fun _ hg=>by cases hg)
theorem bk {W0 W:World}{g:Nat}{o:Obj}(h:Z (W0.heap[g]?=some o))[s:jE [] W0 W]:W.heap[g]?=some o:=bT h.out Vj
theorem rr {α:Type}{d:Kd α}{e:Nat}{W0 W:World}{base:Nat}{ok:Nat→Prop}{v:Value}{xs:List α}(h:d.R e W0 base ok v xs)[s:jE [] W0 W]:d.R e W base ok v xs:=Kd.b9 h Vj
theorem cb {α:Type}{d:Kd α}{w W0 W:World}{A:Option Addr}{n:Nat}{l:List α}(h:Z (d.C w A n l))(hb:Z (Below w.heap.size w W0))[s:jE [] W0 W]:d.C W A n l:=Kd.iV (Kd.iV h.out hb.out) Vj
theorem Sc {w W0 W:World}{l:List Nat}(h:Z (Below w.heap.size w W0))(hl:∀g,g∈l→w.heap.size≤g)[s:jE l W0 W]:Below w.heap.size w W:=s.out w h.out hl
theorem SN {w:World}:∀g,g∈([]:List Nat)→w.heap.size≤g:=fun _ h=>by cases h
theorem ms {w:World}{a:Nat}{l:List Nat}(ha:Z (w.heap.size≤a))(h:∀g,g∈l→w.heap.size≤g):∀g,g∈a::l→w.heap.size≤g:=fun g hg=>by
 rcases abu.1 hg with rfl|hg
 ·exact ha.out
 ·exact h g hg
theorem bq {w W0 W:World}{a b c d:Nat}(h:Z (Below w.heap.size w W0))(ha:Z (w.heap.size≤a))(hb:Z (w.heap.size≤b))(hc:Z (w.heap.size≤c))(hd:Z (w.heap.size≤d))[s:jE [a,b,c,d] W0 W]:Below w.heap.size w W:=Sc h (ms ha (ms hb (ms hc (ms hd SN))))
theorem xX {w W0 W:World}{a b c d e:Nat}(h:Z (Below w.heap.size w W0))(ha:Z (w.heap.size≤a))(hb:Z (w.heap.size≤b))(hc:Z (w.heap.size≤c))(hd:Z (w.heap.size≤d))(he:Z (w.heap.size≤e))[s:jE [a,b,c,d,e] W0 W]:Below w.heap.size w W:=Sc h (ms ha (ms hb (ms hc (ms hd (ms he SN)))))
theorem bs6 {w W0 W:World}{a b c d e f:Nat}(h:Z (Below w.heap.size w W0))(ha:Z (w.heap.size≤a))(hb:Z (w.heap.size≤b))(hc:Z (w.heap.size≤c))(hd:Z (w.heap.size≤d))(he:Z (w.heap.size≤e))(hf:Z (w.heap.size≤f))[s:jE [a,b,c,d,e,f] W0 W]:Below w.heap.size w W:=Sc h (ms ha (ms hb (ms hc (ms hd (ms he (ms hf SN))))))
theorem bs7 {w W0 W:World}{a b c d e f g:Nat}(h:Z (Below w.heap.size w W0))(ha:Z (w.heap.size≤a))(hb:Z (w.heap.size≤b))(hc:Z (w.heap.size≤c))(hd:Z (w.heap.size≤d))(he:Z (w.heap.size≤e))(hf:Z (w.heap.size≤f))(hg:Z (w.heap.size≤g))[s:jE [a,b,c,d,e,f,g] W0 W]:Below w.heap.size w W:=Sc h (ms ha (ms hb (ms hc (ms hd (ms he (ms hf (ms hg SN)))))))
section
variable {P : Program} {ops : Array Oper} {Q : Exit → Act → World → Prop} {md : aaA} {S : World → Prop} {ds : List Nat} {T : Bool × List (List Nat × List Nat)}
theorem b6(i:Nat)(N:Tmp)(hT:i5 md ops=T){oi:Oper}{v:Value}{fuel:Nat}{l l':Array Bool}{a a':Act}{w:World}
 (h:en P md ops Q S ds fuel l' a' w)(hi:ops[i]?=some oi:=by exact rfl)(hN:oi.dst=some N:=by exact rfl)
 (hl:l.setIfInBounds i true=l':=by simp only[List.setIfInBounds_toArray,List.set_cons_zero,List.set_cons_succ];rfl)
 (hc:Tk T l.toList l'.toList i=true:=by kernel_rfl)(hQ:∀c a w,Q (.panic c) (a.put oi.dst v) w→Q (.panic c) a w:=by exact fun _ _ _ h=>h)
 (hw:Region.wanted oi (yielded ops a.tmps)=true:=by rfl)(hr:∀w,(execOp a.eval oi).run P w= .ok (.value v) w:=by intro w';go_simp;with_reducible rfl)
 (ha:a.put (some N) v=a':=by simp only[Act.put,List.setIfInBounds_toArray,List.set_cons_zero,List.set_cons_succ,kP,nE];rfl):en P md ops Q S ds (fuel+1) l a w:=
 AK l' hi hN (any_of hT hc) hQ (Or.inl ⟨hw,hr⟩) ha h
theorem cK(i:Nat)(N:Tmp)(hT:i5 md ops=T){oi:Oper}{fuel:Nat}{l l':Array Bool}{a a':Act}{w:World}
 (h:en P md ops Q S ds fuel l' a' w)(hi:ops[i]?=some oi:=by exact rfl)(hN:oi.dst=some N:=by exact rfl)
 (hl:l.setIfInBounds i true=l':=by simp only[List.setIfInBounds_toArray,List.set_cons_zero,List.set_cons_succ];rfl)
 (hc:Tk T l.toList l'.toList i=true:=by kernel_rfl)(hQ:∀c a w,Q (.panic c) (a.put oi.dst undef) w→Q (.panic c) a w:=by exact fun _ _ _ h=>h)
 (hw:Region.wanted oi (yielded ops a.tmps)=false:=by rfl)
 (ha:a.put (some N) undef=a':=by simp only[Act.put,List.setIfInBounds_toArray,List.set_cons_zero,List.set_cons_succ,kP,nE];rfl):en P md ops Q S ds (fuel+1) l a w:=
 AK l' hi hN (any_of hT hc) hQ (Or.inr ⟨hw,rfl⟩) ha h
theorem dv(i:Nat)(N:Tmp)(hT:i5 md ops=T){B:List Nat}(hB:pm T.2 B=true){oi:Oper}{v:Value}{fuel:Nat}{l l':Array Bool}{a a':Act}{w:World}(hS:S w)
 (hi:ops[i]?=some oi:=by exact rfl)(hN:oi.dst=some N:=by exact rfl)
 (hl:l.setIfInBounds i true=l':=by simp only[List.setIfInBounds_toArray,List.set_cons_zero,List.set_cons_succ];rfl)
 (hc:YE T B ds l.toList l'.toList i=true:=by kernel_rfl)(hw:Region.wanted oi (yielded ops a.tmps)=true:=by rfl)
 (hr:∀w,S w→(execOp a.eval oi).run P w= .ok (.value v) w)(hQ:∀c a w,Q (.panic c) (a.put oi.dst v) w→Q (.panic c) a w:=by exact fun _ _ _ h=>h)
 (ha:a.put (some N) v=a':=by simp only[Act.put,List.setIfInBounds_toArray,List.set_cons_zero,List.set_cons_succ,kP,nE];rfl)(h:en P md ops Q S ds fuel l' a' w):en P md ops Q S ds (fuel+1) l a w:=
 Ec l' hi hN (take_ofW hT hB hc) hQ (Or.inl ⟨hw,hr⟩) hS ha h
end
class xY(W0 W:World):Prop where out:W0.heap.size≤W.heap.size
instance szL_refl(W:World):xY W W:=⟨Nat.le_refl _⟩
instance szL_alloc(W0 W:World)(o:Obj)[s:xY W0 W]:xY W0 (W.alloc o):=⟨aav s.out (mr (Ud _ _) o).size⟩
instance szL_drewN(W0 W:World)(n:Nat)[s:xY W0 W]:xY W0 (W.drewN n):=⟨aav s.out (qS (Ud 0 _) n).size⟩
instance szL_drew(W0 W:World)[s:xY W0 W]:xY W0 W.drew:=⟨aav s.out (Jg (Ud 0 _)).size⟩
instance szL_set(W0 W:World)(p:Addr)(v:Value)[s:xY W0 W]:xY W0 (W.setCell p v):=⟨by simpa[World.setCell]using s.out⟩
theorem bnz {W0 W:World}{g q:Nat}{o:Obj}(h:Z (W0.heap[g]?=some o))(hq:q=W.heap.size)[s:xY W0 W]:g≠q:=Nat.ne_of_lt (by rw[hq];exact kY (pP h.out) s.out)
theorem bmz {W0 W:World}{g q:Nat}{o:Obj}(h:Z (W0.heap[g]?=some o))(hq:q=W.heap.size)[s:xY W0 W]:q≠g:=Ne.symm (bnz h hq)
class qh(g:Nat)(W0 W:World):Prop where out:W0.heap.size≤W.heap.size∧∀k,k≠g→k<W0.heap.size→W.heap[k]?=W0.heap[k]?
theorem Up {g:Nat}{W0 W W1:World}(s:qh g W0 W)(h:Below W.heap.size W W1):qh g W0 W1:=⟨⟨aav s.out.1 h.size,fun k hk hl=>(h.block k (kY hl s.out.1)).trans (s.out.2 k hk hl)⟩⟩
instance farL_refl(g:Nat)(W:World):qh g W W:=⟨⟨Nat.le_refl _,fun _ _ _=>rfl⟩⟩
instance farL_alloc(g:Nat)(W0 W:World)(o:Obj)[s:qh g W0 W]:qh g W0 (W.alloc o):=Up s (mr (Ud _ _) o)
instance farL_drewN(g:Nat)(W0 W:World)(n:Nat)[s:qh g W0 W]:qh g W0 (W.drewN n):=Up s (qS (Ud _ _) n)
instance farL_drew(g:Nat)(W0 W:World)[s:qh g W0 W]:qh g W0 W.drew:=Up s (Jg (Ud _ _))
instance farL_set(g:Nat)(W0 W:World)(j:Nat)(v:Value)[s:qh g W0 W]:qh g W0 (W.setCell ⟨g,j,none⟩ v):=⟨⟨by simpa[World.setCell]using s.out.1,fun k hk hl=>(Below.heap_setCell W ⟨g,j,none⟩ v k hk).trans (s.out.2 k hk hl)⟩⟩
theorem rf {α:Type}{d:Kd α}{e:Nat}{W0 W:World}{base:Nat}{ok:Nat→Prop}{v:Value}{xs:List α}{g t:Nat}{cells:Array Value}(h:Z (d.R e W0 base ok v xs))(b:Z (W0.heap[g]?=some (.cells cells t (0,0))))(ht:∀q,q∈e::d.E→q≠t:=by decide)[s:qh g W0 W]:d.R e W base ok v xs:=Kd.ax (Kd.EW (Kd.dU h.out b.out ht) (fun k hk hl=>s.out.2 k hk.2 hl)) (fun _ h=>h.1)
theorem rc {α:Type}{d:Kd α}{e:Nat}{W0 W:World}{base:Nat}{ok:Nat→Prop}{A:Option Addr}{n c:Nat}{xs:List α}{g t:Nat}{cells:Array Value}(h:Z (d.R e W0 base ok (.slice A n c) xs))(b:Z (W0.heap[g]?=some (.cells cells t (0,0))))(ht:∀q,q∈e::d.E→q≠t:=by decide)[s:qh g W0 W]:d.C W A xs.length xs:=(Kd.aY (rf h b ht)).2.2
theorem jF {α:Type}{d:Kd α}{e:Nat}{W0 W:World}{base:Nat}{ok:Nat→Prop}{A:Option Addr}{n c:Nat}{xs:List α}(h:Z (d.R e W0 base ok (.slice A n c) xs))[s:jE [] W0 W]:d.C W A xs.length xs:=(Kd.aY (rr h.out)).2.2
theorem bf {W0 W:World}{g g':Nat}{o:Obj}(h:Z (W0.heap[g]?=some o))(hn:Z (g≠g'))[s:qh g' W0 W]:W.heap[g]?=some o:=(s.out.2 g hn.out (pP h.out)).trans h.out
theorem bb {W0 W W1:World}{g:Nat}{o:Obj}(h:Z (W0.heap[g]?=some o))(hb:Below W.heap.size W W1)[s:jE [] W0 W]:W1.heap[g]?=some o:=bT (bk h) hb
theorem bn {W0 W:World}{g q:Nat}{o:Obj}(h:Z (W0.heap[g]?=some o))(hq:q=W.heap.size)[s:jE [] W0 W]:g≠q:=by
 rw[hq];exact Nat.ne_of_lt (pP (bk h))
theorem bm {W0 W:World}{g q:Nat}{o:Obj}(h:Z (W0.heap[g]?=some o))(hq:q=W.heap.size)[s:jE [] W0 W]:q≠g:=Ne.symm (bn h hq)
theorem cz1 {w:World}{g:Nat}{t:TypeId}{a0:Value}(h:Z (w.heap[g]?=some (.cells #[a0] t (0,0)))):w.cell? ⟨g,0,none⟩=some a0:=(aE h.out 0).trans rfl
theorem UN {w:World}{g:Nat}{t:TypeId}{a0:Value}(h:Z (w.heap[g]?=some (.cells #[a0] t (0,0)))):w.frozen? ⟨g,0,none⟩=false:=fE h.out 0
theorem cg {w:World}{g:Nat}{t:TypeId}{a0 a1:Value}(h:Z (w.heap[g]?=some (.cells #[a0,a1] t (0,0)))):w.cell? ⟨g,0,none⟩=some a0∧w.cell? ⟨g,1,none⟩=some a1:=⟨(aE h.out 0).trans rfl,(aE h.out 1).trans rfl⟩
theorem ch {w:World}{g:Nat}{t:TypeId}{a0 a1:Value}(h:Z (w.heap[g]?=some (.cells #[a0,a1] t (0,0)))):w.frozen? ⟨g,0,none⟩=false∧w.frozen? ⟨g,1,none⟩=false:=⟨fE h.out 0,fE h.out 1⟩
theorem dE {w:World}{g:Nat}{t:TypeId}{a0 a1 a2:Value}(h:Z (w.heap[g]?=some (.cells #[a0,a1,a2] t (0,0)))):w.cell? ⟨g,0,none⟩=some a0∧w.cell? ⟨g,1,none⟩=some a1∧w.cell? ⟨g,2,none⟩=some a2:=⟨(aE h.out 0).trans rfl,(aE h.out 1).trans rfl,(aE h.out 2).trans rfl⟩
theorem dF {w:World}{g:Nat}{t:TypeId}{a0 a1 a2:Value}(h:Z (w.heap[g]?=some (.cells #[a0,a1,a2] t (0,0)))):w.frozen? ⟨g,0,none⟩=false∧w.frozen? ⟨g,1,none⟩=false∧w.frozen? ⟨g,2,none⟩=false:=⟨fE h.out 0,fE h.out 1,fE h.out 2⟩
theorem cz4 {w:World}{g:Nat}{t:TypeId}{a0 a1 a2 a3:Value}(h:Z (w.heap[g]?=some (.cells #[a0,a1,a2,a3] t (0,0)))):w.cell? ⟨g,0,none⟩=some a0∧w.cell? ⟨g,1,none⟩=some a1∧w.cell? ⟨g,2,none⟩=some a2∧w.cell? ⟨g,3,none⟩=some a3:=⟨(aE h.out 0).trans rfl,(aE h.out 1).trans rfl,(aE h.out 2).trans rfl,(aE h.out 3).trans rfl⟩
theorem fz4 {w:World}{g:Nat}{t:TypeId}{a0 a1 a2 a3:Value}(h:Z (w.heap[g]?=some (.cells #[a0,a1,a2,a3] t (0,0)))):w.frozen? ⟨g,0,none⟩=false∧w.frozen? ⟨g,1,none⟩=false∧w.frozen? ⟨g,2,none⟩=false∧w.frozen? ⟨g,3,none⟩=false:=⟨fE h.out 0,fE h.out 1,fE h.out 2,fE h.out 3⟩
theorem aj {w:World}{g:Nat}{t:TypeId}{a0 a1 a2 a3 a4:Value}(h:Z (w.heap[g]?=some (.cells #[a0,a1,a2,a3,a4] t (0,0)))):w.cell? ⟨g,0,none⟩=some a0∧w.cell? ⟨g,1,none⟩=some a1∧w.cell? ⟨g,2,none⟩=some a2∧w.cell? ⟨g,3,none⟩=some a3∧w.cell? ⟨g,4,none⟩=some a4:=⟨(aE h.out 0).trans rfl,(aE h.out 1).trans rfl,(aE h.out 2).trans rfl,(aE h.out 3).trans rfl,(aE h.out 4).trans rfl⟩
theorem ai {w:World}{g:Nat}{t:TypeId}{a0 a1 a2 a3 a4:Value}(h:Z (w.heap[g]?=some (.cells #[a0,a1,a2,a3,a4] t (0,0)))):w.frozen? ⟨g,0,none⟩=false∧w.frozen? ⟨g,1,none⟩=false∧w.frozen? ⟨g,2,none⟩=false∧w.frozen? ⟨g,3,none⟩=false∧w.frozen? ⟨g,4,none⟩=false:=⟨fE h.out 0,fE h.out 1,fE h.out 2,fE h.out 3,fE h.out 4⟩
theorem cz6 {w:World}{g:Nat}{t:TypeId}{a0 a1 a2 a3 a4 a5:Value}(h:Z (w.heap[g]?=some (.cells #[a0,a1,a2,a3,a4,a5] t (0,0)))):w.cell? ⟨g,0,none⟩=some a0∧w.cell? ⟨g,1,none⟩=some a1∧w.cell? ⟨g,2,none⟩=some a2∧w.cell? ⟨g,3,none⟩=some a3∧w.cell? ⟨g,4,none⟩=some a4∧w.cell? ⟨g,5,none⟩=some a5:=⟨(aE h.out 0).trans rfl,(aE h.out 1).trans rfl,(aE h.out 2).trans rfl,(aE h.out 3).trans rfl,(aE h.out 4).trans rfl,(aE h.out 5).trans rfl⟩
theorem fz6 {w:World}{g:Nat}{t:TypeId}{a0 a1 a2 a3 a4 a5:Value}(h:Z (w.heap[g]?=some (.cells #[a0,a1,a2,a3,a4,a5] t (0,0)))):w.frozen? ⟨g,0,none⟩=false∧w.frozen? ⟨g,1,none⟩=false∧w.frozen? ⟨g,2,none⟩=false∧w.frozen? ⟨g,3,none⟩=false∧w.frozen? ⟨g,4,none⟩=false∧w.frozen? ⟨g,5,none⟩=false:=⟨fE h.out 0,fE h.out 1,fE h.out 2,fE h.out 3,fE h.out 4,fE h.out 5⟩
theorem gL {P:Program}{ops:Array Oper}{Q:Exit→Act→World→Prop}{rest:List Oper}{oi:Oper}{a:Act}{w:World}(N:Option Tmp)(hd:oi.dst=N)(hg:oi.guard=none){f:FuncId}{fn:Func}{oa:Array Operand}{ts:Array TypeId}(hf:P.funcs[f]?=some fn)(hname:(fn.name== "runtime.NumGoroutine")=false)(hb:fn.body.isSome=true)(args:Array Value)
 (hop:oi.op= .call {callee:= .value (.func f),args:=oa,argTypes:=ts})
 (h:Calls P f args w fun e w'=>∃v,e= .returned v∧wpList P ops Q rest (a.put N v) w')(hargs:oa.map a.eval=args:=by(try simp only[List.map_toArray,List.map_cons,List.map_nil]);first|done|rfl|(simp only[List.length_drop,List.length_take];rfl)):wpList P ops Q (oi::rest) a w:=goesL_ N hd hg hf hname hb args hop hargs h
theorem nr {α:Type}{d:Kd α}{e:Nat}{W0 W W1:World}{base:Nat}{ok:Nat→Prop}{v:Value}{xs:List α}(h:Z (d.R e W0 base ok v xs))(hb:Below W.heap.size W W1)[s:jE [] W0 W]:Z (d.R e W1 base ok v xs):=⟨Kd.b9 (rr h.out) hb⟩
theorem nf {α:Type}{d:Kd α}{e:Nat}{W0 W W1:World}{base:Nat}{ok:Nat→Prop}{v:Value}{xs:List α}{g t:Nat}{cells:Array Value}(h:Z (d.R e W0 base ok v xs))(b:Z (W0.heap[g]?=some (.cells cells t (0,0))))(hb:Below W.heap.size W W1)(ht:∀q,q∈e::d.E→q≠t:=by decide)[s:qh g W0 W]:Z (d.R e W1 base ok v xs):=⟨Kd.b9 (rf h b ht) hb⟩
theorem nb {W0 W W1:World}{g:Nat}{o:Obj}(h:Z (W0.heap[g]?=some o))(hb:Below W.heap.size W W1)[s:jE [] W0 W]:Z (W1.heap[g]?=some o):=⟨bb h hb⟩
theorem cbn {α:Type}{d:Kd α}{w W0 W:World}{A:Option Addr}{n m:Nat}{l:List α}(h:Z (d.C w A n l))(hb:Z (Below w.heap.size w W0))(hn:n=m)[s:jE [] W0 W]:d.C W A m l:=hn▸cb h hb
theorem rm {α:Type}{d:Kd α}{e:Nat}{W0 W:World}{base:Nat}{ok ok':Nat→Prop}{v:Value}{xs:List α}(h:Z (d.R e W0 base ok v xs))(k:∀n,ok n→ok' n)[s:jE [] W0 W]:Z (d.R e W base ok' v xs):=⟨Kd.ax (rr h.out) k⟩
theorem Ah {p:Prop}(h:p):Z p:=⟨h⟩
theorem od {p:Prop}[Decidable p](h:decide p=true:=by first|(with_reducible assumption)|assumption):p:=of_decide_eq_true h
theorem dr:¬(false=true):=by decide
theorem e3 {p:Prop}(h:p:=by first|rfl|(simp;done)|(simp[*];done)):p:=h
theorem gw {w W:World}{g:Nat}(hg:g=W.heap.size)(h:Below w.heap.size w W):Z (w.heap.size≤g):=⟨by rw[hg];exact bE h⟩
theorem nn {W0 W:World}{g q:Nat}{o:Obj}(h:Z (W0.heap[g]?=some o))(hq:q=W.heap.size)[s:jE [] W0 W]:Z (g≠q):=⟨bn h hq⟩
class yj(g t:Nat)(cs:Array Value)(cs':outParam (Array Value))(W0 W:World):Prop where out:W0.heap[g]?=some (.cells cs t (0,0))→W.heap[g]?=some (.cells cs' t (0,0))
instance putL_refl(g t:Nat)(cs:Array Value)(W:World):yj g t cs cs W W:=⟨fun h=>h⟩
instance putL_alloc(g t:Nat)(cs cs':Array Value)(W0 W:World)(o:Obj)[s:yj g t cs cs' W0 W]:yj g t cs cs' W0 (W.alloc o):=⟨fun h=>ew (s.out h) o⟩
instance putL_drewN(g t:Nat)(cs cs':Array Value)(W0 W:World)(n:Nat)[s:yj g t cs cs' W0 W]:yj g t cs cs' W0 (W.drewN n):=⟨fun h=>ex (s.out h) n⟩
instance putL_drew(g t:Nat)(cs cs':Array Value)(W0 W:World)[s:yj g t cs cs' W0 W]:yj g t cs cs' W0 W.drew:=⟨fun h=>cY (s.out h)⟩
instance putL_set(g t:Nat)(cs cs':Array Value)(W0 W:World)(j:Nat)(v:Value)[s:yj g t cs cs' W0 W]:yj g t cs (cs'.setIfInBounds j v) W0 (W.setCell ⟨g,j,none⟩ v):=⟨fun h=>zV (s.out h) j v rfl⟩
theorem pb {g t:Nat}{cs cs' cs2:Array Value}{W0 W:World}(h:Z (W0.heap[g]?=some (.cells cs t (0,0))))[s:yj g t cs cs' W0 W](e:cs'=cs2:=by rfl):W.heap[g]?=some (.cells cs2 t (0,0)):=e▸s.out h.out
theorem hc {B:Nat}{w W:World}{p:Addr}{v:Value}(HB:Z (Below B w W))(h:w.cell? p=some v)(hl:p.block<B:=by exact World.block_lt_of_cell? _ _ (by assumption)):W.cell? p=some v:=(HB.out.cell hl).trans h
theorem an {P:Program}{ops:Array Oper}{Q:Exit→Act→World→Prop}{rest:List Oper}{o:Oper}{a:Act}{W:World}(N:Tmp)(t:TypeId)(cs:Array Value)
 (h:∀g,g=W.heap.size→∀w1,Z (w1.heap[g]?=some (.cells cs t (0,0)))→Below W.heap.size W w1→wpList P ops Q rest (a.put o.dst (.pointer (some ⟨g,0,none⟩))) w1)
 (hgd:o.guard=none:=by rfl)(hd:o.dst=some N:=by rfl)(hrun:(execOp a.eval o).run P W= .ok (.value (.pointer (some ⟨W.heap.size,0,none⟩))) (W.alloc (.cells cs t (0,0))):=by first|(go_simp;done)|(go_simp;rfl)):wpList P ops Q (o::rest) a W:=
 box_event hgd hd hrun (fun g hg w1 hb hB=>h g hg w1 ⟨hb⟩ hB)
theorem nm {W0 W:World}{g q:Nat}{o:Obj}(h:Z (W0.heap[g]?=some o))(hq:q=W.heap.size)[s:jE [] W0 W]:Z (q≠g):=⟨bm h hq⟩
def errW:Option Int→Value
 |none=> .nilIface
 |some c=> .iface 0 (.int .i64 c)
theorem mC:errW none= .nilIface:=rfl
theorem mD(c:Int):errW (some c)= .iface 0 (.int .i64 c):=rfl
theorem info3:(Try.prog.info? 3).map (fun i=>(i.zero,i.size,i.bytes))=some (some (.int .i64 0),1,8):=by kernel_rfl
theorem Le:(Try.prog.info? 4).map (fun i=>(i.zero,i.size,i.bytes))=some (some (.bool false),1,1):=by kernel_rfl
theorem mG:(Try.prog.info? 45).map (fun i=>(i.zero,i.size,i.bytes))=some (some (.agg #[(.int .i64 0),(.int .i64 0)]),2,16):=by kernel_rfl
theorem info47:(Try.prog.info? 47).map (fun i=>(i.zero,i.size,i.bytes))=some (some (.agg #[(.int .i64 0),(.int .i64 0),(.int .i64 0),(.int .i64 0),(.int .i64 0)]),5,40):=by kernel_rfl
theorem sY:(Try.prog.info? 66).map (fun i=>(i.zero,i.size,i.bytes))=some (some (.agg #[(.int .i64 0),(.int .i64 0),(.int .i64 0),(.int .i64 0),(.int .i64 0)]),5,40):=by kernel_rfl
structure sw where
 f0:Int
 f1:Int
def z54:sw:=⟨(0:Int),(0:Int)⟩
def yo:Kd sw:=Kd.GR (Kd.pair (Kd.int .i64) (Kd.int .i64)) (fun x:sw=>(x.f0,x.f1))
theorem k54_heap:Kd.Heap yo:=Kd.KN _ (Kd.vX (Kd.tN .i64) (Kd.tN .i64))
theorem k54_open {w:World}{x:sw}{cs:List Value}(h:yo.K w x cs):cs=[.int .i64 x.f0,.int .i64 x.f1]:=by
 obtain⟨_,_,rfl,rfl,rfl⟩:=h;exact rfl
theorem k54_openM {w:World}{base:Nat}{ok:Nat→Prop}{x:sw}{cs:List Value}(h:yo.M w base ok x cs):cs=[.int .i64 x.f0,.int .i64 x.f1]:=by
 obtain⟨_,_,rfl,rfl,rfl⟩:=h;exact rfl
theorem k54_mk(w:World)(x:sw):yo.K w x [.int .i64 x.f0,.int .i64 x.f1]:=⟨[.int .i64 x.f0],[.int .i64 x.f1],rfl,rfl,rfl⟩
theorem k54_mkM(w:World)(base:Nat)(ok:Nat→Prop)(x:sw):yo.M w base ok x [.int .i64 x.f0,.int .i64 x.f1]:=⟨[.int .i64 x.f0],[.int .i64 x.f1],rfl,rfl,rfl⟩
theorem k54_mkF(W:World)(ok:Nat→Prop)(x:sw):Kd.FK yo W ok x [.int .i64 x.f0,.int .i64 x.f1]:=fun W2 _=>k54_mk W2 x
def rd_T54(xs:List sw)(i:Int):sw:=xs.getD i.toNat z54
theorem at_T54 {w:World}{A:Option Addr}{n:Nat}{xs:List sw}(h:Kd.C yo w A n xs)(i:Int)(h0:0≤i)(h1:i<n):∃ad,A=some ad∧w.cell? (ad.add (i.toNat*2))=some (.int .i64 (rd_T54 xs i).f0)∧w.cell? ⟨(ad.add (i.toNat*2)).block,(ad.add (i.toNat*2)).off+1,none⟩=some (.int .i64 (rd_T54 xs i).f1):=by
 obtain⟨ad,c,e,_,hK,hc0⟩:=Kd.CX h z54 i h0 h1;have hc:∀j u,c[j]?=some u→w.cell? (ad.add (i.toNat*2+j))=some u:=hc0;obtain rfl:=k54_open hK;exact⟨ad,e,hc 0 _ rfl,by rw[←sA _ _ 1 (by omega)];exact hc 1 _ rfl⟩
structure kE where
 f0:Int
 f1:sw
 f2:Int
 f3:Int
def PU:kE:=⟨(0:Int),z54,(0:Int),(0:Int)⟩
def rj:Kd kE:=Kd.GR (Kd.pair (Kd.int .i64) (Kd.pair yo (Kd.pair (Kd.int .i64) (Kd.int .i64)))) (fun x:kE=>(x.f0,x.f1,x.f2,x.f3))
theorem k56_heap:Kd.Heap rj:=Kd.KN _ (Kd.vX (Kd.tN .i64) (Kd.vX k54_heap (Kd.vX (Kd.tN .i64) (Kd.tN .i64))))
theorem k56_open {w:World}{x:kE}{cs:List Value}(h:rj.K w x cs):cs=[.int .i64 x.f0,.int .i64 x.f1.f0,.int .i64 x.f1.f1,.int .i64 x.f2,.int .i64 x.f3]:=by
 obtain⟨_,_,rfl,rfl,⟨_,_,rfl,s1,⟨_,_,rfl,rfl,rfl⟩⟩⟩:=h;obtain rfl:=k54_open s1;exact rfl
theorem k56_openM {w:World}{base:Nat}{ok:Nat→Prop}{x:kE}{cs:List Value}(h:rj.M w base ok x cs):cs=[.int .i64 x.f0,.int .i64 x.f1.f0,.int .i64 x.f1.f1,.int .i64 x.f2,.int .i64 x.f3]:=by
 obtain⟨_,_,rfl,rfl,⟨_,_,rfl,s1,⟨_,_,rfl,rfl,rfl⟩⟩⟩:=h;obtain rfl:=k54_openM s1;exact rfl
theorem k56_mk(w:World)(x:kE):rj.K w x [.int .i64 x.f0,.int .i64 x.f1.f0,.int .i64 x.f1.f1,.int .i64 x.f2,.int .i64 x.f3]:=⟨[.int .i64 x.f0],[.int .i64 x.f1.f0,.int .i64 x.f1.f1,.int .i64 x.f2,.int .i64 x.f3],rfl,rfl,⟨[.int .i64 x.f1.f0,.int .i64 x.f1.f1],[.int .i64 x.f2,.int .i64 x.f3],rfl,(k54_mk w x.f1),⟨[.int .i64 x.f2],[.int .i64 x.f3],rfl,rfl,rfl⟩⟩⟩
theorem k56_mkM(w:World)(base:Nat)(ok:Nat→Prop)(x:kE):rj.M w base ok x [.int .i64 x.f0,.int .i64 x.f1.f0,.int .i64 x.f1.f1,.int .i64 x.f2,.int .i64 x.f3]:=⟨[.int .i64 x.f0],[.int .i64 x.f1.f0,.int .i64 x.f1.f1,.int .i64 x.f2,.int .i64 x.f3],rfl,rfl,⟨[.int .i64 x.f1.f0,.int .i64 x.f1.f1],[.int .i64 x.f2,.int .i64 x.f3],rfl,(k54_mkM w base ok x.f1),⟨[.int .i64 x.f2],[.int .i64 x.f3],rfl,rfl,rfl⟩⟩⟩
theorem k56_mkF(W:World)(ok:Nat→Prop)(x:kE):Kd.FK rj W ok x [.int .i64 x.f0,.int .i64 x.f1.f0,.int .i64 x.f1.f1,.int .i64 x.f2,.int .i64 x.f3]:=fun W2 _=>k56_mk W2 x
def np(xs:List kE)(i:Int):kE:=xs.getD i.toNat PU
theorem at_T56 {w:World}{A:Option Addr}{n:Nat}{xs:List kE}(h:Kd.C rj w A n xs)(i:Int)(h0:0≤i)(h1:i<n):∃ad,A=some ad∧w.cell? (ad.add (i.toNat*5))=some (.int .i64 (np xs i).f0)∧w.cell? ⟨(ad.add (i.toNat*5)).block,(ad.add (i.toNat*5)).off+1,none⟩=some (.int .i64 (np xs i).f1.f0)∧w.cell? ⟨(ad.add (i.toNat*5)).block,(ad.add (i.toNat*5)).off+2,none⟩=some (.int .i64 (np xs i).f1.f1)∧w.cell? ⟨(ad.add (i.toNat*5)).block,(ad.add (i.toNat*5)).off+3,none⟩=some (.int .i64 (np xs i).f2)∧w.cell? ⟨(ad.add (i.toNat*5)).block,(ad.add (i.toNat*5)).off+4,none⟩=some (.int .i64 (np xs i).f3):=by
 obtain⟨ad,c,e,_,hK,hc0⟩:=Kd.CX h PU i h0 h1;have hc:∀j u,c[j]?=some u→w.cell? (ad.add (i.toNat*5+j))=some u:=hc0;obtain rfl:=k56_open hK;exact⟨ad,e,hc 0 _ rfl,by rw[←sA _ _ 1 (by omega)];exact hc 1 _ rfl,by rw[←sA _ _ 2 (by omega)];exact hc 2 _ rfl,by rw[←sA _ _ 3 (by omega)];exact hc 3 _ rfl,by rw[←sA _ _ 4 (by omega)];exact hc 4 _ rfl⟩
structure Y where
 f0:Int
 f1:Int
def z45:Y:=⟨(0:Int),(0:Int)⟩
def aT:Kd Y:=Kd.GR (Kd.pair (Kd.int .i64) (Kd.int .i64)) (fun x:Y=>(x.f0,x.f1))
theorem Vk:Kd.Heap aT:=Kd.KN _ (Kd.vX (Kd.tN .i64) (Kd.tN .i64))
theorem Vl {w:World}{x:Y}{cs:List Value}(h:aT.K w x cs):cs=[.int .i64 x.f0,.int .i64 x.f1]:=by
 obtain⟨_,_,rfl,rfl,rfl⟩:=h;exact rfl
theorem qT {w:World}{base:Nat}{ok:Nat→Prop}{x:Y}{cs:List Value}(h:aT.M w base ok x cs):cs=[.int .i64 x.f0,.int .i64 x.f1]:=by
 obtain⟨_,_,rfl,rfl,rfl⟩:=h;exact rfl
theorem Xv(w:World)(x:Y):aT.K w x [.int .i64 x.f0,.int .i64 x.f1]:=⟨[.int .i64 x.f0],[.int .i64 x.f1],rfl,rfl,rfl⟩
theorem ls(w:World)(base:Nat)(ok:Nat→Prop)(x:Y):aT.M w base ok x [.int .i64 x.f0,.int .i64 x.f1]:=⟨[.int .i64 x.f0],[.int .i64 x.f1],rfl,rfl,rfl⟩
theorem k45_mkF(W:World)(ok:Nat→Prop)(x:Y):Kd.FK aT W ok x [.int .i64 x.f0,.int .i64 x.f1]:=fun W2 _=>Xv W2 x
def aD(xs:List Y)(i:Int):Y:=xs.getD i.toNat z45
theorem dN {w:World}{A:Option Addr}{n:Nat}{xs:List Y}(h:Kd.C aT w A n xs)(i:Int)(h0:0≤i)(h1:i<n):∃ad,A=some ad∧w.cell? (ad.add (i.toNat*2))=some (.int .i64 (aD xs i).f0)∧w.cell? ⟨(ad.add (i.toNat*2)).block,(ad.add (i.toNat*2)).off+1,none⟩=some (.int .i64 (aD xs i).f1):=by
 obtain⟨ad,c,e,_,hK,hc0⟩:=Kd.CX h z45 i h0 h1;have hc:∀j u,c[j]?=some u→w.cell? (ad.add (i.toNat*2+j))=some u:=hc0;obtain rfl:=Vl hK;exact⟨ad,e,hc 0 _ rfl,by rw[←sA _ _ 1 (by omega)];exact hc 1 _ rfl⟩
structure aJ where
 f0:Int
 f1:Int
 f2:Y
 f3:Int
def z66:aJ:=⟨(0:Int),(0:Int),z45,(0:Int)⟩
def b8:Kd aJ:=Kd.GR (Kd.pair (Kd.int .i64) (Kd.pair (Kd.int .i64) (Kd.pair aT (Kd.int .i64)))) (fun x:aJ=>(x.f0,x.f1,x.f2,x.f3))
theorem k66_heap:Kd.Heap b8:=Kd.KN _ (Kd.vX (Kd.tN .i64) (Kd.vX (Kd.tN .i64) (Kd.vX Vk (Kd.tN .i64))))
theorem k66_open {w:World}{x:aJ}{cs:List Value}(h:b8.K w x cs):cs=[.int .i64 x.f0,.int .i64 x.f1,.int .i64 x.f2.f0,.int .i64 x.f2.f1,.int .i64 x.f3]:=by
 obtain⟨_,_,rfl,rfl,⟨_,_,rfl,rfl,⟨_,_,rfl,s2,rfl⟩⟩⟩:=h;obtain rfl:=Vl s2;exact rfl
theorem tJ {w:World}{base:Nat}{ok:Nat→Prop}{x:aJ}{cs:List Value}(h:b8.M w base ok x cs):cs=[.int .i64 x.f0,.int .i64 x.f1,.int .i64 x.f2.f0,.int .i64 x.f2.f1,.int .i64 x.f3]:=by
 obtain⟨_,_,rfl,rfl,⟨_,_,rfl,rfl,⟨_,_,rfl,s2,rfl⟩⟩⟩:=h;obtain rfl:=qT s2;exact rfl
theorem k66_mk(w:World)(x:aJ):b8.K w x [.int .i64 x.f0,.int .i64 x.f1,.int .i64 x.f2.f0,.int .i64 x.f2.f1,.int .i64 x.f3]:=⟨[.int .i64 x.f0],[.int .i64 x.f1,.int .i64 x.f2.f0,.int .i64 x.f2.f1,.int .i64 x.f3],rfl,rfl,⟨[.int .i64 x.f1],[.int .i64 x.f2.f0,.int .i64 x.f2.f1,.int .i64 x.f3],rfl,rfl,⟨[.int .i64 x.f2.f0,.int .i64 x.f2.f1],[.int .i64 x.f3],rfl,(Xv w x.f2),rfl⟩⟩⟩
theorem nB(w:World)(base:Nat)(ok:Nat→Prop)(x:aJ):b8.M w base ok x [.int .i64 x.f0,.int .i64 x.f1,.int .i64 x.f2.f0,.int .i64 x.f2.f1,.int .i64 x.f3]:=⟨[.int .i64 x.f0],[.int .i64 x.f1,.int .i64 x.f2.f0,.int .i64 x.f2.f1,.int .i64 x.f3],rfl,rfl,⟨[.int .i64 x.f1],[.int .i64 x.f2.f0,.int .i64 x.f2.f1,.int .i64 x.f3],rfl,rfl,⟨[.int .i64 x.f2.f0,.int .i64 x.f2.f1],[.int .i64 x.f3],rfl,(ls w base ok x.f2),rfl⟩⟩⟩
theorem k66_mkF(W:World)(ok:Nat→Prop)(x:aJ):Kd.FK b8 W ok x [.int .i64 x.f0,.int .i64 x.f1,.int .i64 x.f2.f0,.int .i64 x.f2.f1,.int .i64 x.f3]:=fun W2 _=>k66_mk W2 x
def U(xs:List aJ)(i:Int):aJ:=xs.getD i.toNat z66
theorem eC {w:World}{A:Option Addr}{n:Nat}{xs:List aJ}(h:Kd.C b8 w A n xs)(i:Int)(h0:0≤i)(h1:i<n):∃ad,A=some ad∧w.cell? (ad.add (i.toNat*5))=some (.int .i64 (U xs i).f0)∧w.cell? ⟨(ad.add (i.toNat*5)).block,(ad.add (i.toNat*5)).off+1,none⟩=some (.int .i64 (U xs i).f1)∧w.cell? ⟨(ad.add (i.toNat*5)).block,(ad.add (i.toNat*5)).off+2,none⟩=some (.int .i64 (U xs i).f2.f0)∧w.cell? ⟨(ad.add (i.toNat*5)).block,(ad.add (i.toNat*5)).off+3,none⟩=some (.int .i64 (U xs i).f2.f1)∧w.cell? ⟨(ad.add (i.toNat*5)).block,(ad.add (i.toNat*5)).off+4,none⟩=some (.int .i64 (U xs i).f3):=by
 obtain⟨ad,c,e,_,hK,hc0⟩:=Kd.CX h z66 i h0 h1;have hc:∀j u,c[j]?=some u→w.cell? (ad.add (i.toNat*5+j))=some u:=hc0;obtain rfl:=k66_open hK;exact⟨ad,e,hc 0 _ rfl,by rw[←sA _ _ 1 (by omega)];exact hc 1 _ rfl,by rw[←sA _ _ 2 (by omega)];exact hc 2 _ rfl,by rw[←sA _ _ 3 (by omega)];exact hc 3 _ rfl,by rw[←sA _ _ 4 (by omega)];exact hc 4 _ rfl⟩
structure bg where
 f0:Int
 f1:Y
 f2:Int
 f3:Int
def lH:bg:=⟨(0:Int),z45,(0:Int),(0:Int)⟩
def e5:Kd bg:=Kd.GR (Kd.pair (Kd.int .i64) (Kd.pair aT (Kd.pair (Kd.int .i64) (Kd.int .i64)))) (fun x:bg=>(x.f0,x.f1,x.f2,x.f3))
theorem k47_heap:Kd.Heap e5:=Kd.KN _ (Kd.vX (Kd.tN .i64) (Kd.vX Vk (Kd.vX (Kd.tN .i64) (Kd.tN .i64))))
theorem k47_open {w:World}{x:bg}{cs:List Value}(h:e5.K w x cs):cs=[.int .i64 x.f0,.int .i64 x.f1.f0,.int .i64 x.f1.f1,.int .i64 x.f2,.int .i64 x.f3]:=by
 obtain⟨_,_,rfl,rfl,⟨_,_,rfl,s1,⟨_,_,rfl,rfl,rfl⟩⟩⟩:=h;obtain rfl:=Vl s1;exact rfl
theorem uW {w:World}{base:Nat}{ok:Nat→Prop}{x:bg}{cs:List Value}(h:e5.M w base ok x cs):cs=[.int .i64 x.f0,.int .i64 x.f1.f0,.int .i64 x.f1.f1,.int .i64 x.f2,.int .i64 x.f3]:=by
 obtain⟨_,_,rfl,rfl,⟨_,_,rfl,s1,⟨_,_,rfl,rfl,rfl⟩⟩⟩:=h;obtain rfl:=qT s1;exact rfl
theorem k47_mk(w:World)(x:bg):e5.K w x [.int .i64 x.f0,.int .i64 x.f1.f0,.int .i64 x.f1.f1,.int .i64 x.f2,.int .i64 x.f3]:=⟨[.int .i64 x.f0],[.int .i64 x.f1.f0,.int .i64 x.f1.f1,.int .i64 x.f2,.int .i64 x.f3],rfl,rfl,⟨[.int .i64 x.f1.f0,.int .i64 x.f1.f1],[.int .i64 x.f2,.int .i64 x.f3],rfl,(Xv w x.f1),⟨[.int .i64 x.f2],[.int .i64 x.f3],rfl,rfl,rfl⟩⟩⟩
theorem E0(w:World)(base:Nat)(ok:Nat→Prop)(x:bg):e5.M w base ok x [.int .i64 x.f0,.int .i64 x.f1.f0,.int .i64 x.f1.f1,.int .i64 x.f2,.int .i64 x.f3]:=⟨[.int .i64 x.f0],[.int .i64 x.f1.f0,.int .i64 x.f1.f1,.int .i64 x.f2,.int .i64 x.f3],rfl,rfl,⟨[.int .i64 x.f1.f0,.int .i64 x.f1.f1],[.int .i64 x.f2,.int .i64 x.f3],rfl,(ls w base ok x.f1),⟨[.int .i64 x.f2],[.int .i64 x.f3],rfl,rfl,rfl⟩⟩⟩
theorem k47_mkF(W:World)(ok:Nat→Prop)(x:bg):Kd.FK e5 W ok x [.int .i64 x.f0,.int .i64 x.f1.f0,.int .i64 x.f1.f1,.int .i64 x.f2,.int .i64 x.f3]:=fun W2 _=>k47_mk W2 x
def ar(xs:List bg)(i:Int):bg:=xs.getD i.toNat lH
theorem SO {w:World}{A:Option Addr}{n:Nat}{xs:List bg}(h:Kd.C e5 w A n xs)(i:Int)(h0:0≤i)(h1:i<n):∃ad,A=some ad∧w.cell? (ad.add (i.toNat*5))=some (.int .i64 (ar xs i).f0)∧w.cell? ⟨(ad.add (i.toNat*5)).block,(ad.add (i.toNat*5)).off+1,none⟩=some (.int .i64 (ar xs i).f1.f0)∧w.cell? ⟨(ad.add (i.toNat*5)).block,(ad.add (i.toNat*5)).off+2,none⟩=some (.int .i64 (ar xs i).f1.f1)∧w.cell? ⟨(ad.add (i.toNat*5)).block,(ad.add (i.toNat*5)).off+3,none⟩=some (.int .i64 (ar xs i).f2)∧w.cell? ⟨(ad.add (i.toNat*5)).block,(ad.add (i.toNat*5)).off+4,none⟩=some (.int .i64 (ar xs i).f3):=by
 obtain⟨ad,c,e,_,hK,hc0⟩:=Kd.CX h lH i h0 h1;have hc:∀j u,c[j]?=some u→w.cell? (ad.add (i.toNat*5+j))=some u:=hc0;obtain rfl:=k47_open hK;exact⟨ad,e,hc 0 _ rfl,by rw[←sA _ _ 1 (by omega)];exact hc 1 _ rfl,by rw[←sA _ _ 2 (by omega)];exact hc 2 _ rfl,by rw[←sA _ _ 3 (by omega)];exact hc 3 _ rfl,by rw[←sA _ _ 4 (by omega)];exact hc 4 _ rfl⟩
def Sd(xs:List (List Y))(i:Int):(List Y):=xs.getD i.toNat ([]:List Y)
theorem at_L7 {w:World}{A:Option Addr}{n:Nat}{xs:List (List Y)}(h:Kd.C (Kd.slice 45 aT) w A n xs)(i:Int)(h0:0≤i)(h1:i<n):∃ad A0 c0,A=some ad∧w.cell? (ad.add i.toNat)=some (.slice A0 (Sd xs i).length c0)∧(Sd xs i).length≤c0∧aT.C w A0 (Sd xs i).length (Sd xs i):=by
 obtain⟨ad,c,e,_,hK,hc0⟩:=Kd.CX h ([]:List Y) i h0 h1;have hc:∀j u,c[j]?=some u→w.cell? (ad.add (i.toNat*1+j))=some u:=hc0;obtain⟨A0,c0,rfl,l0,g0⟩:=hK;exact⟨ad,A0,c0,e,by have hq:=hc 0 _ rfl;rwa [fl,dH]at hq,l0,g0⟩
def Se(xs:List (List aJ))(i:Int):(List aJ):=xs.getD i.toNat ([]:List aJ)
theorem at_L8 {w:World}{A:Option Addr}{n:Nat}{xs:List (List aJ)}(h:Kd.C (Kd.slice 66 b8) w A n xs)(i:Int)(h0:0≤i)(h1:i<n):∃ad A0 c0,A=some ad∧w.cell? (ad.add i.toNat)=some (.slice A0 (Se xs i).length c0)∧(Se xs i).length≤c0∧b8.C w A0 (Se xs i).length (Se xs i):=by
 obtain⟨ad,c,e,_,hK,hc0⟩:=Kd.CX h ([]:List aJ) i h0 h1;have hc:∀j u,c[j]?=some u→w.cell? (ad.add (i.toNat*1+j))=some u:=hc0;obtain⟨A0,c0,rfl,l0,g0⟩:=hK;exact⟨ad,A0,c0,e,by have hq:=hc 0 _ rfl;rwa [fl,dH]at hq,l0,g0⟩
def Sf(xs:List (List kE))(i:Int):(List kE):=xs.getD i.toNat ([]:List kE)
theorem at_L9 {w:World}{A:Option Addr}{n:Nat}{xs:List (List kE)}(h:Kd.C (Kd.slice 56 rj) w A n xs)(i:Int)(h0:0≤i)(h1:i<n):∃ad A0 c0,A=some ad∧w.cell? (ad.add i.toNat)=some (.slice A0 (Sf xs i).length c0)∧(Sf xs i).length≤c0∧rj.C w A0 (Sf xs i).length (Sf xs i):=by
 obtain⟨ad,c,e,_,hK,hc0⟩:=Kd.CX h ([]:List kE) i h0 h1;have hc:∀j u,c[j]?=some u→w.cell? (ad.add (i.toNat*1+j))=some u:=hc0;obtain⟨A0,c0,rfl,l0,g0⟩:=hK;exact⟨ad,A0,c0,e,by have hq:=hc 0 _ rfl;rwa [fl,dH]at hq,l0,g0⟩
theorem er {p:Prop}(h:p:=by first|rfl|(simp[mC,mD]<;>rfl)|(simp[*,mC,mD]<;>rfl)):p:=h
noncomputable instance:DecidableEq sw:=fun _ _=>aaR _
noncomputable instance:DecidableEq kE:=fun _ _=>aaR _
noncomputable instance:DecidableEq Y:=fun _ _=>aaR _
noncomputable instance:DecidableEq aJ:=fun _ _=>aaR _
noncomputable instance:DecidableEq bg:=fun _ _=>aaR _
def ok54(x:sw):Prop:=(Lit.int .i64 x.f0).wf=true∧(Lit.int .i64 x.f1).wf=true
def ok56(x:kE):Prop:=(Lit.int .i64 x.f0).wf=true∧ok54 x.f1∧(Lit.int .i64 x.f2).wf=true∧(Lit.int .i64 x.f3).wf=true
theorem hq {w W:World}{p:Addr}{v:Value}(HB:Z (Below w.heap.size w W))(h:w.cell? p=some v):W.cell? p=some v:=hc HB h (World.block_lt_of_cell? _ _ h)
class vI(g b t:Nat)(cs:Array Value)(cs':outParam (Array Value))(W0 W:World):Prop where out:g≠b→W0.heap[g]?=some (.cells cs t (0,0))→W.heap[g]?=some (.cells cs' t (0,0))
instance putF_refl(g b t:Nat)(cs:Array Value)(W:World):vI g b t cs cs W W:=⟨fun _ h=>h⟩
instance putF_alloc(g b t:Nat)(cs cs':Array Value)(W0 W:World)(o:Obj)[s:vI g b t cs cs' W0 W]:vI g b t cs cs' W0 (W.alloc o):=⟨fun n h=>ew (s.out n h) o⟩
instance putF_drewN(g b t:Nat)(cs cs':Array Value)(W0 W:World)(n:Nat)[s:vI g b t cs cs' W0 W]:vI g b t cs cs' W0 (W.drewN n):=⟨fun m h=>ex (s.out m h) n⟩
instance putF_drew(g b t:Nat)(cs cs':Array Value)(W0 W:World)[s:vI g b t cs cs' W0 W]:vI g b t cs cs' W0 W.drew:=⟨fun m h=>cY (s.out m h)⟩
instance putF_far(g b t:Nat)(cs cs':Array Value)(W0 W:World)(j:Nat)(v:Value)[s:vI g b t cs cs' W0 W]:vI g b t cs cs' W0 (W.setCell ⟨b,j,none⟩ v):=⟨fun m h=>gY (s.out m h) m _⟩
instance putF_set(g b t:Nat)(cs cs':Array Value)(W0 W:World)(j:Nat)(v:Value)[s:vI g b t cs cs' W0 W]:vI g b t cs (cs'.setIfInBounds j v) W0 (W.setCell ⟨g,j,none⟩ v):=⟨fun m h=>zV (s.out m h) j v rfl⟩
theorem B4 {g b t:Nat}{cs cs' cs2:Array Value}{W0 W:World}(h:Z (W0.heap[g]?=some (.cells cs t (0,0))))(n:Z (g≠b))[s:vI g b t cs cs' W0 W](e:cs'=cs2:=by rfl):W.heap[g]?=some (.cells cs2 t (0,0)):=e▸s.out n.out h.out
theorem fS {α:Type}[BEq α][LawfulBEq α]{a b:α}(h:¬a=b):(a==b)=false:=beq_eq_false_iff_ne.mpr h
theorem fT {α:Type}[BEq α][LawfulBEq α]{a b:α}(h:¬a=b):(a !=b)=true:=bne_iff_ne.mpr h
theorem fU {α:Type}[BEq α][LawfulBEq α]{a b:α}(h:a=b):(a==b)=true:=beq_iff_eq.mpr h
theorem fV {α:Type}[BEq α][LawfulBEq α]{a b:α}(h:a=b):(a !=b)=false:=bne_eq_false_iff_eq.mpr h
theorem bJ {p:Prop}[Decidable p](h:p):decide p=true:=decide_eq_true h
theorem dn {p:Prop}[Decidable p](h:¬p):decide p=false:=decide_eq_false h
theorem nq {P:Program}{ops:Array Oper}{Q:Exit→Act→World→Prop}{md:Region.Mode}{S:World→Prop}{ds:List Nat}(N:Nat){fuel:Nat}{l:Array Bool}{a b a':Act}{v:Value}{w:World}(h:en P md ops Q S ds fuel l a' w)(h0:a=Act.put b (some N) v:=by rfl)(h1:Act.put b (some N) v=a':=by(simp only[Act.put,List.setIfInBounds_toArray,List.set_cons_zero,List.set_cons_succ,kP,nE];rfl)):en P md ops Q S ds fuel l a w:=by
 subst h0;subst h1;exact h
theorem nw {P:Program}{ops:Array Oper}{Q:Exit→Act→World→Prop}{md:Region.Mode}{S:World→Prop}{ds:List Nat}{fuel:Nat}{l:Array Bool}{a a':Act}{w:World}(h:en P md ops Q S ds fuel l a' w)(h1:a=a':=by first|(simp only[mu,Act.put,List.setIfInBounds_toArray,List.set_cons_zero,List.set_cons_succ];done)|(simp only[mu,Act.put,List.setIfInBounds_toArray,List.set_cons_zero,List.set_cons_succ];rfl)):en P md ops Q S ds fuel l a w:=by
 subst h1;exact h
end Go.Proofs.Ytfeokehfhaimkaa.G
