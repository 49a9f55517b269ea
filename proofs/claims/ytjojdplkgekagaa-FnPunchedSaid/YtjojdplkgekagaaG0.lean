-- Printed by a program of this session (drive.py, by way of the kit's print). Not trusted: Lean checks it.
import Derived.Test.YtjojdplkgekagaaProg
import Derived.Test.YtjojdplkgekagaaExt
import Derived.Test.YtjojdplkgekagaaExt2
import Derived.Test.YtjojdplkgekagaaClear
import Derived.Below
import Derived.Deep.Draws
import Derived.Deep.AppendLies
import Derived.Maps.AppendAt
import Derived.OwnWalk
import Derived.Laws.BytesArg
import Derived.Laws.MakeOwn
import Derived.Laws.OwnMore
import Derived.Deep.OwnRows
import Derived.Tactics
import Derived.Lib.ConvBytes
import Derived.Laws.Slices
import Derived.WalkKit
import Derived.KernelRfl
import Derived.RowKit3
import Derived.Deep.LoopGhost
import Derived.Deep.QuietTactic
import Derived.BigQuiet
import Derived.WideLaws
import Derived.Deep.DeepCutAuto
import Derived.Deep.CutBlock
import Derived.Deep.RegionHeld3
import Derived.Laws.Rows
import Derived.Lib.AppendStr
import Derived.ArgAppend
import Derived.Laws.IdiomCopy
import Derived.OrdersHeld
import Derived.Laws.BitsLemmas
import Derived.RowKit
import Derived.Shelf.Abstract
import Derived.Test.YtjojdplkgekagaaWWords
open Classical renaming propDecidable→abc
open Go.RowKit.Below renaming refl→aaa,heap_setCell→aa4
open List renaming setIfInBounds_toArray→Ok,set_cons_zero→bY,set_cons_succ→dl,mem_cons→aam,mem_singleton→aap
open Nat renaming le_refl→bx,le_trans→aax,lt_of_lt_of_le→aaY
namespace Go.Proofs.Ytjojdplkgekagaa.G
open Go.RowKit Go.Proofs.YtjojdplkgekagaaW.PrintWords Go.Proofs.YtjojdplkgekagaaW.PrintLast Go.Proofs.YtjojdplkgekagaaW.PrintMore
attribute [local go_sem] um un uu uv ud ue uo uq
set_option linter.unusedVariables false
set_option linter.unusedSimpArgs false
section
variable {P : Program} {ops : Array Oper} {Q : Exit → Act → World → Prop}
theorem gate_value {rest:List Oper}{o:Oper}{a:Act}{W:World}{t:Tmp}{ars:Array Operand}{ts:Array TypeId}(_ho:o.op= .call {callee:= .value (.tmp t),args:=ars,argTypes:=ts})(h:wpList P ops Q (o::rest) a W):wpList P ops Q (o::rest) a W:=h
theorem goesV_ {rest:List Oper}{oi:Oper}{a:Act}{w:World}(N:Option Tmp)(hd:oi.dst=N)(hg:oi.guard=none){f:FuncId}{fn:Func}{t:Tmp}{lb:Array Value}{ars:Array Operand}{ts:Array TypeId}(hf:P.funcs[f]?=some fn)(hname:(fn.name== "runtime.NumGoroutine")=false)(hb:fn.body.isSome=true)(args:Array Value)
 (hop:oi.op= .call {callee:= .value (.tmp t),args:=ars,argTypes:=ts})(hv:a.eval (.tmp t)= .func (.func f) #[] lb)(hargs:ars.map a.eval++lb=args)
 (h:Calls P f args w fun e w'=>∃v,e= .returned v∧wpList P ops Q rest (a.put N v) w'):wpList P ops Q (oi::rest) a w:=by
 refine wpList_plain hg fun K hK=> ?_
 have he:=H7 hf hname hb args w
 have hrun:(execOp a.eval oi).run P w= .ok (.enter f args) w:=by
  unfold execOp
  simp[hop,resolve,hv,Deferred.ofValue,invoke,hargs,he]
 unfold Oper.wp;rw[hrun,Oper.upon_enter]
 refine h.mono fun e w'' hh=> ?_
 obtain⟨v,rfl,hk⟩:=hh;subst hd;exact hK _ _ hk
end
class LB(g:Nat)(l:List Nat):Prop where out:g∈l
instance inL_head(g:Nat)(l:List Nat):LB g (g::l):=⟨List.mem_cons_self⟩
instance inL_tail(g h:Nat)(l:List Nat)[i:LB g l]:LB g (h::l):=⟨List.mem_cons_of_mem _ i.out⟩
class iP(l:List Nat)(W0 W:World):Prop where out:∀w:World,Below w.heap.size w W0→(∀g,g∈l→w.heap.size≤g)→Below w.heap.size w W
instance stL_refl(l:List Nat)(W:World):iP l W W:=⟨fun _ h _=>h⟩
instance stL_alloc(l:List Nat)(W0 W:World)(o:Obj)[s:iP l W0 W]:iP l W0 (W.alloc o):=⟨fun w h k=>jH (s.out w h k) o⟩
instance stL_drewN(l:List Nat)(W0 W:World)(n:Nat)[s:iP l W0 W]:iP l W0 (W.drewN n):=⟨fun w h k=>k5 (s.out w h k) n⟩
instance stL_drew(l:List Nat)(W0 W:World)[s:iP l W0 W]:iP l W0 W.drew:=⟨fun w h k=>fO (s.out w h k)⟩
instance stL_set(l:List Nat)(W0 W:World)(g:Nat)(j:Nat)(v:Value)[i:LB g l][s:iP l W0 W]:iP l W0 (W.setCell ⟨g,j,none⟩ v):=⟨fun w h k=>cF (s.out w h k) (k g i.out)⟩
theorem bs {w W0 W:World}(h:U (Below w.heap.size w W0))[s:iP [] W0 W]:Below w.heap.size w W:=s.out w h.out (fun _ hg=>by cases hg)
theorem aH {w W0 W:World}{a:Nat}(h:U (Below w.heap.size w W0))(ha:U (w.heap.size≤a))[s:iP [a] W0 W]:Below w.heap.size w W:=s.out w h.out (fun g hg=>by rw[aap.1 hg];exact ha.out)
theorem aW {w W0 W:World}{a b:Nat}(h:U (Below w.heap.size w W0))(ha:U (w.heap.size≤a))(hb:U (w.heap.size≤b))[s:iP [a,b] W0 W]:Below w.heap.size w W:=s.out w h.out (fun g hg=>by
 rcases aam.1 hg with rfl|hg
 ·exact ha.out
 ·rw[aap.1 hg];exact hb.out)
theorem bX {w W0 W:World}{a b c:Nat}(h:U (Below w.heap.size w W0))(ha:U (w.heap.size≤a))(hb:U (w.heap.size≤b))(hc:U (w.heap.size≤c))[s:iP [a,b,c] W0 W]:Below w.heap.size w W:=s.out w h.out (fun g hg=>by
 rcases aam.1 hg with rfl|hg
 ·exact ha.out
 ·rcases aam.1 hg with rfl|hg
  ·exact hb.out
  ·rw[aap.1 hg];exact hc.out)
theorem QP {W0 W:World}[s:iP [] W0 W]:Below W0.heap.size W0 W:=s.out W0 (aaa _ _) (fun _ hg=>by cases hg)
theorem bk {W0 W:World}{g:Nat}{o:Obj}(h:U (W0.heap[g]?=some o))[s:iP [] W0 W]:W.heap[g]?=some o:=cC h.out QP
theorem rr {α:Type}{d:Kd α}{e:Nat}{W0 W:World}{base:Nat}{ok:Nat→Prop}{v:Value}{xs:List α}(h:d.R e W0 base ok v xs)[s:iP [] W0 W]:d.R e W base ok v xs:=Kd.eO h QP
theorem cb {α:Type}{d:Kd α}{w W0 W:World}{A:Option Addr}{n:Nat}{l:List α}(h:U (d.C w A n l))(hb:U (Below w.heap.size w W0))[s:iP [] W0 W]:d.C W A n l:=Kd.qQ (Kd.qQ h.out hb.out) QP
theorem N6 {w W0 W:World}{l:List Nat}(h:U (Below w.heap.size w W0))(hl:∀g,g∈l→w.heap.size≤g)[s:iP l W0 W]:Below w.heap.size w W:=s.out w h.out hl
theorem sF {w:World}:∀g,g∈([]:List Nat)→w.heap.size≤g:=fun _ h=>by cases h
theorem f7 {w:World}{a:Nat}{l:List Nat}(ha:U (w.heap.size≤a))(h:∀g,g∈l→w.heap.size≤g):∀g,g∈a::l→w.heap.size≤g:=fun g hg=>by
 rcases aam.1 hg with rfl|hg
 ·exact ha.out
 ·exact h g hg
theorem dc {w W0 W:World}{a b c d:Nat}(h:U (Below w.heap.size w W0))(ha:U (w.heap.size≤a))(hb:U (w.heap.size≤b))(hc:U (w.heap.size≤c))(hd:U (w.heap.size≤d))[s:iP [a,b,c,d] W0 W]:Below w.heap.size w W:=N6 h (f7 ha (f7 hb (f7 hc (f7 hd sF))))
theorem AG {w W0 W:World}{a b c d e:Nat}(h:U (Below w.heap.size w W0))(ha:U (w.heap.size≤a))(hb:U (w.heap.size≤b))(hc:U (w.heap.size≤c))(hd:U (w.heap.size≤d))(he:U (w.heap.size≤e))[s:iP [a,b,c,d,e] W0 W]:Below w.heap.size w W:=N6 h (f7 ha (f7 hb (f7 hc (f7 hd (f7 he sF)))))
theorem gl {w W0 W:World}{a b c d e f:Nat}(h:U (Below w.heap.size w W0))(ha:U (w.heap.size≤a))(hb:U (w.heap.size≤b))(hc:U (w.heap.size≤c))(hd:U (w.heap.size≤d))(he:U (w.heap.size≤e))(hf:U (w.heap.size≤f))[s:iP [a,b,c,d,e,f] W0 W]:Below w.heap.size w W:=N6 h (f7 ha (f7 hb (f7 hc (f7 hd (f7 he (f7 hf sF))))))
theorem q8 {w W0 W:World}{a b c d e f g:Nat}(h:U (Below w.heap.size w W0))(ha:U (w.heap.size≤a))(hb:U (w.heap.size≤b))(hc:U (w.heap.size≤c))(hd:U (w.heap.size≤d))(he:U (w.heap.size≤e))(hf:U (w.heap.size≤f))(hg:U (w.heap.size≤g))[s:iP [a,b,c,d,e,f,g] W0 W]:Below w.heap.size w W:=N6 h (f7 ha (f7 hb (f7 hc (f7 hd (f7 he (f7 hf (f7 hg sF)))))))
section
variable {P : Program} {ops : Array Oper} {Q : Exit → Act → World → Prop} {md : Region.Mode} {S : World → Prop} {ds : List Nat} {T : Bool × List (List Nat × List Nat)}
theorem aN(i:Nat)(N:Tmp)(hT:gH md ops=T){oi:Oper}{v:Value}{fuel:Nat}{l l':Array Bool}{a a':Act}{w:World}
 (h:fP P md ops Q S ds fuel l' a' w)(hi:ops[i]?=some oi:=by exact rfl)(hN:oi.dst=some N:=by exact rfl)
 (hl:l.setIfInBounds i true=l':=by simp only[List.setIfInBounds_toArray,List.set_cons_zero,List.set_cons_succ];rfl)
 (hc:OF T l.toList l'.toList i=true:=by kernel_rfl)(hQ:∀c a w,Q (.panic c) (a.put oi.dst v) w→Q (.panic c) a w:=by exact fun _ _ _ h=>h)
 (hw:Region.wanted oi (yielded ops a.tmps)=true:=by rfl)(hr:∀w,(execOp a.eval oi).run P w= .ok (.value v) w:=by intro w';go_simp;with_reducible rfl)
 (ha:a.put (some N) v=a':=by simp only[Act.put,List.setIfInBounds_toArray,List.set_cons_zero,List.set_cons_succ,cz,dS];rfl):fP P md ops Q S ds (fuel+1) l a w:=
 Hx l' hi hN (a0m hT hc) hQ (Or.inl ⟨hw,hr⟩) ha h
theorem bz(i:Nat)(N:Tmp)(hT:gH md ops=T){oi:Oper}{fuel:Nat}{l l':Array Bool}{a a':Act}{w:World}
 (h:fP P md ops Q S ds fuel l' a' w)(hi:ops[i]?=some oi:=by exact rfl)(hN:oi.dst=some N:=by exact rfl)
 (hl:l.setIfInBounds i true=l':=by simp only[List.setIfInBounds_toArray,List.set_cons_zero,List.set_cons_succ];rfl)
 (hc:OF T l.toList l'.toList i=true:=by kernel_rfl)(hQ:∀c a w,Q (.panic c) (a.put oi.dst undef) w→Q (.panic c) a w:=by exact fun _ _ _ h=>h)
 (hw:Region.wanted oi (yielded ops a.tmps)=false:=by rfl)
 (ha:a.put (some N) undef=a':=by simp only[Act.put,List.setIfInBounds_toArray,List.set_cons_zero,List.set_cons_succ,cz,dS];rfl):fP P md ops Q S ds (fuel+1) l a w:=
 Hx l' hi hN (a0m hT hc) hQ (Or.inr ⟨hw,rfl⟩) ha h
theorem eF(i:Nat)(N:Tmp)(hT:gH md ops=T){B:List Nat}(hB:kx T.2 B=true){oi:Oper}{v:Value}{fuel:Nat}{l l':Array Bool}{a a':Act}{w:World}(hS:S w)
 (hi:ops[i]?=some oi:=by exact rfl)(hN:oi.dst=some N:=by exact rfl)
 (hl:l.setIfInBounds i true=l':=by simp only[List.setIfInBounds_toArray,List.set_cons_zero,List.set_cons_succ];rfl)
 (hc:SD T B ds l.toList l'.toList i=true:=by kernel_rfl)(hw:Region.wanted oi (yielded ops a.tmps)=true:=by rfl)
 (hr:∀w,S w→(execOp a.eval oi).run P w= .ok (.value v) w)(hQ:∀c a w,Q (.panic c) (a.put oi.dst v) w→Q (.panic c) a w:=by exact fun _ _ _ h=>h)
 (ha:a.put (some N) v=a':=by simp only[Act.put,List.setIfInBounds_toArray,List.set_cons_zero,List.set_cons_succ,cz,dS];rfl)(h:fP P md ops Q S ds fuel l' a' w):fP P md ops Q S ds (fuel+1) l a w:=
 sH l' hi hN (wD hT hB hc) hQ (Or.inl ⟨hw,hr⟩) hS ha h
end
class uU(W0 W:World):Prop where out:W0.heap.size≤W.heap.size
instance szL_refl(W:World):uU W W:=⟨bx _⟩
instance szL_alloc(W0 W:World)(o:Obj)[s:uU W0 W]:uU W0 (W.alloc o):=⟨aax s.out (jH (aaa _ _) o).size⟩
instance szL_drewN(W0 W:World)(n:Nat)[s:uU W0 W]:uU W0 (W.drewN n):=⟨aax s.out (k5 (aaa 0 _) n).size⟩
instance szL_drew(W0 W:World)[s:uU W0 W]:uU W0 W.drew:=⟨aax s.out (GL (aaa 0 _)).size⟩
instance szL_set(W0 W:World)(p:Addr)(v:Value)[s:uU W0 W]:uU W0 (W.setCell p v):=⟨by simpa[World.setCell]using s.out⟩
theorem LC {W0 W:World}{g q:Nat}{o:Obj}(h:U (W0.heap[g]?=some o))(hq:q=W.heap.size)[s:uU W0 W]:g≠q:=Nat.ne_of_lt (by rw[hq];exact aaY (jr h.out) s.out)
theorem PH {W0 W:World}{g q:Nat}{o:Obj}(h:U (W0.heap[g]?=some o))(hq:q=W.heap.size)[s:uU W0 W]:q≠g:=Ne.symm (LC h hq)
class oO(g:Nat)(W0 W:World):Prop where out:W0.heap.size≤W.heap.size∧∀k,k≠g→k<W0.heap.size→W.heap[k]?=W0.heap[k]?
theorem Pr {g:Nat}{W0 W W1:World}(s:oO g W0 W)(h:Below W.heap.size W W1):oO g W0 W1:=⟨⟨aax s.out.1 h.size,fun k hk hl=>(h.block k (aaY hl s.out.1)).trans (s.out.2 k hk hl)⟩⟩
instance farL_refl(g:Nat)(W:World):oO g W W:=⟨⟨bx _,fun _ _ _=>rfl⟩⟩
instance farL_alloc(g:Nat)(W0 W:World)(o:Obj)[s:oO g W0 W]:oO g W0 (W.alloc o):=Pr s (jH (aaa _ _) o)
instance farL_drewN(g:Nat)(W0 W:World)(n:Nat)[s:oO g W0 W]:oO g W0 (W.drewN n):=Pr s (k5 (aaa _ _) n)
instance farL_drew(g:Nat)(W0 W:World)[s:oO g W0 W]:oO g W0 W.drew:=Pr s (GL (aaa _ _))
instance farL_set(g:Nat)(W0 W:World)(j:Nat)(v:Value)[s:oO g W0 W]:oO g W0 (W.setCell ⟨g,j,none⟩ v):=⟨⟨by simpa[World.setCell]using s.out.1,fun k hk hl=>(aa4 W ⟨g,j,none⟩ v k hk).trans (s.out.2 k hk hl)⟩⟩
theorem rf {α:Type}{d:Kd α}{e:Nat}{W0 W:World}{base:Nat}{ok:Nat→Prop}{v:Value}{xs:List α}{g t:Nat}{cells:Array Value}(h:U (d.R e W0 base ok v xs))(b:U (W0.heap[g]?=some (.cells cells t (0,0))))(ht:∀q,q∈e::d.E→q≠t:=by decide)[s:oO g W0 W]:d.R e W base ok v xs:=Kd.aY (Kd.Mr (Kd.cl h.out b.out ht) (fun k hk hl=>s.out.2 k hk.2 hl)) (fun _ h=>h.1)
theorem rc {α:Type}{d:Kd α}{e:Nat}{W0 W:World}{base:Nat}{ok:Nat→Prop}{A:Option Addr}{n c:Nat}{xs:List α}{g t:Nat}{cells:Array Value}(h:U (d.R e W0 base ok (.slice A n c) xs))(b:U (W0.heap[g]?=some (.cells cells t (0,0))))(ht:∀q,q∈e::d.E→q≠t:=by decide)[s:oO g W0 W]:d.C W A xs.length xs:=(Kd.af (rf h b ht)).2.2
theorem fB {α:Type}{d:Kd α}{e:Nat}{W0 W:World}{base:Nat}{ok:Nat→Prop}{A:Option Addr}{n c:Nat}{xs:List α}(h:U (d.R e W0 base ok (.slice A n c) xs))[s:iP [] W0 W]:d.C W A xs.length xs:=(Kd.af (rr h.out)).2.2
theorem bf {W0 W:World}{g g':Nat}{o:Obj}(h:U (W0.heap[g]?=some o))(hn:U (g≠g'))[s:oO g' W0 W]:W.heap[g]?=some o:=(s.out.2 g hn.out (jr h.out)).trans h.out
theorem bb {W0 W W1:World}{g:Nat}{o:Obj}(h:U (W0.heap[g]?=some o))(hb:Below W.heap.size W W1)[s:iP [] W0 W]:W1.heap[g]?=some o:=cC (bk h) hb
theorem bn {W0 W:World}{g q:Nat}{o:Obj}(h:U (W0.heap[g]?=some o))(hq:q=W.heap.size)[s:iP [] W0 W]:g≠q:=by
 rw[hq];exact Nat.ne_of_lt (jr (bk h))
theorem bm {W0 W:World}{g q:Nat}{o:Obj}(h:U (W0.heap[g]?=some o))(hq:q=W.heap.size)[s:iP [] W0 W]:q≠g:=Ne.symm (bn h hq)
theorem ap {w:World}{g:Nat}{t:TypeId}{a0:Value}(h:U (w.heap[g]?=some (.cells #[a0] t (0,0)))):w.cell? ⟨g,0,none⟩=some a0:=(bC h.out 0).trans rfl
theorem an {w:World}{g:Nat}{t:TypeId}{a0:Value}(h:U (w.heap[g]?=some (.cells #[a0] t (0,0)))):w.frozen? ⟨g,0,none⟩=false:=ff h.out 0
theorem nw {w:World}{g:Nat}{t:TypeId}{a0 a1:Value}(h:U (w.heap[g]?=some (.cells #[a0,a1] t (0,0)))):w.cell? ⟨g,0,none⟩=some a0∧w.cell? ⟨g,1,none⟩=some a1:=⟨(bC h.out 0).trans rfl,(bC h.out 1).trans rfl⟩
theorem ny {w:World}{g:Nat}{t:TypeId}{a0 a1:Value}(h:U (w.heap[g]?=some (.cells #[a0,a1] t (0,0)))):w.frozen? ⟨g,0,none⟩=false∧w.frozen? ⟨g,1,none⟩=false:=⟨ff h.out 0,ff h.out 1⟩
theorem rU {w:World}{g:Nat}{t:TypeId}{a0 a1 a2:Value}(h:U (w.heap[g]?=some (.cells #[a0,a1,a2] t (0,0)))):w.cell? ⟨g,0,none⟩=some a0∧w.cell? ⟨g,1,none⟩=some a1∧w.cell? ⟨g,2,none⟩=some a2:=⟨(bC h.out 0).trans rfl,(bC h.out 1).trans rfl,(bC h.out 2).trans rfl⟩
theorem rV {w:World}{g:Nat}{t:TypeId}{a0 a1 a2:Value}(h:U (w.heap[g]?=some (.cells #[a0,a1,a2] t (0,0)))):w.frozen? ⟨g,0,none⟩=false∧w.frozen? ⟨g,1,none⟩=false∧w.frozen? ⟨g,2,none⟩=false:=⟨ff h.out 0,ff h.out 1,ff h.out 2⟩
theorem cA {w:World}{g:Nat}{t:TypeId}{a0 a1 a2 a3:Value}(h:U (w.heap[g]?=some (.cells #[a0,a1,a2,a3] t (0,0)))):w.cell? ⟨g,0,none⟩=some a0∧w.cell? ⟨g,1,none⟩=some a1∧w.cell? ⟨g,2,none⟩=some a2∧w.cell? ⟨g,3,none⟩=some a3:=⟨(bC h.out 0).trans rfl,(bC h.out 1).trans rfl,(bC h.out 2).trans rfl,(bC h.out 3).trans rfl⟩
theorem cB {w:World}{g:Nat}{t:TypeId}{a0 a1 a2 a3:Value}(h:U (w.heap[g]?=some (.cells #[a0,a1,a2,a3] t (0,0)))):w.frozen? ⟨g,0,none⟩=false∧w.frozen? ⟨g,1,none⟩=false∧w.frozen? ⟨g,2,none⟩=false∧w.frozen? ⟨g,3,none⟩=false:=⟨ff h.out 0,ff h.out 1,ff h.out 2,ff h.out 3⟩
theorem cz5 {w:World}{g:Nat}{t:TypeId}{a0 a1 a2 a3 a4:Value}(h:U (w.heap[g]?=some (.cells #[a0,a1,a2,a3,a4] t (0,0)))):w.cell? ⟨g,0,none⟩=some a0∧w.cell? ⟨g,1,none⟩=some a1∧w.cell? ⟨g,2,none⟩=some a2∧w.cell? ⟨g,3,none⟩=some a3∧w.cell? ⟨g,4,none⟩=some a4:=⟨(bC h.out 0).trans rfl,(bC h.out 1).trans rfl,(bC h.out 2).trans rfl,(bC h.out 3).trans rfl,(bC h.out 4).trans rfl⟩
theorem fz5 {w:World}{g:Nat}{t:TypeId}{a0 a1 a2 a3 a4:Value}(h:U (w.heap[g]?=some (.cells #[a0,a1,a2,a3,a4] t (0,0)))):w.frozen? ⟨g,0,none⟩=false∧w.frozen? ⟨g,1,none⟩=false∧w.frozen? ⟨g,2,none⟩=false∧w.frozen? ⟨g,3,none⟩=false∧w.frozen? ⟨g,4,none⟩=false:=⟨ff h.out 0,ff h.out 1,ff h.out 2,ff h.out 3,ff h.out 4⟩
theorem cz6 {w:World}{g:Nat}{t:TypeId}{a0 a1 a2 a3 a4 a5:Value}(h:U (w.heap[g]?=some (.cells #[a0,a1,a2,a3,a4,a5] t (0,0)))):w.cell? ⟨g,0,none⟩=some a0∧w.cell? ⟨g,1,none⟩=some a1∧w.cell? ⟨g,2,none⟩=some a2∧w.cell? ⟨g,3,none⟩=some a3∧w.cell? ⟨g,4,none⟩=some a4∧w.cell? ⟨g,5,none⟩=some a5:=⟨(bC h.out 0).trans rfl,(bC h.out 1).trans rfl,(bC h.out 2).trans rfl,(bC h.out 3).trans rfl,(bC h.out 4).trans rfl,(bC h.out 5).trans rfl⟩
theorem fz6 {w:World}{g:Nat}{t:TypeId}{a0 a1 a2 a3 a4 a5:Value}(h:U (w.heap[g]?=some (.cells #[a0,a1,a2,a3,a4,a5] t (0,0)))):w.frozen? ⟨g,0,none⟩=false∧w.frozen? ⟨g,1,none⟩=false∧w.frozen? ⟨g,2,none⟩=false∧w.frozen? ⟨g,3,none⟩=false∧w.frozen? ⟨g,4,none⟩=false∧w.frozen? ⟨g,5,none⟩=false:=⟨ff h.out 0,ff h.out 1,ff h.out 2,ff h.out 3,ff h.out 4,ff h.out 5⟩
theorem gL {P:Program}{ops:Array Oper}{Q:Exit→Act→World→Prop}{rest:List Oper}{oi:Oper}{a:Act}{w:World}(N:Option Tmp)(hd:oi.dst=N)(hg:oi.guard=none){f:FuncId}{fn:Func}{oa:Array Operand}{ts:Array TypeId}(hf:P.funcs[f]?=some fn)(hname:(fn.name== "runtime.NumGoroutine")=false)(hb:fn.body.isSome=true)(args:Array Value)
 (hop:oi.op= .call {callee:= .value (.func f),args:=oa,argTypes:=ts})
 (h:Calls P f args w fun e w'=>∃v,e= .returned v∧wpList P ops Q rest (a.put N v) w')(hargs:oa.map a.eval=args:=by(try simp only[List.map_toArray,List.map_cons,List.map_nil]);first|done|rfl|(simp only[List.length_drop,List.length_take];rfl)):wpList P ops Q (oi::rest) a w:=Rw N hd hg hf hname hb args hop hargs h
theorem nr {α:Type}{d:Kd α}{e:Nat}{W0 W W1:World}{base:Nat}{ok:Nat→Prop}{v:Value}{xs:List α}(h:U (d.R e W0 base ok v xs))(hb:Below W.heap.size W W1)[s:iP [] W0 W]:U (d.R e W1 base ok v xs):=⟨Kd.eO (rr h.out) hb⟩
theorem nf {α:Type}{d:Kd α}{e:Nat}{W0 W W1:World}{base:Nat}{ok:Nat→Prop}{v:Value}{xs:List α}{g t:Nat}{cells:Array Value}(h:U (d.R e W0 base ok v xs))(b:U (W0.heap[g]?=some (.cells cells t (0,0))))(hb:Below W.heap.size W W1)(ht:∀q,q∈e::d.E→q≠t:=by decide)[s:oO g W0 W]:U (d.R e W1 base ok v xs):=⟨Kd.eO (rf h b ht) hb⟩
theorem nb {W0 W W1:World}{g:Nat}{o:Obj}(h:U (W0.heap[g]?=some o))(hb:Below W.heap.size W W1)[s:iP [] W0 W]:U (W1.heap[g]?=some o):=⟨bb h hb⟩
theorem cbn {α:Type}{d:Kd α}{w W0 W:World}{A:Option Addr}{n m:Nat}{l:List α}(h:U (d.C w A n l))(hb:U (Below w.heap.size w W0))(hn:n=m)[s:iP [] W0 W]:d.C W A m l:=hn▸cb h hb
theorem rm {α:Type}{d:Kd α}{e:Nat}{W0 W:World}{base:Nat}{ok ok':Nat→Prop}{v:Value}{xs:List α}(h:U (d.R e W0 base ok v xs))(k:∀n,ok n→ok' n)[s:iP [] W0 W]:U (d.R e W base ok' v xs):=⟨Kd.aY (rr h.out) k⟩
class iu(l:List Nat)(W0 W:World):Prop where out:W0.heap.size≤W.heap.size∧∀k,k<W0.heap.size→¬(k∈l)→W.heap[k]?=W0.heap[k]?
theorem Px {l:List Nat}{W0 W W1:World}(s:iu l W0 W)(h:Below W.heap.size W W1):iu l W0 W1:=⟨⟨aax s.out.1 h.size,fun k hk hl=>(h.block k (aaY hk s.out.1)).trans (s.out.2 k hk hl)⟩⟩
instance kpL_refl(l:List Nat)(W:World):iu l W W:=⟨⟨bx _,fun _ _ _=>rfl⟩⟩
instance kpL_alloc(l:List Nat)(W0 W:World)(o:Obj)[s:iu l W0 W]:iu l W0 (W.alloc o):=Px s (jH (aaa _ _) o)
instance kpL_drewN(l:List Nat)(W0 W:World)(n:Nat)[s:iu l W0 W]:iu l W0 (W.drewN n):=Px s (k5 (aaa _ _) n)
instance kpL_drew(l:List Nat)(W0 W:World)[s:iu l W0 W]:iu l W0 W.drew:=Px s (GL (aaa _ _))
instance kpL_set(l:List Nat)(W0 W:World)(g:Nat)(j:Nat)(v:Value)[i:LB g l][s:iu l W0 W]:iu l W0 (W.setCell ⟨g,j,none⟩ v):=⟨⟨by simpa[World.setCell]using s.out.1,fun k hk hl=>(aa4 W ⟨g,j,none⟩ v k (fun e=>hl (by rw[e];exact i.out))).trans (s.out.2 k hk hl)⟩⟩
theorem AH {w W0 W:World}{g:Nat}{l:List Nat}(h:U (aM w W0 g none))(hl:∀b,b∈l→w.heap.size≤b)[s:iu (g::l) W0 W]:aM w W g none:=⟨aax h.out.1 s.out.1,fun i hi hg hr=>(s.out.2 i (aaY hi h.out.1) (fun hm=>(aam.1 hm).elim hg (fun hm=>absurd (hl i hm) (Nat.not_le.2 hi)))).trans (h.out.2 i hi hg hr)⟩
theorem mJ {w W0 W:World}{g:Nat}(h:U (aM w W0 g none))[s:iu (g::[]) W0 W]:aM w W g none:=AH h sF
theorem nI {w W0 W:World}{g a:Nat}(h:U (aM w W0 g none))(ha:U (w.heap.size≤a))[s:iu (g::[a]) W0 W]:aM w W g none:=AH h (f7 ha sF)
theorem hZ {w W0 W:World}{g a b:Nat}(h:U (aM w W0 g none))(ha:U (w.heap.size≤a))(hb:U (w.heap.size≤b))[s:iu (g::[a,b]) W0 W]:aM w W g none:=AH h (f7 ha (f7 hb sF))
theorem oZ {w W0 W:World}{g a b c:Nat}(h:U (aM w W0 g none))(ha:U (w.heap.size≤a))(hb:U (w.heap.size≤b))(hc:U (w.heap.size≤c))[s:iu (g::[a,b,c]) W0 W]:aM w W g none:=AH h (f7 ha (f7 hb (f7 hc sF)))
theorem gT {w W0 W:World}{g a b c d:Nat}(h:U (aM w W0 g none))(ha:U (w.heap.size≤a))(hb:U (w.heap.size≤b))(hc:U (w.heap.size≤c))(hd:U (w.heap.size≤d))[s:iu (g::[a,b,c,d]) W0 W]:aM w W g none:=AH h (f7 ha (f7 hb (f7 hc (f7 hd sF))))
theorem kq5 {w W0 W:World}{g a b c d e:Nat}(h:U (aM w W0 g none))(ha:U (w.heap.size≤a))(hb:U (w.heap.size≤b))(hc:U (w.heap.size≤c))(hd:U (w.heap.size≤d))(he:U (w.heap.size≤e))[s:iu (g::[a,b,c,d,e]) W0 W]:aM w W g none:=AH h (f7 ha (f7 hb (f7 hc (f7 hd (f7 he sF)))))
theorem kq6 {w W0 W:World}{g a b c d e f:Nat}(h:U (aM w W0 g none))(ha:U (w.heap.size≤a))(hb:U (w.heap.size≤b))(hc:U (w.heap.size≤c))(hd:U (w.heap.size≤d))(he:U (w.heap.size≤e))(hf:U (w.heap.size≤f))[s:iu (g::[a,b,c,d,e,f]) W0 W]:aM w W g none:=AH h (f7 ha (f7 hb (f7 hc (f7 hd (f7 he (f7 hf sF))))))
theorem kq7 {w W0 W:World}{g a b c d e f m:Nat}(h:U (aM w W0 g none))(ha:U (w.heap.size≤a))(hb:U (w.heap.size≤b))(hc:U (w.heap.size≤c))(hd:U (w.heap.size≤d))(he:U (w.heap.size≤e))(hf:U (w.heap.size≤f))(hm:U (w.heap.size≤m))[s:iu (g::[a,b,c,d,e,f,m]) W0 W]:aM w W g none:=AH h (f7 ha (f7 hb (f7 hc (f7 hd (f7 he (f7 hf (f7 hm sF)))))))
theorem Ah {p:Prop}(h:p):U p:=⟨h⟩
theorem od {p:Prop}[Decidable p](h:decide p=true:=by first|(with_reducible assumption)|assumption):p:=of_decide_eq_true h
theorem dV:¬(false=true):=by decide
theorem e3 {p:Prop}(h:p:=by first|rfl|(simp;done)|(simp[*];done)):p:=h
theorem gw {w W:World}{g:Nat}(hg:g=W.heap.size)(h:Below w.heap.size w W):U (w.heap.size≤g):=⟨by rw[hg];exact be h⟩
theorem nn {W0 W:World}{g q:Nat}{o:Obj}(h:U (W0.heap[g]?=some o))(hq:q=W.heap.size)[s:iP [] W0 W]:U (g≠q):=⟨bn h hq⟩
theorem bA {P:Program}{ops:Array Oper}{Q:Exit→Act→World→Prop}{rest:List Oper}{o:Oper}{a:Act}{W:World}(N:Tmp)(t:TypeId)(cs:Array Value)
 (h:∀g,g=W.heap.size→∀w1,U (w1.heap[g]?=some (.cells cs t (0,0)))→Below W.heap.size W w1→wpList P ops Q rest (a.put o.dst (.pointer (some ⟨g,0,none⟩))) w1)
 (hgd:o.guard=none:=by rfl)(hd:o.dst=some N:=by rfl)(hrun:(execOp a.eval o).run P W= .ok (.value (.pointer (some ⟨W.heap.size,0,none⟩))) (W.alloc (.cells cs t (0,0))):=by first|(go_simp;done)|(go_simp;rfl)):wpList P ops Q (o::rest) a W:=
 box_event hgd hd hrun (fun g hg w1 hb hB=>h g hg w1 ⟨hb⟩ hB)
theorem nm {W0 W:World}{g q:Nat}{o:Obj}(h:U (W0.heap[g]?=some o))(hq:q=W.heap.size)[s:iP [] W0 W]:U (q≠g):=⟨bm h hq⟩
def a3A:Option Int→Value
 |none=> .nilIface
 |some c=> .iface 0 (.int .i64 c)
theorem GM:a3A none= .nilIface:=rfl
theorem GN(c:Int):a3A (some c)= .iface 0 (.int .i64 c):=rfl
theorem info3:(Try.prog.info? 3).map (fun i=>(i.zero,i.size,i.bytes))=some (some (.int .i64 0),1,8):=by kernel_rfl
theorem a0C:(Try.prog.info? 4).map (fun i=>(i.zero,i.size,i.bytes))=some (some (.bool false),1,1):=by kernel_rfl
theorem jN:(Try.prog.info? 38).map (fun i=>(i.zero,i.size,i.bytes))=some (some (.agg #[(.int .i64 0),(.int .i64 0)]),2,16):=by kernel_rfl
theorem gF:(Try.prog.info? 65).map (fun i=>(i.zero,i.size,i.bytes))=some (some (.agg #[(.int .i64 0),(.int .i64 0),(.int .i64 0),(.bool false)]),4,32):=by kernel_rfl
theorem Bz:(Try.prog.info? 71).map (fun i=>(i.zero,i.size,i.bytes))=some (some (.agg #[(.bool false),(.int .i64 0),(.bool false)]),3,24):=by kernel_rfl
structure a7 where
 f0:Int
 f1:Int
 f2:Int
 f3:Bool
def rW:a7:=⟨(0:Int),(0:Int),(0:Int),false⟩
def b7:Kd a7:=Kd.PG (Kd.pair (Kd.int .i64) (Kd.pair (Kd.int .i64) (Kd.pair (Kd.int .i64) Kd.bool))) (fun x:a7=>(x.f0,x.f1,x.f2,x.f3))
theorem k65_open {w:World}{x:a7}{cs:List Value}(h:b7.K w x cs):cs=[.int .i64 x.f0,.int .i64 x.f1,.int .i64 x.f2,.bool x.f3]:=by
 obtain⟨_,_,rfl,rfl,⟨_,_,rfl,rfl,⟨_,_,rfl,rfl,rfl⟩⟩⟩:=h;exact rfl
theorem uf {w:World}{base:Nat}{ok:Nat→Prop}{x:a7}{cs:List Value}(h:b7.M w base ok x cs):cs=[.int .i64 x.f0,.int .i64 x.f1,.int .i64 x.f2,.bool x.f3]:=by
 obtain⟨_,_,rfl,rfl,⟨_,_,rfl,rfl,⟨_,_,rfl,rfl,rfl⟩⟩⟩:=h;exact rfl
theorem k65_mk(w:World)(x:a7):b7.K w x [.int .i64 x.f0,.int .i64 x.f1,.int .i64 x.f2,.bool x.f3]:=⟨[.int .i64 x.f0],[.int .i64 x.f1,.int .i64 x.f2,.bool x.f3],rfl,rfl,⟨[.int .i64 x.f1],[.int .i64 x.f2,.bool x.f3],rfl,rfl,⟨[.int .i64 x.f2],[.bool x.f3],rfl,rfl,rfl⟩⟩⟩
theorem jp(w:World)(base:Nat)(ok:Nat→Prop)(x:a7):b7.M w base ok x [.int .i64 x.f0,.int .i64 x.f1,.int .i64 x.f2,.bool x.f3]:=⟨[.int .i64 x.f0],[.int .i64 x.f1,.int .i64 x.f2,.bool x.f3],rfl,rfl,⟨[.int .i64 x.f1],[.int .i64 x.f2,.bool x.f3],rfl,rfl,⟨[.int .i64 x.f2],[.bool x.f3],rfl,rfl,rfl⟩⟩⟩
def I(xs:List a7)(i:Int):a7:=xs.getD i.toNat rW
theorem f6 {w:World}{A:Option Addr}{n:Nat}{xs:List a7}(h:Kd.C b7 w A n xs)(i:Int)(h0:0≤i)(h1:i<n):∃ad,A=some ad∧w.cell? (ad.add (i.toNat*4))=some (.int .i64 (I xs i).f0)∧w.cell? ⟨(ad.add (i.toNat*4)).block,(ad.add (i.toNat*4)).off+1,none⟩=some (.int .i64 (I xs i).f1)∧w.cell? ⟨(ad.add (i.toNat*4)).block,(ad.add (i.toNat*4)).off+2,none⟩=some (.int .i64 (I xs i).f2)∧w.cell? ⟨(ad.add (i.toNat*4)).block,(ad.add (i.toNat*4)).off+3,none⟩=some (.bool (I xs i).f3):=by
 obtain⟨ad,c,e,_,hK,hc0⟩:=Kd.N3 h rW i h0 h1;have hc:∀j u,c[j]?=some u→w.cell? (ad.add (i.toNat*4+j))=some u:=hc0;obtain rfl:=k65_open hK;exact⟨ad,e,hc 0 _ rfl,by rw[←E4 _ _ 1 (by omega)];exact hc 1 _ rfl,by rw[←E4 _ _ 2 (by omega)];exact hc 2 _ rfl,by rw[←E4 _ _ 3 (by omega)];exact hc 3 _ rfl⟩
structure aT where
 f0:Int
 f1:Int
def kW:aT:=⟨(0:Int),(0:Int)⟩
def bd:Kd aT:=Kd.PG (Kd.pair (Kd.int .i64) (Kd.int .i64)) (fun x:aT=>(x.f0,x.f1))
theorem k38_open {w:World}{x:aT}{cs:List Value}(h:bd.K w x cs):cs=[.int .i64 x.f0,.int .i64 x.f1]:=by
 obtain⟨_,_,rfl,rfl,rfl⟩:=h;exact rfl
theorem lN {w:World}{base:Nat}{ok:Nat→Prop}{x:aT}{cs:List Value}(h:bd.M w base ok x cs):cs=[.int .i64 x.f0,.int .i64 x.f1]:=by
 obtain⟨_,_,rfl,rfl,rfl⟩:=h;exact rfl
theorem k38_mk(w:World)(x:aT):bd.K w x [.int .i64 x.f0,.int .i64 x.f1]:=⟨[.int .i64 x.f0],[.int .i64 x.f1],rfl,rfl,rfl⟩
theorem iE(w:World)(base:Nat)(ok:Nat→Prop)(x:aT):bd.M w base ok x [.int .i64 x.f0,.int .i64 x.f1]:=⟨[.int .i64 x.f0],[.int .i64 x.f1],rfl,rfl,rfl⟩
def aE(xs:List aT)(i:Int):aT:=xs.getD i.toNat kW
theorem fE {w:World}{A:Option Addr}{n:Nat}{xs:List aT}(h:Kd.C bd w A n xs)(i:Int)(h0:0≤i)(h1:i<n):∃ad,A=some ad∧w.cell? (ad.add (i.toNat*2))=some (.int .i64 (aE xs i).f0)∧w.cell? ⟨(ad.add (i.toNat*2)).block,(ad.add (i.toNat*2)).off+1,none⟩=some (.int .i64 (aE xs i).f1):=by
 obtain⟨ad,c,e,_,hK,hc0⟩:=Kd.N3 h kW i h0 h1;have hc:∀j u,c[j]?=some u→w.cell? (ad.add (i.toNat*2+j))=some u:=hc0;obtain rfl:=k38_open hK;exact⟨ad,e,hc 0 _ rfl,by rw[←E4 _ _ 1 (by omega)];exact hc 1 _ rfl⟩
structure eW where
 f0:Bool
 f1:Int
 f2:Bool
def dO:eW:=⟨false,(0:Int),false⟩
def gx:Kd eW:=Kd.PG (Kd.pair Kd.bool (Kd.pair (Kd.int .i64) Kd.bool)) (fun x:eW=>(x.f0,x.f1,x.f2))
theorem k71_open {w:World}{x:eW}{cs:List Value}(h:gx.K w x cs):cs=[.bool x.f0,.int .i64 x.f1,.bool x.f2]:=by
 obtain⟨_,_,rfl,rfl,⟨_,_,rfl,rfl,rfl⟩⟩:=h;exact rfl
theorem Lm {w:World}{base:Nat}{ok:Nat→Prop}{x:eW}{cs:List Value}(h:gx.M w base ok x cs):cs=[.bool x.f0,.int .i64 x.f1,.bool x.f2]:=by
 obtain⟨_,_,rfl,rfl,⟨_,_,rfl,rfl,rfl⟩⟩:=h;exact rfl
theorem k71_mk(w:World)(x:eW):gx.K w x [.bool x.f0,.int .i64 x.f1,.bool x.f2]:=⟨[.bool x.f0],[.int .i64 x.f1,.bool x.f2],rfl,rfl,⟨[.int .i64 x.f1],[.bool x.f2],rfl,rfl,rfl⟩⟩
theorem H8(w:World)(base:Nat)(ok:Nat→Prop)(x:eW):gx.M w base ok x [.bool x.f0,.int .i64 x.f1,.bool x.f2]:=⟨[.bool x.f0],[.int .i64 x.f1,.bool x.f2],rfl,rfl,⟨[.int .i64 x.f1],[.bool x.f2],rfl,rfl,rfl⟩⟩
def am(xs:List eW)(i:Int):eW:=xs.getD i.toNat dO
theorem oE {w:World}{A:Option Addr}{n:Nat}{xs:List eW}(h:Kd.C gx w A n xs)(i:Int)(h0:0≤i)(h1:i<n):∃ad,A=some ad∧w.cell? (ad.add (i.toNat*3))=some (.bool (am xs i).f0)∧w.cell? ⟨(ad.add (i.toNat*3)).block,(ad.add (i.toNat*3)).off+1,none⟩=some (.int .i64 (am xs i).f1)∧w.cell? ⟨(ad.add (i.toNat*3)).block,(ad.add (i.toNat*3)).off+2,none⟩=some (.bool (am xs i).f2):=by
 obtain⟨ad,c,e,_,hK,hc0⟩:=Kd.N3 h dO i h0 h1;have hc:∀j u,c[j]?=some u→w.cell? (ad.add (i.toNat*3+j))=some u:=hc0;obtain rfl:=k71_open hK;exact⟨ad,e,hc 0 _ rfl,by rw[←E4 _ _ 1 (by omega)];exact hc 1 _ rfl,by rw[←E4 _ _ 2 (by omega)];exact hc 2 _ rfl⟩
def N7(xs:List (List Int))(i:Int):(List Int):=xs.getD i.toNat ([]:List Int)
theorem at_L6 {w:World}{A:Option Addr}{n:Nat}{xs:List (List Int)}(h:Kd.C (Kd.slice 5 (Kd.int .u8)) w A n xs)(i:Int)(h0:0≤i)(h1:i<n):∃ad A0 c0,A=some ad∧w.cell? (ad.add i.toNat)=some (.slice A0 (N7 xs i).length c0)∧(N7 xs i).length≤c0∧(Kd.int .u8).C w A0 (N7 xs i).length (N7 xs i):=by
 obtain⟨ad,c,e,_,hK,hc0⟩:=Kd.N3 h ([]:List Int) i h0 h1;have hc:∀j u,c[j]?=some u→w.cell? (ad.add (i.toNat*1+j))=some u:=hc0;obtain⟨A0,c0,rfl,l0,g0⟩:=hK;exact⟨ad,A0,c0,e,by have hq:=hc 0 _ rfl;rwa [Nat.mul_one,Nat.add_zero]at hq,l0,g0⟩
theorem er {p:Prop}(h:p:=by first|rfl|(simp[GM,GN]<;>rfl)|(simp[*,GM,GN]<;>rfl)):p:=h
noncomputable instance:DecidableEq a7:=fun _ _=>abc _
noncomputable instance:DecidableEq aT:=fun _ _=>abc _
noncomputable instance:DecidableEq eW:=fun _ _=>abc _
end Go.Proofs.Ytjojdplkgekagaa.G
