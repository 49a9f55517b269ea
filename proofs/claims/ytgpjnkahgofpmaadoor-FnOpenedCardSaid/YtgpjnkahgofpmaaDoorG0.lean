-- Printed by a program of this session (drive.py, by way of the kit's print). Not trusted: Lean checks it.
import Derived.Test.YtgpjnkahgofpmaaDoorProg
import Derived.Test.YtgpjnkahgofpmaaDoorExt
import Derived.Test.YtgpjnkahgofpmaaDoorExt2
import Derived.Test.YtgpjnkahgofpmaaDoorTabItoa
import Derived.Test.YtgpjnkahgofpmaaDoorBytes
import Derived.Test.YtgpjnkahgofpmaaDoorCopyRows
import Derived.Below
import Derived.Deep.Draws
import Derived.Deep.AppendLies
import Derived.Maps.AppendAt
import Derived.OwnWalk
import Derived.Laws.BytesArg
import Derived.Laws.MakeOwn
import Derived.Laws.OwnMore
import Derived.Deep.OwnRows
import Derived.Tactics
import Derived.Lib.ConvBytes
import Derived.Laws.Slices
import Derived.WalkKit
import Derived.KernelRfl
import Derived.RowKit3
import Derived.Deep.LoopGhost
import Derived.Deep.QuietTactic
import Derived.BigQuiet
import Derived.WideLaws
import Derived.Deep.DeepCutAuto
import Derived.Deep.CutBlock
import Derived.Deep.RegionHeld3
import Derived.Laws.Rows
import Derived.Lib.AppendStr
import Derived.ArgAppend
import Derived.Laws.IdiomCopy
import Derived.OrdersHeld
import Derived.Laws.BitsLemmas
import Derived.RowKit
import Derived.Shelf.Abstract
import Derived.Test.YtgpjnkahgofpmaaDoorWWords
open Go.Region renaming wanted→aao,Mode→aaQ
open Go.RowKit.Below renaming refl→aag,heap_setCell→aa1
open Go.World renaming block_lt_of_cell?→Fe,setCell→abd
open List renaming setIfInBounds_toArray→aab,set_cons_zero→aai,set_cons_succ→aaj,mem_cons→aaq,mem_singleton→abF
open Nat renaming lt_of_lt_of_le→WR,ne_of_lt→ek,le_refl→kV,le_trans→aaI
namespace Go.Proofs.YtgpjnkahgofpmaaDoor.G
open Go.RowKit Go.Proofs.YtgpjnkahgofpmaaDoorW.PrintWords Go.Proofs.YtgpjnkahgofpmaaDoorW.PrintLast Go.Proofs.YtgpjnkahgofpmaaDoorW.PrintMore
attribute [local go_sem] uM uN uS uT u9 uA uO uP
set_option linter.unusedVariables false
set_option linter.unusedSimpArgs false
section
variable {P : Program} {ops : Array Oper} {Q : Exit → Act → World → Prop}
theorem gate_value {rest:List Oper}{o:Oper}{a:Act}{W:World}{t:Tmp}{ars:Array Operand}{ts:Array TypeId}(_ho:o.op= .call {callee:= .value (.tmp t),args:=ars,argTypes:=ts})(h:wpList P ops Q (o::rest) a W):wpList P ops Q (o::rest) a W:=h
theorem goesV_ {rest:List Oper}{oi:Oper}{a:Act}{w:World}(N:Option Tmp)(hd:oi.dst=N)(hg:oi.guard=none){f:FuncId}{fn:Func}{t:Tmp}{lb:Array Value}{ars:Array Operand}{ts:Array TypeId}(hf:P.funcs[f]?=some fn)(hname:(fn.name== "runtime.NumGoroutine")=false)(hb:fn.body.isSome=true)(args:Array Value)
 (hop:oi.op= .call {callee:= .value (.tmp t),args:=ars,argTypes:=ts})(hv:a.eval (.tmp t)= .func (.func f) #[] lb)(hargs:ars.map a.eval++lb=args)
 (h:Calls P f args w fun e w'=>∃v,e= .returned v∧wpList P ops Q rest (a.put N v) w'):wpList P ops Q (oi::rest) a w:=by
 refine wpList_plain hg fun K hK=> ?_
 have he:=JA hf hname hb args w
 have hrun:(execOp a.eval oi).run P w= .ok (.enter f args) w:=by
  unfold execOp
  simp[hop,resolve,hv,Deferred.ofValue,invoke,hargs,he]
 unfold Oper.wp;rw[hrun,Oper.upon_enter]
 refine h.mono fun e w'' hh=> ?_
 obtain⟨v,rfl,hk⟩:=hh;subst hd;exact hK _ _ hk
end
class F6(g:Nat)(l:List Nat):Prop where out:g∈l
instance inL_head(g:Nat)(l:List Nat):F6 g (g::l):=⟨List.mem_cons_self⟩
instance inL_tail(g h:Nat)(l:List Nat)[i:F6 g l]:F6 g (h::l):=⟨List.mem_cons_of_mem _ i.out⟩
class gI(l:List Nat)(W0 W:World):Prop where out:∀w:World,Below w.heap.size w W0→(∀g,g∈l→w.heap.size≤g)→Below w.heap.size w W
instance stL_refl(l:List Nat)(W:World):gI l W W:=⟨fun _ h _=>h⟩
instance stL_alloc(l:List Nat)(W0 W:World)(o:Obj)[s:gI l W0 W]:gI l W0 (W.alloc o):=⟨fun w h k=>dH (s.out w h k) o⟩
instance stL_drewN(l:List Nat)(W0 W:World)(n:Nat)[s:gI l W0 W]:gI l W0 (W.drewN n):=⟨fun w h k=>dZ (s.out w h k) n⟩
instance stL_drew(l:List Nat)(W0 W:World)[s:gI l W0 W]:gI l W0 W.drew:=⟨fun w h k=>bc (s.out w h k)⟩
instance stL_set(l:List Nat)(W0 W:World)(g:Nat)(j:Nat)(v:Value)[i:F6 g l][s:gI l W0 W]:gI l W0 (W.setCell ⟨g,j,none⟩ v):=⟨fun w h k=>cn (s.out w h k) (k g i.out)⟩
theorem bs {w W0 W:World}(h:Z (Below w.heap.size w W0))[s:gI [] W0 W]:Below w.heap.size w W:=s.out w h.out (fun _ hg=>by cases hg)
theorem aX {w W0 W:World}{a:Nat}(h:Z (Below w.heap.size w W0))(ha:Z (w.heap.size≤a))[s:gI [a] W0 W]:Below w.heap.size w W:=s.out w h.out (fun g hg=>by rw[abF.1 hg];exact ha.out)
theorem an {w W0 W:World}{a b:Nat}(h:Z (Below w.heap.size w W0))(ha:Z (w.heap.size≤a))(hb:Z (w.heap.size≤b))[s:gI [a,b] W0 W]:Below w.heap.size w W:=s.out w h.out (fun g hg=>by
 rcases aaq.1 hg with rfl|hg
 ·exact ha.out
 ·rw[abF.1 hg];exact hb.out)
theorem d9 {w W0 W:World}{a b c:Nat}(h:Z (Below w.heap.size w W0))(ha:Z (w.heap.size≤a))(hb:Z (w.heap.size≤b))(hc:Z (w.heap.size≤c))[s:gI [a,b,c] W0 W]:Below w.heap.size w W:=s.out w h.out (fun g hg=>by
 rcases aaq.1 hg with rfl|hg
 ·exact ha.out
 ·rcases aaq.1 hg with rfl|hg
  ·exact hb.out
  ·rw[abF.1 hg];exact hc.out)
theorem eJ {W0 W:World}[s:gI [] W0 W]:Below W0.heap.size W0 W:=s.out W0 (aag _ _) (fun _ hg=>by cases hg)
theorem bk {W0 W:World}{g:Nat}{o:Obj}(h:Z (W0.heap[g]?=some o))[s:gI [] W0 W]:W.heap[g]?=some o:=bq h.out eJ
theorem rr {α:Type}{d:Kd α}{e:Nat}{W0 W:World}{base:Nat}{ok:Nat→Prop}{v:Value}{xs:List α}(h:d.R e W0 base ok v xs)[s:gI [] W0 W]:d.R e W base ok v xs:=Kd.bB h eJ
theorem cb {α:Type}{d:Kd α}{w W0 W:World}{A:Option Addr}{n:Nat}{l:List α}(h:Z (d.C w A n l))(hb:Z (Below w.heap.size w W0))[s:gI [] W0 W]:d.C W A n l:=Kd.qG (Kd.qG h.out hb.out) eJ
theorem Gj {w W0 W:World}{l:List Nat}(h:Z (Below w.heap.size w W0))(hl:∀g,g∈l→w.heap.size≤g)[s:gI l W0 W]:Below w.heap.size w W:=s.out w h.out hl
theorem np {w:World}:∀g,g∈([]:List Nat)→w.heap.size≤g:=fun _ h=>by cases h
theorem eM {w:World}{a:Nat}{l:List Nat}(ha:Z (w.heap.size≤a))(h:∀g,g∈l→w.heap.size≤g):∀g,g∈a::l→w.heap.size≤g:=fun g hg=>by
 rcases aaq.1 hg with rfl|hg
 ·exact ha.out
 ·exact h g hg
theorem eG {w W0 W:World}{a b c d:Nat}(h:Z (Below w.heap.size w W0))(ha:Z (w.heap.size≤a))(hb:Z (w.heap.size≤b))(hc:Z (w.heap.size≤c))(hd:Z (w.heap.size≤d))[s:gI [a,b,c,d] W0 W]:Below w.heap.size w W:=Gj h (eM ha (eM hb (eM hc (eM hd np))))
theorem fm {w W0 W:World}{a b c d e:Nat}(h:Z (Below w.heap.size w W0))(ha:Z (w.heap.size≤a))(hb:Z (w.heap.size≤b))(hc:Z (w.heap.size≤c))(hd:Z (w.heap.size≤d))(he:Z (w.heap.size≤e))[s:gI [a,b,c,d,e] W0 W]:Below w.heap.size w W:=Gj h (eM ha (eM hb (eM hc (eM hd (eM he np)))))
theorem jx {w W0 W:World}{a b c d e f:Nat}(h:Z (Below w.heap.size w W0))(ha:Z (w.heap.size≤a))(hb:Z (w.heap.size≤b))(hc:Z (w.heap.size≤c))(hd:Z (w.heap.size≤d))(he:Z (w.heap.size≤e))(hf:Z (w.heap.size≤f))[s:gI [a,b,c,d,e,f] W0 W]:Below w.heap.size w W:=Gj h (eM ha (eM hb (eM hc (eM hd (eM he (eM hf np))))))
theorem ND {w W0 W:World}{a b c d e f g:Nat}(h:Z (Below w.heap.size w W0))(ha:Z (w.heap.size≤a))(hb:Z (w.heap.size≤b))(hc:Z (w.heap.size≤c))(hd:Z (w.heap.size≤d))(he:Z (w.heap.size≤e))(hf:Z (w.heap.size≤f))(hg:Z (w.heap.size≤g))[s:gI [a,b,c,d,e,f,g] W0 W]:Below w.heap.size w W:=Gj h (eM ha (eM hb (eM hc (eM hd (eM he (eM hf (eM hg np)))))))
section
variable {P : Program} {ops : Array Oper} {Q : Exit → Act → World → Prop} {md : aaQ} {S : World → Prop} {ds : List Nat} {T : Bool × List (List Nat × List Nat)}
theorem a8(i:Nat)(N:Tmp)(hT:dt md ops=T){oi:Oper}{v:Value}{fuel:Nat}{l l':Array Bool}{a a':Act}{w:World}
 (h:eI P md ops Q S ds fuel l' a' w)(hi:ops[i]?=some oi:=by exact rfl)(hN:oi.dst=some N:=by exact rfl)
 (hl:l.setIfInBounds i true=l':=by simp only[List.setIfInBounds_toArray,List.set_cons_zero,List.set_cons_succ];rfl)
 (hc:Hb T l.toList l'.toList i=true:=by kernel_rfl)(hQ:∀c a w,Q (.panic c) (a.put oi.dst v) w→Q (.panic c) a w:=by exact fun _ _ _ h=>h)
 (hw:Region.wanted oi (yielded ops a.tmps)=true:=by rfl)(hr:∀w,(execOp a.eval oi).run P w= .ok (.value v) w:=by intro w';go_simp;with_reducible rfl)
 (ha:a.put (some N) v=a':=by simp only[Act.put,List.setIfInBounds_toArray,List.set_cons_zero,List.set_cons_succ,fx,gg];rfl):eI P md ops Q S ds (fuel+1) l a w:=
 Gg l' hi hN (Qk hT hc) hQ (Or.inl ⟨hw,hr⟩) ha h
theorem aV(i:Nat)(N:Tmp)(hT:dt md ops=T){oi:Oper}{fuel:Nat}{l l':Array Bool}{a a':Act}{w:World}
 (h:eI P md ops Q S ds fuel l' a' w)(hi:ops[i]?=some oi:=by exact rfl)(hN:oi.dst=some N:=by exact rfl)
 (hl:l.setIfInBounds i true=l':=by simp only[List.setIfInBounds_toArray,List.set_cons_zero,List.set_cons_succ];rfl)
 (hc:Hb T l.toList l'.toList i=true:=by kernel_rfl)(hQ:∀c a w,Q (.panic c) (a.put oi.dst undef) w→Q (.panic c) a w:=by exact fun _ _ _ h=>h)
 (hw:Region.wanted oi (yielded ops a.tmps)=false:=by rfl)
 (ha:a.put (some N) undef=a':=by simp only[Act.put,List.setIfInBounds_toArray,List.set_cons_zero,List.set_cons_succ,fx,gg];rfl):eI P md ops Q S ds (fuel+1) l a w:=
 Gg l' hi hN (Qk hT hc) hQ (Or.inr ⟨hw,rfl⟩) ha h
theorem bM(i:Nat)(N:Tmp)(hT:dt md ops=T){B:List Nat}(hB:fh T.2 B=true){oi:Oper}{v:Value}{fuel:Nat}{l l':Array Bool}{a a':Act}{w:World}(hS:S w)
 (hi:ops[i]?=some oi:=by exact rfl)(hN:oi.dst=some N:=by exact rfl)
 (hl:l.setIfInBounds i true=l':=by simp only[List.setIfInBounds_toArray,List.set_cons_zero,List.set_cons_succ];rfl)
 (hc:Kb T B ds l.toList l'.toList i=true:=by kernel_rfl)(hw:Region.wanted oi (yielded ops a.tmps)=true:=by rfl)
 (hr:∀w,S w→(execOp a.eval oi).run P w= .ok (.value v) w)(hQ:∀c a w,Q (.panic c) (a.put oi.dst v) w→Q (.panic c) a w:=by exact fun _ _ _ h=>h)
 (ha:a.put (some N) v=a':=by simp only[Act.put,List.setIfInBounds_toArray,List.set_cons_zero,List.set_cons_succ,fx,gg];rfl)(h:eI P md ops Q S ds fuel l' a' w):eI P md ops Q S ds (fuel+1) l a w:=
 Ge l' hi hN (Y2 hT hB hc) hQ (Or.inl ⟨hw,hr⟩) hS ha h
end
class py(W0 W:World):Prop where out:W0.heap.size≤W.heap.size
instance szL_refl(W:World):py W W:=⟨kV _⟩
instance szL_alloc(W0 W:World)(o:Obj)[s:py W0 W]:py W0 (W.alloc o):=⟨aaI s.out (dH (aag _ _) o).size⟩
instance szL_drewN(W0 W:World)(n:Nat)[s:py W0 W]:py W0 (W.drewN n):=⟨aaI s.out (dZ (aag 0 _) n).size⟩
instance szL_drew(W0 W:World)[s:py W0 W]:py W0 W.drew:=⟨aaI s.out (zG (aag 0 _)).size⟩
instance szL_set(W0 W:World)(p:Addr)(v:Value)[s:py W0 W]:py W0 (W.setCell p v):=⟨by simpa[abd]using s.out⟩
theorem NE {W0 W:World}{g q:Nat}{o:Obj}(h:Z (W0.heap[g]?=some o))(hq:q=W.heap.size)[s:py W0 W]:g≠q:=ek (by rw[hq];exact WR (j7 h.out) s.out)
theorem Vg {W0 W:World}{g q:Nat}{o:Obj}(h:Z (W0.heap[g]?=some o))(hq:q=W.heap.size)[s:py W0 W]:q≠g:=Ne.symm (NE h hq)
class m3(g:Nat)(W0 W:World):Prop where out:W0.heap.size≤W.heap.size∧∀k,k≠g→k<W0.heap.size→W.heap[k]?=W0.heap[k]?
theorem IW {g:Nat}{W0 W W1:World}(s:m3 g W0 W)(h:Below W.heap.size W W1):m3 g W0 W1:=⟨⟨aaI s.out.1 h.size,fun k hk hl=>(h.block k (WR hl s.out.1)).trans (s.out.2 k hk hl)⟩⟩
instance farL_refl(g:Nat)(W:World):m3 g W W:=⟨⟨kV _,fun _ _ _=>rfl⟩⟩
instance farL_alloc(g:Nat)(W0 W:World)(o:Obj)[s:m3 g W0 W]:m3 g W0 (W.alloc o):=IW s (dH (aag _ _) o)
instance farL_drewN(g:Nat)(W0 W:World)(n:Nat)[s:m3 g W0 W]:m3 g W0 (W.drewN n):=IW s (dZ (aag _ _) n)
instance farL_drew(g:Nat)(W0 W:World)[s:m3 g W0 W]:m3 g W0 W.drew:=IW s (zG (aag _ _))
instance farL_set(g:Nat)(W0 W:World)(j:Nat)(v:Value)[s:m3 g W0 W]:m3 g W0 (W.setCell ⟨g,j,none⟩ v):=⟨⟨by simpa[abd]using s.out.1,fun k hk hl=>(aa1 W ⟨g,j,none⟩ v k hk).trans (s.out.2 k hk hl)⟩⟩
theorem rf {α:Type}{d:Kd α}{e:Nat}{W0 W:World}{base:Nat}{ok:Nat→Prop}{v:Value}{xs:List α}{g t:Nat}{cells:Array Value}(h:Z (d.R e W0 base ok v xs))(b:Z (W0.heap[g]?=some (.cells cells t (0,0))))(ht:∀q,q∈e::d.E→q≠t:=by decide)[s:m3 g W0 W]:d.R e W base ok v xs:=Kd.am (Kd.GU (Kd.dv h.out b.out ht) (fun k hk hl=>s.out.2 k hk.2 hl)) (fun _ h=>h.1)
theorem rc {α:Type}{d:Kd α}{e:Nat}{W0 W:World}{base:Nat}{ok:Nat→Prop}{A:Option Addr}{n c:Nat}{xs:List α}{g t:Nat}{cells:Array Value}(h:Z (d.R e W0 base ok (.slice A n c) xs))(b:Z (W0.heap[g]?=some (.cells cells t (0,0))))(ht:∀q,q∈e::d.E→q≠t:=by decide)[s:m3 g W0 W]:d.C W A xs.length xs:=(Kd.cM (rf h b ht)).2.2
theorem kK {α:Type}{d:Kd α}{e:Nat}{W0 W:World}{base:Nat}{ok:Nat→Prop}{A:Option Addr}{n c:Nat}{xs:List α}(h:Z (d.R e W0 base ok (.slice A n c) xs))[s:gI [] W0 W]:d.C W A xs.length xs:=(Kd.cM (rr h.out)).2.2
theorem bf {W0 W:World}{g g':Nat}{o:Obj}(h:Z (W0.heap[g]?=some o))(hn:Z (g≠g'))[s:m3 g' W0 W]:W.heap[g]?=some o:=(s.out.2 g hn.out (j7 h.out)).trans h.out
theorem bb {W0 W W1:World}{g:Nat}{o:Obj}(h:Z (W0.heap[g]?=some o))(hb:Below W.heap.size W W1)[s:gI [] W0 W]:W1.heap[g]?=some o:=bq (bk h) hb
theorem bn {W0 W:World}{g q:Nat}{o:Obj}(h:Z (W0.heap[g]?=some o))(hq:q=W.heap.size)[s:gI [] W0 W]:g≠q:=by
 rw[hq];exact ek (j7 (bk h))
theorem bm {W0 W:World}{g q:Nat}{o:Obj}(h:Z (W0.heap[g]?=some o))(hq:q=W.heap.size)[s:gI [] W0 W]:q≠g:=Ne.symm (bn h hq)
theorem cz1 {w:World}{g:Nat}{t:TypeId}{a0:Value}(h:Z (w.heap[g]?=some (.cells #[a0] t (0,0)))):w.cell? ⟨g,0,none⟩=some a0:=(Y h.out 0).trans rfl
theorem fz1 {w:World}{g:Nat}{t:TypeId}{a0:Value}(h:Z (w.heap[g]?=some (.cells #[a0] t (0,0)))):w.frozen? ⟨g,0,none⟩=false:=dD h.out 0
theorem cz2 {w:World}{g:Nat}{t:TypeId}{a0 a1:Value}(h:Z (w.heap[g]?=some (.cells #[a0,a1] t (0,0)))):w.cell? ⟨g,0,none⟩=some a0∧w.cell? ⟨g,1,none⟩=some a1:=⟨(Y h.out 0).trans rfl,(Y h.out 1).trans rfl⟩
theorem fz2 {w:World}{g:Nat}{t:TypeId}{a0 a1:Value}(h:Z (w.heap[g]?=some (.cells #[a0,a1] t (0,0)))):w.frozen? ⟨g,0,none⟩=false∧w.frozen? ⟨g,1,none⟩=false:=⟨dD h.out 0,dD h.out 1⟩
theorem cz3 {w:World}{g:Nat}{t:TypeId}{a0 a1 a2:Value}(h:Z (w.heap[g]?=some (.cells #[a0,a1,a2] t (0,0)))):w.cell? ⟨g,0,none⟩=some a0∧w.cell? ⟨g,1,none⟩=some a1∧w.cell? ⟨g,2,none⟩=some a2:=⟨(Y h.out 0).trans rfl,(Y h.out 1).trans rfl,(Y h.out 2).trans rfl⟩
theorem fz3 {w:World}{g:Nat}{t:TypeId}{a0 a1 a2:Value}(h:Z (w.heap[g]?=some (.cells #[a0,a1,a2] t (0,0)))):w.frozen? ⟨g,0,none⟩=false∧w.frozen? ⟨g,1,none⟩=false∧w.frozen? ⟨g,2,none⟩=false:=⟨dD h.out 0,dD h.out 1,dD h.out 2⟩
theorem aT {w:World}{g:Nat}{t:TypeId}{a0 a1 a2 a3:Value}(h:Z (w.heap[g]?=some (.cells #[a0,a1,a2,a3] t (0,0)))):w.cell? ⟨g,0,none⟩=some a0∧w.cell? ⟨g,1,none⟩=some a1∧w.cell? ⟨g,2,none⟩=some a2∧w.cell? ⟨g,3,none⟩=some a3:=⟨(Y h.out 0).trans rfl,(Y h.out 1).trans rfl,(Y h.out 2).trans rfl,(Y h.out 3).trans rfl⟩
theorem aU {w:World}{g:Nat}{t:TypeId}{a0 a1 a2 a3:Value}(h:Z (w.heap[g]?=some (.cells #[a0,a1,a2,a3] t (0,0)))):w.frozen? ⟨g,0,none⟩=false∧w.frozen? ⟨g,1,none⟩=false∧w.frozen? ⟨g,2,none⟩=false∧w.frozen? ⟨g,3,none⟩=false:=⟨dD h.out 0,dD h.out 1,dD h.out 2,dD h.out 3⟩
theorem cz5 {w:World}{g:Nat}{t:TypeId}{a0 a1 a2 a3 a4:Value}(h:Z (w.heap[g]?=some (.cells #[a0,a1,a2,a3,a4] t (0,0)))):w.cell? ⟨g,0,none⟩=some a0∧w.cell? ⟨g,1,none⟩=some a1∧w.cell? ⟨g,2,none⟩=some a2∧w.cell? ⟨g,3,none⟩=some a3∧w.cell? ⟨g,4,none⟩=some a4:=⟨(Y h.out 0).trans rfl,(Y h.out 1).trans rfl,(Y h.out 2).trans rfl,(Y h.out 3).trans rfl,(Y h.out 4).trans rfl⟩
theorem fz5 {w:World}{g:Nat}{t:TypeId}{a0 a1 a2 a3 a4:Value}(h:Z (w.heap[g]?=some (.cells #[a0,a1,a2,a3,a4] t (0,0)))):w.frozen? ⟨g,0,none⟩=false∧w.frozen? ⟨g,1,none⟩=false∧w.frozen? ⟨g,2,none⟩=false∧w.frozen? ⟨g,3,none⟩=false∧w.frozen? ⟨g,4,none⟩=false:=⟨dD h.out 0,dD h.out 1,dD h.out 2,dD h.out 3,dD h.out 4⟩
theorem cz6 {w:World}{g:Nat}{t:TypeId}{a0 a1 a2 a3 a4 a5:Value}(h:Z (w.heap[g]?=some (.cells #[a0,a1,a2,a3,a4,a5] t (0,0)))):w.cell? ⟨g,0,none⟩=some a0∧w.cell? ⟨g,1,none⟩=some a1∧w.cell? ⟨g,2,none⟩=some a2∧w.cell? ⟨g,3,none⟩=some a3∧w.cell? ⟨g,4,none⟩=some a4∧w.cell? ⟨g,5,none⟩=some a5:=⟨(Y h.out 0).trans rfl,(Y h.out 1).trans rfl,(Y h.out 2).trans rfl,(Y h.out 3).trans rfl,(Y h.out 4).trans rfl,(Y h.out 5).trans rfl⟩
theorem fz6 {w:World}{g:Nat}{t:TypeId}{a0 a1 a2 a3 a4 a5:Value}(h:Z (w.heap[g]?=some (.cells #[a0,a1,a2,a3,a4,a5] t (0,0)))):w.frozen? ⟨g,0,none⟩=false∧w.frozen? ⟨g,1,none⟩=false∧w.frozen? ⟨g,2,none⟩=false∧w.frozen? ⟨g,3,none⟩=false∧w.frozen? ⟨g,4,none⟩=false∧w.frozen? ⟨g,5,none⟩=false:=⟨dD h.out 0,dD h.out 1,dD h.out 2,dD h.out 3,dD h.out 4,dD h.out 5⟩
theorem gL {P:Program}{ops:Array Oper}{Q:Exit→Act→World→Prop}{rest:List Oper}{oi:Oper}{a:Act}{w:World}(N:Option Tmp)(hd:oi.dst=N)(hg:oi.guard=none){f:FuncId}{fn:Func}{oa:Array Operand}{ts:Array TypeId}(hf:P.funcs[f]?=some fn)(hname:(fn.name== "runtime.NumGoroutine")=false)(hb:fn.body.isSome=true)(args:Array Value)
 (hop:oi.op= .call {callee:= .value (.func f),args:=oa,argTypes:=ts})
 (h:Calls P f args w fun e w'=>∃v,e= .returned v∧wpList P ops Q rest (a.put N v) w')(hargs:oa.map a.eval=args:=by(try simp only[List.map_toArray,List.map_cons,List.map_nil]);first|done|rfl|(simp only[List.length_drop,List.length_take];rfl)):wpList P ops Q (oi::rest) a w:=sn N hd hg hf hname hb args hop hargs h
theorem nr {α:Type}{d:Kd α}{e:Nat}{W0 W W1:World}{base:Nat}{ok:Nat→Prop}{v:Value}{xs:List α}(h:Z (d.R e W0 base ok v xs))(hb:Below W.heap.size W W1)[s:gI [] W0 W]:Z (d.R e W1 base ok v xs):=⟨Kd.bB (rr h.out) hb⟩
theorem nf {α:Type}{d:Kd α}{e:Nat}{W0 W W1:World}{base:Nat}{ok:Nat→Prop}{v:Value}{xs:List α}{g t:Nat}{cells:Array Value}(h:Z (d.R e W0 base ok v xs))(b:Z (W0.heap[g]?=some (.cells cells t (0,0))))(hb:Below W.heap.size W W1)(ht:∀q,q∈e::d.E→q≠t:=by decide)[s:m3 g W0 W]:Z (d.R e W1 base ok v xs):=⟨Kd.bB (rf h b ht) hb⟩
theorem nb {W0 W W1:World}{g:Nat}{o:Obj}(h:Z (W0.heap[g]?=some o))(hb:Below W.heap.size W W1)[s:gI [] W0 W]:Z (W1.heap[g]?=some o):=⟨bb h hb⟩
theorem cbn {α:Type}{d:Kd α}{w W0 W:World}{A:Option Addr}{n m:Nat}{l:List α}(h:Z (d.C w A n l))(hb:Z (Below w.heap.size w W0))(hn:n=m)[s:gI [] W0 W]:d.C W A m l:=hn▸cb h hb
theorem rm {α:Type}{d:Kd α}{e:Nat}{W0 W:World}{base:Nat}{ok ok':Nat→Prop}{v:Value}{xs:List α}(h:Z (d.R e W0 base ok v xs))(k:∀n,ok n→ok' n)[s:gI [] W0 W]:Z (d.R e W base ok' v xs):=⟨Kd.am (rr h.out) k⟩
class gm(l:List Nat)(W0 W:World):Prop where out:W0.heap.size≤W.heap.size∧∀k,k<W0.heap.size→¬(k∈l)→W.heap[k]?=W0.heap[k]?
theorem Ic {l:List Nat}{W0 W W1:World}(s:gm l W0 W)(h:Below W.heap.size W W1):gm l W0 W1:=⟨⟨aaI s.out.1 h.size,fun k hk hl=>(h.block k (WR hk s.out.1)).trans (s.out.2 k hk hl)⟩⟩
instance kpL_refl(l:List Nat)(W:World):gm l W W:=⟨⟨kV _,fun _ _ _=>rfl⟩⟩
instance kpL_alloc(l:List Nat)(W0 W:World)(o:Obj)[s:gm l W0 W]:gm l W0 (W.alloc o):=Ic s (dH (aag _ _) o)
instance kpL_drewN(l:List Nat)(W0 W:World)(n:Nat)[s:gm l W0 W]:gm l W0 (W.drewN n):=Ic s (dZ (aag _ _) n)
instance kpL_drew(l:List Nat)(W0 W:World)[s:gm l W0 W]:gm l W0 W.drew:=Ic s (zG (aag _ _))
instance kpL_set(l:List Nat)(W0 W:World)(g:Nat)(j:Nat)(v:Value)[i:F6 g l][s:gm l W0 W]:gm l W0 (W.setCell ⟨g,j,none⟩ v):=⟨⟨by simpa[abd]using s.out.1,fun k hk hl=>(aa1 W ⟨g,j,none⟩ v k (fun e=>hl (by rw[e];exact i.out))).trans (s.out.2 k hk hl)⟩⟩
theorem wL {w W0 W:World}{g:Nat}{l:List Nat}(h:Z (az w W0 g none))(hl:∀b,b∈l→w.heap.size≤b)[s:gm (g::l) W0 W]:az w W g none:=⟨aaI h.out.1 s.out.1,fun i hi hg hr=>(s.out.2 i (WR hi h.out.1) (fun hm=>(aaq.1 hm).elim hg (fun hm=>absurd (hl i hm) (Nat.not_le.2 hi)))).trans (h.out.2 i hi hg hr)⟩
theorem kr {w W0 W:World}{g:Nat}(h:Z (az w W0 g none))[s:gm (g::[]) W0 W]:az w W g none:=wL h np
theorem B5 {w W0 W:World}{g a:Nat}(h:Z (az w W0 g none))(ha:Z (w.heap.size≤a))[s:gm (g::[a]) W0 W]:az w W g none:=wL h (eM ha np)
theorem kL {w W0 W:World}{g a b:Nat}(h:Z (az w W0 g none))(ha:Z (w.heap.size≤a))(hb:Z (w.heap.size≤b))[s:gm (g::[a,b]) W0 W]:az w W g none:=wL h (eM ha (eM hb np))
theorem ks {w W0 W:World}{g a b c:Nat}(h:Z (az w W0 g none))(ha:Z (w.heap.size≤a))(hb:Z (w.heap.size≤b))(hc:Z (w.heap.size≤c))[s:gm (g::[a,b,c]) W0 W]:az w W g none:=wL h (eM ha (eM hb (eM hc np)))
theorem kq4 {w W0 W:World}{g a b c d:Nat}(h:Z (az w W0 g none))(ha:Z (w.heap.size≤a))(hb:Z (w.heap.size≤b))(hc:Z (w.heap.size≤c))(hd:Z (w.heap.size≤d))[s:gm (g::[a,b,c,d]) W0 W]:az w W g none:=wL h (eM ha (eM hb (eM hc (eM hd np))))
theorem kq5 {w W0 W:World}{g a b c d e:Nat}(h:Z (az w W0 g none))(ha:Z (w.heap.size≤a))(hb:Z (w.heap.size≤b))(hc:Z (w.heap.size≤c))(hd:Z (w.heap.size≤d))(he:Z (w.heap.size≤e))[s:gm (g::[a,b,c,d,e]) W0 W]:az w W g none:=wL h (eM ha (eM hb (eM hc (eM hd (eM he np)))))
theorem kq6 {w W0 W:World}{g a b c d e f:Nat}(h:Z (az w W0 g none))(ha:Z (w.heap.size≤a))(hb:Z (w.heap.size≤b))(hc:Z (w.heap.size≤c))(hd:Z (w.heap.size≤d))(he:Z (w.heap.size≤e))(hf:Z (w.heap.size≤f))[s:gm (g::[a,b,c,d,e,f]) W0 W]:az w W g none:=wL h (eM ha (eM hb (eM hc (eM hd (eM he (eM hf np))))))
theorem kq7 {w W0 W:World}{g a b c d e f m:Nat}(h:Z (az w W0 g none))(ha:Z (w.heap.size≤a))(hb:Z (w.heap.size≤b))(hc:Z (w.heap.size≤c))(hd:Z (w.heap.size≤d))(he:Z (w.heap.size≤e))(hf:Z (w.heap.size≤f))(hm:Z (w.heap.size≤m))[s:gm (g::[a,b,c,d,e,f,m]) W0 W]:az w W g none:=wL h (eM ha (eM hb (eM hc (eM hd (eM he (eM hf (eM hm np)))))))
theorem Ah {p:Prop}(h:p):Z p:=⟨h⟩
theorem od {p:Prop}[Decidable p](h:decide p=true:=by first|(with_reducible assumption)|assumption):p:=of_decide_eq_true h
theorem dM:¬(false=true):=by decide
theorem e3 {p:Prop}(h:p:=by first|rfl|(simp;done)|(simp[*];done)):p:=h
theorem gw {w W:World}{g:Nat}(hg:g=W.heap.size)(h:Below w.heap.size w W):Z (w.heap.size≤g):=⟨by rw[hg];exact eo h⟩
theorem nn {W0 W:World}{g q:Nat}{o:Obj}(h:Z (W0.heap[g]?=some o))(hq:q=W.heap.size)[s:gI [] W0 W]:Z (g≠q):=⟨bn h hq⟩
class rG(g t:Nat)(cs:Array Value)(cs':outParam (Array Value))(W0 W:World):Prop where out:W0.heap[g]?=some (.cells cs t (0,0))→W.heap[g]?=some (.cells cs' t (0,0))
instance putL_refl(g t:Nat)(cs:Array Value)(W:World):rG g t cs cs W W:=⟨fun h=>h⟩
instance putL_alloc(g t:Nat)(cs cs':Array Value)(W0 W:World)(o:Obj)[s:rG g t cs cs' W0 W]:rG g t cs cs' W0 (W.alloc o):=⟨fun h=>cE (s.out h) o⟩
instance putL_drewN(g t:Nat)(cs cs':Array Value)(W0 W:World)(n:Nat)[s:rG g t cs cs' W0 W]:rG g t cs cs' W0 (W.drewN n):=⟨fun h=>cS (s.out h) n⟩
instance putL_drew(g t:Nat)(cs cs':Array Value)(W0 W:World)[s:rG g t cs cs' W0 W]:rG g t cs cs' W0 W.drew:=⟨fun h=>aZ (s.out h)⟩
instance putL_set(g t:Nat)(cs cs':Array Value)(W0 W:World)(j:Nat)(v:Value)[s:rG g t cs cs' W0 W]:rG g t cs (cs'.setIfInBounds j v) W0 (W.setCell ⟨g,j,none⟩ v):=⟨fun h=>qK (s.out h) j v rfl⟩
theorem pb {g t:Nat}{cs cs' cs2:Array Value}{W0 W:World}(h:Z (W0.heap[g]?=some (.cells cs t (0,0))))[s:rG g t cs cs' W0 W](e:cs'=cs2:=by rfl):W.heap[g]?=some (.cells cs2 t (0,0)):=e▸s.out h.out
theorem hc {B:Nat}{w W:World}{p:Addr}{v:Value}(HB:Z (Below B w W))(h:w.cell? p=some v)(hl:p.block<B:=by exact World.block_lt_of_cell? _ _ (by assumption)):W.cell? p=some v:=(HB.out.cell hl).trans h
theorem br {P:Program}{ops:Array Oper}{Q:Exit→Act→World→Prop}{rest:List Oper}{o:Oper}{a:Act}{W:World}(N:Tmp)(t:TypeId)(cs:Array Value)
 (h:∀g,g=W.heap.size→∀w1,Z (w1.heap[g]?=some (.cells cs t (0,0)))→Below W.heap.size W w1→wpList P ops Q rest (a.put o.dst (.pointer (some ⟨g,0,none⟩))) w1)
 (hgd:o.guard=none:=by rfl)(hd:o.dst=some N:=by rfl)(hrun:(execOp a.eval o).run P W= .ok (.value (.pointer (some ⟨W.heap.size,0,none⟩))) (W.alloc (.cells cs t (0,0))):=by first|(go_simp;done)|(go_simp;rfl)):wpList P ops Q (o::rest) a W:=
 XH hgd hd hrun (fun g hg w1 hb hB=>h g hg w1 ⟨hb⟩ hB)
theorem nm {W0 W:World}{g q:Nat}{o:Obj}(h:Z (W0.heap[g]?=some o))(hq:q=W.heap.size)[s:gI [] W0 W]:Z (q≠g):=⟨bm h hq⟩
def TY:Option Int→Value
 |none=> .nilIface
 |some c=> .iface 0 (.int .i64 c)
theorem cH:TY none= .nilIface:=rfl
theorem cI(c:Int):TY (some c)= .iface 0 (.int .i64 c):=rfl
theorem a2s:(Tryd.prog.info? 5).map (fun i=>(i.zero,i.size,i.bytes))=some (some (.int .u8 0),1,1):=by kernel_rfl
theorem Gk:(Tryd.prog.info? 9).map (fun i=>(i.zero,i.size,i.bytes))=some (some (.string ⟨#[]⟩),1,16):=by kernel_rfl
theorem pK:(Tryd.prog.info? 36).map (fun i=>(i.zero,i.size,i.bytes))=some (some (.agg #[(.int .i64 0),(.int .i64 0),(.string ⟨#[]⟩),(.int .i64 0)]),4,40):=by kernel_rfl
structure aK where
 f0:Int
 f1:Int
 f2:ByteArray
 f3:Int
def gr:aK:=⟨(0:Int),(0:Int),(⟨#[]⟩:ByteArray),(0:Int)⟩
def bD:Kd aK:=Kd.Vf (Kd.pair (Kd.int .i64) (Kd.pair (Kd.int .i64) (Kd.pair Kd.string (Kd.int .i64)))) (fun x:aK=>(x.f0,x.f1,x.f2,x.f3))
theorem Y3 {w:World}{x:aK}{cs:List Value}(h:bD.K w x cs):cs=[.int .i64 x.f0,.int .i64 x.f1,.string x.f2,.int .i64 x.f3]:=by
 obtain⟨_,_,rfl,rfl,⟨_,_,rfl,rfl,⟨_,_,rfl,rfl,rfl⟩⟩⟩:=h;exact rfl
theorem kX {w:World}{base:Nat}{ok:Nat→Prop}{x:aK}{cs:List Value}(h:bD.M w base ok x cs):cs=[.int .i64 x.f0,.int .i64 x.f1,.string x.f2,.int .i64 x.f3]:=by
 obtain⟨_,_,rfl,rfl,⟨_,_,rfl,rfl,⟨_,_,rfl,rfl,rfl⟩⟩⟩:=h;exact rfl
theorem k36_mk(w:World)(x:aK):bD.K w x [.int .i64 x.f0,.int .i64 x.f1,.string x.f2,.int .i64 x.f3]:=⟨[.int .i64 x.f0],[.int .i64 x.f1,.string x.f2,.int .i64 x.f3],rfl,rfl,⟨[.int .i64 x.f1],[.string x.f2,.int .i64 x.f3],rfl,rfl,⟨[.string x.f2],[.int .i64 x.f3],rfl,rfl,rfl⟩⟩⟩
theorem ni(w:World)(base:Nat)(ok:Nat→Prop)(x:aK):bD.M w base ok x [.int .i64 x.f0,.int .i64 x.f1,.string x.f2,.int .i64 x.f3]:=⟨[.int .i64 x.f0],[.int .i64 x.f1,.string x.f2,.int .i64 x.f3],rfl,rfl,⟨[.int .i64 x.f1],[.string x.f2,.int .i64 x.f3],rfl,rfl,⟨[.string x.f2],[.int .i64 x.f3],rfl,rfl,rfl⟩⟩⟩
def J(xs:List aK)(i:Int):aK:=xs.getD i.toNat gr
theorem fW {w:World}{A:Option Addr}{n:Nat}{xs:List aK}(h:Kd.C bD w A n xs)(i:Int)(h0:0≤i)(h1:i<n):∃ad,A=some ad∧w.cell? (ad.add (i.toNat*4))=some (.int .i64 (J xs i).f0)∧w.cell? ⟨(ad.add (i.toNat*4)).block,(ad.add (i.toNat*4)).off+1,none⟩=some (.int .i64 (J xs i).f1)∧w.cell? ⟨(ad.add (i.toNat*4)).block,(ad.add (i.toNat*4)).off+2,none⟩=some (.string (J xs i).f2)∧w.cell? ⟨(ad.add (i.toNat*4)).block,(ad.add (i.toNat*4)).off+3,none⟩=some (.int .i64 (J xs i).f3):=by
 obtain⟨ad,c,e,_,hK,hc0⟩:=Kd.KY h gr i h0 h1;have hc:∀j u,c[j]?=some u→w.cell? (ad.add (i.toNat*4+j))=some u:=hc0;obtain rfl:=Y3 hK;exact⟨ad,e,hc 0 _ rfl,by rw[←IY _ _ 1 (by omega)];exact hc 1 _ rfl,by rw[←IY _ _ 2 (by omega)];exact hc 2 _ rfl,by rw[←IY _ _ 3 (by omega)];exact hc 3 _ rfl⟩
def Gl(xs:List (List aK))(i:Int):(List aK):=xs.getD i.toNat ([]:List aK)
theorem at_L4 {w:World}{A:Option Addr}{n:Nat}{xs:List (List aK)}(h:Kd.C (Kd.slice 36 bD) w A n xs)(i:Int)(h0:0≤i)(h1:i<n):∃ad A0 c0,A=some ad∧w.cell? (ad.add i.toNat)=some (.slice A0 (Gl xs i).length c0)∧(Gl xs i).length≤c0∧bD.C w A0 (Gl xs i).length (Gl xs i):=by
 obtain⟨ad,c,e,_,hK,hc0⟩:=Kd.KY h ([]:List aK) i h0 h1;have hc:∀j u,c[j]?=some u→w.cell? (ad.add (i.toNat*1+j))=some u:=hc0;obtain⟨A0,c0,rfl,l0,g0⟩:=hK;exact⟨ad,A0,c0,e,by have hq:=hc 0 _ rfl;rwa [Nat.mul_one,Nat.add_zero]at hq,l0,g0⟩
def Gm(xs:List (List Int))(i:Int):(List Int):=xs.getD i.toNat ([]:List Int)
theorem at_L5 {w:World}{A:Option Addr}{n:Nat}{xs:List (List Int)}(h:Kd.C (Kd.slice 5 (Kd.int .u8)) w A n xs)(i:Int)(h0:0≤i)(h1:i<n):∃ad A0 c0,A=some ad∧w.cell? (ad.add i.toNat)=some (.slice A0 (Gm xs i).length c0)∧(Gm xs i).length≤c0∧(Kd.int .u8).C w A0 (Gm xs i).length (Gm xs i):=by
 obtain⟨ad,c,e,_,hK,hc0⟩:=Kd.KY h ([]:List Int) i h0 h1;have hc:∀j u,c[j]?=some u→w.cell? (ad.add (i.toNat*1+j))=some u:=hc0;obtain⟨A0,c0,rfl,l0,g0⟩:=hK;exact⟨ad,A0,c0,e,by have hq:=hc 0 _ rfl;rwa [Nat.mul_one,Nat.add_zero]at hq,l0,g0⟩
theorem er {p:Prop}(h:p:=by first|rfl|(simp[cH,cI]<;>rfl)|(simp[*,cH,cI]<;>rfl)):p:=h
noncomputable instance:DecidableEq aK:=fun _ _=>Classical.propDecidable _
theorem hq {w W:World}{p:Addr}{v:Value}(HB:Z (Below w.heap.size w W))(h:w.cell? p=some v):W.cell? p=some v:=hc HB h (Fe _ _ h)
class oD(g b t:Nat)(cs:Array Value)(cs':outParam (Array Value))(W0 W:World):Prop where out:g≠b→W0.heap[g]?=some (.cells cs t (0,0))→W.heap[g]?=some (.cells cs' t (0,0))
instance putF_refl(g b t:Nat)(cs:Array Value)(W:World):oD g b t cs cs W W:=⟨fun _ h=>h⟩
instance putF_alloc(g b t:Nat)(cs cs':Array Value)(W0 W:World)(o:Obj)[s:oD g b t cs cs' W0 W]:oD g b t cs cs' W0 (W.alloc o):=⟨fun n h=>cE (s.out n h) o⟩
instance putF_drewN(g b t:Nat)(cs cs':Array Value)(W0 W:World)(n:Nat)[s:oD g b t cs cs' W0 W]:oD g b t cs cs' W0 (W.drewN n):=⟨fun m h=>cS (s.out m h) n⟩
instance putF_drew(g b t:Nat)(cs cs':Array Value)(W0 W:World)[s:oD g b t cs cs' W0 W]:oD g b t cs cs' W0 W.drew:=⟨fun m h=>aZ (s.out m h)⟩
instance putF_far(g b t:Nat)(cs cs':Array Value)(W0 W:World)(j:Nat)(v:Value)[s:oD g b t cs cs' W0 W]:oD g b t cs cs' W0 (W.setCell ⟨b,j,none⟩ v):=⟨fun m h=>ce (s.out m h) m _⟩
instance putF_set(g b t:Nat)(cs cs':Array Value)(W0 W:World)(j:Nat)(v:Value)[s:oD g b t cs cs' W0 W]:oD g b t cs (cs'.setIfInBounds j v) W0 (W.setCell ⟨g,j,none⟩ v):=⟨fun m h=>qK (s.out m h) j v rfl⟩
theorem oZ {g b t:Nat}{cs cs' cs2:Array Value}{W0 W:World}(h:Z (W0.heap[g]?=some (.cells cs t (0,0))))(n:Z (g≠b))[s:oD g b t cs cs' W0 W](e:cs'=cs2:=by rfl):W.heap[g]?=some (.cells cs2 t (0,0)):=e▸s.out n.out h.out
theorem g9 {α:Type}[BEq α][LawfulBEq α]{a b:α}(h:¬a=b):(a==b)=false:=beq_eq_false_iff_ne.mpr h
theorem gA {α:Type}[BEq α][LawfulBEq α]{a b:α}(h:¬a=b):(a !=b)=true:=bne_iff_ne.mpr h
theorem lV {α:Type}[BEq α][LawfulBEq α]{a b:α}(h:a=b):(a==b)=true:=beq_iff_eq.mpr h
theorem lW {α:Type}[BEq α][LawfulBEq α]{a b:α}(h:a=b):(a !=b)=false:=bne_eq_false_iff_eq.mpr h
theorem bV {p:Prop}[Decidable p](h:p):decide p=true:=decide_eq_true h
theorem ev {p:Prop}[Decidable p](h:¬p):decide p=false:=decide_eq_false h
theorem nq {P:Program}{ops:Array Oper}{Q:Exit→Act→World→Prop}{md:Region.Mode}{S:World→Prop}{ds:List Nat}(N:Nat){fuel:Nat}{l:Array Bool}{a b a':Act}{v:Value}{w:World}(h:eI P md ops Q S ds fuel l a' w)(h0:a=Act.put b (some N) v:=by rfl)(h1:Act.put b (some N) v=a':=by(simp only[Act.put,List.setIfInBounds_toArray,List.set_cons_zero,List.set_cons_succ,fx,gg];rfl)):eI P md ops Q S ds fuel l a w:=by
 subst h0;subst h1;exact h
theorem nw {P:Program}{ops:Array Oper}{Q:Exit→Act→World→Prop}{md:Region.Mode}{S:World→Prop}{ds:List Nat}{fuel:Nat}{l:Array Bool}{a a':Act}{w:World}(h:eI P md ops Q S ds fuel l a' w)(h1:a=a':=by first|(simp only[l3,Act.put,List.setIfInBounds_toArray,List.set_cons_zero,List.set_cons_succ];done)|(simp only[l3,Act.put,List.setIfInBounds_toArray,List.set_cons_zero,List.set_cons_succ];rfl)):eI P md ops Q S ds fuel l a w:=by
 subst h1;exact h
end Go.Proofs.YtgpjnkahgofpmaaDoor.G
