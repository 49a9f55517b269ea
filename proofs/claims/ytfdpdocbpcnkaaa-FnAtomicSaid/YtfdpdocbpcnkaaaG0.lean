-- Printed by a program of this session (drive.py, by way of the kit's print). Not trusted: Lean checks it.
import Derived.Test.YtfdpdocbpcnkaaaProg
import Derived.Test.YtfdpdocbpcnkaaaExt
import Derived.Test.YtfdpdocbpcnkaaaExt2
import Derived.Test.YtfdpdocbpcnkaaaClear
import Derived.Below
import Derived.Deep.Draws
import Derived.Deep.AppendLies
import Derived.Maps.AppendAt
import Derived.OwnWalk
import Derived.Laws.BytesArg
import Derived.Laws.MakeOwn
import Derived.Laws.OwnMore
import Derived.Deep.OwnRows
import Derived.Tactics
import Derived.Lib.ConvBytes
import Derived.Laws.Slices
import Derived.WalkKit
import Derived.KernelRfl
import Derived.RowKit3
import Derived.Deep.LoopGhost
import Derived.Deep.QuietTactic
import Derived.BigQuiet
import Derived.WideLaws
import Derived.Deep.DeepCutAuto
import Derived.Deep.CutBlock
import Derived.Deep.RegionHeld3
import Derived.Laws.Rows
import Derived.Lib.AppendStr
import Derived.ArgAppend
import Derived.Laws.IdiomCopy
import Derived.OrdersHeld
import Derived.Laws.BitsLemmas
import Derived.RowKit
import Derived.Shelf.Abstract
import Derived.Test.YtfdpdocbpcnkaaaWWords
open Go.RowKit.Below renaming refl→pv,heap_setCell→aaM
open List renaming setIfInBounds_toArray→JM,set_cons_zero→jG,set_cons_succ→kt,mem_cons→aaj,mem_singleton→abb
open Nat renaming le_refl→mz,le_trans→aak,lt_of_lt_of_le→aav
namespace Go.Proofs.Ytfdpdocbpcnkaaa.G
open Go.RowKit Go.Proofs.YtfdpdocbpcnkaaaW.PrintWords Go.Proofs.YtfdpdocbpcnkaaaW.PrintLast Go.Proofs.YtfdpdocbpcnkaaaW.PrintMore
attribute [local go_sem] tM tN tQ tR tA tB tO tP
set_option linter.unusedVariables false
set_option linter.unusedSimpArgs false
section
variable {P : Program} {ops : Array Oper} {Q : Exit → Act → World → Prop}
theorem qA {rest:List Oper}{o:Oper}{a:Act}{W:World}{t:Tmp}{ars:Array Operand}{ts:Array TypeId}(_ho:o.op= .call {callee:= .value (.tmp t),args:=ars,argTypes:=ts})(h:wpList P ops Q (o::rest) a W):wpList P ops Q (o::rest) a W:=h
theorem qL {rest:List Oper}{oi:Oper}{a:Act}{w:World}(N:Option Tmp)(hd:oi.dst=N)(hg:oi.guard=none){f:FuncId}{fn:Func}{t:Tmp}{lb:Array Value}{ars:Array Operand}{ts:Array TypeId}(hf:P.funcs[f]?=some fn)(hname:(fn.name== "runtime.NumGoroutine")=false)(hb:fn.body.isSome=true)(args:Array Value)
 (hop:oi.op= .call {callee:= .value (.tmp t),args:=ars,argTypes:=ts})(hv:a.eval (.tmp t)= .func (.func f) #[] lb)(hargs:ars.map a.eval++lb=args)
 (h:Calls P f args w fun e w'=>∃v,e= .returned v∧wpList P ops Q rest (a.put N v) w'):wpList P ops Q (oi::rest) a w:=by
 refine wpList_plain hg fun K hK=> ?_
 have he:=MA hf hname hb args w
 have hrun:(execOp a.eval oi).run P w= .ok (.enter f args) w:=by
  unfold execOp
  simp[hop,resolve,hv,Deferred.ofValue,invoke,hargs,he]
 unfold Oper.wp;rw[hrun,Oper.upon_enter]
 refine h.mono fun e w'' hh=> ?_
 obtain⟨v,rfl,hk⟩:=hh;subst hd;exact hK _ _ hk
end
class Hf(g:Nat)(l:List Nat):Prop where out:g∈l
instance inL_head(g:Nat)(l:List Nat):Hf g (g::l):=⟨List.mem_cons_self⟩
instance inL_tail(g h:Nat)(l:List Nat)[i:Hf g l]:Hf g (h::l):=⟨List.mem_cons_of_mem _ i.out⟩
class gp(l:List Nat)(W0 W:World):Prop where out:∀w:World,Below w.heap.size w W0→(∀g,g∈l→w.heap.size≤g)→Below w.heap.size w W
instance stL_refl(l:List Nat)(W:World):gp l W W:=⟨fun _ h _=>h⟩
instance stL_alloc(l:List Nat)(W0 W:World)(o:Obj)[s:gp l W0 W]:gp l W0 (W.alloc o):=⟨fun w h k=>mP (s.out w h k) o⟩
instance stL_drewN(l:List Nat)(W0 W:World)(n:Nat)[s:gp l W0 W]:gp l W0 (W.drewN n):=⟨fun w h k=>qk (s.out w h k) n⟩
instance stL_drew(l:List Nat)(W0 W:World)[s:gp l W0 W]:gp l W0 W.drew:=⟨fun w h k=>ia (s.out w h k)⟩
instance stL_set(l:List Nat)(W0 W:World)(g:Nat)(j:Nat)(v:Value)[i:Hf g l][s:gp l W0 W]:gp l W0 (W.setCell ⟨g,j,none⟩ v):=⟨fun w h k=>t9 (s.out w h k) (k g i.out)⟩
theorem bs {w W0 W:World}(h:aC (Below w.heap.size w W0))[s:gp [] W0 W]:Below w.heap.size w W:=s.out w h.out (fun _ hg=>by cases hg)
theorem aM {w W0 W:World}{a:Nat}(h:aC (Below w.heap.size w W0))(ha:aC (w.heap.size≤a))[s:gp [a] W0 W]:Below w.heap.size w W:=s.out w h.out (fun g hg=>by rw[abb.1 hg];exact ha.out)
theorem aW {w W0 W:World}{a b:Nat}(h:aC (Below w.heap.size w W0))(ha:aC (w.heap.size≤a))(hb:aC (w.heap.size≤b))[s:gp [a,b] W0 W]:Below w.heap.size w W:=s.out w h.out (fun g hg=>by
 rcases aaj.1 hg with rfl|hg
 ·exact ha.out
 ·rw[abb.1 hg];exact hb.out)
theorem be {w W0 W:World}{a b c:Nat}(h:aC (Below w.heap.size w W0))(ha:aC (w.heap.size≤a))(hb:aC (w.heap.size≤b))(hc:aC (w.heap.size≤c))[s:gp [a,b,c] W0 W]:Below w.heap.size w W:=s.out w h.out (fun g hg=>by
 rcases aaj.1 hg with rfl|hg
 ·exact ha.out
 ·rcases aaj.1 hg with rfl|hg
  ·exact hb.out
  ·rw[abb.1 hg];exact hc.out)
theorem M4 {W0 W:World}[s:gp [] W0 W]:Below W0.heap.size W0 W:=s.out W0 (pv _ _) (fun _ hg=>by cases hg)
theorem bk {W0 W:World}{g:Nat}{o:Obj}(h:aC (W0.heap[g]?=some o))[s:gp [] W0 W]:W.heap[g]?=some o:=dF h.out M4
theorem rr {α:Type}{d:Kd α}{e:Nat}{W0 W:World}{base:Nat}{ok:Nat→Prop}{v:Value}{xs:List α}(h:d.R e W0 base ok v xs)[s:gp [] W0 W]:d.R e W base ok v xs:=Kd.eD h M4
theorem cb {α:Type}{d:Kd α}{w W0 W:World}{A:Option Addr}{n:Nat}{l:List α}(h:aC (d.C w A n l))(hb:aC (Below w.heap.size w W0))[s:gp [] W0 W]:d.C W A n l:=Kd.lI (Kd.lI h.out hb.out) M4
theorem Jd {w W0 W:World}{l:List Nat}(h:aC (Below w.heap.size w W0))(hl:∀g,g∈l→w.heap.size≤g)[s:gp l W0 W]:Below w.heap.size w W:=s.out w h.out hl
theorem qM {w:World}:∀g,g∈([]:List Nat)→w.heap.size≤g:=fun _ h=>by cases h
theorem eJ {w:World}{a:Nat}{l:List Nat}(ha:aC (w.heap.size≤a))(h:∀g,g∈l→w.heap.size≤g):∀g,g∈a::l→w.heap.size≤g:=fun g hg=>by
 rcases aaj.1 hg with rfl|hg
 ·exact ha.out
 ·exact h g hg
theorem kQ {w W0 W:World}{a b c d:Nat}(h:aC (Below w.heap.size w W0))(ha:aC (w.heap.size≤a))(hb:aC (w.heap.size≤b))(hc:aC (w.heap.size≤c))(hd:aC (w.heap.size≤d))[s:gp [a,b,c,d] W0 W]:Below w.heap.size w W:=Jd h (eJ ha (eJ hb (eJ hc (eJ hd qM))))
theorem sD {w W0 W:World}{a b c d e:Nat}(h:aC (Below w.heap.size w W0))(ha:aC (w.heap.size≤a))(hb:aC (w.heap.size≤b))(hc:aC (w.heap.size≤c))(hd:aC (w.heap.size≤d))(he:aC (w.heap.size≤e))[s:gp [a,b,c,d,e] W0 W]:Below w.heap.size w W:=Jd h (eJ ha (eJ hb (eJ hc (eJ hd (eJ he qM)))))
theorem bs6 {w W0 W:World}{a b c d e f:Nat}(h:aC (Below w.heap.size w W0))(ha:aC (w.heap.size≤a))(hb:aC (w.heap.size≤b))(hc:aC (w.heap.size≤c))(hd:aC (w.heap.size≤d))(he:aC (w.heap.size≤e))(hf:aC (w.heap.size≤f))[s:gp [a,b,c,d,e,f] W0 W]:Below w.heap.size w W:=Jd h (eJ ha (eJ hb (eJ hc (eJ hd (eJ he (eJ hf qM))))))
theorem bs7 {w W0 W:World}{a b c d e f g:Nat}(h:aC (Below w.heap.size w W0))(ha:aC (w.heap.size≤a))(hb:aC (w.heap.size≤b))(hc:aC (w.heap.size≤c))(hd:aC (w.heap.size≤d))(he:aC (w.heap.size≤e))(hf:aC (w.heap.size≤f))(hg:aC (w.heap.size≤g))[s:gp [a,b,c,d,e,f,g] W0 W]:Below w.heap.size w W:=Jd h (eJ ha (eJ hb (eJ hc (eJ hd (eJ he (eJ hf (eJ hg qM)))))))
section
variable {P : Program} {ops : Array Oper} {Q : Exit → Act → World → Prop} {md : Region.Mode} {S : World → Prop} {ds : List Nat} {T : Bool × List (List Nat × List Nat)}
theorem b8(i:Nat)(N:Tmp)(hT:fN md ops=T){oi:Oper}{v:Value}{fuel:Nat}{l l':Array Bool}{a a':Act}{w:World}
 (h:eW P md ops Q S ds fuel l' a' w)(hi:ops[i]?=some oi:=by exact rfl)(hN:oi.dst=some N:=by exact rfl)
 (hl:l.setIfInBounds i true=l':=by simp only[List.setIfInBounds_toArray,List.set_cons_zero,List.set_cons_succ];rfl)
 (hc:KX T l.toList l'.toList i=true:=by kernel_rfl)(hQ:∀c a w,Q (.panic c) (a.put oi.dst v) w→Q (.panic c) a w:=by exact fun _ _ _ h=>h)
 (hw:Region.wanted oi (yielded ops a.tmps)=true:=by rfl)(hr:∀w,(execOp a.eval oi).run P w= .ok (.value v) w:=by intro w';go_simp;with_reducible rfl)
 (ha:a.put (some N) v=a':=by simp only[Act.put,List.setIfInBounds_toArray,List.set_cons_zero,List.set_cons_succ,dD,dP];rfl):eW P md ops Q S ds (fuel+1) l a w:=
 JZ l' hi hN (US hT hc) hQ (Or.inl ⟨hw,hr⟩) ha h
theorem pureU(i:Nat)(N:Tmp)(hT:fN md ops=T){oi:Oper}{fuel:Nat}{l l':Array Bool}{a a':Act}{w:World}
 (h:eW P md ops Q S ds fuel l' a' w)(hi:ops[i]?=some oi:=by exact rfl)(hN:oi.dst=some N:=by exact rfl)
 (hl:l.setIfInBounds i true=l':=by simp only[List.setIfInBounds_toArray,List.set_cons_zero,List.set_cons_succ];rfl)
 (hc:KX T l.toList l'.toList i=true:=by kernel_rfl)(hQ:∀c a w,Q (.panic c) (a.put oi.dst undef) w→Q (.panic c) a w:=by exact fun _ _ _ h=>h)
 (hw:Region.wanted oi (yielded ops a.tmps)=false:=by rfl)
 (ha:a.put (some N) undef=a':=by simp only[Act.put,List.setIfInBounds_toArray,List.set_cons_zero,List.set_cons_succ,dD,dP];rfl):eW P md ops Q S ds (fuel+1) l a w:=
 JZ l' hi hN (US hT hc) hQ (Or.inr ⟨hw,rfl⟩) ha h
theorem fZ(i:Nat)(N:Tmp)(hT:fN md ops=T){B:List Nat}(hB:ji T.2 B=true){oi:Oper}{v:Value}{fuel:Nat}{l l':Array Bool}{a a':Act}{w:World}(hS:S w)
 (hi:ops[i]?=some oi:=by exact rfl)(hN:oi.dst=some N:=by exact rfl)
 (hl:l.setIfInBounds i true=l':=by simp only[List.setIfInBounds_toArray,List.set_cons_zero,List.set_cons_succ];rfl)
 (hc:NO T B ds l.toList l'.toList i=true:=by kernel_rfl)(hw:Region.wanted oi (yielded ops a.tmps)=true:=by rfl)
 (hr:∀w,S w→(execOp a.eval oi).run P w= .ok (.value v) w)(hQ:∀c a w,Q (.panic c) (a.put oi.dst v) w→Q (.panic c) a w:=by exact fun _ _ _ h=>h)
 (ha:a.put (some N) v=a':=by simp only[Act.put,List.setIfInBounds_toArray,List.set_cons_zero,List.set_cons_succ,dD,dP];rfl)(h:eW P md ops Q S ds fuel l' a' w):eW P md ops Q S ds (fuel+1) l a w:=
 yE l' hi hN (M3 hT hB hc) hQ (Or.inl ⟨hw,hr⟩) hS ha h
end
class sE(W0 W:World):Prop where out:W0.heap.size≤W.heap.size
instance szL_refl(W:World):sE W W:=⟨mz _⟩
instance szL_alloc(W0 W:World)(o:Obj)[s:sE W0 W]:sE W0 (W.alloc o):=⟨aak s.out (mP (pv _ _) o).size⟩
instance szL_drewN(W0 W:World)(n:Nat)[s:sE W0 W]:sE W0 (W.drewN n):=⟨aak s.out (qk (pv 0 _) n).size⟩
instance szL_drew(W0 W:World)[s:sE W0 W]:sE W0 W.drew:=⟨aak s.out (D7 (pv 0 _)).size⟩
instance szL_set(W0 W:World)(p:Addr)(v:Value)[s:sE W0 W]:sE W0 (W.setCell p v):=⟨by simpa[World.setCell]using s.out⟩
theorem bnz {W0 W:World}{g q:Nat}{o:Obj}(h:aC (W0.heap[g]?=some o))(hq:q=W.heap.size)[s:sE W0 W]:g≠q:=Nat.ne_of_lt (by rw[hq];exact aav (gR h.out) s.out)
theorem bmz {W0 W:World}{g q:Nat}{o:Obj}(h:aC (W0.heap[g]?=some o))(hq:q=W.heap.size)[s:sE W0 W]:q≠g:=Ne.symm (bnz h hq)
class nV(g:Nat)(W0 W:World):Prop where out:W0.heap.size≤W.heap.size∧∀k,k≠g→k<W0.heap.size→W.heap[k]?=W0.heap[k]?
theorem LJ {g:Nat}{W0 W W1:World}(s:nV g W0 W)(h:Below W.heap.size W W1):nV g W0 W1:=⟨⟨aak s.out.1 h.size,fun k hk hl=>(h.block k (aav hl s.out.1)).trans (s.out.2 k hk hl)⟩⟩
instance farL_refl(g:Nat)(W:World):nV g W W:=⟨⟨mz _,fun _ _ _=>rfl⟩⟩
instance farL_alloc(g:Nat)(W0 W:World)(o:Obj)[s:nV g W0 W]:nV g W0 (W.alloc o):=LJ s (mP (pv _ _) o)
instance farL_drewN(g:Nat)(W0 W:World)(n:Nat)[s:nV g W0 W]:nV g W0 (W.drewN n):=LJ s (qk (pv _ _) n)
instance farL_drew(g:Nat)(W0 W:World)[s:nV g W0 W]:nV g W0 W.drew:=LJ s (D7 (pv _ _))
instance farL_set(g:Nat)(W0 W:World)(j:Nat)(v:Value)[s:nV g W0 W]:nV g W0 (W.setCell ⟨g,j,none⟩ v):=⟨⟨by simpa[World.setCell]using s.out.1,fun k hk hl=>(aaM W ⟨g,j,none⟩ v k hk).trans (s.out.2 k hk hl)⟩⟩
theorem rf {α:Type}{d:Kd α}{e:Nat}{W0 W:World}{base:Nat}{ok:Nat→Prop}{v:Value}{xs:List α}{g t:Nat}{cells:Array Value}(h:aC (d.R e W0 base ok v xs))(b:aC (W0.heap[g]?=some (.cells cells t (0,0))))(ht:∀q,q∈e::d.E→q≠t:=by decide)[s:nV g W0 W]:d.R e W base ok v xs:=Kd.aK (Kd.JN (Kd.b7 h.out b.out ht) (fun k hk hl=>s.out.2 k hk.2 hl)) (fun _ h=>h.1)
theorem rc {α:Type}{d:Kd α}{e:Nat}{W0 W:World}{base:Nat}{ok:Nat→Prop}{A:Option Addr}{n c:Nat}{xs:List α}{g t:Nat}{cells:Array Value}(h:aC (d.R e W0 base ok (.slice A n c) xs))(b:aC (W0.heap[g]?=some (.cells cells t (0,0))))(ht:∀q,q∈e::d.E→q≠t:=by decide)[s:nV g W0 W]:d.C W A xs.length xs:=(Kd.b9 (rf h b ht)).2.2
theorem bi {α:Type}{d:Kd α}{e:Nat}{W0 W:World}{base:Nat}{ok:Nat→Prop}{A:Option Addr}{n c:Nat}{xs:List α}(h:aC (d.R e W0 base ok (.slice A n c) xs))[s:gp [] W0 W]:d.C W A xs.length xs:=(Kd.b9 (rr h.out)).2.2
theorem bf {W0 W:World}{g g':Nat}{o:Obj}(h:aC (W0.heap[g]?=some o))(hn:aC (g≠g'))[s:nV g' W0 W]:W.heap[g]?=some o:=(s.out.2 g hn.out (gR h.out)).trans h.out
theorem bb {W0 W W1:World}{g:Nat}{o:Obj}(h:aC (W0.heap[g]?=some o))(hb:Below W.heap.size W W1)[s:gp [] W0 W]:W1.heap[g]?=some o:=dF (bk h) hb
theorem bn {W0 W:World}{g q:Nat}{o:Obj}(h:aC (W0.heap[g]?=some o))(hq:q=W.heap.size)[s:gp [] W0 W]:g≠q:=by
 rw[hq];exact Nat.ne_of_lt (gR (bk h))
theorem bm {W0 W:World}{g q:Nat}{o:Obj}(h:aC (W0.heap[g]?=some o))(hq:q=W.heap.size)[s:gp [] W0 W]:q≠g:=Ne.symm (bn h hq)
theorem Qz {w:World}{g:Nat}{t:TypeId}{a0:Value}(h:aC (w.heap[g]?=some (.cells #[a0] t (0,0)))):w.cell? ⟨g,0,none⟩=some a0:=(aQ h.out 0).trans rfl
theorem Hg {w:World}{g:Nat}{t:TypeId}{a0:Value}(h:aC (w.heap[g]?=some (.cells #[a0] t (0,0)))):w.frozen? ⟨g,0,none⟩=false:=d5 h.out 0
theorem bN {w:World}{g:Nat}{t:TypeId}{a0 a1:Value}(h:aC (w.heap[g]?=some (.cells #[a0,a1] t (0,0)))):w.cell? ⟨g,0,none⟩=some a0∧w.cell? ⟨g,1,none⟩=some a1:=⟨(aQ h.out 0).trans rfl,(aQ h.out 1).trans rfl⟩
theorem bI {w:World}{g:Nat}{t:TypeId}{a0 a1:Value}(h:aC (w.heap[g]?=some (.cells #[a0,a1] t (0,0)))):w.frozen? ⟨g,0,none⟩=false∧w.frozen? ⟨g,1,none⟩=false:=⟨d5 h.out 0,d5 h.out 1⟩
theorem cz3 {w:World}{g:Nat}{t:TypeId}{a0 a1 a2:Value}(h:aC (w.heap[g]?=some (.cells #[a0,a1,a2] t (0,0)))):w.cell? ⟨g,0,none⟩=some a0∧w.cell? ⟨g,1,none⟩=some a1∧w.cell? ⟨g,2,none⟩=some a2:=⟨(aQ h.out 0).trans rfl,(aQ h.out 1).trans rfl,(aQ h.out 2).trans rfl⟩
theorem fz3 {w:World}{g:Nat}{t:TypeId}{a0 a1 a2:Value}(h:aC (w.heap[g]?=some (.cells #[a0,a1,a2] t (0,0)))):w.frozen? ⟨g,0,none⟩=false∧w.frozen? ⟨g,1,none⟩=false∧w.frozen? ⟨g,2,none⟩=false:=⟨d5 h.out 0,d5 h.out 1,d5 h.out 2⟩
theorem b0 {w:World}{g:Nat}{t:TypeId}{a0 a1 a2 a3:Value}(h:aC (w.heap[g]?=some (.cells #[a0,a1,a2,a3] t (0,0)))):w.cell? ⟨g,0,none⟩=some a0∧w.cell? ⟨g,1,none⟩=some a1∧w.cell? ⟨g,2,none⟩=some a2∧w.cell? ⟨g,3,none⟩=some a3:=⟨(aQ h.out 0).trans rfl,(aQ h.out 1).trans rfl,(aQ h.out 2).trans rfl,(aQ h.out 3).trans rfl⟩
theorem b5 {w:World}{g:Nat}{t:TypeId}{a0 a1 a2 a3:Value}(h:aC (w.heap[g]?=some (.cells #[a0,a1,a2,a3] t (0,0)))):w.frozen? ⟨g,0,none⟩=false∧w.frozen? ⟨g,1,none⟩=false∧w.frozen? ⟨g,2,none⟩=false∧w.frozen? ⟨g,3,none⟩=false:=⟨d5 h.out 0,d5 h.out 1,d5 h.out 2,d5 h.out 3⟩
theorem cz5 {w:World}{g:Nat}{t:TypeId}{a0 a1 a2 a3 a4:Value}(h:aC (w.heap[g]?=some (.cells #[a0,a1,a2,a3,a4] t (0,0)))):w.cell? ⟨g,0,none⟩=some a0∧w.cell? ⟨g,1,none⟩=some a1∧w.cell? ⟨g,2,none⟩=some a2∧w.cell? ⟨g,3,none⟩=some a3∧w.cell? ⟨g,4,none⟩=some a4:=⟨(aQ h.out 0).trans rfl,(aQ h.out 1).trans rfl,(aQ h.out 2).trans rfl,(aQ h.out 3).trans rfl,(aQ h.out 4).trans rfl⟩
theorem fz5 {w:World}{g:Nat}{t:TypeId}{a0 a1 a2 a3 a4:Value}(h:aC (w.heap[g]?=some (.cells #[a0,a1,a2,a3,a4] t (0,0)))):w.frozen? ⟨g,0,none⟩=false∧w.frozen? ⟨g,1,none⟩=false∧w.frozen? ⟨g,2,none⟩=false∧w.frozen? ⟨g,3,none⟩=false∧w.frozen? ⟨g,4,none⟩=false:=⟨d5 h.out 0,d5 h.out 1,d5 h.out 2,d5 h.out 3,d5 h.out 4⟩
theorem cz6 {w:World}{g:Nat}{t:TypeId}{a0 a1 a2 a3 a4 a5:Value}(h:aC (w.heap[g]?=some (.cells #[a0,a1,a2,a3,a4,a5] t (0,0)))):w.cell? ⟨g,0,none⟩=some a0∧w.cell? ⟨g,1,none⟩=some a1∧w.cell? ⟨g,2,none⟩=some a2∧w.cell? ⟨g,3,none⟩=some a3∧w.cell? ⟨g,4,none⟩=some a4∧w.cell? ⟨g,5,none⟩=some a5:=⟨(aQ h.out 0).trans rfl,(aQ h.out 1).trans rfl,(aQ h.out 2).trans rfl,(aQ h.out 3).trans rfl,(aQ h.out 4).trans rfl,(aQ h.out 5).trans rfl⟩
theorem fz6 {w:World}{g:Nat}{t:TypeId}{a0 a1 a2 a3 a4 a5:Value}(h:aC (w.heap[g]?=some (.cells #[a0,a1,a2,a3,a4,a5] t (0,0)))):w.frozen? ⟨g,0,none⟩=false∧w.frozen? ⟨g,1,none⟩=false∧w.frozen? ⟨g,2,none⟩=false∧w.frozen? ⟨g,3,none⟩=false∧w.frozen? ⟨g,4,none⟩=false∧w.frozen? ⟨g,5,none⟩=false:=⟨d5 h.out 0,d5 h.out 1,d5 h.out 2,d5 h.out 3,d5 h.out 4,d5 h.out 5⟩
theorem gL {P:Program}{ops:Array Oper}{Q:Exit→Act→World→Prop}{rest:List Oper}{oi:Oper}{a:Act}{w:World}(N:Option Tmp)(hd:oi.dst=N)(hg:oi.guard=none){f:FuncId}{fn:Func}{oa:Array Operand}{ts:Array TypeId}(hf:P.funcs[f]?=some fn)(hname:(fn.name== "runtime.NumGoroutine")=false)(hb:fn.body.isSome=true)(args:Array Value)
 (hop:oi.op= .call {callee:= .value (.func f),args:=oa,argTypes:=ts})
 (h:Calls P f args w fun e w'=>∃v,e= .returned v∧wpList P ops Q rest (a.put N v) w')(hargs:oa.map a.eval=args:=by(try simp only[List.map_toArray,List.map_cons,List.map_nil]);first|done|rfl|(simp only[List.length_drop,List.length_take];rfl)):wpList P ops Q (oi::rest) a w:=UR N hd hg hf hname hb args hop hargs h
theorem nr {α:Type}{d:Kd α}{e:Nat}{W0 W W1:World}{base:Nat}{ok:Nat→Prop}{v:Value}{xs:List α}(h:aC (d.R e W0 base ok v xs))(hb:Below W.heap.size W W1)[s:gp [] W0 W]:aC (d.R e W1 base ok v xs):=⟨Kd.eD (rr h.out) hb⟩
theorem nf {α:Type}{d:Kd α}{e:Nat}{W0 W W1:World}{base:Nat}{ok:Nat→Prop}{v:Value}{xs:List α}{g t:Nat}{cells:Array Value}(h:aC (d.R e W0 base ok v xs))(b:aC (W0.heap[g]?=some (.cells cells t (0,0))))(hb:Below W.heap.size W W1)(ht:∀q,q∈e::d.E→q≠t:=by decide)[s:nV g W0 W]:aC (d.R e W1 base ok v xs):=⟨Kd.eD (rf h b ht) hb⟩
theorem nb {W0 W W1:World}{g:Nat}{o:Obj}(h:aC (W0.heap[g]?=some o))(hb:Below W.heap.size W W1)[s:gp [] W0 W]:aC (W1.heap[g]?=some o):=⟨bb h hb⟩
theorem cbn {α:Type}{d:Kd α}{w W0 W:World}{A:Option Addr}{n m:Nat}{l:List α}(h:aC (d.C w A n l))(hb:aC (Below w.heap.size w W0))(hn:n=m)[s:gp [] W0 W]:d.C W A m l:=hn▸cb h hb
theorem rm {α:Type}{d:Kd α}{e:Nat}{W0 W:World}{base:Nat}{ok ok':Nat→Prop}{v:Value}{xs:List α}(h:aC (d.R e W0 base ok v xs))(k:∀n,ok n→ok' n)[s:gp [] W0 W]:aC (d.R e W base ok' v xs):=⟨Kd.aK (rr h.out) k⟩
class iR(l:List Nat)(W0 W:World):Prop where out:W0.heap.size≤W.heap.size∧∀k,k<W0.heap.size→¬(k∈l)→W.heap[k]?=W0.heap[k]?
theorem LR {l:List Nat}{W0 W W1:World}(s:iR l W0 W)(h:Below W.heap.size W W1):iR l W0 W1:=⟨⟨aak s.out.1 h.size,fun k hk hl=>(h.block k (aav hk s.out.1)).trans (s.out.2 k hk hl)⟩⟩
instance kpL_refl(l:List Nat)(W:World):iR l W W:=⟨⟨mz _,fun _ _ _=>rfl⟩⟩
instance kpL_alloc(l:List Nat)(W0 W:World)(o:Obj)[s:iR l W0 W]:iR l W0 (W.alloc o):=LR s (mP (pv _ _) o)
instance kpL_drewN(l:List Nat)(W0 W:World)(n:Nat)[s:iR l W0 W]:iR l W0 (W.drewN n):=LR s (qk (pv _ _) n)
instance kpL_drew(l:List Nat)(W0 W:World)[s:iR l W0 W]:iR l W0 W.drew:=LR s (D7 (pv _ _))
instance kpL_set(l:List Nat)(W0 W:World)(g:Nat)(j:Nat)(v:Value)[i:Hf g l][s:iR l W0 W]:iR l W0 (W.setCell ⟨g,j,none⟩ v):=⟨⟨by simpa[World.setCell]using s.out.1,fun k hk hl=>(aaM W ⟨g,j,none⟩ v k (fun e=>hl (by rw[e];exact i.out))).trans (s.out.2 k hk hl)⟩⟩
theorem wV {w W0 W:World}{g:Nat}{l:List Nat}(h:aC (aT w W0 g none))(hl:∀b,b∈l→w.heap.size≤b)[s:iR (g::l) W0 W]:aT w W g none:=⟨aak h.out.1 s.out.1,fun i hi hg hr=>(s.out.2 i (aav hi h.out.1) (fun hm=>(aaj.1 hm).elim hg (fun hm=>absurd (hl i hm) (Nat.not_le.2 hi)))).trans (h.out.2 i hi hg hr)⟩
theorem e8 {w W0 W:World}{g:Nat}(h:aC (aT w W0 g none))[s:iR (g::[]) W0 W]:aT w W g none:=wV h qM
theorem fQ {w W0 W:World}{g a:Nat}(h:aC (aT w W0 g none))(ha:aC (w.heap.size≤a))[s:iR (g::[a]) W0 W]:aT w W g none:=wV h (eJ ha qM)
theorem dp {w W0 W:World}{g a b:Nat}(h:aC (aT w W0 g none))(ha:aC (w.heap.size≤a))(hb:aC (w.heap.size≤b))[s:iR (g::[a,b]) W0 W]:aT w W g none:=wV h (eJ ha (eJ hb qM))
theorem eO {w W0 W:World}{g a b c:Nat}(h:aC (aT w W0 g none))(ha:aC (w.heap.size≤a))(hb:aC (w.heap.size≤b))(hc:aC (w.heap.size≤c))[s:iR (g::[a,b,c]) W0 W]:aT w W g none:=wV h (eJ ha (eJ hb (eJ hc qM)))
theorem kq4 {w W0 W:World}{g a b c d:Nat}(h:aC (aT w W0 g none))(ha:aC (w.heap.size≤a))(hb:aC (w.heap.size≤b))(hc:aC (w.heap.size≤c))(hd:aC (w.heap.size≤d))[s:iR (g::[a,b,c,d]) W0 W]:aT w W g none:=wV h (eJ ha (eJ hb (eJ hc (eJ hd qM))))
theorem kq5 {w W0 W:World}{g a b c d e:Nat}(h:aC (aT w W0 g none))(ha:aC (w.heap.size≤a))(hb:aC (w.heap.size≤b))(hc:aC (w.heap.size≤c))(hd:aC (w.heap.size≤d))(he:aC (w.heap.size≤e))[s:iR (g::[a,b,c,d,e]) W0 W]:aT w W g none:=wV h (eJ ha (eJ hb (eJ hc (eJ hd (eJ he qM)))))
theorem kq6 {w W0 W:World}{g a b c d e f:Nat}(h:aC (aT w W0 g none))(ha:aC (w.heap.size≤a))(hb:aC (w.heap.size≤b))(hc:aC (w.heap.size≤c))(hd:aC (w.heap.size≤d))(he:aC (w.heap.size≤e))(hf:aC (w.heap.size≤f))[s:iR (g::[a,b,c,d,e,f]) W0 W]:aT w W g none:=wV h (eJ ha (eJ hb (eJ hc (eJ hd (eJ he (eJ hf qM))))))
theorem kq7 {w W0 W:World}{g a b c d e f m:Nat}(h:aC (aT w W0 g none))(ha:aC (w.heap.size≤a))(hb:aC (w.heap.size≤b))(hc:aC (w.heap.size≤c))(hd:aC (w.heap.size≤d))(he:aC (w.heap.size≤e))(hf:aC (w.heap.size≤f))(hm:aC (w.heap.size≤m))[s:iR (g::[a,b,c,d,e,f,m]) W0 W]:aT w W g none:=wV h (eJ ha (eJ hb (eJ hc (eJ hd (eJ he (eJ hf (eJ hm qM)))))))
theorem Ah {p:Prop}(h:p):aC p:=⟨h⟩
theorem od {p:Prop}[Decidable p](h:decide p=true:=by first|(with_reducible assumption)|assumption):p:=of_decide_eq_true h
theorem cg:¬(false=true):=by decide
theorem e3 {p:Prop}(h:p:=by first|rfl|(simp;done)|(simp[*];done)):p:=h
theorem gw {w W:World}{g:Nat}(hg:g=W.heap.size)(h:Below w.heap.size w W):aC (w.heap.size≤g):=⟨by rw[hg];exact bJ h⟩
theorem nn {W0 W:World}{g q:Nat}{o:Obj}(h:aC (W0.heap[g]?=some o))(hq:q=W.heap.size)[s:gp [] W0 W]:aC (g≠q):=⟨bn h hq⟩
theorem az {P:Program}{ops:Array Oper}{Q:Exit→Act→World→Prop}{rest:List Oper}{o:Oper}{a:Act}{W:World}(N:Tmp)(t:TypeId)(cs:Array Value)
 (h:∀g,g=W.heap.size→∀w1,aC (w1.heap[g]?=some (.cells cs t (0,0)))→Below W.heap.size W w1→wpList P ops Q rest (a.put o.dst (.pointer (some ⟨g,0,none⟩))) w1)
 (hgd:o.guard=none:=by rfl)(hd:o.dst=some N:=by rfl)(hrun:(execOp a.eval o).run P W= .ok (.value (.pointer (some ⟨W.heap.size,0,none⟩))) (W.alloc (.cells cs t (0,0))):=by first|(go_simp;done)|(go_simp;rfl)):wpList P ops Q (o::rest) a W:=
 Zb hgd hd hrun (fun g hg w1 hb hB=>h g hg w1 ⟨hb⟩ hB)
theorem nm {W0 W:World}{g q:Nat}{o:Obj}(h:aC (W0.heap[g]?=some o))(hq:q=W.heap.size)[s:gp [] W0 W]:aC (q≠g):=⟨bm h hq⟩
def Wt:Option Int→Value
 |none=> .nilIface
 |some c=> .iface 0 (.int .i64 c)
theorem Ru:Wt none= .nilIface:=rfl
theorem Rv(c:Int):Wt (some c)= .iface 0 (.int .i64 c):=rfl
theorem Uc:(Try.prog.info? 3).map (fun i=>(i.zero,i.size,i.bytes))=some (some (.int .i64 0),1,8):=by kernel_rfl
theorem a3n:(Try.prog.info? 4).map (fun i=>(i.zero,i.size,i.bytes))=some (some (.bool false),1,1):=by kernel_rfl
theorem EO:(Try.prog.info? 5).map (fun i=>(i.zero,i.size,i.bytes))=some (some (.int .u8 0),1,1):=by kernel_rfl
theorem ll:(Try.prog.info? 9).map (fun i=>(i.zero,i.size,i.bytes))=some (some (.string ⟨#[]⟩),1,16):=by kernel_rfl
theorem pF:(Try.prog.info? 64).map (fun i=>(i.zero,i.size,i.bytes))=some (some (.agg #[(.int .i64 0),(.string ⟨#[]⟩)]),2,24):=by kernel_rfl
structure S64 where
 f0:Int
 f1:ByteArray
def dB:S64:=⟨(0:Int),(⟨#[]⟩:ByteArray)⟩
def bS:Kd S64:=Kd.YL (Kd.pair (Kd.int .i64) Kd.string) (fun x:S64=>(x.f0,x.f1))
theorem a0k {w:World}{x:S64}{cs:List Value}(h:bS.K w x cs):cs=[.int .i64 x.f0,.string x.f1]:=by
 obtain⟨_,_,rfl,rfl,rfl⟩:=h;exact rfl
theorem k64_openM {w:World}{base:Nat}{ok:Nat→Prop}{x:S64}{cs:List Value}(h:bS.M w base ok x cs):cs=[.int .i64 x.f0,.string x.f1]:=by
 obtain⟨_,_,rfl,rfl,rfl⟩:=h;exact rfl
theorem k64_mk(w:World)(x:S64):bS.K w x [.int .i64 x.f0,.string x.f1]:=⟨[.int .i64 x.f0],[.string x.f1],rfl,rfl,rfl⟩
theorem xE(w:World)(base:Nat)(ok:Nat→Prop)(x:S64):bS.M w base ok x [.int .i64 x.f0,.string x.f1]:=⟨[.int .i64 x.f0],[.string x.f1],rfl,rfl,rfl⟩
def aH(xs:List S64)(i:Int):S64:=xs.getD i.toNat dB
theorem g8 {w:World}{A:Option Addr}{n:Nat}{xs:List S64}(h:Kd.C bS w A n xs)(i:Int)(h0:0≤i)(h1:i<n):∃ad,A=some ad∧w.cell? (ad.add (i.toNat*2))=some (.int .i64 (aH xs i).f0)∧w.cell? ⟨(ad.add (i.toNat*2)).block,(ad.add (i.toNat*2)).off+1,none⟩=some (.string (aH xs i).f1):=by
 obtain⟨ad,c,e,_,hK,hc0⟩:=Kd.NM h dB i h0 h1;have hc:∀j u,c[j]?=some u→w.cell? (ad.add (i.toNat*2+j))=some u:=hc0;obtain rfl:=a0k hK;exact⟨ad,e,hc 0 _ rfl,by rw[←ZX _ _ 1 (by omega)];exact hc 1 _ rfl⟩
def Je(xs:List (List ByteArray))(i:Int):(List ByteArray):=xs.getD i.toNat ([]:List ByteArray)
theorem at_L5 {w:World}{A:Option Addr}{n:Nat}{xs:List (List ByteArray)}(h:Kd.C (Kd.slice 9 Kd.string) w A n xs)(i:Int)(h0:0≤i)(h1:i<n):∃ad A0 c0,A=some ad∧w.cell? (ad.add i.toNat)=some (.slice A0 (Je xs i).length c0)∧(Je xs i).length≤c0∧Kd.string.C w A0 (Je xs i).length (Je xs i):=by
 obtain⟨ad,c,e,_,hK,hc0⟩:=Kd.NM h ([]:List ByteArray) i h0 h1;have hc:∀j u,c[j]?=some u→w.cell? (ad.add (i.toNat*1+j))=some u:=hc0;obtain⟨A0,c0,rfl,l0,g0⟩:=hK;exact⟨ad,A0,c0,e,by have hq:=hc 0 _ rfl;rwa [Nat.mul_one,Nat.add_zero]at hq,l0,g0⟩
def Jf(xs:List (List Int))(i:Int):(List Int):=xs.getD i.toNat ([]:List Int)
theorem at_L6 {w:World}{A:Option Addr}{n:Nat}{xs:List (List Int)}(h:Kd.C (Kd.slice 5 (Kd.int .u8)) w A n xs)(i:Int)(h0:0≤i)(h1:i<n):∃ad A0 c0,A=some ad∧w.cell? (ad.add i.toNat)=some (.slice A0 (Jf xs i).length c0)∧(Jf xs i).length≤c0∧(Kd.int .u8).C w A0 (Jf xs i).length (Jf xs i):=by
 obtain⟨ad,c,e,_,hK,hc0⟩:=Kd.NM h ([]:List Int) i h0 h1;have hc:∀j u,c[j]?=some u→w.cell? (ad.add (i.toNat*1+j))=some u:=hc0;obtain⟨A0,c0,rfl,l0,g0⟩:=hK;exact⟨ad,A0,c0,e,by have hq:=hc 0 _ rfl;rwa [Nat.mul_one,Nat.add_zero]at hq,l0,g0⟩
theorem er {p:Prop}(h:p:=by first|rfl|(simp[Ru,Rv]<;>rfl)|(simp[*,Ru,Rv]<;>rfl)):p:=h
noncomputable instance:DecidableEq S64:=fun _ _=>Classical.propDecidable _
end Go.Proofs.Ytfdpdocbpcnkaaa.G
