-- Printed by a program of this session (drive.py, by way of the kit's print). Not trusted: Lean checks it.
import Derived.Test.YtmbjmacpigojjaaProg
import Derived.Test.YtmbjmacpigojjaaExt
import Derived.Test.YtmbjmacpigojjaaExt2
import Derived.Test.YtmbjmacpigojjaaClear
import Derived.Below
import Derived.Deep.Draws
import Derived.Deep.AppendLies
import Derived.Maps.AppendAt
import Derived.OwnWalk
import Derived.Laws.BytesArg
import Derived.Laws.MakeOwn
import Derived.Laws.OwnMore
import Derived.Deep.OwnRows
import Derived.Tactics
import Derived.Lib.ConvBytes
import Derived.Laws.Slices
import Derived.WalkKit
import Derived.KernelRfl
import Derived.RowKit3
import Derived.Deep.LoopGhost
import Derived.Deep.QuietTactic
import Derived.BigQuiet
import Derived.WideLaws
import Derived.Deep.DeepCutAuto
import Derived.Deep.CutBlock
import Derived.Deep.RegionHeld3
import Derived.Laws.Rows
import Derived.Lib.AppendStr
import Derived.ArgAppend
import Derived.Laws.IdiomCopy
import Derived.OrdersHeld
import Derived.Laws.BitsLemmas
import Derived.RowKit
import Derived.Shelf.Abstract
import Derived.Test.YtmbjmacpigojjaaWWords
open Go.RowKit.Below renaming refl→qB,heap_setCell→aaN
open List renaming setIfInBounds_toArray→Ok,set_cons_zero→mr,set_cons_succ→mQ,mem_cons→aai,mem_singleton→abo
open Nat renaming le_refl→lQ,le_trans→aaj,lt_of_lt_of_le→aaH,add_zero→abc,mul_one→abt
namespace Go.Proofs.Ytmbjmacpigojjaa.G
open Go.RowKit Go.Proofs.YtmbjmacpigojjaaW.PrintWords Go.Proofs.YtmbjmacpigojjaaW.PrintLast Go.Proofs.YtmbjmacpigojjaaW.PrintMore
attribute [local go_sem] uf ug uk ul uV uW uh ui
set_option linter.unusedVariables false
set_option linter.unusedSimpArgs false
section
variable {P : Program} {ops : Array Oper} {Q : Exit → Act → World → Prop}
theorem tQ {rest:List Oper}{o:Oper}{a:Act}{W:World}{t:Tmp}{ars:Array Operand}{ts:Array TypeId}(_ho:o.op= .call {callee:= .value (.tmp t),args:=ars,argTypes:=ts})(h:wpList P ops Q (o::rest) a W):wpList P ops Q (o::rest) a W:=h
theorem tb {rest:List Oper}{oi:Oper}{a:Act}{w:World}(N:Option Tmp)(hd:oi.dst=N)(hg:oi.guard=none){f:FuncId}{fn:Func}{t:Tmp}{lb:Array Value}{ars:Array Operand}{ts:Array TypeId}(hf:P.funcs[f]?=some fn)(hname:(fn.name== "runtime.NumGoroutine")=false)(hb:fn.body.isSome=true)(args:Array Value)
 (hop:oi.op= .call {callee:= .value (.tmp t),args:=ars,argTypes:=ts})(hv:a.eval (.tmp t)= .func (.func f) #[] lb)(hargs:ars.map a.eval++lb=args)
 (h:Calls P f args w fun e w'=>∃v,e= .returned v∧wpList P ops Q rest (a.put N v) w'):wpList P ops Q (oi::rest) a w:=by
 refine wpList_plain hg fun K hK=> ?_
 have he:=N2 hf hname hb args w
 have hrun:(execOp a.eval oi).run P w= .ok (.enter f args) w:=by
  unfold execOp
  simp[hop,resolve,hv,Deferred.ofValue,invoke,hargs,he]
 unfold Oper.wp;rw[hrun,Oper.upon_enter]
 refine h.mono fun e w'' hh=> ?_
 obtain⟨v,rfl,hk⟩:=hh;subst hd;exact hK _ _ hk
end
class I0(g:Nat)(l:List Nat):Prop where out:g∈l
instance inL_head(g:Nat)(l:List Nat):I0 g (g::l):=⟨List.mem_cons_self⟩
instance inL_tail(g h:Nat)(l:List Nat)[i:I0 g l]:I0 g (h::l):=⟨List.mem_cons_of_mem _ i.out⟩
class iN(l:List Nat)(W0 W:World):Prop where out:∀w:World,Below w.heap.size w W0→(∀g,g∈l→w.heap.size≤g)→Below w.heap.size w W
instance stL_refl(l:List Nat)(W:World):iN l W W:=⟨fun _ h _=>h⟩
instance stL_alloc(l:List Nat)(W0 W:World)(o:Obj)[s:iN l W0 W]:iN l W0 (W.alloc o):=⟨fun w h k=>oD (s.out w h k) o⟩
instance stL_drewN(l:List Nat)(W0 W:World)(n:Nat)[s:iN l W0 W]:iN l W0 (W.drewN n):=⟨fun w h k=>sG (s.out w h k) n⟩
instance stL_drew(l:List Nat)(W0 W:World)[s:iN l W0 W]:iN l W0 W.drew:=⟨fun w h k=>jg (s.out w h k)⟩
instance stL_set(l:List Nat)(W0 W:World)(g:Nat)(j:Nat)(v:Value)[i:I0 g l][s:iN l W0 W]:iN l W0 (W.setCell ⟨g,j,none⟩ v):=⟨fun w h k=>wd (s.out w h k) (k g i.out)⟩
theorem bs {w W0 W:World}(h:a9 (Below w.heap.size w W0))[s:iN [] W0 W]:Below w.heap.size w W:=s.out w h.out (fun _ hg=>by cases hg)
theorem aZ {w W0 W:World}{a:Nat}(h:a9 (Below w.heap.size w W0))(ha:a9 (w.heap.size≤a))[s:iN [a] W0 W]:Below w.heap.size w W:=s.out w h.out (fun g hg=>by rw[abo.1 hg];exact ha.out)
theorem aj {w W0 W:World}{a b:Nat}(h:a9 (Below w.heap.size w W0))(ha:a9 (w.heap.size≤a))(hb:a9 (w.heap.size≤b))[s:iN [a,b] W0 W]:Below w.heap.size w W:=s.out w h.out (fun g hg=>by
 rcases aai.1 hg with rfl|hg
 ·exact ha.out
 ·rw[abo.1 hg];exact hb.out)
theorem br {w W0 W:World}{a b c:Nat}(h:a9 (Below w.heap.size w W0))(ha:a9 (w.heap.size≤a))(hb:a9 (w.heap.size≤b))(hc:a9 (w.heap.size≤c))[s:iN [a,b,c] W0 W]:Below w.heap.size w W:=s.out w h.out (fun g hg=>by
 rcases aai.1 hg with rfl|hg
 ·exact ha.out
 ·rcases aai.1 hg with rfl|hg
  ·exact hb.out
  ·rw[abo.1 hg];exact hc.out)
theorem Mm {W0 W:World}[s:iN [] W0 W]:Below W0.heap.size W0 W:=s.out W0 (qB _ _) (fun _ hg=>by cases hg)
theorem bk {W0 W:World}{g:Nat}{o:Obj}(h:a9 (W0.heap[g]?=some o))[s:iN [] W0 W]:W.heap[g]?=some o:=cS h.out Mm
theorem rr {α:Type}{d:Kd α}{e:Nat}{W0 W:World}{base:Nat}{ok:Nat→Prop}{v:Value}{xs:List α}(h:d.R e W0 base ok v xs)[s:iN [] W0 W]:d.R e W base ok v xs:=Kd.fT h Mm
theorem cb {α:Type}{d:Kd α}{w W0 W:World}{A:Option Addr}{n:Nat}{l:List α}(h:a9 (d.C w A n l))(hb:a9 (Below w.heap.size w W0))[s:iN [] W0 W]:d.C W A n l:=Kd.mT (Kd.mT h.out hb.out) Mm
theorem Ju {w W0 W:World}{l:List Nat}(h:a9 (Below w.heap.size w W0))(hl:∀g,g∈l→w.heap.size≤g)[s:iN l W0 W]:Below w.heap.size w W:=s.out w h.out hl
theorem rX {w:World}:∀g,g∈([]:List Nat)→w.heap.size≤g:=fun _ h=>by cases h
theorem fU {w:World}{a:Nat}{l:List Nat}(ha:a9 (w.heap.size≤a))(h:∀g,g∈l→w.heap.size≤g):∀g,g∈a::l→w.heap.size≤g:=fun g hg=>by
 rcases aai.1 hg with rfl|hg
 ·exact ha.out
 ·exact h g hg
theorem r9 {w W0 W:World}{a b c d:Nat}(h:a9 (Below w.heap.size w W0))(ha:a9 (w.heap.size≤a))(hb:a9 (w.heap.size≤b))(hc:a9 (w.heap.size≤c))(hd:a9 (w.heap.size≤d))[s:iN [a,b,c,d] W0 W]:Below w.heap.size w W:=Ju h (fU ha (fU hb (fU hc (fU hd rX))))
theorem dx {w W0 W:World}{a b c d e:Nat}(h:a9 (Below w.heap.size w W0))(ha:a9 (w.heap.size≤a))(hb:a9 (w.heap.size≤b))(hc:a9 (w.heap.size≤c))(hd:a9 (w.heap.size≤d))(he:a9 (w.heap.size≤e))[s:iN [a,b,c,d,e] W0 W]:Below w.heap.size w W:=Ju h (fU ha (fU hb (fU hc (fU hd (fU he rX)))))
theorem lO {w W0 W:World}{a b c d e f:Nat}(h:a9 (Below w.heap.size w W0))(ha:a9 (w.heap.size≤a))(hb:a9 (w.heap.size≤b))(hc:a9 (w.heap.size≤c))(hd:a9 (w.heap.size≤d))(he:a9 (w.heap.size≤e))(hf:a9 (w.heap.size≤f))[s:iN [a,b,c,d,e,f] W0 W]:Below w.heap.size w W:=Ju h (fU ha (fU hb (fU hc (fU hd (fU he (fU hf rX))))))
theorem bs7 {w W0 W:World}{a b c d e f g:Nat}(h:a9 (Below w.heap.size w W0))(ha:a9 (w.heap.size≤a))(hb:a9 (w.heap.size≤b))(hc:a9 (w.heap.size≤c))(hd:a9 (w.heap.size≤d))(he:a9 (w.heap.size≤e))(hf:a9 (w.heap.size≤f))(hg:a9 (w.heap.size≤g))[s:iN [a,b,c,d,e,f,g] W0 W]:Below w.heap.size w W:=Ju h (fU ha (fU hb (fU hc (fU hd (fU he (fU hf (fU hg rX)))))))
section
variable {P : Program} {ops : Array Oper} {Q : Exit → Act → World → Prop} {md : Region.Mode} {S : World → Prop} {ds : List Nat} {T : Bool × List (List Nat × List Nat)}
theorem bZ(i:Nat)(N:Tmp)(hT:gh md ops=T){oi:Oper}{v:Value}{fuel:Nat}{l l':Array Bool}{a a':Act}{w:World}
 (h:fl P md ops Q S ds fuel l' a' w)(hi:ops[i]?=some oi:=by exact rfl)(hN:oi.dst=some N:=by exact rfl)
 (hl:l.setIfInBounds i true=l':=by simp only[List.setIfInBounds_toArray,List.set_cons_zero,List.set_cons_succ];rfl)
 (hc:L8 T l.toList l'.toList i=true:=by kernel_rfl)(hQ:∀c a w,Q (.panic c) (a.put oi.dst v) w→Q (.panic c) a w:=by exact fun _ _ _ h=>h)
 (hw:Region.wanted oi (yielded ops a.tmps)=true:=by rfl)(hr:∀w,(execOp a.eval oi).run P w= .ok (.value v) w:=by intro w';go_simp;with_reducible rfl)
 (ha:a.put (some N) v=a':=by simp only[Act.put,List.setIfInBounds_toArray,List.set_cons_zero,List.set_cons_succ,eK,eT];rfl):fl P md ops Q S ds (fuel+1) l a w:=
 Jr l' hi hN (XP hT hc) hQ (Or.inl ⟨hw,hr⟩) ha h
theorem pureU(i:Nat)(N:Tmp)(hT:gh md ops=T){oi:Oper}{fuel:Nat}{l l':Array Bool}{a a':Act}{w:World}
 (h:fl P md ops Q S ds fuel l' a' w)(hi:ops[i]?=some oi:=by exact rfl)(hN:oi.dst=some N:=by exact rfl)
 (hl:l.setIfInBounds i true=l':=by simp only[List.setIfInBounds_toArray,List.set_cons_zero,List.set_cons_succ];rfl)
 (hc:L8 T l.toList l'.toList i=true:=by kernel_rfl)(hQ:∀c a w,Q (.panic c) (a.put oi.dst undef) w→Q (.panic c) a w:=by exact fun _ _ _ h=>h)
 (hw:Region.wanted oi (yielded ops a.tmps)=false:=by rfl)
 (ha:a.put (some N) undef=a':=by simp only[Act.put,List.setIfInBounds_toArray,List.set_cons_zero,List.set_cons_succ,eK,eT];rfl):fl P md ops Q S ds (fuel+1) l a w:=
 Jr l' hi hN (XP hT hc) hQ (Or.inr ⟨hw,rfl⟩) ha h
theorem gy(i:Nat)(N:Tmp)(hT:gh md ops=T){B:List Nat}(hB:kc T.2 B=true){oi:Oper}{v:Value}{fuel:Nat}{l l':Array Bool}{a a':Act}{w:World}(hS:S w)
 (hi:ops[i]?=some oi:=by exact rfl)(hN:oi.dst=some N:=by exact rfl)
 (hl:l.setIfInBounds i true=l':=by simp only[List.setIfInBounds_toArray,List.set_cons_zero,List.set_cons_succ];rfl)
 (hc:OR T B ds l.toList l'.toList i=true:=by kernel_rfl)(hw:Region.wanted oi (yielded ops a.tmps)=true:=by rfl)
 (hr:∀w,S w→(execOp a.eval oi).run P w= .ok (.value v) w)(hQ:∀c a w,Q (.panic c) (a.put oi.dst v) w→Q (.panic c) a w:=by exact fun _ _ _ h=>h)
 (ha:a.put (some N) v=a':=by simp only[Act.put,List.setIfInBounds_toArray,List.set_cons_zero,List.set_cons_succ,eK,eT];rfl)(h:fl P md ops Q S ds fuel l' a' w):fl P md ops Q S ds (fuel+1) l a w:=
 zY l' hi hN (Ml hT hB hc) hQ (Or.inl ⟨hw,hr⟩) hS ha h
end
class tL(W0 W:World):Prop where out:W0.heap.size≤W.heap.size
instance szL_refl(W:World):tL W W:=⟨lQ _⟩
instance szL_alloc(W0 W:World)(o:Obj)[s:tL W0 W]:tL W0 (W.alloc o):=⟨aaj s.out (oD (qB _ _) o).size⟩
instance szL_drewN(W0 W:World)(n:Nat)[s:tL W0 W]:tL W0 (W.drewN n):=⟨aaj s.out (sG (qB 0 _) n).size⟩
instance szL_drew(W0 W:World)[s:tL W0 W]:tL W0 W.drew:=⟨aaj s.out (Dy (qB 0 _)).size⟩
instance szL_set(W0 W:World)(p:Addr)(v:Value)[s:tL W0 W]:tL W0 (W.setCell p v):=⟨by simpa[World.setCell]using s.out⟩
theorem bnz {W0 W:World}{g q:Nat}{o:Obj}(h:a9 (W0.heap[g]?=some o))(hq:q=W.heap.size)[s:tL W0 W]:g≠q:=Nat.ne_of_lt (by rw[hq];exact aaH (iy h.out) s.out)
theorem bmz {W0 W:World}{g q:Nat}{o:Obj}(h:a9 (W0.heap[g]?=some o))(hq:q=W.heap.size)[s:tL W0 W]:q≠g:=Ne.symm (bnz h hq)
class oz(g:Nat)(W0 W:World):Prop where out:W0.heap.size≤W.heap.size∧∀k,k≠g→k<W0.heap.size→W.heap[k]?=W0.heap[k]?
theorem Lx {g:Nat}{W0 W W1:World}(s:oz g W0 W)(h:Below W.heap.size W W1):oz g W0 W1:=⟨⟨aaj s.out.1 h.size,fun k hk hl=>(h.block k (aaH hl s.out.1)).trans (s.out.2 k hk hl)⟩⟩
instance farL_refl(g:Nat)(W:World):oz g W W:=⟨⟨lQ _,fun _ _ _=>rfl⟩⟩
instance farL_alloc(g:Nat)(W0 W:World)(o:Obj)[s:oz g W0 W]:oz g W0 (W.alloc o):=Lx s (oD (qB _ _) o)
instance farL_drewN(g:Nat)(W0 W:World)(n:Nat)[s:oz g W0 W]:oz g W0 (W.drewN n):=Lx s (sG (qB _ _) n)
instance farL_drew(g:Nat)(W0 W:World)[s:oz g W0 W]:oz g W0 W.drew:=Lx s (Dy (qB _ _))
instance farL_set(g:Nat)(W0 W:World)(j:Nat)(v:Value)[s:oz g W0 W]:oz g W0 (W.setCell ⟨g,j,none⟩ v):=⟨⟨by simpa[World.setCell]using s.out.1,fun k hk hl=>(aaN W ⟨g,j,none⟩ v k hk).trans (s.out.2 k hk hl)⟩⟩
theorem rf {α:Type}{d:Kd α}{e:Nat}{W0 W:World}{base:Nat}{ok:Nat→Prop}{v:Value}{xs:List α}{g t:Nat}{cells:Array Value}(h:a9 (d.R e W0 base ok v xs))(b:a9 (W0.heap[g]?=some (.cells cells t (0,0))))(ht:∀q,q∈e::d.E→q≠t:=by decide)[s:oz g W0 W]:d.R e W base ok v xs:=Kd.aH (Kd.Ja (Kd.al h.out b.out ht) (fun k hk hl=>s.out.2 k hk.2 hl)) (fun _ h=>h.1)
theorem rc {α:Type}{d:Kd α}{e:Nat}{W0 W:World}{base:Nat}{ok:Nat→Prop}{A:Option Addr}{n c:Nat}{xs:List α}{g t:Nat}{cells:Array Value}(h:a9 (d.R e W0 base ok (.slice A n c) xs))(b:a9 (W0.heap[g]?=some (.cells cells t (0,0))))(ht:∀q,q∈e::d.E→q≠t:=by decide)[s:oz g W0 W]:d.C W A xs.length xs:=(Kd.aq (rf h b ht)).2.2
theorem bd {α:Type}{d:Kd α}{e:Nat}{W0 W:World}{base:Nat}{ok:Nat→Prop}{A:Option Addr}{n c:Nat}{xs:List α}(h:a9 (d.R e W0 base ok (.slice A n c) xs))[s:iN [] W0 W]:d.C W A xs.length xs:=(Kd.aq (rr h.out)).2.2
theorem bf {W0 W:World}{g g':Nat}{o:Obj}(h:a9 (W0.heap[g]?=some o))(hn:a9 (g≠g'))[s:oz g' W0 W]:W.heap[g]?=some o:=(s.out.2 g hn.out (iy h.out)).trans h.out
theorem bb {W0 W W1:World}{g:Nat}{o:Obj}(h:a9 (W0.heap[g]?=some o))(hb:Below W.heap.size W W1)[s:iN [] W0 W]:W1.heap[g]?=some o:=cS (bk h) hb
theorem bn {W0 W:World}{g q:Nat}{o:Obj}(h:a9 (W0.heap[g]?=some o))(hq:q=W.heap.size)[s:iN [] W0 W]:g≠q:=by
 rw[hq];exact Nat.ne_of_lt (iy (bk h))
theorem bm {W0 W:World}{g q:Nat}{o:Obj}(h:a9 (W0.heap[g]?=some o))(hq:q=W.heap.size)[s:iN [] W0 W]:q≠g:=Ne.symm (bn h hq)
theorem cz1 {w:World}{g:Nat}{t:TypeId}{a0:Value}(h:a9 (w.heap[g]?=some (.cells #[a0] t (0,0)))):w.cell? ⟨g,0,none⟩=some a0:=(ab h.out 0).trans rfl
theorem fz1 {w:World}{g:Nat}{t:TypeId}{a0:Value}(h:a9 (w.heap[g]?=some (.cells #[a0] t (0,0)))):w.frozen? ⟨g,0,none⟩=false:=ee h.out 0
theorem cH {w:World}{g:Nat}{t:TypeId}{a0 a1:Value}(h:a9 (w.heap[g]?=some (.cells #[a0,a1] t (0,0)))):w.cell? ⟨g,0,none⟩=some a0∧w.cell? ⟨g,1,none⟩=some a1:=⟨(ab h.out 0).trans rfl,(ab h.out 1).trans rfl⟩
theorem cD {w:World}{g:Nat}{t:TypeId}{a0 a1:Value}(h:a9 (w.heap[g]?=some (.cells #[a0,a1] t (0,0)))):w.frozen? ⟨g,0,none⟩=false∧w.frozen? ⟨g,1,none⟩=false:=⟨ee h.out 0,ee h.out 1⟩
theorem cz3 {w:World}{g:Nat}{t:TypeId}{a0 a1 a2:Value}(h:a9 (w.heap[g]?=some (.cells #[a0,a1,a2] t (0,0)))):w.cell? ⟨g,0,none⟩=some a0∧w.cell? ⟨g,1,none⟩=some a1∧w.cell? ⟨g,2,none⟩=some a2:=⟨(ab h.out 0).trans rfl,(ab h.out 1).trans rfl,(ab h.out 2).trans rfl⟩
theorem fz3 {w:World}{g:Nat}{t:TypeId}{a0 a1 a2:Value}(h:a9 (w.heap[g]?=some (.cells #[a0,a1,a2] t (0,0)))):w.frozen? ⟨g,0,none⟩=false∧w.frozen? ⟨g,1,none⟩=false∧w.frozen? ⟨g,2,none⟩=false:=⟨ee h.out 0,ee h.out 1,ee h.out 2⟩
theorem b9 {w:World}{g:Nat}{t:TypeId}{a0 a1 a2 a3:Value}(h:a9 (w.heap[g]?=some (.cells #[a0,a1,a2,a3] t (0,0)))):w.cell? ⟨g,0,none⟩=some a0∧w.cell? ⟨g,1,none⟩=some a1∧w.cell? ⟨g,2,none⟩=some a2∧w.cell? ⟨g,3,none⟩=some a3:=⟨(ab h.out 0).trans rfl,(ab h.out 1).trans rfl,(ab h.out 2).trans rfl,(ab h.out 3).trans rfl⟩
theorem bA {w:World}{g:Nat}{t:TypeId}{a0 a1 a2 a3:Value}(h:a9 (w.heap[g]?=some (.cells #[a0,a1,a2,a3] t (0,0)))):w.frozen? ⟨g,0,none⟩=false∧w.frozen? ⟨g,1,none⟩=false∧w.frozen? ⟨g,2,none⟩=false∧w.frozen? ⟨g,3,none⟩=false:=⟨ee h.out 0,ee h.out 1,ee h.out 2,ee h.out 3⟩
theorem cz5 {w:World}{g:Nat}{t:TypeId}{a0 a1 a2 a3 a4:Value}(h:a9 (w.heap[g]?=some (.cells #[a0,a1,a2,a3,a4] t (0,0)))):w.cell? ⟨g,0,none⟩=some a0∧w.cell? ⟨g,1,none⟩=some a1∧w.cell? ⟨g,2,none⟩=some a2∧w.cell? ⟨g,3,none⟩=some a3∧w.cell? ⟨g,4,none⟩=some a4:=⟨(ab h.out 0).trans rfl,(ab h.out 1).trans rfl,(ab h.out 2).trans rfl,(ab h.out 3).trans rfl,(ab h.out 4).trans rfl⟩
theorem fz5 {w:World}{g:Nat}{t:TypeId}{a0 a1 a2 a3 a4:Value}(h:a9 (w.heap[g]?=some (.cells #[a0,a1,a2,a3,a4] t (0,0)))):w.frozen? ⟨g,0,none⟩=false∧w.frozen? ⟨g,1,none⟩=false∧w.frozen? ⟨g,2,none⟩=false∧w.frozen? ⟨g,3,none⟩=false∧w.frozen? ⟨g,4,none⟩=false:=⟨ee h.out 0,ee h.out 1,ee h.out 2,ee h.out 3,ee h.out 4⟩
theorem cz6 {w:World}{g:Nat}{t:TypeId}{a0 a1 a2 a3 a4 a5:Value}(h:a9 (w.heap[g]?=some (.cells #[a0,a1,a2,a3,a4,a5] t (0,0)))):w.cell? ⟨g,0,none⟩=some a0∧w.cell? ⟨g,1,none⟩=some a1∧w.cell? ⟨g,2,none⟩=some a2∧w.cell? ⟨g,3,none⟩=some a3∧w.cell? ⟨g,4,none⟩=some a4∧w.cell? ⟨g,5,none⟩=some a5:=⟨(ab h.out 0).trans rfl,(ab h.out 1).trans rfl,(ab h.out 2).trans rfl,(ab h.out 3).trans rfl,(ab h.out 4).trans rfl,(ab h.out 5).trans rfl⟩
theorem fz6 {w:World}{g:Nat}{t:TypeId}{a0 a1 a2 a3 a4 a5:Value}(h:a9 (w.heap[g]?=some (.cells #[a0,a1,a2,a3,a4,a5] t (0,0)))):w.frozen? ⟨g,0,none⟩=false∧w.frozen? ⟨g,1,none⟩=false∧w.frozen? ⟨g,2,none⟩=false∧w.frozen? ⟨g,3,none⟩=false∧w.frozen? ⟨g,4,none⟩=false∧w.frozen? ⟨g,5,none⟩=false:=⟨ee h.out 0,ee h.out 1,ee h.out 2,ee h.out 3,ee h.out 4,ee h.out 5⟩
theorem gL {P:Program}{ops:Array Oper}{Q:Exit→Act→World→Prop}{rest:List Oper}{oi:Oper}{a:Act}{w:World}(N:Option Tmp)(hd:oi.dst=N)(hg:oi.guard=none){f:FuncId}{fn:Func}{oa:Array Operand}{ts:Array TypeId}(hf:P.funcs[f]?=some fn)(hname:(fn.name== "runtime.NumGoroutine")=false)(hb:fn.body.isSome=true)(args:Array Value)
 (hop:oi.op= .call {callee:= .value (.func f),args:=oa,argTypes:=ts})
 (h:Calls P f args w fun e w'=>∃v,e= .returned v∧wpList P ops Q rest (a.put N v) w')(hargs:oa.map a.eval=args:=by(try simp only[List.map_toArray,List.map_cons,List.map_nil]);first|done|rfl|(simp only[List.length_drop,List.length_take];rfl)):wpList P ops Q (oi::rest) a w:=Ek N hd hg hf hname hb args hop hargs h
theorem nr {α:Type}{d:Kd α}{e:Nat}{W0 W W1:World}{base:Nat}{ok:Nat→Prop}{v:Value}{xs:List α}(h:a9 (d.R e W0 base ok v xs))(hb:Below W.heap.size W W1)[s:iN [] W0 W]:a9 (d.R e W1 base ok v xs):=⟨Kd.fT (rr h.out) hb⟩
theorem nf {α:Type}{d:Kd α}{e:Nat}{W0 W W1:World}{base:Nat}{ok:Nat→Prop}{v:Value}{xs:List α}{g t:Nat}{cells:Array Value}(h:a9 (d.R e W0 base ok v xs))(b:a9 (W0.heap[g]?=some (.cells cells t (0,0))))(hb:Below W.heap.size W W1)(ht:∀q,q∈e::d.E→q≠t:=by decide)[s:oz g W0 W]:a9 (d.R e W1 base ok v xs):=⟨Kd.fT (rf h b ht) hb⟩
theorem nb {W0 W W1:World}{g:Nat}{o:Obj}(h:a9 (W0.heap[g]?=some o))(hb:Below W.heap.size W W1)[s:iN [] W0 W]:a9 (W1.heap[g]?=some o):=⟨bb h hb⟩
theorem cbn {α:Type}{d:Kd α}{w W0 W:World}{A:Option Addr}{n m:Nat}{l:List α}(h:a9 (d.C w A n l))(hb:a9 (Below w.heap.size w W0))(hn:n=m)[s:iN [] W0 W]:d.C W A m l:=hn▸cb h hb
theorem rm {α:Type}{d:Kd α}{e:Nat}{W0 W:World}{base:Nat}{ok ok':Nat→Prop}{v:Value}{xs:List α}(h:a9 (d.R e W0 base ok v xs))(k:∀n,ok n→ok' n)[s:iN [] W0 W]:a9 (d.R e W base ok' v xs):=⟨Kd.aH (rr h.out) k⟩
class iw(l:List Nat)(W0 W:World):Prop where out:W0.heap.size≤W.heap.size∧∀k,k<W0.heap.size→¬(k∈l)→W.heap[k]?=W0.heap[k]?
theorem M5 {l:List Nat}{W0 W W1:World}(s:iw l W0 W)(h:Below W.heap.size W W1):iw l W0 W1:=⟨⟨aaj s.out.1 h.size,fun k hk hl=>(h.block k (aaH hk s.out.1)).trans (s.out.2 k hk hl)⟩⟩
instance kpL_refl(l:List Nat)(W:World):iw l W W:=⟨⟨lQ _,fun _ _ _=>rfl⟩⟩
instance kpL_alloc(l:List Nat)(W0 W:World)(o:Obj)[s:iw l W0 W]:iw l W0 (W.alloc o):=M5 s (oD (qB _ _) o)
instance kpL_drewN(l:List Nat)(W0 W:World)(n:Nat)[s:iw l W0 W]:iw l W0 (W.drewN n):=M5 s (sG (qB _ _) n)
instance kpL_drew(l:List Nat)(W0 W:World)[s:iw l W0 W]:iw l W0 W.drew:=M5 s (Dy (qB _ _))
instance kpL_set(l:List Nat)(W0 W:World)(g:Nat)(j:Nat)(v:Value)[i:I0 g l][s:iw l W0 W]:iw l W0 (W.setCell ⟨g,j,none⟩ v):=⟨⟨by simpa[World.setCell]using s.out.1,fun k hk hl=>(aaN W ⟨g,j,none⟩ v k (fun e=>hl (by rw[e];exact i.out))).trans (s.out.2 k hk hl)⟩⟩
theorem yM {w W0 W:World}{g:Nat}{l:List Nat}(h:a9 (aa w W0 g none))(hl:∀b,b∈l→w.heap.size≤b)[s:iw (g::l) W0 W]:aa w W g none:=⟨aaj h.out.1 s.out.1,fun i hi hg hr=>(s.out.2 i (aaH hi h.out.1) (fun hm=>(aai.1 hm).elim hg (fun hm=>absurd (hl i hm) (Nat.not_le.2 hi)))).trans (h.out.2 i hi hg hr)⟩
theorem fq {w W0 W:World}{g:Nat}(h:a9 (aa w W0 g none))[s:iw (g::[]) W0 W]:aa w W g none:=yM h rX
theorem ga {w W0 W:World}{g a:Nat}(h:a9 (aa w W0 g none))(ha:a9 (w.heap.size≤a))[s:iw (g::[a]) W0 W]:aa w W g none:=yM h (fU ha rX)
theorem ev {w W0 W:World}{g a b:Nat}(h:a9 (aa w W0 g none))(ha:a9 (w.heap.size≤a))(hb:a9 (w.heap.size≤b))[s:iw (g::[a,b]) W0 W]:aa w W g none:=yM h (fU ha (fU hb rX))
theorem fc {w W0 W:World}{g a b c:Nat}(h:a9 (aa w W0 g none))(ha:a9 (w.heap.size≤a))(hb:a9 (w.heap.size≤b))(hc:a9 (w.heap.size≤c))[s:iw (g::[a,b,c]) W0 W]:aa w W g none:=yM h (fU ha (fU hb (fU hc rX)))
theorem kq4 {w W0 W:World}{g a b c d:Nat}(h:a9 (aa w W0 g none))(ha:a9 (w.heap.size≤a))(hb:a9 (w.heap.size≤b))(hc:a9 (w.heap.size≤c))(hd:a9 (w.heap.size≤d))[s:iw (g::[a,b,c,d]) W0 W]:aa w W g none:=yM h (fU ha (fU hb (fU hc (fU hd rX))))
theorem kq5 {w W0 W:World}{g a b c d e:Nat}(h:a9 (aa w W0 g none))(ha:a9 (w.heap.size≤a))(hb:a9 (w.heap.size≤b))(hc:a9 (w.heap.size≤c))(hd:a9 (w.heap.size≤d))(he:a9 (w.heap.size≤e))[s:iw (g::[a,b,c,d,e]) W0 W]:aa w W g none:=yM h (fU ha (fU hb (fU hc (fU hd (fU he rX)))))
theorem kq6 {w W0 W:World}{g a b c d e f:Nat}(h:a9 (aa w W0 g none))(ha:a9 (w.heap.size≤a))(hb:a9 (w.heap.size≤b))(hc:a9 (w.heap.size≤c))(hd:a9 (w.heap.size≤d))(he:a9 (w.heap.size≤e))(hf:a9 (w.heap.size≤f))[s:iw (g::[a,b,c,d,e,f]) W0 W]:aa w W g none:=yM h (fU ha (fU hb (fU hc (fU hd (fU he (fU hf rX))))))
theorem kq7 {w W0 W:World}{g a b c d e f m:Nat}(h:a9 (aa w W0 g none))(ha:a9 (w.heap.size≤a))(hb:a9 (w.heap.size≤b))(hc:a9 (w.heap.size≤c))(hd:a9 (w.heap.size≤d))(he:a9 (w.heap.size≤e))(hf:a9 (w.heap.size≤f))(hm:a9 (w.heap.size≤m))[s:iw (g::[a,b,c,d,e,f,m]) W0 W]:aa w W g none:=yM h (fU ha (fU hb (fU hc (fU hd (fU he (fU hf (fU hm rX)))))))
theorem Ah {p:Prop}(h:p):a9 p:=⟨h⟩
theorem od {p:Prop}[Decidable p](h:decide p=true:=by first|(with_reducible assumption)|assumption):p:=of_decide_eq_true h
theorem dO:¬(false=true):=by decide
theorem e3 {p:Prop}(h:p:=by first|rfl|(simp;done)|(simp[*];done)):p:=h
theorem gw {w W:World}{g:Nat}(hg:g=W.heap.size)(h:Below w.heap.size w W):a9 (w.heap.size≤g):=⟨by rw[hg];exact bF h⟩
theorem nn {W0 W:World}{g q:Nat}{o:Obj}(h:a9 (W0.heap[g]?=some o))(hq:q=W.heap.size)[s:iN [] W0 W]:a9 (g≠q):=⟨bn h hq⟩
theorem bK {P:Program}{ops:Array Oper}{Q:Exit→Act→World→Prop}{rest:List Oper}{o:Oper}{a:Act}{W:World}(N:Tmp)(t:TypeId)(cs:Array Value)
 (h:∀g,g=W.heap.size→∀w1,a9 (w1.heap[g]?=some (.cells cs t (0,0)))→Below W.heap.size W w1→wpList P ops Q rest (a.put o.dst (.pointer (some ⟨g,0,none⟩))) w1)
 (hgd:o.guard=none:=by rfl)(hd:o.dst=some N:=by rfl)(hrun:(execOp a.eval o).run P W= .ok (.value (.pointer (some ⟨W.heap.size,0,none⟩))) (W.alloc (.cells cs t (0,0))):=by first|(go_simp;done)|(go_simp;rfl)):wpList P ops Q (o::rest) a W:=
 box_event hgd hd hrun (fun g hg w1 hb hB=>h g hg w1 ⟨hb⟩ hB)
theorem nm {W0 W:World}{g q:Nat}{o:Obj}(h:a9 (W0.heap[g]?=some o))(hq:q=W.heap.size)[s:iN [] W0 W]:a9 (q≠g):=⟨bm h hq⟩
def Zq:Option Int→Value
 |none=> .nilIface
 |some c=> .iface 0 (.int .i64 c)
theorem St:Zq none= .nilIface:=rfl
theorem Su(c:Int):Zq (some c)= .iface 0 (.int .i64 c):=rfl
theorem Xd:(Try.prog.info? 3).map (fun i=>(i.zero,i.size,i.bytes))=some (some (.int .i64 0),1,8):=by kernel_rfl
theorem Es:(Try.prog.info? 5).map (fun i=>(i.zero,i.size,i.bytes))=some (some (.int .u8 0),1,1):=by kernel_rfl
theorem mB:(Try.prog.info? 9).map (fun i=>(i.zero,i.size,i.bytes))=some (some (.string ⟨#[]⟩),1,16):=by kernel_rfl
theorem pb:(Try.prog.info? 37).map (fun i=>(i.zero,i.size,i.bytes))=some (some (.agg #[(.int .i64 0),(.string ⟨#[]⟩)]),2,24):=by kernel_rfl
structure aQ where
 f0:Int
 f1:ByteArray
def dl:aQ:=⟨(0:Int),(⟨#[]⟩:ByteArray)⟩
def bL:Kd aQ:=Kd.iso (Kd.pair (Kd.int .i64) Kd.string) (fun x:aQ=>(x.f0,x.f1))
theorem k37_open {w:World}{x:aQ}{cs:List Value}(h:bL.K w x cs):cs=[.int .i64 x.f0,.string x.f1]:=by
 obtain⟨_,_,rfl,rfl,rfl⟩:=h;exact rfl
theorem k37_openM {w:World}{base:Nat}{ok:Nat→Prop}{x:aQ}{cs:List Value}(h:bL.M w base ok x cs):cs=[.int .i64 x.f0,.string x.f1]:=by
 obtain⟨_,_,rfl,rfl,rfl⟩:=h;exact rfl
theorem k37_mk(w:World)(x:aQ):bL.K w x [.int .i64 x.f0,.string x.f1]:=⟨[.int .i64 x.f0],[.string x.f1],rfl,rfl,rfl⟩
theorem CB(w:World)(base:Nat)(ok:Nat→Prop)(x:aQ):bL.M w base ok x [.int .i64 x.f0,.string x.f1]:=⟨[.int .i64 x.f0],[.string x.f1],rfl,rfl,rfl⟩
def aM(xs:List aQ)(i:Int):aQ:=xs.getD i.toNat dl
theorem iA {w:World}{A:Option Addr}{n:Nat}{xs:List aQ}(h:Kd.C bL w A n xs)(i:Int)(h0:0≤i)(h1:i<n):∃ad,A=some ad∧w.cell? (ad.add (i.toNat*2))=some (.int .i64 (aM xs i).f0)∧w.cell? ⟨(ad.add (i.toNat*2)).block,(ad.add (i.toNat*2)).off+1,none⟩=some (.string (aM xs i).f1):=by
 obtain⟨ad,c,e,_,hK,hc0⟩:=Kd.Jq h dl i h0 h1;have hc:∀j u,c[j]?=some u→w.cell? (ad.add (i.toNat*2+j))=some u:=hc0;obtain rfl:=k37_open hK;exact⟨ad,e,hc 0 _ rfl,by rw[←add_field _ _ 1 (by omega)];exact hc 1 _ rfl⟩
def Jv(xs:List (List ByteArray))(i:Int):(List ByteArray):=xs.getD i.toNat ([]:List ByteArray)
theorem at_L4 {w:World}{A:Option Addr}{n:Nat}{xs:List (List ByteArray)}(h:Kd.C (Kd.slice 9 Kd.string) w A n xs)(i:Int)(h0:0≤i)(h1:i<n):∃ad A0 c0,A=some ad∧w.cell? (ad.add i.toNat)=some (.slice A0 (Jv xs i).length c0)∧(Jv xs i).length≤c0∧Kd.string.C w A0 (Jv xs i).length (Jv xs i):=by
 obtain⟨ad,c,e,_,hK,hc0⟩:=Kd.Jq h ([]:List ByteArray) i h0 h1;have hc:∀j u,c[j]?=some u→w.cell? (ad.add (i.toNat*1+j))=some u:=hc0;obtain⟨A0,c0,rfl,l0,g0⟩:=hK;exact⟨ad,A0,c0,e,by have hq:=hc 0 _ rfl;rwa [abt,abc]at hq,l0,g0⟩
def Jw(xs:List (List aQ))(i:Int):(List aQ):=xs.getD i.toNat ([]:List aQ)
theorem at_L5 {w:World}{A:Option Addr}{n:Nat}{xs:List (List aQ)}(h:Kd.C (Kd.slice 37 bL) w A n xs)(i:Int)(h0:0≤i)(h1:i<n):∃ad A0 c0,A=some ad∧w.cell? (ad.add i.toNat)=some (.slice A0 (Jw xs i).length c0)∧(Jw xs i).length≤c0∧bL.C w A0 (Jw xs i).length (Jw xs i):=by
 obtain⟨ad,c,e,_,hK,hc0⟩:=Kd.Jq h ([]:List aQ) i h0 h1;have hc:∀j u,c[j]?=some u→w.cell? (ad.add (i.toNat*1+j))=some u:=hc0;obtain⟨A0,c0,rfl,l0,g0⟩:=hK;exact⟨ad,A0,c0,e,by have hq:=hc 0 _ rfl;rwa [abt,abc]at hq,l0,g0⟩
def Jx(xs:List (List Int))(i:Int):(List Int):=xs.getD i.toNat ([]:List Int)
theorem at_L6 {w:World}{A:Option Addr}{n:Nat}{xs:List (List Int)}(h:Kd.C (Kd.slice 5 (Kd.int .u8)) w A n xs)(i:Int)(h0:0≤i)(h1:i<n):∃ad A0 c0,A=some ad∧w.cell? (ad.add i.toNat)=some (.slice A0 (Jx xs i).length c0)∧(Jx xs i).length≤c0∧(Kd.int .u8).C w A0 (Jx xs i).length (Jx xs i):=by
 obtain⟨ad,c,e,_,hK,hc0⟩:=Kd.Jq h ([]:List Int) i h0 h1;have hc:∀j u,c[j]?=some u→w.cell? (ad.add (i.toNat*1+j))=some u:=hc0;obtain⟨A0,c0,rfl,l0,g0⟩:=hK;exact⟨ad,A0,c0,e,by have hq:=hc 0 _ rfl;rwa [abt,abc]at hq,l0,g0⟩
theorem er {p:Prop}(h:p:=by first|rfl|(simp[St,Su]<;>rfl)|(simp[*,St,Su]<;>rfl)):p:=h
noncomputable instance:DecidableEq aQ:=fun _ _=>Classical.propDecidable _
end Go.Proofs.Ytmbjmacpigojjaa.G
