-- Printed by a program of this session (drive.py, by way of the kit's print). Not trusted: Lean checks it.
import Derived.Test.YtahnkgehlfdlkaaProg
import Derived.Test.YtahnkgehlfdlkaaExt
import Derived.Test.YtahnkgehlfdlkaaExt2
import Derived.Test.YtahnkgehlfdlkaaClear
import Derived.Test.YtahnkgehlfdlkaaSortRow
import Derived.Test.YtahnkgehlfdlkaaSortLay
import Derived.Below
import Derived.Deep.Draws
import Derived.Deep.AppendLies
import Derived.Maps.AppendAt
import Derived.OwnWalk
import Derived.Laws.BytesArg
import Derived.Laws.MakeOwn
import Derived.Laws.OwnMore
import Derived.Deep.OwnRows
import Derived.Tactics
import Derived.Lib.ConvBytes
import Derived.Laws.Slices
import Derived.WalkKit
import Derived.KernelRfl
import Derived.RowKit3
import Derived.Deep.LoopGhost
import Derived.Deep.QuietTactic
import Derived.BigQuiet
import Derived.WideLaws
import Derived.Deep.DeepCutAuto
import Derived.Deep.CutBlock
import Derived.Deep.RegionHeld3
import Derived.Laws.Rows
import Derived.Lib.AppendStr
import Derived.ArgAppend
import Derived.Laws.IdiomCopy
import Derived.OrdersHeld
import Derived.Laws.BitsLemmas
import Derived.RowKit
import Derived.Shelf.Abstract
import Derived.Test.YtahnkgehlfdlkaaWWords
open Classical renaming propDecidable→abz
open Go.Region renaming wanted→aas,Mode→aaM
open Go.RowKit.Below renaming refl→gR,heap_setCell→aaT
open Go.World renaming block_lt_of_cell?→cB,setCell→abb
open List renaming setIfInBounds_toArray→g7,set_cons_zero→aad,set_cons_succ→aae,mem_cons→aal,mem_singleton→aaS
open Nat renaming le_refl→eH,lt_of_lt_of_le→tU,le_trans→aax
namespace Go.Proofs.Ytahnkgehlfdlkaa.G
open Go.RowKit Go.Proofs.YtahnkgehlfdlkaaW.PrintWords Go.Proofs.YtahnkgehlfdlkaaW.PrintLast Go.Proofs.YtahnkgehlfdlkaaW.PrintMore
attribute [local go_sem] xN xO xT xU xA xB xP xQ
set_option linter.unusedVariables false
set_option linter.unusedSimpArgs false
section
variable {P : Program} {ops : Array Oper} {Q : Exit → Act → World → Prop}
theorem Ny {rest:List Oper}{o:Oper}{a:Act}{W:World}{t:Tmp}{ars:Array Operand}{ts:Array TypeId}(_ho:o.op= .call {callee:= .value (.tmp t),args:=ars,argTypes:=ts})(h:wpList P ops Q (o::rest) a W):wpList P ops Q (o::rest) a W:=h
theorem QG {rest:List Oper}{oi:Oper}{a:Act}{w:World}(N:Option Tmp)(hd:oi.dst=N)(hg:oi.guard=none){f:FuncId}{fn:Func}{t:Tmp}{lb:Array Value}{ars:Array Operand}{ts:Array TypeId}(hf:P.funcs[f]?=some fn)(hname:(fn.name== "runtime.NumGoroutine")=false)(hb:fn.body.isSome=true)(args:Array Value)
 (hop:oi.op= .call {callee:= .value (.tmp t),args:=ars,argTypes:=ts})(hv:a.eval (.tmp t)= .func (.func f) #[] lb)(hargs:ars.map a.eval++lb=args)
 (h:Calls P f args w fun e w'=>∃v,e= .returned v∧wpList P ops Q rest (a.put N v) w'):wpList P ops Q (oi::rest) a w:=by
 refine wpList_plain hg fun K hK=> ?_
 have he:=OV hf hname hb args w
 have hrun:(execOp a.eval oi).run P w= .ok (.enter f args) w:=by
  unfold execOp
  simp[hop,resolve,hv,Deferred.ofValue,invoke,hargs,he]
 unfold Oper.wp;rw[hrun,Oper.upon_enter]
 refine h.mono fun e w'' hh=> ?_
 obtain⟨v,rfl,hk⟩:=hh;subst hd;exact hK _ _ hk
end
class NJ(g:Nat)(l:List Nat):Prop where out:g∈l
instance inL_head(g:Nat)(l:List Nat):NJ g (g::l):=⟨List.mem_cons_self⟩
instance inL_tail(g h:Nat)(l:List Nat)[i:NJ g l]:NJ g (h::l):=⟨List.mem_cons_of_mem _ i.out⟩
class jz(l:List Nat)(W0 W:World):Prop where out:∀w:World,Below w.heap.size w W0→(∀g,g∈l→w.heap.size≤g)→Below w.heap.size w W
instance stL_refl(l:List Nat)(W:World):jz l W W:=⟨fun _ h _=>h⟩
instance stL_alloc(l:List Nat)(W0 W:World)(o:Obj)[s:jz l W0 W]:jz l W0 (W.alloc o):=⟨fun w h k=>oF (s.out w h k) o⟩
instance stL_drewN(l:List Nat)(W0 W:World)(n:Nat)[s:jz l W0 W]:jz l W0 (W.drewN n):=⟨fun w h k=>td (s.out w h k) n⟩
instance stL_drew(l:List Nat)(W0 W:World)[s:jz l W0 W]:jz l W0 W.drew:=⟨fun w h k=>ln (s.out w h k)⟩
instance stL_set(l:List Nat)(W0 W:World)(g:Nat)(j:Nat)(v:Value)[i:NJ g l][s:jz l W0 W]:jz l W0 (W.setCell ⟨g,j,none⟩ v):=⟨fun w h k=>ue (s.out w h k) (k g i.out)⟩
theorem bs {w W0 W:World}(h:Y (Below w.heap.size w W0))[s:jz [] W0 W]:Below w.heap.size w W:=s.out w h.out (fun _ hg=>by cases hg)
theorem aQ {w W0 W:World}{a:Nat}(h:Y (Below w.heap.size w W0))(ha:Y (w.heap.size≤a))[s:jz [a] W0 W]:Below w.heap.size w W:=s.out w h.out (fun g hg=>by rw[aaS.1 hg];exact ha.out)
theorem aa {w W0 W:World}{a b:Nat}(h:Y (Below w.heap.size w W0))(ha:Y (w.heap.size≤a))(hb:Y (w.heap.size≤b))[s:jz [a,b] W0 W]:Below w.heap.size w W:=s.out w h.out (fun g hg=>by
 rcases aal.1 hg with rfl|hg
 ·exact ha.out
 ·rw[aaS.1 hg];exact hb.out)
theorem bF {w W0 W:World}{a b c:Nat}(h:Y (Below w.heap.size w W0))(ha:Y (w.heap.size≤a))(hb:Y (w.heap.size≤b))(hc:Y (w.heap.size≤c))[s:jz [a,b,c] W0 W]:Below w.heap.size w W:=s.out w h.out (fun g hg=>by
 rcases aal.1 hg with rfl|hg
 ·exact ha.out
 ·rcases aal.1 hg with rfl|hg
  ·exact hb.out
  ·rw[aaS.1 hg];exact hc.out)
theorem Ti {W0 W:World}[s:jz [] W0 W]:Below W0.heap.size W0 W:=s.out W0 (gR _ _) (fun _ hg=>by cases hg)
theorem bk {W0 W:World}{g:Nat}{o:Obj}(h:Y (W0.heap[g]?=some o))[s:jz [] W0 W]:W.heap[g]?=some o:=bJ h.out Ti
theorem rr {α:Type}{d:Kd α}{e:Nat}{W0 W:World}{base:Nat}{ok:Nat→Prop}{v:Value}{xs:List α}(h:d.R e W0 base ok v xs)[s:jz [] W0 W]:d.R e W base ok v xs:=Kd.bW h Ti
theorem cb {α:Type}{d:Kd α}{w W0 W:World}{A:Option Addr}{n:Nat}{l:List α}(h:Y (d.C w A n l))(hb:Y (Below w.heap.size w W0))[s:jz [] W0 W]:d.C W A n l:=Kd.ur (Kd.ur h.out hb.out) Ti
theorem QP {w W0 W:World}{l:List Nat}(h:Y (Below w.heap.size w W0))(hl:∀g,g∈l→w.heap.size≤g)[s:jz l W0 W]:Below w.heap.size w W:=s.out w h.out hl
theorem u4 {w:World}:∀g,g∈([]:List Nat)→w.heap.size≤g:=fun _ h=>by cases h
theorem ft {w:World}{a:Nat}{l:List Nat}(ha:Y (w.heap.size≤a))(h:∀g,g∈l→w.heap.size≤g):∀g,g∈a::l→w.heap.size≤g:=fun g hg=>by
 rcases aal.1 hg with rfl|hg
 ·exact ha.out
 ·exact h g hg
theorem be {w W0 W:World}{a b c d:Nat}(h:Y (Below w.heap.size w W0))(ha:Y (w.heap.size≤a))(hb:Y (w.heap.size≤b))(hc:Y (w.heap.size≤c))(hd:Y (w.heap.size≤d))[s:jz [a,b,c,d] W0 W]:Below w.heap.size w W:=QP h (ft ha (ft hb (ft hc (ft hd u4))))
theorem lA {w W0 W:World}{a b c d e:Nat}(h:Y (Below w.heap.size w W0))(ha:Y (w.heap.size≤a))(hb:Y (w.heap.size≤b))(hc:Y (w.heap.size≤c))(hd:Y (w.heap.size≤d))(he:Y (w.heap.size≤e))[s:jz [a,b,c,d,e] W0 W]:Below w.heap.size w W:=QP h (ft ha (ft hb (ft hc (ft hd (ft he u4)))))
theorem bs6 {w W0 W:World}{a b c d e f:Nat}(h:Y (Below w.heap.size w W0))(ha:Y (w.heap.size≤a))(hb:Y (w.heap.size≤b))(hc:Y (w.heap.size≤c))(hd:Y (w.heap.size≤d))(he:Y (w.heap.size≤e))(hf:Y (w.heap.size≤f))[s:jz [a,b,c,d,e,f] W0 W]:Below w.heap.size w W:=QP h (ft ha (ft hb (ft hc (ft hd (ft he (ft hf u4))))))
theorem bs7 {w W0 W:World}{a b c d e f g:Nat}(h:Y (Below w.heap.size w W0))(ha:Y (w.heap.size≤a))(hb:Y (w.heap.size≤b))(hc:Y (w.heap.size≤c))(hd:Y (w.heap.size≤d))(he:Y (w.heap.size≤e))(hf:Y (w.heap.size≤f))(hg:Y (w.heap.size≤g))[s:jz [a,b,c,d,e,f,g] W0 W]:Below w.heap.size w W:=QP h (ft ha (ft hb (ft hc (ft hd (ft he (ft hf (ft hg u4)))))))
section
variable {P : Program} {ops : Array Oper} {Q : Exit → Act → World → Prop} {md : aaM} {S : World → Prop} {ds : List Nat} {T : Bool × List (List Nat × List Nat)}
theorem ap(i:Nat)(N:Tmp)(hT:j7 md ops=T){oi:Oper}{v:Value}{fuel:Nat}{l l':Array Bool}{a a':Act}{w:World}
 (h:fj P md ops Q S ds fuel l' a' w)(hi:ops[i]?=some oi:=by exact rfl)(hN:oi.dst=some N:=by exact rfl)
 (hl:l.setIfInBounds i true=l':=by simp only[List.setIfInBounds_toArray,List.set_cons_zero,List.set_cons_succ];rfl)
 (hc:RM T l.toList l'.toList i=true:=by kernel_rfl)(hQ:∀c a w,Q (.panic c) (a.put oi.dst v) w→Q (.panic c) a w:=by exact fun _ _ _ h=>h)
 (hw:Region.wanted oi (yielded ops a.tmps)=true:=by rfl)(hr:∀w,(execOp a.eval oi).run P w= .ok (.value v) w:=by intro w';go_simp;with_reducible rfl)
 (ha:a.put (some N) v=a':=by simp only[Act.put,List.setIfInBounds_toArray,List.set_cons_zero,List.set_cons_succ,lr,nu];rfl):fj P md ops Q S ds (fuel+1) l a w:=
 G7 l' hi hN (any_of hT hc) hQ (Or.inl ⟨hw,hr⟩) ha h
theorem bx(i:Nat)(N:Tmp)(hT:j7 md ops=T){oi:Oper}{fuel:Nat}{l l':Array Bool}{a a':Act}{w:World}
 (h:fj P md ops Q S ds fuel l' a' w)(hi:ops[i]?=some oi:=by exact rfl)(hN:oi.dst=some N:=by exact rfl)
 (hl:l.setIfInBounds i true=l':=by simp only[List.setIfInBounds_toArray,List.set_cons_zero,List.set_cons_succ];rfl)
 (hc:RM T l.toList l'.toList i=true:=by kernel_rfl)(hQ:∀c a w,Q (.panic c) (a.put oi.dst undef) w→Q (.panic c) a w:=by exact fun _ _ _ h=>h)
 (hw:Region.wanted oi (yielded ops a.tmps)=false:=by rfl)
 (ha:a.put (some N) undef=a':=by simp only[Act.put,List.setIfInBounds_toArray,List.set_cons_zero,List.set_cons_succ,lr,nu];rfl):fj P md ops Q S ds (fuel+1) l a w:=
 G7 l' hi hN (any_of hT hc) hQ (Or.inr ⟨hw,rfl⟩) ha h
theorem f4(i:Nat)(N:Tmp)(hT:j7 md ops=T){B:List Nat}(hB:qD T.2 B=true){oi:Oper}{v:Value}{fuel:Nat}{l l':Array Bool}{a a':Act}{w:World}(hS:S w)
 (hi:ops[i]?=some oi:=by exact rfl)(hN:oi.dst=some N:=by exact rfl)
 (hl:l.setIfInBounds i true=l':=by simp only[List.setIfInBounds_toArray,List.set_cons_zero,List.set_cons_succ];rfl)
 (hc:W4 T B ds l.toList l'.toList i=true:=by kernel_rfl)(hw:Region.wanted oi (yielded ops a.tmps)=true:=by rfl)
 (hr:∀w,S w→(execOp a.eval oi).run P w= .ok (.value v) w)(hQ:∀c a w,Q (.panic c) (a.put oi.dst v) w→Q (.panic c) a w:=by exact fun _ _ _ h=>h)
 (ha:a.put (some N) v=a':=by simp only[Act.put,List.setIfInBounds_toArray,List.set_cons_zero,List.set_cons_succ,lr,nu];rfl)(h:fj P md ops Q S ds fuel l' a' w):fj P md ops Q S ds (fuel+1) l a w:=
 Je l' hi hN (take_ofW hT hB hc) hQ (Or.inl ⟨hw,hr⟩) hS ha h
end
class wb(W0 W:World):Prop where out:W0.heap.size≤W.heap.size
instance szL_refl(W:World):wb W W:=⟨eH _⟩
instance szL_alloc(W0 W:World)(o:Obj)[s:wb W0 W]:wb W0 (W.alloc o):=⟨aax s.out (oF (gR _ _) o).size⟩
instance szL_drewN(W0 W:World)(n:Nat)[s:wb W0 W]:wb W0 (W.drewN n):=⟨aax s.out (td (gR 0 _) n).size⟩
instance szL_drew(W0 W:World)[s:wb W0 W]:wb W0 W.drew:=⟨aax s.out (Es (gR 0 _)).size⟩
instance szL_set(W0 W:World)(p:Addr)(v:Value)[s:wb W0 W]:wb W0 (W.setCell p v):=⟨by simpa[abb]using s.out⟩
theorem CK {W0 W:World}{g q:Nat}{o:Obj}(h:Y (W0.heap[g]?=some o))(hq:q=W.heap.size)[s:wb W0 W]:g≠q:=Nat.ne_of_lt (by rw[hq];exact tU (gr h.out) s.out)
theorem Ec {W0 W:World}{g q:Nat}{o:Obj}(h:Y (W0.heap[g]?=some o))(hq:q=W.heap.size)[s:wb W0 W]:q≠g:=Ne.symm (CK h hq)
class rA(g:Nat)(W0 W:World):Prop where out:W0.heap.size≤W.heap.size∧∀k,k≠g→k<W0.heap.size→W.heap[k]?=W0.heap[k]?
theorem Su {g:Nat}{W0 W W1:World}(s:rA g W0 W)(h:Below W.heap.size W W1):rA g W0 W1:=⟨⟨aax s.out.1 h.size,fun k hk hl=>(h.block k (tU hl s.out.1)).trans (s.out.2 k hk hl)⟩⟩
instance farL_refl(g:Nat)(W:World):rA g W W:=⟨⟨eH _,fun _ _ _=>rfl⟩⟩
instance farL_alloc(g:Nat)(W0 W:World)(o:Obj)[s:rA g W0 W]:rA g W0 (W.alloc o):=Su s (oF (gR _ _) o)
instance farL_drewN(g:Nat)(W0 W:World)(n:Nat)[s:rA g W0 W]:rA g W0 (W.drewN n):=Su s (td (gR _ _) n)
instance farL_drew(g:Nat)(W0 W:World)[s:rA g W0 W]:rA g W0 W.drew:=Su s (Es (gR _ _))
instance farL_set(g:Nat)(W0 W:World)(j:Nat)(v:Value)[s:rA g W0 W]:rA g W0 (W.setCell ⟨g,j,none⟩ v):=⟨⟨by simpa[abb]using s.out.1,fun k hk hl=>(aaT W ⟨g,j,none⟩ v k hk).trans (s.out.2 k hk hl)⟩⟩
theorem rf {α:Type}{d:Kd α}{e:Nat}{W0 W:World}{base:Nat}{ok:Nat→Prop}{v:Value}{xs:List α}{g t:Nat}{cells:Array Value}(h:Y (d.R e W0 base ok v xs))(b:Y (W0.heap[g]?=some (.cells cells t (0,0))))(ht:∀q,q∈e::d.E→q≠t:=by decide)[s:rA g W0 W]:d.R e W base ok v xs:=Kd.aE (Kd.JT (Kd.ao h.out b.out ht) (fun k hk hl=>s.out.2 k hk.2 hl)) (fun _ h=>h.1)
theorem rc {α:Type}{d:Kd α}{e:Nat}{W0 W:World}{base:Nat}{ok:Nat→Prop}{A:Option Addr}{n c:Nat}{xs:List α}{g t:Nat}{cells:Array Value}(h:Y (d.R e W0 base ok (.slice A n c) xs))(b:Y (W0.heap[g]?=some (.cells cells t (0,0))))(ht:∀q,q∈e::d.E→q≠t:=by decide)[s:rA g W0 W]:d.C W A xs.length xs:=(Kd.ab (rf h b ht)).2.2
theorem df {α:Type}{d:Kd α}{e:Nat}{W0 W:World}{base:Nat}{ok:Nat→Prop}{A:Option Addr}{n c:Nat}{xs:List α}(h:Y (d.R e W0 base ok (.slice A n c) xs))[s:jz [] W0 W]:d.C W A xs.length xs:=(Kd.ab (rr h.out)).2.2
theorem bf {W0 W:World}{g g':Nat}{o:Obj}(h:Y (W0.heap[g]?=some o))(hn:Y (g≠g'))[s:rA g' W0 W]:W.heap[g]?=some o:=(s.out.2 g hn.out (gr h.out)).trans h.out
theorem bb {W0 W W1:World}{g:Nat}{o:Obj}(h:Y (W0.heap[g]?=some o))(hb:Below W.heap.size W W1)[s:jz [] W0 W]:W1.heap[g]?=some o:=bJ (bk h) hb
theorem bn {W0 W:World}{g q:Nat}{o:Obj}(h:Y (W0.heap[g]?=some o))(hq:q=W.heap.size)[s:jz [] W0 W]:g≠q:=by
 rw[hq];exact Nat.ne_of_lt (gr (bk h))
theorem bm {W0 W:World}{g q:Nat}{o:Obj}(h:Y (W0.heap[g]?=some o))(hq:q=W.heap.size)[s:jz [] W0 W]:q≠g:=Ne.symm (bn h hq)
theorem Zb {w:World}{g:Nat}{t:TypeId}{a0:Value}(h:Y (w.heap[g]?=some (.cells #[a0] t (0,0)))):w.cell? ⟨g,0,none⟩=some a0:=(aI h.out 0).trans rfl
theorem SG {w:World}{g:Nat}{t:TypeId}{a0:Value}(h:Y (w.heap[g]?=some (.cells #[a0] t (0,0)))):w.frozen? ⟨g,0,none⟩=false:=gT h.out 0
theorem da {w:World}{g:Nat}{t:TypeId}{a0 a1:Value}(h:Y (w.heap[g]?=some (.cells #[a0,a1] t (0,0)))):w.cell? ⟨g,0,none⟩=some a0∧w.cell? ⟨g,1,none⟩=some a1:=⟨(aI h.out 0).trans rfl,(aI h.out 1).trans rfl⟩
theorem db {w:World}{g:Nat}{t:TypeId}{a0 a1:Value}(h:Y (w.heap[g]?=some (.cells #[a0,a1] t (0,0)))):w.frozen? ⟨g,0,none⟩=false∧w.frozen? ⟨g,1,none⟩=false:=⟨gT h.out 0,gT h.out 1⟩
theorem di {w:World}{g:Nat}{t:TypeId}{a0 a1 a2:Value}(h:Y (w.heap[g]?=some (.cells #[a0,a1,a2] t (0,0)))):w.cell? ⟨g,0,none⟩=some a0∧w.cell? ⟨g,1,none⟩=some a1∧w.cell? ⟨g,2,none⟩=some a2:=⟨(aI h.out 0).trans rfl,(aI h.out 1).trans rfl,(aI h.out 2).trans rfl⟩
theorem dj {w:World}{g:Nat}{t:TypeId}{a0 a1 a2:Value}(h:Y (w.heap[g]?=some (.cells #[a0,a1,a2] t (0,0)))):w.frozen? ⟨g,0,none⟩=false∧w.frozen? ⟨g,1,none⟩=false∧w.frozen? ⟨g,2,none⟩=false:=⟨gT h.out 0,gT h.out 1,gT h.out 2⟩
theorem cz4 {w:World}{g:Nat}{t:TypeId}{a0 a1 a2 a3:Value}(h:Y (w.heap[g]?=some (.cells #[a0,a1,a2,a3] t (0,0)))):w.cell? ⟨g,0,none⟩=some a0∧w.cell? ⟨g,1,none⟩=some a1∧w.cell? ⟨g,2,none⟩=some a2∧w.cell? ⟨g,3,none⟩=some a3:=⟨(aI h.out 0).trans rfl,(aI h.out 1).trans rfl,(aI h.out 2).trans rfl,(aI h.out 3).trans rfl⟩
theorem fz4 {w:World}{g:Nat}{t:TypeId}{a0 a1 a2 a3:Value}(h:Y (w.heap[g]?=some (.cells #[a0,a1,a2,a3] t (0,0)))):w.frozen? ⟨g,0,none⟩=false∧w.frozen? ⟨g,1,none⟩=false∧w.frozen? ⟨g,2,none⟩=false∧w.frozen? ⟨g,3,none⟩=false:=⟨gT h.out 0,gT h.out 1,gT h.out 2,gT h.out 3⟩
theorem ah {w:World}{g:Nat}{t:TypeId}{a0 a1 a2 a3 a4:Value}(h:Y (w.heap[g]?=some (.cells #[a0,a1,a2,a3,a4] t (0,0)))):w.cell? ⟨g,0,none⟩=some a0∧w.cell? ⟨g,1,none⟩=some a1∧w.cell? ⟨g,2,none⟩=some a2∧w.cell? ⟨g,3,none⟩=some a3∧w.cell? ⟨g,4,none⟩=some a4:=⟨(aI h.out 0).trans rfl,(aI h.out 1).trans rfl,(aI h.out 2).trans rfl,(aI h.out 3).trans rfl,(aI h.out 4).trans rfl⟩
theorem af {w:World}{g:Nat}{t:TypeId}{a0 a1 a2 a3 a4:Value}(h:Y (w.heap[g]?=some (.cells #[a0,a1,a2,a3,a4] t (0,0)))):w.frozen? ⟨g,0,none⟩=false∧w.frozen? ⟨g,1,none⟩=false∧w.frozen? ⟨g,2,none⟩=false∧w.frozen? ⟨g,3,none⟩=false∧w.frozen? ⟨g,4,none⟩=false:=⟨gT h.out 0,gT h.out 1,gT h.out 2,gT h.out 3,gT h.out 4⟩
theorem cz6 {w:World}{g:Nat}{t:TypeId}{a0 a1 a2 a3 a4 a5:Value}(h:Y (w.heap[g]?=some (.cells #[a0,a1,a2,a3,a4,a5] t (0,0)))):w.cell? ⟨g,0,none⟩=some a0∧w.cell? ⟨g,1,none⟩=some a1∧w.cell? ⟨g,2,none⟩=some a2∧w.cell? ⟨g,3,none⟩=some a3∧w.cell? ⟨g,4,none⟩=some a4∧w.cell? ⟨g,5,none⟩=some a5:=⟨(aI h.out 0).trans rfl,(aI h.out 1).trans rfl,(aI h.out 2).trans rfl,(aI h.out 3).trans rfl,(aI h.out 4).trans rfl,(aI h.out 5).trans rfl⟩
theorem fz6 {w:World}{g:Nat}{t:TypeId}{a0 a1 a2 a3 a4 a5:Value}(h:Y (w.heap[g]?=some (.cells #[a0,a1,a2,a3,a4,a5] t (0,0)))):w.frozen? ⟨g,0,none⟩=false∧w.frozen? ⟨g,1,none⟩=false∧w.frozen? ⟨g,2,none⟩=false∧w.frozen? ⟨g,3,none⟩=false∧w.frozen? ⟨g,4,none⟩=false∧w.frozen? ⟨g,5,none⟩=false:=⟨gT h.out 0,gT h.out 1,gT h.out 2,gT h.out 3,gT h.out 4,gT h.out 5⟩
theorem gL {P:Program}{ops:Array Oper}{Q:Exit→Act→World→Prop}{rest:List Oper}{oi:Oper}{a:Act}{w:World}(N:Option Tmp)(hd:oi.dst=N)(hg:oi.guard=none){f:FuncId}{fn:Func}{oa:Array Operand}{ts:Array TypeId}(hf:P.funcs[f]?=some fn)(hname:(fn.name== "runtime.NumGoroutine")=false)(hb:fn.body.isSome=true)(args:Array Value)
 (hop:oi.op= .call {callee:= .value (.func f),args:=oa,argTypes:=ts})
 (h:Calls P f args w fun e w'=>∃v,e= .returned v∧wpList P ops Q rest (a.put N v) w')(hargs:oa.map a.eval=args:=by(try simp only[List.map_toArray,List.map_cons,List.map_nil]);first|done|rfl|(simp only[List.length_drop,List.length_take];rfl)):wpList P ops Q (oi::rest) a w:=goesL_ N hd hg hf hname hb args hop hargs h
theorem nr {α:Type}{d:Kd α}{e:Nat}{W0 W W1:World}{base:Nat}{ok:Nat→Prop}{v:Value}{xs:List α}(h:Y (d.R e W0 base ok v xs))(hb:Below W.heap.size W W1)[s:jz [] W0 W]:Y (d.R e W1 base ok v xs):=⟨Kd.bW (rr h.out) hb⟩
theorem nf {α:Type}{d:Kd α}{e:Nat}{W0 W W1:World}{base:Nat}{ok:Nat→Prop}{v:Value}{xs:List α}{g t:Nat}{cells:Array Value}(h:Y (d.R e W0 base ok v xs))(b:Y (W0.heap[g]?=some (.cells cells t (0,0))))(hb:Below W.heap.size W W1)(ht:∀q,q∈e::d.E→q≠t:=by decide)[s:rA g W0 W]:Y (d.R e W1 base ok v xs):=⟨Kd.bW (rf h b ht) hb⟩
theorem nb {W0 W W1:World}{g:Nat}{o:Obj}(h:Y (W0.heap[g]?=some o))(hb:Below W.heap.size W W1)[s:jz [] W0 W]:Y (W1.heap[g]?=some o):=⟨bb h hb⟩
theorem cbn {α:Type}{d:Kd α}{w W0 W:World}{A:Option Addr}{n m:Nat}{l:List α}(h:Y (d.C w A n l))(hb:Y (Below w.heap.size w W0))(hn:n=m)[s:jz [] W0 W]:d.C W A m l:=hn▸cb h hb
theorem rm {α:Type}{d:Kd α}{e:Nat}{W0 W:World}{base:Nat}{ok ok':Nat→Prop}{v:Value}{xs:List α}(h:Y (d.R e W0 base ok v xs))(k:∀n,ok n→ok' n)[s:jz [] W0 W]:Y (d.R e W base ok' v xs):=⟨Kd.aE (rr h.out) k⟩
class lB(l:List Nat)(W0 W:World):Prop where out:W0.heap.size≤W.heap.size∧∀k,k<W0.heap.size→¬(k∈l)→W.heap[k]?=W0.heap[k]?
theorem T3 {l:List Nat}{W0 W W1:World}(s:lB l W0 W)(h:Below W.heap.size W W1):lB l W0 W1:=⟨⟨aax s.out.1 h.size,fun k hk hl=>(h.block k (tU hk s.out.1)).trans (s.out.2 k hk hl)⟩⟩
instance kpL_refl(l:List Nat)(W:World):lB l W W:=⟨⟨eH _,fun _ _ _=>rfl⟩⟩
instance kpL_alloc(l:List Nat)(W0 W:World)(o:Obj)[s:lB l W0 W]:lB l W0 (W.alloc o):=T3 s (oF (gR _ _) o)
instance kpL_drewN(l:List Nat)(W0 W:World)(n:Nat)[s:lB l W0 W]:lB l W0 (W.drewN n):=T3 s (td (gR _ _) n)
instance kpL_drew(l:List Nat)(W0 W:World)[s:lB l W0 W]:lB l W0 W.drew:=T3 s (Es (gR _ _))
instance kpL_set(l:List Nat)(W0 W:World)(g:Nat)(j:Nat)(v:Value)[i:NJ g l][s:lB l W0 W]:lB l W0 (W.setCell ⟨g,j,none⟩ v):=⟨⟨by simpa[abb]using s.out.1,fun k hk hl=>(aaT W ⟨g,j,none⟩ v k (fun e=>hl (by rw[e];exact i.out))).trans (s.out.2 k hk hl)⟩⟩
theorem CL {w W0 W:World}{g:Nat}{l:List Nat}(h:Y (bK w W0 g none))(hl:∀b,b∈l→w.heap.size≤b)[s:lB (g::l) W0 W]:bK w W g none:=⟨aax h.out.1 s.out.1,fun i hi hg hr=>(s.out.2 i (tU hi h.out.1) (fun hm=>(aal.1 hm).elim hg (fun hm=>absurd (hl i hm) (Nat.not_le.2 hi)))).trans (h.out.2 i hi hg hr)⟩
theorem jl {w W0 W:World}{g:Nat}(h:Y (bK w W0 g none))[s:lB (g::[]) W0 W]:bK w W g none:=CL h u4
theorem gy {w W0 W:World}{g a:Nat}(h:Y (bK w W0 g none))(ha:Y (w.heap.size≤a))[s:lB (g::[a]) W0 W]:bK w W g none:=CL h (ft ha u4)
theorem uX {w W0 W:World}{g a b:Nat}(h:Y (bK w W0 g none))(ha:Y (w.heap.size≤a))(hb:Y (w.heap.size≤b))[s:lB (g::[a,b]) W0 W]:bK w W g none:=CL h (ft ha (ft hb u4))
theorem kq3 {w W0 W:World}{g a b c:Nat}(h:Y (bK w W0 g none))(ha:Y (w.heap.size≤a))(hb:Y (w.heap.size≤b))(hc:Y (w.heap.size≤c))[s:lB (g::[a,b,c]) W0 W]:bK w W g none:=CL h (ft ha (ft hb (ft hc u4)))
theorem kq4 {w W0 W:World}{g a b c d:Nat}(h:Y (bK w W0 g none))(ha:Y (w.heap.size≤a))(hb:Y (w.heap.size≤b))(hc:Y (w.heap.size≤c))(hd:Y (w.heap.size≤d))[s:lB (g::[a,b,c,d]) W0 W]:bK w W g none:=CL h (ft ha (ft hb (ft hc (ft hd u4))))
theorem kq5 {w W0 W:World}{g a b c d e:Nat}(h:Y (bK w W0 g none))(ha:Y (w.heap.size≤a))(hb:Y (w.heap.size≤b))(hc:Y (w.heap.size≤c))(hd:Y (w.heap.size≤d))(he:Y (w.heap.size≤e))[s:lB (g::[a,b,c,d,e]) W0 W]:bK w W g none:=CL h (ft ha (ft hb (ft hc (ft hd (ft he u4)))))
theorem kq6 {w W0 W:World}{g a b c d e f:Nat}(h:Y (bK w W0 g none))(ha:Y (w.heap.size≤a))(hb:Y (w.heap.size≤b))(hc:Y (w.heap.size≤c))(hd:Y (w.heap.size≤d))(he:Y (w.heap.size≤e))(hf:Y (w.heap.size≤f))[s:lB (g::[a,b,c,d,e,f]) W0 W]:bK w W g none:=CL h (ft ha (ft hb (ft hc (ft hd (ft he (ft hf u4))))))
theorem kq7 {w W0 W:World}{g a b c d e f m:Nat}(h:Y (bK w W0 g none))(ha:Y (w.heap.size≤a))(hb:Y (w.heap.size≤b))(hc:Y (w.heap.size≤c))(hd:Y (w.heap.size≤d))(he:Y (w.heap.size≤e))(hf:Y (w.heap.size≤f))(hm:Y (w.heap.size≤m))[s:lB (g::[a,b,c,d,e,f,m]) W0 W]:bK w W g none:=CL h (ft ha (ft hb (ft hc (ft hd (ft he (ft hf (ft hm u4)))))))
theorem Ah {p:Prop}(h:p):Y p:=⟨h⟩
theorem od {p:Prop}[Decidable p](h:decide p=true:=by first|(with_reducible assumption)|assumption):p:=of_decide_eq_true h
theorem dc:¬(false=true):=by decide
theorem e3 {p:Prop}(h:p:=by first|rfl|(simp;done)|(simp[*];done)):p:=h
theorem gw {w W:World}{g:Nat}(hg:g=W.heap.size)(h:Below w.heap.size w W):Y (w.heap.size≤g):=⟨by rw[hg];exact bR h⟩
theorem nn {W0 W:World}{g q:Nat}{o:Obj}(h:Y (W0.heap[g]?=some o))(hq:q=W.heap.size)[s:jz [] W0 W]:Y (g≠q):=⟨bn h hq⟩
class yH(g t:Nat)(cs:Array Value)(cs':outParam (Array Value))(W0 W:World):Prop where out:W0.heap[g]?=some (.cells cs t (0,0))→W.heap[g]?=some (.cells cs' t (0,0))
instance putL_refl(g t:Nat)(cs:Array Value)(W:World):yH g t cs cs W W:=⟨fun h=>h⟩
instance putL_alloc(g t:Nat)(cs cs':Array Value)(W0 W:World)(o:Obj)[s:yH g t cs cs' W0 W]:yH g t cs cs' W0 (W.alloc o):=⟨fun h=>ba (s.out h) o⟩
instance putL_drewN(g t:Nat)(cs cs':Array Value)(W0 W:World)(n:Nat)[s:yH g t cs cs' W0 W]:yH g t cs cs' W0 (W.drewN n):=⟨fun h=>bo (s.out h) n⟩
instance putL_drew(g t:Nat)(cs cs':Array Value)(W0 W:World)[s:yH g t cs cs' W0 W]:yH g t cs cs' W0 W.drew:=⟨fun h=>bL (s.out h)⟩
instance putL_set(g t:Nat)(cs cs':Array Value)(W0 W:World)(j:Nat)(v:Value)[s:yH g t cs cs' W0 W]:yH g t cs (cs'.setIfInBounds j v) W0 (W.setCell ⟨g,j,none⟩ v):=⟨fun h=>yi (s.out h) j v rfl⟩
theorem pb {g t:Nat}{cs cs' cs2:Array Value}{W0 W:World}(h:Y (W0.heap[g]?=some (.cells cs t (0,0))))[s:yH g t cs cs' W0 W](e:cs'=cs2:=by rfl):W.heap[g]?=some (.cells cs2 t (0,0)):=e▸s.out h.out
theorem hc {B:Nat}{w W:World}{p:Addr}{v:Value}(HB:Y (Below B w W))(h:w.cell? p=some v)(hl:p.block<B:=by exact World.block_lt_of_cell? _ _ (by assumption)):W.cell? p=some v:=(HB.out.cell hl).trans h
theorem ar {P:Program}{ops:Array Oper}{Q:Exit→Act→World→Prop}{rest:List Oper}{o:Oper}{a:Act}{W:World}(N:Tmp)(t:TypeId)(cs:Array Value)
 (h:∀g,g=W.heap.size→∀w1,Y (w1.heap[g]?=some (.cells cs t (0,0)))→Below W.heap.size W w1→wpList P ops Q rest (a.put o.dst (.pointer (some ⟨g,0,none⟩))) w1)
 (hgd:o.guard=none:=by rfl)(hd:o.dst=some N:=by rfl)(hrun:(execOp a.eval o).run P W= .ok (.value (.pointer (some ⟨W.heap.size,0,none⟩))) (W.alloc (.cells cs t (0,0))):=by first|(go_simp;done)|(go_simp;rfl)):wpList P ops Q (o::rest) a W:=
 box_event hgd hd hrun (fun g hg w1 hb hB=>h g hg w1 ⟨hb⟩ hB)
theorem nm {W0 W:World}{g q:Nat}{o:Obj}(h:Y (W0.heap[g]?=some o))(hq:q=W.heap.size)[s:jz [] W0 W]:Y (q≠g):=⟨bm h hq⟩
def errW:Option Int→Value
 |none=> .nilIface
 |some c=> .iface 0 (.int .i64 c)
theorem rZ:errW none= .nilIface:=rfl
theorem ra(c:Int):errW (some c)= .iface 0 (.int .i64 c):=rfl
theorem info3:(Try.prog.info? 3).map (fun i=>(i.zero,i.size,i.bytes))=some (some (.int .i64 0),1,8):=by kernel_rfl
theorem BB:(Try.prog.info? 4).map (fun i=>(i.zero,i.size,i.bytes))=some (some (.bool false),1,1):=by kernel_rfl
theorem mb:(Try.prog.info? 38).map (fun i=>(i.zero,i.size,i.bytes))=some (some (.agg #[(.int .i64 0),(.int .i64 0)]),2,16):=by kernel_rfl
theorem qF:(Try.prog.info? 40).map (fun i=>(i.zero,i.size,i.bytes))=some (some (.agg #[(.int .i64 0),(.int .i64 0),(.int .i64 0),(.int .i64 0),(.int .i64 0)]),5,40):=by kernel_rfl
theorem Vl:(Try.prog.info? 82).map (fun i=>(i.zero,i.size,i.bytes))=some (some (.agg #[(.int .i64 0),(.int .i64 0),(.int .i64 0),(.int .i64 0),(.int .i64 0)]),5,40):=by kernel_rfl
structure X where
 f0:Int
 f1:Int
def ey:X:=⟨(0:Int),(0:Int)⟩
def ag:Kd X:=Kd.NI (Kd.pair (Kd.int .i64) (Kd.int .i64)) (fun x:X=>(x.f0,x.f1))
theorem Tj:Kd.Heap ag:=Kd.Th _ (Kd.Cl (Kd.AY .i64) (Kd.AY .i64))
theorem Tk {w:World}{x:X}{cs:List Value}(h:ag.K w x cs):cs=[.int .i64 x.f0,.int .i64 x.f1]:=by
 obtain⟨_,_,rfl,rfl,rfl⟩:=h;exact rfl
theorem te {w:World}{base:Nat}{ok:Nat→Prop}{x:X}{cs:List Value}(h:ag.M w base ok x cs):cs=[.int .i64 x.f0,.int .i64 x.f1]:=by
 obtain⟨_,_,rfl,rfl,rfl⟩:=h;exact rfl
theorem k38_mk(w:World)(x:X):ag.K w x [.int .i64 x.f0,.int .i64 x.f1]:=⟨[.int .i64 x.f0],[.int .i64 x.f1],rfl,rfl,rfl⟩
theorem nA(w:World)(base:Nat)(ok:Nat→Prop)(x:X):ag.M w base ok x [.int .i64 x.f0,.int .i64 x.f1]:=⟨[.int .i64 x.f0],[.int .i64 x.f1],rfl,rfl,rfl⟩
def aC(xs:List X)(i:Int):X:=xs.getD i.toNat ey
theorem eA {w:World}{A:Option Addr}{n:Nat}{xs:List X}(h:Kd.C ag w A n xs)(i:Int)(h0:0≤i)(h1:i<n):∃ad,A=some ad∧w.cell? (ad.add (i.toNat*2))=some (.int .i64 (aC xs i).f0)∧w.cell? ⟨(ad.add (i.toNat*2)).block,(ad.add (i.toNat*2)).off+1,none⟩=some (.int .i64 (aC xs i).f1):=by
 obtain⟨ad,c,e,_,hK,hc0⟩:=Kd.Jg h ey i h0 h1;have hc:∀j u,c[j]?=some u→w.cell? (ad.add (i.toNat*2+j))=some u:=hc0;obtain rfl:=Tk hK;exact⟨ad,e,hc 0 _ rfl,by rw[←yb _ _ 1 (by omega)];exact hc 1 _ rfl⟩
structure aV where
 f0:Int
 f1:Int
 f2:X
 f3:Int
def cr:aV:=⟨(0:Int),(0:Int),ey,(0:Int)⟩
def cV:Kd aV:=Kd.NI (Kd.pair (Kd.int .i64) (Kd.pair (Kd.int .i64) (Kd.pair ag (Kd.int .i64)))) (fun x:aV=>(x.f0,x.f1,x.f2,x.f3))
theorem k40_heap:Kd.Heap cV:=Kd.Th _ (Kd.Cl (Kd.AY .i64) (Kd.Cl (Kd.AY .i64) (Kd.Cl Tj (Kd.AY .i64))))
theorem k40_open {w:World}{x:aV}{cs:List Value}(h:cV.K w x cs):cs=[.int .i64 x.f0,.int .i64 x.f1,.int .i64 x.f2.f0,.int .i64 x.f2.f1,.int .i64 x.f3]:=by
 obtain⟨_,_,rfl,rfl,⟨_,_,rfl,rfl,⟨_,_,rfl,s2,rfl⟩⟩⟩:=h;obtain rfl:=Tk s2;exact rfl
theorem T4 {w:World}{base:Nat}{ok:Nat→Prop}{x:aV}{cs:List Value}(h:cV.M w base ok x cs):cs=[.int .i64 x.f0,.int .i64 x.f1,.int .i64 x.f2.f0,.int .i64 x.f2.f1,.int .i64 x.f3]:=by
 obtain⟨_,_,rfl,rfl,⟨_,_,rfl,rfl,⟨_,_,rfl,s2,rfl⟩⟩⟩:=h;obtain rfl:=te s2;exact rfl
theorem k40_mk(w:World)(x:aV):cV.K w x [.int .i64 x.f0,.int .i64 x.f1,.int .i64 x.f2.f0,.int .i64 x.f2.f1,.int .i64 x.f3]:=⟨[.int .i64 x.f0],[.int .i64 x.f1,.int .i64 x.f2.f0,.int .i64 x.f2.f1,.int .i64 x.f3],rfl,rfl,⟨[.int .i64 x.f1],[.int .i64 x.f2.f0,.int .i64 x.f2.f1,.int .i64 x.f3],rfl,rfl,⟨[.int .i64 x.f2.f0,.int .i64 x.f2.f1],[.int .i64 x.f3],rfl,(k38_mk w x.f2),rfl⟩⟩⟩
theorem sj(w:World)(base:Nat)(ok:Nat→Prop)(x:aV):cV.M w base ok x [.int .i64 x.f0,.int .i64 x.f1,.int .i64 x.f2.f0,.int .i64 x.f2.f1,.int .i64 x.f3]:=⟨[.int .i64 x.f0],[.int .i64 x.f1,.int .i64 x.f2.f0,.int .i64 x.f2.f1,.int .i64 x.f3],rfl,rfl,⟨[.int .i64 x.f1],[.int .i64 x.f2.f0,.int .i64 x.f2.f1,.int .i64 x.f3],rfl,rfl,⟨[.int .i64 x.f2.f0,.int .i64 x.f2.f1],[.int .i64 x.f3],rfl,(nA w base ok x.f2),rfl⟩⟩⟩
def J(xs:List aV)(i:Int):aV:=xs.getD i.toNat cr
theorem jQ {w:World}{A:Option Addr}{n:Nat}{xs:List aV}(h:Kd.C cV w A n xs)(i:Int)(h0:0≤i)(h1:i<n):∃ad,A=some ad∧w.cell? (ad.add (i.toNat*5))=some (.int .i64 (J xs i).f0)∧w.cell? ⟨(ad.add (i.toNat*5)).block,(ad.add (i.toNat*5)).off+1,none⟩=some (.int .i64 (J xs i).f1)∧w.cell? ⟨(ad.add (i.toNat*5)).block,(ad.add (i.toNat*5)).off+2,none⟩=some (.int .i64 (J xs i).f2.f0)∧w.cell? ⟨(ad.add (i.toNat*5)).block,(ad.add (i.toNat*5)).off+3,none⟩=some (.int .i64 (J xs i).f2.f1)∧w.cell? ⟨(ad.add (i.toNat*5)).block,(ad.add (i.toNat*5)).off+4,none⟩=some (.int .i64 (J xs i).f3):=by
 obtain⟨ad,c,e,_,hK,hc0⟩:=Kd.Jg h cr i h0 h1;have hc:∀j u,c[j]?=some u→w.cell? (ad.add (i.toNat*5+j))=some u:=hc0;obtain rfl:=k40_open hK;exact⟨ad,e,hc 0 _ rfl,by rw[←yb _ _ 1 (by omega)];exact hc 1 _ rfl,by rw[←yb _ _ 2 (by omega)];exact hc 2 _ rfl,by rw[←yb _ _ 3 (by omega)];exact hc 3 _ rfl,by rw[←yb _ _ 4 (by omega)];exact hc 4 _ rfl⟩
structure ga where
 f0:Int
 f1:X
 f2:Int
 f3:Int
def z82:ga:=⟨(0:Int),ey,(0:Int),(0:Int)⟩
def sS:Kd ga:=Kd.NI (Kd.pair (Kd.int .i64) (Kd.pair ag (Kd.pair (Kd.int .i64) (Kd.int .i64)))) (fun x:ga=>(x.f0,x.f1,x.f2,x.f3))
theorem k82_heap:Kd.Heap sS:=Kd.Th _ (Kd.Cl (Kd.AY .i64) (Kd.Cl Tj (Kd.Cl (Kd.AY .i64) (Kd.AY .i64))))
theorem k82_open {w:World}{x:ga}{cs:List Value}(h:sS.K w x cs):cs=[.int .i64 x.f0,.int .i64 x.f1.f0,.int .i64 x.f1.f1,.int .i64 x.f2,.int .i64 x.f3]:=by
 obtain⟨_,_,rfl,rfl,⟨_,_,rfl,s1,⟨_,_,rfl,rfl,rfl⟩⟩⟩:=h;obtain rfl:=Tk s1;exact rfl
theorem k82_openM {w:World}{base:Nat}{ok:Nat→Prop}{x:ga}{cs:List Value}(h:sS.M w base ok x cs):cs=[.int .i64 x.f0,.int .i64 x.f1.f0,.int .i64 x.f1.f1,.int .i64 x.f2,.int .i64 x.f3]:=by
 obtain⟨_,_,rfl,rfl,⟨_,_,rfl,s1,⟨_,_,rfl,rfl,rfl⟩⟩⟩:=h;obtain rfl:=te s1;exact rfl
theorem k82_mk(w:World)(x:ga):sS.K w x [.int .i64 x.f0,.int .i64 x.f1.f0,.int .i64 x.f1.f1,.int .i64 x.f2,.int .i64 x.f3]:=⟨[.int .i64 x.f0],[.int .i64 x.f1.f0,.int .i64 x.f1.f1,.int .i64 x.f2,.int .i64 x.f3],rfl,rfl,⟨[.int .i64 x.f1.f0,.int .i64 x.f1.f1],[.int .i64 x.f2,.int .i64 x.f3],rfl,(k38_mk w x.f1),⟨[.int .i64 x.f2],[.int .i64 x.f3],rfl,rfl,rfl⟩⟩⟩
theorem k82_mkM(w:World)(base:Nat)(ok:Nat→Prop)(x:ga):sS.M w base ok x [.int .i64 x.f0,.int .i64 x.f1.f0,.int .i64 x.f1.f1,.int .i64 x.f2,.int .i64 x.f3]:=⟨[.int .i64 x.f0],[.int .i64 x.f1.f0,.int .i64 x.f1.f1,.int .i64 x.f2,.int .i64 x.f3],rfl,rfl,⟨[.int .i64 x.f1.f0,.int .i64 x.f1.f1],[.int .i64 x.f2,.int .i64 x.f3],rfl,(nA w base ok x.f1),⟨[.int .i64 x.f2],[.int .i64 x.f3],rfl,rfl,rfl⟩⟩⟩
def cw(xs:List ga)(i:Int):ga:=xs.getD i.toNat z82
theorem D6 {w:World}{A:Option Addr}{n:Nat}{xs:List ga}(h:Kd.C sS w A n xs)(i:Int)(h0:0≤i)(h1:i<n):∃ad,A=some ad∧w.cell? (ad.add (i.toNat*5))=some (.int .i64 (cw xs i).f0)∧w.cell? ⟨(ad.add (i.toNat*5)).block,(ad.add (i.toNat*5)).off+1,none⟩=some (.int .i64 (cw xs i).f1.f0)∧w.cell? ⟨(ad.add (i.toNat*5)).block,(ad.add (i.toNat*5)).off+2,none⟩=some (.int .i64 (cw xs i).f1.f1)∧w.cell? ⟨(ad.add (i.toNat*5)).block,(ad.add (i.toNat*5)).off+3,none⟩=some (.int .i64 (cw xs i).f2)∧w.cell? ⟨(ad.add (i.toNat*5)).block,(ad.add (i.toNat*5)).off+4,none⟩=some (.int .i64 (cw xs i).f3):=by
 obtain⟨ad,c,e,_,hK,hc0⟩:=Kd.Jg h z82 i h0 h1;have hc:∀j u,c[j]?=some u→w.cell? (ad.add (i.toNat*5+j))=some u:=hc0;obtain rfl:=k82_open hK;exact⟨ad,e,hc 0 _ rfl,by rw[←yb _ _ 1 (by omega)];exact hc 1 _ rfl,by rw[←yb _ _ 2 (by omega)];exact hc 2 _ rfl,by rw[←yb _ _ 3 (by omega)];exact hc 3 _ rfl,by rw[←yb _ _ 4 (by omega)];exact hc 4 _ rfl⟩
def QQ(xs:List (List X))(i:Int):(List X):=xs.getD i.toNat ([]:List X)
theorem at_L6 {w:World}{A:Option Addr}{n:Nat}{xs:List (List X)}(h:Kd.C (Kd.slice 38 ag) w A n xs)(i:Int)(h0:0≤i)(h1:i<n):∃ad A0 c0,A=some ad∧w.cell? (ad.add i.toNat)=some (.slice A0 (QQ xs i).length c0)∧(QQ xs i).length≤c0∧ag.C w A0 (QQ xs i).length (QQ xs i):=by
 obtain⟨ad,c,e,_,hK,hc0⟩:=Kd.Jg h ([]:List X) i h0 h1;have hc:∀j u,c[j]?=some u→w.cell? (ad.add (i.toNat*1+j))=some u:=hc0;obtain⟨A0,c0,rfl,l0,g0⟩:=hK;exact⟨ad,A0,c0,e,by have hq:=hc 0 _ rfl;rwa [Nat.mul_one,Nat.add_zero]at hq,l0,g0⟩
def QR(xs:List (List Int))(i:Int):(List Int):=xs.getD i.toNat ([]:List Int)
theorem at_L7 {w:World}{A:Option Addr}{n:Nat}{xs:List (List Int)}(h:Kd.C (Kd.slice 5 (Kd.int .u8)) w A n xs)(i:Int)(h0:0≤i)(h1:i<n):∃ad A0 c0,A=some ad∧w.cell? (ad.add i.toNat)=some (.slice A0 (QR xs i).length c0)∧(QR xs i).length≤c0∧(Kd.int .u8).C w A0 (QR xs i).length (QR xs i):=by
 obtain⟨ad,c,e,_,hK,hc0⟩:=Kd.Jg h ([]:List Int) i h0 h1;have hc:∀j u,c[j]?=some u→w.cell? (ad.add (i.toNat*1+j))=some u:=hc0;obtain⟨A0,c0,rfl,l0,g0⟩:=hK;exact⟨ad,A0,c0,e,by have hq:=hc 0 _ rfl;rwa [Nat.mul_one,Nat.add_zero]at hq,l0,g0⟩
theorem er {p:Prop}(h:p:=by first|rfl|(simp[rZ,ra]<;>rfl)|(simp[*,rZ,ra]<;>rfl)):p:=h
noncomputable instance:DecidableEq X:=fun _ _=>abz _
noncomputable instance:DecidableEq aV:=fun _ _=>abz _
noncomputable instance:DecidableEq ga:=fun _ _=>abz _
theorem hq {w W:World}{p:Addr}{v:Value}(HB:Y (Below w.heap.size w W))(h:w.cell? p=some v):W.cell? p=some v:=hc HB h (cB _ _ h)
class uN(g b t:Nat)(cs:Array Value)(cs':outParam (Array Value))(W0 W:World):Prop where out:g≠b→W0.heap[g]?=some (.cells cs t (0,0))→W.heap[g]?=some (.cells cs' t (0,0))
instance putF_refl(g b t:Nat)(cs:Array Value)(W:World):uN g b t cs cs W W:=⟨fun _ h=>h⟩
instance putF_alloc(g b t:Nat)(cs cs':Array Value)(W0 W:World)(o:Obj)[s:uN g b t cs cs' W0 W]:uN g b t cs cs' W0 (W.alloc o):=⟨fun n h=>ba (s.out n h) o⟩
instance putF_drewN(g b t:Nat)(cs cs':Array Value)(W0 W:World)(n:Nat)[s:uN g b t cs cs' W0 W]:uN g b t cs cs' W0 (W.drewN n):=⟨fun m h=>bo (s.out m h) n⟩
instance putF_drew(g b t:Nat)(cs cs':Array Value)(W0 W:World)[s:uN g b t cs cs' W0 W]:uN g b t cs cs' W0 W.drew:=⟨fun m h=>bL (s.out m h)⟩
instance putF_far(g b t:Nat)(cs cs':Array Value)(W0 W:World)(j:Nat)(v:Value)[s:uN g b t cs cs' W0 W]:uN g b t cs cs' W0 (W.setCell ⟨b,j,none⟩ v):=⟨fun m h=>bw (s.out m h) m _⟩
instance putF_set(g b t:Nat)(cs cs':Array Value)(W0 W:World)(j:Nat)(v:Value)[s:uN g b t cs cs' W0 W]:uN g b t cs (cs'.setIfInBounds j v) W0 (W.setCell ⟨g,j,none⟩ v):=⟨fun m h=>yi (s.out m h) j v rfl⟩
theorem AD {g b t:Nat}{cs cs' cs2:Array Value}{W0 W:World}(h:Y (W0.heap[g]?=some (.cells cs t (0,0))))(n:Y (g≠b))[s:uN g b t cs cs' W0 W](e:cs'=cs2:=by rfl):W.heap[g]?=some (.cells cs2 t (0,0)):=e▸s.out n.out h.out
theorem jI {α:Type}[BEq α][LawfulBEq α]{a b:α}(h:¬a=b):(a==b)=false:=beq_eq_false_iff_ne.mpr h
theorem jJ {α:Type}[BEq α][LawfulBEq α]{a b:α}(h:¬a=b):(a !=b)=true:=bne_iff_ne.mpr h
theorem jm {α:Type}[BEq α][LawfulBEq α]{a b:α}(h:a=b):(a==b)=true:=beq_iff_eq.mpr h
theorem jn {α:Type}[BEq α][LawfulBEq α]{a b:α}(h:a=b):(a !=b)=false:=bne_eq_false_iff_eq.mpr h
theorem bS {p:Prop}[Decidable p](h:p):decide p=true:=decide_eq_true h
theorem f7 {p:Prop}[Decidable p](h:¬p):decide p=false:=decide_eq_false h
theorem nq {P:Program}{ops:Array Oper}{Q:Exit→Act→World→Prop}{md:Region.Mode}{S:World→Prop}{ds:List Nat}(N:Nat){fuel:Nat}{l:Array Bool}{a b a':Act}{v:Value}{w:World}(h:fj P md ops Q S ds fuel l a' w)(h0:a=Act.put b (some N) v:=by rfl)(h1:Act.put b (some N) v=a':=by(simp only[Act.put,List.setIfInBounds_toArray,List.set_cons_zero,List.set_cons_succ,lr,nu];rfl)):fj P md ops Q S ds fuel l a w:=by
 subst h0;subst h1;exact h
theorem nw {P:Program}{ops:Array Oper}{Q:Exit→Act→World→Prop}{md:Region.Mode}{S:World→Prop}{ds:List Nat}{fuel:Nat}{l:Array Bool}{a a':Act}{w:World}(h:fj P md ops Q S ds fuel l a' w)(h1:a=a':=by first|(simp only[zQ,Act.put,List.setIfInBounds_toArray,List.set_cons_zero,List.set_cons_succ];done)|(simp only[zQ,Act.put,List.setIfInBounds_toArray,List.set_cons_zero,List.set_cons_succ];rfl)):fj P md ops Q S ds fuel l a w:=by
 subst h1;exact h
end Go.Proofs.Ytahnkgehlfdlkaa.G
