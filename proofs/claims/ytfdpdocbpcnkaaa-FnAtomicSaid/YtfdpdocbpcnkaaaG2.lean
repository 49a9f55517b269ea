-- Printed by a program of this session (drive.py, by way of the kit's print). Not trusted: Lean checks it.
import Derived.Test.YtfdpdocbpcnkaaaG0
import Derived.Test.YtfdpdocbpcnkaaaG1
open Bool renaming eq_false_iff→dW,not_true→aaT,not_false→aaU
open ByteArray renaming empty→bA
open Go.IntKind renaming u64→aai
open Go.Proofs.Try renaming prog→t5,underlying26→aae,underlying64→aah,func16→aas,underlying23→aat,underlying22→aaD,underlying24→aaE,func45→aa2,underlying5→abd,underlying9→abe,func21→abq,func27→abx,func43→abF
open Go.RowKit renaming wrap64→I0
open Go.RowKit.Below renaming refl→pv
open Go.World renaming block_lt_of_cell?→I1
open Int renaming reduceToNat→aaA
open List renaming setIfInBounds_toArray→JM,length_take→bx,set_cons_zero→jG,set_cons_succ→kt,mem_cons→aaj,replicate→aax
open Nat renaming le_refl→mz,le_of_eq→aaK
open Option renaming bind_eq_some_iff→He,bind_some→Ok
open Option.some renaming injEq→fc,inj→fl
open Prod.mk renaming injEq→oe
namespace Go.Proofs.Ytfdpdocbpcnkaaa.G
open Go.RowKit Go.Proofs.YtfdpdocbpcnkaaaW.PrintWords Go.Proofs.YtfdpdocbpcnkaaaW.PrintLast Go.Proofs.YtfdpdocbpcnkaaaW.PrintMore
attribute [local go_sem] tM tN tQ tR tA tB tO tP
set_option linter.unusedVariables false
set_option linter.unusedSimpArgs false
attribute [local go_sem high] NP
def I(w0 W:World)(g:Nat)(f0:List Int)(f1:Int)(f2:Int):Prop:=∃A0 c0,W.heap[g]?=some (.cells #[.slice A0 f0.length c0,.int .i64 f1,.int .u64 f2] 44 (0,0))∧w0.heap.size≤g∧Kd.C (Kd.int .u8) w0 A0 f0.length f0
theorem I.grown {w0 W:World}{g:Nat}{f0:List Int}{f1:Int}{f2:Int}{W1:World}{row:Option Nat}(h:I w0 W g f0 f1 f2)(hw:W.grownBy W1 row)(hne:some g≠row):I w0 W1 g f0 f1 f2:=by
 obtain⟨A0,c0,hb,hg,hr0⟩:=h;exact⟨A0,c0,fx hb hw hne,hg,hr0⟩
theorem I.own_neN {w0 W:World}{g:Nat}{f0:List Int}{f1:Int}{f2:Int}{α:Type}{d:Kd α}{e:Nat}{base:Nat}{ok:Nat→Prop}{v:Value}{xs:List α}(h:I w0 W g f0 f1 f2)(ho:Kd.N d e W base ok v xs)(ht:e≠44):some g≠v.ownBlock:=by
 obtain⟨A0,c0,hb,hg,hr0⟩:=h;exact Kd.a60 ho hb ht
theorem I.fresh {w0 W:World}{g:Nat}{f0:List Int}{f1:Int}{f2:Int}(h:I w0 W g f0 f1 f2):∀k,W.heap.size≤k→k≠g:=by
 obtain⟨A0,c0,hb,hg,hr0⟩:=h;exact Kd.EG hb
theorem I.kept {w0 W:World}{g:Nat}{f0:List Int}{f1:Int}{f2:Int}{W1:World}{S:Nat→Prop}(h:I w0 W g f0 f1 f2)(hk:aj W W1 S)(hne:¬S g):I w0 W1 g f0 f1 f2:=by
 obtain⟨A0,c0,hb,hg,hr0⟩:=h;exact⟨A0,c0,M1 hb hk hne,hg,hr0⟩
theorem I.wW {w0 W0 W:World}{g:Nat}{f0:List Int}{f1:Int}{f2:Int}{l:List Nat}(h:aC (I w0 W0 g f0 f1 f2))(hl:¬(g∈l))[s:iR l W0 W]:I w0 W g f0 f1 f2:=I.kept h.out (S:=fun k=>k∈l) s.out hl
theorem I.df {w0 W0 W:World}{g:Nat}{f0:List Int}{f1:Int}{f2:Int}(h:aC (I w0 W0 g f0 f1 f2))[s:iR [] W0 W]:I w0 W g f0 f1 f2:=I.wW (l:=[]) h (fun h=>by cases h)
theorem I.eh {w0 W0 W:World}{g a:Nat}{f0:List Int}{f1:Int}{f2:Int}(h:aC (I w0 W0 g f0 f1 f2))(ha:aC (g≠a))[s:iR [a] W0 W]:I w0 W g f0 f1 f2:=I.wW (l:=[a]) h (fun h=>(aaj.1 h).elim ha.out (fun h=>by cases h))
theorem I.bZ {w0 W0 W:World}{g a b:Nat}{f0:List Int}{f1:Int}{f2:Int}(h:aC (I w0 W0 g f0 f1 f2))(ha:aC (g≠a))(hb:aC (g≠b))[s:iR [a,b] W0 W]:I w0 W g f0 f1 f2:=I.wW (l:=[a,b]) h (fun h=>(aaj.1 h).elim ha.out (fun h=>(aaj.1 h).elim hb.out (fun h=>by cases h)))
theorem I.eU {w0 W0 W:World}{g a b c:Nat}{f0:List Int}{f1:Int}{f2:Int}(h:aC (I w0 W0 g f0 f1 f2))(ha:aC (g≠a))(hb:aC (g≠b))(hc:aC (g≠c))[s:iR [a,b,c] W0 W]:I w0 W g f0 f1 f2:=I.wW (l:=[a,b,c]) h (fun h=>(aaj.1 h).elim ha.out (fun h=>(aaj.1 h).elim hb.out (fun h=>(aaj.1 h).elim hc.out (fun h=>by cases h))))
theorem I.iq4 {w0 W0 W:World}{g a b c d:Nat}{f0:List Int}{f1:Int}{f2:Int}(h:aC (I w0 W0 g f0 f1 f2))(ha:aC (g≠a))(hb:aC (g≠b))(hc:aC (g≠c))(hd:aC (g≠d))[s:iR [a,b,c,d] W0 W]:I w0 W g f0 f1 f2:=I.wW (l:=[a,b,c,d]) h (fun h=>(aaj.1 h).elim ha.out (fun h=>(aaj.1 h).elim hb.out (fun h=>(aaj.1 h).elim hc.out (fun h=>(aaj.1 h).elim hd.out (fun h=>by cases h)))))
theorem I.iq5 {w0 W0 W:World}{g a b c d e:Nat}{f0:List Int}{f1:Int}{f2:Int}(h:aC (I w0 W0 g f0 f1 f2))(ha:aC (g≠a))(hb:aC (g≠b))(hc:aC (g≠c))(hd:aC (g≠d))(he:aC (g≠e))[s:iR [a,b,c,d,e] W0 W]:I w0 W g f0 f1 f2:=I.wW (l:=[a,b,c,d,e]) h (fun h=>(aaj.1 h).elim ha.out (fun h=>(aaj.1 h).elim hb.out (fun h=>(aaj.1 h).elim hc.out (fun h=>(aaj.1 h).elim hd.out (fun h=>(aaj.1 h).elim he.out (fun h=>by cases h))))))
theorem I.iq6 {w0 W0 W:World}{g a b c d e f:Nat}{f0:List Int}{f1:Int}{f2:Int}(h:aC (I w0 W0 g f0 f1 f2))(ha:aC (g≠a))(hb:aC (g≠b))(hc:aC (g≠c))(hd:aC (g≠d))(he:aC (g≠e))(hf:aC (g≠f))[s:iR [a,b,c,d,e,f] W0 W]:I w0 W g f0 f1 f2:=I.wW (l:=[a,b,c,d,e,f]) h (fun h=>(aaj.1 h).elim ha.out (fun h=>(aaj.1 h).elim hb.out (fun h=>(aaj.1 h).elim hc.out (fun h=>(aaj.1 h).elim hd.out (fun h=>(aaj.1 h).elim he.out (fun h=>(aaj.1 h).elim hf.out (fun h=>by cases h)))))))
theorem I.iq7 {w0 W0 W:World}{g a b c d e f m:Nat}{f0:List Int}{f1:Int}{f2:Int}(h:aC (I w0 W0 g f0 f1 f2))(ha:aC (g≠a))(hb:aC (g≠b))(hc:aC (g≠c))(hd:aC (g≠d))(he:aC (g≠e))(hf:aC (g≠f))(hm:aC (g≠m))[s:iR [a,b,c,d,e,f,m] W0 W]:I w0 W g f0 f1 f2:=I.wW (l:=[a,b,c,d,e,f,m]) h (fun h=>(aaj.1 h).elim ha.out (fun h=>(aaj.1 h).elim hb.out (fun h=>(aaj.1 h).elim hc.out (fun h=>(aaj.1 h).elim hd.out (fun h=>(aaj.1 h).elim he.out (fun h=>(aaj.1 h).elim hf.out (fun h=>(aaj.1 h).elim hm.out (fun h=>by cases h))))))))
theorem I.below {w0 W:World}{g:Nat}{f0:List Int}{f1:Int}{f2:Int}{W1:World}(h:I w0 W g f0 f1 f2)(hw:Below W.heap.size W W1):I w0 W1 g f0 f1 f2:=h.grown (RN hw none) (by simp)
theorem I.alloc {w0 W:World}{g:Nat}{f0:List Int}{f1:Int}{f2:Int}(h:I w0 W g f0 f1 f2)(o:Obj):I w0 (W.alloc o) g f0 f1 f2:=h.below (mP (pv _ _) o)
theorem I.drewN {w0 W:World}{g:Nat}{f0:List Int}{f1:Int}{f2:Int}(h:I w0 W g f0 f1 f2)(m:Nat):I w0 (W.drewN m) g f0 f1 f2:=h
theorem I.drew {w0 W:World}{g:Nat}{f0:List Int}{f1:Int}{f2:Int}(h:I w0 W g f0 f1 f2):I w0 W.drew g f0 f1 f2:=h
theorem I.at_ {w0 W:World}{g:Nat}{f0:List Int}{f1:Int}{f2:Int}{w':World}{m:Nat}(hq:W.drewN m=w')(h:I w0 W g f0 f1 f2):I w0 w' g f0 f1 f2:=by subst hq;exact I.drewN h m
theorem I.apart {w0 W:World}{g:Nat}{f0:List Int}{f1:Int}{f2:Int}{α:Type}{d:Kd α}{e:Nat}{base:Nat}{ok:Nat→Prop}{v:Value}{xs:List α}(h:I w0 W g f0 f1 f2)(ho:d.R e W base ok v xs)(ht:∀q,q∈e::d.E→q≠44):d.R e W base (fun k=>ok k∧k≠g) v xs:=by
 obtain⟨A0,c0,hb,hg,hr0⟩:=h;exact Kd.b7 ho hb ht
theorem I.own_ne {w0 W:World}{g:Nat}{f0:List Int}{f1:Int}{f2:Int}{α:Type}{d:Kd α}{e:Nat}{base:Nat}{ok:Nat→Prop}{v:Value}{xs:List α}(h:I w0 W g f0 f1 f2)(ho:d.R e W base ok v xs)(ht:e≠44):some g≠v.ownBlock:=by
 obtain⟨A0,c0,hb,hg,hr0⟩:=h;exact Kd.fM ho hb ht
theorem I.apartQ {w0 W:World}{g:Nat}{f0:List Int}{f1:Int}{f2:Int}{α:Type}{d:Kd α}{e:Nat}{base:Nat}{ok:Nat→Prop}{v:Value}{xs:List α}(h:I w0 W g f0 f1 f2)(ho:d.Q e W base ok v xs)(ht:∀q,q∈e::d.E→q≠44):d.Q e W base (fun k=>ok k∧k≠g) v xs:=by
 obtain⟨A0,c0,hb,hg,hr0⟩:=h;exact Kd.a0U ho hb ht
theorem I.own_neQ {w0 W:World}{g:Nat}{f0:List Int}{f1:Int}{f2:Int}{α:Type}{d:Kd α}{e:Nat}{base:Nat}{ok:Nat→Prop}{v:Value}{xs:List α}(h:I w0 W g f0 f1 f2)(ho:d.Q e W base ok v xs)(ht:e≠44):some g≠v.ownBlock:=by
 obtain⟨A0,c0,hb,hg,hr0⟩:=h;exact Kd.a6Y ho hb ht
theorem I.apartS {w0 W:World}{g:Nat}{f0:List Int}{f1:Int}{f2:Int}{α:Type}{d:Kd α}{e:Nat}{base:Nat}{ok:Nat→Prop}{v:Value}{xs:List α}(h:I w0 W g f0 f1 f2)(ho:d.S e W base ok v xs)(ht:∀q,q∈e::d.E→q≠44):d.S e W base (fun k=>ok k∧k≠g) v xs:=by
 obtain⟨A0,c0,hb,hg,hr0⟩:=h;exact Kd.a0V ho hb ht
theorem I.own_neS {w0 W:World}{g:Nat}{f0:List Int}{f1:Int}{f2:Int}{α:Type}{d:Kd α}{e:Nat}{base:Nat}{ok:Nat→Prop}{v:Value}{xs:List α}(h:I w0 W g f0 f1 f2)(ho:d.S e W base ok v xs)(ht:e≠44):some g≠v.ownBlock:=by
 obtain⟨A0,c0,hb,hg,hr0⟩:=h;exact Kd.a6Z ho hb ht
theorem I.lt {w0 W:World}{g:Nat}{f0:List Int}{f1:Int}{f2:Int}(h:I w0 W g f0 f1 f2):g<W.heap.size:=by
 obtain⟨A0,c0,hb,hg,hr0⟩:=h;exact gR hb
theorem I.ge {w0 W:World}{g:Nat}{f0:List Int}{f1:Int}{f2:Int}(h:I w0 W g f0 f1 f2):w0.heap.size≤g:=by
 obtain⟨A0,c0,hb,hg,hr0⟩:=h;exact hg
theorem I.ne_blk {w0 W:World}{g:Nat}{f0:List Int}{f1:Int}{f2:Int}{a:Nat}{cs:Array Value}{t:TypeId}{fr:Nat×Nat}(h:I w0 W g f0 f1 f2)(hb2:W.heap[a]?=some (.cells cs t fr))(ht:t≠44):g≠a:=by
 obtain⟨A0,c0,hb,hg,hr0⟩:=h;rintro rfl;rw[hb]at hb2
 injection hb2 with hb2
 injection hb2 with _ ht2
 exact ht ht2.symm
theorem I.far {w0 W:World}{g:Nat}{f0:List Int}{f1:Int}{f2:Int}{p:Addr}(h:I w0 W g f0 f1 f2)(hne:g≠p.block)(u:Value):I w0 (W.setCell p u) g f0 f1 f2:=by
 obtain⟨A0,c0,hb,hg,hr0⟩:=h;exact⟨A0,c0,cS hb hne u,hg,hr0⟩
theorem IH {W:World}{g:Nat}{A0:Option Addr}{c0:Nat}{f0:List Int}{f1:Int}{f2:Int}(h:W.heap[g]?=some (.cells #[.slice A0 f0.length c0,.int .i64 f1,.int .u64 f2] 44 (0,0))):W.cell? ⟨g,0,none⟩=some (.slice A0 f0.length c0):=(aQ h 0).trans rfl
theorem II {W:World}{g:Nat}{A0:Option Addr}{c0:Nat}{f0:List Int}{f1:Int}{f2:Int}(h:W.heap[g]?=some (.cells #[.slice A0 f0.length c0,.int .i64 f1,.int .u64 f2] 44 (0,0))):W.cell? ⟨g,1,none⟩=some (.int .i64 f1):=(aQ h 1).trans rfl
theorem I.Js {w0 W:World}{g:Nat}{f0:List Int}{f1:Int}{f2:Int}(h:I w0 W g f0 f1 f2)(x:Int):I w0 (W.setCell ⟨g,1,none⟩ (.int .i64 x)) g f0 x f2:=by
 obtain⟨A0,c0,hb,hg,hr0⟩:=h;exact⟨A0,c0,by simpa using IU hb 1 (.int .i64 x),hg,hr0⟩
theorem IJ {W:World}{g:Nat}{A0:Option Addr}{c0:Nat}{f0:List Int}{f1:Int}{f2:Int}(h:W.heap[g]?=some (.cells #[.slice A0 f0.length c0,.int .i64 f1,.int .u64 f2] 44 (0,0))):W.cell? ⟨g,2,none⟩=some (.int .u64 f2):=(aQ h 2).trans rfl
theorem I.Jt {w0 W:World}{g:Nat}{f0:List Int}{f1:Int}{f2:Int}(h:I w0 W g f0 f1 f2)(x:Int):I w0 (W.setCell ⟨g,2,none⟩ (.int .u64 x)) g f0 f1 x:=by
 obtain⟨A0,c0,hb,hg,hr0⟩:=h;exact⟨A0,c0,by simpa using IU hb 2 (.int .u64 x),hg,hr0⟩
theorem I.new(w0 W:World)(A0:Option Addr)(c0:Nat)(f0:List Int)(f1:Int)(f2:Int)(hB:Below w0.heap.size w0 W)(hr0:Kd.C (Kd.int .u8) w0 A0 f0.length f0):I w0 (W.alloc (.cells #[.slice A0 f0.length c0,.int .i64 f1,.int .u64 f2] 44)) W.heap.size f0 f1 f2:=⟨A0,c0,by simpa using heap_alloc_new W _,hB.size,hr0⟩
def qj.f(aV:List Int)(bV:Int)(cF:Int):Option (Int×Int×Int):=if bV<(aV.length:Int)then(if 0≤bV then(if(I0 (bV+1))≤(aV.length:Int)then(some (I0 (rd aV bV),I0 (bV+1),aai.wrap ((aai.wrap ((aai.wrap (cF*6364136223846793005))+(aai.wrap (I0 (rd aV bV)))))+1442695040888963407)))else(some (I0 (Go.bits .and .u64 ((aai.wrap ((aai.wrap ((aai.wrap (cF*6364136223846793005))+(aai.wrap (I0 (rd aV bV)))))+1442695040888963407))/1099511627776) 255),I0 (bV+1),aai.wrap ((aai.wrap ((aai.wrap (cF*6364136223846793005))+(aai.wrap (I0 (rd aV bV)))))+1442695040888963407))))else(none))else(if(I0 (bV+1))≤(aV.length:Int)then(some (0,I0 (bV+1),aai.wrap ((aai.wrap ((aai.wrap (cF*6364136223846793005))))+1442695040888963407)))else(some (I0 (Go.bits .and .u64 ((aai.wrap ((aai.wrap ((aai.wrap (cF*6364136223846793005))))+1442695040888963407))/1099511627776) 255),I0 (bV+1),aai.wrap ((aai.wrap ((aai.wrap (cF*6364136223846793005))))+1442695040888963407))))
set_option maxHeartbeats 8000000 in
set_option maxRecDepth 100000 in
theorem qj.calls(g:Nat)(aV:List Int)(bV:Int)(cF:Int)(r1:Int)(r2:Int)(r3:Int)(w0 w:World)(hI:I w0 w g aV bV cF)(hB:Below w0.heap.size w0 w)(h:qj.f aV bV cF=some (r1,r2,r3)):
 Calls t5 43 #[.pointer (some ⟨g,0,none⟩)] w fun e w'=>e= .returned (.int .i64 r1)∧I w0 w' g aV r2 r3∧Below w0.heap.size w0 w'∧aT w w' g none:=by
 have HI0:=Ah hI;have HK:=Ah (aT.refl w g none);have HL:=Ah hB.size;clear hI;have HW0:=Ah hB.size;have HB:=Ah hB;clear hB;have H:(if bV<(aV.length:Int)then(if 0≤bV then(if(I0 (bV+1))≤(aV.length:Int)then(some (I0 (rd aV bV),I0 (bV+1),aai.wrap ((aai.wrap ((aai.wrap (cF*6364136223846793005))+(aai.wrap (I0 (rd aV bV)))))+1442695040888963407)))else(some (I0 (Go.bits .and .u64 ((aai.wrap ((aai.wrap ((aai.wrap (cF*6364136223846793005))+(aai.wrap (I0 (rd aV bV)))))+1442695040888963407))/1099511627776) 255),I0 (bV+1),aai.wrap ((aai.wrap ((aai.wrap (cF*6364136223846793005))+(aai.wrap (I0 (rd aV bV)))))+1442695040888963407))))else(none))else(if(I0 (bV+1))≤(aV.length:Int)then(some (0,I0 (bV+1),aai.wrap ((aai.wrap ((aai.wrap (cF*6364136223846793005))))+1442695040888963407)))else(some (I0 (Go.bits .and .u64 ((aai.wrap ((aai.wrap ((aai.wrap (cF*6364136223846793005))))+1442695040888963407))/1099511627776) 255),I0 (bV+1),aai.wrap ((aai.wrap ((aai.wrap (cF*6364136223846793005))))+1442695040888963407)))))=some (r1,r2,r3):=h;clear h
 by_cases c2:bV<(aV.length:Int)
 rotate_left
 ·
  rw[if_neg c2]at H;have si:decide (bV<(aV.length:Int))=false:=decide_eq_false c2;clear c2
  by_cases c7:(I0 (bV+1))≤(aV.length:Int)
  ·
   rw[if_pos c7]at H;have lS:decide ((I0 (bV+1))≤(aV.length:Int))=true:=decide_eq_true c7;clear c7;simp only[fc,oe]at H;obtain⟨rfl,rfl,rfl⟩:=H;obtain⟨ASz8_0,cSz8_0,C9,a7i,HSz8_0⟩:=HI0.out;have qN:=IH C9;have qO:=II C9;have JR:=IJ C9;have qP:=d5 C9 1;have JS:=d5 C9 2;clear C9 a7i
   go_enter abF,Try.ntmps43
   go_wp2
   repeat(go_quiet (fail);try go_wp2)
   go_ret
   exact⟨er,by repeat(first|(with_reducible first|exact HI0.out|apply I.alloc|apply I.drewN|apply I.drew|apply I.Js|apply I.Jt)|exact HI0.out),by repeat(first|(with_reducible first|exact HB.out|apply mP|apply qk|apply ia|refine t9 ?_ (I.ge HI0.out))|exact HB.out),by repeat(first|(with_reducible first|exact HK.out|apply aT.G5|apply I8|apply wk|apply I9)|exact HK.out)⟩
  rw[if_neg c7]at H;have lS:decide ((I0 (bV+1))≤(aV.length:Int))=false:=decide_eq_false c7;clear c7;simp only[fc,oe]at H;obtain⟨rfl,rfl,rfl⟩:=H;obtain⟨ASz9_0,cSz9_0,CA,a7j,HSz9_0⟩:=HI0.out;have pG:=IH CA;have pH:=II CA;have vD:=IJ CA;have pI:=d5 CA 1;have vE:=d5 CA 2;clear CA a7j
  go_enter abF,Try.ntmps43
  go_wp2
  repeat(go_quiet (fail);try go_wp2)
  go_ret
  exact⟨er,by repeat(first|(with_reducible first|exact HI0.out|apply I.alloc|apply I.drewN|apply I.drew|apply I.Js|apply I.Jt)|exact HI0.out),by repeat(first|(with_reducible first|exact HB.out|apply mP|apply qk|apply ia|refine t9 ?_ (I.ge HI0.out))|exact HB.out),by repeat(first|(with_reducible first|exact HK.out|apply aT.G5|apply I8|apply wk|apply I9)|exact HK.out)⟩
 rw[if_pos c2]at H;have si:decide (bV<(aV.length:Int))=true:=decide_eq_true c2;clear c2
 by_cases c3:0≤bV
 rotate_left
 ·
  rw[if_neg c3]at H;exact absurd H (by simp)
 rw[if_pos c3]at H;have eb:decide (0≤bV)=true:=decide_eq_true c3;clear c3
 by_cases c4:(I0 (bV+1))≤(aV.length:Int)
 ·
  rw[if_pos c4]at H;have fa:decide ((I0 (bV+1))≤(aV.length:Int))=true:=decide_eq_true c4;clear c4;simp only[fc,oe]at H;obtain⟨rfl,rfl,rfl⟩:=H;obtain⟨ASz5_0,cSz5_0,CB,a7k,a2R⟩:=HI0.out;have EJ:=IH CB;have JT:=II CB;have hcz5_2:=IJ CB;have JU:=d5 CB 1;have hfz5_2:=d5 CB 2;clear CB a7k;have zI:0≤(bV:Int):=od;have zJ:bV<(aV.length:Int):=od;obtain⟨a32,PF,E8⟩:=Kd.BN a2R bV zI zJ
  cases PF
  replace E8:=Cy HB.out E8;replace zI:=eq_true zI;replace zJ:=eq_true zJ
  go_enter abF,Try.ntmps43
  go_wp2
  repeat(go_quiet (fail);try go_wp2)
  go_ret
  exact⟨er,by repeat(first|(with_reducible first|exact HI0.out|apply I.alloc|apply I.drewN|apply I.drew|apply I.Js|apply I.Jt)|exact HI0.out),by repeat(first|(with_reducible first|exact HB.out|apply mP|apply qk|apply ia|refine t9 ?_ (I.ge HI0.out))|exact HB.out),by repeat(first|(with_reducible first|exact HK.out|apply aT.G5|apply I8|apply wk|apply I9)|exact HK.out)⟩
 rw[if_neg c4]at H;have fa:decide ((I0 (bV+1))≤(aV.length:Int))=false:=decide_eq_false c4;clear c4;simp only[fc,oe]at H;obtain⟨rfl,rfl,rfl⟩:=H;obtain⟨ASz6_0,cSz6_0,CC,a7l,a2S⟩:=HI0.out;have xx:=IH CC;have BT:=II CC;have hcz6_2:=IJ CC;have BU:=d5 CC 1;have hfz6_2:=d5 CC 2;clear CC a7l;have zI:0≤(bV:Int):=od;have zJ:bV<(aV.length:Int):=od;obtain⟨a32,PF,E8⟩:=Kd.BN a2S bV zI zJ
 cases PF
 replace E8:=Cy HB.out E8;replace zI:=eq_true zI;replace zJ:=eq_true zJ
 go_enter abF,Try.ntmps43
 go_wp2
 repeat(go_quiet (fail);try go_wp2)
 go_ret
 exact⟨er,by repeat(first|(with_reducible first|exact HI0.out|apply I.alloc|apply I.drewN|apply I.drew|apply I.Js|apply I.Jt)|exact HI0.out),by repeat(first|(with_reducible first|exact HB.out|apply mP|apply qk|apply ia|refine t9 ?_ (I.ge HI0.out))|exact HB.out),by repeat(first|(with_reducible first|exact HK.out|apply aT.G5|apply I8|apply wk|apply I9)|exact HK.out)⟩
def dj.f(aV:List Int)(bV:Int)(cF:Int)(a1:Int):Option (Int×Int×Int):=if a1≤1 then(some (0,bV,cF))else((qj.f aV bV cF).bind fun pL=>(if a1>200 then((qj.f aV pL.2.1 pL.2.2).bind fun yL=>(if a1=0 then(none)else(some (Int.tmod (I0 ((I0 (pL.1*256))+yL.1)) a1,yL.2.1,yL.2.2))))else(if a1=0 then(none)else(some (Int.tmod pL.1 a1,pL.2.1,pL.2.2)))))
set_option maxHeartbeats 8000000 in
set_option maxRecDepth 100000 in
theorem dj.calls(g:Nat)(aV:List Int)(bV:Int)(cF:Int)(a1:Int)(r1:Int)(r2:Int)(r3:Int)(w0 w:World)(hI:I w0 w g aV bV cF)(hB:Below w0.heap.size w0 w)(h:dj.f aV bV cF a1=some (r1,r2,r3)):
 Calls t5 16 #[.pointer (some ⟨g,0,none⟩),.int .i64 a1] w fun e w'=>e= .returned (.int .i64 r1)∧I w0 w' g aV r2 r3∧Below w0.heap.size w0 w'∧aT w w' g none:=by
 have HI0:=Ah hI;have HK:=Ah (aT.refl w g none);have HL:=Ah hB.size;clear hI;have HW0:=Ah hB.size;have HB:=Ah hB;clear hB;have H:(if a1≤1 then(some (0,bV,cF))else((qj.f aV bV cF).bind fun pL=>(if a1>200 then((qj.f aV pL.2.1 pL.2.2).bind fun yL=>(if a1=0 then(none)else(some (Int.tmod (I0 ((I0 (pL.1*256))+yL.1)) a1,yL.2.1,yL.2.2))))else(if a1=0 then(none)else(some (Int.tmod pL.1 a1,pL.2.1,pL.2.2))))))=some (r1,r2,r3):=h;clear h
 by_cases c3:a1≤1
 ·
  rw[if_pos c3]at H;have eb:decide (a1≤1)=true:=decide_eq_true c3;clear c3;simp only[fc,oe]at H;obtain⟨rfl,rfl,rfl⟩:=H
  go_enter aas,Try.ntmps16
  go_wp2
  go_ret
  exact⟨er,I.df HI0,bs HB,e8 HK⟩
 rw[if_neg c3]at H;have eb:decide (a1≤1)=false:=decide_eq_false c3;clear c3;replace H:=He.mp H;obtain⟨⟨XG,PG,PH⟩,ey,H⟩:=H
 try dsimp only at H
 have A4:=Ah ey;clear ey
 by_cases c5:a1>200
 rotate_left
 ·
  rw[if_neg c5]at H;have gz:decide (200<a1)=false:=decide_eq_false c5;clear c5
  by_cases c10:a1=0
  ·
   rw[if_pos c10]at H;exact absurd H (by simp)
  rw[if_neg c10]at H;have yM:(a1==0)=false:=beq_eq_false_iff_ne.mpr c10;have V7:(a1 !=0)=true:=bne_iff_ne.mpr c10;simp only[fc,oe]at H;obtain⟨rfl,rfl,rfl⟩:=H
  go_enter aas,Try.ntmps16
  go_wp2_with (first|((with_reducible refine ap (f:=43) rfl ?_);refine gL (some 9) rfl rfl abF (by kernel_rfl) rfl #[.pointer (some ⟨g,0,none⟩)] rfl ?_;(with_reducible refine(qj.calls g aV bV cF XG PG PH w0 _ ?aE ?aG A4.out).mono ?_);(case aE=>exact I.df HI0);(case aG=>exact bs HB);rintro e sy ⟨rfl,hi,hb,hk⟩;refine⟨_,rfl, ?_⟩;replace HK:=Ah (aT.trans (e8 HK) hk (.inl rfl));replace HB:=Ah (hb);replace HI0:=Ah (hi);(try clear hb hk hi)))
  go_ret
  exact⟨er,I.df HI0,bs HB,e8 HK⟩
 rw[if_pos c5]at H;have gz:decide (200<a1)=true:=decide_eq_true c5;clear c5;replace H:=He.mp H;obtain⟨⟨t105,a7m,t107⟩,e9,H⟩:=H
 try dsimp only at H
 have A6:=Ah e9;clear e9
 by_cases c7:a1=0
 ·
  rw[if_pos c7]at H;exact absurd H (by simp)
 rw[if_neg c7]at H;have lS:(a1==0)=false:=beq_eq_false_iff_ne.mpr c7;have sn:(a1 !=0)=true:=bne_iff_ne.mpr c7;simp only[fc,oe]at H;obtain⟨rfl,rfl,rfl⟩:=H
 go_enter aas,Try.ntmps16
 go_wp2_with (first|((with_reducible refine ap (f:=43) rfl ?_);refine gL (some 9) rfl rfl abF (by kernel_rfl) rfl #[.pointer (some ⟨g,0,none⟩)] rfl ?_;(with_reducible refine(qj.calls g aV bV cF XG PG PH w0 _ ?aE ?aG A4.out).mono ?_);(case aE=>exact I.df HI0);(case aG=>exact bs HB);rintro e w8 ⟨rfl,hi,hb,hk⟩;refine⟨_,rfl, ?_⟩;replace HK:=Ah (aT.trans (e8 HK) hk (.inl rfl));replace HB:=Ah (hb);replace HI0:=Ah (hi);(try clear hb hk hi))|((with_reducible refine ap (f:=43) rfl ?_);refine gL (some 15) rfl rfl abF (by kernel_rfl) rfl #[.pointer (some ⟨g,0,none⟩)] rfl ?_;(with_reducible refine(qj.calls g aV PG PH t105 a7m t107 w0 _ ?aE ?aG A6.out).mono ?_);(case aE=>exact I.df HI0);(case aG=>exact bs HB);rintro e w9 ⟨rfl,hi,hb,hk⟩;refine⟨_,rfl, ?_⟩;replace HK:=Ah (aT.trans (e8 HK) hk (.inl rfl));replace HB:=Ah (hb);replace HI0:=Ah (hi);(try clear hb hk hi)))
 go_ret
 exact⟨er,I.df HI0,bs HB,e8 HK⟩
def iS.f(aV:List Int)(bV:Int)(cF:Int)(a1:Int):Option (Bool×Int×Int):=(dj.f aV bV cF a1).bind fun yN=>(some ((yN.1==0),yN.2.1,yN.2.2))
set_option maxHeartbeats 8000000 in
set_option maxRecDepth 100000 in
theorem iS.calls(g:Nat)(aV:List Int)(bV:Int)(cF:Int)(a1:Int)(r1:Bool)(r2:Int)(r3:Int)(w0 w:World)(hI:I w0 w g aV bV cF)(hB:Below w0.heap.size w0 w)(h:iS.f aV bV cF a1=some (r1,r2,r3)):
 Calls t5 14 #[.pointer (some ⟨g,0,none⟩),.int .i64 a1] w fun e w'=>e= .returned (.bool r1)∧I w0 w' g aV r2 r3∧Below w0.heap.size w0 w'∧aT w w' g none:=by
 have HI0:=Ah hI;have HK:=Ah (aT.refl w g none);have HL:=Ah hB.size;clear hI;have HW0:=Ah hB.size;have HB:=Ah hB;clear hB;have H:((dj.f aV bV cF a1).bind fun yN=>(some ((yN.1==0),yN.2.1,yN.2.2)))=some (r1,r2,r3):=h;clear h;replace H:=He.mp H;obtain⟨⟨a7n,t109,a7o⟩,de,H⟩:=H
 try dsimp only at H
 have A3:=Ah de;clear de;simp only[fc,oe]at H;obtain⟨rfl,rfl,rfl⟩:=H
 go_enter Try.func14,Try.ntmps14
 go_wp2_with (first|((with_reducible refine ap (f:=16) rfl ?_);refine gL (some 7) rfl rfl aas (by kernel_rfl) rfl #[.pointer (some ⟨g,0,none⟩),.int .i64 a1] rfl ?_;(with_reducible refine(dj.calls g aV bV cF a1 a7n t109 a7o w0 _ ?aE ?aG A3.out).mono ?_);(case aE=>exact I.df HI0);(case aG=>exact bs HB);rintro e w4 ⟨rfl,hi,hb,hk⟩;refine⟨_,rfl, ?_⟩;replace HK:=Ah (aT.trans (e8 HK) hk (.inl rfl));replace HB:=Ah (hb);replace HI0:=Ah (hi);(try clear hb hk hi)))
 go_ret
 exact⟨er,I.df HI0,bs HB,e8 HK⟩
def jI.f(a0:Int)(a1:Int)(a2:Int):Option (Bool):=if a0≥a1 then(some (decide (a0≤a2)))else(some false)
set_option maxHeartbeats 8000000 in
set_option maxRecDepth 100000 in
theorem jI.calls(a0:Int)(a1:Int)(a2:Int)(r:Bool)(w:World)(h:jI.f a0 a1 a2=some r):
 Calls t5 21 #[.int .i64 a0,.int .i64 a1,.int .i64 a2] w fun e w'=>e= .returned (.bool r)∧cx w w':=by
 have H:(if a0≥a1 then(some (decide (a0≤a2)))else(some false))=some r:=h;clear h
 by_cases c4:a0≥a1
 ·
  rw[if_pos c4]at H;have fa:decide (a1≤a0)=true:=decide_eq_true c4;clear c4;obtain rfl:=fl H
  go_enter abq,Try.ntmps21
  go_wp2
  go_ret
  exact⟨by first|rfl|(simp;done)|(simp[*];done),by repeat(first|exact cx.refl _|apply cx.step)⟩
 ·
  rw[if_neg c4]at H;have fa:decide (a1≤a0)=false:=decide_eq_false c4;clear c4;obtain rfl:=fl H
  go_enter abq,Try.ntmps21
  go_wp2
  go_ret
  exact⟨by first|rfl|(simp;done)|(simp[*];done),by repeat(first|exact cx.refl _|apply cx.step)⟩
def n4.f(fk:Int)(iO:ByteArray)(a1:Int):Option (Bool):=(jI.f fk 0 (I0 (a1-1))).bind fun GT=>(if GT=true then(some ((iO.size:Int)==8))else(some false))
set_option maxHeartbeats 8000000 in
set_option maxRecDepth 100000 in
theorem n4.calls(fk:Int)(iO:ByteArray)(a1:Int)(r:Bool)(w:World)(h:n4.f fk iO a1=some r):
 Calls t5 64 #[.agg #[.int .i64 fk,.string iO],.int .i64 a1] w fun e w'=>e= .returned (.bool r)∧Below w.heap.size w w':=by
 have hu64:=aah;have HB:=Ah (pv w.heap.size w);have H:((jI.f fk 0 (I0 (a1-1))).bind fun GT=>(if GT=true then(some ((iO.size:Int)==8))else(some false)))=some r:=h;clear h;replace H:=He.mp H;obtain⟨GT,de,H⟩:=H
 try dsimp only at H
 have A3:=Ah de;clear de
 by_cases c4:GT=true
 ·
  subst c4;rw[if_pos rfl]at H;obtain rfl:=fl H
  go_enter Try.func64,Try.ntmps64
  go_wp2_with (first|((with_reducible refine ao (N:=2) rfl ?_);(try(refine dM (by rfl) ?_;dsimp only));refine az 2 64 #[.int .i64 fk,.string iO] ?_;intro a33 hg w5 EX hb;have a34:=gw hg (bs HB);have Nl:=gw hg (bs HB);replace HB:=Ah (aJ (bs HB) hb);clear hb hg;obtain⟨xx,BT⟩:=bN EX;obtain⟨BV,BU⟩:=bI EX)|((with_reducible refine ap (f:=21) rfl ?_);refine gL (some 9) rfl rfl abq (by kernel_rfl) rfl #[.int .i64 fk,.int .i64 0,.int .i64 (I0 (a1-1))] rfl ?_;(with_reducible refine(jI.calls fk 0 (I0 (a1-1)) true _ A3.out).mono ?_);rintro e w' ⟨rfl,⟨nd,rfl⟩⟩;refine⟨_,rfl, ?_⟩))
  go_ret
  exact⟨er,aM HB Nl⟩
 replace c4:=dW.mpr c4;subst c4;rw[if_neg cg]at H;obtain rfl:=fl H
 go_enter Try.func64,Try.ntmps64
 go_wp2_with (first|((with_reducible refine ao (N:=2) rfl ?_);(try(refine dM (by rfl) ?_;dsimp only));refine az 2 64 #[.int .i64 fk,.string iO] ?_;intro a33 hg w7 EX hb;have a34:=gw hg (bs HB);have Nl:=gw hg (bs HB);replace HB:=Ah (aJ (bs HB) hb);clear hb hg;obtain⟨qN,qO⟩:=bN EX;obtain⟨r8,qP⟩:=bI EX)|((with_reducible refine ap (f:=21) rfl ?_);refine gL (some 9) rfl rfl abq (by kernel_rfl) rfl #[.int .i64 fk,.int .i64 0,.int .i64 (I0 (a1-1))] rfl ?_;(with_reducible refine(jI.calls fk 0 (I0 (a1-1)) false _ A3.out).mono ?_);rintro e w' ⟨rfl,⟨nd,rfl⟩⟩;refine⟨_,rfl, ?_⟩))
 go_ret
 exact⟨er,aM HB Nl⟩
mutual
def dh.l0:Nat→List (S64)→Int→List (S64)→Int→Int→Option (Bool)
 |0,_,_,_,_,_=>none
 |k+1,x0,x1,x9,it,gD=>if gD<it then(if 0≤gD then(if gD<(x9.length:Int)then((n4.f ((aH x9 gD).f0) ((aH x9 gD).f1) x1).bind fun t116=>(if t116=true then(if gD≤(x0.length:Int)then((some (x0.take (gD:Int).toNat:List (S64))).bind fun kn=>(dh.l1 k x0 x1 x9 it gD kn (kn.length:Int) 0 ((aH x9 gD).f0) ((aH x9 gD).f1)))else(none))else(some false)))else(none))else(none))else((jI.f (x0.length:Int) 1 8).bind fun PI=>(some PI))
def dh.l1:Nat→List (S64)→Int→List (S64)→Int→Int→List (S64)→Int→Int→Int→ByteArray→Option (Bool)
 |0,_,_,_,_,_,_,_,_,_,_=>none
 |k+1,x0,x1,x9,it,gD,AV,ua,x24,TO,a1w=>if x24<ua then(if 0≤x24 then(if x24<(AV.length:Int)then(if((aH AV x24).f0)=TO then(some false)else(dh.l1 k x0 x1 x9 it gD AV ua (I0 (x24+1)) TO a1w))else(none))else(none))else(dh.l0 k x0 x1 x9 it (I0 (gD+1)))
end
def dh.f(k:Nat)(l0:List (S64))(a1:Int):Option (Bool):=dh.l0 k l0 a1 l0 (l0.length:Int) 0
theorem dh.bg:∀k,(∀y0 y1 y2 y3 y4,a8 (dh.l0 k y0 y1 y2 y3 y4) (dh.l0 (k+1) y0 y1 y2 y3 y4))∧(∀y0 y1 y2 y3 y4 y5 y6 y7 y8 y9,a8 (dh.l1 k y0 y1 y2 y3 y4 y5 y6 y7 y8 y9) (dh.l1 (k+1) y0 y1 y2 y3 y4 y5 y6 y7 y8 y9))
 |0=>⟨fun _ _ _ _ _ r h=>by simp[dh.l0]at h,fun _ _ _ _ _ _ _ _ _ _ r h=>by simp[dh.l1]at h⟩
 |k+1=>by
  obtain⟨bB,ih1⟩:=dh.bg k
  refine⟨?_, ?_⟩<;>intros<;>first|unfold dh.l0|unfold dh.l1
  all_goals repeat' first
   |(with_reducible exact bB _ _ _ _ _)
   |(with_reducible exact ih1 _ _ _ _ _ _ _ _ _ _)
   |(with_reducible exact a8.refl _)
   |(with_reducible exact a8.none _)
   |(with_reducible refine a8.ite ?_ ?_)
   |(with_reducible refine a8.bind ?_ (fun _=> ?_))
   |exact bB _ _ _ _ _
   |exact ih1 _ _ _ _ _ _ _ _ _ _
   |exact a8.none _
   |refine a8.ite ?_ ?_
   |refine a8.bind ?_ (fun _=> ?_)
theorem dh.mono:∀a0 a1 k,a8 (dh.f k a0 a1) (dh.f (k+1) a0 a1):=by
 intro a0 a1 k;obtain⟨bB,ih1⟩:=dh.bg k;unfold dh.f
 repeat' with_reducible first|exact bB _ _ _ _ _|exact ih1 _ _ _ _ _ _ _ _ _ _|exact a8.refl _|exact a8.none _|refine a8.ite ?_ ?_|refine a8.bind ?_ (fun _=> ?_)
set_option maxHeartbeats 8000000 in
set_option maxRecDepth 100000 in
theorem dh.calls(k:Nat)(A0:Option Addr)(c0:Nat)(l0:List (S64))(a1:Int)(r:Bool)(w:World)(hr0:Kd.C bS w A0 l0.length l0)(hc0:l0.length≤c0)(h:dh.f k l0 a1=some r):
 Calls t5 48 #[.slice A0 l0.length c0,.int .i64 a1] w fun e w'=>e= .returned (.bool r)∧Below w.heap.size w w':=by
 have hu64:=aah;have d8:=Ah hr0;have gV:=Ah hc0;clear hr0 hc0;have HB:=Ah (pv w.heap.size w);have H:(dh.l0 k l0 a1 l0 (l0.length:Int) 0)=some r:=h;clear h;have H':=Ah H;clear H
 go_enter Try.func48,Try.ntmps48
 go_wp2
 go_loopg [11] k (fun kq v11 w'=>∃ (cA:Int),v11= .int .i64 cA∧aC (dh.l0 kq l0 a1 l0 (l0.length:Int) cA=some r)∧aC (kq≤k)∧aC (Below w.heap.size w w'))
 case atStart=>exact⟨(0),e3,H',⟨mz _⟩,⟨bs HB⟩⟩
 case round=>
  clear H'
  try clear p2
  obtain⟨cA,rfl,HA,bY,HB⟩:=hrel
  cases gk with
  |zero=>exact absurd HA.out (by simp[dh.l0])
  |succ k1=>
   have H:=HA.out;clear HA;simp only[dh.l0]at H
   by_cases c3:cA<(l0.length:Int)
   rotate_left
   ·
    rw[if_neg c3]at H;have eb:decide (cA<(l0.length:Int))=false:=decide_eq_false c3;clear c3;replace H:=He.mp H;obtain⟨PI,vt,H⟩:=H
    try dsimp only at H
    have Hn:=Ah vt;clear vt;obtain rfl:=fl H
    go_wp2_with (first|((with_reducible refine ap (f:=21) rfl ?_);refine gL (some 37) rfl rfl abq (by kernel_rfl) rfl #[.int .i64 (l0.length:Int),.int .i64 1,.int .i64 8] rfl ?_;(with_reducible refine(jI.calls (l0.length:Int) 1 8 PI _ Hn.out).mono ?_);rintro e w' ⟨rfl,⟨nd,rfl⟩⟩;refine⟨_,rfl, ?_⟩))
    go_ret
    exact⟨er,bs HB⟩
   rw[if_pos c3]at H;have eb:decide (cA<(l0.length:Int))=true:=decide_eq_true c3;clear c3
   by_cases c4:0≤cA
   rotate_left
   ·
    rw[if_neg c4]at H;exact absurd H (by simp)
   rw[if_pos c4]at H;have fa:decide (0≤cA)=true:=decide_eq_true c4;clear c4
   by_cases c5:cA<(l0.length:Int)
   rotate_left
   ·
    rw[if_neg c5]at H;exact absurd H (by simp)
   rw[if_pos c5]at H;have gz:decide (cA<(l0.length:Int))=true:=decide_eq_true c5;clear c5;replace H:=He.mp H;obtain⟨t116,e9,H⟩:=H
   try dsimp only at H
   have A6:=Ah e9;clear e9
   by_cases c7:t116=true
   rotate_left
   ·
    replace c7:=dW.mpr c7;subst c7;rw[if_neg cg]at H;obtain rfl:=fl H;have vu:0≤(cA:Int):=od;have vv:cA<(l0.length:Int):=od;obtain⟨EY,PJ,uv,uw⟩:=g8 d8.out cA vu vv
    cases PJ
    replace uv:=(HB.out.cell (I1 w _ uv)).trans uv;replace uw:=(HB.out.cell (I1 w _ uw)).trans uw;replace vu:=eq_true vu;replace vv:=eq_true vv
    go_wp2_with (first|((with_reducible refine ao (N:=6) rfl ?_);refine az 6 64 #[.int .i64 0,.string (⟨#[]⟩:ByteArray)] ?_;intro Ju hg R2 jY hb;have a35:=gw hg (bs HB);have oD:=gw hg (bs HB);replace HB:=Ah (aJ (bs HB) hb);clear hb hg;obtain⟨Dg,Dh⟩:=bN jY;obtain⟨Di,Dj⟩:=bI jY)|((with_reducible refine ap (f:=64) rfl ?_);refine gL (some 18) rfl rfl Try.func64 (by kernel_rfl) rfl #[.agg #[.int .i64 ((aH l0 cA).f0),.string ((aH l0 cA).f1)],.int .i64 a1] rfl ?_;(with_reducible refine(n4.calls ((aH l0 cA).f0) ((aH l0 cA).f1) a1 false _ A6.out).mono ?_);rintro e lD ⟨rfl,hb⟩;refine⟨_,rfl, ?_⟩;replace jY:=Ah (dF (g:=Ju) (o:= .cells #[.int .i64 ((aH l0 cA).f0),.string ((aH l0 cA).f1)] 64 (0,0)) (by(with_reducible repeat(first|refine a9 ?_ _|refine U ?_|refine Z ?_ _));refine aN (cs:= #[.int .i64 ((aH l0 cA).f0),.string (⟨#[]⟩:ByteArray)]) ?_ 1 _ rfl;(with_reducible repeat(first|refine a9 ?_ _|refine U ?_|refine Z ?_ _));refine aN (cs:= #[.int .i64 0,.string (⟨#[]⟩:ByteArray)]) ?_ 0 _ rfl;(with_reducible repeat(first|refine a9 ?_ _|refine U ?_|refine Z ?_ _));exact jY.out) hb);replace HB:=Ah (aJ (aM HB oD) hb);(try clear hb)))
    go_ret
    exact⟨er,aM HB oD⟩
   subst c7;rw[if_pos rfl]at H;have ls:=eq_true (od:0≤cA)
   by_cases c9:cA≤(l0.length:Int)
   rotate_left
   ·
    rw[if_neg c9]at H;exact absurd H (by simp)
   rw[if_pos c9]at H;have qU:=eq_true c9;have PK:decide (cA≤(l0.length:Int))=true:=decide_eq_true c9;clear c9;obtain⟨kn,EZ⟩:∃y_:List (S64),y_=(l0.take (cA:Int).toNat):=⟨_,rfl⟩
   replace H:(dh.l1 k1 l0 a1 l0 (l0.length:Int) cA kn (kn.length:Int) 0 ((aH l0 cA).f0) ((aH l0 cA).f1))=some r:=by first|(rw[EZ];with_reducible exact H)|(have ak:=(Ok _ _).symm.trans H;rw[EZ];with_reducible exact ak)|(have ak:=(Ok _ _).symm.trans H;with_reducible exact ak)|with_reducible exact H|(rw[EZ];exact H)|exact H
   have V8:=Ah EZ;clear EZ;have H':=Ah H;clear H;have vu:0≤(cA:Int):=od;have vv:cA<(l0.length:Int):=od;obtain⟨EY,PJ,uv,uw⟩:=g8 d8.out cA vu vv
   cases PJ
   replace uv:=(HB.out.cell (I1 w _ uv)).trans uv;replace uw:=(HB.out.cell (I1 w _ uw)).trans uw;replace vu:=eq_true vu;replace vv:=eq_true vv
   go_wp2_with (first|((with_reducible refine ao (N:=6) rfl ?_);refine az 6 64 #[.int .i64 0,.string (⟨#[]⟩:ByteArray)] ?_;intro Ju hg pq jY hb;have a35:=gw hg (bs HB);have oD:=gw hg (bs HB);replace HB:=Ah (aJ (bs HB) hb);clear hb hg;obtain⟨jj,jk⟩:=bN jY;obtain⟨jl,jm⟩:=bI jY)|((with_reducible refine ap (f:=64) rfl ?_);refine gL (some 18) rfl rfl Try.func64 (by kernel_rfl) rfl #[.agg #[.int .i64 ((aH l0 cA).f0),.string ((aH l0 cA).f1)],.int .i64 a1] rfl ?_;(with_reducible refine(n4.calls ((aH l0 cA).f0) ((aH l0 cA).f1) a1 true _ A6.out).mono ?_);rintro e mu ⟨rfl,hb⟩;refine⟨_,rfl, ?_⟩;replace jY:=Ah (dF (g:=Ju) (o:= .cells #[.int .i64 ((aH l0 cA).f0),.string ((aH l0 cA).f1)] 64 (0,0)) (by(with_reducible repeat(first|refine a9 ?_ _|refine U ?_|refine Z ?_ _));refine aN (cs:= #[.int .i64 ((aH l0 cA).f0),.string (⟨#[]⟩:ByteArray)]) ?_ 1 _ rfl;(with_reducible repeat(first|refine a9 ?_ _|refine U ?_|refine Z ?_ _));refine aN (cs:= #[.int .i64 0,.string (⟨#[]⟩:ByteArray)]) ?_ 0 _ rfl;(with_reducible repeat(first|refine a9 ?_ _|refine U ?_|refine Z ?_ _));exact jY.out) hb);replace HB:=Ah (aJ (aM HB oD) hb);(try clear hb);have wX:(cA:Int)≤((l0.length:Int):Int):=od;obtain⟨i013,V9,_,a36,_⟩:=info_parts pF;have TP:l0.length≤c0:=gV.out;have XH:Kd.C bS _ (some EY) l0.length l0:=d8.out;have a2T:=EF (P:=t5) 24 64 .i64 aaE V9 (some EY) l0.length c0 cA (od) wX TP;have PL:=Kd.BO (m:=(cA:Int).toNat) XH (by omega);have PM:kn.length=(cA:Int).toNat:=(by rw[V8.out,bx];omega);rw[←V8.out]at PL;rw[←PM]at a2T;have VA:=Ah PL;have HC120:=Ah (show kn.length≤c0 from by omega);clear PL XH TP V9 a36;have KY13:=Ah PM;clear PM;replace wX:=eq_true wX))
   go_loopg [24] k1 (fun kq v24 w'=>∃ (kB:Int),v24= .int .i64 kB∧aC (dh.l1 kq l0 a1 l0 (l0.length:Int) cA kn (kn.length:Int) kB ((aH l0 cA).f0) ((aH l0 cA).f1)=some r)∧aC (kq≤k1)∧aC (w'.heap[Ju]?=some (.cells #[.int .i64 ((aH l0 cA).f0),.string ((aH l0 cA).f1)] 64 (0,0)))∧aC (Below w.heap.size w w'))
   case atStart=>exact⟨(0),e3,H',⟨mz _⟩,⟨bk jY⟩,⟨aM HB oD⟩⟩
   case round=>
    clear H'
    try clear p1
    try clear q1
    try clear hx1
    try clear p2
    try clear c3
    try clear eb
    try clear c4
    try clear fa
    try clear c5
    try clear gz
    try clear c6
    try clear c7
    try clear c8
    try clear ls
    try clear c9
    try clear qU
    try clear PK
    try clear p11
    try clear Co
    try clear hx11
    try clear wX
    try clear jj jk
    try clear jl jm
    try clear uv
    try clear uw
    try clear vu
    try clear p2
    try clear vv
    try clear wX
    obtain⟨kB,rfl,HA,jE,jY,HB⟩:=hrel
    cases gk with
    |zero=>exact absurd HA.out (by simp[dh.l1])
    |succ k2=>
     have H:=HA.out;clear HA;simp only[dh.l1]at H
     by_cases c14:kB<(kn.length:Int)
     rotate_left
     ·
      rw[if_neg c14]at H;have Ea:decide (kB<(kn.length:Int))=false:=decide_eq_false c14;clear c14;have H':=Ah H;clear H
      go_wp2
      go_roundg k2
      case measure=>have:=bY.out;have:=jE.out;omega
      case rel=>exact⟨(I0 (cA+1)),e3,H',⟨by have:=bY.out;have:=jE.out;omega⟩,⟨aM HB oD⟩⟩
     rw[if_pos c14]at H;have Ea:decide (kB<(kn.length:Int))=true:=decide_eq_true c14;clear c14
     by_cases c15:0≤kB
     rotate_left
     ·
      rw[if_neg c15]at H;exact absurd H (by simp)
     rw[if_pos c15]at H;have Nm:decide (0≤kB)=true:=decide_eq_true c15;clear c15
     by_cases c16:kB<(kn.length:Int)
     rotate_left
     ·
      rw[if_neg c16]at H;exact absurd H (by simp)
     rw[if_pos c16]at H;have vH:decide (kB<(kn.length:Int))=true:=decide_eq_true c16;clear c16
     by_cases c17:((aH kn kB).f0)=((aH l0 cA).f0)
     ·
      rw[if_pos c17]at H;have Jv:(((aH kn kB).f0)==((aH l0 cA).f0))=true:=beq_iff_eq.mpr c17;have VB:(((aH kn kB).f0) !=((aH l0 cA).f0))=false:=bne_eq_false_iff_eq.mpr c17;clear c17;obtain rfl:=fl H;have zK:0≤(kB:Int):=od;have zL:kB<(kn.length:Int):=od;obtain⟨Nn,PN,xR,xS⟩:=g8 VA.out kB zK zL;obtain rfl:EY=Nn:=(by injection PN);replace xR:=(HB.out.cell (I1 w _ xR)).trans xR;replace xS:=(HB.out.cell (I1 w _ xS)).trans xS;replace zK:=eq_true zK;replace zL:=eq_true zL
      go_wp2_with (first|((with_reducible refine ao (N:=8) rfl ?_);refine az 8 64 #[.int .i64 0,.string (⟨#[]⟩:ByteArray)] ?_;intro a37 hg lz Eb hb;have a38:=gw hg (aM HB oD);have No:=gw hg (aM HB oD);replace HB:=Ah (aJ (aM HB oD) hb);have IK:=nn jY hg;have LW:=nm jY hg;replace jY:=nb jY hb;clear hb hg;have Nc:=LW.out;have Nd:=IK.out;obtain⟨xP,xQ⟩:=bN Eb;obtain⟨ut,uu⟩:=bI Eb;obtain⟨Mq,Mr⟩:=bN jY;obtain⟨Ms,Mt⟩:=bI jY))
      go_ret
      exact⟨er,aW HB oD No⟩
     rw[if_neg c17]at H;have Jv:(((aH kn kB).f0)==((aH l0 cA).f0))=false:=beq_eq_false_iff_ne.mpr c17;have VB:(((aH kn kB).f0) !=((aH l0 cA).f0))=true:=bne_iff_ne.mpr c17;have H':=Ah H;clear H;have zK:0≤(kB:Int):=od;have zL:kB<(kn.length:Int):=od;obtain⟨Nn,PN,xR,xS⟩:=g8 VA.out kB zK zL;obtain rfl:EY=Nn:=(by injection PN);replace xR:=(HB.out.cell (I1 w _ xR)).trans xR;replace xS:=(HB.out.cell (I1 w _ xS)).trans xS;replace zK:=eq_true zK;replace zL:=eq_true zL
     go_wp2_with (first|((with_reducible refine ao (N:=8) rfl ?_);refine az 8 64 #[.int .i64 0,.string (⟨#[]⟩:ByteArray)] ?_;intro a37 hg pr Eb hb;have a38:=gw hg (aM HB oD);have No:=gw hg (aM HB oD);replace HB:=Ah (aJ (aM HB oD) hb);have IK:=nn jY hg;have LW:=nm jY hg;replace jY:=nb jY hb;clear hb hg;have Np:=LW.out;have Nq:=IK.out;obtain⟨Mu,Mv⟩:=bN Eb;obtain⟨Mw,Mx⟩:=bI Eb;obtain⟨ML,MM⟩:=bN jY;obtain⟨MN,MO⟩:=bI jY))
     go_roundg k2
     case measure=>have:=bY.out;have:=jE.out;omega
     case rel=>exact⟨(I0 (kB+1)),e3,H',⟨by have:=bY.out;have:=jE.out;omega⟩,⟨bf jY IK⟩,⟨aW HB oD No⟩⟩
mutual
def eI.l0:Nat→ByteArray→List (S64)→Int→Int→Option (ByteArray)
 |0,_,_,_,_=>none
 |k+1,x3,dq,iu,mv=>if mv<iu then(if 0≤mv then(if mv<(dq.length:Int)then((some (([((aH dq mv).f0) %256]:List Int):List Int)).bind fun oO=>(if(strOfNums oO).size+((aH dq mv).f1).size≤9223372036854775807 then(if x3.size+((strOfNums oO)++((aH dq mv).f1)).size≤9223372036854775807 then(eI.l0 k (x3++((strOfNums oO)++((aH dq mv).f1))) dq iu (I0 (mv+1)))else(none))else(none)))else(none))else(none))else(eI.l1 k x3 0 0)
def eI.l1:Nat→ByteArray→Int→Int→Option (ByteArray)
 |0,_,_,_=>none
 |k+1,x3,x6,x7=>if x7<(x3.size:Int)then(if 0≤x7 then(eI.l1 k x3 (Go.bits .xor .u8 x6 (bt x3 x7)) (I0 (x7+1)))else(none))else((some (([x6]:List Int):List Int)).bind fun vw=>(if x3.size+(strOfNums vw).size≤9223372036854775807 then(some (x3++(strOfNums vw)))else(none)))
end
def eI.f(k:Nat)(l0:List (S64)):Option (ByteArray):=eI.l0 k (strOfNums (([((l0.length:Int)) %256]:List Int))) l0 (l0.length:Int) 0
theorem eI.bg:∀k,(∀y0 y1 y2 y3,a8 (eI.l0 k y0 y1 y2 y3) (eI.l0 (k+1) y0 y1 y2 y3))∧(∀y0 y1 y2,a8 (eI.l1 k y0 y1 y2) (eI.l1 (k+1) y0 y1 y2))
 |0=>⟨fun _ _ _ _ r h=>by simp[eI.l0]at h,fun _ _ _ r h=>by simp[eI.l1]at h⟩
 |k+1=>by
  obtain⟨bB,ih1⟩:=eI.bg k
  refine⟨?_, ?_⟩<;>intros<;>first|unfold eI.l0|unfold eI.l1
  all_goals repeat' first
   |(with_reducible exact bB _ _ _ _)
   |(with_reducible exact ih1 _ _ _)
   |(with_reducible exact a8.refl _)
   |(with_reducible exact a8.none _)
   |(with_reducible refine a8.ite ?_ ?_)
   |(with_reducible refine a8.bind ?_ (fun _=> ?_))
   |exact bB _ _ _ _
   |exact ih1 _ _ _
   |exact a8.none _
   |refine a8.ite ?_ ?_
   |refine a8.bind ?_ (fun _=> ?_)
theorem eI.mono:∀a0 k,a8 (eI.f k a0) (eI.f (k+1) a0):=by
 intro a0 k;obtain⟨bB,ih1⟩:=eI.bg k;unfold eI.f
 repeat' with_reducible first|exact bB _ _ _ _|exact ih1 _ _ _|exact a8.refl _|exact a8.none _|refine a8.ite ?_ ?_|refine a8.bind ?_ (fun _=> ?_)
set_option maxHeartbeats 8000000 in
set_option maxRecDepth 100000 in
theorem eI.calls(k:Nat)(A0:Option Addr)(c0:Nat)(l0:List (S64))(r:ByteArray)(w:World)(hr0:Kd.C bS w A0 l0.length l0)(hc0:l0.length≤c0)(h:eI.f k l0=some r):
 Calls t5 61 #[.slice A0 l0.length c0] w fun e w'=>e= .returned (.string r)∧Below w.heap.size w w':=by
 have hu64:=aah;have d8:=Ah hr0;have gV:=Ah hc0;clear hr0 hc0;have HB:=Ah (pv w.heap.size w);have H:(eI.l0 k (strOfNums (([((l0.length:Int)) %256]:List Int))) l0 (l0.length:Int) 0)=some r:=h;clear h;obtain⟨XI,Ec⟩:∃y_:List Int,y_=(([((l0.length:Int)) %256]:List Int)):=⟨_,rfl⟩
 replace H:(eI.l0 k (strOfNums XI) l0 (l0.length:Int) 0)=some r:=by first|(rw[Ec];with_reducible exact H)|(have ak:=(Ok _ _).symm.trans H;rw[Ec];with_reducible exact ak)|(have ak:=(Ok _ _).symm.trans H;with_reducible exact ak)|with_reducible exact H|(rw[Ec];exact H)|exact H
 have VC:=Ah Ec;clear Ec;have H':=Ah H;clear H
 go_enter Try.func61,Try.ntmps61
 go_wp2_with (first|((with_reducible refine ao (N:=11) rfl ?_);refine Kd.oC (Kd.int .u8) _ 5 ?hg (N:=11) ?hd (xs:=([((l0.length:Int)) %256]:List Int)) (inner:=[.int .u8 (((l0.length:Int)) %256)]) (ok:=fun _=>True) (okp:=fun _=>True) ?hr ?hp (fun _ hk=>hk) trivial (pv _ _) (mz _) (by simp) ?_;(case hd=>rfl);(case hg=>rfl);(case hr=>first|(go_simp;done)|(go_simp;rfl));(case hp=>exact(bv.one (show Kd.M (Kd.int .u8) _ _ _ (((l0.length:Int)) %256) [.int .u8 (((l0.length:Int)) %256)]from rfl) (bv.none _ _)));intro v124 w2 ho3 hb gf gX;clear gf gX;(first|rw[←VC.out]at ho3|(simp only[aaA]at ho3;rw[←VC.out]at ho3));have a39:=Ah (Kd.bD ho3 (bJ (bs HB)));replace HB:=Ah (aJ (bs HB) hb);clear hb ho3;have XJ:=Aj (P:=t5) aaD abd abe (Kd.tL a39.out)))
 go_loopg [3,15] k (fun kq v3 v15 w'=>∃ (dy:ByteArray) (cv:Int),v3= .string dy∧v15= .int .i64 cv∧aC (eI.l0 kq dy l0 (l0.length:Int) cv=some r)∧aC (kq≤k)∧aC (Below w.heap.size w w'))
 case atStart=>exact⟨(strOfNums XI),(0),e3,e3,H',⟨mz _⟩,⟨bs HB⟩⟩
 case round=>
  clear H'
  try clear p2
  try clear XJ
  obtain⟨dy,cv,rfl,rfl,HA,bY,HB⟩:=hrel
  cases gk with
  |zero=>exact absurd HA.out (by simp[eI.l0])
  |succ k1=>
   have H:=HA.out;clear HA;simp only[eI.l0]at H
   by_cases c5:cv<(l0.length:Int)
   rotate_left
   ·
    rw[if_neg c5]at H;have gz:decide (cv<(l0.length:Int))=false:=decide_eq_false c5;clear c5;have H':=Ah H;clear H
    go_wp2
    go_loopg [6,7] k1 (fun kq v6 v7 w'=>∃ (mH:Int) (pi:Int),v6= .int .u8 mH∧v7= .int .i64 pi∧aC (eI.l1 kq dy mH pi=some r)∧aC (kq≤k1)∧aC (Below w.heap.size w w'))
    case atStart=>exact⟨(0),(0),e3,e3,H',⟨mz _⟩,⟨bs HB⟩⟩
    case round=>
     clear H'
     try clear p1
     try clear q1
     try clear hx1
     try clear hcv1
     try clear p2
     try clear XJ
     try clear c5
     try clear gz
     try clear c6
     try clear hF
     try clear p6
     try clear c7
     try clear lS
     try clear c8
     try clear ls
     try clear G8
     try clear a7p
     try clear c9
     try clear qU
     try clear PK
     try clear XK
     try clear wY
     try clear wZ
     try clear hx12
     try clear a4a
     try clear jj jk
     try clear sT tY
     try clear jl jm
     try clear sU tZ
     try clear J0
     try clear J1
     try clear Ke
     try clear p2
     try clear Kf
     obtain⟨mH,pi,rfl,rfl,HA,jE,HB⟩:=hrel
     cases gk with
     |zero=>exact absurd HA.out (by simp[eI.l1])
     |succ k2=>
      have H:=HA.out;clear HA;simp only[eI.l1]at H
      by_cases c16:pi<(dy.size:Int)
      ·
       rw[if_pos c16]at H;have vH:decide (pi<(dy.size:Int))=true:=decide_eq_true c16;clear c16
       by_cases c17:0≤pi
       rotate_left
       ·
        rw[if_neg c17]at H;exact absurd H (by simp)
       rw[if_pos c17]at H;have Jv:decide (0≤pi)=true:=decide_eq_true c17;clear c17;have H':=Ah H;clear H;have YS:0≤(pi:Int):=od;have YT:pi<(dy.size:Int):=od;have hx18:=vF dy pi;replace YS:=eq_true YS;replace YT:=eq_true YT
       go_wp2
       go_roundg k2
       case measure=>have:=bY.out;have:=jE.out;omega
       case rel=>exact⟨(Go.bits .xor .u8 mH (bt dy pi)),(I0 (pi+1)),e3,e3,H',⟨by have:=bY.out;have:=jE.out;omega⟩,⟨bs HB⟩⟩
      rw[if_neg c16]at H;have vH:decide (pi<(dy.size:Int))=false:=decide_eq_false c16;clear c16;obtain⟨vw,Ed⟩:∃y_:List Int,y_=(([mH]:List Int)):=⟨_,rfl⟩
      replace H:(if dy.size+(strOfNums vw).size≤9223372036854775807 then(some (dy++(strOfNums vw)))else(none))=some r:=by first|(rw[Ed];with_reducible exact H)|(have ak:=(Ok _ _).symm.trans H;rw[Ed];with_reducible exact ak)|(have ak:=(Ok _ _).symm.trans H;with_reducible exact ak)|with_reducible exact H|(rw[Ed];exact H)|exact H
      have VD:=Ah Ed;clear Ed
      by_cases c19:dy.size+(strOfNums vw).size≤9223372036854775807
      rotate_left
      ·
       rw[if_neg c19]at H;exact absurd H (by simp)
      rw[if_pos c19]at H;have Bb:=eq_true c19;have Ee:decide (dy.size+(strOfNums vw).size≤9223372036854775807)=true:=decide_eq_true c19
      try have c19b2:(9223372036854775807<dy.size+(strOfNums vw).size)=False:=eq_false (Nat.not_lt.2 c19)
      obtain rfl:=fl H
      go_wp2_with (first|((with_reducible refine ao (N:=43) rfl ?_);refine Kd.oC (Kd.int .u8) _ 5 ?hg (N:=43) ?hd (xs:=([mH]:List Int)) (inner:=[.int .u8 mH]) (ok:=fun _=>True) (okp:=fun _=>True) ?hr ?hp (fun _ hk=>hk) trivial (pv _ _) (mz _) (by simp) ?_;(case hd=>rfl);(case hg=>rfl);(case hr=>first|(go_simp;done)|(go_simp;rfl));(case hp=>exact(bv.one (show Kd.M (Kd.int .u8) _ _ _ mH [.int .u8 mH]from rfl) (bv.none _ _)));intro v132 np GU hb gf gX;clear gf gX;(first|rw[←VD.out]at GU|(simp only[aaA]at GU;rw[←VD.out]at GU));have a4b:=Ah (Kd.bD GU (bJ (bs HB)));replace HB:=Ah (aJ (bs HB) hb);clear hb GU;have hcv22:=Aj (P:=t5) aaD abd abe (Kd.tL a4b.out)))
      go_ret
      exact⟨er,bs HB⟩
   rw[if_pos c5]at H;have gz:decide (cv<(l0.length:Int))=true:=decide_eq_true c5;clear c5
   by_cases c6:0≤cv
   rotate_left
   ·
    rw[if_neg c6]at H;exact absurd H (by simp)
   rw[if_pos c6]at H;have hF:decide (0≤cv)=true:=decide_eq_true c6;clear c6
   by_cases c7:cv<(l0.length:Int)
   rotate_left
   ·
    rw[if_neg c7]at H;exact absurd H (by simp)
   rw[if_pos c7]at H;have lS:decide (cv<(l0.length:Int))=true:=decide_eq_true c7;clear c7;obtain⟨oO,hy128⟩:∃y_:List Int,y_=(([((aH l0 cv).f0) %256]:List Int)):=⟨_,rfl⟩
   replace H:(if(strOfNums oO).size+((aH l0 cv).f1).size≤9223372036854775807 then(if dy.size+((strOfNums oO)++((aH l0 cv).f1)).size≤9223372036854775807 then(eI.l0 k1 (dy++((strOfNums oO)++((aH l0 cv).f1))) l0 (l0.length:Int) (I0 (cv+1)))else(none))else(none))=some r:=by first|(rw[hy128];with_reducible exact H)|(have ak:=(Ok _ _).symm.trans H;rw[hy128];with_reducible exact ak)|(have ak:=(Ok _ _).symm.trans H;with_reducible exact ak)|with_reducible exact H|(rw[hy128];exact H)|exact H
   have VE:=Ah hy128;clear hy128
   by_cases c8:(strOfNums oO).size+((aH l0 cv).f1).size≤9223372036854775807
   rotate_left
   ·
    rw[if_neg c8]at H;exact absurd H (by simp)
   rw[if_pos c8]at H;have ls:=eq_true c8;have G8:decide ((strOfNums oO).size+((aH l0 cv).f1).size≤9223372036854775807)=true:=decide_eq_true c8
   try have a7p:(9223372036854775807<(strOfNums oO).size+((aH l0 cv).f1).size)=False:=eq_false (Nat.not_lt.2 c8)
   by_cases c9:dy.size+((strOfNums oO)++((aH l0 cv).f1)).size≤9223372036854775807
   rotate_left
   ·
    rw[if_neg c9]at H;exact absurd H (by simp)
   rw[if_pos c9]at H;have qU:=eq_true c9;have PK:decide (dy.size+((strOfNums oO)++((aH l0 cv).f1)).size≤9223372036854775807)=true:=decide_eq_true c9
   try have XK:(9223372036854775807<dy.size+((strOfNums oO)++((aH l0 cv).f1)).size)=False:=eq_false (Nat.not_lt.2 c9)
   (try(have a4c:=XK;simp only[ByteArray.size_append]at a4c));have H':=Ah H;clear H;have Ke:0≤(cv:Int):=od;have Kf:cv<(l0.length:Int):=od;obtain⟨ad126,e126,J0,J1⟩:=g8 d8.out cv Ke Kf
   cases e126
   replace J0:=(HB.out.cell (I1 w _ J0)).trans J0;replace J1:=(HB.out.cell (I1 w _ J1)).trans J1;replace Ke:=eq_true Ke;replace Kf:=eq_true Kf
   go_wp2_with (first|((with_reducible refine ao (N:=5) rfl ?_);refine az 5 64 #[.int .i64 0,.string (⟨#[]⟩:ByteArray)] ?_;intro a4d hg pq Bc hb;have GW127:=gw hg (bs HB);have Nr:=gw hg (bs HB);replace HB:=Ah (aJ (bs HB) hb);clear hb hg;obtain⟨jj,jk⟩:=bN Bc;obtain⟨jl,jm⟩:=bI Bc)|((with_reducible refine ao (N:=23) rfl ?_);refine Kd.oC (Kd.int .u8) _ 5 ?hg (N:=23) ?hd (xs:=([((aH l0 cv).f0) %256]:List Int)) (inner:=[.int .u8 (((aH l0 cv).f0) %256)]) (ok:=fun _=>True) (okp:=fun _=>True) ?hr ?hp (fun _ hk=>hk) trivial (pv _ _) (mz _) (by simp) ?_;(case hd=>rfl);(case hg=>rfl);(case hr=>first|(go_simp;done)|(go_simp;rfl));(case hp=>exact(bv.one (show Kd.M (Kd.int .u8) _ _ _ (((aH l0 cv).f0) %256) [.int .u8 (((aH l0 cv).f0) %256)]from rfl) (bv.none _ _)));intro v129 mu qV hb gf gX;clear gf gX;(first|rw[←VE.out]at qV|(simp only[aaA]at qV;rw[←VE.out]at qV));have a4e:=Ah (Kd.bD qV (bJ (aM HB Nr)));replace Bc:=Ah (dF (g:=a4d) (o:= .cells #[.int .i64 ((aH l0 cv).f0),.string ((aH l0 cv).f1)] 64 (0,0)) (by(with_reducible repeat(first|refine a9 ?_ _|refine U ?_|refine Z ?_ _));refine aN (cs:= #[.int .i64 ((aH l0 cv).f0),.string (⟨#[]⟩:ByteArray)]) ?_ 1 _ rfl;(with_reducible repeat(first|refine a9 ?_ _|refine U ?_|refine Z ?_ _));refine aN (cs:= #[.int .i64 0,.string (⟨#[]⟩:ByteArray)]) ?_ 0 _ rfl;(with_reducible repeat(first|refine a9 ?_ _|refine U ?_|refine Z ?_ _));exact Bc.out) hb);replace HB:=Ah (aJ (aM HB Nr) hb);clear hb qV;have a4a:=Aj (P:=t5) aaD abd abe (Kd.tL a4e.out);obtain⟨sT,tY⟩:=bN Bc;obtain⟨sU,tZ⟩:=bI Bc))
   go_roundg k1
   case measure=>have:=bY.out;omega
   case rel=>exact⟨(dy++((strOfNums oO)++((aH l0 cv).f1))),(I0 (cv+1)),e3,e3,H',⟨by have:=bY.out;omega⟩,⟨aM HB Nr⟩⟩
mutual
def dg.j0:Nat→ByteArray→Bool→Option ((List (S64))×Bool)
 |0,_,_=>none
 |k+1,x0,Cp=>if Cp=true then(some (([]:List (S64)),false))else(dg.l0 k x0 ([]:List (S64)) 0)
def dg.l0:Nat→ByteArray→List (S64)→Int→Option ((List (S64))×Bool)
 |0,_,_,_=>none
 |k+1,x0,x4,x5=>if 0<(x0.size:Int)then(if x5<(I0 (bt x0 0))then(if 0≤(I0 (1+(I0 (x5*9))))then(if(I0 (1+(I0 (x5*9))))<(x0.size:Int)then(if 0≤(I0 ((I0 (1+(I0 (x5*9))))+1))then(if(I0 ((I0 (1+(I0 (x5*9))))+1))≤(I0 ((I0 ((I0 (1+(I0 (x5*9))))+1))+8))then(if(I0 ((I0 ((I0 (1+(I0 (x5*9))))+1))+8))≤(x0.size:Int)then(if x4.length<5864062014805 then(dg.l0 k x0 (x4++[(⟨I0 (bt x0 (I0 (1+(I0 (x5*9))))),x0.extract ((I0 ((I0 (1+(I0 (x5*9))))+1)):Int).toNat ((I0 ((I0 ((I0 (1+(I0 (x5*9))))+1))+8)):Int).toNat⟩:S64)]) (I0 (x5+1)))else(none))else(none))else(none))else(none))else(none))else(none))else((dh.f k x4 32).bind fun PO=>(if PO=true then((eI.f k x4).bind fun t138=>(if t138.toList=x0.toList then(some (x4,true))else(some (([]:List (S64)),false))))else(some (([]:List (S64)),false)))))else(none)
end
def dg.f(k:Nat)(a0:ByteArray):Option ((List (S64))×Bool):=if(a0.size:Int)=0 then(dg.j0 k a0 true)else(if 0<(a0.size:Int)then(dg.j0 k a0 ((a0.size:Int) !=(I0 (2+(I0 ((I0 (bt a0 0))*9))))))else(none))
theorem dg.bg:∀k,(∀y0 y1,a8 (dg.j0 k y0 y1) (dg.j0 (k+1) y0 y1))∧(∀y0 y1 y2,a8 (dg.l0 k y0 y1 y2) (dg.l0 (k+1) y0 y1 y2))
 |0=>⟨fun _ _ r h=>by simp[dg.j0]at h,fun _ _ _ r h=>by simp[dg.l0]at h⟩
 |k+1=>by
  obtain⟨bB,ih1⟩:=dg.bg k
  refine⟨?_, ?_⟩<;>intros<;>first|unfold dg.j0|unfold dg.l0
  all_goals repeat' first
   |(with_reducible exact bB _ _)
   |(with_reducible exact ih1 _ _ _)
   |(with_reducible exact eI.mono _ _)
   |(with_reducible exact dh.mono _ _ _)
   |(with_reducible exact a8.refl _)
   |(with_reducible exact a8.none _)
   |(with_reducible refine a8.ite ?_ ?_)
   |(with_reducible refine a8.bind ?_ (fun _=> ?_))
   |exact bB _ _
   |exact ih1 _ _ _
   |exact eI.mono _ _
   |exact dh.mono _ _ _
   |exact a8.none _
   |refine a8.ite ?_ ?_
   |refine a8.bind ?_ (fun _=> ?_)
theorem dg.mono:∀a0 k,a8 (dg.f k a0) (dg.f (k+1) a0):=by
 intro a0 k;obtain⟨bB,ih1⟩:=dg.bg k;unfold dg.f
 repeat' with_reducible first|exact bB _ _|exact ih1 _ _ _|exact eI.mono _ _|exact dh.mono _ _ _|exact a8.refl _|exact a8.none _|refine a8.ite ?_ ?_|refine a8.bind ?_ (fun _=> ?_)
def dg.T8:Bool×List (List Nat×List Nat):=(true,[([],[]),([],[]),([],[]),([1,2],[1,2]),([3],[3]),([],[]),([],[]),([6],[6]),([],[]),([8],[8]),([9],[9]),([5,7,10],[5,7,10]),([4,11],[4,11]),([12],[12]),([0,13],[0,13]),([14,14,0,1,2,3,4,5,6,7,8,9,10,11,12,13,14],[0,14])])
def dg.B8:List Nat:=[0,0,0,6,14,0,0,64,0,256,768,2016,4094,8190,16383,32767]
theorem dg.PP:fN .any (lh Try.f47 8)=dg.T8:=by kernel_rfl
theorem dg.Ns:ji dg.T8.2 dg.B8=true:=by kernel_rfl
set_option maxHeartbeats 8000000 in
set_option maxRecDepth 100000 in
theorem dg.calls(k:Nat)(a0:ByteArray)(r1:List (S64))(r2:Bool)(w:World)(h:dg.f k a0=some (r1,r2)):
 Calls t5 47 #[.string a0] w fun e w'=>∃bh:Value,e= .returned (.tuple #[bh,.bool r2])∧Kd.R bS 64 w' w.heap.size (fun _=>True) bh r1∧Below w.heap.size w w':=by
 have hu64:=aah;have HB:=Ah (pv w.heap.size w);have H:(if(a0.size:Int)=0 then(dg.j0 k a0 true)else(if 0<(a0.size:Int)then(dg.j0 k a0 ((a0.size:Int) !=(I0 (2+(I0 ((I0 (bt a0 0))*9))))))else(none)))=some (r1,r2):=h;clear h;have nt:=Ah H;clear H
 go_enter Try.func47,Try.ntmps47
 go_upto_region 1 with(fail)
 go_cut [19] (fun v19 wc=>∃ (kq:Nat) (Jw:Bool),v19= .bool Jw∧aC (dg.j0 kq a0 Jw=some (r1,r2))∧aC (kq≤k)∧aC (Below w.heap.size w wc))
 case first=>
  have H:=nt.out;clear nt
  by_cases c3:(a0.size:Int)=0
  ·
   rw[if_pos c3]at H;have eb:((a0.size:Int)==0)=true:=beq_iff_eq.mpr c3;have mg:((a0.size:Int) !=0)=false:=bne_eq_false_iff_eq.mpr c3;clear c3;(first|rw[eb]|(simp only[dD,dP];rw[eb])|(simp only[z4,aaU,aaT])|skip);have H':=Ah H;clear H
   go_wp2
   go_meet
   case rel=>exact⟨_,(true),e3,H',⟨by first|omega|exact mz _⟩,⟨bs HB⟩⟩
  rw[if_neg c3]at H;have eb:((a0.size:Int)==0)=false:=beq_eq_false_iff_ne.mpr c3;have mg:((a0.size:Int) !=0)=true:=bne_iff_ne.mpr c3;(first|rw[eb]|(simp only[dD,dP];rw[eb])|(simp only[z4,aaU,aaT])|skip)
  by_cases c4:0<(a0.size:Int)
  rotate_left
  ·
   rw[if_neg c4]at H;exact absurd H (by simp)
  rw[if_pos c4]at H;have fa:decide (0<(a0.size:Int))=true:=decide_eq_true c4;have zD:decide (0<a0.size)=true:=decide_eq_true (by omega);clear c4;have H':=Ah H;clear H;have p5:0≤(0:Int):=(by omega);have q5:0<a0.size:=(by have:(0:Int)<(a0.size:Int):=od;omega);have hx5:∀h:0<a0.size,((a0[0]'h).toNat:Int)=bt a0 0:=vF a0 0;clear p5;have YU:(0<(a0.size:Int))=True:=eq_true (od);replace q5:=eq_true q5
  go_wp2
  go_meet
  case rel=>exact⟨_,(((a0.size:Int) !=(I0 (2+(I0 ((I0 (bt a0 0))*9)))))),e3,H',⟨by first|omega|exact mz _⟩,⟨bs HB⟩⟩
 case rest=>
  clear nt
  try clear p2
  try clear c3
  try clear eb
  try clear mg
  try clear c4
  try clear fa
  try clear zD
  try clear p5
  try clear q5
  try clear hx5
  try clear YU
  try clear p5
  try clear q5
  obtain⟨kq,Jw,rfl,HA,pt,HB⟩:=hcut
  cases kq with
  |zero=>exact absurd HA.out (by simp[dg.j0])
  |succ nu=>
   have H:=HA.out;clear HA;simp only[dg.j0]at H
   by_cases c6:Jw=true
   ·
    subst c6;rw[if_pos rfl]at H;simp only[fc,oe]at H;obtain⟨rfl,rfl⟩:=H
    go_wp2
    go_ret2
    exact⟨_,er,by first|exact Kd.cQ _ _ _ _ _|exact Kd.cY _ _ _ _ _|exact Kd.cZ _ _ _ _ _|exact Kd.cW _ _ _ _ _|exact Kd.cX _ _ _ _ _,bs HB⟩
   replace c6:=dW.mpr c6;subst c6;rw[if_neg cg]at H;have H':=Ah H;clear H
   go_wp2
   go_loopg [4,5] nu (fun kq v4 v5 w'=>∃ (lu:List (S64)) (qW:Int),v5= .int .i64 qW∧aC (dg.l0 kq a0 lu qW=some (r1,r2))∧aC (kq≤nu)∧aC (Kd.R bS 64 w' w.heap.size (fun _=>True) v4 lu)∧aC (Below w.heap.size w w'))
   case atStart=>exact⟨(([]:List (S64))),(0),e3,H',⟨mz _⟩,⟨by first|exact Kd.cQ _ _ _ _ _|exact Kd.cY _ _ _ _ _|exact Kd.cZ _ _ _ _ _|exact Kd.cW _ _ _ _ _|exact Kd.cX _ _ _ _ _⟩,⟨bs HB⟩⟩
   case round=>
    clear H'
    try clear p2
    try clear c3
    try clear eb
    try clear mg
    try clear c4
    try clear fa
    try clear zD
    try clear p5
    try clear q5
    try clear hx5
    try clear YU
    try clear c6
    try clear p6
    try clear p2
    try clear p5
    try clear q5
    obtain⟨lu,qW,rfl,HA,jE,da,HB⟩:=hrel
    cases gk with
    |zero=>exact absurd HA.out (by simp[dg.l0])
    |succ k2=>
     have H:=HA.out;clear HA;simp only[dg.l0]at H
     by_cases c7:0<(a0.size:Int)
     rotate_left
     ·
      rw[if_neg c7]at H;exact absurd H (by simp)
     rw[if_pos c7]at H;have lS:decide (0<(a0.size:Int))=true:=decide_eq_true c7;have sn:decide (0<a0.size)=true:=decide_eq_true (by omega);clear c7
     by_cases c9:qW<(I0 (bt a0 0))
     rotate_left
     ·
      rw[if_neg c9]at H;have qU:decide (qW<(I0 (bt a0 0)))=false:=decide_eq_false c9;clear c9;replace H:=He.mp H;obtain⟨PO,rn,H⟩:=H
      try dsimp only at H
      have sF:=Ah rn;clear rn
      by_cases jF:PO=true
      rotate_left
      ·
       replace jF:=dW.mpr jF;subst jF;rw[if_neg cg]at H;simp only[fc,oe]at H;obtain⟨rfl,rfl⟩:=H;have p8:0≤(0:Int):=(by omega);have q8:0<a0.size:=(by have:(0:Int)<(a0.size:Int):=od;omega);have L1:∀h:0<a0.size,((a0[0]'h).toNat:Int)=bt a0 0:=vF a0 0;clear p8;have R3:(0<(a0.size:Int))=True:=eq_true (od);replace q8:=eq_true q8;obtain⟨iL,iM,zF⟩:=Kd.al da.out;subst zF
       go_wp2_with (first|((with_reducible refine ap (f:=48) rfl ?_);refine gL (some 46) rfl rfl Try.func48 (by kernel_rfl) rfl #[.slice iL lu.length iM,.int .i64 32] rfl ?_;(with_reducible refine(dh.calls k2 _ _ lu 32 false _ ?aE ?aG sF.out).mono ?_);(case aE=>exact bi da);(case aG=>exact(Kd.b9 da.out).2.1);rintro e w32 ⟨rfl,hb⟩;refine⟨_,rfl, ?_⟩;replace da:=nr da hb;replace HB:=Ah (aJ (bs HB) hb);(try clear hb)))
       go_ret2
       exact⟨_,er,by first|exact Kd.cQ _ _ _ _ _|exact Kd.cY _ _ _ _ _|exact Kd.cZ _ _ _ _ _|exact Kd.cW _ _ _ _ _|exact Kd.cX _ _ _ _ _,bs HB⟩
      subst jF;rw[if_pos rfl]at H;replace H:=He.mp H;obtain⟨t138,GV,H⟩:=H
      try dsimp only at H
      have Ho:=Ah GV;clear GV
      by_cases c24:t138.toList=a0.toList
      ·
       rw[if_pos c24]at H;have a4f:(t138.toList==a0.toList)=true:=beq_iff_eq.mpr c24;have a4g:(t138.toList !=a0.toList)=false:=bne_eq_false_iff_eq.mpr c24;clear c24;simp only[fc,oe]at H;obtain⟨rfl,rfl⟩:=H;have p8:0≤(0:Int):=(by omega);have q8:0<a0.size:=(by have:(0:Int)<(a0.size:Int):=od;omega);have L1:∀h:0<a0.size,((a0[0]'h).toNat:Int)=bt a0 0:=vF a0 0;clear p8;have R3:(0<(a0.size:Int))=True:=eq_true (od);replace q8:=eq_true q8;obtain⟨fD,ex,zM⟩:=Kd.al da.out;subst zM
       go_wp2_with (first|((with_reducible refine ap (f:=48) rfl ?_);refine gL (some 46) rfl rfl Try.func48 (by kernel_rfl) rfl #[.slice fD lu.length ex,.int .i64 32] rfl ?_;(with_reducible refine(dh.calls k2 _ _ lu 32 true _ ?aE ?aG sF.out).mono ?_);(case aE=>exact bi da);(case aG=>exact(Kd.b9 da.out).2.1);rintro e R2 ⟨rfl,hb⟩;refine⟨_,rfl, ?_⟩;replace da:=nr da hb;replace HB:=Ah (aJ (bs HB) hb);(try clear hb))|(go_at_call 61;(with_reducible refine(eI.calls k2 _ _ lu t138 _ ?aE ?aG Ho.out).mono ?_);(case aE=>exact bi da);(case aG=>exact(Kd.b9 da.out).2.1);rintro e Cq ⟨rfl,hb⟩;replace da:=nr da hb;replace HB:=Ah (aJ (bs HB) hb);(try clear hb)))
       go_ret2
       exact⟨_,er,by(with_reducible repeat(first|apply Kd.aw|apply Kd.ax|apply Kd.aa));exact da.out,bs HB⟩
      rw[if_neg c24]at H;have a4f:(t138.toList==a0.toList)=false:=beq_eq_false_iff_ne.mpr c24;have a4g:(t138.toList !=a0.toList)=true:=bne_iff_ne.mpr c24;simp only[fc,oe]at H;obtain⟨rfl,rfl⟩:=H;have p8:0≤(0:Int):=(by omega);have q8:0<a0.size:=(by have:(0:Int)<(a0.size:Int):=od;omega);have L1:∀h:0<a0.size,((a0[0]'h).toNat:Int)=bt a0 0:=vF a0 0;clear p8;have R3:(0<(a0.size:Int))=True:=eq_true (od);replace q8:=eq_true q8;obtain⟨a7q,a7r,a7s⟩:=Kd.al da.out;subst a7s
      go_wp2_with (first|((with_reducible refine ap (f:=48) rfl ?_);refine gL (some 46) rfl rfl Try.func48 (by kernel_rfl) rfl #[.slice a7q lu.length a7r,.int .i64 32] rfl ?_;(with_reducible refine(dh.calls k2 _ _ lu 32 true _ ?aE ?aG sF.out).mono ?_);(case aE=>exact bi da);(case aG=>exact(Kd.b9 da.out).2.1);rintro e R4 ⟨rfl,hb⟩;refine⟨_,rfl, ?_⟩;replace da:=nr da hb;replace HB:=Ah (aJ (bs HB) hb);(try clear hb))|(go_at_call 61;(with_reducible refine(eI.calls k2 _ _ lu t138 _ ?aE ?aG Ho.out).mono ?_);(case aE=>exact bi da);(case aG=>exact(Kd.b9 da.out).2.1);rintro e L2 ⟨rfl,hb⟩;replace da:=nr da hb;replace HB:=Ah (aJ (bs HB) hb);(try clear hb)))
      go_ret2
      exact⟨_,er,by first|exact Kd.cQ _ _ _ _ _|exact Kd.cY _ _ _ _ _|exact Kd.cZ _ _ _ _ _|exact Kd.cW _ _ _ _ _|exact Kd.cX _ _ _ _ _,bs HB⟩
     rw[if_pos c9]at H;have qU:decide (qW<(I0 (bt a0 0)))=true:=decide_eq_true c9;clear c9;obtain⟨jc,Nt⟩:∃j_:Int,(I0 (1+(I0 (qW*9))))=j_:=⟨_,rfl⟩
     replace H:(if 0≤(jc)then(if(jc)<(a0.size:Int)then(if 0≤(I0 ((jc)+1))then(if(I0 ((jc)+1))≤(I0 ((I0 ((jc)+1))+8))then(if(I0 ((I0 ((jc)+1))+8))≤(a0.size:Int)then(if lu.length<5864062014805 then(dg.l0 k2 a0 (lu++[(⟨I0 (bt a0 (jc)),a0.extract ((I0 ((jc)+1)):Int).toNat ((I0 ((I0 ((jc)+1))+8)):Int).toNat⟩:S64)]) (I0 (qW+1)))else(none))else(none))else(none))else(none))else(none))else(none))=some (r1,r2):=by first|(rw[Nt]at H;exact H)|(simp only[Nt]at H⊢;exact H)
     have hji10w:(IntKind.i64.wrap (1+(I0 (qW*9))))=jc:=(dD _).trans Nt
     by_cases c11:0≤(jc)
     rotate_left
     ·
      rw[if_neg c11]at H;exact absurd H (by simp)
     rw[if_pos c11]at H;have yO:decide (0≤(jc))=true:=decide_eq_true c11;clear c11
     by_cases c12:(jc)<(a0.size:Int)
     rotate_left
     ·
      rw[if_neg c12]at H;exact absurd H (by simp)
     rw[if_pos c12]at H;have VF:decide ((jc)<(a0.size:Int))=true:=decide_eq_true c12;clear c12;obtain⟨jt,Nu⟩:∃j_:Int,(I0 ((jc)+1))=j_:=⟨_,rfl⟩
     replace H:(if 0≤(jt)then(if(jt)≤(I0 ((jt)+8))then(if(I0 ((jt)+8))≤(a0.size:Int)then(if lu.length<5864062014805 then(dg.l0 k2 a0 (lu++[(⟨I0 (bt a0 (jc)),a0.extract ((jt):Int).toNat ((I0 ((jt)+8)):Int).toNat⟩:S64)]) (I0 (qW+1)))else(none))else(none))else(none))else(none))=some (r1,r2):=by first|(rw[Nu]at H;exact H)|(simp only[Nu]at H⊢;exact H)
     have hji14w:(IntKind.i64.wrap ((jc)+1))=jt:=(dD _).trans Nu
     by_cases c15:0≤(jt)
     rotate_left
     ·
      rw[if_neg c15]at H;exact absurd H (by simp)
     rw[if_pos c15]at H;have Nm:=eq_true c15;have c15b1:decide (0≤(jt))=true:=decide_eq_true c15;clear c15
     by_cases c16:(jt)≤(I0 ((jt)+8))
     rotate_left
     ·
      rw[if_neg c16]at H;exact absurd H (by simp)
     rw[if_pos c16]at H;have vH:=eq_true c16;have c16b1:decide ((jt)≤(I0 ((jt)+8)))=true:=decide_eq_true c16
     by_cases c17:(I0 ((jt)+8))≤(a0.size:Int)
     rotate_left
     ·
      rw[if_neg c17]at H;exact absurd H (by simp)
     rw[if_pos c17]at H;have Jv:=eq_true c17;have VB:decide ((I0 ((jt)+8))≤(a0.size:Int))=true:=decide_eq_true c17
     by_cases c18:lu.length<5864062014805
     rotate_left
     ·
      rw[if_neg c18]at H;exact absurd H (by simp)
     rw[if_pos c18]at H;have a4h:=Ah c18;clear c18;obtain⟨XL,Ef⟩:∃y_:List (S64),y_=(lu++[(⟨I0 (bt a0 (jc)),a0.extract ((jt):Int).toNat ((I0 ((jt)+8)):Int).toNat⟩:S64)]):=⟨_,rfl⟩
     replace H:(dg.l0 k2 a0 XL (I0 (qW+1)))=some (r1,r2):=by first|(rw[Ef];with_reducible exact H)|(have ak:=(Ok _ _).symm.trans H;rw[Ef];with_reducible exact ak)|(have ak:=(Ok _ _).symm.trans H;with_reducible exact ak)|with_reducible exact H|(rw[Ef];exact H)|exact H
     have a4i:=Ah Ef;clear Ef;have H':=Ah H;clear H;have p8:0≤(0:Int):=(by omega);have q8:0<a0.size:=(by have:(0:Int)<(a0.size:Int):=od;omega);have L1:∀h:0<a0.size,((a0[0]'h).toNat:Int)=bt a0 0:=vF a0 0;clear p8;have R3:(0<(a0.size:Int))=True:=eq_true (od);replace q8:=eq_true q8
     try go_wp2
     have aY:=Ah (Kd.aa da.out);have aX:=Ah (ia HB.out);clear da HB;have da:=aY;have HB:=aX;clear aY aX;have YV:0≤((jc):Int):=od;have wX:(jc)<(a0.size:Int):=od;have hx13:=vF a0 (jc);replace YV:=eq_true YV;replace wX:=eq_true wX;refine k9 (n:=16) (S:=fun w'=>True) (ds:=[]) #[false,false,false,false,false,false,false,false,false,false,false,false,false,false,false,false] (by kernel_rfl) rfl rfl trivial (fun hHeld=> ?_);refine kS dg.PP dg.Ns (fun aU dT=> ?_)
     generalize wr.drew=kR at da HB hHeld⊢
     refine b8 0 30 aU.out ?_;refine b8 1 31 aU.out ?_;refine b8 2 32 aU.out ?_;refine b8 5 35 aU.out ?_;refine b8 6 36 aU.out ?_;refine b8 7 37 aU.out ?_;refine b8 8 38 aU.out ?_;refine b8 9 39 aU.out ?_;refine b8 10 40 aU.out ?_;refine b8 11 41 aU.out ?_;refine yE (i:=3) (N:=some 33) (v:= ?_) (a':= ?_) #[true,true,true,true,false,true,true,true,true,true,true,true,false,false,false,false] rfl rfl (M3 aU.out dT.out (by kernel_rfl)) (fun _ _ _ h=>h) (Or.inl ⟨by rfl, ?_⟩) hHeld ?_ ?_;rotate_left
     ·
      intro w' _
      go_simp
      with_reducible rfl
     rotate_left
     ·
      simp only[Act.put,JM,jG,kt,dD,dP]
      rfl
     refine b8 4 34 aU.out ?_;refine b8 12 42 aU.out ?_;refine e5 (i:=13) (N:=some 43) #[true,true,true,true,true,true,true,true,true,true,true,true,true,true,false,false] rfl rfl (dz aU.out (by kernel_rfl)) (by decide) (fun K hK=> ?_);refine BQ (w1:= ?_) (v:= ?_) (by rfl) rfl ?_ ?_;rotate_left 2
     ·
      go_simp
      constructor
      ·
       rfl
      ·
       rfl
     refine hK.out _ _ trivial (fun hHeld=> ?_);clear hK K;refine ej (a':= ?_) ?_ ?_;rotate_left
     ·
      show Act.put _ (some 43) _=_
      simp only[Act.put,JM,jG,kt,dD,dP]
      rfl
     refine e5 (i:=14) (N:=some 44) #[true,true,true,true,true,true,true,true,true,true,true,true,true,true,true,false] rfl rfl (dz aU.out (by kernel_rfl)) (by decide) (fun K hK=> ?_);refine Kd.Af bS (w0:=w) w.heap.size (by rfl) (.tmp 30) (.tmp 43) 24 64 (.agg #[(.int .i64 0),(.string ⟨#[]⟩)]) 24 rfl aaE pF rfl (by decide) (by omega) u4 lu (⟨I0 (bt a0 (jc)),a0.extract ((jt):Int).toNat ((I0 ((jt)+8)):Int).toNat⟩:S64) [.int .i64 (I0 (bt a0 (jc))),.string (a0.extract ((jt):Int).toNat ((I0 ((jt)+8)):Int).toNat)] (fun _=>True) (fun _=>False) rfl rfl ?aP (fun _ hk=>hk.elim) ?aF ?aO ?aB ?aS ?aL ?_;(case aP=>exact xE _ _ _ (⟨I0 (bt a0 (jc)),a0.extract ((jt):Int).toNat ((I0 ((jt)+8)):Int).toNat⟩:S64));(case aB=>exact(bs HB));(case aF=>exact(fun _ _=>trivial));(case aO=>exact(rr da.out));(case aS=>exact(bJ (bs HB)));(case aL=>have:=a4h.out;omega);intro v135 np ho hb hg hat;rw[←a4i.out]at ho;have aY:=Ah (hb);have aX:=Ah (ho);clear HB da;have HB:=aY;have a4j:=aX;clear aY aX ho hb hg hat;refine hK.out _ _ trivial (fun hHeld=> ?_);clear hK K;refine ej (a':= ?_) ?_ ?_;rotate_left
     ·
      show Act.put _ (some 44) _=_
      simp only[Act.put,JM,jG,kt,dD,dP]
      rfl
     refine b8 15 4 aU.out ?_;refine jp (k7 aU.out (by kernel_rfl)) ?_
     try go_wp2
     go_roundg k2
     case measure=>have:=pt.out;have:=jE.out;omega
     case rel=>exact⟨(XL),(I0 (qW+1)),e3,H',⟨by have:=pt.out;have:=jE.out;omega⟩,⟨rr a4j.out⟩,⟨bs HB⟩⟩
def dk.l0:Nat→Int→List (S64)→List ByteArray→Int→Int→Option ((List (S64))×Bool)
 |0,_,_,_,_,_=>none
 |k+1,x1,x6,gD,iq,dq=>if dq<iq then(if 0≤dq then(if dq<(gD.length:Int)then((dg.f k (dL bA gD dq)).bind fun Jx=>(if Jx.2=true then((dh.f k Jx.1 x1).bind fun PQ=>(if PQ=true then(if x6.length+Jx.1.length<5864062014805 then(dk.l0 k x1 (x6++Jx.1) gD iq (I0 (dq+1)))else(none))else(some (([]:List (S64)),false))))else(some (([]:List (S64)),false))))else(none))else(none))else(some (x6,true))
def dk.f(k:Nat)(l0:List ByteArray)(a1:Int):Option ((List (S64))×Bool):=dk.l0 k a1 ([]:List (S64)) l0 (l0.length:Int) 0
theorem dk.bg:∀k,(∀y0 y1 y2 y3 y4,a8 (dk.l0 k y0 y1 y2 y3 y4) (dk.l0 (k+1) y0 y1 y2 y3 y4))
 |0=>fun _ _ _ _ _ r h=>by simp[dk.l0]at h
 |k+1=>by
  have bB:=dk.bg k
  ·
   intro y0 y1 y2 y3 y4;unfold dk.l0
   repeat' with_reducible first|exact bB _ _ _ _ _|exact dg.mono _ _|exact dh.mono _ _ _|exact a8.refl _|exact a8.none _|refine a8.ite ?_ ?_|refine a8.bind ?_ (fun _=> ?_)
theorem dk.mono:∀a0 a1 k,a8 (dk.f k a0 a1) (dk.f (k+1) a0 a1):=by
 intro a0 a1 k;have bB:=dk.bg k;unfold dk.f
 repeat' with_reducible first|exact bB _ _ _ _ _|exact dg.mono _ _|exact dh.mono _ _ _|exact a8.refl _|exact a8.none _|refine a8.ite ?_ ?_|refine a8.bind ?_ (fun _=> ?_)
set_option maxHeartbeats 8000000 in
set_option maxRecDepth 100000 in
theorem dk.calls(k:Nat)(A0:Option Addr)(c0:Nat)(l0:List ByteArray)(a1:Int)(r1:List (S64))(r2:Bool)(w:World)(hr0:Kd.C Kd.string w A0 l0.length l0)(hc0:l0.length≤c0)(h:dk.f k l0 a1=some (r1,r2)):
 Calls t5 27 #[.slice A0 l0.length c0,.int .i64 a1] w fun e w'=>∃bh:Value,e= .returned (.tuple #[bh,.bool r2])∧Kd.R bS 64 w' w.heap.size (fun _=>True) bh r1∧Below w.heap.size w w':=by
 have d8:=Ah hr0;have gV:=Ah hc0;clear hr0 hc0;have HB:=Ah (pv w.heap.size w);have H:(dk.l0 k a1 ([]:List (S64)) l0 (l0.length:Int) 0)=some (r1,r2):=h;clear h;have H':=Ah H;clear H
 go_enter abx,Try.ntmps27
 go_wp2
 go_loopg [6,13] k (fun kq v6 v13 w'=>∃ (fb:List (S64)) (bE:Int),v13= .int .i64 bE∧aC (dk.l0 kq a1 fb l0 (l0.length:Int) bE=some (r1,r2))∧aC (kq≤k)∧aC (Kd.R bS 64 w' w.heap.size (fun _=>True) v6 fb)∧aC (Below w.heap.size w w'))
 case atStart=>exact⟨(([]:List (S64))),(0),e3,H',⟨mz _⟩,⟨by first|exact Kd.cQ _ _ _ _ _|exact Kd.cY _ _ _ _ _|exact Kd.cZ _ _ _ _ _|exact Kd.cW _ _ _ _ _|exact Kd.cX _ _ _ _ _⟩,⟨bs HB⟩⟩
 case round=>
  clear H'
  try clear c2
  try clear p2
  obtain⟨fb,bE,rfl,HA,bY,dn,HB⟩:=hrel
  cases gk with
  |zero=>exact absurd HA.out (by simp[dk.l0])
  |succ k1=>
   have H:=HA.out;clear HA;simp only[dk.l0]at H
   by_cases c3:bE<(l0.length:Int)
   rotate_left
   ·
    rw[if_neg c3]at H;have eb:decide (bE<(l0.length:Int))=false:=decide_eq_false c3;clear c3;simp only[fc,oe]at H;obtain⟨rfl,rfl⟩:=H
    go_wp2
    go_ret2
    exact⟨_,er,by(with_reducible repeat(first|apply Kd.aw|apply Kd.ax|apply Kd.aa));exact dn.out,bs HB⟩
   rw[if_pos c3]at H;have eb:decide (bE<(l0.length:Int))=true:=decide_eq_true c3;clear c3
   by_cases c4:0≤bE
   rotate_left
   ·
    rw[if_neg c4]at H;exact absurd H (by simp)
   rw[if_pos c4]at H;have fa:decide (0≤bE)=true:=decide_eq_true c4;clear c4
   by_cases c5:bE<(l0.length:Int)
   rotate_left
   ·
    rw[if_neg c5]at H;exact absurd H (by simp)
   rw[if_pos c5]at H;have gz:decide (bE<(l0.length:Int))=true:=decide_eq_true c5;clear c5;replace H:=He.mp H;obtain⟨⟨uM,t141⟩,e9,H⟩:=H
   try dsimp only at H
   have A6:=Ah e9;clear e9
   by_cases c7:t141=true
   rotate_left
   ·
    replace c7:=dW.mpr c7;subst c7;rw[if_neg cg]at H;simp only[fc,oe]at H;obtain⟨rfl,rfl⟩:=H;have ro:0≤(bE:Int):=od;have rp:bE<(l0.length:Int):=od;obtain⟨VG,GW,qv⟩:=Kd.lH d8.out bE ro rp
    cases GW
    replace qv:=(HB.out.cell (I1 w _ qv)).trans qv;replace ro:=eq_true ro;replace rp:=eq_true rp
    go_wp2_with (first|((with_reducible refine ap (f:=47) rfl ?_);refine gL (some 19) rfl rfl Try.func47 (by kernel_rfl) rfl #[.string (dL bA l0 bE)] rfl ?_;(with_reducible refine(dg.calls k1 (dL bA l0 bE) uM false _ A6.out).mono ?_);rintro e lz ⟨XM,rfl,ho0,hb⟩;refine⟨_,rfl, ?_⟩;have mV:=Ah (Kd.bD (Kd.av ho0 (Kd.an (rr dn.out))) (bJ (bs HB)));replace dn:=Ah (Kd.cV (rr dn.out) (Kd.ar ho0) hb);replace HB:=Ah (aJ (bs HB) hb);(try clear hb ho0)))
    go_ret2
    exact⟨_,er,by first|exact Kd.cQ _ _ _ _ _|exact Kd.cY _ _ _ _ _|exact Kd.cZ _ _ _ _ _|exact Kd.cW _ _ _ _ _|exact Kd.cX _ _ _ _ _,bs HB⟩
   subst c7;rw[if_pos rfl]at H;replace H:=He.mp H;obtain⟨PQ,oY,H⟩:=H
   try dsimp only at H
   have A8:=Ah oY;clear oY
   by_cases c9:PQ=true
   rotate_left
   ·
    replace c9:=dW.mpr c9;subst c9;rw[if_neg cg]at H;simp only[fc,oe]at H;obtain⟨rfl,rfl⟩:=H;have ro:0≤(bE:Int):=od;have rp:bE<(l0.length:Int):=od;obtain⟨VG,GW,qv⟩:=Kd.lH d8.out bE ro rp
    cases GW
    replace qv:=(HB.out.cell (I1 w _ qv)).trans qv;replace ro:=eq_true ro;replace rp:=eq_true rp
    go_wp2_with (first|((with_reducible refine ap (f:=47) rfl ?_);refine gL (some 19) rfl rfl Try.func47 (by kernel_rfl) rfl #[.string (dL bA l0 bE)] rfl ?_;(with_reducible refine(dg.calls k1 (dL bA l0 bE) uM true _ A6.out).mono ?_);rintro e jw ⟨XM,rfl,ho0,hb⟩;refine⟨_,rfl, ?_⟩;have mV:=Ah (Kd.bD (Kd.av ho0 (Kd.an (rr dn.out))) (bJ (bs HB)));replace dn:=Ah (Kd.cV (rr dn.out) (Kd.ar ho0) hb);replace HB:=Ah (aJ (bs HB) hb);(try clear hb ho0);obtain⟨jd,j9,vx⟩:=Kd.al mV.out;subst vx)|(go_at_call 48;(with_reducible refine(dh.calls k1 _ _ uM a1 false _ ?aE ?aG A8.out).mono ?_);(case aE=>exact bi mV);(case aG=>exact(Kd.b9 mV.out).2.1);rintro e uZ ⟨rfl,hb⟩;replace dn:=nr dn hb;replace mV:=nr mV hb;replace HB:=Ah (aJ (bs HB) hb);(try clear hb)))
    go_ret2
    exact⟨_,er,by first|exact Kd.cQ _ _ _ _ _|exact Kd.cY _ _ _ _ _|exact Kd.cZ _ _ _ _ _|exact Kd.cW _ _ _ _ _|exact Kd.cX _ _ _ _ _,bs HB⟩
   subst c9;rw[if_pos rfl]at H
   by_cases c10:fb.length+uM.length<5864062014805
   rotate_left
   ·
    rw[if_neg c10]at H;exact absurd H (by simp)
   rw[if_pos c10]at H;have Nv:=Ah c10;clear c10;obtain⟨XN,Eg⟩:∃y_:List (S64),y_=(fb++uM):=⟨_,rfl⟩
   replace H:(dk.l0 k1 a1 XN l0 (l0.length:Int) (I0 (bE+1)))=some (r1,r2):=by first|(rw[Eg];with_reducible exact H)|(have ak:=(Ok _ _).symm.trans H;rw[Eg];with_reducible exact ak)|(have ak:=(Ok _ _).symm.trans H;with_reducible exact ak)|with_reducible exact H|(rw[Eg];exact H)|exact H
   have a4k:=Ah Eg;clear Eg;have H':=Ah H;clear H;have ro:0≤(bE:Int):=od;have rp:bE<(l0.length:Int):=od;obtain⟨VG,GW,qv⟩:=Kd.lH d8.out bE ro rp
   cases GW
   replace qv:=(HB.out.cell (I1 w _ qv)).trans qv;replace ro:=eq_true ro;replace rp:=eq_true rp
   go_wp2_with (first|((with_reducible refine ap (f:=47) rfl ?_);refine gL (some 19) rfl rfl Try.func47 (by kernel_rfl) rfl #[.string (dL bA l0 bE)] rfl ?_;(with_reducible refine(dg.calls k1 (dL bA l0 bE) uM true _ A6.out).mono ?_);rintro e sy ⟨XM,rfl,ho0,hb⟩;refine⟨_,rfl, ?_⟩;have mV:=Ah (Kd.bD (Kd.av ho0 (Kd.an (rr dn.out))) (bJ (bs HB)));replace dn:=Ah (Kd.cV (rr dn.out) (Kd.ar ho0) hb);replace HB:=Ah (aJ (bs HB) hb);(try clear hb ho0);obtain⟨ga,gC,pj⟩:=Kd.al mV.out;subst pj)|(go_at_call 48;(with_reducible refine(dh.calls k1 _ _ uM a1 true _ ?aE ?aG A8.out).mono ?_);(case aE=>exact bi mV);(case aG=>exact(Kd.b9 mV.out).2.1);rintro e ly ⟨rfl,hb⟩;replace dn:=nr dn hb;replace mV:=nr mV hb;replace HB:=Ah (aJ (bs HB) hb);(try clear hb))|((with_reducible refine mO (b:= .append) (xs:= #[.tmp 30,.tmp 31]) rfl ?_);at_builtin;refine Kd.wg bS (w0:=w) w.heap.size rfl (.tmp 30) (.tmp 31) 24 64 (.agg #[(.int .i64 0),(.string ⟨#[]⟩)]) 24 rfl aaE pF rfl (by decide) (by omega) u6 fb uM _ _ _ (fun k_=>some k_≠(.slice ga uM.length gC:Value).ownBlock) (fun _=>False) rfl rfl ?aO ?aR (fun _ _ h=>h) (fun _ h=>h.elim) ?aF ?aB ?aS ?aL ?_;(case aR=>exact bi mV);(case aB=>exact(bs HB));(case aF=>exact(fun k_ hk=>Kd.fresh' (Kd.an (rr mV.out)) k_ hk));(case aO=>exact(by(with_reducible repeat(first|apply Kd.aw|apply Kd.ax|apply Kd.aa));exact Kd.aK dn.out (fun _ hk=>hk.2)));(case aS=>exact(bJ (bs HB)));(case aL=>have:=Nv.out;omega);intro v146 pp ho hb hg hat;rw[←a4k.out]at ho;replace mV:=Ah (Kd.un (ok:=(fun _=>True)) (rr mV.out) hg hat);replace HB:=Ah (hb);have a4l:=Ah (ho);clear dn;clear ho hb hg hat))
   go_roundg k1
   case measure=>have:=bY.out;omega
   case rel=>exact⟨(XN),(I0 (bE+1)),e3,H',⟨by have:=bY.out;omega⟩,rm a4l (fun _ hk=>trivial),⟨bs HB⟩⟩
mutual
def dC.l0:Nat→List ByteArray→Int→Int→List ByteArray→List (S64)→Option (Bool)
 |0,_,_,_,_,_=>none
 |k+1,x8,x9,it,BH,xT=>if it<x9 then(if 0≤it then(if it<(x8.length:Int)then(if((dL bA x8 it).size:Int)=8 then(dC.l0 k x8 x9 (I0 (it+1)) BH xT)else(some false))else(none))else(none))else(dC.l1 k xT (xT.length:Int) 0 BH xT)
def dC.l1:Nat→List (S64)→Int→Int→List ByteArray→List (S64)→Option (Bool)
 |0,_,_,_,_,_=>none
 |k+1,Cp,x20,Cr,BH,xT=>if Cr<x20 then(if 0≤Cr then(if Cr<(Cp.length:Int)then((n4.f ((aH Cp Cr).f0) ((aH Cp Cr).f1) (BH.length:Int)).bind fun t152=>(if t152=true then(dC.l1 k Cp x20 (I0 (Cr+1)) BH xT)else(some false)))else(none))else(none))else((jI.f (BH.length:Int) 1 32).bind fun PR=>(if PR=true then(some (decide ((xT.length:Int)≤60)))else(some false)))
end
def dC.f(k:Nat)(X:List ByteArray)(J:List (S64)):Option (Bool):=dC.l0 k X (X.length:Int) 0 X J
theorem dC.bg:∀k,(∀y0 y1 y2 y3 y4,a8 (dC.l0 k y0 y1 y2 y3 y4) (dC.l0 (k+1) y0 y1 y2 y3 y4))∧(∀y0 y1 y2 y3 y4,a8 (dC.l1 k y0 y1 y2 y3 y4) (dC.l1 (k+1) y0 y1 y2 y3 y4))
 |0=>⟨fun _ _ _ _ _ r h=>by simp[dC.l0]at h,fun _ _ _ _ _ r h=>by simp[dC.l1]at h⟩
 |k+1=>by
  obtain⟨bB,ih1⟩:=dC.bg k
  refine⟨?_, ?_⟩<;>intros<;>first|unfold dC.l0|unfold dC.l1
  all_goals repeat' first
   |(with_reducible exact bB _ _ _ _ _)
   |(with_reducible exact ih1 _ _ _ _ _)
   |(with_reducible exact a8.refl _)
   |(with_reducible exact a8.none _)
   |(with_reducible refine a8.ite ?_ ?_)
   |(with_reducible refine a8.bind ?_ (fun _=> ?_))
   |exact bB _ _ _ _ _
   |exact ih1 _ _ _ _ _
   |exact a8.none _
   |refine a8.ite ?_ ?_
   |refine a8.bind ?_ (fun _=> ?_)
theorem dC.mono:∀a0 a1 k,a8 (dC.f k a0 a1) (dC.f (k+1) a0 a1):=by
 intro a0 a1 k;obtain⟨bB,ih1⟩:=dC.bg k;unfold dC.f
 repeat' with_reducible first|exact bB _ _ _ _ _|exact ih1 _ _ _ _ _|exact a8.refl _|exact a8.none _|refine a8.ite ?_ ?_|refine a8.bind ?_ (fun _=> ?_)
set_option maxHeartbeats 8000000 in
set_option maxRecDepth 100000 in
theorem dC.calls(k:Nat)(ag:Option Addr)(ah:Nat)(X:List ByteArray)(ai:Option Addr)(af:Nat)(J:List (S64))(r:Bool)(w:World)(dG:Kd.C Kd.string w ag X.length X)(dH:X.length≤ah)(dI:Kd.C bS w ai J.length J)(dJ:J.length≤af)(h:dC.f k X J=some r):
 Calls t5 45 #[.agg #[.slice ag X.length ah,.slice ai J.length af]] w fun e w'=>e= .returned (.bool r)∧Below w.heap.size w w':=by
 have kj:=aae;have hu64:=aah;have cN:=Ah dG;have cR:=Ah dH;clear dG dH;have cI:=Ah dI;have ca:=Ah dJ;clear dI dJ;have HB:=Ah (pv w.heap.size w);have H:(dC.l0 k X (X.length:Int) 0 X J)=some r:=h;clear h;have H':=Ah H;clear H
 go_enter aa2,Try.ntmps45
 go_wp2_with (first|((with_reducible refine ao (N:=1) rfl ?_);(try(refine dM (by rfl) ?_;dsimp only));refine az 1 26 #[.slice ag X.length ah,.slice ai J.length af] ?_;intro VH hg w2 i4 hb;have GW148:=gw hg (bs HB);have mW:=gw hg (bs HB);replace HB:=Ah (aJ (bs HB) hb);clear hb hg;obtain⟨UV,UW⟩:=bN i4;obtain⟨UX,UY⟩:=bI i4))
 go_loopg [10] k (fun kq v10 w'=>∃ (ch:Int),v10= .int .i64 ch∧aC (dC.l0 kq X (X.length:Int) ch X J=some r)∧aC (kq≤k)∧aC (w'.heap[VH]?=some (.cells #[(.slice ag X.length ah),(.slice ai J.length af)] 26 (0,0)))∧aC (Below w.heap.size w w'))
 case atStart=>exact⟨(0),e3,H',⟨mz _⟩,⟨bk i4⟩,⟨aM HB mW⟩⟩
 case round=>
  clear H'
  try clear p2
  try clear UV UW
  try clear UX UY
  obtain⟨ch,rfl,HA,bY,i4,HB⟩:=hrel
  cases gk with
  |zero=>exact absurd HA.out (by simp[dC.l0])
  |succ k1=>
   have H:=HA.out;clear HA;simp only[dC.l0]at H
   by_cases c4:ch<(X.length:Int)
   ·
    rw[if_pos c4]at H;have fa:decide (ch<(X.length:Int))=true:=decide_eq_true c4;clear c4
    by_cases c5:0≤ch
    rotate_left
    ·
     rw[if_neg c5]at H;exact absurd H (by simp)
    rw[if_pos c5]at H;have gz:decide (0≤ch)=true:=decide_eq_true c5;clear c5
    by_cases c6:ch<(X.length:Int)
    rotate_left
    ·
     rw[if_neg c6]at H;exact absurd H (by simp)
    rw[if_pos c6]at H;have hF:decide (ch<(X.length:Int))=true:=decide_eq_true c6;clear c6
    by_cases c7:((dL bA X ch).size:Int)=8
    rotate_left
    ·
     rw[if_neg c7]at H;have lS:(((dL bA X ch).size:Int)==8)=false:=beq_eq_false_iff_ne.mpr c7;have sn:(((dL bA X ch).size:Int) !=8)=true:=bne_iff_ne.mpr c7;obtain rfl:=fl H;have vy:0≤(ch:Int):=od;have vz:ch<(X.length:Int):=od;obtain⟨a4m,PS,ux⟩:=Kd.lH cN.out ch vy vz
     cases PS
     replace ux:=(HB.out.cell (I1 w _ ux)).trans ux;replace vy:=eq_true vy;replace vz:=eq_true vz
     go_wp2
     go_ret
     exact⟨er,aM HB mW⟩
    rw[if_pos c7]at H;have lS:(((dL bA X ch).size:Int)==8)=true:=beq_iff_eq.mpr c7;have sn:(((dL bA X ch).size:Int) !=8)=false:=bne_eq_false_iff_eq.mpr c7;clear c7;have H':=Ah H;clear H;have vy:0≤(ch:Int):=od;have vz:ch<(X.length:Int):=od;obtain⟨a4m,PS,ux⟩:=Kd.lH cN.out ch vy vz
    cases PS
    replace ux:=(HB.out.cell (I1 w _ ux)).trans ux;replace vy:=eq_true vy;replace vz:=eq_true vz
    go_wp2
    go_roundg k1
    case measure=>have:=bY.out;omega
    case rel=>exact⟨(I0 (ch+1)),e3,H',⟨by have:=bY.out;omega⟩,⟨bk i4⟩,⟨aM HB mW⟩⟩
   rw[if_neg c4]at H;have fa:decide (ch<(X.length:Int))=false:=decide_eq_false c4;clear c4;have H':=Ah H;clear H;obtain⟨qN,qO⟩:=bN i4;obtain⟨r8,qP⟩:=bI i4
   go_wp2
   go_loopg [21] k1 (fun kq v21 w'=>∃ (gv:Int),v21= .int .i64 gv∧aC (dC.l1 kq J (J.length:Int) gv X J=some r)∧aC (kq≤k1)∧aC (w'.heap[VH]?=some (.cells #[(.slice ag X.length ah),(.slice ai J.length af)] 26 (0,0)))∧aC (Below w.heap.size w w'))
   case atStart=>exact⟨(0),e3,H',⟨mz _⟩,⟨bk i4⟩,⟨aM HB mW⟩⟩
   case round=>
    clear H'
    try clear p1
    try clear q1
    try clear hx1
    try clear p2
    try clear c4
    try clear fa
    try clear c5
    try clear gz
    try clear c6
    try clear hF
    try clear p6
    try clear c7
    try clear lS
    try clear sn
    try clear UV UW
    try clear qN qO
    try clear UX UY
    try clear r8 qP
    try clear ux
    try clear vy
    try clear p2
    try clear vz
    obtain⟨gv,rfl,HA,jE,i4,HB⟩:=hrel
    cases gk with
    |zero=>exact absurd HA.out (by simp[dC.l1])
    |succ k2=>
     have H:=HA.out;clear HA;simp only[dC.l1]at H
     by_cases c9:gv<(J.length:Int)
     rotate_left
     ·
      rw[if_neg c9]at H;have qU:decide (gv<(J.length:Int))=false:=decide_eq_false c9;clear c9;replace H:=He.mp H;obtain⟨PR,GX,H⟩:=H
      try dsimp only at H
      have L3:=Ah GX;clear GX
      by_cases L4:PR=true
      ·
       subst L4;rw[if_pos rfl]at H;obtain rfl:=fl H;obtain⟨uy,uz⟩:=bN i4;obtain⟨vA,vB⟩:=bI i4
       go_wp2_with (first|((with_reducible refine ap (f:=21) rfl ?_);refine gL (some 35) rfl rfl abq (by kernel_rfl) rfl #[.int .i64 (X.length:Int),.int .i64 1,.int .i64 32] rfl ?_;(with_reducible refine(jI.calls (X.length:Int) 1 32 true _ L3.out).mono ?_);rintro e w' ⟨rfl,⟨nd,rfl⟩⟩;refine⟨_,rfl, ?_⟩))
       go_ret
       exact⟨er,aM HB mW⟩
      replace L4:=dW.mpr L4;subst L4;rw[if_neg cg]at H;obtain rfl:=fl H;obtain⟨Dg,Dh⟩:=bN i4;obtain⟨Di,Dj⟩:=bI i4
      go_wp2_with (first|((with_reducible refine ap (f:=21) rfl ?_);refine gL (some 35) rfl rfl abq (by kernel_rfl) rfl #[.int .i64 (X.length:Int),.int .i64 1,.int .i64 32] rfl ?_;(with_reducible refine(jI.calls (X.length:Int) 1 32 false _ L3.out).mono ?_);rintro e w' ⟨rfl,⟨nd,rfl⟩⟩;refine⟨_,rfl, ?_⟩))
      go_ret
      exact⟨er,aM HB mW⟩
     rw[if_pos c9]at H;have qU:decide (gv<(J.length:Int))=true:=decide_eq_true c9;clear c9
     by_cases c10:0≤gv
     rotate_left
     ·
      rw[if_neg c10]at H;exact absurd H (by simp)
     rw[if_pos c10]at H;have yM:decide (0≤gv)=true:=decide_eq_true c10;clear c10
     by_cases c11:gv<(J.length:Int)
     rotate_left
     ·
      rw[if_neg c11]at H;exact absurd H (by simp)
     rw[if_pos c11]at H;have yO:decide (gv<(J.length:Int))=true:=decide_eq_true c11;clear c11;replace H:=He.mp H;obtain⟨t152,GY,H⟩:=H
     try dsimp only at H
     have Hp:=Ah GY;clear GY
     by_cases c13:t152=true
     rotate_left
     ·
      replace c13:=dW.mpr c13;subst c13;rw[if_neg cg]at H;obtain rfl:=fl H;have zN:0≤(gv:Int):=od;have zO:gv<(J.length:Int):=od;obtain⟨a4n,PT,xU,xV⟩:=g8 cI.out gv zN zO
      cases PT
      replace xU:=(HB.out.cell (I1 w _ xU)).trans xU;replace xV:=(HB.out.cell (I1 w _ xV)).trans xV;replace zN:=eq_true zN;replace zO:=eq_true zO
      go_wp2_with (first|((with_reducible refine ao (N:=6) rfl ?_);(try(refine dM (by rfl) ?_;dsimp only));refine az 6 64 #[.int .i64 0,.string (⟨#[]⟩:ByteArray)] ?_;intro Nw hg kR tl hb;have a4o:=gw hg (aM HB mW);have Eh:=gw hg (aM HB mW);replace HB:=Ah (aJ (aM HB mW) hb);have DJ:=nn i4 hg;have LX:=nm i4 hg;replace i4:=nb i4 hb;clear hb hg;have a4p:=LX.out;have a4q:=DJ.out;obtain⟨Mq,Mr⟩:=bN tl;obtain⟨Ms,Mt⟩:=bI tl;obtain⟨qC,qD⟩:=bN i4;obtain⟨qE,qF⟩:=bI i4)|((with_reducible refine ap (f:=64) rfl ?_);refine gL (some 29) rfl rfl Try.func64 (by kernel_rfl) rfl #[.agg #[.int .i64 ((aH J gv).f0),.string ((aH J gv).f1)],.int .i64 (X.length:Int)] rfl ?_;(with_reducible refine(n4.calls ((aH J gv).f0) ((aH J gv).f1) (X.length:Int) false _ Hp.out).mono ?_);rintro e sG ⟨rfl,hb⟩;refine⟨_,rfl, ?_⟩;replace i4:=Ah (dF (bf i4 DJ) hb);replace tl:=Ah (dF (g:=Nw) (o:= .cells #[.int .i64 ((aH J gv).f0),.string ((aH J gv).f1)] 64 (0,0)) (by(with_reducible repeat(first|refine a9 ?_ _|refine U ?_|refine Z ?_ _));refine aN (cs:= #[.int .i64 ((aH J gv).f0),.string (⟨#[]⟩:ByteArray)]) ?_ 1 _ rfl;(with_reducible repeat(first|refine a9 ?_ _|refine U ?_|refine Z ?_ _));refine aN (cs:= #[.int .i64 0,.string (⟨#[]⟩:ByteArray)]) ?_ 0 _ rfl;(with_reducible repeat(first|refine a9 ?_ _|refine U ?_|refine Z ?_ _));exact tl.out) hb);replace HB:=Ah (aJ (aW HB mW Eh) hb);(try clear hb)))
      go_ret
      exact⟨er,aW HB mW Eh⟩
     subst c13;rw[if_pos rfl]at H;have H':=Ah H;clear H;have zN:0≤(gv:Int):=od;have zO:gv<(J.length:Int):=od;obtain⟨a4n,PT,xU,xV⟩:=g8 cI.out gv zN zO
     cases PT
     replace xU:=(HB.out.cell (I1 w _ xU)).trans xU;replace xV:=(HB.out.cell (I1 w _ xV)).trans xV;replace zN:=eq_true zN;replace zO:=eq_true zO
     go_wp2_with (first|((with_reducible refine ao (N:=6) rfl ?_);(try(refine dM (by rfl) ?_;dsimp only));refine az 6 64 #[.int .i64 0,.string (⟨#[]⟩:ByteArray)] ?_;intro Nw hg pp tl hb;have a4o:=gw hg (aM HB mW);have Eh:=gw hg (aM HB mW);replace HB:=Ah (aJ (aM HB mW) hb);have DJ:=nn i4 hg;have LX:=nm i4 hg;replace i4:=nb i4 hb;clear hb hg;have Jj:=LX.out;have Jk:=DJ.out;obtain⟨tU,tV⟩:=bN tl;obtain⟨tW,tX⟩:=bI tl;obtain⟨ox,oy⟩:=bN i4;obtain⟨oz,p7⟩:=bI i4)|((with_reducible refine ap (f:=64) rfl ?_);refine gL (some 29) rfl rfl Try.func64 (by kernel_rfl) rfl #[.agg #[.int .i64 ((aH J gv).f0),.string ((aH J gv).f1)],.int .i64 (X.length:Int)] rfl ?_;(with_reducible refine(n4.calls ((aH J gv).f0) ((aH J gv).f1) (X.length:Int) true _ Hp.out).mono ?_);rintro e lz ⟨rfl,hb⟩;refine⟨_,rfl, ?_⟩;replace i4:=Ah (dF (bf i4 DJ) hb);replace tl:=Ah (dF (g:=Nw) (o:= .cells #[.int .i64 ((aH J gv).f0),.string ((aH J gv).f1)] 64 (0,0)) (by(with_reducible repeat(first|refine a9 ?_ _|refine U ?_|refine Z ?_ _));refine aN (cs:= #[.int .i64 ((aH J gv).f0),.string (⟨#[]⟩:ByteArray)]) ?_ 1 _ rfl;(with_reducible repeat(first|refine a9 ?_ _|refine U ?_|refine Z ?_ _));refine aN (cs:= #[.int .i64 0,.string (⟨#[]⟩:ByteArray)]) ?_ 0 _ rfl;(with_reducible repeat(first|refine a9 ?_ _|refine U ?_|refine Z ?_ _));exact tl.out) hb);replace HB:=Ah (aJ (aW HB mW Eh) hb);(try clear hb)))
     go_roundg k2
     case measure=>have:=bY.out;have:=jE.out;omega
     case rel=>exact⟨(I0 (gv+1)),e3,H',⟨by have:=bY.out;have:=jE.out;omega⟩,⟨bk i4⟩,⟨aW HB mW Eh⟩⟩
mutual
def bo.j0:Nat→Bool→List ByteArray→List (S64)→List ByteArray→Int→Option (Bool)
 |0,_,_,_,_,_=>none
 |k+1,x30,TQ,TR,My,Mz=>if x30=true then(some false)else((dk.f k My (TQ.length:Int)).bind fun a4r=>(if a4r.2=true then(if 0≤Mz then(if Mz≤(My.length:Int)then((dk.f k (My.take (Mz:Int).toNat) (TQ.length:Int)).bind fun a4s=>(bo.l0 k a4s.1 TR (TR.length:Int) 0))else(none))else(none))else(some false)))
def bo.l0:Nat→List (S64)→List (S64)→Int→Int→Option (Bool)
 |0,_,_,_,_=>none
 |k+1,x5,wa,Cs,t3=>if t3<Cs then(if 0≤t3 then(if t3<(wa.length:Int)then(bo.l1 k x5 false wa Cs t3 x5 (x5.length:Int) 0 ((aH wa t3).f0) ((aH wa t3).f1))else(none))else(none))else(some true)
def bo.l1:Nat→List (S64)→Bool→List (S64)→Int→Int→List (S64)→Int→Int→Int→ByteArray→Option (Bool)
 |0,_,_,_,_,_,_,_,_,_,_=>none
 |k+1,x5,x9,wa,Cs,t3,Hq,R5,x66,N0,N1=>if x66<R5 then(if 0≤x66 then(if x66<(Hq.length:Int)then(if x9=true then(bo.l1 k x5 true wa Cs t3 Hq R5 (I0 (x66+1)) N0 N1)else(bo.l1 k x5 (((aH Hq x66).f0)==N0&& ((((aH Hq x66).f1).toList)==N1.toList)) wa Cs t3 Hq R5 (I0 (x66+1)) N0 N1))else(none))else(none))else(if x9=true then(bo.l0 k x5 wa Cs (I0 (t3+1)))else(some false))
end
def bo.f(k:Nat)(X:List ByteArray)(J:List (S64))(aD:List ByteArray)(aI:Int):Option (Bool):=(dC.f k X J).bind fun GZ=>(if GZ=true then(if(aD.length:Int)>40 then(bo.j0 k true X J aD aI)else((jI.f aI 0 (aD.length:Int)).bind fun t156=>(bo.j0 k (!t156) X J aD aI)))else(bo.j0 k true X J aD aI))
theorem bo.bg:∀k,(∀y0 y1 y2 y3 y4,a8 (bo.j0 k y0 y1 y2 y3 y4) (bo.j0 (k+1) y0 y1 y2 y3 y4))∧(∀y0 y1 y2 y3,a8 (bo.l0 k y0 y1 y2 y3) (bo.l0 (k+1) y0 y1 y2 y3))∧(∀y0 y1 y2 y3 y4 y5 y6 y7 y8 y9,a8 (bo.l1 k y0 y1 y2 y3 y4 y5 y6 y7 y8 y9) (bo.l1 (k+1) y0 y1 y2 y3 y4 y5 y6 y7 y8 y9))
 |0=>⟨fun _ _ _ _ _ r h=>by simp[bo.j0]at h,fun _ _ _ _ r h=>by simp[bo.l0]at h,fun _ _ _ _ _ _ _ _ _ _ r h=>by simp[bo.l1]at h⟩
 |k+1=>by
  obtain⟨bB,ih1,ih2⟩:=bo.bg k
  refine⟨?_, ?_, ?_⟩<;>intros<;>first|unfold bo.j0|unfold bo.l0|unfold bo.l1
  all_goals repeat' first
   |(with_reducible exact bB _ _ _ _ _)
   |(with_reducible exact ih1 _ _ _ _)
   |(with_reducible exact ih2 _ _ _ _ _ _ _ _ _ _)
   |(with_reducible exact dC.mono _ _ _)
   |(with_reducible exact dk.mono _ _ _)
   |(with_reducible exact a8.refl _)
   |(with_reducible exact a8.none _)
   |(with_reducible refine a8.ite ?_ ?_)
   |(with_reducible refine a8.bind ?_ (fun _=> ?_))
   |exact bB _ _ _ _ _
   |exact ih1 _ _ _ _
   |exact ih2 _ _ _ _ _ _ _ _ _ _
   |exact dC.mono _ _ _
   |exact dk.mono _ _ _
   |exact a8.none _
   |refine a8.ite ?_ ?_
   |refine a8.bind ?_ (fun _=> ?_)
theorem bo.mono:∀a0 a1 a2 a3 k,a8 (bo.f k a0 a1 a2 a3) (bo.f (k+1) a0 a1 a2 a3):=by
 intro a0 a1 a2 a3 k;obtain⟨bB,ih1,ih2⟩:=bo.bg k;unfold bo.f
 repeat' with_reducible first|exact bB _ _ _ _ _|exact ih1 _ _ _ _|exact ih2 _ _ _ _ _ _ _ _ _ _|exact dC.mono _ _ _|exact dk.mono _ _ _|exact a8.refl _|exact a8.none _|refine a8.ite ?_ ?_|refine a8.bind ?_ (fun _=> ?_)
def bo.T6:Bool×List (List Nat×List Nat):=(true,[([],[]),([0],[0]),([],[]),([2],[2]),([1,3],[1,3]),([],[]),([5],[5]),([6],[6]),([7],[7]),([4,8],[4,8]),([9],[9]),([10],[10]),([10],[10]),([11,9,0,1,2,3,4,5,6,7,8,9,10,11],[11]),([12,13,0,1,2,3,4,5,6,7,8,9,10,11,12,13],[12])])
def bo.B6:List Nat:=[0,1,0,4,15,0,32,96,224,511,1023,2047,2047,4095,16383]
theorem bo.wA:fN .any (lh Try.f20 6)=bo.T6:=by kernel_rfl
theorem bo.vI:ji bo.T6.2 bo.B6=true:=by kernel_rfl
set_option maxHeartbeats 8000000 in
set_option maxRecDepth 100000 in
theorem bo.calls(k:Nat)(ag:Option Addr)(ah:Nat)(X:List ByteArray)(ai:Option Addr)(af:Nat)(J:List (S64))(bP:Option Addr)(bQ:Nat)(aD:List ByteArray)(aI:Int)(r:Bool)(w:World)(dG:Kd.C Kd.string w ag X.length X)(dH:X.length≤ah)(dI:Kd.C bS w ai J.length J)(dJ:J.length≤af)(fp:Kd.C Kd.string w bP aD.length aD)(fq:aD.length≤bQ)(h:bo.f k X J aD aI=some r):
 Calls t5 20 #[.agg #[.slice ag X.length ah,.slice ai J.length af,.slice bP aD.length bQ,.int .i64 aI]] w fun e w'=>e= .returned (.bool r)∧Below w.heap.size w w':=by
 have mE:=Try.underlying28;have kj:=aae;have hu64:=aah;have cN:=Ah dG;have cR:=Ah dH;clear dG dH;have cI:=Ah dI;have ca:=Ah dJ;clear dI dJ;have dr:=Ah fp;have eK:=Ah fq;clear fp fq;have HB:=Ah (pv w.heap.size w);have H:((dC.f k X J).bind fun GZ=>(if GZ=true then(if(aD.length:Int)>40 then(bo.j0 k true X J aD aI)else((jI.f aI 0 (aD.length:Int)).bind fun t156=>(bo.j0 k (!t156) X J aD aI)))else(bo.j0 k true X J aD aI)))=some r:=h;clear h;have nt:=Ah H;clear H
 go_enter Try.func20,Try.ntmps20
 go_upto_region 1 with(first|((with_reducible refine ao (N:=1) rfl ?_);(try(refine dM (by rfl) ?_;dsimp only));refine az 1 28 #[.slice ag X.length ah,.slice ai J.length af,.slice bP aD.length bQ,.int .i64 aI] ?_;intro yP hg w3 dN hb;have GW154:=gw hg (bs HB);have i5:=gw hg (bs HB);replace HB:=Ah (aJ (bs HB) hb);clear hb hg))
 (try simp only[Act.put,JM,jG,kt])
 go_cut [30] (fun v30 wc=>∃ (kq:Nat) (Jy:Bool),v30= .bool Jy∧aC (bo.j0 kq Jy X J aD aI=some r)∧aC (kq≤k)∧aC (wc.heap[yP]?=some (.cells #[(.slice ag X.length ah),(.slice ai J.length af),(.slice bP aD.length bQ),.int .i64 aI] 28 (0,0)))∧aC (Below w.heap.size w wc))
 case first=>
  have H:=nt.out;clear nt;replace H:=He.mp H;obtain⟨GZ,ey,H⟩:=H
  try dsimp only at H
  have A4:=Ah ey;clear ey
  by_cases c5:GZ=true
  rotate_left
  ·
   replace c5:=dW.mpr c5;subst c5;rw[if_neg cg]at H;have H':=Ah H;clear H;obtain⟨qw,qx,xW,xX⟩:=b0 dN;obtain⟨qy,qz,xY,xZ⟩:=b5 dN
   go_wp2_with (first|((with_reducible refine ap (f:=45) rfl ?_);refine gL (some 14) rfl rfl aa2 (by kernel_rfl) rfl #[.agg #[.slice ag X.length ah,.slice ai J.length af]] rfl ?_;(with_reducible refine(dC.calls k _ _ X _ _ J false _ ?aE ?aG ?aZ ?ab A4.out).mono ?_);(case aE=>exact cb cN HB);(case aG=>exact cR.out);(case aZ=>exact cb cI HB);(case ab=>exact ca.out);rintro e jw ⟨rfl,hb⟩;refine⟨_,rfl, ?_⟩;replace dN:=nb dN hb;replace HB:=Ah (aJ (aM HB i5) hb);(try clear hb)))
   go_meet
   case rel=>exact⟨_,(true),e3,H',⟨by first|omega|exact mz _⟩,⟨bk dN⟩,⟨aM HB i5⟩⟩
  subst c5;rw[if_pos rfl]at H
  by_cases c6:(aD.length:Int)>40
  ·
   rw[if_pos c6]at H;have hF:decide (40<(aD.length:Int))=true:=decide_eq_true c6;have so:decide (40<aD.length)=true:=decide_eq_true (by omega);clear c6;(first|rw[hF]|(simp only[dD,dP];rw[hF])|(simp only[PU,aaU,aaT])|skip);have H':=Ah H;clear H;obtain⟨nD,nE,xy,xz⟩:=b0 dN;obtain⟨nF,nG,yA,yB⟩:=b5 dN
   go_wp2_with (first|((with_reducible refine ap (f:=45) rfl ?_);refine gL (some 14) rfl rfl aa2 (by kernel_rfl) rfl #[.agg #[.slice ag X.length ah,.slice ai J.length af]] rfl ?_;(with_reducible refine(dC.calls k _ _ X _ _ J true _ ?aE ?aG ?aZ ?ab A4.out).mono ?_);(case aE=>exact cb cN HB);(case aG=>exact cR.out);(case aZ=>exact cb cI HB);(case ab=>exact ca.out);rintro e w8 ⟨rfl,hb⟩;refine⟨_,rfl, ?_⟩;replace dN:=nb dN hb;replace HB:=Ah (aJ (aM HB i5) hb);(try clear hb);obtain⟨pG,pH,vD,yC⟩:=b0 dN;obtain⟨qQ,pI,vE,yD⟩:=b5 dN))
   go_meet
   case rel=>exact⟨_,(true),e3,H',⟨by first|omega|exact mz _⟩,⟨bk dN⟩,⟨aM HB i5⟩⟩
  rw[if_neg c6]at H;have hF:decide (40<(aD.length:Int))=false:=decide_eq_false c6;have so:decide (40<aD.length)=false:=decide_eq_false (by omega);clear c6;(first|rw[hF]|(simp only[dD,dP];rw[hF])|(simp only[PU,aaU,aaT])|skip);replace H:=He.mp H;obtain⟨t156,Ga,H⟩:=H
  try dsimp only at H
  have R6:=Ah Ga;clear Ga;have H':=Ah H;clear H;obtain⟨jj,jk,o8,o9⟩:=b0 dN;obtain⟨jl,jm,oA,oB⟩:=b5 dN
  go_wp2_with (first|((with_reducible refine ap (f:=45) rfl ?_);refine gL (some 14) rfl rfl aa2 (by kernel_rfl) rfl #[.agg #[.slice ag X.length ah,.slice ai J.length af]] rfl ?_;(with_reducible refine(dC.calls k _ _ X _ _ J true _ ?aE ?aG ?aZ ?ab A4.out).mono ?_);(case aE=>exact cb cN HB);(case aG=>exact cR.out);(case aZ=>exact cb cI HB);(case ab=>exact ca.out);rintro e mu ⟨rfl,hb⟩;refine⟨_,rfl, ?_⟩;replace dN:=nb dN hb;replace HB:=Ah (aJ (aM HB i5) hb);(try clear hb);obtain⟨la,lc,o4,o5⟩:=b0 dN;obtain⟨ld,lf,o6,o7⟩:=b5 dN)|(go_at_call 21;(with_reducible refine(jI.calls aI 0 (aD.length:Int) t156 _ R6.out).mono ?_);rintro e w' ⟨rfl,⟨nd,rfl⟩⟩))
  go_meet
  case rel=>exact⟨_,(!t156),e3,H',⟨by first|omega|exact mz _⟩,⟨bk dN⟩,⟨aM HB i5⟩⟩
 case rest=>
  clear nt
  try clear c2
  try clear p2
  try clear c4
  try clear c5
  try clear c6
  try clear hF
  try clear so
  try clear jj jk o8 o9
  try clear la lc o4 o5
  try clear qw qx xW xX
  try clear nD nE xy xz
  try clear pG pH vD yC
  try clear jl jm oA oB
  try clear ld lf o6 o7
  try clear qy qz xY xZ
  try clear nF nG yA yB
  try clear qQ pI vE yD
  obtain⟨kq,Jy,rfl,HA,pt,dN,HB⟩:=hcut
  cases kq with
  |zero=>exact absurd HA.out (by simp[bo.j0])
  |succ nu=>
   have H:=HA.out;clear HA;simp only[bo.j0]at H
   by_cases c16:Jy=true
   ·
    subst c16;rw[if_pos rfl]at H;obtain rfl:=fl H
    go_wp2
    go_ret
    exact⟨er,aM HB i5⟩
   replace c16:=dW.mpr c16;subst c16;rw[if_neg cg]at H;replace H:=He.mp H;obtain⟨⟨t157,a7t⟩,wB,H⟩:=H
   try dsimp only at H
   have pu:=Ah wB;clear wB
   by_cases c18:a7t=true
   rotate_left
   ·
    replace c18:=dW.mpr c18;subst c18;rw[if_neg cg]at H;obtain rfl:=fl H;obtain⟨TT,TU,hcz50_2,hcz50_3⟩:=b0 dN;obtain⟨TV,TW,hfz50_2,hfz50_3⟩:=b5 dN
    go_wp2_with (first|((with_reducible refine ap (f:=27) rfl ?_);refine gL (some 38) rfl rfl abx (by kernel_rfl) rfl #[.slice bP aD.length bQ,.int .i64 (X.length:Int)] rfl ?_;(with_reducible refine(dk.calls nu _ _ aD (X.length:Int) t157 false _ ?aE ?aG pu.out).mono ?_);(case aE=>exact cb dr HB);(case aG=>exact eK.out);rintro e w51 ⟨v159,rfl,ho0,hb⟩;refine⟨_,rfl, ?_⟩;have tm:=Ah (Kd.bD ho0 (bJ (aM HB i5)));replace dN:=nb dN hb;replace HB:=Ah (aJ (aM HB i5) hb);(try clear hb ho0)))
    go_ret
    exact⟨er,aM HB i5⟩
   subst c18;rw[if_pos rfl]at H
   by_cases c19:0≤aI
   rotate_left
   ·
    rw[if_neg c19]at H;exact absurd H (by simp)
   rw[if_pos c19]at H;have Bb:=eq_true c19;have Ee:decide (0≤aI)=true:=decide_eq_true c19;clear c19
   by_cases c20:aI≤(aD.length:Int)
   rotate_left
   ·
    rw[if_neg c20]at H;exact absurd H (by simp)
   rw[if_pos c20]at H;have Nx:=eq_true c20;have VI:decide (aI≤(aD.length:Int))=true:=decide_eq_true c20;clear c20;replace H:=He.mp H;obtain⟨⟨t162,a7u⟩,rn,H⟩:=H
   try dsimp only at H
   have sF:=Ah rn;clear rn;have H':=Ah H;clear H;obtain⟨qC,qD,xH,xI⟩:=b0 dN;obtain⟨qE,qF,xJ,xK⟩:=b5 dN
   try go_wp2_with (first|((with_reducible refine ap (f:=27) rfl ?_);refine gL (some 38) rfl rfl abx (by kernel_rfl) rfl #[.slice bP aD.length bQ,.int .i64 (X.length:Int)] rfl ?_;(with_reducible refine(dk.calls nu _ _ aD (X.length:Int) t157 true _ ?aE ?aG pu.out).mono ?_);(case aE=>exact cb dr HB);(case aG=>exact eK.out);rintro e sG ⟨v159,rfl,ho0,hb⟩;refine⟨_,rfl, ?_⟩;have tm:=Ah (Kd.bD ho0 (bJ (aM HB i5)));replace dN:=nb dN hb;replace HB:=Ah (aJ (aM HB i5) hb);(try clear hb ho0)))
   have aY:=Ah (Kd.aa tm.out);have aX:=Ah (U dN.out);have ae:=Ah (ia HB.out);clear tm dN HB;have tm:=aY;have dN:=aX;have HB:=ae;clear aY aX ae;obtain⟨i025,VJ,_,VK,_⟩:=info_parts ll;obtain⟨hcut25,XO,XP⟩:=Ae (P:=t5) Value.string (⟨#[]⟩:ByteArray) 23 9 .i64 aat VJ VK bP bQ aD aI (od) (od) eK.out;have VL:=Ah (Kd.wj (h1:=fun _=>rfl) (XO _ (Kd.sM dr.out)));have a4t:=Ah XP;clear XO XP VJ VK;refine k9 (n:=15) (S:=fun w'=>w'.cell? ⟨yP,0,none⟩=some (.slice ag X.length ah)∧w'.cell? ⟨yP,1,none⟩=some (.slice ai J.length af)∧w'.cell? ⟨yP,2,none⟩=some (.slice bP aD.length bQ)∧w'.cell? ⟨yP,3,none⟩=some (.int .i64 aI)) (ds:=[]) #[false,false,false,false,false,false,false,false,false,false,false,false,false,false,false] (by kernel_rfl) rfl rfl ⟨(aQ dN.out 0).trans rfl,(aQ dN.out 1).trans rfl,(aQ dN.out 2).trans rfl,(aQ dN.out 3).trans rfl⟩ (fun hHeld=> ?_);refine kS bo.wA bo.vI (fun aU dT=> ?_)
   generalize sG.drew=ks at tm dN HB VL hHeld⊢
   refine b8 0 44 aU.out ?_;refine b8 2 46 aU.out ?_;refine b8 5 49 aU.out ?_;refine b8 6 50 aU.out ?_;refine fZ 1 45 aU.out dT.out hHeld (hr:=by rintro w' ⟨s0,s1,s2,s3⟩;go_simp;with_reducible rfl) (h:= ?_);refine fZ 3 47 aU.out dT.out hHeld (hr:=by rintro w' ⟨s0,s1,s2,s3⟩;go_simp;with_reducible rfl) (h:= ?_);refine b8 4 48 aU.out ?_;refine fZ 7 51 aU.out dT.out hHeld (hr:=by rintro w' ⟨s0,s1,s2,s3⟩;go_simp;with_reducible rfl) (h:= ?_);refine b8 8 52 aU.out ?_;refine e5 (i:=9) (N:=some 53) #[true,true,true,true,true,true,true,true,true,true,false,false,false,false,false] rfl rfl (dz aU.out (by kernel_rfl)) (by decide) (fun K hK=> ?_);refine iw Try.func27 (by kernel_rfl) rfl #[.slice bP (aD.take (aI:Int).toNat).length bQ,.int .i64 (X.length:Int)] (by rfl) rfl rfl (by(try simp only[List.map_toArray,List.map_cons,List.map_nil]);first|done|(rw[show(aD.take (aI:Int).toNat).length=aI.toNat from(by rw[List.length_take];have h_:(aI:Int)≤(aD.length:Int):=od;omega)]<;>rfl)|rfl|(simp only[List.length_drop,List.length_take];rfl)) ?_
   with_reducible refine(dk.calls nu _ _ (aD.take (aI:Int).toNat) (X.length:Int) t162 a7u _ ?aE ?aG sF.out).mono ?_
   (case aE=>exact cb VL HB);(case aG=>exact a4t.out);rintro e R2 ⟨v164,rfl,ho0,hb⟩;refine⟨_,rfl, ?_⟩;have aY:=Ah (Kd.cV (rr tm.out) (Kd.ar ho0) hb);have aX:=Ah (Kd.bD (Kd.av ho0 (Kd.an (rr tm.out))) (bJ (aM HB i5)));have ae:=Ah (bb dN hb);have aq:=Ah (aJ (aM HB i5) hb);clear tm dN HB;have tm:=aY;have a4u:=aX;have dN:=ae;have HB:=aq;clear aY aX ae aq;(try clear hb);(try clear hb2);(try clear hk);(try clear hi);(try clear ho0);refine hK.out _ _ ⟨(aQ dN.out 0).trans rfl,(aQ dN.out 1).trans rfl,(aQ dN.out 2).trans rfl,(aQ dN.out 3).trans rfl⟩ (fun hHeld=> ?_);clear hK K;refine ej (a':= ?_) ?_ ?_;rotate_left
   ·
    show Act.put _ (some 53) _=_
    simp only[Act.put,JM,jG,kt,dD,dP]
    rfl
   refine b8 10 43 aU.out ?_;refine b8 11 54 aU.out ?_;refine b8 12 55 aU.out ?_;refine b8 13 5 aU.out ?_;refine b8 14 6 aU.out ?_;refine jp (k7 aU.out (by kernel_rfl)) ?_;obtain⟨Dg,Dh,MH,MI⟩:=b0 dN;obtain⟨Di,Dj,MJ,MK⟩:=b5 dN
   try go_wp2
   go_loopg [60] nu (fun kq v60 w'=>∃ (iz:Int),v60= .int .i64 iz∧aC (bo.l0 kq t162 J (J.length:Int) iz=some r)∧aC (kq≤nu)∧aC (Kd.R bS 64 w' w.heap.size (fun _=>True) v164 t162)∧aC (w'.heap[yP]?=some (.cells #[(.slice ag X.length ah),(.slice ai J.length af),(.slice bP aD.length bQ),.int .i64 aI] 28 (0,0)))∧aC (Below w.heap.size w w'))
   case atStart=>exact⟨(0),e3,H',⟨mz _⟩,rm a4u (fun _ hk=>trivial),⟨bk dN⟩,⟨aM HB i5⟩⟩
   case round=>
    clear H'
    try clear c1
    try clear c2
    try clear p2
    try clear c4
    try clear c5
    try clear c6
    try clear hF
    try clear so
    try clear c16
    try clear c18
    try clear c19
    try clear Bb
    try clear Ee
    try clear c20
    try clear Nx
    try clear VI
    try clear YQ
    try clear jj jk o8 o9
    try clear la lc o4 o5
    try clear qw qx xW xX
    try clear qC qD xH xI
    try clear Dg Dh MH MI
    try clear nD nE xy xz
    try clear pG pH vD yC
    try clear jl jm oA oB
    try clear ld lf o6 o7
    try clear qy qz xY xZ
    try clear qE qF xJ xK
    try clear Di Dj MJ MK
    try clear nF nG yA yB
    try clear qQ pI vE yD
    try clear p2
    obtain⟨iz,rfl,HA,jE,bH,dN,HB⟩:=hrel
    cases gk with
    |zero=>exact absurd HA.out (by simp[bo.l0])
    |succ k2=>
     have H:=HA.out;clear HA;simp only[bo.l0]at H
     by_cases c28:iz<(J.length:Int)
     rotate_left
     ·
      rw[if_neg c28]at H;have VM:decide (iz<(J.length:Int))=false:=decide_eq_false c28;clear c28;obtain rfl:=fl H
      go_wp2
      go_ret
      exact⟨er,aM HB i5⟩
     rw[if_pos c28]at H;have VM:decide (iz<(J.length:Int))=true:=decide_eq_true c28;clear c28
     by_cases nv:0≤iz
     rotate_left
     ·
      rw[if_neg nv]at H;exact absurd H (by simp)
     rw[if_pos nv]at H;have a4v:decide (0≤iz)=true:=decide_eq_true nv;clear nv
     by_cases t4:iz<(J.length:Int)
     rotate_left
     ·
      rw[if_neg t4]at H;exact absurd H (by simp)
     rw[if_pos t4]at H;have a4w:decide (iz<(J.length:Int))=true:=decide_eq_true t4;clear t4;have H':=Ah H;clear H;have Kg:0≤(iz:Int):=od;have Kh:iz<(J.length:Int):=od;obtain⟨a4x,e166,J2,J3⟩:=g8 cI.out iz Kg Kh
     cases e166
     replace J2:=(HB.out.cell (I1 w _ J2)).trans J2;replace J3:=(HB.out.cell (I1 w _ J3)).trans J3;replace Kg:=eq_true Kg;replace Kh:=eq_true Kh
     go_wp2_with (first|((with_reducible refine ao (N:=8) rfl ?_);(try(refine dM (by rfl) ?_;dsimp only));refine az 8 64 #[.int .i64 0,.string (⟨#[]⟩:ByteArray)] ?_;intro sY hg Hr mX hb;replace bH:=Ah (Kd.eD (Kd.nz (rr bH.out) sY (aaK hg.symm)) hb);have GW167:=gw hg (aM HB i5);have rI:=gw hg (aM HB i5);replace HB:=Ah (aJ (aM HB i5) hb);have LY:=nn dN hg;have Rw:=nm dN hg;replace dN:=nb dN hb;clear hb hg;have VN:=Rw.out;have VO:=LY.out;obtain⟨J4,J5⟩:=bN mX;obtain⟨J6,J7⟩:=bI mX;obtain⟨gM,gN,wC⟩:=Kd.al bH.out;subst wC))
     go_loopg [9,66] k2 (fun kq v9 v66 w'=>∃ (Gb:Bool) (iV:Int),v9= .bool Gb∧v66= .int .i64 iV∧aC (bo.l1 kq t162 Gb J (J.length:Int) iz t162 (t162.length:Int) iV ((aH J iz).f0) ((aH J iz).f1)=some r)∧aC (kq≤k2)∧aC (Kd.R bS 64 w' w.heap.size (fun k_=>k_≠sY) (.slice gM t162.length gN) t162)∧aC (Kd.R bS 64 w' w.heap.size (fun k_=>k_≠sY) (.slice gM t162.length gN) t162)∧aC (w'.heap[yP]?=some (.cells #[(.slice ag X.length ah),(.slice (some a4x) J.length af),(.slice bP aD.length bQ),.int .i64 aI] 28 (0,0)))∧aC (w'.heap[sY]?=some (.cells #[.int .i64 ((aH J iz).f0),.string ((aH J iz).f1)] 64 (0,0)))∧aC (Below w.heap.size w w'))
     case atStart=>exact⟨(false),(0),e3,e3,H',⟨mz _⟩,⟨by(with_reducible repeat(first|apply Kd.aw|apply Kd.ax|apply Kd.aa));exact Kd.aK (Kd.aA (p:=⟨sY,1,none⟩) (Kd.aA (p:=⟨sY,0,none⟩) (Kd.aK bH.out (fun k_ hk=>(⟨hk,hk.2⟩:_∧k_≠sY))) (fun _ hk=>hk.2) (.int .i64 ((aH J iz).f0))) (fun _ hk=>hk.2) (.string ((aH J iz).f1))) (fun _ hk=>hk.1.2)⟩,⟨by(with_reducible repeat(first|apply Kd.aw|apply Kd.ax|apply Kd.aa));exact Kd.aK (Kd.aA (p:=⟨sY,1,none⟩) (Kd.aA (p:=⟨sY,0,none⟩) (Kd.aK bH.out (fun k_ hk=>(⟨hk,hk.2⟩:_∧k_≠sY))) (fun _ hk=>hk.2) (.int .i64 ((aH J iz).f0))) (fun _ hk=>hk.2) (.string ((aH J iz).f1))) (fun _ hk=>hk.1.2)⟩,⟨bf dN LY⟩,⟨by(with_reducible repeat(first|refine a9 ?_ _|refine U ?_|refine Z ?_ _));refine aN (cs:= #[.int .i64 ((aH J iz).f0),.string (⟨#[]⟩:ByteArray)]) ?_ 1 _ rfl;(with_reducible repeat(first|refine a9 ?_ _|refine U ?_|refine Z ?_ _));refine aN (cs:= #[.int .i64 0,.string (⟨#[]⟩:ByteArray)]) ?_ 0 _ rfl;(with_reducible repeat(first|refine a9 ?_ _|refine U ?_|refine Z ?_ _));exact mX.out⟩,⟨aW HB i5 rI⟩⟩
     case round=>
      clear H'
      try clear c1
      try clear p1
      try clear q1
      try clear hx1
      try clear c2
      try clear p2
      try clear c3
      try clear c4
      try clear c5
      try clear c6
      try clear hF
      try clear so
      try clear c16
      try clear p16
      try clear q16
      try clear hx16
      try clear c18
      try clear c19
      try clear Bb
      try clear Ee
      try clear c20
      try clear Nx
      try clear VI
      try clear YQ
      try clear c28
      try clear VM
      try clear nv
      try clear a4v
      try clear t4
      try clear a4w
      try clear c32
      try clear jj jk o8 o9
      try clear la lc o4 o5
      try clear qw qx xW xX
      try clear qC qD xH xI
      try clear Dg Dh MH MI
      try clear J4 J5
      try clear nD nE xy xz
      try clear pG pH vD yC
      try clear jl jm oA oB
      try clear ld lf o6 o7
      try clear qy qz xY xZ
      try clear qE qF xJ xK
      try clear Di Dj MJ MK
      try clear J6 J7
      try clear nF nG yA yB
      try clear qQ pI vE yD
      try clear J2
      try clear J3
      try clear Kg
      try clear p2
      try clear Kh
      obtain⟨Gb,iV,rfl,rfl,HA,Ct,bH,vJ,dN,mX,HB⟩:=hrel
      cases gk with
      |zero=>exact absurd HA.out (by simp[bo.l1])
      |succ k3=>
       have H:=HA.out;clear HA;simp only[bo.l1]at H
       by_cases qf:iV<(t162.length:Int)
       rotate_left
       ·
        rw[if_neg qf]at H;have VP:decide (iV<(t162.length:Int))=false:=decide_eq_false qf;clear qf
        by_cases c49:Gb=true
        rotate_left
        ·
         replace c49:=dW.mpr c49;subst c49;rw[if_neg cg]at H;obtain rfl:=fl H
         go_wp2
         go_ret
         exact⟨er,aW HB i5 rI⟩
        subst c49;rw[if_pos rfl]at H;have H':=Ah H;clear H
        go_wp2
        go_roundg k3
        case measure=>have:=pt.out;have:=jE.out;have:=Ct.out;omega
        case rel=>exact⟨(I0 (iz+1)),e3,H',⟨by have:=pt.out;have:=jE.out;have:=Ct.out;omega⟩,rm bH (fun _ hk=>trivial),⟨bk dN⟩,⟨aW HB i5 rI⟩⟩
       rw[if_pos qf]at H;have VP:decide (iV<(t162.length:Int))=true:=decide_eq_true qf;clear qf
       by_cases mM:0≤iV
       rotate_left
       ·
        rw[if_neg mM]at H;exact absurd H (by simp)
       rw[if_pos mM]at H;have yK:decide (0≤iV)=true:=decide_eq_true mM;clear mM
       by_cases c37:iV<(t162.length:Int)
       rotate_left
       ·
        rw[if_neg c37]at H;exact absurd H (by simp)
       rw[if_pos c37]at H;have c37b0:decide (iV<(t162.length:Int))=true:=decide_eq_true c37;clear c37
       by_cases t0:Gb=true
       ·
        subst t0;rw[if_pos rfl]at H;have H':=Ah H;clear H;have zP:0≤(iV:Int):=od;have zQ:iV<(t162.length:Int):=od;obtain⟨a4y,e168,a1x,a1y⟩:=g8 (Kd.b9 vJ.out).2.2 iV zP zQ
        cases e168
        replace zP:=eq_true zP;replace zQ:=eq_true zQ
        go_wp2_with (first|((with_reducible refine ao (N:=11) rfl ?_);(try(refine dM (by rfl) ?_;dsimp only));refine az 11 64 #[.int .i64 0,.string (⟨#[]⟩:ByteArray)] ?_;intro m7 hg sH Ei hb;replace bH:=Ah (Kd.eD (Kd.nz (rr bH.out) m7 (aaK hg.symm)) hb);replace vJ:=Ah (Kd.eD (Kd.nz (rr vJ.out) m7 (aaK hg.symm)) hb);have a4z:=gw hg (aW HB i5 rI);have Ny:=gw hg (aW HB i5 rI);replace HB:=Ah (aJ (aW HB i5 rI) hb);have DK:=nn dN hg;have LZ:=nm dN hg;replace dN:=nb dN hb;have DL:=nn mX hg;have La:=nm mX hg;replace mX:=nb mX hb;clear hb hg;have Up:=LZ.out;have Uq:=DK.out;have a3C:=La.out;have a3D:=DL.out;obtain⟨Il,Im⟩:=bN Ei;obtain⟨In,Io⟩:=bI Ei))
        go_roundg k3
        case measure=>have:=pt.out;have:=jE.out;have:=Ct.out;omega
        case rel=>exact⟨(true),(I0 (iV+1)),e3,e3,H',⟨by have:=pt.out;have:=jE.out;have:=Ct.out;omega⟩,⟨by(with_reducible repeat(first|apply Kd.aw|apply Kd.ax|apply Kd.aa));exact Kd.aK (Kd.aA (p:=⟨m7,1,none⟩) (Kd.aA (p:=⟨m7,0,none⟩) (Kd.aK bH.out (fun k_ hk=>(⟨hk,hk.2⟩:_∧k_≠m7))) (fun _ hk=>hk.2) (.int .i64 ((aH t162 iV).f0))) (fun _ hk=>hk.2) (.string ((aH t162 iV).f1))) (fun _ hk=>hk.1.1)⟩,⟨by(with_reducible repeat(first|apply Kd.aw|apply Kd.ax|apply Kd.aa));exact Kd.aK (Kd.aA (p:=⟨m7,1,none⟩) (Kd.aA (p:=⟨m7,0,none⟩) (Kd.aK vJ.out (fun k_ hk=>(⟨hk,hk.2⟩:_∧k_≠m7))) (fun _ hk=>hk.2) (.int .i64 ((aH t162 iV).f0))) (fun _ hk=>hk.2) (.string ((aH t162 iV).f1))) (fun _ hk=>hk.1.1)⟩,⟨bf dN DK⟩,⟨bf mX DL⟩,⟨be HB i5 rI Ny⟩⟩
       replace t0:=dW.mpr t0;subst t0;rw[if_neg cg]at H;have H':=Ah H;clear H;have zP:0≤(iV:Int):=od;have zQ:iV<(t162.length:Int):=od;obtain⟨a4y,e168,a1x,a1y⟩:=g8 (Kd.b9 vJ.out).2.2 iV zP zQ
       cases e168
       replace zP:=eq_true zP;replace zQ:=eq_true zQ
       go_wp2_with (first|((with_reducible refine ao (N:=11) rfl ?_);(try(refine dM (by rfl) ?_;dsimp only));refine az 11 64 #[.int .i64 0,.string (⟨#[]⟩:ByteArray)] ?_;intro m7 hg YW Ei hb;replace bH:=Ah (Kd.eD (Kd.nz (rr bH.out) m7 (aaK hg.symm)) hb);replace vJ:=Ah (Kd.eD (Kd.nz (rr vJ.out) m7 (aaK hg.symm)) hb);have a4z:=gw hg (aW HB i5 rI);have Ny:=gw hg (aW HB i5 rI);replace HB:=Ah (aJ (aW HB i5 rI) hb);have DK:=nn dN hg;have LZ:=nm dN hg;replace dN:=nb dN hb;have DL:=nn mX hg;have La:=nm mX hg;replace mX:=nb mX hb;clear hb hg;have hnb44:=LZ.out;have hnc44:=DK.out;have VQ:=La.out;have VR:=DL.out;obtain⟨a1z,a1A⟩:=bN Ei;obtain⟨a1B,a1C⟩:=bI Ei;have Jz:=Rw.out;have K0:=LY.out;obtain⟨TX,TY⟩:=bN mX;obtain⟨TZ,Ta⟩:=bI mX))
       go_roundg k3
       case measure=>have:=pt.out;have:=jE.out;have:=Ct.out;omega
       case rel=>exact⟨((((aH t162 iV).f0)==((aH J iz).f0)&& ((((aH t162 iV).f1).toList)==((aH J iz).f1).toList))),(I0 (iV+1)),e3,e3,H',⟨by have:=pt.out;have:=jE.out;have:=Ct.out;omega⟩,⟨by(with_reducible repeat(first|apply Kd.aw|apply Kd.ax|apply Kd.aa));exact Kd.aK (Kd.aA (p:=⟨m7,1,none⟩) (Kd.aA (p:=⟨m7,0,none⟩) (Kd.aK bH.out (fun k_ hk=>(⟨hk,hk.2⟩:_∧k_≠m7))) (fun _ hk=>hk.2) (.int .i64 ((aH t162 iV).f0))) (fun _ hk=>hk.2) (.string ((aH t162 iV).f1))) (fun _ hk=>hk.1.1)⟩,⟨by(with_reducible repeat(first|apply Kd.aw|apply Kd.ax|apply Kd.aa));exact Kd.aK (Kd.aA (p:=⟨m7,1,none⟩) (Kd.aA (p:=⟨m7,0,none⟩) (Kd.aK vJ.out (fun k_ hk=>(⟨hk,hk.2⟩:_∧k_≠m7))) (fun _ hk=>hk.2) (.int .i64 ((aH t162 iV).f0))) (fun _ hk=>hk.2) (.string ((aH t162 iV).f1))) (fun _ hk=>hk.1.1)⟩,⟨bf dN DK⟩,⟨bf mX DL⟩,⟨be HB i5 rI Ny⟩⟩
def eQ.l0:Nat→List ByteArray→List (S64)→Int→Int→Option (List ByteArray)
 |0,_,_,_,_=>none
 |k+1,x5,gD,iq,dq=>if dq<iq then(if 0≤dq then(if dq<(gD.length:Int)then(if 0≤((aH gD dq).f0)then(if((aH gD dq).f0)<(x5.length:Int)then(eQ.l0 k (x5.set (((aH gD dq).f0):Int).toNat ((aH gD dq).f1)) gD iq (I0 (dq+1)))else(none))else(none))else(none))else(none))else(some x5)
def eQ.f(k:Nat)(l0:List ByteArray)(l1:List (S64)):Option (List ByteArray):=(some (([]:List ByteArray):List ByteArray)).bind fun rq=>(if rq.length+l0.length<8796093022208 then(eQ.l0 k (rq++l0) l1 (l1.length:Int) 0)else(none))
theorem eQ.bg:∀k,(∀y0 y1 y2 y3,a8 (eQ.l0 k y0 y1 y2 y3) (eQ.l0 (k+1) y0 y1 y2 y3))
 |0=>fun _ _ _ _ r h=>by simp[eQ.l0]at h
 |k+1=>by
  have bB:=eQ.bg k
  ·
   intro y0 y1 y2 y3;unfold eQ.l0
   repeat' with_reducible first|exact bB _ _ _ _|exact a8.refl _|exact a8.none _|refine a8.ite ?_ ?_|refine a8.bind ?_ (fun _=> ?_)
theorem eQ.mono:∀a0 a1 k,a8 (eQ.f k a0 a1) (eQ.f (k+1) a0 a1):=by
 intro a0 a1 k;have bB:=eQ.bg k;unfold eQ.f
 repeat' with_reducible first|exact bB _ _ _ _|exact a8.refl _|exact a8.none _|refine a8.ite ?_ ?_|refine a8.bind ?_ (fun _=> ?_)
set_option maxHeartbeats 8000000 in
set_option maxRecDepth 100000 in
theorem eQ.calls(k:Nat)(A0:Option Addr)(c0:Nat)(l0:List ByteArray)(A1:Option Addr)(c1:Nat)(l1:List (S64))(r:List ByteArray)(w:World)(hr0:Kd.C Kd.string w A0 l0.length l0)(hc0:l0.length≤c0)(hr1:Kd.C bS w A1 l1.length l1)(hc1:l1.length≤c1)(h:eQ.f k l0 l1=some r):
 Calls t5 28 #[.slice A0 l0.length c0,.slice A1 l1.length c1] w fun e w'=>∃bh:Value,e= .returned (bh)∧Kd.R Kd.string 9 w' w.heap.size (fun _=>True) bh r∧Below w.heap.size w w':=by
 have hu64:=aah;have d8:=Ah hr0;have gV:=Ah hc0;clear hr0 hc0;have HR1:=Ah hr1;have kr:=Ah hc1;clear hr1 hc1;have HB:=Ah (pv w.heap.size w);have H:((some (([]:List ByteArray):List ByteArray)).bind fun rq=>(if rq.length+l0.length<8796093022208 then(eQ.l0 k (rq++l0) l1 (l1.length:Int) 0)else(none)))=some r:=h;clear h;obtain⟨rq,Ej⟩:∃y_:List ByteArray,y_=(([]:List ByteArray)):=⟨_,rfl⟩
 replace H:(if rq.length+l0.length<8796093022208 then(eQ.l0 k (rq++l0) l1 (l1.length:Int) 0)else(none))=some r:=by first|(rw[Ej];with_reducible exact H)|(have ak:=(Ok _ _).symm.trans H;rw[Ej];with_reducible exact ak)|(have ak:=(Ok _ _).symm.trans H;with_reducible exact ak)|with_reducible exact H|(rw[Ej];exact H)|exact H
 have VS:=Ah Ej;clear Ej
 by_cases c3:rq.length+l0.length<8796093022208
 rotate_left
 ·
  rw[if_neg c3]at H;exact absurd H (by simp)
 rw[if_pos c3]at H;have Gc:=Ah c3;clear c3;obtain⟨XQ,Ek⟩:∃y_:List ByteArray,y_=(rq++l0):=⟨_,rfl⟩
 replace H:(eQ.l0 k XQ l1 (l1.length:Int) 0)=some r:=by first|(rw[Ek];with_reducible exact H)|(have ak:=(Ok _ _).symm.trans H;rw[Ek];with_reducible exact ak)|(have ak:=(Ok _ _).symm.trans H;with_reducible exact ak)|with_reducible exact H|(rw[Ek];exact H)|exact H
 have a4A:=Ah Ek;clear Ek;have H':=Ah H;clear H
 go_enter Try.func28,Try.ntmps28
 go_wp2_with (first|((with_reducible refine ao (N:=8) rfl ?_);refine Kd.oC Kd.string _ 9 ?hg (N:=8) ?hd (xs:=([]:List ByteArray)) (inner:=[]) (ok:=fun _=>True) (okp:=fun _=>True) ?hr ?hp (fun _ hk=>hk) trivial (pv _ _) (mz _) (by simp) ?_;(case hd=>rfl);(case hg=>rfl);(case hr=>first|(go_simp;done)|(go_simp;rfl));(case hp=>exact(bv.none _ _));intro v171 w4 ob hb gf gX;clear gf gX;(first|rw[←VS.out]at ob|(simp only[aaA]at ob;rw[←VS.out]at ob));have VT:=Ah (Kd.bD ob (bJ (bs HB)));replace HB:=Ah (aJ (bs HB) hb);clear hb ob)|((with_reducible refine mO (b:= .append) (xs:= #[.tmp 8,.tmp 9]) rfl ?_);at_builtin;refine Kd.wg Kd.string (w0:=w) w.heap.size rfl (.tmp 8) (.tmp 9) 23 9 (.string ⟨#[]⟩) 16 rfl aat ll rfl (by decide) (by omega) v171 rq l0 _ _ _ (fun _=>True) (fun _=>False) rfl rfl ?aO ?aR (fun _ _ h=>h) (fun _ h=>h.elim) ?aF ?aB ?aS ?aL ?_;(case aR=>exact cb d8 HB);(case aB=>exact(bs HB));(case aF=>exact(fun _ _=>trivial));(case aO=>exact(rr VT.out));(case aS=>exact(bJ (bs HB)));(case aL=>have:=Gc.out;omega);intro XR w6 ho hb hg hat;rw[←a4A.out]at ho;replace HB:=Ah (hb);have a4B:=Ah (ho);clear VT;clear ho hb hg hat))
 go_loopg [13] k (fun kq v13 w'=>∃ (bd:List ByteArray) (bE:Int),v13= .int .i64 bE∧aC (eQ.l0 kq bd l1 (l1.length:Int) bE=some r)∧aC (kq≤k)∧aC (Kd.R Kd.string 9 w' w.heap.size (fun _=>True) XR bd)∧aC (Below w.heap.size w w'))
 case atStart=>exact⟨(XQ),(0),e3,H',⟨mz _⟩,⟨rr a4B.out⟩,⟨bs HB⟩⟩
 case round=>
  clear H'
  try clear c1
  try clear c2
  try clear p2
  try clear c3
  obtain⟨bd,bE,rfl,HA,bY,bH,HB⟩:=hrel
  cases gk with
  |zero=>exact absurd HA.out (by simp[eQ.l0])
  |succ k1=>
   have H:=HA.out;clear HA;simp only[eQ.l0]at H
   by_cases c7:bE<(l1.length:Int)
   rotate_left
   ·
    rw[if_neg c7]at H;have lS:decide (bE<(l1.length:Int))=false:=decide_eq_false c7;clear c7;obtain rfl:=fl H
    go_wp2
    go_ret
    exact⟨_,er,by(with_reducible repeat(first|apply Kd.aw|apply Kd.ax|apply Kd.aa));exact bH.out,bs HB⟩
   rw[if_pos c7]at H;have lS:decide (bE<(l1.length:Int))=true:=decide_eq_true c7;clear c7
   by_cases c8:0≤bE
   rotate_left
   ·
    rw[if_neg c8]at H;exact absurd H (by simp)
   rw[if_pos c8]at H;have ls:decide (0≤bE)=true:=decide_eq_true c8;clear c8
   by_cases c9:bE<(l1.length:Int)
   rotate_left
   ·
    rw[if_neg c9]at H;exact absurd H (by simp)
   rw[if_pos c9]at H;have qU:decide (bE<(l1.length:Int))=true:=decide_eq_true c9;clear c9
   by_cases c10:0≤((aH l1 bE).f0)
   rotate_left
   ·
    rw[if_neg c10]at H;exact absurd H (by simp)
   rw[if_pos c10]at H;have yM:decide (0≤((aH l1 bE).f0))=true:=decide_eq_true c10;clear c10
   by_cases c11:((aH l1 bE).f0)<(bd.length:Int)
   rotate_left
   ·
    rw[if_neg c11]at H;exact absurd H (by simp)
   rw[if_pos c11]at H;have yO:decide (((aH l1 bE).f0)<(bd.length:Int))=true:=decide_eq_true c11;clear c11;obtain⟨PV,El⟩:∃y_:List ByteArray,y_=(bd.set (((aH l1 bE).f0):Int).toNat ((aH l1 bE).f1)):=⟨_,rfl⟩
   replace H:(eQ.l0 k1 PV l1 (l1.length:Int) (I0 (bE+1)))=some r:=by first|(rw[El];with_reducible exact H)|(have ak:=(Ok _ _).symm.trans H;rw[El];with_reducible exact ak)|(have ak:=(Ok _ _).symm.trans H;with_reducible exact ak)|with_reducible exact H|(rw[El];exact H)|exact H
   have a4C:=Ah El;clear El;have H':=Ah H;clear H;have PW:0≤(bE:Int):=od;have PX:bE<(l1.length:Int):=od;obtain⟨ad176,a7v,N2,N3⟩:=g8 HR1.out bE PW PX
   cases a7v
   replace N2:=(HB.out.cell (I1 w _ N2)).trans N2;replace N3:=(HB.out.cell (I1 w _ N3)).trans N3;replace PW:=eq_true PW;replace PX:=eq_true PX
   go_wp2_with (first|((with_reducible refine ao (N:=7) rfl ?_);refine az 7 64 #[.int .i64 0,.string (⟨#[]⟩:ByteArray)] ?_;intro Em hg ly rJ hb;replace bH:=nr bH hb;have GW177:=gw hg (bs HB);have VU:=gw hg (bs HB);replace HB:=Ah (aJ (bs HB) hb);clear hb hg;obtain⟨qw,qx⟩:=bN rJ;obtain⟨qy,qz⟩:=bI rJ)|((with_reducible refine t8 (t:=64) (p:=7) rfl ?_);refine t7 (t:=64) (p:=7) (v:= ?vo_w15) (w1:=((ly.setCell ⟨Em,0,none⟩ (.int .i64 ((aH l1 bE).f0))).setCell ⟨Em,1,none⟩ (.string ((aH l1 bE).f1)))) ?hg ?ho ?hn ?hr ?_;(case ho=>rfl);(case hg=>rfl);(case hn=>rfl);(case hr=>first|(go_simp;done)|(go_simp;rfl));intro jw hw;have aY:aC (Kd.R Kd.string 9 jw w.heap.size (fun _=>True) XR bd):=⟨(by rw[hw];exact(by(with_reducible repeat(first|apply Kd.aw|apply Kd.ax|apply Kd.aa));exact Kd.aK (Kd.aA (p:=⟨Em,1,none⟩) (Kd.aA (p:=⟨Em,0,none⟩) (Kd.b7 bH.out rJ.out (by decide)) (fun _ hk=>hk.2) (.int .i64 ((aH l1 bE).f0))) (fun _ hk=>hk.2) (.string ((aH l1 bE).f1))) (fun _ hk=>trivial)))⟩;have aX:aC (jw.heap[Em]?=some (.cells #[.int .i64 ((aH l1 bE).f0),.string ((aH l1 bE).f1)] 64 (0,0))):=⟨(by rw[hw];exact(by(with_reducible repeat(first|refine a9 ?_ _|refine U ?_|refine Z ?_ _));refine aN (cs:= #[.int .i64 ((aH l1 bE).f0),.string (⟨#[]⟩:ByteArray)]) ?_ 1 _ rfl;(with_reducible repeat(first|refine a9 ?_ _|refine U ?_|refine Z ?_ _));refine aN (cs:= #[.int .i64 0,.string (⟨#[]⟩:ByteArray)]) ?_ 0 _ rfl;(with_reducible repeat(first|refine a9 ?_ _|refine U ?_|refine Z ?_ _));exact rJ.out))⟩;have ae:aC (Below w.heap.size w jw):=⟨(by rw[hw];exact(aM HB VU))⟩;clear hw;clear bH;clear rJ;clear HB;have bH:=aY;have rJ:=aX;have HB:=ae;clear aY aX ae;obtain⟨tU,tV⟩:=bN rJ;obtain⟨tW,tX⟩:=bI rJ;have wY:0≤(((aH l1 bE).f0):Int):=od;have wZ:(((aH l1 bE).f0):Int)<((bd.length:Int):Int):=od;obtain⟨zR,gC,pj,Gd,PY,a7w,Ge⟩:=Kd.JP bH.out (by omega);(first|cases pj|(injection pj with lY AW AX;(first|subst lY|(injection lY with lY;subst lY));subst AX;clear AW));have PZ:=Ah Gd;have a7x:=Ah Ge;clear Gd PY Ge;obtain⟨a2U,a2V⟩:=Kd.uq (⟨#[]⟩:ByteArray) bH.out (((aH l1 bE).f0):Int) wY wZ;replace wY:=eq_true wY;replace wZ:=eq_true wZ;obtain⟨hy17_,hz17_⟩:=Kd.uq (⟨#[]⟩:ByteArray) bH.out (((aH l1 bE).f0):Int) (od) (od);have Pa:=Kd.JQ bH.out (((aH l1 bE).f0):Int) ((aH l1 bE).f1))|((with_reducible refine t8 (t:=9) (p:=22) rfl ?_);refine t7 (t:=9) (p:=22) (v:= ?vo_w18) (w1:=(jw.setCell ⟨zR,(((aH l1 bE).f0):Int).toNat,none⟩ (.string ((aH l1 bE).f1)))) ?hg ?ho ?hn ?hr ?_;(case ho=>rfl);(case hg=>rfl);(case hn=>rfl);(case hr=>first|(go_simp;done)|(go_simp;rfl));intro lz hw;have hg:jw.grownBy lz (some zR):=(by rw[hw];exact Pa.2);have sI:Kd.R Kd.string 9 lz w.heap.size (fun _=>True) (.slice (some ⟨zR,0,none⟩) bd.length gC) PV:=(by rw[hw,a4C.out];exact Pa.1);clear Pa;replace rJ:=Ah (fx (bk rJ) hg (Kd.fM bH.out rJ.out (by decide)));replace bH:=Ah (sI);replace HB:=Ah ((by rw[hw];exact t9 (HB.out) PZ.out:Below w.heap.size w lz));clear hg hw sI))
   go_roundg k1
   case measure=>have:=bY.out;omega
   case rel=>exact⟨(PV),(I0 (bE+1)),e3,H',⟨by have:=bY.out;omega⟩,⟨rr bH.out⟩,⟨aM HB VU⟩⟩
def Ag.f(a0:Int):Option (ByteArray):=if 0≤a0 then(if(a0:Int).toNat≤281474976710656 then(some (strOfNums (aax (a0:Int).toNat 0)))else(none))else(none)
set_option maxHeartbeats 8000000 in
set_option maxRecDepth 100000 in
theorem Ag.calls(a0:Int)(r:ByteArray)(w:World)(h:Ag.f a0=some r):
 Calls t5 66 #[.int .i64 a0] w fun e w'=>e= .returned (.string r)∧Below w.heap.size w w':=by
 have HB:=Ah (pv w.heap.size w);have H:(if 0≤a0 then(if(a0:Int).toNat≤281474976710656 then(some (strOfNums (aax (a0:Int).toNat 0)))else(none))else(none))=some r:=h;clear h
 by_cases c2:0≤a0
 rotate_left
 ·
  rw[if_neg c2]at H;exact absurd H (by simp)
 rw[if_pos c2]at H;have si:=eq_true c2;have vo:decide (0≤a0)=true:=decide_eq_true c2;clear c2
 by_cases c3:(a0:Int).toNat≤281474976710656
 rotate_left
 ·
  rw[if_neg c3]at H;exact absurd H (by simp)
 rw[if_pos c3]at H;have eb:=eq_true c3;have mg:decide ((a0:Int).toNat≤281474976710656)=true:=decide_eq_true c3;clear c3;obtain⟨a7y,En⟩:∃y_:List Int,y_=(aax (a0:Int).toNat 0):=⟨_,rfl⟩
 replace H:(some (strOfNums a7y))=some r:=by first|(rw[En];with_reducible exact H)|(have ak:=(Ok _ _).symm.trans H;rw[En];with_reducible exact ak)|(have ak:=(Ok _ _).symm.trans H;with_reducible exact ak)|with_reducible exact H|(rw[En];exact H)|exact H
 have VV:=Ah En;clear En;obtain rfl:=fl H
 go_enter Try.func66,Try.ntmps66
 go_wp2_with (first|((with_reducible refine ao (N:=4) rfl ?_);refine Kd.UQ (Kd.int .u8) _ 5 rfl (N:=4) rfl 22 _ _ rfl a0 rfl rfl aaD (.int .u8 0) 1 EO rfl (by decide) (by omega) 0 (ok:=fun _=>True) (okp:=fun _=>True) rfl (fun _ hk=>hk) trivial (od) (Nat.le_trans (Nat.mul_le_mul_right _ (od:a0.toNat≤281474976710656)) (by omega)) (pv _ _) (mz _) ?_;intro v180 w4 ob hb gf gX;clear gf gX;(first|rw[←VV.out]at ob|(simp only[aaA]at ob;rw[←VV.out]at ob));have a4D:=Ah (Kd.bD ob (bJ (bs HB)));replace HB:=Ah (aJ (bs HB) hb);clear hb ob;have hcv6:=Aj (P:=t5) aaD abd abe (Kd.tL a4D.out)))
 go_ret
 exact⟨er,bs HB⟩
end Go.Proofs.Ytfdpdocbpcnkaaa.G
