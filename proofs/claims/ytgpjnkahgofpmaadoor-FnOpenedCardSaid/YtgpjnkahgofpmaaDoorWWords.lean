-- Pruned and joined by a program of this session (prune.py) out of the kit's print for this seat: what is not used is left out. Not trusted: Lean checks it.
import Derived.Below
import Derived.Deep.Draws
import Derived.Deep.AppendLies
import Derived.Maps.AppendAt
import Derived.OwnWalk
import Derived.Laws.BytesArg
import Derived.Laws.MakeOwn
import Derived.Laws.OwnMore
import Derived.Deep.OwnRows
import Derived.Tactics
import Derived.Lib.ConvBytes
import Derived.Laws.Slices
import Derived.WalkKit
import Derived.KernelRfl
import Derived.RowKit3
import Derived.Deep.LoopGhost
import Derived.Deep.QuietTactic
import Derived.BigQuiet
import Derived.WideLaws
import Derived.Deep.DeepCutAuto
import Derived.Deep.CutBlock
import Derived.Deep.RegionHeld3
import Derived.Laws.Rows
import Derived.Lib.AppendStr
import Derived.ArgAppend
import Derived.Laws.IdiomCopy
import Derived.RowKit
import Derived.OrdersHeld
import Derived.Laws.BitsLemmas
import Derived.Laws.StructEq
open Array renaming getElem?_eq_some_iff→aa2,length_toList→abA,getElem?_eq_none→ab0,getElem?_toList→ab7
open Bool renaming and_eq_true→aaB,or_eq_true→abT
open Go.Addr renaming add→ro
open Go.Builtin renaming max2→abx,min2→aby,firstCells→abU,max_→abV,min_→abW
open Go.Op renaming eqFields→ab1
open Go.Oper renaming wp→aaO
open Go.Region renaming wanted→aao,ready→aaJ,Mode→aaQ,binds→aaZ
open Go.Result renaming andThen_ok→aa3
open Go.RowKit.Below renaming refl→aag,heap_setCell→aa1
open Go.Value renaming ownBlock→aas,slice→aa6
open Go.World renaming block_lt_of_cell?→Fe,cell?→aav,frozen?→aax,setCell→abd,grownBy_alloc→abB
open List renaming length_take→ca,length_drop→fF,map_toArray→fT,map_cons→gJ,map_nil→j5,getElem?_eq_getElem→aak,getD_eq_getElem?_getD→aam,length_set→aar,length_append→aau,getElem?_take→aaz,replicate→aaA,getElem?_drop→aaC,getElem?_eq_some_iff→aaE,getElem?_append_left→aaW,getElem?_eq_none→aaX,length_singleton→aa4,ext_getElem?→abi,getElem?_append_right→abq,take_succ_eq_append_getElem→abw,foldlM_cons→abz,mem_cons_self→abE,mem_singleton→abF,foldlM_nil→abH,eq_nil_of_length_eq_zero→abL,take_append_of_le_length→abM,mem_cons_of_mem→abP,range→abX,length_cons→ab5,all_eq_true→ab6
open Nat renaming lt_of_lt_of_le→WR,le_refl→kV,mul_le_mul_right→aap,le_trans→aaI,mul_one→aaL,succ_mul→aaR,min_eq_left→aaT,zero_add→abh,le_mul_of_pos_right→abC,eq_zero_or_pos→abD,lt_or_ge→abN,add_mul→abZ
open Option renaming bind_eq_some_iff→Ok,map_eq_some_iff→aaN
open Option.some renaming inj→qE,injEq→aaa
open Prod.mk renaming injEq→aad
section
set_option linter.unusedVariables false
set_option linter.unusedSimpArgs false
namespace Go.Proofs.YtgpjnkahgofpmaaDoorW.PrintWords
open Go.RowKit
structure Z(p:Prop):Prop where mk::(out:p)
structure fQ(w w':World):Prop where mk::(out:∃n,w'=w.drewN n)
theorem fQ.refl(w:World):fQ w w:=⟨⟨0,rfl⟩⟩
theorem fQ.step {w w':World}(h:fQ w w')(n:Nat):fQ w (w'.drewN n):=by
 obtain⟨m,rfl⟩:=h;exact⟨⟨m+n,World.drewN_drewN ..⟩⟩
theorem fQ.grown {w w':World}(h:fQ w w'):Grown w w':=by
 obtain⟨n,rfl⟩:=h
 induction n with
 |zero=>exact Grown.refl _
 |succ n ih=>rw[←World.drew_drewN];exact Grown.drew ih
theorem fQ.below {w w':World}(h:fQ w w'):Below w.heap.size w w':=by
 obtain⟨n,rfl⟩:=h
 induction n with
 |zero=>exact aag _ _
 |succ n ih=>rw[←World.drew_drewN];exact ih.drew
def rd(xs:List Int)(i:Int):Int:=xs.getD i.toNat 0
def bt(s:ByteArray)(i:Int):Int:=if h:i.toNat<s.size then((s[i.toNat]'h).toNat:Int)else 0
theorem a2l(s:ByteArray)(i:Int):∀h:i.toNat<s.size,((s[i.toNat]'h).toNat:Int)=bt s i:=fun h=>by simp[bt,h]
theorem bt_range(s:ByteArray)(i:Int):0≤bt s i∧bt s i≤255:=by
 unfold bt
 split
 ·rename_i h
  have:=(s[i.toNat]'h).toNat_lt
  omega
 ·omega
def nQ(k:IntKind)(xs:List Int):List Value:=xs.map fun x=> .int k x
def bools(xs:List Bool):List Value:=xs.map fun x=> .bool x
theorem Wn(k:IntKind)(xs ys:List Int):nQ k (xs++ys)=nQ k xs++nQ k ys:=by simp[nQ]
theorem dH {w W:World}(h:Below w.heap.size w W)(o:Obj):Below w.heap.size w (W.alloc o):=h.alloc h.size o
theorem zG {B:Nat}{w W:World}(h:Below B w W):Below B w W.drew:=⟨h.os,h.tape,h.output,h.size,h.block⟩
theorem dZ {B:Nat}{w W:World}(h:Below B w W)(n:Nat):Below B w (W.drewN n):=⟨h.os,h.tape,h.output,h.size,h.block⟩
theorem Wt {B:Nat}{w w1 w2:World}(h:Below B w w1)(hB:B≤w1.heap.size)(k:Below w1.heap.size w1 w2):Below B w w2:=
 h.trans ⟨k.os,k.tape,k.output,k.size,fun i hi=>k.block i (WR hi hB)⟩
theorem NZ {w w1:World}(h:Below w.heap.size w w1)(row:Option Nat):w.grownBy w1 row:=⟨h.os,h.tape,h.output,h.size,fun i hi _=>h.block i hi⟩
theorem BI {w w1:World}(h:Below w.heap.size w w1){a:Addr}{v:Value}(hc:w.cell? a=some v):w1.cell? a=some v:=(h.cell (Fe w a hc)).trans hc
theorem j6(g j:Nat):(⟨g,0,none⟩:Addr).add j=⟨g,j,none⟩:=by unfold ro;split<;>simp_all
def lK(w:World)(k:IntKind)(A:Option Addr)(n:Nat)(xs:List Int):Prop:=
 xs.length=n∧n≤9223372036854775807∧(0<n→∃ad,A=some ad∧∀j,j<n→w.cell? (ad.add j)=some (.int k (xs.getD j 0)))
theorem lK.at_ {w:World}{k:IntKind}{A:Option Addr}{n:Nat}{xs:List Int}(h:lK w k A n xs)(i:Int)(h0:0≤i)(h1:i<n):∃ad,A=some ad∧w.cell? (ad.add i.toNat)=some (.int k (rd xs i)):=by
 obtain⟨ad,e,hc⟩:=h.2.2 (by omega);exact⟨ad,e,hc _ (by omega)⟩
theorem lK.below {w w1:World}{k:IntKind}{A:Option Addr}{n:Nat}{xs:List Int}(h:lK w k A n xs)(hb:Below w.heap.size w w1):lK w1 k A n xs:=
 ⟨h.1,h.2.1,fun hn=>by
   obtain⟨ad,e,hc⟩:=h.2.2 hn
   exact⟨ad,e,fun j hj=>BI hb (hc j hj)⟩⟩
theorem YX(W:World)(base:Nat)(e:TypeId)(size:Nat):W.ownsRow base e size (.slice none 0 0) 0 []:=⟨by simp,.inl ⟨rfl,rfl⟩⟩
theorem ws {w:World}{base:Nat}{e:TypeId}{size n:Nat}{v:Value}{xs:List Value}(h:w.ownsRow base e size v n xs)(k:Nat)(hk:v.ownBlock=some k):base≤k:=by
 rcases h.2 with⟨rfl,_⟩|⟨g,cap,cur,rfl,hb,_⟩
 ·simp[aas]at hk
 ·have:g=k:=by simpa[aas]using hk
  omega
theorem Qf {w:World}{base:Nat}{e:TypeId}{size n:Nat}{v:Value}{xs:List Value}(h:w.ownsRow base e size v n xs)(k:Nat)(hk:v.ownBlock=some k):k<w.heap.size:=by
 rcases h.2 with⟨rfl,_⟩|⟨g,cap,cur,rfl,hb,hh,_⟩
 ·simp[aas]at hk
 ·have:g=k:=by simpa[aas]using hk
  subst this;exact(aa2.1 hh).1
theorem Wj {w w1:World}{base:Nat}{e:TypeId}{size n:Nat}{v:Value}{xs:List Value}(h:w.ownsRow base e size v n xs)(hb:Below w.heap.size w w1):w1.ownsRow base e size v n xs:=
 h.kept (NZ hb none) (by cases v.ownBlock<;>simp)
theorem XC {w w1:World}{base:Nat}{e:TypeId}{size n:Nat}{v:Value}{xs:List Value}(h:w.ownsRow base e size v n xs){row:Option Nat}(hg:w.grownBy w1 row)(hne:v.ownBlock=none∨v.ownBlock≠row):w1.ownsRow base e size v n xs:=h.kept hg hne
theorem XD {w:World}{base n:Nat}{e:TypeId}{size:Nat}{v:Value}{xs:List Value}(h:w.ownsRow base e size v n xs):∃A c,v= .slice A n c:=by
 rcases h.2 with⟨rfl,rfl⟩|⟨g,cap,cur,rfl,_⟩
 ·exact⟨none,0,rfl⟩
 ·exact⟨_,cap,rfl⟩
theorem BL {P:Program}{w:World}{base n:Nat}{e' src dst e:TypeId}{v:Value}{xs:List Int}(hs:P.underlying src=some (.slice e))(he:P.underlying e=some (.int .u8))(hd:P.underlying dst=some .string)
 (h:w.ownsRow base e' 1 v n (nQ .u8 xs)):(convert src dst v).run P w= .ok (.string (strOfNums xs)) w:=by
 have hl:xs.length=n:=by have:=h.1;simp[nQ]at this;exact this
 rcases h.2 with⟨rfl,rfl⟩|⟨g,cap,cur,rfl,_⟩
 ·obtain rfl:xs=[]:=abL hl
  exact run_convert_bytes_nil w src e hs he 0 0 dst hd
 ·refine run_convert_bytes_arg w src e hs he g 0 n cap xs hl (fun i hi=> ?_) dst hd
  have hc:=h.cells (g:=g) rfl i (.int .u8 (xs.getD i 0)) (by simp[nQ,aak (show i<xs.length by omega),aam])
  have ha:(⟨g,0,none⟩:Addr).add i=⟨g,0+i,none⟩:=by unfold ro;split<;>simp_all
  rwa [ha]at hc
section
variable {P : Program} {ops : Array Oper} {rest : List Oper} {o : Oper} {a : Act} {Q : Exit → Act → World → Prop}
end
section
variable {P : Program}
end
section
variable {P : Program} {ops : Array Oper} {rest : List Oper} {o : Oper} {a : Act} {Q : Exit → Act → World → Prop}
end
def gY(s:ByteArray):List Int:=s.data.toList.map fun b=>(b.toNat:Int)
theorem IR(s:ByteArray):s.data.toList.length=s.size:=by rw[Array.length_toList];rfl
theorem u6(s:ByteArray):(gY s).length=s.size:=by rw[gY,List.length_map,IR]
theorem Wu(s:ByteArray)(i:Int):rd (gY s) i=bt s i:=by
 unfold rd bt gY
 split
 ·rename_i h
  have h':i.toNat<s.data.toList.length:=by rw[IR];exact h
  simp[aam,aak h']
  rfl
 ·rename_i h
  have h':s.data.toList.length≤i.toNat:=by rw[IR];omega
  simp[aam,aaX h']
theorem lK.Ge {w:World}{k:IntKind}{A:Option Addr}{n:Nat}{xs:List Int}(h:lK w k A n xs)(i:Nat)(hi:i≤n):lK w k A i (xs.take i):=by
 refine⟨by rw[ca,h.1];omega,by have:=h.2.1;omega,fun hp=> ?_⟩;obtain⟨ad,e,hc⟩:=h.2.2 (by omega);refine⟨ad,e,fun j hj=> ?_⟩;rw[hc j (by omega)]
 simp[aam,hj]
def aJ {α:Type}(a b:Option α):Prop:=∀r,a=some r→b=some r
theorem aJ.refl {α:Type}(a:Option α):aJ a a:=fun _ h=>h
theorem aJ.none {α:Type}(b:Option α):aJ Option.none b:=fun _ h=>by cases h
theorem aJ.trans {α:Type}{a b c:Option α}(h:aJ a b)(k:aJ b c):aJ a c:=fun r hr=>k r (h r hr)
theorem aJ.ite {α:Type}{c:Prop}[Decidable c]{a a' b b':Option α}(h:aJ a a')(k:aJ b b'):aJ (if c then a else b) (if c then a' else b'):=by
 split
 ·exact h
 ·exact k
theorem aJ.bind {α β:Type}{a a':Option α}{f f':α→Option β}(h:aJ a a')(k:∀x,aJ (f x) (f' x)):aJ (a.bind f) (a'.bind f'):=by
 intro r hr;obtain⟨x,hx,hf⟩:=Ok.1 hr;exact Ok.2 ⟨x,h x hx,k x r hf⟩
theorem aJ.map {α β:Type}{a a':Option α}(f:α→β)(h:aJ a a'):aJ (a.map f) (a'.map f):=by
 intro r hr;obtain⟨x,hx,hf⟩:=aaN.1 hr;exact aaN.2 ⟨x,h x hx,hf⟩
theorem Nn {α:Type}{g:Nat→Option α}(h:∀k,aJ (g k) (g (k+1)))(k:Nat):∀j,aJ (g k) (g (k+j))
 |0=>aJ.refl _
 |j+1=>(Nn h k j).trans (h (k+j))
theorem IX {α:Type}{g:Nat→Option α}(h:∀k,aJ (g k) (g (k+1))){k k':Nat}(hk:k≤k'){r:α}(hr:g k=some r):g k'=some r:=by
 have:=Nn h k (k'-k) r hr
 rwa [Nat.add_sub_cancel' hk]at this
theorem together {α β:Type}{g:Nat→Option α}{f:Nat→Option β}(hg:∀k,aJ (g k) (g (k+1)))(hf:∀k,aJ (f k) (f (k+1))){r:α}{q:β}(h:∃k,g k=some r)(h':∃k,f k=some q):∃k,g k=some r∧f k=some q:=by
 obtain⟨k,hk⟩:=h;obtain⟨k',hk'⟩:=h';exact⟨max k k',IX hg (Nat.le_max_left _ _) hk,IX hf (Nat.le_max_right _ _) hk'⟩
def cR {α:Type}(R:α→List Value→Prop)(size:Nat)(ps:List α)(cs:List Value):Prop:=
 cs.length=ps.length*size∧∀j p,ps[j]?=some p→R p ((cs.drop (j*size)).take size)
theorem cR.none {α:Type}(R:α→List Value→Prop)(size:Nat):cR R size [] []:=⟨by simp,fun j p h=>by simp at h⟩
theorem cR.snoc {α:Type}{R:α→List Value→Prop}{size:Nat}{ps:List α}{cs c:List Value}{p:α}(h:cR R size ps cs)(hp:R p c)(hc:c.length=size):cR R size (ps++[p]) (cs++c):=by
 refine⟨by rw[aau,h.1,hc,aau,aa4,abZ,Nat.one_mul],fun j q hq=> ?_⟩
 rcases abN j ps.length with hj|hj
 ·rw[aaW hj]at hq
  have h1:j*size+size≤cs.length:=by rw[h.1,←aaR];exact aap _ hj
  have h2:=h.2 j q hq;rw[List.drop_append_of_le_length (by omega),abM (by rw[fF];omega)];exact h2
 ·have hj':j=ps.length:=by
   have:=(aaE.1 hq).1;rw[aau,aa4]at this
   omega
  subst hj'
  have hq':p=q:=by simpa using hq
  subst hq';rw[←h.1,List.drop_left,←hc,List.take_length];exact hp
theorem cR.jP {α:Type}{R R':α→List Value→Prop}{size:Nat}{ps:List α}{cs:List Value}(h:cR R size ps cs)(hR:∀p c,R p c→R' p c):cR R' size ps cs:=⟨h.1,fun j p hj=>hR _ _ (h.2 j p hj)⟩
def kY {α:Type}(R:α→List Value→Prop)(size:Nat)(w:World)(A:Option Addr)(n:Nat)(ps:List α):Prop:=
 ps.length=n∧n≤9223372036854775807∧(0<n→∃ad,A=some ad∧∀j p,ps[j]?=some p→∃c,c.length=size∧R p c∧∀i u,c[i]?=some u→w.cell? (ad.add (j*size+i))=some u)
theorem kY.a4Z {α:Type}{R:α→List Value→Prop}{size:Nat}{w:World}{A:Option Addr}{n:Nat}{ps:List α}(h:kY R size w A n ps)(d:α)(i:Int)(h0:0≤i)(h1:i<n):
 ∃ad c,A=some ad∧c.length=size∧R (ps.getD i.toNat d) c∧∀j u,c[j]?=some u→w.cell? (ad.add (i.toNat*size+j))=some u:=by
 obtain⟨ad,e,hc⟩:=h.2.2 (by omega)
 have hl:i.toNat<ps.length:=by have:=h.1;omega
 obtain⟨c,hs,hr,hcell⟩:=hc i.toNat _ (aak hl);refine⟨ad,c,e,hs, ?_,hcell⟩;rw[aam,aak hl];exact hr
theorem kY.jP {α:Type}{R R':α→List Value→Prop}{size:Nat}{w w1:World}{A:Option Addr}{n:Nat}{ps:List α}(h:kY R size w A n ps)(hb:Below w.heap.size w w1)(hR:∀p c,R p c→R' p c):kY R' size w1 A n ps:=
 ⟨h.1,h.2.1,fun hn=>by
   obtain⟨ad,e,hc⟩:=h.2.2 hn;refine⟨ad,e,fun j p hj=> ?_⟩;obtain⟨c,hs,hr,hcell⟩:=hc j p hj
   exact⟨c,hs,hR _ _ hr,fun i u hu=>BI hb (hcell i u hu)⟩⟩
theorem Wc {α:Type}{R:α→List Value→Prop}{w:World}{base n size:Nat}{e:TypeId}{v:Value}{ps:List α}{cs:List Value}(h:w.ownsRow base e size v n cs)(hR:cR R size ps cs)(hn:ps.length=n):
 ∃A c,v= .slice A n c∧kY R size w A n ps:=by
 rcases abD n with h0|h0
 ·rcases h.2 with⟨rfl,rfl⟩|⟨g,cap,cur,rfl,_⟩
  ·exact⟨none,0,rfl,hn,by omega,fun hp=>absurd hp (by omega)⟩
  ·exact⟨_,cap,rfl,hn,by omega,fun hp=>absurd hp (by omega)⟩
 ·obtain⟨g,cap,rfl,_,_⟩:=h.form h0
  have hm:n≤9223372036854775807:=by
   rcases h.2 with⟨_,h1⟩|⟨g',cap',cur,he,_,_,h1,h2,_⟩
   ·omega
   ·simp only[maxLen]at h2
    omega
  refine⟨_,cap,rfl,hn,hm,fun _=>⟨_,rfl,fun j p hj=>⟨(cs.drop (j*size)).take size, ?_,hR.2 j p hj,fun i u hu=> ?_⟩⟩⟩
  ·have hjl:=(aaE.1 hj).1
   have h1:j*size+size≤cs.length:=by rw[hR.1,←aaR];exact aap _ hjl
   rw[ca,fF]
   omega
  ·refine h.cells (g:=g) rfl _ u ?_
   rw[aaz]at hu
   split at hu
   ·rw[aaC]at hu
    exact hu
   ·cases hu
theorem IY(ad:Addr)(m j:Nat)(hj:0<j):ad.add (m+j)=⟨(ad.add m).block,(ad.add m).off+j,none⟩:=by
 unfold ro
 by_cases hm:m=0
 ·subst hm
  simp[Nat.ne_of_gt hj]
 ·simp[hm,Nat.add_assoc]
section
variable {P : Program} {ops : Array Oper} {rest : List Oper} {o : Oper} {a : Act} {Q : Exit → Act → World → Prop}
theorem WS {w0 W:World}(base:Nat)(hgd:o.guard=none)(s x:Operand)(t e:TypeId)(z:Value)(size bytes:Nat)
 (ho:o.op= .call {callee:= .builtin .append,args:= #[s,x],argTypes:= #[t,t]})
 (ht:P.underlying t=some (.slice e))(hinfo:(P.info? e).map (fun i=>(i.zero,i.size,i.bytes))=some (some z,size,bytes))(hz:z.cells.size=size)(hs0:0<size)(hb0:0<bytes)
 (v:Value)(n:Nat)(xs ys:List Value)(hs:a.eval s=v)(hx:a.eval x= .slice (some ⟨W.heap.size,0,none⟩) 1 1)(hys:ys.length=size)(h1:∀u∈ys,u.oneCell'=true)
 (HO:W.ownsRow base e size v n xs)(HB:Below base w0 W)(hbase:base≤W.heap.size)(hl:(n+1)*bytes≤140737488355328)
 (h:∀v1 w1,w1.ownsRow base e size v1 (n+1) (xs++ys)→Below base w0 w1→W.grownBy w1 v.ownBlock→(v1.ownBlock=v.ownBlock∨∃b,v1.ownBlock=some b∧W.heap.size≤b)→wpList P ops Q rest (a.put o.dst v1) w1):
 wpList P ops Q (o::rest) a (W.alloc (.cells ys.toArray e)):=by
 obtain⟨i0,hi,hzz⟩:=aaN.1 hinfo;simp only[aad]at hzz;obtain⟨hz0,hz1,hz2⟩:=hzz;have hlen:n+1≤140737488355328:=aaI (abC _ hb0) hl
 refine wpList_append_own_at (W.alloc (.cells ys.toArray e)) hgd s x t ho base e i0 z size bytes ht hi hz0 hz1 hz2 hz hs0 v n xs hs (HO.alloc _) ⟨W.heap.size,0,none⟩ 1 1 ys hx (by rw[hys];simp)
  (by simpa using World.news_of_block (cs:=ys.toArray) (t:=e) (fr:=(0,0)) (heap_alloc_new W (.cells ys.toArray e))) h1 (by simp only[maxLen];omega) hl (by simp;omega) ?_
 intro v1 w1 hown hg _ hat;refine h v1 w1 hown ((HB.alloc hbase _).grown hg (by simp;omega) (ws HO)) (World.grownBy.trans (abB W _ _) hg) ?_
 rcases hat with hat|hat
 ·exact .inl hat
 ·exact .inr ⟨_,hat,by simp⟩
end
theorem own_ne {w:World}{base:Nat}{e t:TypeId}{size n g:Nat}{v:Value}{xs:List Value}{cs:Array Value}(h:w.ownsRow base e size v n xs)(hg:w.heap[g]?=some (.cells cs t (0,0)))(hne:e≠t):some g≠v.ownBlock:=by
 rcases h.2 with⟨rfl,_⟩|⟨g',cap,cur,rfl,_,hh,_⟩
 ·simp[aas]
 ·intro he
  have:g=g':=by simpa[aas]using he
  subst this;rw[hg]at hh
  injection hh with hh
  injection hh with _ ht
  exact hne ht.symm
theorem Wo {w:World}{base:Nat}{e:TypeId}{size n:Nat}{v:Value}{xs:List Value}(h:w.ownsRow base e size v n xs){p:Addr}(hne:some p.block≠v.ownBlock)(u:Value):(w.setCell p u).ownsRow base e size v n xs:=by
 obtain⟨h1,h2⟩:=h;refine⟨h1, ?_⟩
 rcases h2 with h2|⟨g,cap,cur,rfl,hg,hh,r⟩
 ·exact .inl h2
 ·exact .inr ⟨g,cap,cur,rfl,hg,by rw[aa1 _ _ _ _ (fun e=>hne (by rw[e];rfl))];exact hh,r⟩
theorem G7 {w:World}{g:Nat}{t:TypeId}{cs:Array Value}(h:w.heap[g]?=some (.cells cs t (0,0)))(i:Nat)(u:Value):(w.setCell ⟨g,i,none⟩ u).heap[g]?=some (.cells (cs.setIfInBounds i u) t (0,0)):=by
 simp[abd,Array.getElem?_modify,h]
theorem ce {w:World}{g:Nat}{t:TypeId}{cs:Array Value}(h:w.heap[g]?=some (.cells cs t (0,0))){p:Addr}(hp:g≠p.block)(u:Value):(w.setCell p u).heap[g]?=some (.cells cs t (0,0)):=(aa1 w p u g hp).trans h
theorem j7 {w:World}{g:Nat}{o:Obj}(h:w.heap[g]?=some o):g<w.heap.size:=(aa2.1 h).1
theorem Y {w:World}{g:Nat}{t:TypeId}{cs:Array Value}(h:w.heap[g]?=some (.cells cs t (0,0)))(i:Nat):w.cell? ⟨g,i,none⟩=cs[i]?:=cell_of_row w g i cs t (0,0) h
theorem dD {w:World}{g:Nat}{t:TypeId}{cs:Array Value}(h:w.heap[g]?=some (.cells cs t (0,0)))(i:Nat):w.frozen? ⟨g,i,none⟩=false:=by simp[World.frozen?,h]
theorem ic {w w1:World}{g:Nat}{o:Obj}{row:Option Nat}(h:w.heap[g]?=some o)(hg:w.grownBy w1 row)(hne:some g≠row):w1.heap[g]?=some o:=(hg.block g (j7 h) hne).trans h
theorem blk_ne {w:World}{g g':Nat}{t t':TypeId}{cs cs':Array Value}(h:w.heap[g]?=some (.cells cs t (0,0)))(h':w.heap[g']?=some (.cells cs' t' (0,0)))(hne:t≠t'):g≠g':=by
 rintro rfl;rw[h]at h'
 injection h' with h'
 injection h' with _ ht
 exact hne ht
def az(w w':World)(g:Nat)(row:Option Nat):Prop:=w.heap.size≤w'.heap.size∧∀i,i<w.heap.size→i≠g→some i≠row→w'.heap[i]?=w.heap[i]?
theorem az.refl(w:World)(g:Nat)(row:Option Nat):az w w g row:=⟨kV _,fun _ _ _ _=>rfl⟩
theorem az.J1 {w w1:World}{row:Option Nat}(h:w.grownBy w1 row)(g:Nat):az w w1 g row:=⟨h.size,fun i hi _ hr=>h.block i hi hr⟩
theorem az.of_below {w w1:World}(h:Below w.heap.size w w1)(g:Nat)(row:Option Nat):az w w1 g row:=⟨h.size,fun i hi _ _=>h.block i hi⟩
theorem az.Df {w w1:World}{g:Nat}{row:Option Nat}(h:az w w1 g row)(j:Nat)(u:Value):az w (w1.setCell ⟨g,j,none⟩ u) g row:=
 ⟨by simpa[abd]using h.1,fun i hi hg hr=>(aa1 w1 ⟨g,j,none⟩ u i hg).trans (h.2 i hi hg hr)⟩
theorem az.trans {w w1 w2:World}{g:Nat}{row Le:Option Nat}(h:az w w1 g row)(k:az w1 w2 g Le)(hr:Le=row∨∃b,Le=some b∧w.heap.size≤b):az w w2 g row:=
 ⟨aaI h.1 k.1,fun i hi hg hn=>by
   refine(k.2 i (WR hi h.1) hg ?_).trans (h.2 i hi hg hn)
   rcases hr with rfl|⟨b,rfl,hb⟩
   ·exact hn
   ·intro e
    injection e with e
    omega⟩
theorem az.blk {w w1:World}{g g':Nat}{row:Option Nat}{o:Obj}(h:az w w1 g row)(hb:w.heap[g']?=some o)(hg:g'≠g)(hr:some g'≠row):w1.heap[g']?=some o:=(h.2 g' (j7 hb) hg hr).trans hb
theorem az.own {w w1:World}{g:Nat}{row:Option Nat}{base:Nat}{e:TypeId}{size n:Nat}{v:Value}{xs:List Value}(h:az w w1 g row)(ho:w.ownsRow base e size v n xs)(hg:v.ownBlock≠some g)(hr:v.ownBlock=none∨v.ownBlock≠row):w1.ownsRow base e size v n xs:=by
 obtain⟨h1,h2⟩:=ho;refine⟨h1, ?_⟩
 rcases h2 with h2|⟨b,cap,cur,rfl,hb,hh,r⟩
 ·exact .inl h2
 ·refine .inr ⟨b,cap,cur,rfl,hb,h.blk hh ?_ ?_,r⟩
  ·intro e
   exact hg (by rw[←e];rfl)
  ·rcases hr with hr|hr
   ·simp[aas]at hr
   ·exact hr
def Ev {α:Type}(g:Nat→Option α)(r:α):Prop:=∃K,∀k,K≤k→g k=some r
theorem Ev.of {α:Type}{g:Nat→Option α}{r:α}(hg:∀k,aJ (g k) (g (k+1))){k:Nat}(h:g k=some r):Ev g r:=⟨k,fun _ hk=>IX hg hk h⟩
theorem Ev.now {α:Type}(r:α):Ev (fun _=>some r) r:=⟨0,fun _ _=>rfl⟩
theorem Ev.rounds {α:Type}{g:Nat→Option α}{r:α}(h:Ev g r):∃k,g k=some r:=by
 obtain⟨K,h⟩:=h;exact⟨K,h K (kV _)⟩
theorem Ev.bind {α β:Type}{g:Nat→Option α}{f:Nat→α→Option β}{a:α}{r:β}(h:Ev g a)(k:Ev (fun n=>f n a) r):Ev (fun n=>(g n).bind (f n)) r:=by
 obtain⟨K,h⟩:=h;obtain⟨K',k⟩:=k;refine⟨max K K',fun n hn=> ?_⟩;have h1:=h n (by omega);have h2:=k n (by omega);simp only[h1,Option.bind_some];exact h2
theorem Ev.step {α:Type}{g f:Nat→Option α}{r:α}(h:∀k,g (k+1)=f k)(k:Ev f r):Ev g r:=by
 obtain⟨K,k⟩:=k;refine⟨K+1,fun n hn=> ?_⟩;obtain⟨m,rfl⟩:∃m,n=m+1:=⟨n-1,by omega⟩;rw[h];exact k m (by omega)
theorem Ev.congr {α:Type}{g f:Nat→Option α}{r:α}(h:∀k,g k=f k)(k:Ev f r):Ev g r:=by
 obtain⟨K,k⟩:=k;exact⟨K,fun n hn=>(h n).trans (k n hn)⟩
section
variable {P : Program} {ops : Array Oper} {o : Oper} {a : Act} {Q : Exit → Act → World → Prop} {K : Act → World → Prop}
theorem WT {w0 W:World}(base:Nat)(hw:aao o (yielded ops a.tmps)=true)(s x:Operand)(t e:TypeId)(z:Value)(size bytes:Nat)
 (ho:o.op= .call {callee:= .builtin .append,args:= #[s,x],argTypes:= #[t,t]})
 (ht:P.underlying t=some (.slice e))(hinfo:(P.info? e).map (fun i=>(i.zero,i.size,i.bytes))=some (some z,size,bytes))(hz:z.cells.size=size)(hs0:0<size)(hb0:0<bytes)
 (v:Value)(n:Nat)(xs ys:List Value)(hs:a.eval s=v)(hx:a.eval x= .slice (some ⟨W.heap.size,0,none⟩) 1 1)(hys:ys.length=size)(h1:∀u∈ys,u.oneCell'=true)
 (HO:W.ownsRow base e size v n xs)(HB:Below base w0 W)(hbase:base≤W.heap.size)(hl:(n+1)*bytes≤140737488355328)
 (h:∀v1 w1,w1.ownsRow base e size v1 (n+1) (xs++ys)→Below base w0 w1→W.grownBy w1 v.ownBlock→(v1.ownBlock=v.ownBlock∨∃b,v1.ownBlock=some b∧W.heap.size≤b)→K (a.put o.dst v1) w1):
 if aao o (yielded ops a.tmps)=true then aaO P o a (W.alloc (.cells ys.toArray e)) K Q else K (a.put o.dst undef) (W.alloc (.cells ys.toArray e)):=by
 obtain⟨i0,hi,hzz⟩:=aaN.1 hinfo;simp only[aad]at hzz;obtain⟨hz0,hz1,hz2⟩:=hzz;have hlen:n+1≤140737488355328:=aaI (abC _ hb0) hl;rw[if_pos hw]
 obtain⟨v1,w1,hr,hown,hg,_,hat⟩:=run_append_own_at (P:=P) (W.alloc (.cells ys.toArray e)) base t o.type e i0 z size bytes ht hi hz0 hz1 hz2 hz hs0 v n xs (HO.alloc _) ⟨W.heap.size,0,none⟩ 1 1 ys (by rw[hys];simp)
  (by simpa using World.news_of_block (cs:=ys.toArray) (t:=e) (fr:=(0,0)) (heap_alloc_new W (.cells ys.toArray e))) h1 (by simp only[maxLen];omega) hl (by simp;omega)
 unfold aaO execOp;simp only[ho,resolve,invoke,builtin,Sem.run_bind,Sem.run_pure,aa3,fT,gJ,j5,hs,hx,hr];refine h v1 w1 hown ((HB.alloc hbase _).grown hg (by simp;omega) (ws HO)) (World.grownBy.trans (abB W _ _) hg) ?_
 rcases hat with hat|hat
 ·exact .inl hat
 ·exact .inr ⟨_,hat,by simp⟩
end
theorem Wv {w:World}{base base':Nat}{e:TypeId}{size n:Nat}{v:Value}{xs:List Value}(h:w.ownsRow base e size v n xs)(hb:base'≤base):w.ownsRow base' e size v n xs:=by
 obtain⟨h1,h2⟩:=h;refine⟨h1, ?_⟩
 rcases h2 with h2|⟨g,cap,cur,rfl,hg,r⟩
 ·exact .inl h2
 ·exact .inr ⟨g,cap,cur,rfl,aaI hb hg,r⟩
section
variable {α : Type} {enc : α → Value} {d : α}
def jq(enc:α→Value)(xs:List α):List Value:=xs.map enc
def rF(d:α)(xs:List α)(i:Int):α:=xs.getD i.toNat d
theorem No(xs:List α):(jq enc xs).length=xs.length:=by simp[jq]
theorem Xt(xs:List α)(j:Nat)(h:j<xs.length):(jq enc xs)[j]?=some (enc (xs.getD j d)):=by
 simp[jq,aak h,aam]
def jZ(enc:α→Value)(d:α)(w:World)(A:Option Addr)(n:Nat)(xs:List α):Prop:=
 xs.length=n∧n≤9223372036854775807∧(0<n→∃ad,A=some ad∧∀j,j<n→w.cell? (ad.add j)=some (enc (xs.getD j d)))
theorem jZ.at_ {w:World}{A:Option Addr}{n:Nat}{xs:List α}(h:jZ enc d w A n xs)(i:Int)(h0:0≤i)(h1:i<n):∃ad,A=some ad∧w.cell? (ad.add i.toNat)=some (enc (rF d xs i)):=by
 obtain⟨ad,e,hc⟩:=h.2.2 (by omega);exact⟨ad,e,hc _ (by omega)⟩
theorem jZ.below {w w1:World}{A:Option Addr}{n:Nat}{xs:List α}(h:jZ enc d w A n xs)(hb:Below w.heap.size w w1):jZ enc d w1 A n xs:=
 ⟨h.1,h.2.1,fun hn=>by
   obtain⟨ad,e,hc⟩:=h.2.2 hn
   exact⟨ad,e,fun j hj=>BI hb (hc j hj)⟩⟩
theorem jZ.Ge {w:World}{A:Option Addr}{n:Nat}{xs:List α}(h:jZ enc d w A n xs)(i:Nat)(hi:i≤n):jZ enc d w A i (xs.take i):=by
 refine⟨by rw[ca,h.1];omega,by have:=h.2.1;omega,fun hp=> ?_⟩;obtain⟨ad,e,hc⟩:=h.2.2 (by omega);refine⟨ad,e,fun j hj=> ?_⟩;rw[hc j (by omega)]
 simp[aam,hj]
theorem XE {W:World}{base g n cap:Nat}{e:TypeId}{xs:List α}(h:W.ownsRow base e 1 (.slice (some ⟨g,0,none⟩) n cap) n (jq enc xs))(i:Int)(h0:0≤i)(h1:i<n):
 W.cell? ⟨g,i.toNat,none⟩=some (enc (rF d xs i))∧W.frozen? ⟨g,i.toNat,none⟩=false:=by
 have hl:xs.length=n:=by have:=h.1;simp[jq]at this;exact this
 constructor
 ·have hc:=h.cells (g:=g) rfl i.toNat _ (Xt (d:=d) xs i.toNat (by omega))
  rwa [j6]at hc
 ·rcases h.2 with⟨h',_⟩|⟨g',cap',cur,h',_,hh,_⟩
  ·cases h'
  ·have:g=g':=by injection h' with h';injection h' with h';injection h' with h'
   subst this
   simp[aax,hh]
theorem Wk {W:World}{base g n cap:Nat}{e:TypeId}{xs:List α}(h:W.ownsRow base e 1 (.slice (some ⟨g,0,none⟩) n cap) n (jq enc xs))(i:Int)(x:α):
 (W.setCell ⟨g,i.toNat,none⟩ (enc x)).ownsRow base e 1 (.slice (some ⟨g,0,none⟩) n cap) n (jq enc (xs.set i.toNat x))∧W.grownBy (W.setCell ⟨g,i.toNat,none⟩ (enc x)) (some g):=by
 have hs:=h.stored i.toNat (enc x)
 have he:(jq enc xs).set i.toNat (enc x)=jq enc (xs.set i.toNat x):=by simp[jq,List.map_set]
 rwa [he]at hs
end
section
variable {α : Type} {P : Program} {ops : Array Oper} {rest : List Oper} {o : Oper} {a : Act} {Q : Exit → Act → World → Prop}
end
theorem cE {w:World}{g:Nat}{o:Obj}(h:w.heap[g]?=some o)(o':Obj):(w.alloc o').heap[g]?=some o:=(Below.heap_alloc w o' g (j7 h)).trans h
theorem aZ {w:World}{g:Nat}{o:Obj}(h:w.heap[g]?=some o):w.drew.heap[g]?=some o:=h
theorem cS {w:World}{g:Nat}{o:Obj}(h:w.heap[g]?=some o)(n:Nat):(w.drewN n).heap[g]?=some o:=h
theorem bq {w w1:World}{g:Nat}{o:Obj}(h:w.heap[g]?=some o)(hb:Below w.heap.size w w1):w1.heap[g]?=some o:=(hb.block g (j7 h)).trans h
theorem Ob(w:World)(o:Obj):(w.alloc o).heap[w.heap.size]?=some o:=heap_alloc_new w o
section
variable {P : Program}
theorem gC {fn:Func}{p u:Tmp}{ty:TypeId}(h:fn.results= #[.cell p ty,.tmp u])(tmps:Array Value)(w:World)(g:Nat)(t:TypeId)(cs:Array Value)(fr:Nat×Nat)(d:TypeDesc)
 (hp:tmps.getD p undef= .pointer (some ⟨g,0,none⟩))(hg:w.heap[g]?=some (.cells cs t fr))
 (hu:P.underlying ty=some d)(hd:(match d with| .struct _| .array _ _=>true|_=>false)=true)(hi:(P.info? ty).map (·.size)=some cs.size):
 (results fn tmps).run P w= .ok (.tuple #[.agg cs,tmps.getD u undef]) w:=by
 have hp':tmps[p]?.getD undef= .pointer (some ⟨g,0,none⟩):=by simpa using hp
 simp[results,h,hp',asAddr,run_loadVar_row w g t ty cs fr d hg hu hd hi]
end
theorem a07 {w:World}{base n m c size:Nat}{e:TypeId}{A:Option Addr}{xs:List Value}(h:w.ownsRow base e size (.slice A m c) n xs):m≤c:=by
 rcases h.2 with⟨he,_⟩|⟨g,cap,cur,he,_,_,hnc,_⟩
 ·injection he with _ h2 h3
  omega
 ·injection he with _ h2 h3
  omega
def gZ {α:Type}(R:α→List Value→Prop)(e:TypeId)(size:Nat)(w:World)(base:Nat)(v:Value)(ps:List α):Prop:=
 ∃inner,w.ownsRow base e size v ps.length inner∧cR R size ps inner
section
variable {α : Type} {R R' : α → List Value → Prop} {e : TypeId} {size : Nat} {w w1 : World} {base : Nat} {v : Value} {ps : List α}
theorem gZ.none_(R:α→List Value→Prop)(e:TypeId)(size:Nat)(w:World)(base:Nat):gZ R e size w base (.slice none 0 0) []:=⟨[],YX _ _ _ _,cR.none _ _⟩
theorem gZ.jP(h:gZ R e size w base v ps)(hR:∀p c,R p c→R' p c):gZ R' e size w base v ps:=by
 obtain⟨inner,ho,hr⟩:=h;exact⟨inner,ho,hr.jP hR⟩
theorem gZ.below(h:gZ R e size w base v ps)(hb:Below w.heap.size w w1):gZ R e size w1 base v ps:=by
 obtain⟨inner,ho,hr⟩:=h;exact⟨inner,Wj ho hb,hr⟩
theorem gZ.other(h:gZ R e size w base v ps){row:Option Nat}(hg:w.grownBy w1 row)(hne:v.ownBlock=none∨v.ownBlock≠row):gZ R e size w1 base v ps:=by
 obtain⟨inner,ho,hr⟩:=h;exact⟨inner,XC ho hg hne,hr⟩
theorem gZ.Df(h:gZ R e size w base v ps){g:Nat}{t:TypeId}{cells:Array Value}(hb:w.heap[g]?=some (.cells cells t (0,0)))(ht:e≠t)(j:Nat)(u:Value):gZ R e size (w.setCell ⟨g,j,none⟩ u) base v ps:=by
 obtain⟨inner,ho,hr⟩:=h;exact⟨inner,Wo ho (own_ne ho hb ht) u,hr⟩
theorem gZ.keep(h:gZ R e size w base v ps){g:Nat}{t:TypeId}{cells:Array Value}(hb:w.heap[g]?=some (.cells cells t (0,0)))(ht:e≠t)(hk:az w w1 g none):gZ R e size w1 base v ps:=by
 obtain⟨inner,ho,hr⟩:=h;exact⟨inner,hk.own ho (Ne.symm (own_ne ho hb ht)) (by cases v.ownBlock<;>simp),hr⟩
theorem gZ.reads(h:gZ R e size w base v ps):∃A c,v= .slice A ps.length c∧ps.length≤c∧kY R size w A ps.length ps:=by
 obtain⟨inner,ho,hr⟩:=h;obtain⟨A,c,rfl,hrow⟩:=Wc ho hr rfl;exact⟨A,c,rfl,a07 ho,hrow⟩
theorem gZ.Xu(h:gZ R e size w base v ps){g:Nat}{t:TypeId}{cells:Array Value}(hb:w.heap[g]?=some (.cells cells t (0,0)))(ht:e≠t):some g≠v.ownBlock:=by
 obtain⟨inner,ho,hr⟩:=h;exact own_ne ho hb ht
theorem gZ.lit(W:World)(base:Nat){inner:List Value}(hr:cR R size ps inner)(hb:base≤W.heap.size)(hm:ps.length≤9223372036854775807):
 gZ R e size (W.alloc (.cells inner.toArray e)) base (.slice (some ⟨W.heap.size,0,none⟩) ps.length ps.length) ps:=by
 have h:=World.ownsRow_lit (base:=base) (e:=e) (size:=size) W inner.toArray ps.length hb (by simpa[maxLen]using hm) (by simpa using hr.1);exact⟨inner,by simpa using h,hr⟩
end
section
variable {P : Program} {ops : Array Oper} {rest : List Oper} {o : Oper} {a : Act} {Q : Exit → Act → World → Prop} {α : Type} {R : α → List Value → Prop}
theorem gZ.append {w0 W:World}(base:Nat)(hgd:o.guard=none)(s x:Operand)(t e:TypeId)(z:Value)(size bytes:Nat)
 (ho:o.op= .call {callee:= .builtin .append,args:= #[s,x],argTypes:= #[t,t]})
 (ht:P.underlying t=some (.slice e))(hinfo:(P.info? e).map (fun i=>(i.zero,i.size,i.bytes))=some (some z,size,bytes))(hz:z.cells.size=size)(hs0:0<size)(hb0:0<bytes)
 (v:Value)(ps:List α)(p:α)(cs:List Value)(hs:a.eval s=v)(hx:a.eval x= .slice (some ⟨W.heap.size,0,none⟩) 1 1)(hp:R p cs)(hcs:cs.length=size)(h1:∀u∈cs,u.oneCell'=true)
 (HO:gZ R e size W base v ps)(HB:Below base w0 W)(hbase:base≤W.heap.size)(hl:(ps.length+1)*bytes≤140737488355328)
 (h:∀v1 w1,gZ R e size w1 base v1 (ps++[p])→Below base w0 w1→W.grownBy w1 v.ownBlock→(v1.ownBlock=v.ownBlock∨∃b,v1.ownBlock=some b∧W.heap.size≤b)→wpList P ops Q rest (a.put o.dst v1) w1):
 wpList P ops Q (o::rest) a (W.alloc (.cells cs.toArray e)):=by
 obtain⟨inner,hown,hr⟩:=HO;refine WS base hgd s x t e z size bytes ho ht hinfo hz hs0 hb0 v ps.length inner cs hs hx hcs h1 hown HB hbase hl ?_;intro v1 w1 hown1 hb1 hg1 HZ;exact h v1 w1 ⟨inner++cs,by rw[aau,aa4];exact hown1,hr.snoc hp hcs⟩ hb1 hg1 HZ
end
section
variable {P : Program} {ops : Array Oper} {o : Oper} {a : Act} {Q : Exit → Act → World → Prop} {K : Act → World → Prop} {α : Type} {R : α → List Value → Prop}
end
theorem kY.Qg {α:Type}{R:α→List Value→Prop}{size:Nat}{w:World}{ad:Addr}{n:Nat}{ps:List α}(h:kY R size w (some ad) n ps):
 ∃inner,cR R size ps inner∧∀j u,inner[j]?=some u→w.cell? (ad.add j)=some u:=by
 have key:∀m,m≤ps.length→∃inner,cR R size (ps.take m) inner∧∀j u,inner[j]?=some u→w.cell? (ad.add j)=some u:=by
  intro m
  induction m with
  |zero=>exact fun _=>⟨[],cR.none _ _,fun j u hu=>by simp at hu⟩
  |succ m ih=>
   intro hm;obtain⟨inner,hr,hc⟩:=ih (by omega);obtain⟨ad',he,hcell⟩:=h.2.2 (by have:=h.1;omega)
   injection he with he
   subst he;obtain⟨c,hcl,hp,hcc⟩:=hcell m _ (aak (show m<ps.length by omega));refine⟨inner++c, ?_,fun j u hu=> ?_⟩
   ·rw[abw (show m<ps.length by omega)]
    exact hr.snoc hp hcl
   ·have hil:inner.length=m*size:=by rw[hr.1,ca,aaT (by omega)]
    rcases abN j inner.length with hj|hj
    ·rw[aaW hj]at hu
     exact hc j u hu
    ·rw[abq hj]at hu
     have:=hcc (j-inner.length) u hu
     rwa [hil,Nat.add_sub_cancel' (by omega)]at this
 obtain⟨inner,hr,hc⟩:=key ps.length (kV _);rw[List.take_length]at hr;exact⟨inner,hr,hc⟩
section
variable {α : Type} {P : Program}
end
section
variable {P : Program} {ops : Array Oper} {rest : List Oper} {o : Oper} {a : Act} {Q : Exit → Act → World → Prop}
end
structure Kd(α:Type) where
 sz:Nat
 E:List Nat
 K:World→α→List Value→Prop
 M:World→Nat→(Nat→Prop)→α→List Value→Prop
 K_len:∀ {w x cs},K w x cs→cs.length=sz
 K_one:∀ {w x cs},K w x cs→∀u∈cs,u.oneCell'=true
 K_below:∀ {w w1:World}{x cs},Below w.heap.size w w1→K w x cs→K w1 x cs
 K_of_M:∀ {w base ok x cs},M w base ok x cs→K w x cs
 M_mono:∀ {w base ok ok' x cs},(∀k,ok k→ok' k)→M w base ok x cs→M w base ok' x cs
 M_bound:∀ {w:World}{base ok x cs},M w base ok x cs→M w base (fun k=>ok k∧base≤k∧k<w.heap.size∧∃q,q∈E∧∃cells,w.heap[k]?=some (.cells cells q (0,0))) x cs
 M_move:∀ {w w1:World}{base ok x cs},(∀k,ok k→w1.heap[k]?=w.heap[k]?)→M w base ok x cs→M w1 base ok x cs
 M_lower:∀ {w base base' ok x cs},base'≤base→M w base ok x cs→M w base' ok x cs
theorem Xv {w w1:World}{base:Nat}{e:TypeId}{size n:Nat}{v:Value}{xs:List Value}(h:w.ownsRow base e size v n xs)(hm:∀k,v.ownBlock=some k→w1.heap[k]?=w.heap[k]?):w1.ownsRow base e size v n xs:=by
 obtain⟨h1,h2⟩:=h;refine⟨h1, ?_⟩
 rcases h2 with h2|⟨g,cap,cur,rfl,hg,hh,r⟩
 ·exact .inl h2
 ·exact .inr ⟨g,cap,cur,rfl,hg,(hm g (by simp[aas])).trans hh,r⟩
theorem IZ {w:World}{base:Nat}{e:TypeId}{size n:Nat}{v:Value}{xs:List Value}(h:w.ownsRow base e size v n xs)(k:Nat)(hk:v.ownBlock=some k):∃cells,w.heap[k]?=some (.cells cells e (0,0)):=by
 rcases h.2 with⟨rfl,_⟩|⟨g,cap,cur,rfl,hg,hh,r⟩
 ·simp[aas]at hk
 ·have:g=k:=by simpa[aas]using hk
  subst this;exact⟨cur,hh⟩
namespace Kd
def C {α:Type}(d:Kd α)(w:World)(A:Option Addr)(n:Nat)(xs:List α):Prop:=kY (d.K w) d.sz w A n xs
def R {α:Type}(d:Kd α)(e:Nat)(w:World)(base:Nat)(ok:Nat→Prop)(v:Value)(xs:List α):Prop:=
 (∀k,v.ownBlock=some k→ok k)∧gZ (d.M w base (fun k=>ok k∧some k≠v.ownBlock)) e d.sz w base v xs
section
variable {α : Type} {d : Kd α} {e : Nat} {w w1 : World} {base : Nat} {ok ok' : Nat → Prop} {v : Value} {xs : List α}
theorem qG {A:Option Addr}{n:Nat}(h:d.C w A n xs)(hb:Below w.heap.size w w1):d.C w1 A n xs:=kY.jP h hb (fun _ _ hp=>d.K_below hb hp)
theorem kA(d:Kd α)(e:Nat)(w:World)(base:Nat)(ok:Nat→Prop):d.R e w base ok (.slice none 0 0) []:=⟨fun k hk=>by simp[aas]at hk,gZ.none_ _ _ _ _ _⟩
theorem am(h:d.R e w base ok v xs)(hok:∀k,ok k→ok' k):d.R e w base ok' v xs:=⟨fun k hk=>hok k (h.1 k hk),h.2.jP (fun _ _ hp=>d.M_mono (fun k hk=>⟨hok k hk.1,hk.2⟩) hp)⟩
theorem uQ(h:d.R e w base ok v xs):d.R e w base (fun k=>ok k∧base≤k∧k<w.heap.size∧∃q,q∈e::d.E∧∃cells,w.heap[k]?=some (.cells cells q (0,0))) v xs:=by
 obtain⟨h0,inner,ho,hr⟩:=h;refine⟨fun k hk=> ?_,inner,ho,hr.jP (fun _ _ hp=>d.M_mono (fun k hk=> ?_) (d.M_bound hp))⟩
 ·obtain⟨cells,hc⟩:=IZ ho k hk
  exact⟨h0 k hk,ws ho k hk,Qf ho k hk,e,abE,cells,hc⟩
 ·obtain⟨⟨h1,h2⟩,h3,h4,q,hq,hc⟩:=hk
  exact⟨⟨h1,h3,h4,q,abP _ hq,hc⟩,h2⟩
theorem GT(h:d.R e w base ok v xs)(hm:∀k,ok k→w1.heap[k]?=w.heap[k]?):d.R e w1 base ok v xs:=by
 obtain⟨h0,inner,ho,hr⟩:=h;exact⟨h0,inner,Xv ho (fun k hk=>hm k (h0 k hk)),hr.jP (fun _ _ hp=>d.M_move (fun k hk=>hm k hk.1) hp)⟩
theorem eZ {base':Nat}(h:d.R e w base ok v xs)(hb:base'≤base):d.R e w base' ok v xs:=by
 obtain⟨h0,inner,ho,hr⟩:=h;exact⟨h0,inner,Wv ho hb,hr.jP (fun _ _ hp=>d.M_lower hb hp)⟩
theorem GU(h:d.R e w base ok v xs)(hm:∀k,ok k→k<w.heap.size→w1.heap[k]?=w.heap[k]?):d.R e w1 base ok v xs:=
 am (GT (uQ h) (fun k hk=>hm k hk.1 hk.2.2.1)) (fun _ hk=>hk.1)
theorem Qh {x:α}{cs:List Value}(h:d.M w base ok x cs)(hm:∀k,ok k→k<w.heap.size→w1.heap[k]?=w.heap[k]?):d.M w1 base ok x cs:=
 d.M_mono (fun _ hk=>hk.1) (d.M_move (fun k hk=>hm k hk.1 hk.2.2.1) (d.M_bound h))
theorem bB(h:d.R e w base ok v xs)(hb:Below w.heap.size w w1):d.R e w1 base ok v xs:=GU h (fun k _ hk=>hb.block k hk)
theorem Oc {x:α}{cs:List Value}(h:d.M w base ok x cs)(hb:Below w.heap.size w w1):d.M w1 base ok x cs:=Qh h (fun k _ hk=>hb.block k hk)
theorem aH(h:d.R e w base ok v xs){p:Addr}(hok:∀k,ok k→k≠p.block)(u:Value):d.R e (w.setCell p u) base ok v xs:=GU h (fun k ho _=>aa1 w p u k (hok k ho))
theorem gn(h:d.R e w base ok v xs){g:Nat}(hk:az w w1 g none)(hok:∀k,ok k→k≠g):d.R e w1 base ok v xs:=GU h (fun k ho hlt=>hk.2 k hlt (hok k ho) (by simp))
theorem dv(h:d.R e w base ok v xs){g t:Nat}{cells:Array Value}(hb:w.heap[g]?=some (.cells cells t (0,0)))(ht:∀q,q∈e::d.E→q≠t):d.R e w base (fun k=>ok k∧k≠g) v xs:=
 am (uQ h) (fun k hk=>⟨hk.1,by
  obtain⟨_,_,_,q,hq,cells',hc⟩:=hk;rintro rfl;rw[hc]at hb
  injection hb with hb
  injection hb with _ hb
  exact ht q hq hb⟩)
theorem J9(h:d.R e w base ok v xs):∃A c,v= .slice A xs.length c∧xs.length≤c∧d.C w A xs.length xs:=by
 obtain⟨A,c,he,hl,hr⟩:=gZ.reads h.2;exact⟨A,c,he,hl,hr.jP (aag _ _) (fun _ _ hp=>d.K_of_M hp)⟩
theorem dI(h:d.R e w base ok v xs):∃A c,v= .slice A xs.length c:=by
 obtain⟨A,c,he,_⟩:=J9 h;exact⟨A,c,he⟩
theorem Gf(h:d.R e w base ok v xs):∃inner,w.ownsRow base e d.sz v xs.length inner:=by
 obtain⟨_,inner,ho,_⟩:=h;exact⟨inner,ho⟩
theorem d7(h:d.R e w base ok v xs){g t:Nat}{cells:Array Value}(hb:w.heap[g]?=some (.cells cells t (0,0)))(ht:e≠t):some g≠v.ownBlock:=gZ.Xu h.2 hb ht
end
def iq {α:Type}(enc:α→Value)(h1:∀x,(enc x).oneCell'=true):Kd α where
 sz:=1
 E:=[]
 K:=fun _ x cs=>cs=[enc x]
 M:=fun _ _ _ x cs=>cs=[enc x]
 K_len:=fun h=>by rw[h];rfl
 K_one:=fun h u hu=>by
  rw[h]at hu;rw[abF.1 hu];exact h1 _
 K_below:=fun _ h=>h
 K_of_M:=fun h=>h
 M_mono:=fun _ h=>h
 M_bound:=fun h=>h
 M_move:=fun _ h=>h
 M_lower:=fun _ h=>h
def int(k:IntKind):Kd Int:=iq (Value.int k) (fun _=>rfl)
def bool:Kd Bool:=iq Value.bool (fun _=>rfl)
def string:Kd ByteArray:=iq Value.string (fun _=>rfl)
def slice {α:Type}(e:Nat)(d:Kd α):Kd (List α) where
 sz:=1
 E:=e::d.E
 K:=fun w xs cs=>∃A c,cs=[.slice A xs.length c]∧xs.length≤c∧d.C w A xs.length xs
 M:=fun w base ok xs cs=>∃v,cs=[v]∧d.R e w base ok v xs
 K_len:=by
  rintro w x cs ⟨A,c,rfl,_⟩
  rfl
 K_one:=by
  rintro w x cs ⟨A,c,rfl,_⟩ u hu;rw[abF.1 hu]
  rfl
 K_below:=by
  rintro w w1 x cs hb ⟨A,c,rfl,hl,hr⟩;exact⟨A,c,rfl,hl,qG hr hb⟩
 K_of_M:=by
  rintro w base ok x cs ⟨v,rfl,h⟩;obtain⟨A,c,rfl,hl,hr⟩:=J9 h;exact⟨A,c,rfl,hl,hr⟩
 M_mono:=by
  rintro w base ok ok' x cs hok ⟨v,rfl,h⟩;exact⟨v,rfl,am h hok⟩
 M_bound:=by
  rintro w base ok x cs ⟨v,rfl,h⟩;exact⟨v,rfl,uQ h⟩
 M_move:=by
  rintro w w1 base ok x cs hm ⟨v,rfl,h⟩;exact⟨v,rfl,GT h hm⟩
 M_lower:=by
  rintro w base base' ok x cs hb ⟨v,rfl,h⟩;exact⟨v,rfl,eZ h hb⟩
def pair {α β:Type}(a:Kd α)(b:Kd β):Kd (α×β) where
 sz:=a.sz+b.sz
 E:=a.E++b.E
 K:=fun w x cs=>∃c0 c1,cs=c0++c1∧a.K w x.1 c0∧b.K w x.2 c1
 M:=fun w base ok x cs=>∃c0 c1,cs=c0++c1∧a.M w base ok x.1 c0∧b.M w base ok x.2 c1
 K_len:=by
  rintro w x cs ⟨c0,c1,rfl,h0,h1⟩;rw[aau,a.K_len h0,b.K_len h1]
 K_one:=by
  rintro w x cs ⟨c0,c1,rfl,h0,h1⟩ u hu
  rcases List.mem_append.1 hu with hu|hu
  ·exact a.K_one h0 u hu
  ·exact b.K_one h1 u hu
 K_below:=by
  rintro w w1 x cs hb ⟨c0,c1,rfl,h0,h1⟩;exact⟨c0,c1,rfl,a.K_below hb h0,b.K_below hb h1⟩
 K_of_M:=by
  rintro w base ok x cs ⟨c0,c1,rfl,h0,h1⟩;exact⟨c0,c1,rfl,a.K_of_M h0,b.K_of_M h1⟩
 M_mono:=by
  rintro w base ok ok' x cs hok ⟨c0,c1,rfl,h0,h1⟩;exact⟨c0,c1,rfl,a.M_mono hok h0,b.M_mono hok h1⟩
 M_bound:=by
  rintro w base ok x cs ⟨c0,c1,rfl,h0,h1⟩;refine⟨c0,c1,rfl,a.M_mono ?_ (a.M_bound h0),b.M_mono ?_ (b.M_bound h1)⟩
  ·rintro k ⟨h2,h3,h4,q,hq,hc⟩
   exact⟨h2,h3,h4,q,List.mem_append_left _ hq,hc⟩
  ·rintro k ⟨h2,h3,h4,q,hq,hc⟩
   exact⟨h2,h3,h4,q,List.mem_append_right _ hq,hc⟩
 M_move:=by
  rintro w w1 base ok x cs hm ⟨c0,c1,rfl,h0,h1⟩;exact⟨c0,c1,rfl,a.M_move hm h0,b.M_move hm h1⟩
 M_lower:=by
  rintro w base base' ok x cs hb ⟨c0,c1,rfl,h0,h1⟩;exact⟨c0,c1,rfl,a.M_lower hb h0,b.M_lower hb h1⟩
def Vf {α β:Type}(d:Kd α)(f:β→α):Kd β where
 sz:=d.sz
 E:=d.E
 K:=fun w x cs=>d.K w (f x) cs
 M:=fun w base ok x cs=>d.M w base ok (f x) cs
 K_len:=d.K_len
 K_one:=d.K_one
 K_below:=d.K_below
 K_of_M:=d.K_of_M
 M_mono:=d.M_mono
 M_bound:=d.M_bound
 M_move:=d.M_move
 M_lower:=d.M_lower
def bot {α:Type}(sz:Nat)(E:List Nat):Kd α where
 sz:=sz
 E:=E
 K:=fun _ _ _=>False
 M:=fun _ _ _ _ _=>False
 K_len:=fun h=>h.elim
 K_one:=fun h=>h.elim
 K_below:=fun _ h=>h
 K_of_M:=fun h=>h
 M_mono:=fun _ h=>h
 M_bound:=fun h=>h
 M_move:=fun _ h=>h
 M_lower:=fun _ h=>h
def upto {α:Type}(F:Kd α→Kd α)(sz:Nat)(E:List Nat):Nat→Kd α
 |0=>bot sz E
 |n+1=>F (upto F sz E n)
theorem KY {α:Type}{d:Kd α}{w:World}{A:Option Addr}{n:Nat}{xs:List α}(h:d.C w A n xs)(z:α)(i:Int)(h0:0≤i)(h1:i<n):
 ∃ad c,A=some ad∧c.length=d.sz∧d.K w (xs.getD i.toNat z) c∧∀j u,c[j]?=some u→w.cell? (ad.add (i.toNat*d.sz+j))=some u:=kY.a4Z h z i h0 h1
theorem Ww {α:Type}{d:Kd α}{e base:Nat}{ok okp:Nat→Prop}{W w1:World}{v v1:Value}{xs:List α}{p:α}{inner cs:List Value}(h0:∀k,v.ownBlock=some k→ok k)(hr:cR (d.M W base (fun k=>ok k∧some k≠v.ownBlock)) d.sz xs inner)(hp:d.M W base okp p cs)(hokp:∀k,okp k→ok k∧some k≠v.ownBlock)(hfresh:∀k,W.heap.size≤k→ok k)
 (hown:w1.ownsRow base e d.sz v1 (xs.length+1) (inner++cs))(hg:W.grownBy w1 v.ownBlock)(hat:v1.ownBlock=v.ownBlock∨∃b,v1.ownBlock=some b∧W.heap.size≤b):d.R e w1 base ok v1 (xs++[p]):=by
 have hne:∀k,some k≠v.ownBlock→k<W.heap.size→some k≠v1.ownBlock:=by
  intro k hk hlt
  rcases hat with hat|⟨b,hb,hle⟩
  ·rw[hat];exact hk
  ·rw[hb]
   intro he
   injection he with he
   omega
 have step:∀ {q:α}{c:List Value}{o:Nat→Prop},d.M W base o q c→(∀k,o k→ok k∧some k≠v.ownBlock)→d.M w1 base (fun k=>ok k∧some k≠v1.ownBlock) q c:=by
  intro q c o hq ho;have h1:=d.M_move (w1:=w1) (fun k hk=>hg.block k hk.2.2.1 (ho k hk.1).2) (d.M_bound hq);exact d.M_mono (fun k hk=>⟨(ho k hk.1).1,hne k (ho k hk.1).2 hk.2.2.1⟩) h1
 refine⟨fun k hk=> ?_,inner++cs,by rw[aau,aa4];exact hown, ?_⟩
 ·rcases hat with hat|⟨b,hb,hle⟩
  ·exact h0 k (hat▸hk)
  ·rw[hb]at hk
   injection hk with hk
   exact hfresh k (by omega)
 ·exact(hr.jP (fun _ _ hq=>step hq (fun _ hk=>hk))).snoc (step hp hokp) (d.K_len (d.K_of_M hp))
section
variable {P : Program} {ops : Array Oper} {rest : List Oper} {o : Oper} {a : Act} {Q : Exit → Act → World → Prop} {α : Type}
end
section
variable {P : Program} {ops : Array Oper} {o : Oper} {a : Act} {Q : Exit → Act → World → Prop} {Kc : Act → World → Prop} {α : Type}
theorem Nb(d:Kd α){w0 W:World}(base:Nat)(hw:aao o (yielded ops a.tmps)=true)(s x:Operand)(t e:TypeId)(z:Value)(bytes:Nat)
 (ho:o.op= .call {callee:= .builtin .append,args:= #[s,x],argTypes:= #[t,t]})
 (ht:P.underlying t=some (.slice e))(hinfo:(P.info? e).map (fun i=>(i.zero,i.size,i.bytes))=some (some z,d.sz,bytes))(hz:z.cells.size=d.sz)(hs0:0<d.sz)(hb0:0<bytes)
 (v:Value)(xs:List α)(p:α)(cs:List Value)(ok okp:Nat→Prop)(hs:a.eval s=v)(hx:a.eval x= .slice (some ⟨W.heap.size,0,none⟩) 1 1)(hp:d.M W base okp p cs)(hokp:∀k,okp k→ok k∧some k≠v.ownBlock)(hfresh:∀k,W.heap.size≤k→ok k)
 (HO:d.R e W base ok v xs)(HB:Below base w0 W)(hbase:base≤W.heap.size)(hl:(xs.length+1)*bytes≤140737488355328)
 (h:∀v1 w1,d.R e w1 base ok v1 (xs++[p])→Below base w0 w1→W.grownBy w1 v.ownBlock→(v1.ownBlock=v.ownBlock∨∃b,v1.ownBlock=some b∧W.heap.size≤b)→Kc (a.put o.dst v1) w1):
 if aao o (yielded ops a.tmps)=true then aaO P o a (W.alloc (.cells cs.toArray e)) Kc Q else Kc (a.put o.dst undef) (W.alloc (.cells cs.toArray e)):=by
 obtain⟨h0,inner,hown,hr⟩:=HO;refine WT base hw s x t e z d.sz bytes ho ht hinfo hz hs0 hb0 v xs.length inner cs hs hx (d.K_len (d.K_of_M hp)) (d.K_one (d.K_of_M hp)) hown HB hbase hl ?_;intro v1 w1 hown1 hb1 hg1 HZ;exact h v1 w1 (Ww h0 hr hp hokp hfresh hown1 hg1 HZ) hb1 hg1 HZ
end
theorem Wp {α:Type}{enc:α→Value}(xs:List α):cR (fun(x:α) (cs:List Value)=>cs=[enc x]) 1 xs (jq enc xs):=by
 refine⟨by simp[jq],fun j p hj=> ?_⟩;obtain⟨hl,hp⟩:=aaE.1 hj
 have hl':j<(jq enc xs).length:=by rw[No];exact hl
 rw[aaL,List.drop_eq_getElem_cons hl']
 simp[jq,hp]
theorem Xw {α:Type}{enc:α→Value}{h1:∀x,(enc x).oneCell'=true}{e:Nat}{w:World}{base:Nat}{ok:Nat→Prop}{v:Value}{xs:List α}(ho:w.ownsRow base e 1 v xs.length (jq enc xs))(hok:∀k,v.ownBlock=some k→ok k):(iq enc h1).R e w base ok v xs:=⟨hok,jq enc xs,ho,Wp xs⟩
theorem wt {α:Type}{enc:α→Value}{h1:∀x,(enc x).oneCell'=true}{e:Nat}{w:World}{base:Nat}{ok:Nat→Prop}{v:Value}{xs:List α}(h:(iq enc h1).R e w base ok v xs):w.ownsRow base e 1 v xs.length (jq enc xs):=by
 obtain⟨_,inner,ho,hr⟩:=h
 have:inner=jq enc xs:=by
  apply abi;intro j
  rcases abN j xs.length with hj|hj
  ·have h2:=hr.2 j _ (aak hj)
   have hl:j<inner.length:=by have:=hr.1;simp[iq]at this;omega
   have h3:(inner.drop (j*1)).take 1=[enc xs[j]]:=h2;rw[aaL,List.drop_eq_getElem_cons hl]at h3
   have h4:inner[j]=enc xs[j]:=by
    have h5:=congrArg List.head? h3;rw[List.take_succ_cons]at h5;exact qE h5
   rw[aak hl,h4]
   simp[jq,aak hj]
  ·have h3:inner.length=xs.length:=by have:=hr.1;simp[iq]at this;omega
   rw[aaX (by omega),aaX (by rw[No];omega)]
 rw[←this];exact ho
theorem Wx {α:Type}{enc:α→Value}{d:α}{h1:∀x,(enc x).oneCell'=true}{w:World}{A:Option Addr}{n:Nat}{xs:List α}(h:jZ enc d w A n xs):(iq enc h1).C w A n xs:=by
 refine⟨h.1,h.2.1,fun hn=> ?_⟩;obtain⟨ad,e,hc⟩:=h.2.2 hn;refine⟨ad,e,fun j p hj=>⟨[enc p],rfl,rfl,fun i u hu=> ?_⟩⟩;obtain⟨hl,hp⟩:=aaE.1 hj;have h2:=hc j (by have:=h.1;omega);rw[aam,hj]at h2
 cases i with
 |zero=>
  have:enc p=u:=by simpa using hu
  subst this
  simpa[iq]using h2
 |succ i=>simp at hu
theorem Nr {α:Type}{enc:α→Value}{d:α}{h1:∀x,(enc x).oneCell'=true}{w:World}{A:Option Addr}{n:Nat}{xs:List α}(h:(iq enc h1).C w A n xs):jZ enc d w A n xs:=by
 refine⟨h.1,h.2.1,fun hn=> ?_⟩;obtain⟨ad,e,hc⟩:=h.2.2 hn;refine⟨ad,e,fun j hj=> ?_⟩
 have hl:j<xs.length:=by have:=h.1;omega
 obtain⟨c,_,hK,hcell⟩:=hc j _ (aak hl);have hK':c=[enc xs[j]]:=hK;subst hK';have:=hcell 0 _ rfl
 simpa[iq,aam,aak hl]using this
end Kd
namespace Kd
section
variable {α : Type} {F : Kd α → Kd α} {sz : Nat} {E : List Nat} {hs : ∀ n, (upto F sz E n).sz = sz} {hE : ∀ n q, q ∈ (upto F sz E n).E → q ∈ E}
end
end Kd
namespace Kd
theorem lM {α:Type}{d:Kd α}{e base:Nat}{ok:Nat→Prop}{W w1:World}{u v v1:Value}{xs:List α}(h:d.R e W base (fun k=>ok k∧some k≠v.ownBlock) u xs)(hg:W.grownBy w1 v.ownBlock)(hat:v1.ownBlock=v.ownBlock∨∃b,v1.ownBlock=some b∧W.heap.size≤b):d.R e w1 base (fun k=>ok k∧some k≠v1.ownBlock) u xs:=by
 refine am (GT (uQ h) (fun k hk=>hg.block k hk.2.2.1 hk.1.2)) (fun k hk=>⟨hk.1.1, ?_⟩)
 rcases hat with hat|⟨b,hb,hle⟩
 ·rw[hat];exact hk.1.2
 ·rw[hb]
  intro he
  injection he with he
  have:=hk.2.2.1
  omega
end Kd
namespace Kd
section
variable {α β : Type} {d : Kd α} {d' : Kd β} {e e' : Nat} {w w1 W : World} {base b b' : Nat} {ok ok' okv oku : Nat → Prop} {v u : Value} {xs : List α} {ys : List β}
theorem bK(h:d.R e w base ok v xs)(o:Obj):d.R e (w.alloc o) base ok v xs:=bB h (dH (aag _ _) o)
theorem au(h:d.R e w base ok v xs):d.R e w.drew base ok v xs:=bB h (zG (aag _ _))
theorem bL(h:d.R e w base ok v xs)(m:Nat):d.R e (w.drewN m) base ok v xs:=bB h (dZ (aag _ _) m)
theorem qH {A:Option Addr}{n:Nat}(h:d.C w A n xs)(o:Obj):d.C (w.alloc o) A n xs:=qG h (dH (aag _ _) o)
theorem qt {A:Option Addr}{n:Nat}(h:d.C w A n xs):d.C w.drew A n xs:=qG h (zG (aag _ _))
theorem qI {A:Option Addr}{n:Nat}(h:d.C w A n xs)(m:Nat):d.C (w.drewN m) A n xs:=qG h (dZ (aag _ _) m)
theorem a2m(d:Kd α)(w:World):d.C w none ([]:List α).length []:=⟨rfl,by simp,fun h=>absurd h (Nat.lt_irrefl 0)⟩
theorem cM {A:Option Addr}{n c:Nat}(h:d.R e w base ok (.slice A n c) xs):n=xs.length∧n≤c∧d.C w A xs.length xs:=by
 obtain⟨A',c',he,hl,hr⟩:=J9 h
 injection he with h1 h2 h3
 subst h1;exact⟨h2,by omega,hr⟩
theorem da(h:d.R e w base ok v xs):∀k,v.ownBlock=some k→k<w.heap.size:=by
 obtain⟨inner,ho⟩:=Gf h;exact Qf ho
theorem dr(h:d.R e w base ok v xs):∀k,v.ownBlock=some k→base≤k:=by
 obtain⟨inner,ho⟩:=Gf h;exact ws ho
theorem bH(h:d.R e w base ok v xs){g:Nat}(hok:∀k,ok k→k≠g):some g≠v.ownBlock:=fun e=>hok g (h.1 g e.symm) rfl
theorem qu(h:d.R e w base ok v xs)(hp:0<xs.length):∃g cap,v= .slice (some ⟨g,0,none⟩) xs.length cap∧base≤g∧g<w.heap.size∧∃cells,w.heap[g]?=some (.cells cells e (0,0)):=by
 obtain⟨inner,ho⟩:=Gf h;obtain⟨g,cap,he,hb,hl⟩:=ho.form hp;obtain⟨cells,hc⟩:=IZ ho g (by rw[he];simp[aas]);exact⟨g,cap,he,hb,hl,cells,hc⟩
end
section
variable {w W : World} {A : Option Addr} {n : Nat}
theorem GV {k:IntKind}{xs:List Int}(h:(Kd.int k).C w A n xs)(i:Int)(h0:0≤i)(h1:i<n):∃ad,A=some ad∧w.cell? (ad.add i.toNat)=some (.int k (rd xs i)):=
 jZ.at_ (Nr (enc:=Value.int k) (d:=(0:Int)) (h1:=fun _=>rfl) h) i h0 h1
theorem Ft {xs:List ByteArray}(h:Kd.string.C w A n xs)(i:Int)(h0:0≤i)(h1:i<n):∃ad,A=some ad∧w.cell? (ad.add i.toNat)=some (.string (rF ByteArray.empty xs i)):=
 jZ.at_ (Nr (enc:=Value.string) (d:=ByteArray.empty) (h1:=fun _=>rfl) h) i h0 h1
variable {α : Type} {enc : α → Value} {h1 : ∀ x, (enc x).oneCell' = true} {e base g cap : Nat} {ok : Nat → Prop} {xs : List α}
theorem a08(d:α)(h:(iq enc h1).R e W base ok (.slice (some ⟨g,0,none⟩) xs.length cap) xs)(i:Int)(h0:0≤i)(hi:i<xs.length):W.cell? ⟨g,i.toNat,none⟩=some (enc (rF d xs i))∧W.frozen? ⟨g,i.toNat,none⟩=false:=XE (wt h) i h0 hi
theorem a2n(h:(iq enc h1).R e W base ok (.slice (some ⟨g,0,none⟩) xs.length cap) xs)(i:Int)(x:α):(iq enc h1).R e (W.setCell ⟨g,i.toNat,none⟩ (enc x)) base ok (.slice (some ⟨g,0,none⟩) xs.length cap) (xs.set i.toNat x)∧W.grownBy (W.setCell ⟨g,i.toNat,none⟩ (enc x)) (some g):=by
 obtain⟨ho,hg⟩:=Wk (wt h) i x;exact⟨Xw (by rw[aar];exact ho) h.1,hg⟩
end
section
variable {P : Program} {ops : Array Oper} {rest : List Oper} {o : Oper} {a : Act} {Q : Exit → Act → World → Prop}
theorem Ia {W w1:World}{v:Value}(hgd:o.guard=none)(hrun:(execOp a.eval o).run P W= .ok (.value v) w1)(h:wpList P ops Q rest (a.put o.dst v) w1):wpList P ops Q (o::rest) a W:=by
 refine wpList_plain hgd fun K hK=> ?_
 unfold aaO;rw[hrun];exact hK _ _ h
variable {α : Type}
theorem vP(d:Kd α){w0 W:World}(base e:Nat)(hgd:o.guard=none){N:Tmp}(_hd:o.dst=some N){xs:List α}{inner:List Value}{ok okp:Nat→Prop}
 (hrun:(execOp a.eval o).run P W= .ok (.value (.slice (some ⟨W.heap.size,0,none⟩) xs.length xs.length)) (W.alloc (.cells inner.toArray e)))
 (hrep:cR (d.M W base okp) d.sz xs inner)(hok:∀k,okp k→ok k)(hfresh:ok W.heap.size)(HB:Below base w0 W)(hbase:base≤W.heap.size)(hm:xs.length≤9223372036854775807)
 (h:∀v1 w1,d.R e w1 base ok v1 xs→Below base w0 w1→W.grownBy w1 none→(∃b,v1.ownBlock=some b∧W.heap.size≤b)→wpList P ops Q rest (a.put o.dst v1) w1):wpList P ops Q (o::rest) a W:=by
 refine Ia hgd hrun (h _ _ ⟨fun k hk=> ?_,inner, ?_, ?_⟩ (HB.alloc hbase _) (abB W _ none) ⟨W.heap.size,by simp[aas],kV _⟩)
 ·have:W.heap.size=k:=by simpa[aas]using hk
  subst this;exact hfresh
 ·have h2:=World.ownsRow_lit (base:=base) (e:=e) (size:=d.sz) W inner.toArray xs.length hbase (by simpa[maxLen]using hm) (by simpa using hrep.1)
  simpa using h2
 ·refine hrep.jP (fun p c hp=>d.M_mono (fun k hk=>⟨hok k hk.1,fun he=> ?_⟩) (Oc (d.M_bound hp) (dH (aag _ _) _)))
  have h3:k=W.heap.size:=by simpa[aas]using he
  have:=hk.2.2.1
  omega
theorem XF {α:Type}{R:α→List Value→Prop}{z:Value}{size:Nat}{z0:α}(hz:z.cells.size=size)(hs:0<size)(h0:R z0 z.cells.toList)(m:Nat):cR R size (List.replicate m z0) (madeCells z.cells (m*size)).toList:=by
 refine⟨by simp[size_madeCells],fun j p hj=> ?_⟩;obtain⟨hjl,hp⟩:=aaE.1 hj
 have hjm:j<m:=by simpa using hjl
 have hp':z0=p:=by simpa using hp
 subst hp'
 have hle:j*size+size≤m*size:=by rw[←aaR];exact aap _ hjm
 have:((madeCells z.cells (m*size)).toList.drop (j*size)).take size=z.cells.toList:=by
  apply List.ext_getElem
  ·simp[size_madeCells,hz]
   omega
  ·intro i h1 h2
   have hi:i<size:=by rw[abA,hz]at h2;exact h2
   have hmod:(j*size+i) %size=i:=by
    rw[Nat.mul_comm,Nat.mul_add_mod];exact Nat.mod_eq_of_lt hi
   simp[madeCells,hz,hmod]
   rw[getElem!_pos z.cells i (by omega)]
 rw[this];exact h0
theorem Qi(d:Kd α){w0 W:World}(base e:Nat)(hgd:o.guard=none){N:Tmp}(hd:o.dst=some N)(t:TypeId)(x y:Operand)(ho:o.op= .makeSlice t x y)(n:Int)(hx:a.eval x= .int .i64 n)(hy:a.eval y= .int .i64 n)
 (ht:P.underlying t=some (.slice e))(z:Value)(bytes:Nat)(hinfo:(P.info? e).map (fun i=>(i.zero,i.size,i.bytes))=some (some z,d.sz,bytes))(hz:z.cells.size=d.sz)(hs0:0<d.sz)(hb0:0<bytes)
 (z0:α){ok okp:Nat→Prop}(hzero:d.M W base okp z0 z.cells.toList)(hok:∀k,okp k→ok k)(hfresh:ok W.heap.size)(h0:0≤n)(hl:n.toNat*bytes≤281474976710656)(HB:Below base w0 W)(hbase:base≤W.heap.size)
 (h:∀v1 w1,d.R e w1 base ok v1 (List.replicate n.toNat z0)→Below base w0 w1→W.grownBy w1 none→(∃b,v1.ownBlock=some b∧W.heap.size≤b)→wpList P ops Q rest (a.put o.dst v1) w1):wpList P ops Q (o::rest) a W:=by
 obtain⟨m,rfl⟩:=Int.eq_ofNat_of_zero_le h0;simp only[Int.toNat_natCast]at hl h;obtain⟨i0,hi,hzz⟩:=aaN.1 hinfo;simp only[aad]at hzz;obtain⟨hz0,hz1,hz2⟩:=hzz;have hm:m≤281474976710656:=aaI (abC _ hb0) hl
 have hr:=run_make (P:=P) W t e i0 z ht hi hz0 .i64 .i64 (m:Int) (m:Int) (by omega) (by omega)
  (by
    have h3:((i0.bytes*m:Nat):Int)≤281474976710656:=by rw[hz2,Nat.mul_comm];omega
    rwa [Int.natCast_mul]at h3) (by omega)
 simp only[Int.toNat_natCast]at hr;rw[hz1]at hr;refine vP d base e hgd hd (xs:=aaA m z0) (inner:=(madeCells z.cells (m*d.sz)).toList) (okp:=okp) (ok:=ok) ?_ (XF hz hs0 hzero m) hok hfresh HB hbase (by simp;omega) h
 simp[execOp,ho,hx,hy,hr]
end
end Kd
theorem Xx {w:World}{base n m c size:Nat}{e:TypeId}{A:Option Addr}{xs:List Value}(h:w.ownsRow base e size (.slice A n c) n xs)(hm:m≤n):w.ownsRow base e size (.slice A m c) m (xs.take (m*size)):=by
 obtain⟨h1,h2⟩:=h;refine⟨by rw[ca,h1];exact aaT (aap _ hm), ?_⟩
 rcases h2 with⟨he,h0⟩|⟨g,cap,cur,he,hb,hh,hnc,hcm,hcs,ht⟩
 ·injection he with ha _ hc
  subst ha;subst hc;exact .inl ⟨by rw[show m=0 by omega],by omega⟩
 ·injection he with ha _ hc
  subst ha;subst hc;refine .inr ⟨g,c,cur,rfl,hb,hh,by omega,hcm,hcs, ?_⟩;rw[←ht,List.take_take,aaT (aap _ hm)]
section
variable {P : Program}
theorem K9(t e:TypeId)(kh:IntKind){i:TypeInfo}(ht:P.underlying t=some (.slice e))(hi:P.info? e=some i)(A:Option Addr)(n c:Nat)(j:Int)(h0:0≤j)(hm:j≤n)(hc:n≤c):
 ∀W:World,(Instr.slice t (.slice A n c) none (some (.int kh j)) none).run P W= .ok (.slice A j.toNat c) W:=by
 intro W
 have hel:P.elem t=e:=by simp[Program.elem,ht]
 have hu:P.underlying t=some (.slice (P.elem t)):=by rw[hel];exact ht
 have ha:(A.map fun x=>x.add 0)=A:=by cases A<;>simp[ro]
 rw[run_slice_h W t A n c hu kh j h0 (by omega),hel]
 simp[sizeOf,typeInfo,hi,sliced,Result.andThen,ha]
theorem G3(t e:TypeId)(kl:IntKind){i:TypeInfo}(ht:P.underlying t=some (.slice e))(hi:P.info? e=some i)(size:Nat)(hsz:i.size=size)(A:Option Addr)(n c:Nat)(j:Int)(h0:0≤j)(hm:j≤n):
 ∀W:World,(Instr.slice t (.slice A n c) (some (.int kl j)) none none).run P W= .ok (.slice (if c=j.toNat then A else A.map (·.add (j.toNat*size))) (n-j.toNat) (c-j.toNat)) W:=by
 intro W
 have hel:P.elem t=e:=by simp[Program.elem,ht]
 have hu:P.underlying t=some (.slice (P.elem t)):=by rw[hel];exact ht
 rw[run_slice_l W t A n c hu kl j h0 hm,hel]
 simp[sizeOf,typeInfo,hi,hsz,sliced,Result.andThen]
end
def yF(w:World)(base:Nat)(e:TypeId)(size:Nat)(v:Value)(n:Nat)(xs:List Value):Prop:=
 xs.length=n*size∧
 ((n=0∧∃A,v= .slice A 0 0∧∀a,A=some a→base≤a.block∧∃cur,w.heap[a.block]?=some (.cells cur e (0,0)))∨
  ∃g off cap cur,v= .slice (some ⟨g,off*size,none⟩) n cap∧base≤g∧w.heap[g]?=some (.cells cur e (0,0))∧n≤cap∧off+cap≤maxLen∧cur.size=(off+cap)*size∧(cur.toList.drop (off*size)).take (n*size)=xs)
section
variable {w w1 : World} {base n size : Nat} {e : TypeId} {v : Value} {xs : List Value}
theorem Xy(h:w.ownsRow base e size v n xs):yF w base e size v n xs:=by
 obtain⟨h1,h2⟩:=h;refine⟨h1, ?_⟩
 rcases h2 with⟨rfl,h0⟩|⟨g,cap,cur,rfl,hb,hh,hnc,hcm,hcs,ht⟩
 ·exact .inl ⟨h0,none,rfl,fun a ha=>by cases ha⟩
 ·exact .inr ⟨g,0,cap,cur,by rw[Nat.zero_mul],hb,hh,hnc,by rw[abh];exact hcm,by rw[abh];exact hcs,by rw[Nat.zero_mul,List.drop_zero];exact ht⟩
theorem G8(h:yF w base e size v n xs)(k:Nat)(hk:v.ownBlock=some k):base≤k∧∃cells,w.heap[k]?=some (.cells cells e (0,0)):=by
 rcases h.2 with⟨_,A,rfl,hA⟩|⟨g,off,cap,cur,rfl,hg,hh,r⟩
 ·cases A with
  |none=>simp[aas]at hk
  |some a=>
   have:a.block=k:=by simpa[aas]using hk
   subst this;exact hA a rfl
 ·have:g=k:=by simpa[aas]using hk
  subst this;exact⟨hg,cur,hh⟩
theorem a40(h:yF w base e size v n xs)(k:Nat)(hk:v.ownBlock=some k):k<w.heap.size:=by
 obtain⟨_,cells,hc⟩:=G8 h k hk;exact(aa2.1 hc).1
theorem YY(h:yF w base e size v n xs):∃A c,v= .slice A n c∧n≤c:=by
 rcases h.2 with⟨h0,A,rfl,_⟩|⟨g,off,cap,cur,rfl,hg,hh,hnc,r⟩
 ·exact⟨A,0,by rw[h0],by omega⟩
 ·exact⟨_,cap,rfl,hnc⟩
theorem a2o(h:yF w base e size v n xs):n≤9223372036854775807:=by
 rcases h.2 with⟨h0,_⟩|⟨g,off,cap,cur,rfl,hg,hh,hnc,hm,r⟩
 ·omega
 ·simp only[maxLen]at hm
  omega
theorem xX(g o j:Nat):(⟨g,o,none⟩:Addr).add j=⟨g,o+j,none⟩:=by unfold ro;split<;>simp_all
theorem Od {A:Option Addr}{c:Nat}(h:yF w base e size (.slice A n c) n xs)(hn:0<n):∃ad,A=some ad∧∀j u,xs[j]?=some u→w.cell? (ad.add j)=some u:=by
 rcases h.2 with⟨h0,_⟩|⟨g,off,cap,cur,he,hg,hh,hnc,hm,hcs,ht⟩
 ·omega
 ·injection he with ha _ hc
  subst ha;refine⟨_,rfl,fun j u hu=> ?_⟩;rw[xX,cell_of_row w g _ cur e (0,0) hh];rw[←ht,aaz]at hu
  split at hu
  ·rw[aaC]at hu
   rw[←ab7];exact hu
  ·cases hu
theorem Fi {g:Nat}:∀ (vs:List Value) (o:Nat) {w:World} (k:Nat),k≠g→(w.setCells g o vs).heap[k]?=w.heap[k]?
 |[],_,_,_,_=>rfl
 |v::r,o,w,k,hk=>by
  rw[World.setCells,Fi r (o+1) k hk];exact aa1 w ⟨g,o,none⟩ v k hk
theorem Fg(g:Nat):∀ (vs:List Value) (o:Nat) (w:World),(w.setCells g o vs).os=w.os∧(w.setCells g o vs).tape=w.tape∧(w.setCells g o vs).output=w.output∧(w.setCells g o vs).heap.size=w.heap.size
 |[],_,_=>⟨rfl,rfl,rfl,rfl⟩
 |v::r,o,w=>by
  obtain⟨h1,h2,h3,h4⟩:=Fg g r (o+1) (w.setCell ⟨g,o,none⟩ v);rw[World.setCells];exact⟨h1,h2,h3,by rw[h4];simp[abd]⟩
theorem Fj {g:Nat}{e:TypeId}:∀ (vs:List Value) (o:Nat) (w:World) (cur:Array Value),w.heap[g]?=some (.cells cur e (0,0))→o+vs.length≤cur.size→
 ∃cur',(w.setCells g o vs).heap[g]?=some (.cells cur' e (0,0))∧cur'.size=cur.size∧cur'.toList=cur.toList.take o++vs++cur.toList.drop (o+vs.length)
 |[],o,w,cur,h,_=>⟨cur,h,rfl,by simp⟩
 |v::r,o,w,cur,h,hl=>by
  have h2:=G7 h o v;simp only[ab5]at hl;obtain⟨cur',h3,h4,h5⟩:=Fj r (o+1) (w.setCell ⟨g,o,none⟩ v) _ h2 (by simp;omega);refine⟨cur',h3,by rw[h4];simp, ?_⟩;rw[h5,Array.toList_setIfInBounds]
  have ho:o<cur.toList.length:=by rw[abA];omega
  rw[List.take_set,List.drop_set_of_lt (by omega)];simp only[ab5];rw[show o+1+r.length=o+(r.length+1) by omega]
  congr 1
  rw[abw ho,List.set_append_right _ _ (by rw[ca];omega)]
  have ho':o<cur.size:=by omega
  simp[aaT (Nat.le_of_lt ho')]
end
section
variable {P : Program}
end
namespace Kd
theorem Ib {α:Type}{R:α→List Value→Prop}{size m:Nat}{ps:List α}{cs:List Value}(h:cR R size ps cs)(hm:m≤ps.length):cR R size (ps.take m) (cs.take (m*size)):=by
 refine⟨by rw[ca,ca,h.1,aaT hm,aaT (aap _ hm)],fun j p hj=> ?_⟩;rw[aaz]at hj
 split at hj
 ·rename_i hjm
  have:=h.2 j p hj
  have hle:j*size+size≤m*size:=by rw[←aaR];exact aap _ hjm
  rw[List.drop_take,List.take_take,aaT (by omega)];exact this
 ·cases hj
theorem Qj {α:Type}{d:Kd α}{e m n c:Nat}{w:World}{base:Nat}{ok:Nat→Prop}{A:Option Addr}{xs:List α}(h:d.R e w base ok (.slice A n c) xs)(hm:m≤xs.length):d.R e w base ok (.slice A m c) (xs.take m):=by
 obtain⟨h0,inner,ho,hr⟩:=h
 have hn:n=xs.length:=by
  obtain⟨A',c',he⟩:=XD ho;injection he
 subst hn
 have hb:∀x y:Nat,(aa6 A x c).ownBlock=(aa6 A y c).ownBlock:=by
  intro x y
  cases A<;>rfl
 refine⟨fun k hk=>h0 k (by rw[hb _ m];exact hk),inner.take (m*d.sz), ?_, ?_⟩
 ·rw[ca,aaT hm]
  exact Xx ho hm
 ·rw[hb m xs.length]
  exact Ib hr hm
def Q {α:Type}(d:Kd α)(e:Nat)(w:World)(base:Nat)(ok:Nat→Prop)(v:Value)(xs:List α):Prop:=
 (∀k,v.ownBlock=some k→ok k)∧∃inner,yF w base e d.sz v xs.length inner∧cR (d.M w base (fun k=>ok k∧some k≠v.ownBlock)) d.sz xs inner
section
variable {α : Type} {d : Kd α} {e : Nat} {w w1 W : World} {base : Nat} {ok ok' : Nat → Prop} {v : Value} {xs : List α}
theorem a09(h:d.R e w base ok v xs):d.Q e w base ok v xs:=by
 obtain⟨h0,inner,ho,hr⟩:=h;exact⟨h0,inner,Xy ho,hr⟩
theorem lh(d:Kd α)(e:Nat)(w:World)(base:Nat)(ok:Nat→Prop):d.Q e w base ok (.slice none 0 0) []:=a09 (kA d e w base ok)
theorem a1a(h:d.Q e w base ok v xs)(hok:∀k,ok k→ok' k):d.Q e w base ok' v xs:=by
 obtain⟨h0,inner,ho,hr⟩:=h;exact⟨fun k hk=>hok k (h0 k hk),inner,ho,hr.jP (fun _ _ hp=>d.M_mono (fun k hk=>⟨hok k hk.1,hk.2⟩) hp)⟩
theorem YZ(h:d.Q e w base ok v xs):d.Q e w base (fun k=>ok k∧base≤k∧k<w.heap.size∧∃q,q∈e::d.E∧∃cells,w.heap[k]?=some (.cells cells q (0,0))) v xs:=by
 obtain⟨h0,inner,ho,hr⟩:=h;refine⟨fun k hk=> ?_,inner,ho,hr.jP (fun _ _ hp=>d.M_mono (fun k hk=> ?_) (d.M_bound hp))⟩
 ·obtain⟨hb,cells,hc⟩:=G8 ho k hk
  exact⟨h0 k hk,hb,a40 ho k hk,e,abE,cells,hc⟩
 ·obtain⟨⟨h1,h2⟩,h3,h4,q,hq,hc⟩:=hk
  exact⟨⟨h1,h3,h4,q,abP _ hq,hc⟩,h2⟩
theorem Ya(h:d.Q e w base ok v xs){g t:Nat}{cells:Array Value}(hb:w.heap[g]?=some (.cells cells t (0,0)))(ht:∀q,q∈e::d.E→q≠t):d.Q e w base (fun k=>ok k∧k≠g) v xs:=
 a1a (YZ h) (fun k hk=>⟨hk.1,by
  obtain⟨_,_,_,q,hq,cells',hc⟩:=hk;rintro rfl;rw[hc]at hb
  injection hb with hb
  injection hb with _ hb
  exact ht q hq hb⟩)
theorem a41(h:d.Q e w base ok v xs){g t:Nat}{cells:Array Value}(hb:w.heap[g]?=some (.cells cells t (0,0)))(ht:e≠t):some g≠v.ownBlock:=by
 obtain⟨_,inner,ho,_⟩:=h;intro he;obtain⟨_,cells',hc⟩:=G8 ho g he.symm;rw[hc]at hb
 injection hb with hb
 injection hb with _ hb
 exact ht hb
theorem J2 {A:Option Addr}{n c:Nat}(h:d.Q e w base ok (.slice A n c) xs):n=xs.length∧n≤c∧d.C w A xs.length xs:=by
 obtain⟨_,inner,ho,hr⟩:=h;obtain⟨A',c',he,hl⟩:=YY ho
 injection he with h1 h2 h3
 subst h1;subst h2;subst h3;refine⟨rfl,hl,rfl,a2o ho,fun hp=> ?_⟩;obtain⟨ad,ha,hc⟩:=Od ho hp;refine⟨ad,ha,fun j p hj=>⟨(inner.drop (j*d.sz)).take d.sz, ?_,d.K_of_M (hr.2 j p hj),fun i u hu=> ?_⟩⟩
 ·have hjl:=(aaE.1 hj).1
  have h1:j*d.sz+d.sz≤inner.length:=by rw[hr.1,←aaR];exact aap _ hjl
  rw[ca,fF]
  omega
 ·refine hc _ u ?_
  rw[aaz]at hu
  split at hu
  ·rw[aaC]at hu
   exact hu
  ·cases hu
end
section
variable {P : Program} {ops : Array Oper} {rest : List Oper} {o : Oper} {a : Act} {Q' : Exit → Act → World → Prop} {Kc : Act → World → Prop} {α : Type}
end
end Kd
namespace Kd
section
variable {α : Type} {d : Kd α} {e e' : Nat} {w w1 W : World} {base : Nat} {ok : Nat → Prop} {u v : Value} {xs : List α}
theorem e7(hu:d.R e W base ok u xs)(hbase:∀k,v.ownBlock=some k→W.heap.size≤k)(hb:Below W.heap.size W w1):d.R e w1 base (fun k=>ok k∧some k≠v.ownBlock) u xs:=
 am (GT (uQ hu) (fun k hk=>hb.block k hk.2.2.1)) (fun k hk=>⟨hk.1,fun he=>by have:=hbase k he.symm;have:=hk.2.2.1;omega⟩)
theorem eB(h:d.R e w1 W.heap.size ok v xs)(hlt:∀k,u.ownBlock=some k→k<W.heap.size):d.R e w1 W.heap.size (fun k=>ok k∧some k≠u.ownBlock) v xs:=
 am (uQ h) (fun k hk=>⟨hk.1,fun he=>by have:=hlt k he.symm;have:=hk.2.1;omega⟩)
theorem fresh'(hlt:∀k,u.ownBlock=some k→k<W.heap.size):∀k,W.heap.size≤k→some k≠u.ownBlock:=fun k hk he=>by have:=hlt k he.symm;omega
end
end Kd
theorem qJ {α:Type}(a seg:List α)(o:Nat)(h:o+seg.length≤a.length)(q:Nat):
 (a.take o++seg++a.drop (o+seg.length))[q]?=if q<o then a[q]? else if q<o+seg.length then seg[q-o]? else a[q]?:=by
 have hl:(a.take o).length=o:=by rw[ca];omega
 rw[List.append_assoc]
 by_cases h1:q<o
 ·rw[if_pos h1,aaW (by omega),aaz,if_pos h1]
 ·rw[if_neg h1,abq (by omega),hl]
  by_cases h2:q<o+seg.length
  ·rw[if_pos h2,aaW (by omega)]
  ·rw[if_neg h2,abq (by omega),aaC]
   congr 1
   omega
namespace Kd
section
variable {α : Type} {d : Kd α} {e base g n cap : Nat} {ok okp : Nat → Prop} {W : World} {xs : List α}
theorem kc(h:d.R e W base ok (.slice (some ⟨g,0,none⟩) n cap) xs)(z:α)(i:Int)(h0:0≤i)(h1:i<n):
 ∃c,c.length=d.sz∧d.M W base (fun k=>ok k∧k≠g) (xs.getD i.toNat z) c∧(∀j u,c[j]?=some u→W.cell? ⟨g,i.toNat*d.sz+j,none⟩=some u)∧∀j,W.frozen? ⟨g,i.toNat*d.sz+j,none⟩=false:=by
 obtain⟨hn,hnc,hC⟩:=cM h;obtain⟨_,inner,ho,hr⟩:=h
 have hil:i.toNat<xs.length:=by omega
 have hseg:i.toNat*d.sz+d.sz≤inner.length:=by rw[hr.1,←aaR];exact aap _ hil
 have hM:=hr.2 i.toNat _ (aak hil);refine⟨(inner.drop (i.toNat*d.sz)).take d.sz,by rw[ca,fF];omega, ?_,fun j u hu=> ?_,fun j=> ?_⟩
 ·rw[aam,aak hil]
  exact d.M_mono (fun k hk=>⟨hk.1,fun he=>hk.2 (by rw[he];simp[aas])⟩) hM
 ·rw[aaz]at hu
  split at hu
  ·rw[aaC]at hu
   have:=ho.cells (g:=g) (by simp[aas]) _ u hu
   rwa [j6]at this
  ·cases hu
 ·obtain⟨cells,hc⟩:=IZ ho g (by simp[aas])
  exact dD hc _
theorem su(h:d.R e W base ok (.slice (some ⟨g,0,none⟩) n cap) xs)(i:Int)(h0:0≤i)(h1:i<n){c seg:List Value}{j:Nat}(hcl:c.length=d.sz)(hcc:∀j u,c[j]?=some u→W.cell? ⟨g,i.toNat*d.sz+j,none⟩=some u)
 (hj:j+seg.length≤d.sz){x':α}(hM:d.M W base okp x' (c.take j++seg++c.drop (j+seg.length)))(hokp:∀k,okp k→ok k∧k≠g):
 d.R e (W.setCells g (i.toNat*d.sz+j) seg) base ok (.slice (some ⟨g,0,none⟩) n cap) (xs.set i.toNat x')∧W.grownBy (W.setCells g (i.toNat*d.sz+j) seg) (some g):=by
 obtain⟨hn,hnc,_⟩:=cM h;obtain⟨hok,inner,ho,hr⟩:=h
 have hil:i.toNat<xs.length:=by omega
 have hseg:i.toNat*d.sz+d.sz≤inner.length:=by rw[hr.1,←aaR];exact aap _ hil
 have hin:inner.length=n*d.sz:=by rw[hr.1,hn]
 obtain⟨ho1,ho2⟩:=ho
 rcases ho2 with⟨hv,_⟩|⟨g',cap',cur,hv,hb,hh,hnc',hcm,hcs,ht⟩
 ·cases hv
 injection hv with ha _ hc
 injection ha with ha
 injection ha with hg
 subst hg;subst hc
 have hfit:i.toNat*d.sz+j+seg.length≤cur.size:=by
  have:n*d.sz≤cap*d.sz:=aap _ hnc
  omega
 obtain⟨cur',h3,h4,h5⟩:=Fj seg (i.toNat*d.sz+j) W cur hh hfit;obtain⟨s1,s2,s3,s4⟩:=Fg g seg (i.toNat*d.sz+j) W
 have hfar:∀k,k≠g→(W.setCells g (i.toNat*d.sz+j) seg).heap[k]?=W.heap[k]?:=fun k hk=>Fi seg _ k hk
 have hcin:∀q,q<d.sz→c[q]?=inner[i.toNat*d.sz+q]?:=by
  intro q hq
  have hq':q<c.length:=by omega
  have h6:=hcc q _ (aak hq');rw[cell_of_row W g _ cur e (0,0) hh]at h6;rw[aak hq',←h6,←ht,aaz,if_pos (by rw[←hn];omega),ab7]
 refine⟨⟨hok,inner.take (i.toNat*d.sz+j)++seg++inner.drop (i.toNat*d.sz+j+seg.length),⟨?_,.inr ⟨g,cap,cur',by rw[aar,hn],hb,h3,by rw[aar,←hn];exact hnc,hcm,by rw[h4,hcs], ?_⟩⟩, ?_⟩,
  ⟨s1,s2,s3,by rw[s4];exact kV _,fun k _ hk=>hfar k (fun he=>hk (by rw[he]))⟩⟩
 ·rw[aar]
  simp only[aau,ca,fF];rw[hr.1]at hseg⊢
  omega
 ·rw[aar,←hn]
  apply abi;intro q;rw[aaz,h5];rw[qJ cur.toList seg (i.toNat*d.sz+j) (by rw[abA];omega) q,qJ inner seg (i.toNat*d.sz+j) (by omega) q]
  have hcur:∀q,q<n*d.sz→cur.toList[q]?=inner[q]?:=by
   intro q hq;rw[←ht,aaz,if_pos (by rw[←hn];exact hq)]
  by_cases hq:q<n*d.sz
  ·rw[if_pos hq,hcur q hq]
  ·rw[if_neg hq,if_neg (by omega),if_neg (by omega),aaX (by omega)]
 ·refine⟨?_,fun m p hm=> ?_⟩
  ·rw[aar]
   simp only[aau,ca,fF];rw[hr.1]at hseg⊢
   omega
  ·have hml:m<xs.length:=by
    have:=(aaE.1 hm).1
    rwa [aar]at this
   have hmfit:m*d.sz+d.sz≤inner.length:=by rw[hr.1,←aaR];exact aap _ hml
   have hgo:some g=(aa6 (some ⟨g,0,none⟩) n cap).ownBlock:=by simp[aas]
   by_cases hmi:m=i.toNat
   ·subst hmi
    rw[List.getElem?_set_self (by omega)]at hm
    injection hm with hm
    subst hm
    have hcells:((inner.take (i.toNat*d.sz+j)++seg++inner.drop (i.toNat*d.sz+j+seg.length)).drop (i.toNat*d.sz)).take d.sz=c.take j++seg++c.drop (j+seg.length):=by
     apply abi;intro q;rw[aaz,aaC,qJ inner seg _ (by omega),qJ c seg j (by omega) q]
     by_cases hq:q<d.sz
     ·rw[if_pos hq,hcin q hq]
      by_cases hq1:q<j
      ·rw[if_pos (by omega),if_pos hq1]
      ·rw[if_neg (by omega),if_neg hq1]
       by_cases hq2:q<j+seg.length
       ·rw[if_pos (by omega),if_pos hq2]
        congr 1
        omega
       ·rw[if_neg (by omega),if_neg hq2]
     ·rw[if_neg hq,if_neg (by omega),if_neg (by omega),aaX (by omega)]
    rw[hcells];refine d.M_mono (fun k hk=> ?_) (d.M_move (w1:=W.setCells g (i.toNat*d.sz+j) seg) (fun k hk=>hfar k (hokp k hk).2) hM);exact⟨(hokp k hk).1,fun he=>(hokp k hk).2 (by rw[←hgo]at he;injection he)⟩
   ·rw[List.getElem?_set_ne (by omega)]at hm
    have hold:=hr.2 m p hm
    have hcells:((inner.take (i.toNat*d.sz+j)++seg++inner.drop (i.toNat*d.sz+j+seg.length)).drop (m*d.sz)).take d.sz=(inner.drop (m*d.sz)).take d.sz:=by
     apply abi;intro q;rw[aaz,aaz,aaC,aaC,qJ inner seg _ (by omega)]
     by_cases hq:q<d.sz
     ·rw[if_pos hq,if_pos hq]
      rcases Nat.lt_or_gt_of_ne hmi with hlt|hgt
      ·have:m*d.sz+d.sz≤i.toNat*d.sz:=by rw[←aaR];exact aap _ hlt
       rw[if_pos (by omega)]
      ·have:i.toNat*d.sz+d.sz≤m*d.sz:=by rw[←aaR];exact aap _ hgt
       rw[if_neg (by omega),if_neg (by omega)]
     ·rw[if_neg hq,if_neg hq]
    rw[hcells];refine d.M_move (fun k hk=>hfar k (fun he=>hk.2 (by rw[he];exact hgo))) hold
end
end Kd
namespace Kd
def fixed {α:Type}(d:Kd α)(w0:World):Kd α where
 sz:=d.sz
 E:=[]
 K:=fun _ x cs=>d.K w0 x cs
 M:=fun _ _ _ x cs=>d.K w0 x cs
 K_len:=d.K_len
 K_one:=d.K_one
 K_below:=fun _ h=>h
 K_of_M:=fun h=>h
 M_mono:=fun _ h=>h
 M_bound:=fun h=>h
 M_move:=fun _ h=>h
 M_lower:=fun _ h=>h
def or_ {α:Type}(a b:Kd α)(h:b.sz=a.sz):Kd α where
 sz:=a.sz
 E:=a.E++b.E
 K:=fun w x cs=>a.K w x cs∨b.K w x cs
 M:=fun w base ok x cs=>a.M w base ok x cs∨b.M w base ok x cs
 K_len:=fun hk=>hk.elim a.K_len (fun hk=>(b.K_len hk).trans h)
 K_one:=fun hk=>hk.elim a.K_one b.K_one
 K_below:=fun hb hk=>hk.imp (a.K_below hb) (b.K_below hb)
 K_of_M:=fun hk=>hk.imp a.K_of_M b.K_of_M
 M_mono:=fun hok hk=>hk.imp (a.M_mono hok) (b.M_mono hok)
 M_bound:=fun hk=>hk.imp
  (fun hk=>a.M_mono (fun _ ⟨h1,h2,h3,q,hq,hc⟩=>⟨h1,h2,h3,q,List.mem_append_left _ hq,hc⟩) (a.M_bound hk))
  (fun hk=>b.M_mono (fun _ ⟨h1,h2,h3,q,hq,hc⟩=>⟨h1,h2,h3,q,List.mem_append_right _ hq,hc⟩) (b.M_bound hk))
 M_move:=fun hm hk=>hk.imp (a.M_move hm) (b.M_move hm)
 M_lower:=fun hb hk=>hk.imp (a.M_lower hb) (b.M_lower hb)
section
variable {α : Type} {F : Kd α → Kd α} {sz : Nat} {E : List Nat} {hs : ∀ n, (upto F sz E n).sz = sz} {hE : ∀ n q, q ∈ (upto F sz E n).E → q ∈ E}
end
end Kd
namespace Kd
theorem IS {α:Type}{R:α→List Value→Prop}{size:Nat}{ps qs:List α}{cs ds:List Value}(h:cR R size ps cs)(h':cR R size qs ds):cR R size (ps++qs) (cs++ds):=by
 refine⟨by rw[aau,aau,h.1,h'.1,abZ],fun j p hj=> ?_⟩
 rcases abN j ps.length with hlt|hge
 ·rw[aaW hlt]at hj
  have hle:j*size+size≤cs.length:=by rw[h.1,←aaR];exact aap _ hlt
  rw[List.drop_append_of_le_length (by omega),abM (by rw[fF];omega)];exact h.2 j p hj
 ·rw[abq hge]at hj
  have h2:=h'.2 (j-ps.length) p hj;have hle:ps.length*size≤j*size:=aap _ hge;rw[List.drop_append,List.drop_eq_nil_of_le (by rw[h.1];exact hle),List.nil_append,h.1,←Nat.sub_mul];exact h2
section
variable {P : Program} {ops : Array Oper} {rest : List Oper} {o : Oper} {a : Act} {Q : Exit → Act → World → Prop} {α : Type}
theorem Fh(d:Kd α){Rr:α→List Value→Prop}{w0 W:World}(base:Nat)(hgd:o.guard=none)(s x:Operand)(t e:TypeId)(z:Value)(bytes:Nat)
 (ho:o.op= .call {callee:= .builtin .append,args:= #[s,x],argTypes:= #[t,t]})
 (ht:P.underlying t=some (.slice e))(hinfo:(P.info? e).map (fun i=>(i.zero,i.size,i.bytes))=some (some z,d.sz,bytes))(hz:z.cells.size=d.sz)(hs0:0<d.sz)(hb0:0<bytes)
 (v:Value)(xs ys:List α)(A:Option Addr)(m c:Nat)(ok okp:Nat→Prop)(hs:a.eval s=v)(hx:a.eval x= .slice A m c)
 (HO:d.R e W base ok v xs)(HR:kY Rr d.sz W A m ys)(hKM:∀x cs,Rr x cs→d.M W base okp x cs)(hokp:∀k,okp k→ok k∧some k≠v.ownBlock)(hfresh:∀k,W.heap.size≤k→ok k)
 (HB:Below base w0 W)(hbase:base≤W.heap.size)(hl:(xs.length+m)*bytes≤140737488355328)
 (h:∀v1 w1,d.R e w1 base ok v1 (xs++ys)→Below base w0 w1→W.grownBy w1 v.ownBlock→(v1.ownBlock=v.ownBlock∨∃b,v1.ownBlock=some b∧W.heap.size≤b)→wpList P ops Q rest (a.put o.dst v1) w1):
 wpList P ops Q (o::rest) a W:=by
 obtain⟨i0,hi,hzz⟩:=aaN.1 hinfo;simp only[aad]at hzz;obtain⟨hz0,hz1,hz2⟩:=hzz;have hm:ys.length=m:=HR.1;have hlen:xs.length+m≤140737488355328:=aaI (abC _ hb0) hl;obtain⟨hok,inner,hown,hr⟩:=HO
 have hrun:∃v1 w1,(Builtin.append_ #[t,t] o.type #[v,.slice A m c]).run P W= .ok v1 w1∧d.R e w1 base ok v1 (xs++ys)∧W.grownBy w1 v.ownBlock∧(v1.ownBlock=v.ownBlock∨∃b,v1.ownBlock=some b∧W.heap.size≤b):=by
  rcases A with _|ad
  ·have h0:m=0:=by
    rcases abD m with h0|h0
    ·exact h0
    ·obtain⟨ad,h,_⟩:=HR.2.2 h0
     cases h
   subst h0;obtain rfl:ys=[]:=abL hm;refine⟨v,W, ?_,by rw[List.append_nil];exact⟨hok,inner,hown,hr⟩,World.grownBy.refl W _,.inl rfl⟩
   rcases hown.2 with⟨rfl,hn⟩|⟨g,cap,cur,rfl,_,_,hnc,_⟩
   ·simp[Builtin.append_,run_underlying ht,sizeOf,typeInfo,hi,Builtin.lenOf,abU]
   ·simp[Builtin.append_,run_underlying ht,sizeOf,typeInfo,hi,Builtin.lenOf,abU,hnc,storeCells]
  ·obtain⟨news,hnr,hnc⟩:=kY.Qg HR
   have hnM:cR (d.M W base okp) d.sz ys news:=hnr.jP (fun p c hp=>hKM p c hp)
   have hone:∀u∈news,u.oneCell'=true:=by
    intro u hu;obtain⟨q,hq,rfl⟩:=List.mem_iff_getElem.1 hu
    have hql:q/d.sz<ys.length:=by
     rw[Nat.div_lt_iff_lt_mul hs0];rw[←hnM.1];exact hq
    have hc:=hnM.2 (q/d.sz) _ (aak hql);refine d.K_one (d.K_of_M hc) _ ?_;rw[List.mem_iff_getElem?];refine⟨q%d.sz, ?_⟩;rw[aaz,if_pos (Nat.mod_lt _ hs0),aaC,Nat.mul_comm,Nat.div_add_mod,aak hq]
   obtain⟨v1,w1,hrun,h2,hg,_,hat⟩:=run_append_own_at (P:=P) W base t o.type e i0 z d.sz bytes ht hi hz0 hz1 hz2 hz hs0 v xs.length inner hown ad m c news (by rw[hnM.1,hm]) hnc hone (by simp only[maxLen];omega) hl hbase
   have hat':v1.ownBlock=v.ownBlock∨∃b,v1.ownBlock=some b∧W.heap.size≤b:=by
    rcases hat with hat|hat
    ·exact .inl hat
    ·exact .inr ⟨_,hat,kV _⟩
   have hne:∀k,some k≠v.ownBlock→k<W.heap.size→some k≠v1.ownBlock:=by
    intro k hk hlt
    rcases hat' with hat|⟨b,hb,hle⟩
    ·rw[hat];exact hk
    ·rw[hb]
     intro he
     injection he with he
     omega
   have step:∀ {q:α}{c:List Value}{o:Nat→Prop},d.M W base o q c→(∀k,o k→ok k∧some k≠v.ownBlock)→d.M w1 base (fun k=>ok k∧some k≠v1.ownBlock) q c:=by
    intro q c o hq ho;have h1:=d.M_move (w1:=w1) (fun k hk=>hg.block k hk.2.2.1 (ho k hk.1).2) (d.M_bound hq);exact d.M_mono (fun k hk=>⟨(ho k hk.1).1,hne k (ho k hk.1).2 hk.2.2.1⟩) h1
   refine⟨v1,w1,hrun,⟨fun k hk=> ?_,inner++news,by rw[aau,hm];exact h2,IS (hr.jP (fun _ _ hq=>step hq (fun _ hk=>hk))) (hnM.jP (fun _ _ hq=>step hq hokp))⟩,hg,hat'⟩
   rcases hat' with hat|⟨b,hb,hle⟩
   ·exact hok k (hat▸hk)
   ·rw[hb]at hk
    injection hk with hk
    exact hfresh k (by omega)
 obtain⟨v1,w1,hr1,h1,hg,hat⟩:=hrun
 refine wpList_plain hgd fun K hK=> ?_
 unfold aaO execOp;simp only[ho,resolve,invoke,builtin,Sem.run_bind,Sem.run_pure,aa3,fT,gJ,j5,hs,hx,hr1];exact hK _ _ (h v1 w1 h1 (HB.grown hg hbase (ws hown)) hg hat)
end
end Kd
namespace Kd
section
variable {P : Program} {ops : Array Oper} {rest : List Oper} {o : Oper} {a : Act} {Q : Exit → Act → World → Prop} {α : Type}
end
end Kd
theorem Yb(a:Addr)(i j:Nat):(a.add i).add j=a.add (i+j):=by
 unfold ro
 by_cases h1:i=0<;>by_cases h2:j=0<;>simp[h1,h2,Nat.add_assoc]
namespace Kd
section
variable {α : Type} {k : Kd α} {w : World} {A : Option Addr} {xs : List α} {m c : Nat}
theorem KA(h:k.C w A xs.length xs)(hm:m≤xs.length)(hc:xs.length≤c):k.C w (if c=m then A else A.map (·.add (m*k.sz))) (xs.drop m).length (xs.drop m):=by
 have hl:(xs.drop m).length=xs.length-m:=fF;refine⟨rfl,by rw[hl];have:=h.2.1;omega,fun hp=> ?_⟩;rw[hl]at hp;obtain⟨ad,rfl,hcell⟩:=h.2.2 (by omega);rw[if_neg (by omega)];refine⟨ad.add (m*k.sz),rfl,fun j p hj=> ?_⟩;rw[aaC]at hj;obtain⟨cs,h1,h2,h3⟩:=hcell (m+j) p hj;refine⟨cs,h1,h2,fun i u hu=> ?_⟩;rw[Yb,show m*k.sz+(j*k.sz+i)=(m+j)*k.sz+i by rw[abZ];omega];exact h3 i u hu
end
end Kd
section
variable {P : Program}
end
theorem eo {w W:World}(h:Below w.heap.size w W):w.heap.size≤W.heap.size:=h.size
theorem aM {w W w2:World}(h:Below w.heap.size w W)(k:Below W.heap.size W w2):Below w.heap.size w w2:=Wt h h.size k
theorem lK.nil(W:World)(k:IntKind):lK W k none ([]:List Int).length []:=⟨rfl,by simp,fun h=>absurd h (Nat.lt_irrefl 0)⟩
theorem lK.drewN {W:World}{k:IntKind}{A:Option Addr}{n:Nat}{xs:List Int}(h:lK W k A n xs)(m:Nat):lK (W.drewN m) k A n xs:=h
theorem cn {w W:World}{g j:Nat}{v:Value}(h:Below w.heap.size w W)(hg:w.heap.size≤g):Below w.heap.size w (W.setCell ⟨g,j,none⟩ v):=h.setCell hg _
theorem Fm {w W:World}{g:Nat}{row:Option Nat}(h:az w W g row)(m:Nat):az w (W.drewN m) g row:=h
theorem Fn {w W:World}{g:Nat}(h:az w W g none)(o:Obj):az w (W.alloc o) g none:=h.trans (az.J1 (abB W o none) g) (.inl rfl)
theorem mJ {w W:World}{g:Nat}(h:az w W g none){a:Addr}{v:Value}(hc:w.cell? a=some v)(hne:a.block≠g):W.cell? a=some v:=by
 have:=h.2 a.block (Fe w a hc) hne (by simp)
 simpa[aav,this]using hc
theorem aG(a:Addr)(i:Nat):(a.add i).block=a.block:=by unfold Addr.add;split<;>rfl
theorem below_weaken {w0 w w1:World}{B:Nat}(h:Below w0.heap.size w0 w)(hB:w0.heap.size≤B)(k:Below B w w1):Below w0.heap.size w0 w1:=
 h.trans ⟨k.os,k.tape,k.output,k.size,fun i hi=>k.block i (WR hi hB)⟩
theorem XG {w:World}{base:Nat}{e:TypeId}{size n:Nat}{v:Value}{xs:List Value}(h:w.ownsRow base e size v n xs):v.ownBlock=none∨∃b,v.ownBlock=some b∧base≤b:=by
 cases hv:v.ownBlock with
 |none=>exact .inl rfl
 |some b=>exact .inr ⟨b,rfl,ws h b hv⟩
theorem mK {w W:World}{g:Nat}{row:Option Nat}(h:az w W g row):w.heap.size≤W.heap.size:=h.1
theorem jZ.nil {α:Type}(enc:α→Value)(d:α)(W:World):jZ enc d W none ([]:List α).length []:=⟨rfl,by simp,fun h=>absurd h (Nat.lt_irrefl 0)⟩
theorem jZ.drewN {α:Type}{enc:α→Value}{d:α}{W:World}{A:Option Addr}{n:Nat}{xs:List α}(h:jZ enc d W A n xs)(m:Nat):jZ enc d (W.drewN m) A n xs:=h
theorem lK.keep {w W:World}{k:IntKind}{A:Option Addr}{n g:Nat}{xs:List Int}(h:lK w k A n xs)(hk:az w W g none)(hf:∀ad,A=some ad→0<n→ad.block≠g):lK W k A n xs:=
 ⟨h.1,h.2.1,fun hn=>by
   obtain⟨ad,e,hc⟩:=h.2.2 hn
   exact⟨ad,e,fun j hj=>mJ hk (hc j hj) (by rw[aG];exact hf ad e hn)⟩⟩
theorem jZ.keep {α:Type}{enc:α→Value}{d:α}{w W:World}{A:Option Addr}{n g:Nat}{xs:List α}(h:jZ enc d w A n xs)(hk:az w W g none)(hf:∀ad,A=some ad→0<n→ad.block≠g):jZ enc d W A n xs:=
 ⟨h.1,h.2.1,fun hn=>by
   obtain⟨ad,e,hc⟩:=h.2.2 hn
   exact⟨ad,e,fun j hj=>mJ hk (hc j hj) (by rw[aG];exact hf ad e hn)⟩⟩
theorem ah {W:World}{p a:Addr}(h:a.block≠p.block)(u:Value):(W.setCell p u).cell? a=W.cell? a:=by
 have:=aa1 W p u a.block h
 simp[aav,this]
theorem qK {w:World}{g:Nat}{t:TypeId}{cs cs':Array Value}(h:w.heap[g]?=some (.cells cs t (0,0)))(i:Nat)(u:Value)(e:cs.setIfInBounds i u=cs'):(w.setCell ⟨g,i,none⟩ u).heap[g]?=some (.cells cs' t (0,0)):=e▸G7 h i u
theorem ay {W:World}{base n c:Nat}{e:TypeId}{size g:Nat}{ad:Addr}{xs:List Value}(_:W.ownsRow base e size (.slice (some ad) n c) n xs)(hne:some g≠(Value.slice (some ad) n c).ownBlock):ad.block≠g:=by
 rintro rfl;exact hne (by simp[aas])
theorem bc {base:Nat}{w W:World}(h:Below base w W):Below base w W.drew:=h.drew
theorem rv {w W:World}{g:Nat}{row:Option Nat}(h:az w W g row):az w W.drew g row:=h
namespace Kd
section
variable {α β : Type} {d : Kd α} {d' : Kd β} {e e' base base' n : Nat} {ok ok' : Nat → Prop} {w W w1 W1 : World} {v u : Value} {xs : List α} {ys : List β} {A : Option Addr} {c : Nat}
theorem ay {ad:Addr}{g:Nat}(hne:some g≠(Value.slice (some ad) n c).ownBlock):ad.block≠g:=by
 rintro rfl;exact hne (by simp[aas])
theorem Yc(h:d.R e w base ok v xs):v.ownBlock=none∨∃k,v.ownBlock=some k∧base≤k:=by
 obtain⟨inner,ho⟩:=Gf h;exact XG ho
end
section
variable {α : Type} {enc : α → Value} {h1 : ∀ x, (enc x).oneCell' = true} {w W : World} {A : Option Addr} {n g : Nat} {xs : List α}
end
end Kd
namespace Kd
section
variable {α : Type} {d : Kd α} {e base g : Nat} {ok : Nat → Prop} {w w1 : World} {v : Value} {xs : List α} {o : Obj}
theorem e8(h:d.R e w base ok v xs)(a:Nat)(ha:w.heap.size≤a):d.R e w base (fun k=>ok k∧k≠a) v xs:=am (uQ h) (fun k hk=>⟨hk.1,by have:=hk.2.2.1;omega⟩)
theorem a1b(h:d.R e w1 w.heap.size ok v xs)(hb:w.heap[g]?=some o):d.R e w1 w.heap.size (fun k=>ok k∧k≠g) v xs:=am (uQ h) (fun k hk=>⟨hk.1,by have:=j7 hb;have:=hk.2.1;omega⟩)
theorem a1c(hb:w.heap[g]?=some o):∀k,w.heap.size≤k→k≠g:=fun k hk=>by have:=j7 hb;omega
end
end Kd
section
variable {P : Program} {ops : Array Oper} {rest : List Oper} {o : Oper} {a : Act} {Q : Exit → Act → World → Prop}
theorem XH {W:World}(hgd:o.guard=none){N:Tmp}(_hd:o.dst=some N){cs:Array Value}{t:TypeId}
 (hrun:(execOp a.eval o).run P W= .ok (.value (.pointer (some ⟨W.heap.size,0,none⟩))) (W.alloc (.cells cs t (0,0))))
 (h:∀g,g=W.heap.size→∀w1,w1.heap[g]?=some (.cells cs t (0,0))→Below W.heap.size W w1→wpList P ops Q rest (a.put o.dst (.pointer (some ⟨g,0,none⟩))) w1):wpList P ops Q (o::rest) a W:=
 Kd.Ia hgd hrun (h _ rfl _ (Ob W _) (dH (aag _ _) _))
end
namespace Kd
section
variable {α : Type} {enc : α → Value} {h1 : ∀ x, (enc x).oneCell' = true} {e base g n cap : Nat} {ok : Nat → Prop} {W : World} {xs : List α}
theorem Oe(d:α)(h:(iq enc h1).R e W base ok (.slice (some ⟨g,0,none⟩) n cap) xs)(i:Int)(h0:0≤i)(hi:i<n):W.cell? ⟨g,i.toNat,none⟩=some (enc (rF d xs i))∧W.frozen? ⟨g,i.toNat,none⟩=false:=by
 obtain⟨rfl,_⟩:=cM h;exact a08 d h i h0 hi
end
end Kd
section
variable {P : Program} {ops : Array Oper} {rest : List Oper} {o : Oper} {a : Act} {Q : Exit → Act → World → Prop}
theorem IT {W w1:World}(hgd:o.guard=none){t:TypeId}{p:Tmp}{v:Operand}(_ho:o.op= .store t (.tmp p) v)(hN:o.dst=none)
 (hrun:(execOp a.eval o).run P W= .ok .skip w1)(h:∀w',w'=w1→wpList P ops Q rest a w'):wpList P ops Q (o::rest) a W:=by
 refine wpList_plain hgd fun K hK=> ?_
 unfold aaO;rw[hrun]
 show K (a.put o.dst undef) w1
 rw[hN];exact hK _ _ (h _ rfl)
end
namespace Kd
section
variable {α : Type} {enc : α → Value} {h1 : ∀ x, (enc x).oneCell' = true} {e base g n cap : Nat} {ok : Nat → Prop} {W : World} {xs : List α}
theorem a1d(h:(iq enc h1).R e W base ok (.slice (some ⟨g,0,none⟩) n cap) xs)(i:Int)(x:α):(iq enc h1).R e (W.setCell ⟨g,i.toNat,none⟩ (enc x)) base ok (.slice (some ⟨g,0,none⟩) n cap) (xs.set i.toNat x)∧W.grownBy (W.setCell ⟨g,i.toNat,none⟩ (enc x)) (some g):=by
 obtain⟨rfl,_⟩:=cM h;exact a2n h i x
end
end Kd
section
variable {P : Program} {ops : Array Oper} {rest : List Oper} {o : Oper} {a : Act} {Q : Exit → Act → World → Prop} {W : World}
theorem bY {N:Tmp}(_hN:o.dst=some N)(h:wpList P ops Q (o::rest) a W):wpList P ops Q (o::rest) a W:=h
theorem IU {t:TypeId}{p:Tmp}{v:Operand}(_ho:o.op= .store t (.tmp p) v)(h:wpList P ops Q (o::rest) a W):wpList P ops Q (o::rest) a W:=h
end
section
variable {P : Program} {ops : Array Oper} {o : Oper} {a : Act} {Q : Exit → Act → World → Prop} {Kc : Act → World → Prop}
theorem IV {W w1:World}{v:Value}(hw:Region.wanted o (yielded ops a.tmps)=true)(hrun:(execOp a.eval o).run P W= .ok (.value v) w1)(h:Kc (a.put o.dst v) w1):if Region.wanted o (yielded ops a.tmps)=true then Oper.wp P o a W Kc Q else Kc (a.put o.dst undef) W:=by
 rw[if_pos hw];unfold aaO;rw[hrun];exact h
theorem uL {W:World}(hw:aao o (yielded ops a.tmps)=true){N:Tmp}(_hd:o.dst=some N){cs:Array Value}{t:TypeId}
 (hrun:(execOp a.eval o).run P W= .ok (.value (.pointer (some ⟨W.heap.size,0,none⟩))) (W.alloc (.cells cs t (0,0))))
 (h:∀g,g=W.heap.size→∀w1,w1.heap[g]?=some (.cells cs t (0,0))→Below W.heap.size W w1→Kc (a.put o.dst (.pointer (some ⟨g,0,none⟩))) w1):if aao o (yielded ops a.tmps)=true then aaO P o a W Kc Q else Kc (a.put o.dst undef) W:=
 IV hw hrun (h _ rfl _ (Ob W _) (dH (aag _ _) _))
namespace Kd
variable {α : Type}
theorem Ns(d:Kd α){w0 W:World}(base e:Nat)(hw:aao o (yielded ops a.tmps)=true){N:Tmp}(_hd:o.dst=some N){xs:List α}{inner:List Value}{ok okp:Nat→Prop}
 (hrun:(execOp a.eval o).run P W= .ok (.value (.slice (some ⟨W.heap.size,0,none⟩) xs.length xs.length)) (W.alloc (.cells inner.toArray e)))
 (hrep:cR (d.M W base okp) d.sz xs inner)(hok:∀k,okp k→ok k)(hfresh:ok W.heap.size)(HB:Below base w0 W)(hbase:base≤W.heap.size)(hm:xs.length≤9223372036854775807)
 (h:∀v1 w1,d.R e w1 base ok v1 xs→Below base w0 w1→W.grownBy w1 none→(∃b,v1.ownBlock=some b∧W.heap.size≤b)→Kc (a.put o.dst v1) w1):if Region.wanted o (yielded ops a.tmps)=true then Oper.wp P o a W Kc Q else Kc (a.put o.dst undef) W:=by
 refine IV hw hrun (h _ _ ⟨fun k hk=> ?_,inner, ?_, ?_⟩ (HB.alloc hbase _) (abB W _ none) ⟨W.heap.size,by simp[aas],kV _⟩)
 ·have:W.heap.size=k:=by simpa[aas]using hk
  subst this;exact hfresh
 ·have h2:=World.ownsRow_lit (base:=base) (e:=e) (size:=d.sz) W inner.toArray xs.length hbase (by simpa[maxLen]using hm) (by simpa using hrep.1)
  simpa using h2
 ·refine hrep.jP (fun p c hp=>d.M_mono (fun k hk=>⟨hok k hk.1,fun he=> ?_⟩) (Oc (d.M_bound hp) (dH (aag _ _) _)))
  have h3:k=W.heap.size:=by simpa[aas]using he
  have:=hk.2.2.1
  omega
end Kd
end
section
variable {P : Program} {tmps : Array Value} {w : World}
end
namespace Kd
section
variable {P : Program} {α : Type}
end
section
variable {P : Program} {ops : Array Oper} {rest : List Oper} {o : Oper} {a : Act} {Q : Exit → Act → World → Prop} {Kc : Act → World → Prop} {α : Type}
end
end Kd
end Go.Proofs.YtgpjnkahgofpmaaDoorW.PrintWords
end
section
namespace Go.Proofs.YtgpjnkahgofpmaaDoorW.PrintLast
section
variable {P : Program} {ops : Array Oper} {Q : Exit → Act → World → Prop} {md : aaQ} {S : World → Prop} {ds : List Nat}
def Region.nl(md:aaQ)(ops:Array Oper)(i:Nat):Nat→Nat→Bool
 |0,_=>false
 |fuel+1,d=>match ops[d]? with
  |some o=>o.after.any fun e=>aaZ md e&& (e.on==i||Region.nl md ops i fuel e.on)
  |none=>false
def Region.Bn(md:aaQ)(ops:Array Oper)(listed:Array Bool):Bool:=
 (abX ops.size).all fun j=> !listed.getD j false||match ops[j]? with
   |some o=>o.after.all fun e=> !Region.binds md e||listed.getD e.on false
   |none=>true
def Region.lastB(md:aaQ)(ops:Array Oper)(listed:Array Bool)(ds:List Nat)(i:Nat):Bool:=
 ds.all fun d=>listed.getD d true||Region.nl md ops i ops.size d
def we(md:aaQ)(ops:Array Oper)(listed:Array Bool):Prop:=
 ∀j oj,ops[j]?=some oj→listed.getD j false=true→∀e∈oj.after,aaZ md e=true→listed.getD e.on false=true
theorem Region.Wl {listed:Array Bool}(h:Region.Bn md ops listed=true):we md ops listed:=by
 intro j oj hj hl e he hb;have hlt:j<ops.size:=(aa2.1 hj).1;have h1:=ab6.1 h j (List.mem_range.2 hlt);simp only[hl,hj,Bool.not_true,Bool.false_or]at h1;have h2:=Array.all_eq_true_iff_forall_mem.1 h1 e he
 simpa[hb]using h2
theorem we.set {listed:Array Bool}{i:Nat}(h:we md ops listed)(hi:i∈Region.ready md ops listed):we md ops (listed.setIfInBounds i true):=by
 obtain⟨_,oi,hoi,hall⟩:=mem_ready.1 hi;intro j oj hj hl e he hb
 by_cases hij:i=j
 ·subst hij
  have:oj=oi:=qE (hj.symm.trans hoi);subst this;exact getD_set_true (hall e he hb)
 ·rw[getD_set_ne false hij]at hl
  exact getD_set_true (h j oj hj hl e he hb)
theorem Region.Ng {listed:Array Bool}{i:Nat}(hc:we md ops listed):∀ (fuel d:Nat),Region.nl md ops i fuel d=true→listed.getD d false=true→listed.getD i false=true
 |0,_,h,_=>by simp[Region.nl]at h
 |fuel+1,d,h,hl=>by
  unfold Region.nl at h
  cases ho:ops[d]? with
  |none=>rw[ho]at h;simp at h
  |some o=>
   rw[ho]at h;obtain⟨e,he,h1⟩:=Array.any_eq_true'.1 h;simp only[aaB,abT,beq_iff_eq]at h1;have hle:=hc d o ho hl e he h1.1
   rcases h1.2 with h2|h2
   ·rw[←h2];exact hle
   ·exact Region.Ng hc fuel e.on h2 hle
theorem Region.WU {listed:Array Bool}{i d fuel:Nat}(hc:we md ops listed)(hr:Region.nl md ops i fuel d=true)(hun:listed.getD i true=false):d ∉ Region.ready md ops listed:=by
 intro hd;obtain⟨_,o,ho,hall⟩:=mem_ready.1 hd
 have hi:listed.getD i false=true:=by
  cases fuel with
  |zero=>simp[Region.nl]at hr
  |succ n=>
   unfold Region.nl at hr;rw[ho]at hr;obtain⟨e,he,h1⟩:=Array.any_eq_true'.1 hr;simp only[aaB,abT,beq_iff_eq]at h1;have hle:=hall e he h1.1
   rcases h1.2 with h2|h2
   ·rw[←h2];exact hle
   ·exact Region.Ng hc n e.on h2 hle
 rcases abN i listed.size with h'|h'
 ·simp[h']at hun hi
  rw[hun]at hi
  cases hi
 ·simp[ab0 h']at hun
def eI(P:Program)(md:aaQ)(ops:Array Oper)(Q:Exit→Act→World→Prop)(S:World→Prop)(ds:List Nat):Nat→Array Bool→Act→World→Prop
 |0,listed,a,w=>aaJ md ops listed=[]∧Q .normal a w
 |fuel+1,listed,a,w=>
  (aaJ md ops listed=[]→Q .normal a w)∧
  ∀i∈aaJ md ops listed,wpOp P ops Q i (fun a' w'=>(i ∉ ds→S w→S w')∧eI P md ops Q S ds fuel (listed.setIfInBounds i true) a' w') a w
theorem Nc:∀ (fuel:Nat) (listed:Array Bool) (a:Act) (w:World),eI P md ops Q S ds fuel listed a w→wpAny P md ops Q fuel listed a w
 |0,_,_,_,h=>h
 |fuel+1,_,_,_,h=>⟨h.1,fun i hi=>wpOp_mono (fun a' w' h'=>Nc fuel _ a' w' h'.2) (h.2 i hi)⟩
theorem WV {i:Nat}{oi:Oper}{v:Value}(hi:ops[i]?=some oi)(hsel:∀ (j:Nat) (o:Oper) cs b,ops[j]?=some o→o.op≠ .select cs b)
 (hQ:∀c a w,Q (.panic c) (a.put oi.dst v) w→Q (.panic c) a w)(n:Nat):
 ∀ (fuel:Nat) (listed:Array Bool) (a:Act) (w:World),
   (∀j oj,ops[j]?=some oj→j≠i→listed.getD j true=false→(∀e∈oj.after,aaZ md e=true→e.on≠i)→oi.apart ops oj=true)→
   we md ops listed→(∀d∈ds,listed.getD d true=false→Region.nl md ops i n d=true)→
   i∈aaJ md ops listed→YieldsIf P ops S oi v a→S w→
   eI P md ops Q S ds fuel (listed.setIfInBounds i true) (a.put oi.dst v) w→eI P md ops Q S ds (fuel+1) listed a w:=by
 intro fuel
 induction fuel with
 |zero=>
  intro listed a w _ _ _ hr hy hS H;refine⟨fun h=>(by rw[h]at hr;cases hr),fun j hj=> ?_⟩
  by_cases hji:j=i
  ·subst hji;exact hy.wpOp hi hS ⟨fun _ h=>h,H⟩
  ·have:=ready_mono hj hji
   rw[H.1]at this
   cases this
 |succ fuel ih=>
  intro listed a w hfree hc hd hr hy hS H;refine⟨fun h=>(by rw[h]at hr;cases hr),fun j hj=> ?_⟩
  by_cases hji:j=i
  ·subst hji;exact hy.wpOp hi hS ⟨fun _ h=>h,H⟩
  ·have h1:=H.2 j (ready_mono hj hji)
   obtain⟨hjun,oj,hoj,hall⟩:=mem_ready.1 hj;have hiun:=(mem_ready.1 hr).1
   have hnot:∀e∈oj.after,aaZ md e=true→e.on≠i:=fun e he hb heq=>by
    have h1:=hall e he hb;rw[heq]at h1
    rcases abN i listed.size with h'|h'
    ·simp[h']at hiun h1;rw[hiun]at h1;cases h1
    ·simp[ab0 h']at h1
   have hjd:j ∉ ds:=fun hm=>Region.WU hc (hd j hm hjun) hiun hj
   have h2:=wpOp_putIf hoj (hfree j oj hoj hji hjun hnot) (fun cs b=>hsel i oi cs b hi) (fun cs b=>hsel j oj cs b hoj) hQ hy h1
   have hfree':∀k ok,ops[k]?=some ok→k≠i→(listed.setIfInBounds j true).getD k true=false→
    (∀e∈ok.after,aaZ md e=true→e.on≠i)→oi.apart ops ok=true:=fun k ok hk hki hun hno=>by
    refine hfree k ok hk hki ?_ hno
    by_cases hjk:j=k
    ·subst hjk;exact hjun
    ·rw[getD_set_ne true hjk]at hun;exact hun
   have hd':∀d∈ds,(listed.setIfInBounds j true).getD d true=false→Region.nl md ops i n d=true:=fun d hm hun=>by
    refine hd d hm ?_
    by_cases hjk:j=d
    ·subst hjk;exact hjun
    ·rw[getD_set_ne true hjk]at hun;exact hun
   refine wpOp_mono (fun a' w' h3=>⟨h3.2.1,ih (listed.setIfInBounds j true) a' w' hfree' (hc.set hj) hd' (ready_mono hr (Ne.symm hji)) h3.1 (h3.2.1 hjd hS) ?_⟩) h2;rw[Array.setIfInBounds_comm _ _ hji];exact h3.2.2
theorem Wd {i:Nat}{oi:Oper}{v:Value}(hi:ops[i]?=some oi)(hsel:∀ (j:Nat) (o:Oper) cs b,ops[j]?=some o→o.op≠ .select cs b)
 (hQ:∀c a w,Q (.panic c) (a.put oi.dst v) w→Q (.panic c) a w):
 ∀ (fuel:Nat) (listed:Array Bool) (a:Act) (w:World),
   (∀j oj,ops[j]?=some oj→j≠i→listed.getD j true=false→(∀e∈oj.after,aaZ md e=true→e.on≠i)→oi.apart ops oj=true)→
   i∈aaJ md ops listed→Yields P ops oi v a→
   eI P md ops Q S ds fuel (listed.setIfInBounds i true) (a.put oi.dst v) w→eI P md ops Q S ds (fuel+1) listed a w:=by
 intro fuel
 induction fuel with
 |zero=>
  intro listed a w _ hr hy H;refine⟨fun h=>(by rw[h]at hr;cases hr),fun j hj=> ?_⟩
  by_cases hji:j=i
  ·subst hji;exact(hy.yieldsIf (S:=fun _=>True)).wpOp hi trivial ⟨fun _ h=>h,H⟩
  ·have:=ready_mono hj hji
   rw[H.1]at this
   cases this
 |succ fuel ih=>
  intro listed a w hfree hr hy H;refine⟨fun h=>(by rw[h]at hr;cases hr),fun j hj=> ?_⟩
  by_cases hji:j=i
  ·subst hji;exact(hy.yieldsIf (S:=fun _=>True)).wpOp hi trivial ⟨fun _ h=>h,H⟩
  ·have h1:=H.2 j (ready_mono hj hji)
   obtain⟨hjun,oj,hoj,hall⟩:=mem_ready.1 hj;have hiun:=(mem_ready.1 hr).1
   have hnot:∀e∈oj.after,aaZ md e=true→e.on≠i:=fun e he hb heq=>by
    have h1:=hall e he hb;rw[heq]at h1
    rcases abN i listed.size with h'|h'
    ·simp[h']at hiun h1;rw[hiun]at h1;cases h1
    ·simp[ab0 h']at h1
   have h2:=wpOp_put hoj (hfree j oj hoj hji hjun hnot) (fun cs b=>hsel i oi cs b hi) (fun cs b=>hsel j oj cs b hoj) hQ hy h1
   have hfree':∀k ok,ops[k]?=some ok→k≠i→(listed.setIfInBounds j true).getD k true=false→
    (∀e∈ok.after,aaZ md e=true→e.on≠i)→oi.apart ops ok=true:=fun k ok hk hki hun hno=>by
    refine hfree k ok hk hki ?_ hno
    by_cases hjk:j=k
    ·subst hjk;exact hjun
    ·rw[getD_set_ne true hjk]at hun;exact hun
   refine wpOp_mono (fun a' w' h3=>⟨h3.2.1,ih (listed.setIfInBounds j true) a' w' hfree' (ready_mono hr (Ne.symm hji)) h3.1 ?_⟩) h2;rw[Array.setIfInBounds_comm _ _ hji];exact h3.2.2
theorem WY {i:Nat}{oi:Oper}{v:Value}{fuel:Nat}{listed:Array Bool}{a:Act}{w:World}(hi:ops[i]?=some oi)
 (hs:Region.noSelect ops=true)(hf:Region.free md ops listed i=true)(hr:(aaJ md ops listed).contains i=true)
 (hc:Region.Bn md ops listed=true)(hl:Region.lastB md ops listed ds i=true)
 (hQ:∀c a w,Q (.panic c) (a.put oi.dst v) w→Q (.panic c) a w)(hy:YieldsIf P ops S oi v a)(hS:S w)
 (h:eI P md ops Q S ds fuel (listed.setIfInBounds i true) (a.put oi.dst v) w):eI P md ops Q S ds (fuel+1) listed a w:=
 WV hi (Region.noSelect_spec hs) hQ ops.size fuel listed a w (Region.free_spec hi hf) (Region.Wl hc)
  (fun d hm hun=>by have:=ab6.1 hl d hm;rw[hun]at this;simpa using this) (by simpa using hr) hy hS h
theorem We {rs:List Nat}{fuel:Nat}{listed:Array Bool}{a:Act}{w:World}(hr:aaJ md ops listed=rs)(hne:rs≠[])
 (h:∀i∈rs,wpOp P ops Q i (fun a' w'=>(i ∉ ds→S w→S w')∧eI P md ops Q S ds fuel (listed.setIfInBounds i true) a' w') a w):eI P md ops Q S ds (fuel+1) listed a w:=
 ⟨fun h0=>absurd (hr▸h0) hne,hr▸h⟩
theorem WZ {listed:Array Bool}{a:Act}{w:World}(hr:aaJ md ops listed=[])(h:Q .normal a w):
 ∀fuel,eI P md ops Q S ds fuel listed a w
 |0=>⟨hr,h⟩
 |_+1=>⟨fun _=>h,by rw[hr];simp⟩
theorem Wa {id:Nat}{a:Act}{w:World}(hm:P.follows .mixedOrders=true)
 (h:eI P .any ops Q S ds ops.size (Array.replicate ops.size false) a {w with drawn:=w.drawn+1}):(Code.region id ops true).wp P Q a w:=
 wp_region_any hm (Nc _ _ _ _ h)
end
section
variable {P : Program} {ops : Array Oper} {Q : Exit → Act → World → Prop} {md : aaQ} {S : World → Prop} {ds : List Nat}
def jX(P:Program)(md:aaQ)(ops:Array Oper)(Q:Exit→Act→World→Prop)(S:World→Prop)(ds:List Nat)(fuel:Nat)(listed:Array Bool)(a:Act)(w:World)(rs:List Nat):Prop:=
 ∀i∈rs,wpOp P ops Q i (fun a' w'=>(i ∉ ds→S w→S w')∧eI P md ops Q S ds fuel (listed.setIfInBounds i true) a' w') a w
theorem jX.nil {fuel:Nat}{listed:Array Bool}{a:Act}{w:World}:jX P md ops Q S ds fuel listed a w []:=fun _ h=>by cases h
theorem jX.cons {fuel:Nat}{listed:Array Bool}{a:Act}{w:World}{i:Nat}{o:Oper}{rs:List Nat}(ho:ops[i]?=some o)(hd:i ∉ ds)
 (h:∀K':Act→World→Prop,Shut (∀a w,S w→(S w→eI P md ops Q S ds fuel (listed.setIfInBounds i true) a w)→K' a w)→if aao o (yielded ops a.tmps)=true then aaO P o a w K' Q else K' (a.put o.dst undef) w)
 (hs:jX P md ops Q S ds fuel listed a w rs):jX P md ops Q S ds fuel listed a w (i::rs):=fun j hj=>by
 rcases List.mem_cons.1 hj with rfl|hj
 ·exact wpOp_step ho (fun K' hK=>h K' (fun a w hS hW=>hK a w ⟨fun _ _=>hS,hW hS⟩))
 ·exact hs j hj
theorem jX.XI {fuel:Nat}{listed:Array Bool}{a:Act}{w:World}{i:Nat}{o:Oper}{rs:List Nat}(ho:ops[i]?=some o)(hd:i∈ds)
 (h:∀K':Act→World→Prop,Shut (∀a w,eI P md ops Q S ds fuel (listed.setIfInBounds i true) a w→K' a w)→if aao o (yielded ops a.tmps)=true then aaO P o a w K' Q else K' (a.put o.dst undef) w)
 (hs:jX P md ops Q S ds fuel listed a w rs):jX P md ops Q S ds fuel listed a w (i::rs):=fun j hj=>by
 rcases List.mem_cons.1 hj with rfl|hj
 ·exact wpOp_step ho (fun K' hK=>h K' (fun a w hW=>hK a w ⟨fun hn=>absurd hd hn,hW⟩))
 ·exact hs j hj
theorem Ff {rs:List Nat}{fuel:Nat}{listed:Array Bool}{a:Act}{w:World}(hr:aaJ md ops listed=rs)(hne:rs≠[])
 (h:jX P md ops Q S ds fuel listed a w rs):eI P md ops Q S ds (fuel+1) listed a w:=We hr hne h
theorem dk {id n:Nat}{a:Act}{w:World}(l:Array Bool)(hm:P.follows .mixedOrders=true)(hn:ops.size=n)(hl:Array.replicate n false=l)(hS:S w.drew)
 (h:S w.drew→eI P .any ops Q S ds n l a w.drew):(Code.region id ops true).wp P Q a w:=by
 subst hn;subst hl;exact Wa hm (h hS)
def Ca(md:aaQ)(ops:Array Oper)(ds:List Nat)(l l':Array Bool)(i:Nat):Bool:=
 Region.noSelect ops&&Region.free md ops l i&& (aaJ md ops l).contains i&&Region.Bn md ops l&&Region.lastB md ops l ds i&& (l.setIfInBounds i true==l')
theorem Ge {i:Nat}{N:Option Tmp}{oi:Oper}{v:Value}{fuel:Nat}{l:Array Bool}{a:Act}{w:World}(l':Array Bool)(hi:ops[i]?=some oi)(hN:oi.dst=N)(hc:Ca md ops ds l l' i=true)
 (hQ:∀c a w,Q (.panic c) (a.put oi.dst v) w→Q (.panic c) a w)(hy:YieldsIf P ops S oi v a)(hS:S w){a':Act}(ha:a.put N v=a')
 (h:eI P md ops Q S ds fuel l' a' w):eI P md ops Q S ds (fuel+1) l a w:=by
 subst ha;subst hN;simp only[Ca,aaB,beq_iff_eq]at hc;obtain⟨⟨⟨⟨⟨h1,h2⟩,h3⟩,h4⟩,h5⟩,h6⟩:=hc;subst h6;exact WY hi h1 h2 h3 h4 h5 hQ hy hS h
def Ha(md:aaQ)(ops:Array Oper)(l l':Array Bool)(i:Nat):Bool:=
 Region.noSelect ops&&Region.free md ops l i&& (aaJ md ops l).contains i&& (l.setIfInBounds i true==l')
theorem Gg {i:Nat}{N:Option Tmp}{oi:Oper}{v:Value}{fuel:Nat}{l:Array Bool}{a:Act}{w:World}(l':Array Bool)(hi:ops[i]?=some oi)(hN:oi.dst=N)(hc:Ha md ops l l' i=true)
 (hQ:∀c a w,Q (.panic c) (a.put oi.dst v) w→Q (.panic c) a w)(hy:Yields P ops oi v a){a':Act}(ha:a.put N v=a')
 (h:eI P md ops Q S ds fuel l' a' w):eI P md ops Q S ds (fuel+1) l a w:=by
 subst ha;subst hN;simp only[Ha,aaB,beq_iff_eq]at hc;obtain⟨⟨⟨h1,h2⟩,h3⟩,h6⟩:=hc;subst h6;exact Wd hi (Region.noSelect_spec h1) hQ fuel l a w (Region.free_spec hi h2) (by simpa using h3) hy h
def zz(md:aaQ)(ops:Array Oper)(l l':Array Bool)(i:Nat):Bool:=(aaJ md ops l==[i])&& (l.setIfInBounds i true==l')
theorem cK {i:Nat}{N:Option Tmp}{oi:Oper}{fuel:Nat}{l:Array Bool}{a:Act}{w:World}(l':Array Bool)(hi:ops[i]?=some oi)(hN:oi.dst=N)(hc:zz md ops l l' i=true)(hd:i ∉ ds)
 (h:∀K:Act→World→Prop,Shut (∀a' w',S w'→(S w'→eI P md ops Q S ds fuel l' a' w')→K a' w')→if aao oi (yielded ops a.tmps)=true then aaO P oi a w K Q else K (a.put N undef) w):
 eI P md ops Q S ds (fuel+1) l a w:=by
 subst hN;simp only[zz,aaB,beq_iff_eq]at hc;obtain⟨h1,h2⟩:=hc;subst h2;exact Ff h1 (by simp) (jX.cons hi hd (fun K hK=>h K hK) jX.nil)
theorem qw {i:Nat}{N:Option Tmp}{oi:Oper}{fuel:Nat}{l:Array Bool}{a:Act}{w:World}(l':Array Bool)(hi:ops[i]?=some oi)(hN:oi.dst=N)(hc:zz md ops l l' i=true)(hd:i∈ds)
 (h:∀K:Act→World→Prop,Shut (∀a' w',eI P md ops Q S ds fuel l' a' w'→K a' w')→if aao oi (yielded ops a.tmps)=true then aaO P oi a w K Q else K (a.put N undef) w):
 eI P md ops Q S ds (fuel+1) l a w:=by
 subst hN;simp only[zz,aaB,beq_iff_eq]at hc;obtain⟨h1,h2⟩:=hc;subst h2;exact Ff h1 (by simp) (jX.XI hi hd (fun K hK=>h K hK) jX.nil)
theorem dP {l:Array Bool}{a:Act}{w:World}{n:Nat}(hr:(aaJ md ops l==[])=true)(h:Q .normal a w):eI P md ops Q S ds n l a w:=WZ (by simpa using hr) h n
theorem Ad {i j:Nat}{Ni Nj:Option Tmp}{oi oj:Oper}{fuel:Nat}{l:Array Bool}{a:Act}{w:World}(li lj:Array Bool)(hi:ops[i]?=some oi)(hj:ops[j]?=some oj)(hNi:oi.dst=Ni)(hNj:oj.dst=Nj)
 (hc:(aaJ md ops l==[i,j]&&l.setIfInBounds i true==li&&l.setIfInBounds j true==lj)=true)(hdi:i ∉ ds)(hdj:j ∉ ds)
 (h1:∀K:Act→World→Prop,Shut (∀a' w',S w'→(S w'→eI P md ops Q S ds fuel li a' w')→K a' w')→if aao oi (yielded ops a.tmps)=true then aaO P oi a w K Q else K (a.put Ni undef) w)
 (h2:∀K:Act→World→Prop,Shut (∀a' w',S w'→(S w'→eI P md ops Q S ds fuel lj a' w')→K a' w')→if aao oj (yielded ops a.tmps)=true then aaO P oj a w K Q else K (a.put Nj undef) w):
 eI P md ops Q S ds (fuel+1) l a w:=by
 subst hNi;subst hNj;simp only[aaB,beq_iff_eq]at hc;obtain⟨⟨h3,h4⟩,h5⟩:=hc;subst h4;subst h5;exact Ff h3 (by simp) (jX.cons hi hdi (fun K hK=>h1 K hK) (jX.cons hj hdj (fun K hK=>h2 K hK) jX.nil))
theorem three_ {i j k:Nat}{Ni Nj Nk:Option Tmp}{oi oj ok:Oper}{fuel:Nat}{l:Array Bool}{a:Act}{w:World}(li lj lk:Array Bool)(hi:ops[i]?=some oi)(hj:ops[j]?=some oj)(hk:ops[k]?=some ok)(hNi:oi.dst=Ni)(hNj:oj.dst=Nj)(hNk:ok.dst=Nk)
 (hc:(aaJ md ops l==[i,j,k]&&l.setIfInBounds i true==li&&l.setIfInBounds j true==lj&&l.setIfInBounds k true==lk)=true)(hdi:i ∉ ds)(hdj:j ∉ ds)(hdk:k ∉ ds)
 (h1:∀K:Act→World→Prop,Shut (∀a' w',S w'→(S w'→eI P md ops Q S ds fuel li a' w')→K a' w')→if aao oi (yielded ops a.tmps)=true then aaO P oi a w K Q else K (a.put Ni undef) w)
 (h2:∀K:Act→World→Prop,Shut (∀a' w',S w'→(S w'→eI P md ops Q S ds fuel lj a' w')→K a' w')→if aao oj (yielded ops a.tmps)=true then aaO P oj a w K Q else K (a.put Nj undef) w)
 (h3:∀K:Act→World→Prop,Shut (∀a' w',S w'→(S w'→eI P md ops Q S ds fuel lk a' w')→K a' w')→if aao ok (yielded ops a.tmps)=true then aaO P ok a w K Q else K (a.put Nk undef) w):
 eI P md ops Q S ds (fuel+1) l a w:=by
 subst hNi;subst hNj;subst hNk;simp only[aaB,beq_iff_eq]at hc;obtain⟨⟨⟨h4,h5⟩,h6⟩,h7⟩:=hc;subst h5;subst h6;subst h7;exact Ff h4 (by simp) (jX.cons hi hdi (fun K hK=>h1 K hK) (jX.cons hj hdj (fun K hK=>h2 K hK) (jX.cons hk hdk (fun K hK=>h3 K hK) jX.nil)))
def l3:Act→List (Tmp×Value)→Act
 |a,[]=>a
 |a,(n,v)::r=>l3 (a.put (some n) v) r
theorem KZ {σ:Type}{fuel:Nat}{l:Array Bool}{a:Act}{w:World}(fuel':Nat)(l':Array Bool)(ns:σ→List (Tmp×Value))(F:σ→World→Prop)
 (hcont:∀s w',F s w'→eI P md ops Q S ds fuel' l' (l3 a (ns s)) w')
 (h:(∀s w',F s w'→eI P md ops Q S ds fuel' l' (l3 a (ns s)) w')→eI P md ops Q S ds fuel l a w):eI P md ops Q S ds fuel l a w:=h hcont
theorem nt {fuel:Nat}{l:Array Bool}{a a':Act}{w:World}(ha:a=a')(h:eI P md ops Q S ds fuel l a' w):eI P md ops Q S ds fuel l a w:=by
 subst ha;exact h
theorem a2p {oi:Oper}{N:Option Tmp}{a:Act}{w:World}{K:Act→World→Prop}(f:FuncId)(args:Array Value)(hw:aao oi (yielded ops a.tmps)=true)(hN:oi.dst=N)(hrun:(execOp a.eval oi).run P w= .ok (.enter f args) w)
 (h:Calls P f args w fun e w'=>∃v,e= .returned v∧K (a.put N v) w'):if Region.wanted oi (yielded ops a.tmps)=true then Oper.wp P oi a w K Q else K (a.put N undef) w:=by
 rw[if_pos hw];subst hN;unfold aaO;rw[hrun,Oper.upon_enter]
 refine h.mono fun e w'' hh=> ?_
 obtain⟨v,rfl,hk⟩:=hh;exact hk
theorem JA {f:FuncId}{fn:Func}(hf:P.funcs[f]?=some fn)(hname:(fn.name== "runtime.NumGoroutine")=false)(hb:fn.body.isSome=true)(args:Array Value)(w:World):(callFunc f args).run P w= .ok (.enter f args) w:=by
 have h1:fn.name≠ "runtime.NumGoroutine" :=by simpa using hname
 obtain⟨c,hc⟩:=Option.isSome_iff_exists.1 hb
 simp[callFunc,hf,h1,hc]
theorem cZ {oi:Oper}{N:Option Tmp}{a:Act}{w:World}{K:Act→World→Prop}{f:FuncId}{fn:Func}{as:Array Operand}{ts:Array TypeId}(hf:P.funcs[f]?=some fn)(hname:(fn.name== "runtime.NumGoroutine")=false)(hb:fn.body.isSome=true)(args:Array Value)
 (hw:aao oi (yielded ops a.tmps)=true)(hN:oi.dst=N)(hop:oi.op= .call {callee:= .value (.func f),args:=as,argTypes:=ts})(hargs:as.map a.eval=args)
 (h:Calls P f args w fun e w'=>∃v,e= .returned v∧K (a.put N v) w'):if Region.wanted oi (yielded ops a.tmps)=true then Oper.wp P oi a w K Q else K (a.put N undef) w:=by
 refine a2p f args hw hN ?_ h;have he:=JA hf hname hb args w;unfold execOp
 simp[hop,resolve,Deferred.ofValue,invoke,Act.eval,hargs,he]
theorem sn {rest:List Oper}{oi:Oper}{a:Act}{w:World}(N:Option Tmp)(hd:oi.dst=N)(hg:oi.guard=none){f:FuncId}{fn:Func}{as:Array Operand}{ts:Array TypeId}(hf:P.funcs[f]?=some fn)(hname:(fn.name== "runtime.NumGoroutine")=false)(hb:fn.body.isSome=true)(args:Array Value)
 (hop:oi.op= .call {callee:= .value (.func f),args:=as,argTypes:=ts})(hargs:as.map a.eval=args)
 (h:Calls P f args w fun e w'=>∃v,e= .returned v∧wpList P ops Q rest (a.put N v) w'):wpList P ops Q (oi::rest) a w:=by
 refine wpList_plain hg fun K hK=> ?_
 have he:=JA hf hname hb args w
 have hrun:(execOp a.eval oi).run P w= .ok (.enter f args) w:=by
  unfold execOp
  simp[hop,resolve,Deferred.ofValue,invoke,Act.eval,hargs,he]
 unfold aaO;rw[hrun,Oper.upon_enter]
 refine h.mono fun e w'' hh=> ?_
 obtain⟨v,rfl,hk⟩:=hh;subst hd;exact hK _ _ hk
theorem CS {oi:Oper}{N:Option Tmp}{a:Act}{w w1:World}{v:Value}{K:Act→World→Prop}(hw:aao oi (yielded ops a.tmps)=true)(hN:oi.dst=N)(hrun:(execOp a.eval oi).run P w= .ok (.value v) w1)
 (h:K (a.put N v) w1):if Region.wanted oi (yielded ops a.tmps)=true then Oper.wp P oi a w K Q else K (a.put N undef) w:=by
 rw[if_pos hw];subst hN;unfold aaO;rw[hrun];exact h
theorem ke {oi:Oper}{a:Act}{w w1:World}{K:Act→World→Prop}(hw:aao oi (yielded ops a.tmps)=true)(hN:oi.dst=none)(hrun:(execOp a.eval oi).run P w= .ok .skip w1)
 (h:K a w1):if Region.wanted oi (yielded ops a.tmps)=true then Oper.wp P oi a w K Q else K (a.put none undef) w:=by
 rw[if_pos hw];unfold aaO;rw[hrun]
 show K (a.put oi.dst undef) w1
 rw[hN];exact h
theorem fx(n:Int):IntKind.i64.wrap n=Go.RowKit.wrap64 n:=by unfold Go.RowKit.wrap64;exact IntKind.wrap_i64 n
theorem gg(n:Int):IntKind.i32.wrap n=Go.RowKit.wrap32 n:=by unfold Go.RowKit.wrap32;exact IntKind.wrap_i32 n
end
end Go.Proofs.YtgpjnkahgofpmaaDoorW.PrintLast
end
section
namespace Go.Proofs.YtgpjnkahgofpmaaDoorW.PrintWords
open Go.RowKit
namespace Kd
def tag {α:Type}(f:Nat→Nat)(d:Kd α):Kd (α×Nat) where
 sz:=d.sz
 E:=d.E
 K:=fun w x cs=>d.K w x.1 cs
 M:=fun w base ok x cs=>d.M w base (fun k=>ok k∧f k=x.2) x.1 cs
 K_len:=fun h=>d.K_len h
 K_one:=fun h=>d.K_one h
 K_below:=fun hb h=>d.K_below hb h
 K_of_M:=fun h=>d.K_of_M h
 M_mono:=fun hok h=>d.M_mono (fun k hk=>⟨hok k hk.1,hk.2⟩) h
 M_bound:=fun h=>d.M_mono (fun _ hk=>⟨⟨hk.1.1,hk.2⟩,hk.1.2⟩) (d.M_bound h)
 M_move:=fun hm h=>d.M_move (fun k hk=>hm k hk.1) h
 M_lower:=fun hb h=>d.M_lower hb h
def bare {α:Type}(d:Kd α):Kd α where
 sz:=d.sz
 E:=d.E
 K:=d.K
 M:=fun w base _ x cs=>d.M w base (fun _=>False) x cs
 K_len:=fun h=>d.K_len h
 K_one:=fun h=>d.K_one h
 K_below:=fun hb h=>d.K_below hb h
 K_of_M:=fun h=>d.K_of_M h
 M_mono:=fun _ h=>h
 M_bound:=fun h=>h
 M_move:=fun _ h=>d.M_move (fun _ hk=>hk.elim) h
 M_lower:=fun hb h=>d.M_lower hb h
def raw(sz:Nat):Kd (List Value) where
 sz:=sz
 E:=[]
 K:=fun _ x cs=>cs=x∧cs.length=sz∧∀u∈cs,u.oneCell'=true
 M:=fun _ _ _ x cs=>cs=x∧cs.length=sz∧∀u∈cs,u.oneCell'=true
 K_len:=fun h=>h.2.1
 K_one:=fun h=>h.2.2
 K_below:=fun _ h=>h
 K_of_M:=fun h=>h
 M_mono:=fun _ h=>h
 M_bound:=fun h=>h
 M_move:=fun _ h=>h
 M_lower:=fun _ h=>h
def S {α:Type}(d:Kd α)(e:Nat)(w:World)(base:Nat)(ok:Nat→Prop)(v:Value)(xs:List α):Prop:=∃f,(tag f d).R e w base ok v xs.zipIdx
section
variable {α β : Type} {d : Kd α} {d' : Kd β} {e e' : Nat} {w w1 W : World} {base b : Nat} {ok ok' okv oku : Nat → Prop} {u v : Value} {xs : List α} {ys : List β}
theorem a1e {xs:List α}{j:Nat}{p:α}(h:xs[j]?=some p):xs.zipIdx[j]?=some (p,j):=by rw[List.getElem?_zipIdx,h,Nat.zero_add];rfl
theorem S_R(h:S d e w base ok v xs):d.R e w base ok v xs:=by
 obtain⟨f,h0,inner,ho,hr⟩:=h;rw[List.length_zipIdx]at ho;exact⟨h0,inner,ho,by have:=hr.1;rw[List.length_zipIdx]at this;exact this,fun j p hj=>d.M_mono (fun _ hk=>hk.1) (hr.2 j (p,j) (a1e hj))⟩
theorem ll(d:Kd α)(e:Nat)(w:World)(base:Nat)(ok:Nat→Prop):S d e w base ok (.slice none 0 0) []:=⟨fun _=>0,kA _ _ _ _ _⟩
theorem Yd(h:S d e w base ok v xs){g t:Nat}{cells:Array Value}(hb:w.heap[g]?=some (.cells cells t (0,0)))(ht:∀q,q∈e::d.E→q≠t):S d e w base (fun k=>ok k∧k≠g) v xs:=by
 obtain⟨f,h⟩:=h;exact⟨f,dv h hb ht⟩
end
section
variable {α β : Type} {d : Kd α} {d' : Kd β} {e e' g : Nat} {w w1 W : World} {base b : Nat} {ok ok' okv oku : Nat → Prop} {u v : Value} {xs : List α} {ys : List β}
theorem a42(h:S d e w base ok v xs){t:Nat}{cells:Array Value}(hb:w.heap[g]?=some (.cells cells t (0,0)))(ht:e≠t):some g≠v.ownBlock:=d7 (S_R h) hb ht
end
section
variable {P : Program} {ops : Array Oper} {rest : List Oper} {o : Oper} {a : Act} {Q : Exit → Act → World → Prop} {Kc : Act → World → Prop} {α : Type}
end
def gap {α:Type}(f:Nat→Nat)(d:Kd α)(i:Nat)(c:List Value):Kd (α×Nat) where
 sz:=d.sz
 E:=d.E
 K:=fun w x cs=>(x.2=i→cs=c∧cs.length=d.sz∧∀u∈cs,u.oneCell'=true)∧(x.2≠i→d.K w x.1 cs)
 M:=fun w base ok x cs=>(x.2=i→cs=c∧cs.length=d.sz∧∀u∈cs,u.oneCell'=true)∧(x.2≠i→d.M w base (fun k=>ok k∧f k=x.2) x.1 cs)
 K_len:=fun {w x cs} h=>by
  by_cases hx:x.2=i
  ·exact(h.1 hx).2.1
  ·exact d.K_len (h.2 hx)
 K_one:=fun {w x cs} h=>by
  by_cases hx:x.2=i
  ·exact(h.1 hx).2.2
  ·exact d.K_one (h.2 hx)
 K_below:=fun hb h=>⟨h.1,fun hx=>d.K_below hb (h.2 hx)⟩
 K_of_M:=fun h=>⟨h.1,fun hx=>d.K_of_M (h.2 hx)⟩
 M_mono:=fun hok h=>⟨h.1,fun hx=>d.M_mono (fun k hk=>⟨hok k hk.1,hk.2⟩) (h.2 hx)⟩
 M_bound:=fun h=>⟨h.1,fun hx=>d.M_mono (fun _ hk=>⟨⟨hk.1.1,hk.2⟩,hk.1.2⟩) (d.M_bound (h.2 hx))⟩
 M_move:=fun hm h=>⟨h.1,fun hx=>d.M_move (fun k hk=>hm k hk.1) (h.2 hx)⟩
 M_lower:=fun hb h=>⟨h.1,fun hx=>d.M_lower hb (h.2 hx)⟩
def H {α:Type}(d:Kd α)(e:Nat)(w:World)(base:Nat)(ok:Nat→Prop)(v:Value)(xs:List α)(i:Int)(oki:Nat→Prop)(c:List Value):Prop:=
 (∀k,oki k→ok k)∧∃f,(gap f d i.toNat c).R e w base (fun k=>ok k∧¬oki k) v xs.zipIdx
section
variable {α β : Type} {d : Kd α} {e e' g n cap : Nat} {w w1 W : World} {base : Nat} {ok ok' oki okp : Nat → Prop} {u v : Value} {xs : List α} {i : Int} {c : List Value}
end
section
variable {P : Program} {ops : Array Oper} {rest : List Oper} {o : Oper} {a : Act} {Q : Exit → Act → World → Prop} {α : Type}
end
end Kd
end Go.Proofs.YtgpjnkahgofpmaaDoorW.PrintWords
end
section
namespace Go.Proofs.YtgpjnkahgofpmaaDoorW.PrintWords
open Go.RowKit
namespace Kd
section
variable {α : Type} {n : Nat} {d : Kd α} {hs : 0 < d.sz} {w : World} {base : Nat} {ok : Nat → Prop} {xs : List α} {cs : List Value}
end
section
variable {α : Type} {n : Nat} {enc : α → Value} {h1 : ∀ x, (enc x).oneCell' = true} {hs : 0 < (iq enc h1).sz} {w : World} {base : Nat} {ok : Nat → Prop} {xs : List α} {cs : List Value}
end
end Kd
end Go.Proofs.YtgpjnkahgofpmaaDoorW.PrintWords
end
section
namespace Go.Proofs.YtgpjnkahgofpmaaDoorW.PrintWords
open Go.RowKit
namespace Kd
structure Heap {α:Type}(d:Kd α):Prop where
 K:∀ {w w1:World}{x:α}{cs:List Value},(∀k,k<w.heap.size→w1.heap[k]?=w.heap[k]?)→d.K w x cs→d.K w1 x cs
theorem XJ {w w1:World}(hb:∀k,k<w.heap.size→w1.heap[k]?=w.heap[k]?){a:Addr}{v:Value}(h:w.cell? a=some v):w1.cell? a=some v:=by
 have:=hb a.block (Fe w a h)
 simpa[aav,this]using h
theorem Heap.C {α:Type}{d:Kd α}(hd:Heap d){w w1:World}{A:Option Addr}{n:Nat}{xs:List α}(hb:∀k,k<w.heap.size→w1.heap[k]?=w.heap[k]?)(h:d.C w A n xs):d.C w1 A n xs:=
 ⟨h.1,h.2.1,fun hn=>by
   obtain⟨ad,e,hc⟩:=h.2.2 hn;refine⟨ad,e,fun j p hj=> ?_⟩;obtain⟨c,hs,hr,hcell⟩:=hc j p hj
   exact⟨c,hs,hd.K hb hr,fun i u hu=>XJ hb (hcell i u hu)⟩⟩
section
variable {α : Type} {d : Kd α} {e base g n c : Nat} {ok : Nat → Prop} {w w0 W : World} {A : Option Addr} {xs : List α}
end
end Kd
end Go.Proofs.YtgpjnkahgofpmaaDoorW.PrintWords
end
section
namespace Go.Proofs.YtgpjnkahgofpmaaDoorW.PrintWords
open Go.RowKit
def fM(w W:World)(S:Nat→Prop):Prop:=w.heap.size≤W.heap.size∧∀i,i<w.heap.size→¬S i→W.heap[i]?=w.heap[i]?
section
variable {w W W2 : World} {S S2 S' : Nat → Prop}
theorem fM.refl(w:World)(S:Nat→Prop):fM w w S:=⟨kV _,fun _ _ _=>rfl⟩
theorem fM.of_below(h:Below w.heap.size w W)(S:Nat→Prop):fM w W S:=⟨h.size,fun i hi _=>h.block i hi⟩
theorem fM.mono(h:fM w W S)(hs:∀k,S k→S' k):fM w W S':=⟨h.1,fun i hi hn=>h.2 i hi (fun hk=>hn (hs i hk))⟩
theorem fM.Gh(h:fM w W S)(k:fM W W2 S2)(hs:∀k,S2 k→S k∨w.heap.size≤k):fM w W2 S:=
 ⟨aaI h.1 k.1,fun i hi hn=>(k.2 i (WR hi h.1) (fun h2=>(hs i h2).elim hn (fun h3=>by omega))).trans (h.2 i hi hn)⟩
theorem fM.J1 {row:Option Nat}(hg:W.grownBy W2 row)(h:fM w W S)(hr:∀k,row=some k→S k∨w.heap.size≤k):fM w W2 S:=
 h.Gh (S2:=fun k=>row=some k) ⟨hg.size,fun i hi hn=>hg.block i hi (fun he=>hn he.symm)⟩ hr
theorem fM.below(h:fM w W S)(hb:Below W.heap.size W W2):fM w W2 S:=h.Gh (fM.of_below hb (fun _=>False)) (fun _ hk=>hk.elim)
theorem fM.alloc(h:fM w W S)(o:Obj):fM w (W.alloc o) S:=h.below (dH (aag _ _) o)
theorem fM.drew(h:fM w W S):fM w W.drew S:=h
theorem fM.drewN(h:fM w W S)(m:Nat):fM w (W.drewN m) S:=h
theorem fM.setCell(h:fM w W S){p:Addr}(hp:S p.block∨w.heap.size≤p.block)(u:Value):fM w (W.setCell p u) S:=
 h.Gh (S2:=fun k=>k=p.block) ⟨by simp[abd],fun i _ hn=>aa1 W p u i hn⟩ (fun k hk=>by rw[hk];exact hp)
theorem fM.of_keep {g:Nat}(h:fM w W S)(k:az W W2 g none)(hg:S g∨w.heap.size≤g):fM w W2 S:=
 h.Gh (S2:=fun k=>k=g) ⟨k.1,fun i hi hn=>k.2 i hi hn (by simp)⟩ (fun k hk=>by rw[hk];exact hg)
theorem fM.keep {g:Nat}(h:az w W g none)(k:fM W W2 S2)(hs:∀k,S2 k→w.heap.size≤k):az w W2 g none:=
 ⟨aaI h.1 k.1,fun i hi hg hr=>(k.2 i (WR hi h.1) (fun h2=>by have:=hs i h2;omega)).trans (h.2 i hi hg hr)⟩
theorem Xz {g:Nat}{o:Obj}(hb:W.heap[g]?=some o)(hk:fM W W2 S)(hne:¬S g):W2.heap[g]?=some o:=(hk.2 g (j7 hb) hne).trans hb
theorem cell_kept {a:Addr}{v:Value}(hc:W.cell? a=some v)(hk:fM W W2 S)(hne:¬S a.block):W2.cell? a=some v:=by
 have:=hk.2 a.block (Fe W a hc) hne
 simpa[aav,this]using hc
end
namespace Kd
section
variable {α : Type} {d : Kd α} {e base n c : Nat} {ok oki S S2 : Nat → Prop} {w w0 W W1 W2 : World} {v : Value} {A : Option Addr} {xs : List α} {i : Int} {cs : List Value}
end
end Kd
end Go.Proofs.YtgpjnkahgofpmaaDoorW.PrintWords
end
section
namespace Go.Proofs.YtgpjnkahgofpmaaDoorW.PrintWords
open Go.RowKit
def m2(P:World→Prop)(W:World)(ok:Nat→Prop):Prop:=∀W':World,(∀k,ok k→k<W.heap.size→W'.heap[k]?=W.heap[k]?)→P W'
theorem Ye {W W1:World}{k:Nat}(h:W1.heap[k]?=W.heap[k]?)(hlt:k<W.heap.size):k<W1.heap.size:=by
 rw[Array.getElem?_eq_getElem hlt]at h;exact(aa2.1 h).1
namespace m2
variable {P Q : World → Prop} {W W1 : World} {ok ok' : Nat → Prop}
theorem now(h:m2 P W ok):P W:=h W (fun _ _ _=>rfl)
theorem mono(h:m2 P W ok)(hok:∀k,ok k→ok' k):m2 P W ok':=fun W' hW=>h W' (fun k hk hlt=>hW k (hok k hk) hlt)
theorem bound(h:m2 P W ok):m2 P W (fun k=>ok k∧k<W.heap.size):=fun W' hW=>h W' (fun k hk hlt=>hW k ⟨hk,hlt⟩ hlt)
theorem step(h:m2 P W ok)(hm:∀k,ok k→k<W.heap.size→W1.heap[k]?=W.heap[k]?):m2 P W1 ok:=fun W' hW=>h W' (fun k hk hlt=>(hW k hk (Ye (hm k hk hlt) hlt)).trans (hm k hk hlt))
theorem imp(h:m2 P W ok)(hi:∀W',P W'→Q W'):m2 Q W ok:=fun W' hW=>hi W' (h W' hW)
theorem NC(h:m2 P W ok)(hb:Below W.heap.size W W1):m2 P W1 (fun k=>ok k∧k<W.heap.size):=(h.bound).step (fun k _ hlt=>hb.block k hlt)
end m2
namespace Kd
def F {α:Type}(d:Kd α)(W:World)(ok:Nat→Prop)(A:Option Addr)(n:Nat)(xs:List α):Prop:=m2 (fun W=>d.C W A n xs) W ok
def FK {α:Type}(d:Kd α)(W:World)(ok:Nat→Prop)(x:α)(c:List Value):Prop:=m2 (fun W=>d.K W x c) W ok
section
variable {α β : Type} {d : Kd α} {e base n n' cc g N : Nat} {ok ok' okp S : Nat → Prop} {w w0 w1 W W1 : World} {A A' : Option Addr} {u v v1 : Value} {xs : List α} {xs' : List β} {d' : Kd β} {x : α} {c : List Value}
theorem a2q(d:Kd α)(W:World)(ok:Nat→Prop):F d W ok none ([]:List α).length []:=fun W' _=>a2m d W'
theorem Yf(h:d.M W base ok x c):FK d W ok x c:=fun _ hW=>d.K_of_M (Qh h hW)
end
end Kd
end Go.Proofs.YtgpjnkahgofpmaaDoorW.PrintWords
end
section
namespace Go.Proofs.YtgpjnkahgofpmaaDoorW.PrintWords
open Go.RowKit
section
variable {P : Program}
end
namespace Kd
section
variable {P : Program} {ops : Array Oper} {rest : List Oper} {o : Oper} {a : Act} {Q : Exit → Act → World → Prop} {Kc : Act → World → Prop} {α : Type}
end
section
variable {α : Type} {d : Kd α} {e : Nat} {w : World} {base : Nat} {ok : Nat → Prop} {v : Value} {xs : List α}
end
section
variable {P : Program} {ops : Array Oper} {rest : List Oper} {o : Oper} {a : Act} {Q : Exit → Act → World → Prop} {Kc : Act → World → Prop} {α : Type}
end
end Kd
end Go.Proofs.YtgpjnkahgofpmaaDoorW.PrintWords
end
section
namespace Go.Proofs.YtgpjnkahgofpmaaDoorW.PrintWords
open Go.RowKit
namespace Kd
def xY(sz:Nat)(n:Nat)(inner:List Value):List (List Value):=(abX n).map fun j=>(inner.drop (j*sz)).take sz
theorem BJ(sz n:Nat)(inner:List Value):(xY sz n inner).length=n:=by simp[xY]
theorem XK {sz n:Nat}{inner:List Value}{j:Nat}(hj:j<n):(xY sz n inner)[j]?=some ((inner.drop (j*sz)).take sz):=by simp[xY,hj]
theorem Nt {sz n:Nat}{inner:List Value}{j:Nat}{c:List Value}(h:(xY sz n inner)[j]?=some c):c=(inner.drop (j*sz)).take sz:=by
 have hj:j<n:=by have:=(aaE.1 h).1;rwa [BJ]at this
 rw[XK hj]at h
 injection h with h
 exact h.symm
theorem Y0 {α:Type}{Rr:α→List Value→Prop}{sz:Nat}{xs:List α}{inner:List Value}(h:cR Rr sz xs inner)(hR:∀x c,Rr x c→c.length=sz∧∀u∈c,u.oneCell'=true):cR (fun x cs=>cs=x∧cs.length=sz∧∀u∈cs,u.oneCell'=true) sz (xY sz xs.length inner) inner:=by
 refine⟨by rw[BJ];exact h.1,fun j p hj=> ?_⟩
 have hjl:j<xs.length:=by have:=(aaE.1 hj).1;rwa [BJ]at this
 have hp:=Nt hj;exact⟨hp.symm,hR _ _ (h.2 j _ (aak hjl))⟩
section
variable {α : Type} {d : Kd α} {e base n cc g : Nat} {ok ok' okp S : Nat → Prop} {w w1 W W1 : World} {A : Option Addr} {u v v1 : Value} {xs : List α} {x : α} {c : List Value}
def N {α:Type}(d:Kd α)(e:Nat)(w:World)(base:Nat)(ok:Nat→Prop)(v:Value)(xs:List α):Prop:=
 (∀k,v.ownBlock=some k→ok k)∧∃rows:List (List Value),rows.length=xs.length∧(raw d.sz).R e w base (fun k=>some k=v.ownBlock) v rows∧∀ (j:Nat) (x:α) (c:List Value),xs[j]?=some x→rows[j]?=some c→FK d w (fun k=>ok k∧some k≠v.ownBlock) x c
theorem R_N(h:d.R e w base ok v xs):N d e w base ok v xs:=by
 obtain⟨h0,inner,ho,hr⟩:=h;refine⟨h0,xY d.sz xs.length inner,BJ _ _ _,⟨fun k hk=>hk.symm,inner,by rw[BJ];exact ho,Y0 hr (fun x c hp=>⟨d.K_len (d.K_of_M hp),d.K_one (d.K_of_M hp)⟩)⟩,fun j x c hx hc=> ?_⟩;rw[Nt hc];exact Yf (hr.2 j x hx)
theorem lm(d:Kd α)(e:Nat)(w:World)(base:Nat)(ok:Nat→Prop):N d e w base ok (.slice none 0 0) []:=R_N (kA _ _ _ _ _)
theorem a43(h:N d e w base ok v xs){t:Nat}{cells:Array Value}(hb:w.heap[g]?=some (.cells cells t (0,0)))(ht:e≠t):some g≠v.ownBlock:=by
 obtain⟨_,rows,_,hR,_⟩:=h;exact d7 hR hb ht
end
end Kd
end Go.Proofs.YtgpjnkahgofpmaaDoorW.PrintWords
end
section
namespace Go.Proofs.YtgpjnkahgofpmaaDoorW.PrintWords
open Go.RowKit
namespace Kd
section
variable {α : Type} {d : Kd α} {W : World} {g n : Nat} {S ok : Nat → Prop} {A : Option Addr} {ad : Addr} {xs : List α}
end
end Kd
end Go.Proofs.YtgpjnkahgofpmaaDoorW.PrintWords
end
section
namespace Go.Proofs.YtgpjnkahgofpmaaDoorW.PrintWords
open Go.RowKit
section
variable {w w' u : World} {m B g : Nat} {o : Obj} {row : Option Nat} {S : Nat → Prop} {a : Addr} {v : Value}
theorem below_at(hq:w.drewN m=w')(h:Below B u w):Below B u w':=by subst hq;exact dZ h m
theorem blk_at(hq:w.drewN m=w')(h:w.heap[g]?=some o):w'.heap[g]?=some o:=by subst hq;exact h
theorem cell_at(hq:w.drewN m=w')(h:w.cell? a=some v):w'.cell? a=some v:=by subst hq;exact h
end
namespace Kd
section
variable {α : Type} {d : Kd α} {e base n m : Nat} {ok : Nat → Prop} {w w' : World} {v : Value} {A : Option Addr} {xs : List α}
end
end Kd
end Go.Proofs.YtgpjnkahgofpmaaDoorW.PrintWords
end
section
namespace Go.Proofs.YtgpjnkahgofpmaaDoorW.PrintWords
open Go.RowKit
section
variable {P : Program} {d : Nat} {xs ys : Array Value} {f : Field} {fs : List Field} {a b : Value} {r s : Bool} {w : World}
theorem Y1(hn:(f.name== "_")=false)(ha:(part f.type xs f.offset).run P w= .ok a w)(hb:(part f.type ys f.offset).run P w= .ok b w)(he:(Op.equalIn d f.type a b).run P w= .ok r w):(Op.eqFields d xs ys [f]).run P w= .ok r w:=by
 have hn':f.name≠ "_" :=by simpa using hn
 simp only[ab1,if_pos hn',Sem.run_bind,ha,hb,he,aa3]
 cases r<;>simp
theorem J3(hn:(f.name== "_")=false)(ha:(part f.type xs f.offset).run P w= .ok a w)(hb:(part f.type ys f.offset).run P w= .ok b w)(he:(Op.equalIn d f.type a b).run P w= .ok r w)(hr:(Op.eqFields d xs ys fs).run P w= .ok s w):(Op.eqFields d xs ys (f::fs)).run P w= .ok (r&&s) w:=by
 have hn':f.name≠ "_" :=by simpa using hn
 rw[ab1];simp only[if_pos hn',Sem.run_bind,ha,hb,he,aa3]
 cases r
 ·simp
 ·simpa using hr
theorem a1f {t:TypeId}{fs:Array Field}(hu:P.underlying t=some (.struct fs))(hp:P.stoodInHeld t=false)(h:(Op.eqFields d xs ys fs.toList).run P w= .ok r w):(Op.equalIn (d+1) t (.agg xs) (.agg ys)).run P w= .ok r w:=by
 have hf:P.fieldsOf t=fs:=by simp[Program.fieldsOf,hu]
 rw[run_equalIn_struct (P:=P) w d t xs ys (by rw[hf];exact hu) hp,hf];exact h
end
end Go.Proofs.YtgpjnkahgofpmaaDoorW.PrintWords
end
section
namespace Go.Proofs.YtgpjnkahgofpmaaDoorW.PrintLast
open Go.Proofs.YtgpjnkahgofpmaaDoorW.PrintWords (Z)
def zP(md:aaQ)(o:Oper):List Nat:=(o.after.toList.filter (fun e=>aaZ md e)).map (fun e=>e.on)
def JB(md:aaQ)(ops:Array Oper)(i:Nat)(oi:Oper):List Nat:=(abX ops.size).filter fun j=> !(j==i)&&match ops[j]? with
 |some oj=> !(oj.after.any (fun e=>aaZ md e&&e.on==i)||oi.apart ops oj)
 |none=>false
def dt(md:aaQ)(ops:Array Oper):Bool×List (List Nat×List Nat):=(Region.noSelect ops,(abX ops.size).map fun i=>match ops[i]? with
 |some o=>(zP md o,JB md ops i o)
 |none=>([],[]))
def uR(T:List (List Nat×List Nat))(l:List Bool)(i:Nat):Bool:= !l.getD i true&&match T[i]? with
 |some r=>r.1.all (fun j=>l.getD j false)
 |none=>false
def AA(T:List (List Nat×List Nat))(l:List Bool):List Nat:=(abX T.length).filter (uR T l)
def Cb(T:List (List Nat×List Nat))(l:List Bool)(i:Nat):Bool:=match T[i]? with
 |some r=>r.2.all (fun j=>l.getD j true)
 |none=>false
def G9(T:List (List Nat×List Nat))(l:List Bool):Bool:=(abX T.length).all fun j=> !l.getD j false||match T[j]? with
 |some r=>r.1.all (fun k=>l.getD k false)
 |none=>true
def AB(T:List (List Nat×List Nat))(i:Nat):Nat→Nat→Bool
 |0,_=>false
 |fuel+1,d=>match T[d]? with
  |some r=>r.1.any fun j=>j==i||AB T i fuel j
  |none=>false
def Gi(T:List (List Nat×List Nat))(l:List Bool)(ds:List Nat)(i:Nat):Bool:=ds.all fun d=>l.getD d true||AB T i T.length d
section
variable {md : aaQ} {ops : Array Oper} {T : Bool × List (List Nat × List Nat)} {l l' li lj lk : Array Bool} {ds : List Nat} {i j k : Nat}
theorem gd(l:Array Bool)(j:Nat)(b:Bool):l.getD j b=l.toList.getD j b:=by simp[Array.getD_eq_getD_getElem?,List.getD_eq_getElem?_getD]
theorem Nz(o:Oper)(p:Nat→Bool):o.after.all (fun e=> !Region.binds md e||p e.on)=(zP md o).all p:=by
 unfold zP;rw[←Array.all_toList]
 induction o.after.toList with
 |nil=>rfl
 |cons e r ih=>
  rw[List.all_cons,ih,List.filter_cons]
  cases h:aaZ md e<;>simp
theorem XL(o:Oper)(p:Nat→Bool):o.after.any (fun e=>Region.binds md e&&p e.on)=(zP md o).any p:=by
 unfold zP;rw[←Array.any_toList]
 induction o.after.toList with
 |nil=>rfl
 |cons e r ih=>
  rw[List.any_cons,ih,List.filter_cons]
  cases h:aaZ md e<;>simp
theorem Fk:(dt md ops).2.length=ops.size:=by simp[dt]
theorem Fu {o:Oper}(h:ops[i]?=some o):(dt md ops).2[i]?=some (zP md o,JB md ops i o):=by
 have hi:=(aa2.1 h).1;unfold dt;rw[List.getElem?_map,List.getElem?_range hi,Option.map_some,h]
theorem Fv(h:ops[i]?=none):(dt md ops).2[i]?=none:=by
 have hi:ops.size≤i:=Array.getElem?_eq_none_iff.1 h;exact aaX (by rw[Fk];exact hi)
theorem Wy:uR (dt md ops).2 l.toList i=(!l.getD i true&& ((ops[i]?).map (·.after.all fun e=> !Region.binds md e||l.getD e.on false)).getD false):=by
 unfold uR;rw[gd]
 cases h:ops[i]? with
 |none=>rw[Fv h];rfl
 |some o=>
  rw[Fu h];simp only[Option.map_some,Option.getD_some];rw[←Nz];simp only[gd]
theorem G4:aaJ md ops l=AA (dt md ops).2 l.toList:=by
 unfold aaJ AA;rw[Fk];refine List.filter_congr (fun i _=> ?_);rw[Wy]
theorem Of:Region.free md ops l i=Cb (dt md ops).2 l.toList i:=by
 unfold Region.free Cb
 cases h:ops[i]? with
 |none=>rw[Fv h]
 |some oi=>
  rw[Fu h];simp only[JB];rw[List.all_filter]
  congr 1
  funext j
  rw[gd]
  cases hj:ops[j]? with
  |none=>cases (j==i)<;>cases (l.toList.getD j true)<;>simp
  |some oj=>
   cases (j==i)<;>cases (l.toList.getD j true)<;>cases (oj.after.any (fun e=>aaZ md e&&e.on==i)||oi.apart ops oj)<;>simp_all
theorem XM:Region.Bn md ops l=G9 (dt md ops).2 l.toList:=by
 unfold Region.Bn G9;rw[Fk]
 congr 1
 funext j
 rw[gd]
 cases h:ops[j]? with
 |none=>rw[Fv h]
 |some o=>
  rw[Fu h];simp only;rw[←Nz];simp only[gd]
theorem OC:∀ (fuel d:Nat),Region.nl md ops i fuel d=AB (dt md ops).2 i fuel d
 |0,_=>rfl
 |fuel+1,d=>by
  unfold Region.nl AB
  cases h:ops[d]? with
  |none=>rw[Fv h]
  |some o=>
   rw[Fu h];simp only;rw[←XL]
   congr 1
   funext e
   rw[OC fuel]
theorem Yg:Region.lastB md ops l ds i=Gi (dt md ops).2 l.toList ds i:=by
 unfold Region.lastB Gi;rw[Fk]
 congr 1
 funext d
 rw[gd,OC]
theorem Np(h:uR T.2 l.toList i=true)(hT:dt md ops=T):(Region.ready md ops l).contains i=true:=by
 subst hT;rw[G4];unfold AA;rw[List.contains_iff_mem,List.mem_filter,List.mem_range];refine⟨?_,h⟩;unfold uR at h;rw[aaB]at h
 cases hq:(dt md ops).2[i]? with
 |none=>rw[hq]at h;simp at h
 |some r=>exact(aaE.1 hq).1
theorem CT(h:(l.toList.set i true==l'.toList)=true):(l.setIfInBounds i true==l')=true:=by
 rw[beq_iff_eq]at h⊢;apply Array.ext';rw[Array.toList_setIfInBounds];exact h
def Hb(T:Bool×List (List Nat×List Nat))(l l':List Bool)(i:Nat):Bool:=T.1&&Cb T.2 l i&&uR T.2 l i&& (l.set i true==l')
theorem Qk(hT:dt md ops=T)(h:Hb T l.toList l'.toList i=true):Ha md ops l l' i=true:=by
 simp only[Hb,aaB]at h;obtain⟨⟨⟨h1,h2⟩,h3⟩,h4⟩:=h;have h5:=Np h3 hT;have h6:=CT h4;subst hT;simp only[Ha,aaB];exact⟨⟨⟨h1,by rw[Of];exact h2⟩,h5⟩,h6⟩
def Ka(T:Bool×List (List Nat×List Nat))(ds:List Nat)(l l':List Bool)(i:Nat):Bool:=T.1&&Cb T.2 l i&&uR T.2 l i&&G9 T.2 l&&Gi T.2 l ds i&& (l.set i true==l')
theorem Yh(hT:dt md ops=T)(h:Ka T ds l.toList l'.toList i=true):Ca md ops ds l l' i=true:=by
 simp only[Ka,aaB]at h;obtain⟨⟨⟨⟨⟨h1,h2⟩,h3⟩,h4⟩,h5⟩,h6⟩:=h;have h7:=Np h3 hT;have h8:=CT h6;subst hT;simp only[Ca,aaB];exact⟨⟨⟨⟨⟨h1,by rw[Of];exact h2⟩,h7⟩,by rw[XM];exact h4⟩,by rw[Yg];exact h5⟩,h8⟩
theorem bz(hT:dt md ops=T)(h:(AA T.2 l.toList==[i]&&l.toList.set i true==l'.toList)=true):zz md ops l l' i=true:=by
 simp only[aaB]at h;obtain⟨h1,h2⟩:=h;subst hT;simp only[zz,aaB];exact⟨by rw[G4];exact h1,CT h2⟩
theorem AC(hT:dt md ops=T)(h:(AA T.2 l.toList==[i,j]&&l.toList.set i true==li.toList&&l.toList.set j true==lj.toList)=true):(Region.ready md ops l==[i,j]&&l.setIfInBounds i true==li&&l.setIfInBounds j true==lj)=true:=by
 simp only[aaB]at h⊢;obtain⟨⟨h1,h2⟩,h3⟩:=h;subst hT;exact⟨⟨by rw[G4];exact h1,CT h2⟩,CT h3⟩
theorem dW(hT:dt md ops=T)(h:(AA T.2 l.toList==[])=true):(Region.ready md ops l==[])=true:=by
 subst hT;rw[G4];exact h
def yx(B:List Nat)(d:Nat):List Nat→Nat
 |[]=>0
 |n::r=>(2^n|||(if n<d then B.getD n 0 else 0))|||yx B d r
def fh(T:List (List Nat×List Nat))(B:List Nat):Bool:=(abX T.length).all fun d=>match T[d]? with
 |some r=>(B.getD d 0|||yx B d r.1)==yx B d r.1
 |none=>false
theorem Og {B:List Nat}{d i:Nat}:∀ {ns:List Nat},(yx B d ns).testBit i=true→∃n∈ns,n=i∨(n<d∧(B.getD n 0).testBit i=true)
 |[],h=>by simp[yx]at h
 |n::r,h=>by
  unfold yx at h;rw[Nat.testBit_or,Nat.testBit_or,abT,abT]at h
  rcases h with(h|h)|h
  ·rw[Nat.testBit_two_pow]at h
   exact⟨n,abE,.inl (by simpa using h)⟩
  ·by_cases hn:n<d
   ·rw[if_pos hn]at h
    exact⟨n,abE,.inr ⟨hn,h⟩⟩
   ·rw[if_neg hn]at h
    simp at h
  ·obtain⟨m,hm,h2⟩:=Og h
   exact⟨m,abP _ hm,h2⟩
theorem O0 {T:List (List Nat×List Nat)}{B:List Nat}(hB:fh T B=true):∀ (fuel d:Nat),d<fuel→d<T.length→(B.getD d 0).testBit i=true→AB T i fuel d=true
 |0,d,h,_,_=>by omega
 |fuel+1,d,h,hd,hb=>by
  have h1:=ab6.1 hB d (List.mem_range.2 hd)
  cases hr:T[d]? with
  |none=>rw[hr]at h1;simp at h1
  |some r=>
   rw[hr]at h1;simp only[beq_iff_eq]at h1
   have h2:(yx B d r.1).testBit i=true:=by rw[←h1,Nat.testBit_or,hb,Bool.true_or]
   obtain⟨n,hn,h3⟩:=Og h2;unfold AB;rw[hr];simp only;rw[List.any_eq_true];refine⟨n,hn, ?_⟩
   rcases h3 with rfl|⟨h4,h5⟩
   ·simp
   ·rw[O0 hB fuel n (by omega) (by omega) h5,Bool.or_true]
def RG(T:List (List Nat×List Nat))(B:List Nat)(l:List Bool)(ds:List Nat)(i:Nat):Bool:=ds.all fun d=>l.getD d true||(decide (d<T.length)&& (B.getD d 0).testBit i)
def Kb(T:Bool×List (List Nat×List Nat))(B:List Nat)(ds:List Nat)(l l':List Bool)(i:Nat):Bool:=T.1&&Cb T.2 l i&&uR T.2 l i&&G9 T.2 l&&RG T.2 B l ds i&& (l.set i true==l')
theorem Y2 {B:List Nat}(hT:dt md ops=T)(hB:fh T.2 B=true)(h:Kb T B ds l.toList l'.toList i=true):Ca md ops ds l l' i=true:=by
 refine Yh hT ?_;simp only[Kb,Ka,aaB]at h⊢;obtain⟨⟨⟨⟨⟨h1,h2⟩,h3⟩,h4⟩,h5⟩,h6⟩:=h;refine⟨⟨⟨⟨⟨h1,h2⟩,h3⟩,h4⟩, ?_⟩,h6⟩;unfold RG at h5;unfold Gi;rw[ab6]at h5⊢;intro d hd;have h7:=h5 d hd;rw[abT,aaB,decide_eq_true_eq]at h7
 rcases h7 with h7|⟨h8,h9⟩
 ·rw[h7,Bool.true_or]
 ·rw[O0 hB _ d h8 h8 h9,Bool.or_true]
theorem dl {P:Program}{Q:Exit→Act→World→Prop}{S:World→Prop}{n:Nat}{a:Act}{w:World}{B:List Nat}(hT:dt md ops=T)(hB:fh T.2 B=true)(h:Z (dt md ops=T)→Z (fh T.2 B=true)→eI P md ops Q S ds n l a w):eI P md ops Q S ds n l a w:=h ⟨hT⟩ ⟨hB⟩
end
def qx:Code→Nat→Option (Array Oper)
 | .region id ops _,k=>if id==k then some ops else none
 | .seq a b,k=>match qx a k with
   |some o=>some o
   |none=>qx b k
 | .cond _ a b,k=>match qx a k with
   |some o=>some o
   |none=>qx b k
 | .block _ c,k=>qx c k
 | .loop c,k=>qx c k
 | .scope c,k=>qx c k
 | .rangeFunc _ _ a b,k=>match qx a k with
   |some o=>some o
   |none=>qx b k
 |_,_=>none
def gN(f:Func)(k:Nat):Array Oper:=((f.body.bind fun c=>qx c k)).getD #[]
end Go.Proofs.YtgpjnkahgofpmaaDoorW.PrintLast
end
section
namespace Go.Proofs.YtgpjnkahgofpmaaDoorW.PrintLast
section
variable {P : Program} {ops : Array Oper} {Q : Exit → Act → World → Prop} {md : aaQ} {S : World → Prop} {ds : List Nat} {T : Bool × List (List Nat × List Nat)}
end
end Go.Proofs.YtgpjnkahgofpmaaDoorW.PrintLast
end
section
namespace Go.Proofs.YtgpjnkahgofpmaaDoorW.PrintWords
open Go.RowKit
section
variable {P : Program} {ops : Array Oper} {rest : List Oper} {o : Oper} {a : Act} {Q : Exit → Act → World → Prop} {W : World}
theorem fV(hw:Region.wanted o (yielded ops a.tmps)=true)(h:wpList P ops Q ({o with guard:=none}::rest) a W):wpList P ops Q (o::rest) a W:=by
 have h1:aao {o with guard:=none} (yielded ops a.tmps)=true:=rfl;unfold wpList at h⊢;rw[if_pos h1]at h;rw[if_pos hw];exact h
end
end Go.Proofs.YtgpjnkahgofpmaaDoorW.PrintWords
end
section
namespace Go.Proofs.YtgpjnkahgofpmaaDoorW.PrintLast
def up(b:Nat→Bool)(i:Nat):Nat→Bool:=fun j=>if j=i then true else b j
section
variable {P : Program} {ops : Array Oper} {Q : Exit → Act → World → Prop} {md : aaQ} {T : Bool × List (List Nat × List Nat)} {B : List Nat} {O : List Nat} {b : Nat → Bool} {i j n : Nat}
end
end Go.Proofs.YtgpjnkahgofpmaaDoorW.PrintLast
end
section
namespace Go.Proofs.YtgpjnkahgofpmaaDoorW.PrintWords
open Go.RowKit
end Go.Proofs.YtgpjnkahgofpmaaDoorW.PrintWords
namespace Go.Proofs.YtgpjnkahgofpmaaDoorW.PrintLast
section
variable {ops : Array Oper} {a : Act} {o og : Oper} {g : Nat} {t : Tmp} {u : Bool}
end
end Go.Proofs.YtgpjnkahgofpmaaDoorW.PrintLast
end
section
namespace Go.Proofs.YtgpjnkahgofpmaaDoorW.PrintWords
open Go.RowKit
namespace Kd
section
variable {α : Type} {d : Kd α} {e base g o n cap : Nat} {ok okp : Nat → Prop} {w W : World} {v : Value} {xs : List α}
theorem Q_form(h:d.Q e w base ok v xs)(hp:0<xs.length):∃g o cap,v= .slice (some ⟨g,o,none⟩) xs.length cap∧base≤g∧g<w.heap.size∧∃cells,w.heap[g]?=some (.cells cells e (0,0)):=by
 obtain⟨h0,inner,hq,hr⟩:=h
 rcases hq.2 with⟨h1,_⟩|⟨g,off,cap,cur,rfl,hb,hh,r⟩
 ·omega
 ·exact⟨g,off*d.sz,cap,rfl,hb,j7 hh,cur,hh⟩
theorem Ql(h:d.Q e W base ok (.slice (some ⟨g,o,none⟩) n cap) xs)(z:α)(i:Int)(h0:0≤i)(h1:i<n):
 ∃c,c.length=d.sz∧d.M W base (fun k=>ok k∧k≠g) (xs.getD i.toNat z) c∧(∀j u,c[j]?=some u→W.cell? ⟨g,o+i.toNat*d.sz+j,none⟩=some u)∧∀j,W.frozen? ⟨g,o+i.toNat*d.sz+j,none⟩=false:=by
 obtain⟨hn,hnc,hC⟩:=J2 h;obtain⟨_,inner,ho,hr⟩:=h
 have hil:i.toNat<xs.length:=by omega
 have hseg:i.toNat*d.sz+d.sz≤inner.length:=by rw[hr.1,←aaR];exact aap _ hil
 have hM:=hr.2 i.toNat _ (aak hil);refine⟨(inner.drop (i.toNat*d.sz)).take d.sz,by rw[ca,fF];omega, ?_,fun j u hu=> ?_,fun j=> ?_⟩
 ·rw[aam,aak hil]
  exact d.M_mono (fun k hk=>⟨hk.1,fun he=>hk.2 (by rw[he];simp[aas])⟩) hM
 ·rw[aaz]at hu
  split at hu
  ·rw[aaC]at hu
   subst hn;obtain⟨ad,he,hc⟩:=Od ho (by omega)
   injection he with he
   subst he;have:=hc _ u hu
   rwa [xX,←Nat.add_assoc]at this
  ·cases hu
 ·obtain⟨_,cells,hc⟩:=G8 ho g (by simp[aas])
  exact dD hc _
theorem a2r(h:d.Q e W base ok (.slice (some ⟨g,o,none⟩) n cap) xs)(i:Int)(h0:0≤i)(h1:i<n){c seg:List Value}{j:Nat}(hcl:c.length=d.sz)(hcc:∀j u,c[j]?=some u→W.cell? ⟨g,o+i.toNat*d.sz+j,none⟩=some u)
 (hj:j+seg.length≤d.sz){x':α}(hM:d.M W base okp x' (c.take j++seg++c.drop (j+seg.length)))(hokp:∀k,okp k→ok k∧k≠g):
 d.Q e (W.setCells g (o+i.toNat*d.sz+j) seg) base ok (.slice (some ⟨g,o,none⟩) n cap) (xs.set i.toNat x')∧W.grownBy (W.setCells g (o+i.toNat*d.sz+j) seg) (some g):=by
 obtain⟨hn,hnc,_⟩:=J2 h;obtain⟨hok,inner,ho,hr⟩:=h
 have hil:i.toNat<xs.length:=by omega
 have hseg:i.toNat*d.sz+d.sz≤inner.length:=by rw[hr.1,←aaR];exact aap _ hil
 have hin:inner.length=n*d.sz:=by rw[hr.1,hn]
 obtain⟨ho1,ho2⟩:=ho
 rcases ho2 with⟨hz,_⟩|⟨g',off,cap',cur,hv,hb,hh,hnc',hcm,hcs,ht⟩
 ·omega
 injection hv with ha _ hc
 injection ha with ha
 injection ha with hg hoff
 subst hg;subst hc;subst hoff;have hcap:n*d.sz≤cap*d.sz:=aap _ hnc
 have hcs':cur.size=off*d.sz+cap*d.sz:=by rw[hcs,abZ]
 have hfit:off*d.sz+i.toNat*d.sz+j+seg.length≤cur.size:=by omega
 obtain⟨cur',h3,h4,h5⟩:=Fj seg (off*d.sz+i.toNat*d.sz+j) W cur hh hfit;obtain⟨s1,s2,s3,s4⟩:=Fg g seg (off*d.sz+i.toNat*d.sz+j) W
 have hfar:∀k,k≠g→(W.setCells g (off*d.sz+i.toNat*d.sz+j) seg).heap[k]?=W.heap[k]?:=fun k hk=>Fi seg _ k hk
 rw[←hn]at ht
 have hat:∀q,q<n*d.sz→cur.toList[off*d.sz+q]?=inner[q]?:=by
  intro q hq;rw[←ht,aaz,if_pos hq,aaC]
 have hcin:∀q,q<d.sz→c[q]?=inner[i.toNat*d.sz+q]?:=by
  intro q hq
  have hq':q<c.length:=by omega
  have h6:=hcc q _ (aak hq');rw[cell_of_row W g _ cur e (0,0) hh]at h6;rw[aak hq',←h6,←hat _ (by omega),ab7,Nat.add_assoc]
 refine⟨⟨hok,inner.take (i.toNat*d.sz+j)++seg++inner.drop (i.toNat*d.sz+j+seg.length),⟨?_,.inr ⟨g,off,cap,cur',by rw[aar,hn],hb,h3,by rw[aar,←hn];exact hnc,hcm,by rw[h4,hcs], ?_⟩⟩, ?_⟩,
  ⟨s1,s2,s3,by rw[s4];exact kV _,fun k _ hk=>hfar k (fun he=>hk (by rw[he]))⟩⟩
 ·rw[aar]
  simp only[aau,ca,fF];rw[hr.1]at hseg⊢
  omega
 ·rw[aar,←hn]
  apply abi;intro q;rw[aaz,aaC,h5];rw[qJ cur.toList seg (off*d.sz+i.toNat*d.sz+j) (by rw[abA];omega) (off*d.sz+q),qJ inner seg (i.toNat*d.sz+j) (by omega) q]
  by_cases hq:q<n*d.sz
  ·rw[if_pos hq]
   by_cases hq1:q<i.toNat*d.sz+j
   ·rw[if_pos (by omega),if_pos hq1,hat q hq]
   ·rw[if_neg (by omega),if_neg hq1]
    by_cases hq2:q<i.toNat*d.sz+j+seg.length
    ·rw[if_pos (by omega),if_pos hq2]
     congr 1
     omega
    ·rw[if_neg (by omega),if_neg hq2,hat q hq]
  ·rw[if_neg hq,if_neg (by omega),if_neg (by omega),aaX (by omega)]
 ·refine⟨?_,fun m p hm=> ?_⟩
  ·rw[aar]
   simp only[aau,ca,fF];rw[hr.1]at hseg⊢
   omega
  ·have hml:m<xs.length:=by
    have:=(aaE.1 hm).1
    rwa [aar]at this
   have hmfit:m*d.sz+d.sz≤inner.length:=by rw[hr.1,←aaR];exact aap _ hml
   have hgo:some g=(aa6 (some ⟨g,off*d.sz,none⟩) n cap).ownBlock:=by simp[aas]
   by_cases hmi:m=i.toNat
   ·subst hmi
    rw[List.getElem?_set_self (by omega)]at hm
    injection hm with hm
    subst hm
    have hcells:((inner.take (i.toNat*d.sz+j)++seg++inner.drop (i.toNat*d.sz+j+seg.length)).drop (i.toNat*d.sz)).take d.sz=c.take j++seg++c.drop (j+seg.length):=by
     apply abi;intro q;rw[aaz,aaC,qJ inner seg _ (by omega),qJ c seg j (by omega) q]
     by_cases hq:q<d.sz
     ·rw[if_pos hq,hcin q hq]
      by_cases hq1:q<j
      ·rw[if_pos (by omega),if_pos hq1]
      ·rw[if_neg (by omega),if_neg hq1]
       by_cases hq2:q<j+seg.length
       ·rw[if_pos (by omega),if_pos hq2]
        congr 1
        omega
       ·rw[if_neg (by omega),if_neg hq2]
     ·rw[if_neg hq,if_neg (by omega),if_neg (by omega),aaX (by omega)]
    rw[hcells];refine d.M_mono (fun k hk=> ?_) (d.M_move (w1:=W.setCells g (off*d.sz+i.toNat*d.sz+j) seg) (fun k hk=>hfar k (hokp k hk).2) hM);exact⟨(hokp k hk).1,fun he=>(hokp k hk).2 (by rw[←hgo]at he;injection he)⟩
   ·rw[List.getElem?_set_ne (by omega)]at hm
    have hold:=hr.2 m p hm
    have hcells:((inner.take (i.toNat*d.sz+j)++seg++inner.drop (i.toNat*d.sz+j+seg.length)).drop (m*d.sz)).take d.sz=(inner.drop (m*d.sz)).take d.sz:=by
     apply abi;intro q;rw[aaz,aaz,aaC,aaC,qJ inner seg _ (by omega)]
     by_cases hq:q<d.sz
     ·rw[if_pos hq,if_pos hq]
      rcases Nat.lt_or_gt_of_ne hmi with hlt|hgt
      ·have:m*d.sz+d.sz≤i.toNat*d.sz:=by rw[←aaR];exact aap _ hlt
       rw[if_pos (by omega)]
      ·have:i.toNat*d.sz+d.sz≤m*d.sz:=by rw[←aaR];exact aap _ hgt
       rw[if_neg (by omega),if_neg (by omega)]
     ·rw[if_neg hq,if_neg hq]
    rw[hcells];refine d.M_move (fun k hk=>hfar k (fun he=>hk.2 (by rw[he];exact hgo))) hold
end
section
variable {α : Type} {enc : α → Value} {h1 : ∀ x, (enc x).oneCell' = true} {e base g o n cap : Nat} {ok : Nat → Prop} {W : World} {xs : List α}
theorem Q_cell(d:α)(h:(iq enc h1).Q e W base ok (.slice (some ⟨g,o,none⟩) n cap) xs)(i:Int)(h0:0≤i)(hi:i<n):W.cell? ⟨g,o+i.toNat,none⟩=some (enc (rF d xs i))∧W.frozen? ⟨g,o+i.toNat,none⟩=false:=by
 obtain⟨c,_,hM,hcc,hf⟩:=Ql h d i h0 hi;have hM':c=[enc (xs.getD i.toNat d)]:=hM;subst hM';have h2:=hcc 0 _ rfl;have h3:=hf 0;rw[show(iq enc h1).sz=1 from rfl,aaL,Nat.add_zero]at h2 h3;exact⟨h2,h3⟩
theorem Q_putg(h:(iq enc h1).Q e W base ok (.slice (some ⟨g,o,none⟩) n cap) xs)(i:Int)(h0:0≤i)(hi:i<n)(x:α):(iq enc h1).Q e (W.setCell ⟨g,o+i.toNat,none⟩ (enc x)) base ok (.slice (some ⟨g,o,none⟩) n cap) (xs.set i.toNat x)∧W.grownBy (W.setCell ⟨g,o+i.toNat,none⟩ (enc x)) (some g):=by
 have hp:0<xs.length:=by have:=(J2 h).1;omega
 obtain⟨c,hcl,_,hcc,_⟩:=Ql h (xs[0]'hp) i h0 hi
 have h2:=a2r h i h0 hi (c:=c) (seg:=[enc x]) (j:=0) (okp:=fun _=>False) (x':=x) hcl hcc (kV 1) (by
  have hl:c.length=1:=hcl
  show c.take 0++[enc x]++c.drop (0+1)=[enc x]
  rw[List.drop_eq_nil_of_le (by omega)]
  rfl) (fun _ hk=>hk.elim)
 rw[show(iq enc h1).sz=1 from rfl,aaL,Nat.add_zero]at h2;exact h2
end
end Kd
end Go.Proofs.YtgpjnkahgofpmaaDoorW.PrintWords
end
section
namespace Go.Proofs.YtgpjnkahgofpmaaDoorW.PrintWords
open Go.RowKit
namespace Kd
section
variable {α : Type} {d : Kd α} {e base n cap g : Nat} {ok ok' okp : Nat → Prop} {w w1 W : World} {v v1 : Value} {xs ys : List α}
end
section
variable {P : Program} {ops : Array Oper} {rest : List Oper} {o : Oper} {a : Act} {Q : Exit → Act → World → Prop} {Kc : Act → World → Prop} {α : Type}
end
end Kd
end Go.Proofs.YtgpjnkahgofpmaaDoorW.PrintWords
end
section
namespace Go.Proofs.YtgpjnkahgofpmaaDoorW.PrintMore
open Go.RowKit Go.Proofs.YtgpjnkahgofpmaaDoorW.PrintWords
namespace Kd
open Go.Proofs.YtgpjnkahgofpmaaDoorW.PrintWords.Kd
end Kd
namespace Kd
open Go.Proofs.YtgpjnkahgofpmaaDoorW.PrintWords.Kd
section
variable {α : Type} {d : Kd α} {e base g N : Nat} {ok : Nat → Prop} {W w1 : World} {u v : Value} {xs : List α}
end
end Kd
theorem uM(k k':IntKind)(x y:Int):abx (.int k x) (.int k' y)=pure (.int k (if x<y then y else x)):=by simp only[abx,gt_iff_lt]
theorem uN(k k':IntKind)(x y:Int):aby (.int k x) (.int k' y)=pure (.int k (if y<x then y else x)):=by simp only[aby]
theorem uS(ats:Array TypeId)(ty:TypeId)(a b:Value):Builtin.max_ ats ty #[a,b]=(Builtin.max2 a b>>=fun s=>pure s):=by simp only[Builtin.max_,List.foldlM_cons,List.foldlM_nil]
theorem uT(ats:Array TypeId)(ty:TypeId)(a b:Value):Builtin.min_ ats ty #[a,b]=(Builtin.min2 a b>>=fun s=>pure s):=by simp only[Builtin.min_,List.foldlM_cons,List.foldlM_nil]
theorem u9(ats:Array TypeId)(ty:TypeId)(a b c:Value):Builtin.max_ ats ty #[a,b,c]=(Builtin.max2 a b>>=fun s=>Builtin.max2 s c>>=fun s=>pure s):=by simp only[Builtin.max_,List.foldlM_cons,List.foldlM_nil]
theorem uA(ats:Array TypeId)(ty:TypeId)(a b c:Value):Builtin.min_ ats ty #[a,b,c]=(Builtin.min2 a b>>=fun s=>Builtin.min2 s c>>=fun s=>pure s):=by simp only[Builtin.min_,List.foldlM_cons,List.foldlM_nil]
theorem uO(ats:Array TypeId)(ty:TypeId)(a b c d:Value):Builtin.max_ ats ty #[a,b,c,d]=(Builtin.max2 a b>>=fun s=>Builtin.max2 s c>>=fun s=>Builtin.max2 s d>>=fun s=>pure s):=by simp only[Builtin.max_,List.foldlM_cons,List.foldlM_nil]
theorem uP(ats:Array TypeId)(ty:TypeId)(a b c d:Value):Builtin.min_ ats ty #[a,b,c,d]=(Builtin.min2 a b>>=fun s=>Builtin.min2 s c>>=fun s=>Builtin.min2 s d>>=fun s=>pure s):=by simp only[Builtin.min_,List.foldlM_cons,List.foldlM_nil]
end Go.Proofs.YtgpjnkahgofpmaaDoorW.PrintMore
namespace Go.Proofs.YtgpjnkahgofpmaaDoorW.PrintWords
open Go.RowKit
section
variable {P : Program} {ops : Array Oper} {rest : List Oper} {o : Oper} {a : Act} {Q : Exit → Act → World → Prop} {W : World}
theorem bU {f:FuncId}{as:Array Operand}{ts:Array TypeId}(_ho:o.op= .call {callee:= .value (.func f),args:=as,argTypes:=ts})(h:wpList P ops Q (o::rest) a W):wpList P ops Q (o::rest) a W:=h
theorem BK {b:Builtin}{xs:Array Operand}{ts:Array TypeId}(_ho:o.op= .call {callee:= .builtin b,args:=xs,argTypes:=ts})(h:wpList P ops Q (o::rest) a W):wpList P ops Q (o::rest) a W:=h
end
def mx(a b:Int):Int:=if a<b then b else a
def mn(a b:Int):Int:=if b<a then b else a
theorem ru(w:World)(n:Nat):w.drewN n=w.drewN n:=rfl
theorem cell_unalloc {W:World}{o:Obj}{a:Addr}{v:Value}(h:(W.alloc o).cell? a=some v)(hlt:a.block<W.heap.size):W.cell? a=some v:=(World.cell?_alloc_lt _ _ _ hlt).symm.trans h
theorem cell_grown {W w1:World}{row:Option Nat}(hg:W.grownBy w1 row){a:Addr}{v:Value}(h:W.cell? a=some v)(hne:some a.block≠row):w1.cell? a=some v:=by
 have:=hg.block a.block (Fe W a h) hne
 simpa[aav,this]using h
namespace Kd
section
variable {α : Type} {d : Kd α} {e base : Nat} {ok : Nat → Prop} {W w1 : World} {v : Value} {xs : List α}
end
section
variable {α : Type} {d : Kd α} {e base g n cap : Nat} {ok oki okp : Nat → Prop} {W : World} {xs : List α} {i : Int} {c : List Value}
end
section
variable {α : Type} {d : Kd α} {e base b b' g N : Nat} {ok ok1 : Nat → Prop} {W W2 w1 : World} {u v : Value} {xs ys : List α} {S : Nat → Prop}
end
end Kd
end Go.Proofs.YtgpjnkahgofpmaaDoorW.PrintWords
namespace Go.Proofs.YtgpjnkahgofpmaaDoorW.PrintWords
open Go.RowKit
theorem fM.keepG {w W W2:World}{S2:Nat→Prop}{g:Nat}(h:az w W g none)(k:fM W W2 S2)(hs:∀k,S2 k→k=g∨w.heap.size≤k):az w W2 g none:=
 ⟨aaI h.1 k.1,fun i hi hg hr=>(k.2 i (WR hi h.1) (fun h2=>(hs i h2).elim hg (fun h3=>by omega))).trans (h.2 i hi hg hr)⟩
namespace Kd
def V {α:Type}(d:Kd α)(_e:Nat)(W:World)(_base:Nat)(ok:Nat→Prop)(v:Value)(xs:List α):Prop:=∃A c,v= .slice A xs.length c∧xs.length≤c∧F d W ok A xs.length xs
section
variable {α β : Type} {d : Kd α} {e base base' n m c g N' lo hi : Nat} {ok ok' S : Nat → Prop} {w W w1 : World} {A : Option Addr} {ad : Addr} {u v v1 : Value} {xs : List α}
theorem ln(d:Kd α)(e:Nat)(W:World)(base:Nat)(ok:Nat→Prop):V d e W base ok (.slice none 0 0) []:=⟨none,0,rfl,kV _,a2q d W ok⟩
end
end Kd
end Go.Proofs.YtgpjnkahgofpmaaDoorW.PrintWords
end
section
namespace Go.Proofs.YtgpjnkahgofpmaaDoorW.PrintWords
theorem cR.one {α:Type}{R:α→List Value→Prop}{ps:List α}{cs:List Value}{p:α}{v:Value}(hp:R p [v])(h:cR R 1 ps cs):cR R 1 (p::ps) (v::cs):=by
 refine⟨by simp[h.1],fun j q hq=> ?_⟩
 cases j with
 |zero=>
  simp only[List.getElem?_cons_zero,aaa]at hq;subst hq
  simpa using hp
 |succ j=>
  simp only[List.getElem?_cons_succ]at hq;have h1:=h.2 j q hq
  simpa[aaL]using h1
theorem cR.front {α:Type}{R:α→List Value→Prop}{size:Nat}{ps:List α}{cs c all:List Value}{p:α}(hp:R p c)(hc:c.length=size)(h:cR R size ps cs)(ha:c++cs=all):cR R size (p::ps) all:=by
 subst ha;refine⟨by rw[aau,hc,h.1,ab5,aaR,Nat.add_comm],fun j q hq=> ?_⟩
 cases j with
 |zero=>
  simp only[List.getElem?_cons_zero,aaa]at hq;subst hq;rw[Nat.zero_mul,List.drop_zero,abM (by omega),List.take_of_length_le (by omega)];exact hp
 |succ j=>
  simp only[List.getElem?_cons_succ]at hq;have h1:=h.2 j q hq;rw[aaR,List.drop_append,List.drop_of_length_le (by rw[hc];exact Nat.le_add_left _ _),List.nil_append,hc,Nat.add_sub_cancel];exact h1
theorem cR.c2 {α:Type}{R:α→List Value→Prop}{ps:List α}{cs:List Value}{p:α}{va vb:Value}(hp:R p [va,vb])(h:cR R 2 ps cs):cR R 2 (p::ps) (va::vb::cs):=cR.front hp rfl h rfl
theorem cR.c3 {α:Type}{R:α→List Value→Prop}{ps:List α}{cs:List Value}{p:α}{va vb vc:Value}(hp:R p [va,vb,vc])(h:cR R 3 ps cs):cR R 3 (p::ps) (va::vb::vc::cs):=cR.front hp rfl h rfl
theorem cR.c4 {α:Type}{R:α→List Value→Prop}{ps:List α}{cs:List Value}{p:α}{va vb vc vd:Value}(hp:R p [va,vb,vc,vd])(h:cR R 4 ps cs):cR R 4 (p::ps) (va::vb::vc::vd::cs):=cR.front hp rfl h rfl
theorem cR.c5 {α:Type}{R:α→List Value→Prop}{ps:List α}{cs:List Value}{p:α}{va vb vc vd ve:Value}(hp:R p [va,vb,vc,vd,ve])(h:cR R 5 ps cs):cR R 5 (p::ps) (va::vb::vc::vd::ve::cs):=cR.front hp rfl h rfl
theorem cR.c6 {α:Type}{R:α→List Value→Prop}{ps:List α}{cs:List Value}{p:α}{va vb vc vd ve vf:Value}(hp:R p [va,vb,vc,vd,ve,vf])(h:cR R 6 ps cs):cR R 6 (p::ps) (va::vb::vc::vd::ve::vf::cs):=cR.front hp rfl h rfl
theorem cR.c7 {α:Type}{R:α→List Value→Prop}{ps:List α}{cs:List Value}{p:α}{va vb vc vd ve vf vg:Value}(hp:R p [va,vb,vc,vd,ve,vf,vg])(h:cR R 7 ps cs):cR R 7 (p::ps) (va::vb::vc::vd::ve::vf::vg::cs):=cR.front hp rfl h rfl
theorem cR.c8 {α:Type}{R:α→List Value→Prop}{ps:List α}{cs:List Value}{p:α}{va vb vc vd ve vf vg vh:Value}(hp:R p [va,vb,vc,vd,ve,vf,vg,vh])(h:cR R 8 ps cs):cR R 8 (p::ps) (va::vb::vc::vd::ve::vf::vg::vh::cs):=cR.front hp rfl h rfl
theorem cR.c9 {α:Type}{R:α→List Value→Prop}{ps:List α}{cs:List Value}{p:α}{va vb vc vd ve vf vg vh vi:Value}(hp:R p [va,vb,vc,vd,ve,vf,vg,vh,vi])(h:cR R 9 ps cs):cR R 9 (p::ps) (va::vb::vc::vd::ve::vf::vg::vh::vi::cs):=cR.front hp rfl h rfl
theorem cR.c10 {α:Type}{R:α→List Value→Prop}{ps:List α}{cs:List Value}{p:α}{va vb vc vd ve vf vg vh vi vj:Value}(hp:R p [va,vb,vc,vd,ve,vf,vg,vh,vi,vj])(h:cR R 10 ps cs):cR R 10 (p::ps) (va::vb::vc::vd::ve::vf::vg::vh::vi::vj::cs):=cR.front hp rfl h rfl
end Go.Proofs.YtgpjnkahgofpmaaDoorW.PrintWords
end
