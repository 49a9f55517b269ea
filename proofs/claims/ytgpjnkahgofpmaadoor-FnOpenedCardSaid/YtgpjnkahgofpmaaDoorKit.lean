/- Small lemmas on rounds, wrapped numbers and lists. No program, no statement. -/
import Derived.Test.YtgpjnkahgofpmaaDoorWWords
open List renaming getD_eq_getElem?_getD→aam
namespace Go.Proofs.YtgpjnkahgofpmaaDoor.Q
open Go.RowKit Go.Proofs.YtgpjnkahgofpmaaDoorW.PrintWords
set_option linter.unusedVariables false
set_option linter.unusedSimpArgs false
theorem dc {x:Int}(h0: -9223372036854775808≤x)(h1:x≤9223372036854775807):wrap64 x=x:=by unfold wrap64;omega
theorem i64_of {x:Int}(h:(Lit.int .i64 x).wf=true): -9223372036854775808≤x∧x≤9223372036854775807:=by
 have h1:IntKind.i64.min= -9223372036854775808:=by rfl
 have h2:IntKind.i64.max=9223372036854775807:=by rfl
 simp[Lit.wf]at h
 omega
theorem Ev.mk {α:Type}{g:Nat→Option α}{r:α}(K:Nat)(h:∀k,K≤k→g k=some r):Ev g r:=⟨K,h⟩
theorem Ev.const {α:Type}{g:Option α}{r:α}(h:g=some r):Ev (fun _=>g) r:=⟨0,fun _ _=>h⟩
theorem Ev.pos {α:Type}{c:Prop}[Decidable c]{g f:Nat→Option α}{r:α}(h:c)(e:Ev g r):Ev (fun k=>if c then g k else f k) r:=Ev.congr (fun k=>if_pos h) e
theorem Ev.neg {α:Type}{c:Prop}[Decidable c]{g f:Nat→Option α}{r:α}(h:¬c)(e:Ev f r):Ev (fun k=>if c then g k else f k) r:=Ev.congr (fun k=>if_neg h) e
theorem Ev.ite {α:Type}{c:Prop}[Decidable c]{g f:Nat→Option α}{r:α}(e:c→Ev g r)(e2:¬c→Ev f r):Ev (fun k=>if c then g k else f k) r:=by
 by_cases h:c
 ·exact Ev.pos h (e h)
 ·exact Ev.neg h (e2 h)
theorem Ev.bind' {α β:Type}{g:Nat→Option α}{f:Nat→α→Option β}(a:α){r:β}(h:Ev g a)(k:Ev (fun n=>f n a) r):Ev (fun n=>(g n).bind (f n)) r:=Ev.bind h k
theorem Ev.bh {α β:Type}{g:Option α}{f:Nat→α→Option β}(a:α){r:β}(h:g=some a)(k:Ev (fun n=>f n a) r):Ev (fun n=>g.bind (f n)) r:=Ev.congr (fun n=>by rw[h];rfl) k
theorem Ev.eq {α:Type}{g:Nat→Option α}{r q:α}(h:Ev g r)(e:r=q):Ev g q:=e▸h
theorem Ev.now' {α:Type}{r q:α}(h:r=q):Ev (fun _=>some r) q:=h▸Ev.now r
theorem dec_true {p:Prop}{i:Decidable p}(h:p): @decide p i=true:=decide_eq_true h
theorem dec_false {p:Prop}{i:Decidable p}(h:¬p): @decide p i=false:=decide_eq_false h
theorem dec_congr {p q:Prop}{i:Decidable p}{j:Decidable q}(h:p↔q): @decide p i= @decide q j:=decide_eq_decide.2 h
theorem K7 {α:Type}(l:List α)(i:Nat)(z:α)(h:i<l.length):l.getD i z=l[i]:=by simp[List.getD_eq_getElem?_getD,h]
theorem getD_append_left {α:Type}(l m:List α)(i:Nat)(z:α)(h:i<l.length):(l++m).getD i z=l.getD i z:=by simp[List.getD_eq_getElem?_getD,List.getElem?_append_left h]
theorem take_succ_getD {α:Type}(l:List α)(i:Nat)(z:α)(h:i<l.length):l.take (i+1)=l.take i++[l.getD i z]:=by
 rw[K7 l i z h,List.take_succ_eq_append_getElem h]
theorem drop_getD {α:Type}(l:List α)(i:Nat)(z:α)(h:i<l.length):l.drop i=l.getD i z::l.drop (i+1):=by
 rw[K7 l i z h,List.drop_eq_getElem_cons h]
theorem Wi {α:Type}(l:List α)(i:Nat)(a z:α)(h:i<l.length):(l.set i a).getD i z=a:=by
 rw[aam,List.getElem?_set_self h];rfl
theorem getD_set_ne {α:Type}(l:List α)(i j:Nat)(a z:α)(h:j≠i):(l.set i a).getD j z=l.getD j z:=by
 rw[aam,aam,List.getElem?_set_ne (Ne.symm h)]
theorem getD_replicate {α:Type}(n i:Nat)(a:α):(List.replicate n a).getD i a=a:=by
 rw[aam,List.getElem?_replicate]
 split<;>rfl
theorem OX {α:Type}(l:List α)(i:Nat)(z:α)(h:i<l.length):l.getD i z∈l:=by
 rw[K7 l i z h];exact List.getElem_mem h
end Go.Proofs.YtgpjnkahgofpmaaDoor.Q
