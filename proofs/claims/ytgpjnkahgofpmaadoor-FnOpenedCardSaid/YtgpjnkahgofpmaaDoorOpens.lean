/- Every value of plain data that can be read opens to a Lean value: whole numbers, bools, strings, structs and slices of these, by the printed kinds. No program, no statement. -/
import Derived.Test.YtgpjnkahgofpmaaDoorWWords
import Derived.WalkKit
import Derived.ProofKit
import Derived.OpenShut
import Derived.ShutString
import Derived.ChangeOld
import Derived.Below
import Derived.SizedLaws
import Derived.ChangeSlices
import Derived.ChangeArms
namespace Go.Proofs.YtgpjnkahgofpmaaDoor.lg
open Go.RowKit Go.Proofs.YtgpjnkahgofpmaaDoorW.PrintWords Go.ChangeShapes Go.WideShapes
set_option linter.unusedVariables false
set_option linter.unusedSimpArgs false
structure lg {α:Type}(P:Program)(t:TypeId)(d:Kd α)(Ok:α→Prop):Prop where mk::
 (out:∀ (H:Type) (enc:TypeId×Value→H) (w:World) (fuel:Nat) (cs:List Value) (y:DataW H×List MemPlace),DataW.trod enc P w 0 (fun _=>true) true fuel t cs=some y→∃x,d.K w x cs∧Ok x)
theorem Ny {P:Program}{t:TypeId}{k:IntKind}(ht:P.underlying t=some (.int k)):lg P t (Kd.int k) (fun n=>(Lit.int k n).wf=true):=by
 refine⟨fun H enc w fuel cs y h=> ?_⟩;obtain⟨n,rfl,_,hw⟩:=DataW.trod_int ht h;exact⟨n,rfl,hw⟩
theorem opens_bool {P:Program}{t:TypeId}(ht:P.underlying t=some .bool):lg P t Kd.bool (fun _=>True):=by
 refine⟨fun H enc w fuel cs y h=> ?_⟩;obtain⟨b,rfl,_⟩:=DataW.trod_bool ht h;exact⟨b,rfl,trivial⟩
theorem opens_string {P:Program}{t:TypeId}(ht:P.underlying t=some .string):lg P t Kd.string (fun s=>s.size≤maxLen):=by
 refine⟨fun H enc w fuel cs y h=> ?_⟩;obtain⟨s,rfl,_,hs⟩:=DataW.trod_string ht h;exact⟨s,rfl,hs⟩
theorem Nm {α:Type}{P:Program}{t e:TypeId}{d:Kd α}{Ok:α→Prop}(ht:P.underlying t=some (.slice e))(hc:P.cellsOf e=d.sz)(he:lg P e d Ok):
 lg P t (Kd.slice e d) (fun l=>l.length≤maxLen∧∀x∈l,Ok x):=by
 refine⟨fun H enc w fuel cs y h=> ?_⟩
 rcases DataW.trod_slice ht h with⟨rfl,_⟩|⟨a,len,cap,elems,rest,n,_,rfl,_,_,hl,hm,hlen,hel,_,_⟩
 ·exact⟨[],⟨none,0,rfl,Nat.le_refl _,rfl,by simp,fun h=>absurd h (by simp)⟩,by simp[maxLen],fun x hx=>by simp at hx⟩
 ·have each:∀i,i<len→∃x c,(c.length=d.sz∧d.K w x c∧∀j u,c[j]?=some u→w.cell? (a.add (i*d.sz+j))=some u)∧Ok x:=by
   intro i hi;have h1:=hel i hi
   have h2:i<elems.length:=by omega
   rw[List.getElem?_eq_getElem h2,Option.bind_eq_some_iff]at h1;obtain⟨c,hcs,h3⟩:=h1;obtain⟨x,hx,hok⟩:=he.out H enc w n c _ h3;refine⟨x,c,⟨d.K_len hx,hx,fun j u hu=> ?_⟩,hok⟩;have h4:=(World.cells?_some hcs).2.2 j (by rw[hc,←d.K_len hx];exact(List.getElem?_eq_some_iff.1 hu).1)
   have h5:(a.add (i*P.cellsOf e)).add j=a.add (i*d.sz+j):=by
    rw[hc];unfold Addr.add
    by_cases hj:j=0<;>by_cases hi:i*d.sz=0<;>simp[hj,hi,Nat.add_assoc]
   rw[h5]at h4;rw[h4,hu]
  obtain⟨xs,hxl,hxs⟩:∃xs:List α,xs.length=len∧∀i x,xs[i]?=some x→(∃c,c.length=d.sz∧d.K w x c∧∀j u,c[j]?=some u→w.cell? (a.add (i*d.sz+j))=some u)∧Ok x:=by
   have key:∀m,m≤len→∃xs:List α,xs.length=m∧∀i x,xs[i]?=some x→(∃c,c.length=d.sz∧d.K w x c∧∀j u,c[j]?=some u→w.cell? (a.add (i*d.sz+j))=some u)∧Ok x:=by
    intro m
    induction m with
    |zero=>exact fun _=>⟨[],rfl,fun i x h=>by simp at h⟩
    |succ m ih=>
     intro hm;obtain⟨xs,hl,hx⟩:=ih (by omega);obtain⟨x,c,hc,hok⟩:=each m (by omega);refine⟨xs++[x],by simp[hl],fun i y hy=> ?_⟩
     rcases Nat.lt_or_ge i xs.length with h1|h1
     ·rw[List.getElem?_append_left h1]at hy
      exact hx i y hy
     ·have h2:i=m:=by
       have:=(List.getElem?_eq_some_iff.1 hy).1
       simp at this
       omega
      subst h2;rw[List.getElem?_append_right (by omega),←hl]at hy
      simp at hy
      subst hy;exact⟨⟨c,hc⟩,hok⟩
   exact key len (Nat.le_refl _)
  refine⟨xs,⟨some a,cap,by rw[hxl],by omega,rfl, ?_,fun _=>⟨a,rfl,fun j p hj=>(hxs j p hj).1⟩⟩,by omega,fun x hx=> ?_⟩
  ·simp only[maxLen]at hm
   omega
  ·obtain⟨i,hi⟩:=List.getElem?_of_mem hx
   exact(hxs i x hi).2
structure GW {α:Type}(P:Program)(fs:Array Field)(i o:Nat)(d:Kd α)(Ok:α→Prop):Prop where mk::
 (out:∀ (H:Type) (enc:TypeId×Value→H) (w:World) (n:Nat) (cs:List Value) (xs:List (DataW H×List MemPlace)),cs.length=o+d.sz→xs.length=fs.size→
   (∀ (j:Nat) (f:Field),fs[j]?=some f→DataW.trod enc P w 0 (fun _=>true) true n f.type ((cs.drop f.offset).take (P.cellsOf f.type))=xs[j]?)→∃x,d.K w x (cs.drop o)∧Ok x)
theorem opens_last {α:Type}{P:Program}{fs:Array Field}{i o:Nat}{d:Kd α}{Ok:α→Prop}(f:Field)(hf:fs[i]?=some f)(ho:f.offset=o)(hc:P.cellsOf f.type=d.sz)(he:lg P f.type d Ok):GW P fs i o d Ok:=by
 refine⟨fun H enc w n cs xs hl hx h=> ?_⟩;have h1:=h i f hf
 have h2:i<xs.length:=by rw[hx];exact(Array.getElem?_eq_some_iff.1 hf).1
 rw[List.getElem?_eq_getElem h2,ho,hc,List.take_of_length_le (by rw[List.length_drop];omega)]at h1;exact he.out H enc w n _ _ h1
theorem opens_cons {α β:Type}{P:Program}{fs:Array Field}{i o:Nat}{d:Kd α}{d2:Kd β}{Ok:α→Prop}{F5:β→Prop}(f:Field)(hf:fs[i]?=some f)(ho:f.offset=o)(hc:P.cellsOf f.type=d.sz)(he:lg P f.type d Ok)
 (hr:GW P fs (i+1) (o+d.sz) d2 F5):GW P fs i o (Kd.pair d d2) (fun x=>Ok x.1∧F5 x.2):=by
 refine⟨fun H enc w n cs xs hl hx h=> ?_⟩;have hs:(Kd.pair d d2).sz=d.sz+d2.sz:=rfl;have h1:=h i f hf
 have h2:i<xs.length:=by rw[hx];exact(Array.getElem?_eq_some_iff.1 hf).1
 rw[List.getElem?_eq_getElem h2,ho,hc]at h1;obtain⟨x,hk,hok⟩:=he.out H enc w n _ _ h1;obtain⟨y,hk2,hok2⟩:=hr.out H enc w n cs xs (by rw[hs]at hl;omega) hx h;refine⟨(x,y),⟨_,_, ?_,hk,hk2⟩,hok,hok2⟩;rw[←List.drop_drop,List.take_append_drop]
theorem opens_struct {α:Type}{P:Program}{t:TypeId}{fs:Array Field}{d:Kd α}{Ok:α→Prop}(ht:P.underlying t=some (.struct fs))(hc:P.cellsOf t=d.sz)(h:GW P fs 0 0 d Ok):lg P t d Ok:=by
 refine⟨fun H enc w fuel cs y hy=> ?_⟩;obtain⟨xs,n,_,_,hl,hx,hf⟩:=DataW.trod_struct ht hy;obtain⟨x,hk,hok⟩:=h.out H enc w n cs xs (by rw[hl,hc];omega) hx hf;exact⟨x,by simpa using hk,hok⟩
theorem opens_iso {α β:Type}{P:Program}{t:TypeId}{d:Kd α}{Ok:α→Prop}{F5:β→Prop}{f:β→α}(h:lg P t d Ok)(g:α→β)(hg:∀x,f (g x)=x)(hok:∀x,Ok x→F5 (g x)):lg P t (Kd.Vf d f) F5:=by
 refine⟨fun H enc w fuel cs y hy=> ?_⟩;obtain⟨x,hk,ho⟩:=h.out H enc w fuel cs y hy;exact⟨g x,by show d.K w (f (g x)) cs;rw[hg];exact hk,hok x ho⟩
theorem Nx {α H:Type}{enc:TypeId×Value→H}{P:Program}{t:TypeId}{d:Kd α}{Ok:α→Prop}{w:World}{v:Value}{D:DataW H}{ps:List MemPlace}(h:lg P t d Ok)(ht:DataW.Trod enc P w 0 (fun _=>true) true t v D ps):∃x,d.K w x v.cells.toList∧Ok x:=by
 obtain⟨fuel,hf⟩:=ht;exact h.out H enc w fuel _ _ hf
end Go.Proofs.YtgpjnkahgofpmaaDoor.lg
