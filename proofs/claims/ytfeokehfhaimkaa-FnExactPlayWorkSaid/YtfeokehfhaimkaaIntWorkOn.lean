/- WorkOn of both: the same answer. -/
import Derived.Test.YtfeokehfhaimkaaIntOpenS
import Derived.Test.YtfeokehfhaimkaaIntPromise
import Derived.Test.YtfeokehfhaimkaaG3
import Derived.Test.YtfeokehfhaimkaaG6
open Bool renaming false_ne_true→db
open List renaming length_append→Ug,length_singleton→eP,mem_singleton→aap,mem_iff_getElem→aaH,mem_append→aaY,mem_filter→abz
open Nat renaming zero_le→bp
open Option.some renaming inj→Gn
namespace Go.Proofs.Ytfeokehfhaimkaa.Q
open Go.RowKit Go.Proofs.YtfeokehfhaimkaaW.PrintWords Go.Proofs.Ytfeokehfhaimkaa.G
set_option linter.unusedVariables false
set_option linter.unusedSimpArgs false
structure PS(n:Int)(out:List It):Prop where
 lo:∀y∈out,0≤y.f3
 hi:∀y∈out,y.f2.f1≤n
theorem Vg(l:List It)(j:Nat)(h:j<l.length):l.getD j z66∈l:=KR l j _ h
theorem PS.next {n:Int}{fp:List X_}{out o:List It}{x:It}(hn:n≤400)(H2:∀y∈out,y.f3≤y.f2.f1)(H:PS n out)(h:fP n fp out x=some o):PS n o:=by
 unfold fP at h
 split at h
 ·split at h
  ·rename_i c
   split at h
   ·cases h
   ·split at h
    ·cases h
    ·obtain rfl:=Gn h
     refine⟨fun y hy=> ?_,fun y hy=> ?_⟩
     ·rcases aaY.1 hy with hy|hy
      ·exact H.lo y hy
      ·rw[aap.1 hy];omega
     ·rcases aaY.1 hy with hy|hy
      ·exact H.hi y hy
      ·rw[aap.1 hy];exact c.2.2.2.2.1
  ·cases h
 ·split at h
  ·rename_i c
   obtain rfl:=Gn h;obtain⟨_,_,_,c1,c2,c3,c4⟩:=c
   have hj:(x.f1-1).toNat<out.length:=by omega
   have hm:=Vg out _ hj;have a1:=H.lo _ hm;have a2:=H.hi _ hm;have a3:=H2 _ hm;rw[bv (by omega) (by omega)]at c3;refine⟨fun y hy=> ?_,fun y hy=> ?_⟩
   ·rcases List.mem_or_eq_of_mem_set hy with hy|hy
    ·exact H.lo y hy
    ·rw[hy];show 0≤x.f3;omega
   ·rcases List.mem_or_eq_of_mem_set hy with hy|hy
    ·exact H.hi y hy
    ·rw[hy];exact a2
  ·cases h
theorem runI_inv3 {n:Int}{fp:List X_}(hn:n≤400):∀ (l p out o:List It),Inv p out→vQ p out→PS n out→gU n fp out l=some o→PS n o
 |[],p,out,o,_,_,H3,h=>by
  rw[gU]at h;obtain rfl:=Gn h;exact H3
 |x::t,p,out,o,H,H2,H3,h=>by
  rw[gU]at h
  cases e:fP n fp out x with
  |none=>rw[e]at h;cases h
  |some q=>
   rw[e,Option.bind_some]at h;exact runI_inv3 hn t (p++[x]) q o (H.next e) (H2.next e) (H3.next hn H2.le e) h
abbrev rq:Int×List X_×List X_×Int×List It×Bool:=(0,[],[],0,[],false)
theorem look_s(id many n:Int)(fp m:List X_)(nxt:Int)(l L:List It)(hL:L.length≤1048576)(r:Int×List X_×List X_×Int×List It×Bool)
 (hit:∀y∈L,y.f1=id→Ev (fun k=>dI.j4 k id many n fp m nxt l y.f0 y.f1 y.f2.f0 y.f2.f1 y.f3) r)(no:(∀y∈L,y.f1≠id)→r=rq):
 ∀d j:Nat,L.length-j=d→j≤L.length→(∀i:Nat,i<j→(L.getD i z66).f1≠id)→Ev (fun k=>dI.l0 k id many L (L.length:Int) (j:Int) n fp m nxt l) r:=by
 intro d
 induction d with
 |zero=>
  intro j hd hj hist
  have e:j=L.length:=by omega
  subst e
  rw[no (fun y hy=>by
   obtain⟨i,hi,rfl⟩:=aaH.1 hy;have:=hist i hi
   rwa [sX L i _ hi]at this)]
  exact Ev.step (fun k=>by rw[dI.l0]) (Ev.neg (by omega) (Ev.now _))
 |succ d ih=>
  intro j hd hj hist
  have hjl:j<L.length:=by omega
  refine Ev.step (fun k=>by rw[dI.l0]) (Ev.pos (by omega) ?_);refine Ev.step (fun k=>by rw[dI.j3]) (Ev.pos (by omega) (Ev.pos (by omega) ?_));rw[uT]
  by_cases c:(L.getD j z66).f1=id
  ·exact Ev.pos c (hit _ (Vg L j hjl) c)
  ·refine Ev.neg c ?_
   rw[show wrap64 ((j:Int)+1)=((j+1:Nat):Int)from by rw[bv (by omega) (by omega)];omega]
   exact ih (j+1) (by omega) (by omega) (fun i hi=>by
    by_cases e:i=j
    ·subst e;exact c
    ·exact hist i (by omega))
theorem workOn_both(n:Int)(fp m:List X_)(nxt:Int)(l:List It)(id many:Int)(hfp:fp.length≤1048576)(hm:m.length≤1048576)(hl:l.length≤1048576):
 ∃r:Int×List X_×List X_×Int×List It×Bool,Ev (fun k=>dI.f k n fp m nxt l id many) r∧Ev (fun k=>gq.f k n fp m nxt l id many) r∧r.2.1.length≤2000000∧r.2.2.1.length≤2000000∧r.2.2.2.2.1.length≤2000000:=by
 obtain⟨o,h1,h2,h3⟩:=QG n fp m nxt l hfp (by omega);have js:Ev (fun k=>dI.j0 k id many true n fp m nxt l) rq:=Ev.step (fun k=>by rw[dI.j0]) (Ev.pos rfl (Ev.now _))
 have ji:∀out:List It,Ev (fun k=>gq.j0 k id many out true n fp m nxt l) rq:=fun out=>Ev.step (fun k=>by rw[gq.j0]) (Ev.pos rfl (Ev.now _))
 unfold dI.f gq.f
 cases o with
 |none=>exact⟨rq,Ev.bind' _ h2 (Ev.neg db js),Ev.bind' _ h1 (Ev.neg db (ji _)),bp _,bp _,bp _⟩
 |some out=>
  obtain⟨b1,b2,b3,n1,n2,f60,hnx⟩:=h3 out rfl;obtain⟨H,H2⟩:=runI_inv l [] [] out Inv.start vQ.start b2;rw[List.nil_append]at H H2;have H3:=runI_inv3 n2 l [] [] out Inv.start vQ.start ⟨fun y h=>(by cases h),fun y h=>(by cases h)⟩ b2;have hso:=Xn n fp m nxt l hfp h2
  have gi:Ev (fun k=>gH.f k n fp m nxt l) true:=by
   unfold gH.f;exact Ev.bind' _ h1 (Ev.now _)
  have hown:=YG n fp m nxt l hfp (by omega) hso
  have hopen:Ev (fun k=>eW.f k l) (out.filter (fun y=> !(done y))):=by
   unfold eW.f;have h0:Ev (fun k=>eW.l0 k l [] l (l.length:Int) 0) (l.filterMap (pQ l)):=open_s l (by omega) l.length 0 [] rfl (bp _) (bp _);rw[open_eq H H2]at h0;exact h0
  have hfl:=List.length_filter_le (fun y=> !(done y)) out
  have spec_of:∀r:Int×List X_×List X_×Int×List It×Bool,¬many<1→(∀y∈out.filter (fun y=> !(done y)),y.f1=id→Ev (fun k=>dI.j4 k id many n fp m nxt l y.f0 y.f1 y.f2.f0 y.f2.f1 y.f3) r)→((∀y∈out.filter (fun y=> !(done y)),y.f1≠id)→r=rq)→
   Ev (fun k=>dI.j0 k id many (decide (many<1)) n fp m nxt l) r:=fun r hm1 hit no=>by
   rw[decide_eq_false hm1];refine Ev.step (fun k=>by rw[dI.j0]) (Ev.neg db ?_);refine Ev.step (fun k=>by rw[dI.j1]) (Ev.bind' _ hown (Ev.bind' _ hopen ?_));exact look_s id many n fp m nxt l _ (by omega) r hit no _ 0 rfl (bp _) (fun i hi=>absurd hi (Nat.not_lt_zero _))
  by_cases cm:many<1
  ·refine⟨rq,Ev.bind' _ h2 (Ev.pos rfl (by rw[decide_eq_true cm];exact js)),Ev.bind' _ h1 (Ev.pos rfl (Ev.dq _ (ua _ _ _) ?_)),bp _,bp _,bp _⟩
   show Ev (fun k=>gq.j0 k id many out (!decide (1≤id∧id≤(out.length:Int))) n fp m nxt l) rq
   by_cases ci:1≤id∧id≤(out.length:Int)
   ·rw[decide_eq_true ci]
    refine Ev.step (fun k=>by rw[gq.j0]) (Ev.neg (by simp) ?_);rw[bv (x:=id-1) (by omega) (by omega)];refine Ev.pos (by omega) (Ev.pos (by omega) (Ev.ite (fun _=>Ev.now _) (fun _=>Ev.pos cm (Ev.now _))))
   ·rw[decide_eq_false ci]
    exact ji _
  ·by_cases ci:1≤id∧id≤(out.length:Int)
   ·have hj:(id-1).toNat<out.length:=by omega
    have hmem:=Vg out _ hj;have a1:=H3.lo _ hmem;have a2:=H3.hi _ hmem;have a3:=H2.le _ hmem;have a4:=H2.ids _ hj
    have uniq:∀y∈out,y.f1=id→y=out.getD (id-1).toNat z66:=fun y hy e=>by
     obtain⟨i,hi,rfl⟩:=aaH.1 hy;have:=H2.ids i hi;rw[sX out i _ hi]at this
     have ei:i=(id-1).toNat:=by omega
     subst ei;exact(sX out _ _ hi).symm
    have himp:∀r,Ev (fun k=>if(wrap64 ((out.getD (id-1).toNat z66).f2.f1-(out.getD (id-1).toNat z66).f3))=0 then some rq else(if many<1 then some rq else((ij.f k n fp m nxt l 2 id 0 0 (wrap64 ((out.getD (id-1).toNat z66).f3+(mn many (wrap64 ((out.getD (id-1).toNat z66).f2.f1-(out.getD (id-1).toNat z66).f3))))) nxt).bind fun bt=>(some (bt.1,bt.2.1,bt.2.2.1,bt.2.2.2.1,bt.2.2.2.2.1,bt.2.2.2.2.2))))) r→
     Ev (fun k=>(jH.f id 1 (out.length:Int)).bind fun t449=>gq.j0 k id many out (!t449) n fp m nxt l) r:=fun r h=>by
     refine Ev.dq _ (ua _ _ _) ?_;rw[decide_eq_true ci];refine Ev.step (fun k=>by rw[gq.j0]) (Ev.neg (by simp) ?_);rw[bv (x:=id-1) (by omega) (by omega)];refine Ev.pos (by omega) (Ev.pos (by omega) ?_)
     have er:U out (id-1)=out.getD (id-1).toNat z66:=by
      have:=uT out (id-1).toNat
      rwa [Int.toNat_of_nonneg (by omega)]at this
     rw[er];exact h
    generalize hx:out.getD (id-1).toNat z66=x at *
    by_cases cd:x.f2.f1-x.f3=0
    ·refine⟨rq,Ev.bind' _ h2 (Ev.pos rfl (spec_of rq cm (fun y hy e=> ?_) (fun _=>rfl))),Ev.bind' _ h1 (Ev.pos rfl (himp _ (Ev.pos (by rw[bv (by omega) (by omega)];exact cd) (Ev.now _)))),bp _,bp _,bp _⟩
     have hy2:=abz.1 hy;have:=uniq y hy2.1 e;rw[this]at hy2
     have hd:done x=true:=by unfold done;rw[beq_iff_eq];omega
     rw[hd]at hy2;exact absurd hy2.2 (by simp)
    ·
     obtain⟨up,hup,hup1⟩:∃up:Int,up=(if many<x.f2.f1-x.f3 then x.f3+many else x.f2.f1)∧wrap64 (x.f3+mn many (wrap64 (x.f2.f1-x.f3)))=up:=by
      refine⟨_,rfl, ?_⟩;rw[bv (x:=x.f2.f1-x.f3) (by omega) (by omega)];unfold mn
      by_cases c:many<x.f2.f1-x.f3
      ·rw[if_pos c,if_neg (by omega),bv (by omega) (by omega)]
      ·rw[if_neg c]
       by_cases c2:x.f2.f1-x.f3<many
       ·rw[if_pos c2,bv (by omega) (by omega)];omega
       ·rw[if_neg c2,bv (by omega) (by omega)];omega
     obtain⟨g,gs,gi2⟩:=QI n fp m nxt (l++[(⟨2,id,⟨0,0⟩,up⟩:It)]) hfp hm (by rw[Ug,eP];omega);have hw:=with_i n fp m nxt l (⟨2,id,⟨0,0⟩,up⟩:It) nxt hfp hm (by omega) gi g gi2;refine⟨a1J n fp m nxt (l++[(⟨2,id,⟨0,0⟩,up⟩:It)]) g,Ev.bind' _ h2 (Ev.pos rfl (spec_of _ cm (fun y hy e=> ?_) (fun no=> ?_))),Ev.bind' _ h1 (Ev.pos rfl (himp _ (Ev.neg (by rw[bv (by omega) (by omega)];exact cd) (Ev.neg cm ?_)))), ?_⟩
     ·have hy2:=abz.1 hy
      have:=uniq y hy2.1 e;subst this
      have fin:Ev (fun k=>((eM.f k n fp m nxt (l++[(⟨2,id,⟨0,0⟩,up⟩:It)])).bind fun t=>(if t=true then(some (n,fp,m,nxt,l++[(⟨2,id,⟨0,0⟩,up⟩:It)],true))else(some rq)))) (a1J n fp m nxt (l++[(⟨2,id,⟨0,0⟩,up⟩:It)]) g):=by
       refine Ev.bind' _ gs ?_
       cases g with
       |true=>exact Ev.pos rfl (Ev.now _)
       |false=>exact Ev.neg db (Ev.now _)
      refine Ev.step (fun k=>by rw[dI.j4]) ?_;rw[bv (x:=y.f2.f1-y.f3) (by omega) (by omega)]
      by_cases c:many<y.f2.f1-y.f3
      ·rw[if_pos c]at hup
       refine Ev.pos c (Ev.pos (by omega) (Ev.dq _ rfl ?_));rw[bv (x:=y.f3+many) (by omega) (by omega),←hup];exact fin
      ·rw[if_neg c]at hup
       refine Ev.neg c (Ev.pos (by omega) (Ev.dq _ rfl ?_));rw[←hup];exact fin
     ·refine absurd ?_ (no x (abz.2 ⟨hmem, ?_⟩))
      ·omega
      ·have hd:done x=false:=by unfold done;rw[beq_eq_false_iff_ne];omega
       rw[hd];rfl
     ·rw[hup1]
      exact Ev.bind' _ hw (Ev.now _)
     ·cases g with
      |true=>exact⟨by show fp.length≤_;omega,by show m.length≤_;omega,by show(l++[(⟨2,id,⟨0,0⟩,up⟩:It)]).length≤_;rw[Ug,eP];omega⟩
      |false=>exact⟨bp _,bp _,bp _⟩
   ·refine⟨rq,Ev.bind' _ h2 (Ev.pos rfl (spec_of rq cm (fun y hy e=> ?_) (fun _=>rfl))),Ev.bind' _ h1 (Ev.pos rfl (Ev.dq _ (ua _ _ _) (by show Ev (fun k=>gq.j0 k id many out (!decide (1≤id∧id≤(out.length:Int))) n fp m nxt l) rq;rw[decide_eq_false ci];exact ji _))),bp _,bp _,bp _⟩
    obtain⟨i,hi,rfl⟩:=aaH.1 (abz.1 hy).1;have:=H2.ids i hi;rw[sX out i _ hi]at this;exact absurd ⟨by omega,by omega⟩ ci
end Go.Proofs.Ytfeokehfhaimkaa.Q
