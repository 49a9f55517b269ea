/- 'clear(xs[k:k+m])' on a row of one's own, for the printed walks. No program, no statement. -/
import Derived.Test.YtahnkgehlfdlkaaWWords
open Go.Value renaming slice→aa0
open List renaming length_take→aN,length_drop→fM,length_append→oB,replicate→aa1
namespace Go.Proofs.YtahnkgehlfdlkaaW.PrintWords
open Go.RowKit
set_option linter.unusedVariables false
theorem zeroCells_made(z:Array Value)(m:Nat):Builtin.zeroCells z m=madeCells z (m*z.size):=rfl
namespace Kd
section
variable {P : Program} {α : Type}
theorem R_clear_run(d:Kd α){W:World}(base:Nat)(t ty e:TypeId)(z:Value)(ht:P.underlying t=some (.slice e))(hzr:∀w,(zeroValue e).run P w= .ok z w)(hz:z.cells.size=d.sz)(hs0:0<d.sz)
 (z0:α)(hzero:d.M W base (fun _=>False) z0 z.cells.toList)
 {n c k m:Nat}{A0:Option Addr}{xs:List α}{ok:Nat→Prop}(HO:d.R e W base ok (.slice A0 n c) xs)(hkm:k+m≤n){A:Option Addr}(hA:A=if c=k then A0 else A0.map (·.add (k*d.sz)))(c2:Nat):
 ∃w1,(Builtin.clear_ #[t] ty #[.slice A m c2]).run P W= .ok (.tuple #[]) w1∧d.R e w1 base ok (.slice A0 n c) (xs.take k++aa1 m z0++xs.drop (k+m))∧W.grownBy w1 (aa0 A0 n c).ownBlock:=by
 rcases Nat.eq_zero_or_pos m with hm0|hm0
 ·subst hm0
  refine⟨W, ?_, ?_,⟨rfl,rfl,rfl,Nat.le_refl _,fun _ _ _=>rfl⟩⟩
  ·cases A<;>simp[Builtin.clear_,run_underlying ht]
  ·rw[List.replicate_zero,List.append_nil,Nat.add_zero,List.take_append_drop]
   exact HO
 obtain⟨hn,hnc,_⟩:=ab HO;obtain⟨hok,inner,hown,hr⟩:=HO
 have hin:inner.length=n*d.sz:=by rw[hr.1,hn]
 rcases hown.2 with⟨_,h0⟩|⟨g,cap',cur,hv,hb,hh,_,hcm,hcs,htake⟩
 ·exact absurd h0 (by omega)
 injection hv with ha _ hc
 subst ha;subst hc;rw[←hn]at htake;obtain⟨news,hnews⟩:∃news,news=(madeCells z.cells (m*d.sz)).toList:=⟨_,rfl⟩
 have hnl:news.length=m*d.sz:=by rw[hnews,Array.length_toList,size_madeCells]
 have hle:(k+m)*d.sz≤n*d.sz:=Nat.mul_le_mul_right _ hkm;have hks:(k+m)*d.sz=k*d.sz+m*d.sz:=Nat.add_mul _ _ _;have hnc':n*d.sz≤c*d.sz:=Nat.mul_le_mul_right _ hnc
 have hAe:A=some ⟨g,k*d.sz,none⟩:=by
  rw[hA,if_neg (by omega),Option.map_some,Vh,Nat.zero_add]
 have hone:∀u∈news,u.oneCell'=true:=by
  intro u hu;rw[hnews]at hu
  have hu2:u∈z.cells.toList:=by
   obtain⟨q,hq,rfl⟩:=List.mem_iff_getElem.1 hu
   have hmod:q%d.sz<z.cells.size:=by rw[hz];exact Nat.mod_lt _ hs0
   simp only[madeCells,Array.getElem_toList,Array.getElem_map,Array.getElem_range,hz];rw[getElem!_pos z.cells _ hmod]
   simp
  exact d.K_one (d.K_of_M hzero) _ hu2
 have hfit:k*d.sz+news.length≤cur.size:=by omega
 have hst:=run_storeCells_cells (P:=P) g (k*d.sz) news 0 W (fun j hj=>by rw[cell_of_row W g _ cur e (0,0) hh];simp;omega) (fun j _=>gT hh _) hone;rw[Nat.add_zero]at hst;obtain⟨cur',h3,h4,h5⟩:=Nr news (k*d.sz) W cur hh hfit;obtain⟨s1,s2,s3,s4⟩:=Np g news (k*d.sz) W
 have hfar:∀k',k'≠g→(W.setCells g (k*d.sz) news).heap[k']?=W.heap[k']?:=fun k' hk'=>Nq news _ k' hk'
 have hgo:∀q,some g=(aa0 (some ⟨g,0,none⟩) q c).ownBlock:=fun q=>by simp[Value.ownBlock]
 have hel:(xs.take k++aa1 m z0++xs.drop (k+m)).length=n:=by
  rw[oB,oB,aN,List.length_replicate,fM,hn];omega
 have hcat:(inner.take (k*d.sz)++news++inner.drop ((k+m)*d.sz)).length=n*d.sz:=by
  rw[oB,oB,aN,fM,hnl,hin];omega
 refine⟨W.setCells g (k*d.sz) news, ?_,⟨fun k' hk'=>hok k' hk',inner.take (k*d.sz)++news++inner.drop ((k+m)*d.sz),⟨?_,.inr ⟨g,c,cur',by rw[hel],hb,h3,by rw[hel];omega,hcm,by rw[h4,hcs], ?_⟩⟩, ?_⟩,⟨s1,s2,s3,by rw[s4];exact Nat.le_refl _,fun k' _ hk'=>hfar k' (fun he=>hk' (by rw[he,hgo]))⟩⟩
 ·have hzc:(Builtin.zeroCells z.cells m).toList=news:=by rw[hnews,zeroCells_made,hz]
  obtain⟨m',rfl⟩:∃m',m=m'+1:=⟨m-1,by omega⟩;rw[hAe]
  simp[Builtin.clear_,run_underlying ht,hzr,hzc,hst]
 ·rw[hcat,hel]
 ·rw[hel,h5]
  have h7:cur.toList.take (k*d.sz)=inner.take (k*d.sz):=by
   rw[←htake,List.take_take,Nat.min_eq_left (by omega)]
  rw[h7,hnl,←hks]
  have h8:inner.drop ((k+m)*d.sz)=(cur.toList.drop ((k+m)*d.sz)).take (n*d.sz-(k+m)*d.sz):=by
   rw[←htake,List.drop_take]
  have h9:(inner.take (k*d.sz)++news).length=(k+m)*d.sz:=by rw[oB,aN,hnl,hin];omega
  rw[h8,List.take_append,h9,List.take_of_length_le (by rw[h9];exact hle)]
 ·have hmv:∀p q,d.M W base (fun k'=>ok k'∧some k'≠(aa0 (some ⟨g,0,none⟩) n c).ownBlock) p q→d.M (W.setCells g (k*d.sz) news) base (fun k'=>ok k'∧some k'≠(aa0 (some ⟨g,0,none⟩) n c).ownBlock) p q:=fun p q hp=>
   d.M_move (fun k' hk'=>hfar k' (fun he=>hk'.2 (by rw[←hgo,he]))) hp
  have hz1:d.M (W.setCells g (k*d.sz) news) base (fun k'=>ok k'∧some k'≠(aa0 (some ⟨g,0,none⟩) n c).ownBlock) z0 z.cells.toList:=
   d.M_mono (fun k' hk'=>hk'.elim) (d.M_move (fun k' hk'=>hk'.elim) hzero)
  have hnr:=reps_made hz hs0 hz1 m;rw[←hnews]at hnr;exact So (So ((reps_take hr (by omega)).nR hmv) hnr) ((reps_drop hr).nR hmv)
theorem zero_run {e:TypeId}{z:Value}{size bytes:Nat}(hinfo:(P.info? e).map (fun i=>(i.zero,i.size,i.bytes))=some (some z,size,bytes))(w:World):(zeroValue e).run P w= .ok z w:=by
 obtain⟨i0,hi,hzz⟩:=Option.map_eq_some_iff.1 hinfo;simp only[Prod.mk.injEq]at hzz
 simp[zeroValue,run_typeInfo w hi,hzz.1]
end
section
variable {P : Program} {ops : Array Oper} {rest : List Oper} {o : Oper} {a : Act} {Q : Exit → Act → World → Prop} {Kc : Act → World → Prop} {α : Type}
theorem R_clear(d:Kd α){w0 W:World}(base:Nat)(hgd:o.guard=none)(s:Operand)(t e:TypeId)(ho:o.op= .call {callee:= .builtin .clear,args:= #[s],argTypes:= #[t]})
 (ht:P.underlying t=some (.slice e))(z:Value)(bytes:Nat)(hinfo:(P.info? e).map (fun i=>(i.zero,i.size,i.bytes))=some (some z,d.sz,bytes))(hz:z.cells.size=d.sz)(hs0:0<d.sz)
 (z0:α)(hzero:d.M W base (fun _=>False) z0 z.cells.toList){n c k m c2:Nat}{A0 A:Option Addr}{xs:List α}{ok:Nat→Prop}
 (hs:a.eval s= .slice A m c2)(hA:A=if c=k then A0 else A0.map (·.add (k*d.sz)))
 (HO:d.R e W base ok (.slice A0 n c) xs)(hkm:k+m≤n)(HB:Below base w0 W)(hbase:base≤W.heap.size)
 (h:∀w1,d.R e w1 base ok (.slice A0 n c) (xs.take k++List.replicate m z0++xs.drop (k+m))→Below base w0 w1→W.grownBy w1 (Value.slice A0 n c).ownBlock→wpList P ops Q rest (a.put o.dst (.tuple #[])) w1):wpList P ops Q (o::rest) a W:=by
 obtain⟨w1,hr,h1,h2⟩:=R_clear_run (P:=P) d base t o.type e z ht (zero_run hinfo) hz hs0 z0 hzero HO hkm hA c2
 refine wpList_plain hgd fun K hK=> ?_
 unfold Oper.wp execOp;simp only[ho,resolve,invoke,builtin,Sem.run_bind,Sem.run_pure,Result.andThen_ok,List.map_toArray,List.map_cons,List.map_nil,hs,hr];exact hK _ _ (h w1 h1 (HB.grown h2 hbase (fun k hk=>br HO _ hk)) h2)
end
end Kd
end Go.Proofs.YtahnkgehlfdlkaaW.PrintWords
