/- 'copy(xs[k:], ys)' onto a row of one's own, of elements of any size that hold no rows of their own; math/bits.Mul at small numbers. No program's text, no statement. -/
import Derived.Test.YtgpjnkahgofpmaaDoorWWords
import Derived.Test.YtgpjnkahgofpmaaDoorMulLay
open Go.Value renaming slice→aa6
open List renaming length_take→ca,length_drop→fF,map_toArray→fT,map_cons→gJ,map_nil→j5,getElem?_eq_getElem→aak,length_append→aau,getElem?_take→aaz,replicate→aaA,getElem?_drop→aaC
open Nat renaming mul_le_mul_right→aap,min_eq_left→aaT,eq_zero_or_pos→abD,min→ab8
namespace Go.Proofs.YtgpjnkahgofpmaaDoorW.PrintWords
open Go.RowKit
set_option linter.unusedVariables false
theorem Wg {P:Program}(w:World)(dT sT ty elem:TypeId)(i:TypeInfo)(d a:Option Addr)(dLen dCap sLen sCap:Nat)(hu:P.underlying dT=some (.slice elem))(hi:P.info? elem=some i)(hn:ab8 sLen dLen=0):
 (Builtin.copy_ #[dT,sT] ty #[.slice d dLen dCap,.slice a sLen sCap]).run P w= .ok (goInt 0) w:=by
 have hl:∀ (x:Addr),(loadCells x 0).run P w= .ok #[] w:=fun x=>by simpa using run_loadCells_list (P:=P) w x [] (by simp)
 cases d<;>cases a<;>simp[Builtin.copy_,run_underlying hu,Builtin.lenOf,Builtin.firstCells,sizeOf,typeInfo,hi,hn,storeCells,hl]
namespace Kd
theorem Yi {α:Type}{R:α→List Value→Prop}{size m:Nat}{ps:List α}{cs:List Value}(h:cR R size ps cs):cR R size (ps.drop m) (cs.drop (m*size)):=by
 refine⟨by rw[fF,fF,h.1,←Nat.sub_mul],fun j p hj=> ?_⟩;rw[aaC]at hj;have:=h.2 (m+j) p hj
 rwa [List.drop_drop,←Nat.add_mul]
section
variable {P : Program} {α : Type}
theorem Na(d:Kd α){Rr:α→List Value→Prop}{W:World}(base:Nat)(t t' ty e:TypeId)(i0:TypeInfo)(ht:P.underlying t=some (.slice e))(hi:P.info? e=some i0)(hsz:i0.size=d.sz)(hs0:0<d.sz)
 {n c k:Nat}{A0 A:Option Addr}{xs ys:List α}{ok:Nat→Prop}(HO:d.R e W base ok (.slice A0 n c) xs)(hk:k≤n)(hA:A=if c=k then A0 else A0.map (·.add (k*d.sz)))
 {A':Option Addr}{m c' c2:Nat}(HR:kY Rr d.sz W A' m ys)(hKM:∀x cs,Rr x cs→d.M W base (fun _=>False) x cs)(q:Nat)(hq:q=ab8 m (n-k)):
 ∃w1,(Builtin.copy_ #[t,t'] ty #[.slice A (n-k) c2,.slice A' m c']).run P W= .ok (goInt q) w1∧d.R e w1 base ok (.slice A0 n c) (xs.take k++ys.take q++xs.drop (k+q))∧W.grownBy w1 (aa6 A0 n c).ownBlock:=by
 have hqm:q≤m:=by rw[hq];exact Nat.min_le_left _ _
 have hqn:q≤n-k:=by rw[hq];exact Nat.min_le_right _ _
 rcases abD q with h0|hp
 ·subst h0
  refine⟨W,Wg W t t' ty e i0 A A' _ c2 m c' ht hi hq.symm, ?_,World.grownBy.refl W _⟩;rw[List.take_zero,List.append_nil,Nat.add_zero,List.take_append_drop];exact HO
 obtain⟨hn,hnc,_⟩:=cM HO;obtain⟨hok,inner,hown,hr⟩:=HO
 have hin:inner.length=n*d.sz:=by rw[hr.1,hn]
 rcases hown.2 with⟨_,h0⟩|⟨g,cap',cur,hv,hb,hh,_,hcm,hcs,htake⟩
 ·exact absurd h0 (by omega)
 injection hv with ha _ hc
 subst ha;subst hc;rw[←hn]at htake;have hyl:ys.length=m:=HR.1;obtain⟨ad,rfl,_⟩:=HR.2.2 (by omega);obtain⟨all,hallr,hallc⟩:=kY.Qg HR;obtain⟨news,hnews⟩:∃news,news=all.take (q*d.sz):=⟨_,rfl⟩
 have hnrep:cR Rr d.sz (ys.take q) news:=by rw[hnews];exact Ib hallr (by omega)
 have hnM:cR (d.M W base (fun _=>False)) d.sz (ys.take q) news:=hnrep.jP (fun p c hp=>hKM p c hp)
 have hnl:news.length=q*d.sz:=by rw[hnrep.1,ca,aaT (by omega)]
 have hncell:∀j u,news[j]?=some u→W.cell? (ad.add j)=some u:=by
  intro j u hu;rw[hnews,aaz]at hu
  by_cases hj:j<q*d.sz
  ·rw[if_pos hj]at hu;exact hallc j u hu
  ·rw[if_neg hj]at hu;cases hu
 have hone:∀u∈news,u.oneCell'=true:=by
  intro u hu;obtain⟨j,hj,rfl⟩:=List.mem_iff_getElem.1 hu
  have hjl:j/d.sz<(ys.take q).length:=by
   rw[Nat.div_lt_iff_lt_mul hs0,←hnM.1];exact hj
  have hc:=hnM.2 (j/d.sz) _ (aak hjl);refine d.K_one (d.K_of_M hc) _ ?_;rw[List.mem_iff_getElem?];refine⟨j%d.sz, ?_⟩;rw[aaz,if_pos (Nat.mod_lt _ hs0),aaC,Nat.mul_comm,Nat.div_add_mod,aak hj]
 have hle:(k+q)*d.sz≤n*d.sz:=aap _ (by omega);have hks:(k+q)*d.sz=k*d.sz+q*d.sz:=Nat.add_mul _ _ _;have hnc':n*d.sz≤c*d.sz:=aap _ hnc
 have hAe:A=some ⟨g,k*d.sz,none⟩:=by
  rw[hA,if_neg (by omega),Option.map_some,xX,Nat.zero_add]
 have hfit:k*d.sz+news.length≤cur.size:=by omega
 have hst:=run_storeCells_cells (P:=P) g (k*d.sz) news 0 W (fun j hj=>by rw[cell_of_row W g _ cur e (0,0) hh];simp;omega) (fun j _=>dD hh _) hone;rw[Nat.add_zero]at hst;obtain⟨cur',h3,h4,h5⟩:=Fj news (k*d.sz) W cur hh hfit;obtain⟨s1,s2,s3,s4⟩:=Fg g news (k*d.sz) W
 have hfar:∀k',k'≠g→(W.setCells g (k*d.sz) news).heap[k']?=W.heap[k']?:=fun k' hk'=>Fi news _ k' hk'
 have hgo:∀q,some g=(aa6 (some ⟨g,0,none⟩) q c).ownBlock:=fun q=>by simp[Value.ownBlock]
 have hel:(xs.take k++ys.take q++xs.drop (k+q)).length=n:=by
  rw[aau,aau,ca,ca,fF,hn];omega
 have hcat:(inner.take (k*d.sz)++news++inner.drop ((k+q)*d.sz)).length=n*d.sz:=by
  rw[aau,aau,ca,fF,hnl,hin];omega
 refine⟨W.setCells g (k*d.sz) news, ?_,⟨fun k' hk'=>hok k' hk',inner.take (k*d.sz)++news++inner.drop ((k+q)*d.sz),⟨?_,.inr ⟨g,c,cur',by rw[hel],hb,h3,by rw[hel];omega,hcm,by rw[h4,hcs], ?_⟩⟩, ?_⟩,⟨s1,s2,s3,by rw[s4];exact Nat.le_refl _,fun k' _ hk'=>hfar k' (fun he=>hk' (by rw[he];exact hgo n))⟩⟩
 ·have hl:=run_loadCells_list (P:=P) W ad news hncell
  rw[hnl]at hl;have hq':ab8 m (n-k)=q:=hq.symm;rw[hAe]
  simp[Builtin.copy_,run_underlying ht,Builtin.lenOf,Builtin.firstCells,sizeOf,typeInfo,hi,hsz,hq',hl,hst]
 ·rw[hcat,hel]
 ·rw[hel,h5]
  have h7:cur.toList.take (k*d.sz)=inner.take (k*d.sz):=by
   rw[←htake,List.take_take,aaT (by omega)]
  rw[h7,hnl,←hks]
  have h8:inner.drop ((k+q)*d.sz)=(cur.toList.drop ((k+q)*d.sz)).take (n*d.sz-(k+q)*d.sz):=by
   rw[←htake,List.drop_take]
  have h9:(inner.take (k*d.sz)++news).length=(k+q)*d.sz:=by rw[aau,ca,hnl,hin];omega
  rw[h8,List.take_append,h9,List.take_of_length_le (by rw[h9];exact hle)]
 ·have hmv:∀p q,d.M W base (fun k'=>ok k'∧some k'≠(aa6 (some ⟨g,0,none⟩) n c).ownBlock) p q→d.M (W.setCells g (k*d.sz) news) base (fun k'=>ok k'∧some k'≠(aa6 (some ⟨g,0,none⟩) n c).ownBlock) p q:=fun p q hp=>
   d.M_move (fun k' hk'=>hfar k' (fun he=>hk'.2 (by rw[←hgo,he]))) hp
  have hnr:cR (d.M (W.setCells g (k*d.sz) news) base (fun k'=>ok k'∧some k'≠(aa6 (some ⟨g,0,none⟩) n c).ownBlock)) d.sz (ys.take q) news:=
   hnM.jP (fun p c hp=>d.M_mono (fun k' hk'=>hk'.elim) (d.M_move (fun k' hk'=>hk'.elim) hp))
  exact IS (IS ((Ib hr (by omega)).jP hmv) hnr) ((Yi hr).jP hmv)
end
section
variable {P : Program} {ops : Array Oper} {rest : List Oper} {o : Oper} {a : Act} {Q : Exit → Act → World → Prop} {Kc : Act → World → Prop} {α : Type}
theorem X0(d:Kd α){Rr:α→List Value→Prop}{w0 W:World}(base:Nat)(hgd:o.guard=none)(s x:Operand)(t t' e:TypeId)(ho:o.op= .call {callee:= .builtin .copy,args:= #[s,x],argTypes:= #[t,t']})
 (ht:P.underlying t=some (.slice e))(z:Value)(bytes:Nat)(hinfo:(P.info? e).map (fun i=>(i.zero,i.size,i.bytes))=some (some z,d.sz,bytes))(hs0:0<d.sz)
 {n c k c2 m c':Nat}{A0 A A':Option Addr}{xs ys:List α}{ok:Nat→Prop}(q:Nat)(hq:q=ab8 m (n-k))
 (hs:a.eval s= .slice A (n-k) c2)(hx:a.eval x= .slice A' m c')(hA:A=if c=k then A0 else A0.map (·.add (k*d.sz)))
 (HO:d.R e W base ok (.slice A0 n c) xs)(hk:k≤n)(HR:kY Rr d.sz W A' m ys)(hKM:∀x cs,Rr x cs→d.M W base (fun _=>False) x cs)(HB:Below base w0 W)(hbase:base≤W.heap.size)
 (h:∀w1,d.R e w1 base ok (.slice A0 n c) (xs.take k++ys.take q++xs.drop (k+q))→Below base w0 w1→W.grownBy w1 (Value.slice A0 n c).ownBlock→wpList P ops Q rest (a.put o.dst (.int .i64 (q:Int))) w1):wpList P ops Q (o::rest) a W:=by
 obtain⟨i0,hi,hzz⟩:=Option.map_eq_some_iff.1 hinfo;simp only[Prod.mk.injEq]at hzz;obtain⟨w1,hr,h1,h2⟩:=Na (P:=P) d base t t' o.type e i0 ht hi hzz.2.1 hs0 HO hk hA (c':=c') (c2:=c2) HR hKM q hq
 refine wpList_plain hgd fun K hK=> ?_
 unfold Oper.wp execOp;simp only[ho,resolve,invoke,builtin,Sem.run_bind,Sem.run_pure,Result.andThen_ok,fT,gJ,j5,hs,hx,hr];exact hK _ _ (h w1 h1 (HB.grown h2 hbase (fun k hk=>dr HO _ hk)) h2)
theorem WW(d:Kd α){Rr:α→List Value→Prop}{w0 W:World}{E:Prop}(base:Nat)(hgd:o.guard=none)(s x:Operand)(t t' e:TypeId)(ho:o.op= .call {callee:= .builtin .copy,args:= #[s,x],argTypes:= #[t,t']})
 (ht:P.underlying t=some (.slice e))(z:Value)(bytes:Nat)(hinfo:(P.info? e).map (fun i=>(i.zero,i.size,i.bytes))=some (some z,d.sz,bytes))(hs0:0<d.sz)
 {n c k c2 m c':Nat}{A0 A A':Option Addr}{xs ys:List α}{ok:Nat→Prop}(q:Nat)(hq:q=ab8 m (n-k))
 (hs:a.eval s= .slice A (n-k) c2)(hx:a.eval x= .slice A' m c')(hA:A=if c=k then A0 else A0.map (·.add (k*d.sz)))
 (HO:d.R e W base ok (.slice A0 n c) xs)(hk:k≤n)(HR:kY Rr d.sz W A' m ys)(hKM:∀x cs,Rr x cs→d.M W base (fun _=>False) x cs)(HB:Below base w0 W)(hbase:base≤W.heap.size)
 (h:∀w1,d.R e w1 base ok (.slice A0 n c) (xs.take k++ys.take q++xs.drop (k+q))→Below base w0 w1→W.grownBy w1 (aa6 A0 n c).ownBlock→Kc (a.put o.dst (.int .i64 (q:Int))) w1):
 if Region.wanted o (yielded ops a.tmps)=true then Oper.wp P o a W Kc Q else E:=by
 have hw:Region.wanted o (yielded ops a.tmps)=true:=by simp[Region.wanted,hgd]
 rw[if_pos hw];obtain⟨i0,hi,hzz⟩:=Option.map_eq_some_iff.1 hinfo;simp only[Prod.mk.injEq]at hzz;obtain⟨w1,hr,h1,h2⟩:=Na (P:=P) d base t t' o.type e i0 ht hi hzz.2.1 hs0 HO hk hA (c':=c') (c2:=c2) HR hKM q hq;unfold Oper.wp execOp;simp only[ho,resolve,invoke,builtin,Sem.run_bind,Sem.run_pure,Result.andThen_ok,fT,gJ,j5,hs,hx,hr];exact h w1 h1 (HB.grown h2 hbase (fun k hk=>dr HO _ hk)) h2
end
end Kd
end Go.Proofs.YtgpjnkahgofpmaaDoorW.PrintWords
namespace Go.Proofs.YtgpjnkahgofpmaaDoor.Rp
open Go.Shelf Go.RowKit Go.Proofs.YtgpjnkahgofpmaaDoorW.PrintWords
section
variable {α : Type}
def jV(x z:α)(K j:Nat):List α:=aaA j x++aaA (K-j) z
theorem Yj(x z:α){K j:Nat}(h:j≤K):(jV x z K j).length=K:=by simp[jV];omega
theorem Yk(x z:α)(K:Nat):jV x z K K=List.replicate K x:=by simp[jV]
theorem Y4(x z:α)(K j:Nat):(jV x z K j).take j=aaA j x:=by simp[jV]
theorem XN(x z:α){K q:Nat}(hq:q=Nat.min 1 (K-0)):(List.replicate K z).take 0++[x].take q++(List.replicate K z).drop (0+q)=jV x z K q:=by
 have hq1:q=ab8 1 K:=hq
 rcases abD K with h|h
 ·subst h
  have:q=0:=by rw[hq1];rfl
  subst this
  simp[jV]
 ·have:q=1:=by rw[hq1];exact aaT h
  subst this
  simp[jV]
theorem Y5(x z:α){K j q:Nat}(h1:q≤j):(jV x z K j).take j++(List.replicate j x).take q++(jV x z K j).drop (j+q)=jV x z K (j+q):=by
 rw[Y4]
 have e:(jV x z K j).drop (j+q)=aaA (K-(j+q)) z:=by
  rw[jV,List.drop_append,List.length_replicate,List.drop_eq_nil_of_le (by simp),List.nil_append,List.drop_replicate]
  congr 1
  omega
 rw[e,List.take_replicate,aaT h1,jV,List.replicate_append_replicate]
theorem Yl {d:Kd α}{w:World}{A:Option Addr}{x z:α}{K j:Nat}(h:d.C w A (jV x z K j).length (jV x z K j))(hj:j≤K):d.C w A j (List.replicate j x):=by
 have hl:=Yj x z hj;have h1:(jV x z K j).length≤9223372036854775807:=h.2.1;refine⟨by simp,by omega,fun hp=> ?_⟩;obtain⟨ad,hA,hc⟩:=h.2.2 (by omega);refine⟨ad,hA,fun i p hi=>hc i p ?_⟩;rw[jV,List.getElem?_append_left (by obtain⟨q,_⟩:=List.getElem?_eq_some_iff.1 hi;exact q)];exact hi
theorem a44(A:Option Addr)(c s:Nat):A=if c=0 then A else A.map (·.add (0*s)):=by
 split
 ·rfl
 ·cases A<;>simp[Addr.add]
end
theorem a2t(K:Nat)(h:K<4294967296):IntKind.u64.wrap (K:Int)=(K:Int):=by rw[IntKind.wrap_u64];omega
theorem a1g(K:Nat)(h:K<4294967296):IntKind.i64.wrap (K:Int)=(K:Int):=by rw[IntKind.wrap_i64];omega
theorem mul_one(K:Nat)(h:K<4294967296)(w:World):
 Calls Tryd.prog 44 #[.int .u64 1,.int .u64 (K:Int)] w fun e w'=>e= .returned (.tuple #[.int .u64 0,.int .u64 (K:Int)])∧w'=w:=by
 have h1:=Any.bits_Mul {a2u with} 1 K (by omega) (by omega) w;rw[show(1*K/18446744073709551616:Nat)=0 by omega,show(1*K%18446744073709551616:Nat)=K by omega]at h1;exact h1
end Go.Proofs.YtgpjnkahgofpmaaDoor.Rp
