/- A row of structs that a sort of the library rewrites, in the printed walks' words. No program, no statement. -/
import Derived.Test.YtahnkgehlfdlkaaWWords
import Derived.Shelf.SlSortCmp.NoneTotal
open Array renaming length_toList→abl,getElem?_modify→abF
open Go.Value renaming ownBlock→aak
open List renaming length_take→aN,getElem?_eq_getElem→aaj,getElem?_take→aav,getElem?_eq_some_iff→aaJ
open Nat renaming mul_le_mul_right→aao
namespace Go.Proofs.YtahnkgehlfdlkaaW.PrintWords
open Go.RowKit Go.Sort Go.Shelf
set_option linter.unusedVariables false
set_option linter.unusedSimpArgs false
section
variable {P : Program} {ops : Array Oper} {rest : List Oper} {o : Oper} {a : Act} {Q : Exit → Act → World → Prop} {Kc : Act → World → Prop}
theorem box_eventD {W:World}(hgd:o.guard=none){N:Tmp}(_hd:o.dst=some N){cs:Array Value}{t:TypeId}
 (hrun:(execOp a.eval o).run P W= .ok (.value (.pointer (some ⟨W.heap.size,0,none⟩))) (W.alloc (.cells cs t (0,0))))
 (h:∀g,g=W.heap.size→∀w1,w1.heap[g]?=some (.cells cs t (0,0))→Below W.heap.size W w1→w1.drawn=W.drawn→wpList P ops Q rest (a.put o.dst (.pointer (some ⟨g,0,none⟩))) w1):wpList P ops Q (o::rest) a W:=
 Kd.T0 hgd hrun (h _ rfl _ (Tp W _) (oF (Below.refl _ _) _) rfl)
theorem Kd.R_lit_stepD {α:Type}(d:Kd α){w0 W:World}(base e:Nat)(hw:Region.wanted o (yielded ops a.tmps)=true){N:Tmp}(_hd:o.dst=some N){xs:List α}{inner:List Value}{ok okp:Nat→Prop}
 (hrun:(execOp a.eval o).run P W= .ok (.value (.slice (some ⟨W.heap.size,0,none⟩) xs.length xs.length)) (W.alloc (.cells inner.toArray e)))
 (hrep:cX (d.M W base okp) d.sz xs inner)(hok:∀k,okp k→ok k)(hfresh:ok W.heap.size)(HB:Below base w0 W)(hbase:base≤W.heap.size)(hm:xs.length≤9223372036854775807)
 (h:∀v1 w1,d.R e w1 base ok v1 xs→Below base w0 w1→W.grownBy w1 none→(∃b,v1.ownBlock=some b∧W.heap.size≤b)→w1.drawn=W.drawn→Kc (a.put o.dst v1) w1):if Region.wanted o (yielded ops a.tmps)=true then Oper.wp P o a W Kc Q else Kc (a.put o.dst undef) W:=by
 refine Ss hw hrun (h _ _ ⟨fun k hk=> ?_,inner, ?_, ?_⟩ (HB.alloc hbase _) (World.grownBy_alloc W _ none) ⟨W.heap.size,by simp[aak],Nat.le_refl _⟩ rfl)
 ·have:W.heap.size=k:=by simpa[aak]using hk
  subst this;exact hfresh
 ·have h2:=World.ownsRow_lit (base:=base) (e:=e) (size:=d.sz) W inner.toArray xs.length hbase (by simpa[maxLen]using hm) (by simpa using hrep.1)
  simpa using h2
 ·refine hrep.nR (fun p c hp=>d.M_mono (fun k hk=>⟨hok k hk.1,fun he=> ?_⟩) (Kd.Tq (d.M_bound hp) (oF (Below.refl _ _) _)))
  have h3:k=W.heap.size:=by simpa[aak]using he
  have:=hk.2.2.1
  omega
end
theorem grow_of_below {w w':World}(hb:Below w.heap.size w w')(hd:w.drawn≤w'.drawn):∃q os',w'=grow (w.drewN q) os':=by
 refine⟨w'.drawn-w.drawn,w'.heap.extract w.heap.size w'.heap.size, ?_⟩;obtain⟨h1,h2,h3,h4,h5⟩:=hb
 have hh:w'.heap=w.heap++w'.heap.extract w.heap.size w'.heap.size:=by
  apply Array.ext_getElem?;intro i
  by_cases hi:i<w.heap.size
  ·rw[h5 i hi,Array.getElem?_append_left hi]
  ·rw[Array.getElem?_append_right (by omega)]
   simp only[Array.getElem?_extract]
   by_cases h2:i<w'.heap.size
   ·rw[if_pos (by omega)]
    congr 1
    omega
   ·rw[if_neg (by omega)]
    simp only[Array.getElem?_eq_none_iff]
    omega
 cases w'
 cases w
 simp only[grow,World.drewN]at *;simp only[World.mk.injEq];refine⟨hh,h2,by omega,h1,h3⟩
theorem flat_take {α:Type}[Inhabited α](enc:α→List Value)(k:Nat)(hk:∀x,(enc x).length=k)(hk0:0<k)(d:Array α)(j:Nat)(hj:j<d.size):((flatK enc k d).toList.drop (j*k)).take k=enc d[j]! :=by
 have hjk:j*k+k≤d.size*k:=by rw[←Nat.succ_mul];exact aao _ hj
 apply List.ext_getElem
 ·rw[aN,List.length_drop,abl,size_flatK,hk]
  omega
 ·intro i h1 h2
  rw[hk]at h2
  have h3:j*k+i<d.size*k:=by omega
  rw[List.getElem_take,List.getElem_drop,Array.getElem_toList];have h4:=get_flatK enc k d (j*k+i) h3;rw[getElem!_pos _ _ (by rw[size_flatK];exact h3)]at h4;rw[h4,show(j*k+i)/k=j by rw[Nat.mul_comm,Nat.mul_add_div hk0,Nat.div_eq_of_lt h2];rfl,show(j*k+i) %k=i by rw[Nat.mul_comm,Nat.mul_add_mod,Nat.mod_eq_of_lt h2]];rw[getElem!_pos _ _ (by rw[hk];exact h2)]
theorem holdsK_of_R {α:Type}[Inhabited α]{d:Kd α}(enc:α→List Value)(hk:∀x,(enc x).length=d.sz)(hk0:0<d.sz)(hM:∀ {W:World}{base:Nat}{ok:Nat→Prop}{x:α}{c:List Value},d.M W base ok x c→c=enc x){e:Nat}{w:World}{base:Nat}{ok:Nat→Prop}{v:Value}{xs:List α}(h:d.R e w base ok v xs):
 (v= .slice none 0 0∧xs=[])∨∃g cap cur,v= .slice (some ⟨g,0,none⟩) xs.length cap∧base≤g∧ok g∧g<w.heap.size∧w.heap[g]?=some (.cells cur e (0,0))∧xs.length≤cap∧cap≤maxLen∧cur.size=cap*d.sz∧HoldsK enc d.sz w g 0 xs.toArray:=by
 obtain⟨h0,inner,⟨hl,ho⟩,hr⟩:=h
 rcases ho with⟨rfl,hn⟩|⟨g,cap,cur,rfl,hb,hg,hc,hm,hs,ht⟩
 ·exact .inl ⟨rfl,List.eq_nil_of_length_eq_zero hn⟩
 ·have hlt:g<w.heap.size:=(Array.getElem?_eq_some_iff.1 hg).1
  refine .inr ⟨g,cap,cur,rfl,hb,h0 g rfl,hlt,hg,hc,hm,hs,fun j hj=> ?_⟩;rw[size_flatK,List.size_toArray]at hj;have hj1:j/d.sz<xs.length:=Nat.div_lt_of_lt_mul (by rw[Nat.mul_comm];exact hj);have hj2:j%d.sz<d.sz:=Nat.mod_lt _ hk0;have hle:xs.length*d.sz≤cap*d.sz:=aao _ hc
  have hcur:cur[j]?=inner[j]?:=by
   rw[←ht,aav,if_pos hj,Array.getElem?_toList]
  have hin:(inner.drop (j/d.sz*d.sz)).take d.sz=enc xs[j/d.sz]:=hM (hr.2 (j/d.sz) _ (aaj hj1))
  have hdm:j/d.sz*d.sz+j%d.sz=j:=by rw[Nat.mul_comm];exact Nat.div_add_mod j d.sz
  have hij:inner[j]?=(enc xs[j/d.sz])[j%d.sz]?:=by
   rw[←hin,aav,if_pos hj2,List.getElem?_drop,hdm]
  have hget:(flatK enc d.sz xs.toArray)[j]! =(enc xs[j/d.sz])[j%d.sz]! :=by
   rw[get_flatK enc d.sz xs.toArray j (by rw[List.size_toArray];exact hj)]
   congr 2
   rw[getElem!_pos _ _ (by rw[List.size_toArray];exact hj1),List.getElem_toArray]
  constructor
  ·have hcell:w.cell? ⟨g,0+j,none⟩=cur[j]?:=by
    rw[Nat.zero_add];exact aI hg j
   rw[hcell,hcur,hij,hget,getElem!_pos _ _ (by rw[hk];exact hj2),aaj]
   rfl
  ·exact gT hg _
theorem R_of_sort {α:Type}[Inhabited α]{d:Kd α}(enc:α→List Value)(hk:∀x,(enc x).length=d.sz)(hk0:0<d.sz)(hM:∀ (W:World) (base:Nat) (ok:Nat→Prop) (x:α),d.M W base ok x (enc x)){e:Nat}{w0 w:World}{ok:Nat→Prop}{g cap:Nat}{cur:Array Value}{n:Nat}(hB:Below w0.heap.size w0 w)(hb:w0.heap.size≤g)(hok:ok g)(hlt:g<w.heap.size)(hg:w.heap[g]?=some (.cells cur e (0,0)))(hc:n≤cap)(hm:cap≤maxLen)(hs:cur.size=cap*d.sz)(dk:Array α)(hdk:dk.size=n)(m:Nat)(os:Array Obj):
 d.R e (sortWorldK enc d.sz w g 0 m dk os) w0.heap.size (fun k_=>ok k_∨w.heap.size≤k_) (.slice (some ⟨g,0,none⟩) n cap) dk.toList∧Below w0.heap.size w0 (sortWorldK enc d.sz w g 0 m dk os)∧dU w (sortWorldK enc d.sz w g 0 m dk os) ok:=by
 have hh:(sortWorldK enc d.sz w g 0 m dk os).heap=(w.heap.modify g (onCells (putCells id 0 (flatK enc d.sz dk))))++os:=rfl
 have hsz:(sortWorldK enc d.sz w g 0 m dk os).heap.size=w.heap.size+os.size:=by rw[hh,Array.size_append,Array.size_modify]
 have hold:∀i,i<w.heap.size→i≠g→(sortWorldK enc d.sz w g 0 m dk os).heap[i]?=w.heap[i]?:=fun i hi hn=>by
  rw[hh,Array.getElem?_append_left (by rw[Array.size_modify];exact hi),abF,if_neg (Ne.symm hn)]
 have hrow:(sortWorldK enc d.sz w g 0 m dk os).heap[g]?=some (.cells (putCells id 0 (flatK enc d.sz dk) cur) e (0,0)):=by
  rw[hh,Array.getElem?_append_left (by rw[Array.size_modify];exact hlt),abF,if_pos rfl,hg]
  rfl
 have hF:(flatK enc d.sz dk).size=n*d.sz:=by rw[size_flatK,hdk]
 have hle:n*d.sz≤cap*d.sz:=aao _ hc;refine⟨⟨fun k h=> ?_,(flatK enc d.sz dk).toList, ?_, ?_⟩, ?_, ?_⟩
 ·have:g=k:=by simpa[aak]using h
  subst this;exact .inl hok
 ·refine⟨by rw[abl,hF,abl,hdk],.inr ⟨g,cap,_, ?_,hb,hrow,by rw[abl,hdk];exact hc,hm, ?_, ?_⟩⟩
  ·rw[abl,hdk]
  ·rw[putCells,Array.size_mapIdx];exact hs
  ·rw[abl,hdk]
   apply List.ext_getElem
   ·rw[aN,abl,abl,hF,putCells,Array.size_mapIdx,hs]
    omega
   ·intro i h1 h2
    rw[abl,hF]at h2;rw[List.getElem_take,Array.getElem_toList,Array.getElem_toList];simp only[putCells,Array.getElem_mapIdx];rw[if_pos ⟨Nat.zero_le _,by omega⟩,Nat.sub_zero,getElem!_pos _ _ (by omega)]
    rfl
 ·refine⟨by rw[abl,abl,hF,hdk],fun j p hp=> ?_⟩
  have hj:j<dk.size:=by
   have:=(aaJ.1 hp).1
   rwa [abl]at this
  have h1:=flat_take enc d.sz hk hk0 dk j hj
  have h2:dk[j]! =p:=by
   rw[getElem!_pos dk j hj];have:=(aaJ.1 hp).2
   rwa [Array.getElem_toList]at this
  rw[h1,h2];exact hM _ _ _ _
 ·refine⟨hB.os,hB.tape,hB.output, ?_,fun i hi=> ?_⟩
  ·rw[hsz]
   have:=hB.size
   omega
  ·have:=hB.size
   rw[hold i (by omega) (by omega),hB.block i hi]
 ·refine⟨by rw[hsz];omega,fun i hi hn=>hold i hi (fun e=>hn (e▸hok))⟩
end Go.Proofs.YtahnkgehlfdlkaaW.PrintWords
