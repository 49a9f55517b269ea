import Derived.Test.YtjojdplkgekagaaMapExt
import Derived.Test.YtjojdplkgekagaaMapMergeAbs
import Derived.Test.YtjojdplkgekagaaG6
namespace Go.Proofs.Ytjojdplkgekagaa.Q
open Go.RowKit Go.Proofs.YtjojdplkgekagaaW.PrintWords Go.Proofs.Ytjojdplkgekagaa.G
set_option linter.unusedVariables false
set_option linter.unusedSimpArgs false
theorem merged_blocks_ev(E:List Ex)(N:Nat)(hN:N≤1000)(hE:jO (N:Int) E)(used:List Bool)(hc:N≤used.length)(hh:∀n,n<N→(gm E n↔used.getD n false=true)):Ev (fun k=>gB.f k (N:Int) used) E:=by
 have rdc:∀n:Nat,n<N→mi.f (n:Int) used=some (used.getD n false):=by
  intro n hn;unfold mi.f;rw[if_pos (by omega),if_pos (by omega)]
  simp[rD]
 unfold gB.f;refine XT (fun k out n=>gB.l0 k out (N:Int) (n:Int) used) N hN E hE ?_ ?_ ?_ ?_
 ·intro out
  refine Ev.step (fun k=>by rw[gB.l0]) ?_;exact Ev.neg (by omega) (Ev.now _)
 ·intro out n hn hno next
  refine Ev.step (fun k=>by rw[gB.l0]) ?_;rw[bg (x:=(n:Int)+1) (by omega) (by omega)];refine Ev.pos (by omega) (Ev.cW _ (rdc n hn) (Ev.neg ?_ next));intro h;exact hno ((hh n hn).2 h)
 ·intro out n hn hin h0 hl he hf0 hf1 next
  refine Ev.step (fun k=>by rw[gB.l0]) ?_;rw[bg (x:=(n:Int)+1) (by omega) (by omega),LZ out h0 hl,qP,he,bg (x:=(n:Int)) (by omega) (by omega),bg (x:=(out.getD (out.length-1) ez).f1+1) (by omega) (by omega),Int.toNat_natCast];exact Ev.pos (by omega) (Ev.cW _ (rdc n hn) (Ev.pos ((hh n hn).1 hin) (Ev.pos (by omega) (Ev.pos (by omega) (Ev.pos (by omega) (Ev.pos rfl next))))))
 ·intro out n hn hin hl h0 next
  refine Ev.step (fun k=>by rw[gB.l0]) ?_;rw[bg (x:=(n:Int)+1) (by omega) (by omega)];refine Ev.pos (by omega) (Ev.cW _ (rdc n hn) (Ev.pos ((hh n hn).1 hin) ?_))
  by_cases hz:0<out.length
  ·obtain⟨h1,h2,h3,h4⟩:=h0 hz
   rw[LZ out hz hl,qP,bg (x:=(out.getD (out.length-1) ez).f0+(out.getD (out.length-1) ez).f1) (by omega) (by omega)];exact Ev.pos (by omega) (Ev.pos (by omega) (Ev.pos (by omega) (Ev.neg h1 (Ev.pos (by omega) next))))
  ·refine Ev.neg ?_ (Ev.pos (by omega) next)
   rw[show out.length=0 by omega,bg (by omega) (by omega)]
   omega
def qt(cells:List mI)(i:Nat):List Bool:=(List.range 400).map (fun b:Nat=>decide (∃n,n<i∧(cells.getD n dO).f0=true∧(cells.getD n dO).f1=(b:Int)))
theorem Pv(cells:List mI)(i:Nat):(qt cells i).length=400:=by simp[qt]
theorem usedBy_get(cells:List mI)(i b:Nat)(h:b<400):(qt cells i).getD b false=true↔ ∃n,n<i∧(cells.getD n dO).f0=true∧(cells.getD n dO).f1=(b:Int):=by
 rw[wg _ _ _ (by rw[Pv];exact h)]
 simp[qt]
theorem Pq(cells:List mI)(hl:cells.length≤200)(hb:∀n,n<cells.length→(cells.getD n dO).f0=true→0≤(cells.getD n dO).f1∧(cells.getD n dO).f1<400)(E:List Ex)(hE:jO 400 E)(hh:∀b,b<400→(gm E b↔ ∃n,n<cells.length∧(cells.getD n dO).f0=true∧(cells.getD n dO).f1=(b:Int))):Ev (fun k=>fX.f k cells) E:=by
 have loop:∀d i,cells.length-i=d→i≤cells.length→Ev (fun k=>fX.l0 k cells (cells.length:Int) (i:Int) (qt cells i)) E:=by
  intro d
  induction d with
  |zero=>
   intro i hd hi
   have:i=cells.length:=by omega
   subst this;refine Ev.step (fun k=>by rw[fX.l0]) ?_;refine Ev.neg (by omega) (Ev.bind' E ?_ (Ev.now _));exact merged_blocks_ev E 400 (by omega) hE _ (by rw[Pv];omega) (fun n hn=>by rw[hh n hn,usedBy_get _ _ _ hn])
  |succ d ih=>
   intro i hd hi;have ih':=ih (i+1) (by omega) (by omega)
   have hr:am cells (i:Int)=cells.getD i dO:=by simp[am]
   refine Ev.step (fun k=>by rw[fX.l0]) ?_;rw[hr,bg (x:=(i:Int)+1) (by omega) (by omega)];refine Ev.pos (by omega) (Ev.pos (by omega) (Ev.pos (by omega) (Ev.ite (fun hm=> ?_) (fun hm=> ?_))))
   ·obtain⟨h0,h1⟩:=hb i (by omega) hm
    refine Ev.pos h0 (Ev.pos (by rw[Pv];omega) ?_)
    have e:(qt cells i).set (cells.getD i dO).f1.toNat true=qt cells (i+1):=by
     unfold qt;rw[Pm _ _ _ _ (by omega)]
     refine List.map_congr_left fun b _=> ?_
     by_cases e1:b=(cells.getD i dO).f1.toNat
     ·rw[if_pos e1]
      symm
      rw[decide_eq_true_eq];exact⟨i,by omega,hm,by omega⟩
     ·rw[if_neg e1]
      refine decide_eq_decide.2 ⟨fun⟨n,h2,h3⟩=>⟨n,by omega,h3⟩,fun⟨n,h2,h3,h4⟩=>⟨n, ?_,h3,h4⟩⟩
      by_cases e2:n=i
      ·subst e2;omega
      ·omega
    rw[e];exact ih'
   ·have e:qt cells i=qt cells (i+1):=by
     unfold qt
     refine List.map_congr_left fun b _=> ?_
     refine decide_eq_decide.2 ⟨fun⟨n,h2,h3⟩=>⟨n,by omega,h3⟩,fun⟨n,h2,h3,h4⟩=>⟨n, ?_,h3,h4⟩⟩
     by_cases e2:n=i
     ·subst e2;exact absurd h3 hm
     ·omega
    rw[e];exact ih'
 unfold fX.f;refine Ev.pos (by omega) ?_;have:=loop cells.length 0 rfl (by omega)
 have e:qt cells 0=List.replicate 400 false:=by
  unfold qt;rw[List.eq_replicate_iff];refine⟨by rw[List.length_map,List.length_range],fun x hx=> ?_⟩;obtain⟨b,_,rfl⟩:=List.mem_map.1 hx;refine decide_eq_false ?_;rintro⟨n,h,_⟩
  omega
 rw[e]at this;exact this
end Go.Proofs.Ytjojdplkgekagaa.Q
