/- A map cut off at a place, as the program does it. No statement. -/
import Derived.Test.YtjojdplkgekagaaMapParts
import Derived.Test.YtjojdplkgekagaaMapBlocks
import Derived.Test.YtjojdplkgekagaaG8
open List renaming length_take→ao,length_drop→gy
namespace Go.Proofs.Ytjojdplkgekagaa.Q
open Go.RowKit Go.Proofs.YtjojdplkgekagaaW.PrintWords Go.Proofs.Ytjojdplkgekagaa.G
set_option linter.unusedVariables false
set_option linter.unusedSimpArgs false
theorem trunc_ev(l:List Pc)(hg:dh l)(a:Int)(ha:0≤a∧a≤200):∃o E,Ev (fun k=>ie.f k l a) (o,E,true)∧dh o∧∀n:Nat,bD o n=if a≤(n:Int)∧(n:Int)<200 then dO else bD l n:=by
 have hl:l.length≤1048576:=by have:=hg.1;omega
 have g2:=yE l hl;unfold ie.f;have hc:=rn hg.2;obtain⟨o,q,hcut,inv⟩:=SB l hc a (200-a) (by omega) (by omega) (by omega)
 have hen:a+(200-a)=200:=by omega
 rw[hen]at inv;obtain⟨E,hE1,hE2,Pl⟩:=XK hg (by omega) (by omega) inv;have hol:o.length≤40:=Nat.le_trans (inv.lo (fun j hj=>by have:=hc.1.1 j hj;unfold eM at this;omega)) hg.1;have hgo:=parts_good hg inv.co inv.so hol
 have hmap:=M8 ((cellsOf l).take a.toNat) o inv.co (by rw[ao];omega) (fun i hi=>by
  rw[ao,nM];have h1:=inv.io _ (jB o i pz hi);have h2:=inv.co.1.1 i hi;unfold eM at h2
  omega) (fun n hn=>by
  rw[ao,nM]at hn
  rw[cellsOf_take l _ _ (by omega) (by omega),Ec hc inv n,if_neg (by omega)])
 rw[if_pos hgo]at hmap
 have hblk:=Pq ((cellsOf l).drop a.toNat) (by rw[gy,nM];omega) (fun n hn hf=>by
  rw[gy,nM]at hn;rw[LY l _ _ (by omega)]at hf⊢
  exact Lg hc.1 _ hf) E hE2 (fun b hb=>by
  rw[Pl b,gy,nM]
  constructor
  ·rintro⟨n,hin,hf,e⟩
   refine⟨n-a.toNat,by omega, ?_, ?_⟩
   ·rw[LY l _ _ (by omega),show a.toNat+(n-a.toNat)=n by omega];exact hf
   ·rw[LY l _ _ (by omega),show a.toNat+(n-a.toNat)=n by omega];exact e
  ·rintro⟨n,hn,hf,e⟩
   rw[LY l _ _ (by omega)]at hf e
   exact⟨a.toNat+n,by omega,hf,e⟩)
 refine⟨o,E, ?_,hgo,fun n=>Ec hc inv n⟩
 ·refine Ev.bind' _ g2 (Ev.pos (by simpa using hg) (Ev.cW _ (yP _ _ _) ?_))
  rw[decide_eq_true ha];refine Ev.step (fun k=>by rw[ie.j0]) (Ev.neg (by simp) (Ev.bind' _ (EF l hg.2 hl) ?_));exact Ev.pos (by omega) (Ev.pos (by rw[nM];omega) (Ev.bind' _ hblk (Ev.bind' _ hmap (Ev.now _))))
end Go.Proofs.Ytjojdplkgekagaa.Q
