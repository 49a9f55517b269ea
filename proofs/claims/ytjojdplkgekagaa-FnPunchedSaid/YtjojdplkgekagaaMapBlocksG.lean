/- A map's blocks, as the program tells them. No statement. -/
import Derived.Test.YtjojdplkgekagaaMapBlocks
import Derived.Test.YtjojdplkgekagaaG7
namespace Go.Proofs.Ytjojdplkgekagaa.Q
open Go.RowKit Go.Proofs.YtjojdplkgekagaaW.PrintWords Go.Proofs.Ytjojdplkgekagaa.G
set_option linter.unusedVariables false
set_option linter.unusedSimpArgs false
theorem blocks_ev(l:List Pc)(hg:dh l):∃E,Ev (fun k=>qE.f k l) (E,true)∧jO 400 E∧∀b,gm E b↔ ∃p∈l,wl p b:=by
 have hl:l.length≤1048576:=by have:=hg.1;omega
 have g2:=yE l hl
 ·have ho:=(rn hg.2).1
  have hr:∀p∈l,eM p:=fun p hp=>z3 ho hp
  obtain⟨E,h1,h2,h3⟩:=XR l hr (fun i j hij hj=>(hg.2 j hj).2.2 i hij) (by have:=hg.1;omega);refine⟨E, ?_,h2,h3⟩
  ·unfold qE.f
   refine Ev.bind' _ g2 (Ev.pos (by simpa using hg) (Ev.bind' _ (EF l hg.2 hl) (Ev.bind' E ?_ (Ev.now _))));refine Pq (cellsOf l) (by rw[nM];omega) (fun n hn hf=> ?_) E h2 (fun b hb=> ?_)
   ·rw[nM]at hn
    rw[uc l n hn]at hf⊢
    rcases o3 ho n with⟨p,hp,hpn,e⟩|⟨_,e⟩
    ·rw[e]
     have:=hr p hp;unfold eM at this;unfold ce at hpn;simp only
     omega
    ·rw[e]at hf
     cases hf
   ·rw[h3 b,nM]
    constructor
    ·rintro⟨p,hp,hpb⟩
     have hi:=hr p hp;unfold eM at hi;unfold wl at hpb
     have hn:ce p (p.f0+((b:Int)-p.f2)).toNat:=by unfold ce;omega
     refine⟨(p.f0+((b:Int)-p.f2)).toNat,by omega, ?_, ?_⟩
     ·rw[uc l _ (by omega),kv ho hp hn]
     ·rw[uc l _ (by omega),kv ho hp hn]
      simp only
      omega
    ·rintro⟨n,hn,hf,e⟩
     rw[uc l n hn]at hf e
     rcases o3 ho n with⟨p,hp,hpn,e2⟩|⟨_,e2⟩
     ·rw[e2]at e
      refine⟨p,hp, ?_⟩;unfold ce at hpn;unfold wl;simp only at e
      omega
     ·rw[e2]at hf
      cases hf
end Go.Proofs.Ytjojdplkgekagaa.Q
