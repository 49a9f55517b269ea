/- What FnPunched's cursors draw: some map of at most 40 pieces, and numbers. No statement. -/
import Derived.Test.YtjojdplkgekagaaMapDraw
import Derived.Test.YtjojdplkgekagaaG5
import Derived.Test.YtjojdplkgekagaaG7
open Option renaming bind_some→Mq
namespace Go.Proofs.Ytjojdplkgekagaa.Q
open Go.RowKit Go.Proofs.YtjojdplkgekagaaW.PrintWords Go.Proofs.Ytjojdplkgekagaa.G
set_option linter.unusedVariables false
set_option linter.unusedSimpArgs false
theorem drawPunch_ok(l:List Int)(hl:qO l):∃m a b,Ev (fun k=>ov.f k l) (m,a,b)∧m.length≤40:=by
 obtain⟨⟨m,p1,q1⟩,em,hml,hp0,hp1⟩:=Pt l hl;simp only at hml hp0 hp1;obtain⟨v1,p2,q2,e1,a1,b1,_⟩:=k8 l hl p1 q1 34 hp0 (by omega) (by omega);obtain⟨v2,p3,q3,e2,a2,b2,_⟩:=k8 l hl p2 q2 12 (by omega) (by omega) (by omega);obtain⟨v3,p4,q4,e3,_⟩:=k8 l hl p3 q3 2 (by omega) (by omega) (by omega);refine⟨m,wrap64 (v1-1),wrap64 (v2-v3), ?_,hml⟩;unfold ov.f;exact Ev.bind' _ em (Ev.cW _ e1 (Ev.cW _ e2 (Ev.cW _ e3 (Ev.now _))))
theorem drawHoles_ok(l:List Int)(hl:qO l):∃m a,Ev (fun k=>qD.f k l) (m,a)∧m.length≤40:=by
 obtain⟨⟨m,p1,q1⟩,em,hml,hp0,hp1⟩:=Pt l hl;simp only at hml hp0 hp1;obtain⟨v6,p6,q6,e6,_,_,c6,d6,_⟩:=k8 l hl p1 q1 7 hp0 (by omega) (by omega);have d6':=d6 (by omega)
 have ea:ow.f l p1 q1 [(-1),0,5,12,20,200,201]=some (rd [(-1),0,5,12,20,200,201] v6,p6,q6):=by
  unfold ow.f
  show(ct.f l p1 q1 7).bind _=_
  rw[e6,Mq];exact(if_pos c6).trans (if_pos d6')
 refine⟨m,rd [(-1),0,5,12,20,200,201] v6, ?_,hml⟩;unfold qD.f;refine Ev.bind' (m,rd [(-1),0,5,12,20,200,201] v6) ?_ (Ev.now _);unfold sn.f;exact Ev.bind' _ em (Ev.cW _ ea (Ev.now _))
theorem drawWr_ok(l:List Int)(hl:qO l):∃m a b,Ev (fun k=>dp.f k l) (m,a,b)∧m.length≤40:=by
 obtain⟨⟨m,p1,q1⟩,em,hml,hp0,hp1⟩:=Pt l hl;simp only at hml hp0 hp1
 have two:∀p q:Int,0≤p→p<3000000000000000000→∃a b,∀β:Type,∀ (F:Int→Int→Option β) (r:β),F a b=some r→((ct.f l p q 30).bind fun t=>((ct.f l t.2.1 t.2.2 5).bind fun u=>F t.1 u.1))=some r:=fun p q h0 h1=>by
  obtain⟨v1,p2,q2,e1,a1,b1,_⟩:=k8 l hl p q 30 h0 (by omega) (by omega);obtain⟨v2,p3,q3,e2,_⟩:=k8 l hl p2 q2 5 (by omega) (by omega) (by omega);refine⟨v1,v2,fun β F r h=> ?_⟩;rw[e1,Mq,e2,Mq];exact h
 have no:∀p q:Int,0≤p→p<3000000000000000000→∃a b,Ev (fun k=>dp.j0 k false l p q m) (m,a,b):=fun p q h0 h1=>by
  obtain⟨a,b,h⟩:=two p q h0 h1;refine⟨a,b,Ev.step (fun k=>by rw[dp.j0]) (Ev.neg Bool.false_ne_true ?_)⟩;exact⟨0,fun k _=>h _ (fun a b=>some (m,a,b)) _ rfl⟩
 by_cases hm:(m.length:Int)>0
 ·obtain⟨v,p2,q2,e1,a1,b1⟩:=N1 l hl p1 q1 2 hp0 (by omega) (by omega)
  cases v with
  |false=>
   obtain⟨a,b,h⟩:=no p2 q2 (by omega) (by omega);refine⟨m,a,b, ?_,hml⟩;unfold dp.f;exact Ev.bind' _ em (Ev.pos hm (Ev.cW _ e1 h))
  |true=>
   obtain⟨i,p3,q3,e2,a2,b2,c2,d2,f2⟩:=k8 l hl p2 q2 (m.length:Int) (by omega) (by omega) (by omega)
   have hi:i<(m.length:Int):=by
    by_cases c:1<(m.length:Int)
    ·exact d2 c
    ·have:=f2 (by omega);omega
   have pe:=Lh (I m i)
   by_cases hp:iF (I m i)
   ·rw[decide_eq_true hp]at pe
    have hp':=hp;unfold iF at hp';obtain⟨k1,p4,q4,e3,a3,b3,c3,d3,f3⟩:=k8 l hl p3 q3 (I m i).f1 (by omega) (by omega) (by omega)
    have hk:0≤k1∧k1<200:=by
     by_cases c:1<(I m i).f1
     ·have:=d3 c;omega
     ·have:=f3 (by omega);omega
    obtain⟨k2,p5,q5,e4,_⟩:=k8 l hl p4 q4 (wrap64 ((I m i).f1-k1)) (by omega) (by omega) (by rw[bg (by omega) (by omega)];omega);refine⟨m,wrap64 ((I m i).f0+k1),wrap64 (1+k2), ?_,hml⟩;unfold dp.f;refine Ev.bind' _ em (Ev.pos hm (Ev.cW _ e1 (Ev.step (fun k=>by rw[dp.j0]) (Ev.pos rfl ?_))));exact Ev.cW _ e2 (Ev.pos c2 (Ev.pos hi (Ev.cW _ pe (Ev.pos rfl (Ev.cW _ e3 (Ev.cW _ e4 (Ev.now _)))))))
   ·rw[decide_eq_false hp]at pe
    obtain⟨a,b,h⟩:=two p3 q3 (by omega) (by omega);refine⟨m,a,b, ?_,hml⟩;unfold dp.f;refine Ev.bind' _ em (Ev.pos hm (Ev.cW _ e1 (Ev.step (fun k=>by rw[dp.j0]) (Ev.pos rfl ?_))));exact Ev.cW _ e2 (Ev.pos c2 (Ev.pos hi (Ev.cW _ pe (Ev.neg Bool.false_ne_true ⟨0,fun k _=>h _ (fun a b=>some (m,a,b)) _ rfl⟩))))
 ·obtain⟨a,b,h⟩:=no p1 q1 hp0 (by omega)
  refine⟨m,a,b, ?_,hml⟩;unfold dp.f;exact Ev.bind' _ em (Ev.neg hm h)
end Go.Proofs.Ytjojdplkgekagaa.Q
