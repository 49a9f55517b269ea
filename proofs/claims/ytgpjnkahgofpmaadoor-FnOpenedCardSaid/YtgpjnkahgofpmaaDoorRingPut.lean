/- PutRecord of the reference and of the program: the same ring. -/
import Derived.Test.YtgpjnkahgofpmaaDoorRingPush
import Derived.Test.YtgpjnkahgofpmaaDoorG3
import Derived.Test.YtgpjnkahgofpmaaDoorG4
open Bool renaming false_ne_true→aae
namespace Go.Proofs.YtgpjnkahgofpmaaDoor.Q
open Go.RowKit Go.Proofs.YtgpjnkahgofpmaaDoorW.PrintWords Go.Proofs.YtgpjnkahgofpmaaDoor.G
set_option linter.unusedVariables false
theorem K8(l:List aK)(h c t:Int)(s:ByteArray)(hl:l.length≤1048576)(h0:2≤(l.length:Int))(h1:0≤h)(b:Bool):
 ∃r,Ev (fun k=>dj.j0 k s (l.length:Int) b l h c t) r∧Ev (fun k=>dx.j0 k s (l.length:Int) b l h c t) r∧r.1.length≤2000000:=by
 cases b with
 |true=>exact⟨_,Ev.step (fun k=>by rw[dj.j0]) (Ev.pos rfl (Ev.now _)),Ev.step (fun k=>by rw[dx.j0]) (Ev.pos rfl (Ev.now _)),by simp⟩
 |false=>
  obtain⟨s1,s2⟩:=rt c t s 0;have t0:0≤Int.tmod h (l.length:Int):=Int.tmod_nonneg _ h1;have t1:Int.tmod h (l.length:Int)<(l.length:Int):=Int.tmod_lt_of_pos _ (by omega)
  have hne:¬((l.length:Int)=0):=by omega
  refine⟨(l.set (Int.tmod h (l.length:Int)).toNat (⟨c,t,s,fw c t s⟩:aK),wrap64 (h+1),wrap64 ((wrap64 (Int.tdiv (wrap64 (h+1)) (l.length:Int)))+1),t,true), ?_, ?_,by rw[List.length_set];omega⟩
  ·exact Ev.step (fun k=>by rw[dj.j0]) (Ev.neg aae (Ev.bh _ (Ld l h c t hl) (Ev.bind' _ s1 (Ev.neg hne (Ev.pos t0 (Ev.pos t1 (Ev.now _)))))))
  ·exact Ev.step (fun k=>by rw[dx.j0]) (Ev.neg aae (Ev.bh _ (TW l h c t hl) (Ev.bind' _ s2 (Ev.neg hne (Ev.pos t0 (Ev.pos t1 (Ev.now _)))))))
theorem putRecord_both(l:List aK)(h c t:Int)(s:ByteArray)(hl:l.length≤1048576):∃r,Ev (fun k=>dj.f k l h c t s) r∧Ev (fun k=>dx.f k l h c t s) r∧r.1.length≤2000000:=by
 obtain⟨b,e1,e2,hb⟩:=Nd l h c t hl;unfold dj.f dx.f
 cases b with
 |true=>
  obtain⟨g1,g2,g3,g4,g5,g6,g7⟩:=hb rfl
  by_cases c1:(s.size:Int)>12
  ·obtain⟨r,a,b,hr⟩:=K8 l h c t s hl g1 g3 true
   exact⟨r,Ev.bind' _ e1 (Ev.pos rfl (Ev.pos c1 a)),Ev.bind' _ e2 (Ev.pos rfl (Ev.pos c1 b)),hr⟩
  ·by_cases c2:wrap64 (h-t)=(l.length:Int)
   ·obtain⟨r,a,b,hr⟩:=K8 l h c t s hl g1 g3 true
    exact⟨r,Ev.bind' _ e1 (Ev.pos rfl (Ev.neg c1 (Ev.pos c2 a))),Ev.bind' _ e2 (Ev.pos rfl (Ev.neg c1 (Ev.pos c2 b))),hr⟩
   ·obtain⟨r,a,b,hr⟩:=K8 l h c t s hl g1 g3 (h==10000000)
    exact⟨r,Ev.bind' _ e1 (Ev.pos rfl (Ev.neg c1 (Ev.neg c2 a))),Ev.bind' _ e2 (Ev.pos rfl (Ev.neg c1 (Ev.neg c2 b))),hr⟩
 |false=>
  have n1:Ev (fun k=>dj.j0 k s (l.length:Int) true l h c t) ([],0,0,0,false):=Ev.step (fun k=>by rw[dj.j0]) (Ev.pos rfl (Ev.now _));have n2:Ev (fun k=>dx.j0 k s (l.length:Int) true l h c t) ([],0,0,0,false):=Ev.step (fun k=>by rw[dx.j0]) (Ev.pos rfl (Ev.now _));exact⟨_,Ev.bind' _ e1 (Ev.neg aae n1),Ev.bind' _ e2 (Ev.neg aae n2),by simp⟩
end Go.Proofs.YtgpjnkahgofpmaaDoor.Q
