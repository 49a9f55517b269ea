/- What a cursor draws: next, pick, pieces and maps, as plain facts. No statement. -/
import Derived.Test.YtjojdplkgekagaaMapPutG
import Derived.Test.YtjojdplkgekagaaMapPunchG
import Derived.Test.YtjojdplkgekagaaMapWrG
import Derived.Laws.BitsAllLaws
import Derived.Test.YtjojdplkgekagaaG5
import Derived.Test.YtjojdplkgekagaaG4
open Bool renaming false_ne_true→aaM
open Go.RowKit renaming wrap64→LS
open Option renaming bind_some→Mq
namespace Go.Proofs.Ytjojdplkgekagaa.Q
open Go.RowKit Go.Proofs.YtjojdplkgekagaaW.PrintWords Go.Proofs.Ytjojdplkgekagaa.G
set_option linter.unusedVariables false
set_option linter.unusedSimpArgs false
def qO(l:List Int):Prop:=∀y∈l,0≤y∧y≤255
theorem Yn {l:List Int}(h:∀y0∈l,(Lit.int .u8 y0).wf=true):qO l:=fun y hy=>by
 have h1:IntKind.u8.min=0:=by rfl
 have h2:IntKind.u8.max=255:=by rfl
 have:=h y hy
 simp[Lit.wf]at this
 omega
theorem low_byte(x:Int)(h0:0≤x)(h1:x<18446744073709551616):0≤wrap64 (Go.bits .and .u64 x 255)∧wrap64 (Go.bits .and .u64 x 255)≤255:=by
 rw[u64_and x 255 h0 h1 (by decide) (by decide)];have e:x.toNat&&& (255:Int).toNat≤255:=Nat.and_le_right;rw[bg (by omega) (by omega)]
 omega
theorem wrapu(x:Int):0≤IntKind.u64.wrap x/1099511627776∧IntKind.u64.wrap x/1099511627776<18446744073709551616:=by
 rw[IntKind.wrap_u64]
 omega
theorem a0f(l:List Int)(hl:qO l)(p q:Int)(h0:0≤p)(h1:p<4611686018427387904):
 ∃v q',sp.f l p q=some (v,p+1,q')∧0≤v∧v≤255:=by
 have hw:LS (p+1)=p+1:=bg (by omega) (by omega);unfold sp.f;rw[hw]
 by_cases c1:p<(l.length:Int)
 ·have hb:0≤rd l p∧rd l p≤255:=hl _ (jB l p.toNat 0 (by omega))
  rw[if_pos c1,if_pos h0,if_pos (show p+1≤(l.length:Int) by omega)];exact⟨_,_,rfl,by rw[bg (by omega) (by omega)];omega,by rw[bg (by omega) (by omega)];omega⟩
 ·rw[if_neg c1,if_neg (show¬p+1≤(l.length:Int) by omega)]
  have e:=wrapu ((IntKind.u64.wrap ((IntKind.u64.wrap (q*6364136223846793005))))+1442695040888963407);have e2:=low_byte _ e.1 e.2;exact⟨_,_,rfl,e2.1,e2.2⟩
theorem k8(l:List Int)(hl:qO l)(p q a:Int)(h0:0≤p)(h1:p<4000000000000000000)(ha:a≤1000000):
 ∃v p' q',ct.f l p q a=some (v,p',q')∧p≤p'∧p'≤p+2∧0≤v∧(1<a→v<a)∧(a≤1→v=0):=by
 unfold ct.f
 by_cases c1:a≤1
 ·rw[if_pos c1]
  exact⟨0,p,q,rfl,by omega,by omega,by omega,fun h=>absurd c1 (by omega),fun _=>rfl⟩
 rw[if_neg c1];obtain⟨v,q1,e1,v0,v1⟩:=a0f l hl p q h0 (by omega);rw[e1]
 by_cases c2:a>200
 ·obtain⟨v',q2,e2,v2,v3⟩:=a0f l hl (p+1) q1 (by omega) (by omega)
  have w1:LS (v*256)=v*256:=bg (by omega) (by omega);have w2:LS (v*256+v')=v*256+v':=bg (by omega) (by omega);refine⟨Int.tmod (v*256+v') a,p+1+1,q2, ?_,by omega,by omega,Int.tmod_nonneg _ (by omega),fun _=>Int.tmod_lt_of_pos _ (by omega),fun h=>absurd h c1⟩;rw[Mq];dsimp only;rw[if_pos c2,e2,Mq,if_neg (show¬a=0 by omega)];dsimp only;rw[w1,w2]
 ·refine⟨Int.tmod v a,p+1,q1, ?_,by omega,by omega,Int.tmod_nonneg _ (by omega),fun _=>Int.tmod_lt_of_pos _ (by omega),fun h=>absurd h c1⟩
  rw[Mq,if_neg c2,if_neg (show¬a=0 by omega)]
theorem N1(l:List Int)(hl:qO l)(p q a:Int)(h0:0≤p)(h1:p<4000000000000000000)(ha:a≤1000000):
 ∃v p' q',mj.f l p q a=some (v,p',q')∧p≤p'∧p'≤p+2:=by
 obtain⟨v,p',q',e,h2,h3,_⟩:=k8 l hl p q a h0 h1 ha;exact⟨_,p',q',by unfold mj.f;rw[e];rfl,h2,h3⟩
theorem piece_ok(l:List Int)(hl:qO l)(p q:Int)(h0:0≤p)(h1:p<3000000000000000000):
 ∃a b c d p' q',yD.f l p q=some (a,b,c,d,p',q')∧p≤p'∧p'≤p+12:=by
 obtain⟨v1,p1,q1,e1,a1,b1,_⟩:=k8 l hl p q 30 h0 (by omega) (by omega);obtain⟨v2,p2,q2,e2,a2,b2,_⟩:=k8 l hl p1 q1 6 (by omega) (by omega) (by omega);obtain⟨v3,p3,q3,e3,a3,b3,_⟩:=k8 l hl p2 q2 60 (by omega) (by omega) (by omega);obtain⟨v4,p4,q4,e4,a4,b4⟩:=N1 l hl p3 q3 2 (by omega) (by omega) (by omega);obtain⟨v5,p5,q5,e5,a5,b5⟩:=N1 l hl p4 q4 30 (by omega) (by omega) (by omega);obtain⟨v6,p6,q6,e6,a6,b6,c6,d6,_⟩:=k8 l hl p5 q5 3 (by omega) (by omega) (by omega);unfold yD.f
 cases v5 with
 |false=>
  exact⟨_,_,_,_,p5,q5,by rw[e1,Mq,e2,Mq,e3,Mq,e4,Mq,e5,Mq];exact if_neg aaM,by omega,by omega⟩
 |true=>
  have d6':=d6 (by omega)
  have ea:ow.f l p5 q5 [-1,198,200]=some (rd [-1,198,200] v6,p6,q6):=by
   unfold ow.f
   show(ct.f l p5 q5 3).bind _=_
   rw[e6,Mq];exact(if_pos c6).trans (if_pos d6')
  refine⟨rd [-1,198,200] v6,LS (1+v2),v3,v4,p6,q6, ?_,by omega,by omega⟩;rw[e1,Mq,e2,Mq,e3,Mq,e4,Mq,e5,Mq];refine(if_pos rfl).trans ?_;rw[ea,Mq]
abbrev FM:=List Pc×Int×Int
theorem a0g(l:List Int)(hl:qO l)(b:Bool)(p q:Int)(m:List Pc)(hm:m.length≤40)(hb:b=true→0<m.length)(h0:0≤p)(h1:p≤1000010):
 ∃r:FM,Ev (fun k=>bV.j2 k b l p q m) r∧r.1.length≤40∧0≤r.2.1∧r.2.1≤1000100:=by
 cases b with
 |false=>
  refine⟨(m,p,q), ?_,hm,h0,by show p≤_;omega⟩;refine Ev.step (fun k=>by rw[bV.j2]) ?_;exact Ev.neg aaM (Ev.now _)
 |true=>
  have hp:=hb rfl;obtain⟨v1,p1,q1,e1,a1,b1,c1,d1,z1⟩:=k8 l hl p q (m.length:Int) h0 (by omega) (by omega);obtain⟨v2,p2,q2,e2,a2,b2,_⟩:=k8 l hl p1 q1 3 (by omega) (by omega) (by omega)
  have hv:v1<(m.length:Int):=by
   by_cases e:1<(m.length:Int)
   ·exact d1 e
   ·rw[z1 (by omega)];omega
  obtain⟨v3,p3,q3,e3,a3,b3,_⟩:=k8 l hl p2 q2 5 (by omega) (by omega) (by omega);obtain⟨v4,p4,q4,e4,a4,b4,_⟩:=k8 l hl p2 q2 9 (by omega) (by omega) (by omega)
  by_cases c2:v2=0
  ·refine⟨(m.set v1.toNat ⟨(I m v1).f0,LS ((I m v1).f1+LS (v3-2)),(I m v1).f2,(I m v1).f3⟩,p3,q3), ?_, ?_, ?_, ?_⟩
   ·refine Ev.step (fun k=>by rw[bV.j2]) ?_
    exact Ev.pos rfl (Ev.cW _ e1 (Ev.cW _ e2 (Ev.pos c2 (Ev.pos c1 (Ev.pos hv (Ev.cW _ e3 (Ev.now _)))))))
   ·show(m.set _ _).length≤40
    rw[List.length_set];exact hm
   ·show 0≤p3;omega
   ·show p3≤_;omega
  ·by_cases c3:v2=1
   ·refine⟨(m.set v1.toNat ⟨(I m v1).f0,(I m v1).f1,v4,(I m v1).f3⟩,p4,q4), ?_, ?_, ?_, ?_⟩
    ·refine Ev.step (fun k=>by rw[bV.j2]) ?_
     exact Ev.pos rfl (Ev.cW _ e1 (Ev.cW _ e2 (Ev.neg c2 (Ev.pos c3 (Ev.cW _ e4 (Ev.pos c1 (Ev.pos hv (Ev.now _))))))))
    ·show(m.set _ _).length≤40
     rw[List.length_set];exact hm
    ·show 0≤p4;omega
    ·show p4≤_;omega
   ·refine⟨(m.set v1.toNat ⟨LS (v4-1),(I m v1).f1,(I m v1).f2,(I m v1).f3⟩,p4,q4), ?_, ?_, ?_, ?_⟩
    ·refine Ev.step (fun k=>by rw[bV.j2]) ?_
     exact Ev.pos rfl (Ev.cW _ e1 (Ev.cW _ e2 (Ev.neg c2 (Ev.neg c3 (Ev.cW _ e4 (Ev.pos c1 (Ev.pos hv (Ev.now _))))))))
    ·show(m.set _ _).length≤40
     rw[List.length_set];exact hm
    ·show 0≤p4;omega
    ·show p4≤_;omega
theorem we(l:List Int)(hl:qO l):∀ (d:Nat) (x4 p q:Int) (m:List Pc),dh m→0≤p→p+40*(d:Int)≤1000000→
 ∃r:FM,Ev (fun k=>bV.l0 k x4 (d:Int) l p q m) r∧r.1.length≤40∧0≤r.2.1∧r.2.1≤1000100
 |0,x4,p,q,m,hm,h0,h1=>by
  by_cases c:(m.length:Int)>0
  ·obtain⟨v,p1,q1,e1,a1,b1⟩:=N1 l hl p q 20 h0 (by omega) (by omega)
   obtain⟨r,er,hr⟩:=a0g l hl v p1 q1 m hm.1 (fun _=>by omega) (by omega) (by omega);refine⟨r, ?_,hr⟩;refine Ev.step (fun k=>by rw[bV.l0]) ?_;exact Ev.neg (by omega) (Ev.pos c (Ev.cW _ e1 er))
  ·obtain⟨r,er,hr⟩:=a0g l hl false p q m hm.1 (fun h=>by cases h) h0 (by omega)
   refine⟨r, ?_,hr⟩;refine Ev.step (fun k=>by rw[bV.l0]) ?_;exact Ev.neg (by omega) (Ev.neg c er)
 |d+1,x4,p,q,m,hm,h0,h1=>by
  have hw:wrap64 (((d+1:Nat):Int)-1)=(d:Int):=by rw[bg (by omega) (by omega)];omega
  obtain⟨pa,pb,pc,pd,p1,q1,e1,a1,b1⟩:=piece_ok l hl p q h0 (by omega);obtain⟨v2,p2,q2,e2,a2,b2,_⟩:=k8 l hl p1 q1 6 (by omega) (by omega) (by omega);obtain⟨v3,p3,q3,e3,a3,b3,_⟩:=k8 l hl p2 q2 30 (by omega) (by omega) (by omega)
  have hml:m.length≤1048576:=by have:=hm.1;omega
  have pos:((d+1:Nat):Int)>0:=by omega
  by_cases c0:v2=0
  ·obtain⟨v4,p4,q4,e4,a4,b4,_⟩:=k8 l hl p3 q3 5 (by omega) (by omega) (by omega)
   obtain⟨s,hs,hg⟩:=punch_ok m hm v3 v4
   by_cases c:s.2.2=true
   ·obtain⟨r,er,hr⟩:=we l hl d x4 p4 q4 s.1 (hg c) (by omega) (by omega)
    refine⟨r, ?_,hr⟩;refine Ev.step (fun k=>by rw[bV.l0]) ?_;refine Ev.pos pos (Ev.cW _ e1 (Ev.cW _ e2 (Ev.pos c0 (Ev.cW _ e3 (Ev.cW _ e4 (Ev.bind' _ hs (Ev.pos c ?_)))))));rw[hw];exact er
   ·obtain⟨r,er,hr⟩:=we l hl d x4 p4 q4 m hm (by omega) (by omega)
    refine⟨r, ?_,hr⟩;refine Ev.step (fun k=>by rw[bV.l0]) ?_;refine Ev.pos pos (Ev.cW _ e1 (Ev.cW _ e2 (Ev.pos c0 (Ev.cW _ e3 (Ev.cW _ e4 (Ev.bind' _ hs (Ev.neg c ?_)))))));rw[hw];exact er
  by_cases c1:v2=1
  ·obtain⟨v4,p4,q4,e4,a4,b4,_⟩:=k8 l hl p3 q3 3 (by omega) (by omega) (by omega)
   obtain⟨s,hs,hg⟩:=written_ok m hm v3 (LS (1+v4))
   by_cases c:s.2=true
   ·obtain⟨r,er,hr⟩:=we l hl d x4 p4 q4 s.1 (hg c) (by omega) (by omega)
    refine⟨r, ?_,hr⟩;refine Ev.step (fun k=>by rw[bV.l0]) ?_;refine Ev.pos pos (Ev.cW _ e1 (Ev.cW _ e2 (Ev.neg c0 (Ev.pos c1 (Ev.cW _ e3 (Ev.cW _ e4 (Ev.bind' _ hs (Ev.pos c ?_))))))));rw[hw];exact er
   ·obtain⟨r,er,hr⟩:=we l hl d x4 p4 q4 m hm (by omega) (by omega)
    refine⟨r, ?_,hr⟩;refine Ev.step (fun k=>by rw[bV.l0]) ?_;refine Ev.pos pos (Ev.cW _ e1 (Ev.cW _ e2 (Ev.neg c0 (Ev.pos c1 (Ev.cW _ e3 (Ev.cW _ e4 (Ev.bind' _ hs (Ev.neg c ?_))))))));rw[hw];exact er
  have j1:∀b:Bool,∃r:FM,Ev (fun k=>bV.j1 k x4 ((d+1:Nat):Int) b l p2 q2 m pa pb pc pd) r∧r.1.length≤40∧0≤r.2.1∧r.2.1≤1000100:=fun b=>by
   cases b with
   |true=>
    obtain⟨s,hs,_,hg⟩:=XD m hml ⟨x4,pb,LS (x4+100),pd⟩
    by_cases c:s.2=true
    ·obtain⟨r,er,hr⟩:=we l hl d (LS (x4+pb)) p2 q2 s.1 (hg.1 c).2.2.2.1 (by omega) (by omega)
     refine⟨r, ?_,hr⟩;refine Ev.step (fun k=>by rw[bV.j1]) ?_;refine Ev.pos rfl (Ev.bind' _ hs (Ev.pos c ?_));rw[hw];exact er
    ·obtain⟨r,er,hr⟩:=we l hl d (LS (x4+pb)) p2 q2 m hm (by omega) (by omega)
     refine⟨r, ?_,hr⟩;refine Ev.step (fun k=>by rw[bV.j1]) ?_;refine Ev.pos rfl (Ev.bind' _ hs (Ev.neg c ?_));rw[hw];exact er
   |false=>
    obtain⟨s,hs,_,hg⟩:=XD m hml ⟨pa,pb,pc,pd⟩
    by_cases c:s.2=true
    ·obtain⟨r,er,hr⟩:=we l hl d x4 p2 q2 s.1 (hg.1 c).2.2.2.1 (by omega) (by omega)
     refine⟨r, ?_,hr⟩;refine Ev.step (fun k=>by rw[bV.j1]) ?_;refine Ev.neg aaM (Ev.bind' _ hs (Ev.pos c ?_));rw[hw];exact er
    ·obtain⟨r,er,hr⟩:=we l hl d x4 p2 q2 m hm (by omega) (by omega)
     refine⟨r, ?_,hr⟩;refine Ev.step (fun k=>by rw[bV.j1]) ?_;refine Ev.neg aaM (Ev.bind' _ hs (Ev.neg c ?_));rw[hw];exact er
  by_cases c2:v2=2
  ·obtain⟨r,er,hr⟩:=j1 (v2==2)
   refine⟨r, ?_,hr⟩;refine Ev.step (fun k=>by rw[bV.l0]) ?_;exact Ev.pos pos (Ev.cW _ e1 (Ev.cW _ e2 (Ev.neg c0 (Ev.neg c1 (Ev.pos c2 er)))))
  ·obtain⟨r,er,hr⟩:=j1 (v2==3)
   refine⟨r, ?_,hr⟩;refine Ev.step (fun k=>by rw[bV.l0]) ?_;exact Ev.pos pos (Ev.cW _ e1 (Ev.cW _ e2 (Ev.neg c0 (Ev.neg c1 (Ev.neg c2 er)))))
theorem good_nil:dh []:=⟨Nat.zero_le _,fun i hi=>absurd hi (Nat.not_lt_zero _)⟩
theorem Pt(l:List Int)(hl:qO l):∃r:FM,Ev (fun k=>bV.f k l 0 0) r∧r.1.length≤40∧0≤r.2.1∧r.2.1≤1000100:=by
 obtain⟨v1,p1,q1,e1,a1,b1,c1,d1,_⟩:=k8 l hl 0 0 12 (by omega) (by omega) (by omega);have hv:=d1 (by omega);obtain⟨r,er,hr⟩:=we l hl v1.toNat 0 p1 q1 [] good_nil (by omega) (by omega);refine⟨r, ?_,hr⟩;unfold bV.f;refine Ev.cW _ e1 ?_;rw[show((v1.toNat:Nat):Int)=v1 by omega]at er;exact er
end Go.Proofs.Ytjojdplkgekagaa.Q
