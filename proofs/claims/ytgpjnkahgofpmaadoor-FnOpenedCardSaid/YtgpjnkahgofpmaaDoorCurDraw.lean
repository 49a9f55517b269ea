/- What a cursor draws: next, pick and text, as plain facts. -/
import Derived.Test.YtgpjnkahgofpmaaDoorKit
import Derived.Laws.BitsAllLaws
import Derived.Test.YtgpjnkahgofpmaaDoorG3
open Option renaming bind_some→zD
namespace Go.Proofs.YtgpjnkahgofpmaaDoor.Q
open Go.RowKit Go.Proofs.YtgpjnkahgofpmaaDoorW.PrintWords Go.Proofs.YtgpjnkahgofpmaaDoor.G
set_option linter.unusedVariables false
set_option linter.unusedSimpArgs false
def lL(l:List Int):Prop:=∀y∈l,0≤y∧y≤255
theorem OU {l:List Int}(h:∀y0∈l,(Lit.int .u8 y0).wf=true):lL l:=fun y hy=>by
 have h1:IntKind.u8.min=0:=by rfl
 have h2:IntKind.u8.max=255:=by rfl
 have:=h y hy
 simp[Lit.wf]at this
 omega
theorem YU(x:Int)(h0:0≤x)(h1:x<18446744073709551616):0≤wrap64 (Go.bits .and .u64 x 255)∧wrap64 (Go.bits .and .u64 x 255)≤255:=by
 rw[u64_and x 255 h0 h1 (by decide) (by decide)];have e:x.toNat&&& (255:Int).toNat≤255:=Nat.and_le_right;rw[dc (by omega) (by omega)]
 omega
theorem a4V(x:Int):0≤IntKind.u64.wrap x/1099511627776∧IntKind.u64.wrap x/1099511627776<18446744073709551616:=by
 rw[IntKind.wrap_u64]
 omega
theorem Qe(l:List Int)(hl:lL l)(p q:Int)(h0:0≤p)(h1:p<4611686018427387904):
 ∃v q',ol.f l p q=some (v,p+1,q')∧0≤v∧v≤255:=by
 have hw:wrap64 (p+1)=p+1:=dc (by omega) (by omega);unfold ol.f;rw[hw]
 by_cases c1:p<(l.length:Int)
 ·have hb:0≤rd l p∧rd l p≤255:=hl _ (OX l p.toNat 0 (by omega))
  rw[if_pos c1,if_pos h0,if_pos (show p+1≤(l.length:Int) by omega)];exact⟨_,_,rfl,by rw[dc (by omega) (by omega)];omega,by rw[dc (by omega) (by omega)];omega⟩
 ·rw[if_neg c1,if_neg (show¬p+1≤(l.length:Int) by omega)]
  have e:=a4V ((IntKind.u64.wrap ((IntKind.u64.wrap (q*6364136223846793005))))+1442695040888963407);have e2:=YU _ e.1 e.2;exact⟨_,_,rfl,e2.1,e2.2⟩
theorem kb(l:List Int)(hl:lL l)(p q a:Int)(h0:0≤p)(h1:p<4000000000000000000)(ha:a≤1000000):
 ∃v p' q',dw.f l p q a=some (v,p',q')∧p≤p'∧p'≤p+2∧0≤v∧(1<a→v<a)∧(a≤1→v=0):=by
 unfold dw.f
 by_cases c1:a≤1
 ·rw[if_pos c1]
  exact⟨0,p,q,rfl,by omega,by omega,by omega,fun h=>absurd c1 (by omega),fun _=>rfl⟩
 rw[if_neg c1];obtain⟨v,q1,e1,v0,v1⟩:=Qe l hl p q h0 (by omega);rw[e1]
 by_cases c2:a>200
 ·obtain⟨v',q2,e2,v2,v3⟩:=Qe l hl (p+1) q1 (by omega) (by omega)
  have w1:wrap64 (v*256)=v*256:=dc (by omega) (by omega);have w2:wrap64 (v*256+v')=v*256+v':=dc (by omega) (by omega);refine⟨Int.tmod (v*256+v') a,p+1+1,q2, ?_,by omega,by omega,Int.tmod_nonneg _ (by omega),fun _=>Int.tmod_lt_of_pos _ (by omega),fun h=>absurd h c1⟩;rw[zD];dsimp only;rw[if_pos c2,e2,zD,if_neg (show¬a=0 by omega)];dsimp only;rw[w1,w2]
 ·refine⟨Int.tmod v a,p+1,q1, ?_,by omega,by omega,Int.tmod_nonneg _ (by omega),fun _=>Int.tmod_lt_of_pos _ (by omega),fun h=>absurd h c1⟩
  rw[zD,if_neg c2,if_neg (show¬a=0 by omega)]
theorem Wb(l:List Int):(strOfNums l).size=l.length:=by
 unfold strOfNums
 show((l.map fun n=>UInt8.ofNat n.toNat).toArray).size=_
 simp
theorem Xp(l:List Int)(hl:lL l)(n:Int)(hn:n≤1000000):∀ (m:Nat) (x:Int) (acc:List Int) (p q:Int),(n-x).toNat=m→0≤x→(acc.length:Int)=n→0≤p→p<3000000000000000000+2*x→
 ∃s p' q',Ev (fun k=>fP.l0 k acc n x l p q) (s,p',q')∧(s.size:Int)=n∧p≤p'∧p'≤p+2*(m:Int):=by
 intro m
 induction m with
 |zero=>
  intro x acc p q hm hx ha h0 h1;exact⟨_,_,_,Ev.step (fun k=>by rw[fP.l0]) (Ev.neg (by omega) (Ev.now _)),by rw[Wb];exact ha,by omega,by omega⟩
 |succ m ih=>
  intro x acc p q hm hx ha h0 h1;obtain⟨v,p1,q1,e1,a1,a2,_,_,_⟩:=kb l hl p q 256 h0 (by omega) (by omega);have hw:wrap64 (x+1)=x+1:=dc (by omega) (by omega);obtain⟨s,p',q',e,es,b1,b2⟩:=ih (x+1) (acc.set x.toNat (v%256)) p1 q1 (by omega) (by omega) (by rw[List.length_set];exact ha) (by omega) (by omega);refine⟨s,p',q',Ev.step (fun k=>by rw[fP.l0]) (Ev.pos (by omega) (Ev.bh _ e1 ?_)),es,by omega,by omega⟩
  have hx2:x<(acc.length:Int):=by omega
  refine Ev.pos hx (Ev.pos hx2 ?_);rw[hw];exact e
theorem K4(l:List Int)(hl:lL l)(p q n:Int)(h0:0≤p)(h1:p<3000000000000000000)(n0:0≤n)(n1:n≤1000000):
 ∃s p' q',Ev (fun k=>fP.f k l p q n) (s,p',q')∧(s.size:Int)=n∧p≤p'∧p'≤p+2*n:=by
 obtain⟨s,p',q',e,es,b1,b2⟩:=Xp l hl n n1 n.toNat 0 (List.replicate n.toNat 0) p q (by omega) (by omega) (by rw[List.length_replicate];omega) h0 (by omega);refine⟨s,p',q', ?_,es,b1,by omega⟩;unfold fP.f;refine Ev.pos n0 (Ev.pos (by omega) (Ev.bh _ rfl ?_));rw[List.length_replicate,show((n.toNat:Nat):Int)=n by omega];exact e
end Go.Proofs.YtgpjnkahgofpmaaDoor.Q
