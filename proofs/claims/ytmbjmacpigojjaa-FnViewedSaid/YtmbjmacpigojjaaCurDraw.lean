/- What a cursor draws: next, pick and text, as plain facts. -/
import Derived.Test.YtmbjmacpigojjaaKit
import Derived.Laws.BitsAllLaws
import Derived.Test.YtmbjmacpigojjaaG3
open Option renaming bind_some→aV
namespace Go.Proofs.Ytmbjmacpigojjaa.Q
open Go.RowKit Go.Proofs.YtmbjmacpigojjaaW.PrintWords Go.Proofs.Ytmbjmacpigojjaa.G
set_option linter.unusedVariables false
set_option linter.unusedSimpArgs false
def qO(l:List Int):Prop:=∀y∈l,0≤y∧y≤255
theorem Vh {l:List Int}(h:∀y0∈l,(Lit.int .u8 y0).wf=true):qO l:=fun y hy=>by
 have h1:IntKind.u8.min=0:=by rfl
 have h2:IntKind.u8.max=255:=by rfl
 have:=h y hy
 simp[Lit.wf]at this
 omega
theorem low_byte(x:Int)(h0:0≤x)(h1:x<18446744073709551616):0≤wrap64 (Go.bits .and .u64 x 255)∧wrap64 (Go.bits .and .u64 x 255)≤255:=by
 rw[u64_and x 255 h0 h1 (by decide) (by decide)];have e:x.toNat&&& (255:Int).toNat≤255:=Nat.and_le_right;rw[eD (by omega) (by omega)]
 omega
theorem wrapu(x:Int):0≤IntKind.u64.wrap x/1099511627776∧IntKind.u64.wrap x/1099511627776<18446744073709551616:=by
 rw[IntKind.wrap_u64]
 omega
theorem XI(l:List Int)(hl:qO l)(p q:Int)(h0:0≤p)(h1:p<4611686018427387904):
 ∃v q',sF.f l p q=some (v,p+1,q')∧0≤v∧v≤255:=by
 have hw:wrap64 (p+1)=p+1:=eD (by omega) (by omega);unfold sF.f;rw[hw]
 by_cases c1:p<(l.length:Int)
 ·have hb:0≤rd l p∧rd l p≤255:=hl _ (yt l p.toNat 0 (by omega))
  rw[if_pos c1,if_pos h0,if_pos (show p+1≤(l.length:Int) by omega)];exact⟨_,_,rfl,by rw[eD (by omega) (by omega)];omega,by rw[eD (by omega) (by omega)];omega⟩
 ·rw[if_neg c1,if_neg (show¬p+1≤(l.length:Int) by omega)]
  have e:=wrapu ((IntKind.u64.wrap ((IntKind.u64.wrap (q*6364136223846793005))))+1442695040888963407);have e2:=low_byte _ e.1 e.2;exact⟨_,_,rfl,e2.1,e2.2⟩
theorem ta(l:List Int)(hl:qO l)(p q a:Int)(h0:0≤p)(h1:p<4000000000000000000)(ha:a≤1000000):
 ∃v p' q',gG.f l p q a=some (v,p',q')∧p≤p'∧p'≤p+2∧0≤v∧(1<a→v<a)∧(a≤1→v=0):=by
 unfold gG.f
 by_cases c1:a≤1
 ·rw[if_pos c1]
  exact⟨0,p,q,rfl,by omega,by omega,by omega,fun h=>absurd c1 (by omega),fun _=>rfl⟩
 rw[if_neg c1];obtain⟨v,q1,e1,v0,v1⟩:=XI l hl p q h0 (by omega);rw[e1]
 by_cases c2:a>200
 ·obtain⟨v',q2,e2,v2,v3⟩:=XI l hl (p+1) q1 (by omega) (by omega)
  have w1:wrap64 (v*256)=v*256:=eD (by omega) (by omega);have w2:wrap64 (v*256+v')=v*256+v':=eD (by omega) (by omega);refine⟨Int.tmod (v*256+v') a,p+1+1,q2, ?_,by omega,by omega,Int.tmod_nonneg _ (by omega),fun _=>Int.tmod_lt_of_pos _ (by omega),fun h=>absurd h c1⟩;rw[aV];dsimp only;rw[if_pos c2,e2,aV,if_neg (show¬a=0 by omega)];dsimp only;rw[w1,w2]
 ·refine⟨Int.tmod v a,p+1,q1, ?_,by omega,by omega,Int.tmod_nonneg _ (by omega),fun _=>Int.tmod_lt_of_pos _ (by omega),fun h=>absurd h c1⟩
  rw[aV,if_neg c2,if_neg (show¬a=0 by omega)]
theorem SR(l:List Int):(strOfNums l).size=l.length:=by
 unfold strOfNums
 show((l.map fun n=>UInt8.ofNat n.toNat).toArray).size=_
 simp
theorem text_loop(l:List Int)(hl:qO l)(n:Int)(hn:n≤1000000):∀ (m:Nat) (x:Int) (acc:List Int) (p q:Int),(n-x).toNat=m→0≤x→(acc.length:Int)=n→0≤p→p<3000000000000000000+2*x→
 ∃s p' q',Ev (fun k=>gq.l0 k acc n x l p q) (s,p',q')∧(s.size:Int)=n∧p≤p'∧p'≤p+2*(m:Int):=by
 intro m
 induction m with
 |zero=>
  intro x acc p q hm hx ha h0 h1;exact⟨_,_,_,Ev.step (fun k=>by rw[gq.l0]) (Ev.neg (by omega) (Ev.now _)),by rw[SR];exact ha,by omega,by omega⟩
 |succ m ih=>
  intro x acc p q hm hx ha h0 h1;obtain⟨v,p1,q1,e1,a1,a2,_,_,_⟩:=ta l hl p q 256 h0 (by omega) (by omega);have hw:wrap64 (x+1)=x+1:=eD (by omega) (by omega);obtain⟨s,p',q',e,es,b1,b2⟩:=ih (x+1) (acc.set x.toNat (v%256)) p1 q1 (by omega) (by omega) (by rw[List.length_set];exact ha) (by omega) (by omega);refine⟨s,p',q',Ev.step (fun k=>by rw[gq.l0]) (Ev.pos (by omega) (Ev.eB _ e1 ?_)),es,by omega,by omega⟩
  have hx2:x<(acc.length:Int):=by omega
  refine Ev.pos hx (Ev.pos hx2 ?_);rw[hw];exact e
theorem XH(l:List Int)(hl:qO l)(p q n:Int)(h0:0≤p)(h1:p<3000000000000000000)(n0:0≤n)(n1:n≤1000000):
 ∃s p' q',Ev (fun k=>gq.f k l p q n) (s,p',q')∧(s.size:Int)=n∧p≤p'∧p'≤p+2*n:=by
 obtain⟨s,p',q',e,es,b1,b2⟩:=text_loop l hl n n1 n.toNat 0 (List.replicate n.toNat 0) p q (by omega) (by omega) (by rw[List.length_replicate];omega) h0 (by omega);refine⟨s,p',q', ?_,es,b1,by omega⟩;unfold gq.f;refine Ev.pos n0 (Ev.pos (by omega) (Ev.eB _ rfl ?_));rw[List.length_replicate,show((n.toNat:Nat):Int)=n by omega];exact e
end Go.Proofs.Ytmbjmacpigojjaa.Q
