/- What a cursor draws: next, pick and text, as plain facts. -/
import Derived.Test.YtahnkgehlfdlkaaKit
import Derived.Laws.BitsAllLaws
import Derived.Test.YtahnkgehlfdlkaaG3
open Option renaming bind_some→N6
namespace Go.Proofs.Ytahnkgehlfdlkaa.Q
open Go.RowKit Go.Proofs.YtahnkgehlfdlkaaW.PrintWords Go.Proofs.Ytahnkgehlfdlkaa.G
set_option linter.unusedVariables false
set_option linter.unusedSimpArgs false
def xR(l:List Int):Prop:=∀y∈l,0≤y∧y≤255
theorem bytes_of {l:List Int}(h:∀y0∈l,(Lit.int .u8 y0).wf=true):xR l:=fun y hy=>by
 have h1:IntKind.u8.min=0:=by rfl
 have h2:IntKind.u8.max=255:=by rfl
 have:=h y hy
 simp[Lit.wf]at this
 omega
theorem low_byte(x:Int)(h0:0≤x)(h1:x<18446744073709551616):0≤wrap64 (Go.bits .and .u64 x 255)∧wrap64 (Go.bits .and .u64 x 255)≤255:=by
 rw[u64_and x 255 h0 h1 (by decide) (by decide)];have e:x.toNat&&& (255:Int).toNat≤255:=Nat.and_le_right;rw[dO (by omega) (by omega)]
 omega
theorem wrapu(x:Int):0≤IntKind.u64.wrap x/1099511627776∧IntKind.u64.wrap x/1099511627776<18446744073709551616:=by
 rw[IntKind.wrap_u64]
 omega
theorem next_ok(l:List Int)(hl:xR l)(p q:Int)(h0:0≤p)(h1:p<4611686018427387904):
 ∃v q',uc.f l p q=some (v,p+1,q')∧0≤v∧v≤255:=by
 have hw:wrap64 (p+1)=p+1:=dO (by omega) (by omega);unfold uc.f;rw[hw]
 by_cases c1:p<(l.length:Int)
 ·have hb:0≤rd l p∧rd l p≤255:=hl _ (Cv l p.toNat 0 (by omega))
  rw[if_pos c1,if_pos h0,if_pos (show p+1≤(l.length:Int) by omega)];exact⟨_,_,rfl,by rw[dO (by omega) (by omega)];omega,by rw[dO (by omega) (by omega)];omega⟩
 ·rw[if_neg c1,if_neg (show¬p+1≤(l.length:Int) by omega)]
  have e:=wrapu ((IntKind.u64.wrap ((IntKind.u64.wrap (q*6364136223846793005))))+1442695040888963407);have e2:=low_byte _ e.1 e.2;exact⟨_,_,rfl,e2.1,e2.2⟩
theorem oM(l:List Int)(hl:xR l)(p q a:Int)(h0:0≤p)(h1:p<4000000000000000000)(ha:a≤1000000):
 ∃v p' q',fR.f l p q a=some (v,p',q')∧p≤p'∧p'≤p+2∧0≤v∧(1<a→v<a)∧(a≤1→v=0):=by
 unfold fR.f
 by_cases c1:a≤1
 ·rw[if_pos c1]
  exact⟨0,p,q,rfl,by omega,by omega,by omega,fun h=>absurd c1 (by omega),fun _=>rfl⟩
 rw[if_neg c1];obtain⟨v,q1,e1,v0,v1⟩:=next_ok l hl p q h0 (by omega);rw[e1]
 by_cases c2:a>200
 ·obtain⟨v',q2,e2,v2,v3⟩:=next_ok l hl (p+1) q1 (by omega) (by omega)
  have w1:wrap64 (v*256)=v*256:=dO (by omega) (by omega);have w2:wrap64 (v*256+v')=v*256+v':=dO (by omega) (by omega);refine⟨Int.tmod (v*256+v') a,p+1+1,q2, ?_,by omega,by omega,Int.tmod_nonneg _ (by omega),fun _=>Int.tmod_lt_of_pos _ (by omega),fun h=>absurd h c1⟩;rw[N6];dsimp only;rw[if_pos c2,e2,N6,if_neg (show¬a=0 by omega)];dsimp only;rw[w1,w2]
 ·refine⟨Int.tmod v a,p+1,q1, ?_,by omega,by omega,Int.tmod_nonneg _ (by omega),fun _=>Int.tmod_lt_of_pos _ (by omega),fun h=>absurd h c1⟩
  rw[N6,if_neg c2,if_neg (show¬a=0 by omega)]
theorem Jd(l:List Int)(hl:xR l)(p q a:Int)(h0:0≤p)(h1:p<4000000000000000000)(ha:a≤1000000):
 ∃v p' q',nI.f l p q a=some (v,p',q')∧p≤p'∧p'≤p+2:=by
 obtain⟨v,p',q',e,h2,h3,_⟩:=oM l hl p q a h0 h1 ha;exact⟨_,p',q',by unfold nI.f;rw[e];rfl,h2,h3⟩
end Go.Proofs.Ytahnkgehlfdlkaa.Q
