/- A state's own copy. No statement. -/
import Derived.Test.YtahnkgehlfdlkaaIntGood
import Derived.Test.YtahnkgehlfdlkaaG4
open List renaming length_nil→aar,nil_append→aaH
open Option renaming bind_some→N6
namespace Go.Proofs.Ytahnkgehlfdlkaa.Q
open Go.RowKit Go.Proofs.YtahnkgehlfdlkaaW.PrintWords Go.Proofs.Ytahnkgehlfdlkaa.G
set_option linter.unusedVariables false
set_option linter.unusedSimpArgs false
theorem gf_sorted(n:Int)(l m:List X_)(hl:l.length≤1048576)(h:Ev (fun k=>gb.f k n l m) true):fO [] l=m:=by
 obtain⟨K1,h1⟩:=h;obtain⟨K2,h2⟩:=xL l hl;obtain⟨K3,h3⟩:=QL (fO [] l) m (by rw[wy,aar];omega);have e:gb.f (K1+K2+K3) n l m=some true:=h1 _ (by omega);have e2:dV.f (K1+K2+K3) l=some (fO [] l):=h2 _ (by omega);have e3:jN.f (K1+K2+K3) (fO [] l) m=some (decide (fO [] l=m)):=h3 _ (by omega);unfold gb.f at e
 cases hp:iH.f (K1+K2+K3) l n with
 |none=>rw[hp]at e;cases e
 |some t=>
  rw[hp,N6]at e
  cases t with
  |false=>rw[if_neg Bool.false_ne_true]at e;cases e
  |true=>
   rw[if_pos rfl,e2,N6,e3,N6]at e
   simpa using e
theorem gw_free(n:Int)(fp m:List X_)(nxt:Int)(l:List It)(hfp:fp.length≤1048576)(h:Ev (fun k=>f9.f k n fp m nxt l) true):fO [] fp=m:=by
 obtain⟨g,e1,_,_⟩:=yZ n fp m hfp
 cases g with
 |true=>exact gf_sorted n fp m hfp e1
 |false=>
  obtain⟨K1,h1⟩:=h;obtain⟨K2,h2⟩:=e1;have e:f9.f (K1+K2) n fp m nxt l=some true:=h1 _ (by omega);have e2:gb.f (K1+K2) n fp m=some false:=h2 _ (by omega);unfold f9.f at e;rw[e2,N6,if_neg Bool.false_ne_true]at e
  cases e
theorem own_s(n:Int)(fp m:List X_)(nxt:Int)(l:List It)(hfp:fp.length≤1048576)(hl:l.length≤1048576)(h:fO [] fp=m):Ev (fun k=>m4.f k n fp m nxt l) (n,fp,m,nxt,l):=by
 unfold m4.f ip.f;refine Ev.bind' (n,fp,m) (Ev.ct [] rfl (Ev.pos (by rw[aar];omega) (Ev.bind' _ (xL fp hfp) (Ev.now' (by rw[h,aaH]))))) (Ev.ct [] rfl (Ev.pos (by rw[aar];omega) (Ev.now' (by rw[aaH]))))
end Go.Proofs.Ytahnkgehlfdlkaa.Q
