/- PromiseFree of both: the same answer. -/
import Derived.Test.YtfeokehfhaimkaaIntGood
import Derived.Test.YtfeokehfhaimkaaG3
import Derived.Test.YtfeokehfhaimkaaG6
open Bool renaming false_ne_true→db
open List renaming length_append→Ug,length_singleton→eP,length_nil→aan,nil_append→aaG
open Nat renaming zero_le→bp
open Option renaming bind_some→Gm
namespace Go.Proofs.Ytfeokehfhaimkaa.Q
open Go.RowKit Go.Proofs.YtfeokehfhaimkaaW.PrintWords Go.Proofs.Ytfeokehfhaimkaa.G
set_option linter.unusedVariables false
set_option linter.unusedSimpArgs false
theorem gf_sorted(n:Int)(l m:List X_)(hl:l.length≤1048576)(h:Ev (fun k=>fc.f k n l m) true):ff [] l=m:=by
 obtain⟨K1,h1⟩:=h;obtain⟨K2,h2⟩:=Gz l hl;obtain⟨K3,h3⟩:=SY (ff [] l) m (by rw[Bs,aan];omega);have e:fc.f (K1+K2+K3) n l m=some true:=h1 _ (by omega);have e2:dA.f (K1+K2+K3) l=some (ff [] l):=h2 _ (by omega);have e3:iT.f (K1+K2+K3) (ff [] l) m=some (decide (ff [] l=m)):=h3 _ (by omega);unfold fc.f at e
 cases hp:gI.f (K1+K2+K3) l n with
 |none=>rw[hp]at e;cases e
 |some t=>
  rw[hp,Gm]at e
  cases t with
  |false=>rw[if_neg db]at e;cases e
  |true=>
   rw[if_pos rfl,e2,Gm,e3,Gm]at e
   simpa using e
theorem Xn(n:Int)(fp m:List X_)(nxt:Int)(l:List It)(hfp:fp.length≤1048576)(h:Ev (fun k=>eM.f k n fp m nxt l) true):ff [] fp=m:=by
 obtain⟨g,e1,_,_⟩:=Dj n fp m hfp
 cases g with
 |true=>exact gf_sorted n fp m hfp e1
 |false=>
  obtain⟨K1,h1⟩:=h;obtain⟨K2,h2⟩:=e1;have e:eM.f (K1+K2) n fp m nxt l=some true:=h1 _ (by omega);have e2:fc.f (K1+K2) n fp m=some false:=h2 _ (by omega);unfold eM.f at e;rw[e2,Gm,if_neg db]at e
  cases e
theorem YG(n:Int)(fp m:List X_)(nxt:Int)(l:List It)(hfp:fp.length≤1048576)(hl:l.length≤1048576)(h:ff [] fp=m):Ev (fun k=>nZ.f k n fp m nxt l) (n,fp,m,nxt,l):=by
 unfold nZ.f j8.f;refine Ev.bind' (n,fp,m) (Ev.dq [] rfl (Ev.pos (by rw[aan];omega) (Ev.bind' _ (Gz fp hfp) (Ev.now' (by rw[h,aaG]))))) (Ev.dq [] rfl (Ev.pos (by rw[aan];omega) (Ev.now' (by rw[aaG]))))
def a1J(n:Int)(fp m:List X_)(nxt:Int)(l:List It):Bool→Int×List X_×List X_×Int×List It×Bool
 |true=>(n,fp,m,nxt,l,true)
 |false=>(0,[],[],0,[],false)
theorem with_i(n:Int)(fp m:List X_)(nxt:Int)(l:List It)(x:It)(nx:Int)(hfp:fp.length≤1048576)(hm:m.length≤1048576)(hl:l.length≤1048576)(h:Ev (fun k=>gH.f k n fp m nxt l) true)(b:Bool)(hb:Ev (fun k=>gH.f k n fp m nx (l++[x])) b):
 Ev (fun k=>ij.f k n fp m nxt l x.f0 x.f1 x.f2.f0 x.f2.f1 x.f3 nx) (a1J n fp m nx (l++[x]) b):=by
 have e1:kZ.f n fp m=some (n,fp,m):=by
  unfold kZ.f mq.f;rw[if_pos (by omega),Gm,if_pos (by omega),Gm]
 have e2:qt.f l=some l:=by
  unfold qt.f;rw[if_pos (by omega)]
 unfold ij.f;refine Ev.dq _ e1 (Ev.dq _ e2 (Ev.dq [x] rfl (Ev.pos (by rw[eP];omega) (Ev.dq (l++[x]) rfl (Ev.bind' true h (Ev.pos rfl (Ev.bind' b hb ?_)))))))
 cases b with
 |true=>exact Ev.pos rfl (Ev.now _)
 |false=>exact Ev.neg db (Ev.now _)
theorem with_i0(n:Int)(fp m:List X_)(nxt:Int)(l:List It)(x:It)(nx:Int)(hfp:fp.length≤1048576)(hm:m.length≤1048576)(hl:l.length≤1048576)(h:Ev (fun k=>gH.f k n fp m nxt l) false):
 Ev (fun k=>ij.f k n fp m nxt l x.f0 x.f1 x.f2.f0 x.f2.f1 x.f3 nx) (0,[],[],0,[],false):=by
 have e1:kZ.f n fp m=some (n,fp,m):=by
  unfold kZ.f mq.f;rw[if_pos (by omega),Gm,if_pos (by omega),Gm]
 have e2:qt.f l=some l:=by
  unfold qt.f;rw[if_pos (by omega)]
 unfold ij.f;exact Ev.dq _ e1 (Ev.dq _ e2 (Ev.dq [x] rfl (Ev.pos (by rw[eP];omega) (Ev.dq (l++[x]) rfl (Ev.bind' false h (Ev.neg db (Ev.now _)))))))
abbrev z0_:Int×List X_×List X_×Int×List It×Int×Bool:=(0,[],[],0,[],0,false)
theorem promise_both(n:Int)(fp m:List X_)(nxt:Int)(l:List It)(x0 x1:Int)(hfp:fp.length≤1048576)(hm:m.length≤1048576)(hl:l.length≤1048576):
 ∃r:Int×List X_×List X_×Int×List It×Int×Bool,Ev (fun k=>vU.f k n fp m nxt l x0 x1) r∧Ev (fun k=>tH.f k n fp m nxt l x0 x1) r∧r.2.1.length≤2000000∧r.2.2.1.length≤2000000∧r.2.2.2.2.1.length≤2000000:=by
 obtain⟨o,h1,h2,h3⟩:=QG n fp m nxt l hfp (by omega);unfold vU.f tH.f
 cases o with
 |none=>
  have gi:Ev (fun k=>gH.f k n fp m nxt l) false:=by
   unfold gH.f;exact Ev.bind' _ h1 (Ev.now _)
  have hw:=with_i0 n fp m nxt l (⟨1,nxt,⟨x0,x1⟩,0⟩:It) (wrap64 (nxt+1)) hfp hm hl gi;exact⟨z0_,Ev.bind' _ h2 (Ev.neg db (Ev.now _)),Ev.bind' _ hw (Ev.neg db (Ev.now _)),bp _,bp _,bp _⟩
 |some out=>
  obtain⟨b1,b2,b3,n1,n2,f60,hnx⟩:=h3 out rfl;have hso:=Xn n fp m nxt l hfp h2
  have gi:Ev (fun k=>gH.f k n fp m nxt l) true:=by
   unfold gH.f;exact Ev.bind' _ h1 (Ev.now _)
  have hown:=YG n fp m nxt l hfp (by omega) hso;have e1:wrap64 (nxt+1)=nxt+1:=bv (by omega) (by omega)
  have e2:wrap64 (nxt+1-1)=nxt:=by rw[bv (by omega) (by omega)];omega
  have hll:(l++[(⟨1,nxt,⟨x0,x1⟩,0⟩:It)]).length≤2000000:=by rw[Ug,eP];omega
  obtain⟨g,gs,gi2⟩:=QI n fp m (nxt+1) (l++[(⟨1,nxt,⟨x0,x1⟩,0⟩:It)]) hfp hm (by rw[Ug,eP];omega);have hw:=with_i n fp m nxt l (⟨1,nxt,⟨x0,x1⟩,0⟩:It) (nxt+1) hfp hm (by omega) gi g gi2;rw[e1]
  cases g with
  |true=>
   refine⟨(n,fp,m,nxt+1,l++[(⟨1,nxt,⟨x0,x1⟩,0⟩:It)],nxt,true),Ev.bind' _ h2 (Ev.pos rfl (Ev.bind' _ hown (Ev.pos (by show l.length<_;omega) (Ev.dq _ rfl ?_)))),Ev.bind' _ hw (Ev.pos rfl (Ev.now _)),by show fp.length≤_;omega,by show m.length≤_;omega,hll⟩
   show Ev (fun k=>(eM.f k n fp m (wrap64 (nxt+1)) _).bind _) _
   rw[e1];refine Ev.bind' _ gs (Ev.pos rfl (Ev.now' ?_))
   show(n,fp,m,nxt+1,_,wrap64 (nxt+1-1),true)=_
   rw[e2]
  |false=>
   refine⟨z0_,Ev.bind' _ h2 (Ev.pos rfl (Ev.bind' _ hown (Ev.pos (by show l.length<_;omega) (Ev.dq _ rfl ?_)))),Ev.bind' _ hw (Ev.neg db (Ev.now _)),bp _,bp _,bp _⟩
   show Ev (fun k=>(eM.f k n fp m (wrap64 (nxt+1)) _).bind _) _
   rw[e1];exact Ev.bind' _ gs (Ev.neg db (Ev.now _))
end Go.Proofs.Ytfeokehfhaimkaa.Q
