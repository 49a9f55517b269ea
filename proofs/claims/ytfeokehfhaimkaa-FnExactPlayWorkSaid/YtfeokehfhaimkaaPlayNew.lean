/- impl.NewWork, walked by hand. No statement. -/
import Derived.Test.YtfeokehfhaimkaaG4
import Derived.Test.YtfeokehfhaimkaaG7
namespace Go.Proofs.Ytfeokehfhaimkaa.G
open Go.RowKit Go.Proofs.YtfeokehfhaimkaaW.PrintWords Go.Proofs.YtfeokehfhaimkaaW.PrintLast Go.Proofs.YtfeokehfhaimkaaW.PrintMore
set_option linter.unusedVariables false
set_option linter.unusedSimpArgs false
def tI.f(a0:Int):Option (Int×(List Y)×(List Y)×Int×(List aJ)×Bool):=
 (jH.f a0 1 400).bind fun c=>if c=true then(xw.f a0 []).bind fun t=>some (t.1,t.2.1,t.2.2,1,[],true)else some (0,[],[],0,[],false)
set_option maxHeartbeats 8000000 in
set_option maxRecDepth 100000 in
theorem tI.calls(a0:Int)(r0:Int)(r1 r2:List Y)(r3:Int)(r4:List aJ)(b:Bool)(w:World)(h:tI.f a0=some (r0,r1,r2,r3,r4,b)):
 Calls Try.prog 22 #[.int .i64 a0] w fun e w'=>∃df da kH:Value,e= .returned (.tuple #[.agg #[.int .i64 r0,df,da,.int .i64 r3,kH],.bool b])∧Kd.R aT 45 w' w.heap.size (fun k_=>some k_≠(da:Value).ownBlock) df r1∧Kd.R aT 45 w' w.heap.size (fun k_=>some k_≠(df:Value).ownBlock) da r2∧Kd.R b8 66 w' w.heap.size (fun _=>True) kH r4∧Below w.heap.size w w':=by
 have hu:=Try.underlying29;have HB:=Ah (Below.refl w.heap.size w);unfold tI.f at h;obtain⟨c,hc,h⟩:=Option.bind_eq_some_iff.mp h;have HC:=Ah hc;clear hc
 go_enter Try.func22,Try.ntmps22
 go_upto_if 6 with(first|((with_reducible refine ag (N:=2) rfl ?_);refine an 2 29 #[.int .i64 0,.slice none 0 0,.slice none 0 0,.int .i64 0,.slice none 0 0] ?_;intro gr hg w1 BR hb;have Ggr:=gw hg (bs HB);replace HB:=Ah (aH (bs HB) hb);clear hb hg)|(go_at_call 40;(with_reducible refine(jH.calls _ _ _ c _ HC.out).mono ?_);rintro e w2 ⟨rfl,hd⟩;have hb:=hd.below;clear hd;replace BR:=nb BR hb;replace HB:=Ah (aH (bs HB) hb);clear hb))
 obtain⟨yw,yx,yy,yz,z6⟩:=aj BR;obtain⟨z7,z8,zA,zB,zC⟩:=ai BR
 cases c
 case false=>
  simp only[Bool.false_eq_true,if_false,Option.some.injEq,Prod.mk.injEq]at h;obtain⟨rfl,rfl,rfl,rfl,rfl,rfl⟩:=h
  go_wp2
  refine bodyPost_ret (iU rfl _ _ gr 29 #[.int .i64 0,.slice none 0 0,.slice none 0 0,.int .i64 0,.slice none 0 0] (0,0) _ rfl (pb BR) hu rfl (by kernel_rfl)) rfl ?_;exact⟨_,_,_,er,Kd.be _ _ _ _ _,Kd.be _ _ _ _ _,Kd.be _ _ _ _ _,aM HB Ggr⟩
 case true=>
  simp only[if_true]at h;obtain⟨⟨t0,t1,t2⟩,ht,h⟩:=Option.bind_eq_some_iff.mp h;simp only[Option.some.injEq,Prod.mk.injEq]at h;obtain⟨rfl,rfl,rfl,rfl,rfl,rfl⟩:=h;have HT:=Ah ht;clear ht
  go_wp2_with (first|(go_at_call 41;(with_reducible refine(xw.calls a0 (fun _=>False) (.slice none 0 0) [] t0 t1 t2 w _ (bs HB) (Kd.be _ _ _ _ _) HT.out).mono ?_);rintro e w3 ⟨u1,u2,rfl,h1,h2,hb,hk⟩;obtain⟨J1,fi,e1⟩:=Kd.az h1;subst e1;obtain⟨J2,fj,e2⟩:=Kd.az h2;subst e2;have O1:=Ah h1;have O2:=Ah h2;replace HB:=Ah hb;replace BR:=Ah ((hk.2 gr (Array.getElem?_eq_some_iff.mp BR.out).1 (fun h=>h)).trans BR.out);clear hb h1 h2 hk yw yx yy yz z6 z7 z8 zA zB zC;obtain⟨yw,yx,yy,yz,z6⟩:=aj BR;obtain⟨z7,z8,zA,zB,zC⟩:=ai BR))
  refine bodyPost_ret (iU rfl _ _ gr 29 #[.int .i64 t0,.slice J1 t1.length fi,.slice J2 t2.length fj,.int .i64 1,.slice none 0 0] (0,0) _ rfl (pb BR) hu rfl (by kernel_rfl)) rfl ?_;exact⟨_,_,_,er,Kd.ax (rf O1 BR) (fun _ h=>h.2),Kd.ax (rf O2 BR) (fun _ h=>h.2),Kd.be _ _ _ _ _,aM HB Ggr⟩
end Go.Proofs.Ytfeokehfhaimkaa.G
