/- The statement FnOpenedSaid: the law FnOpened returns true for every input and leaves its arguments as they were. The listed tables lie as the text lays them. Printed by a program of this session out of the walk (YtgpjnkahgofpmaaDoorG*.lean) and the plain law (YtgpjnkahgofpmaaDoorQFnOpened.lean). -/
import Derived.Test.YtgpjnkahgofpmaaDoorRows
import Derived.Test.YtgpjnkahgofpmaaDoorCardLaid
import Derived.Test.YtgpjnkahgofpmaaDoorGO
import Derived.Test.YtgpjnkahgofpmaaDoorG7
import Derived.Test.YtgpjnkahgofpmaaDoorQFnOpened
import Derived.WalkKit
import Derived.ProofKit
import Derived.OpenShut
import Derived.ShutString
import Derived.ChangeOld
import Derived.Below
import Derived.SizedLaws
open Go.OpenSpec renaming ofChange→abr
open Go.Proofs.Tryd renaming prog→aaf,underlying22→aaS,underlying5→aa5,f3→abQ
namespace Go.Proofs.YtgpjnkahgofpmaaDoor.fnOpened
open Go.ChangeShapes Go.WideShapes Go.ChangeAt Go.RowKit Go.Proofs.YtgpjnkahgofpmaaDoor.lg Go.Proofs.YtgpjnkahgofpmaaDoor.G Go.Proofs.YtgpjnkahgofpmaaDoorW.PrintWords
open Go.ChangeMaps (open_string shut_string)
set_option linter.unusedVariables false
theorem own:ownKnob aaf.godebug=none:=by kernel_rfl
theorem laidOut:laidOutB aaf=true:=by kernel_rfl
def CZ:Array Value:= #[.slice none 0 0,.slice none 0 0]
theorem Wm(os:Os){H:Type}(enc:TypeId×Value→H):
 (abr Rows.fnOpenedSpec).preRow enc aaf abQ Rows.fnOpenedRow.domain false Rows.fnOpenedRow.laid ((Laid.Fs os).forCall (fun _ _=>0) ⟨#[],CZ,[]⟩).memory CZ:=by
 have hw:(DataW.whole enc aaf ((Laid.Fs os).forCall (fun _ _=>0) ⟨#[],CZ,[]⟩).memory abQ.params.toList (abr Rows.fnOpenedSpec).vars false CZ.toList 8).map (fun x=>(x.1,x.2.1))=
  some ([.nil,.nil],[]):=by kernel_rfl
 obtain⟨⟨x1,x2,x3⟩,hx,hx1⟩:=Option.map_eq_some_iff.1 hw
 simp only[Prod.mk.injEq]at hx1
 obtain⟨rfl,rfl⟩:=hx1
 exact OpenSpec.preRow_of_cond 8 hx (by kernel_rfl) (fun k hk=>by cases hk) (by kernel_rfl) (Laid.Xs os _)
set_option maxRecDepth 100000 in
theorem a05(os:Os)(started:os.Started)(H:Type)(enc:TypeId×Value→H)(F:Stop.Interp):
 ReturnsInHanded {} Tryd.checked os 3 .any ((abr Rows.fnOpenedSpec).preRow enc aaf abQ Rows.fnOpenedRow.domain false Rows.fnOpenedRow.laid) (((abr Rows.fnOpenedSpec).at F).post enc aaf abQ false true false false):=by
 refine returnsInHanded_of_row (C:=Tryd.checked) (s:=(abr Rows.fnOpenedSpec)) own started (by kernel_rfl) Tryd.func3
  (witness_row_at (enc:=enc) (C:=Tryd.checked) false (Laid.Fs os) CZ rfl (by kernel_rfl) (by kernel_rfl) (by kernel_rfl) (Wm os enc)) ?_
 intro W base args ds gs before hval0 hW hcnd _ hsz0 hL _ _
 have hval:∀ (j:Nat) t v,abQ.params[j]?=some t→args[j]?=some v→Value.okWide aaf W .any base t v:=hval0
 have hW':=hW
 obtain⟨p,q,hA0,hV,rfl,hfz,hnd⟩:=hW
 have hA:DataW.TrodAll enc aaf W 0 (fun _=>true) true abQ.params.toList args.toList ds p:=hA0
 rw[Tryd.params3]at hA hval
 obtain⟨v0,vs0,d0,ds0,p0,q0,hargs,rfl,rfl,h0,r0⟩:=trodAll_cons hA
 obtain⟨v1,vs1,d1,ds1,p1,q1,rfl,rfl,rfl,h1,r1⟩:=trodAll_cons r0
 obtain⟨rfl,rfl,rfl⟩:=trodAll_nil r1
 obtain rfl:args= #[v0,v1]:=by cases args;simp_all
 obtain⟨rfl,rfl⟩:=trodVars_none hV
 have k0:=h0
 have lt0:∀x∈p0,x.block<W.heap.size:=by obtain⟨m,hm⟩:=k0;exact DataW.trod_lt m _ _ _ hm
 obtain⟨a0,a4W,cap0,rfl⟩:=okWide_slice aaS (hval 0 22 v0 rfl rfl)
 obtain⟨l0,hk0,ho0⟩:=Nx (Nm aaS (by kernel_rfl) (Ny aa5)) h0
 obtain⟨A0,c0,he0,hc0,hr0⟩:=hk0
 obtain⟨rfl,rfl,rfl⟩:a0=A0∧a4W=l0.length∧cap0=c0:=by simpa[Value.cells]using he0
 have k1:=h1
 have lt1:∀x∈p1,x.block<W.heap.size:=by obtain⟨m,hm⟩:=k1;exact DataW.trod_lt m _ _ _ hm
 obtain⟨a1,a4X,TX,rfl⟩:=okWide_slice aaS (hval 1 22 v1 rfl rfl)
 obtain⟨l1,hk1,ho1⟩:=Nx (Nm aaS (by kernel_rfl) (Ny aa5)) h1
 obtain⟨A1,c1,he1,hc1,hr1⟩:=hk1
 obtain⟨rfl,rfl,rfl⟩:a1=A1∧a4X=l1.length∧TX=c1:=by simpa[Value.cells]using he1
 clear hA0 hval0 hsz0
 obtain⟨k,hq⟩:=Q.FnOpened l0 l1 ho0 ho1
 refine(bi.calls (k:=k) (A0:=a0) (c0:=cap0) (l0:=l0) (hr0:=hr0) (hc0:=hc0) (A1:=a1) (c1:=TX) (l1:=l1) (hr1:=hr1) (hc1:=hc1) (r:=true) (w:=W) (df:=Z.mk (Laid.YW hL)) (h:=hq)).mono fun e W' hp=> ?_
 obtain⟨rfl,a4Y⟩:=hp
 have bel:Below W.heap.size W W':=a4Y
 exact⟨_,rfl,_,_,_,[],_,[],hW',trodAll_mk1 (shut_bool Tryd.underlying4 _),(trodAll_cons_mk (Below.trod laidOut (by kernel_rfl) (of_decide_eq_true (by kernel_rfl)) k0 bel lt0) (trodAll_cons_mk (Below.trod laidOut (by kernel_rfl) (of_decide_eq_true (by kernel_rfl)) k1 bel lt1) trodAll_mk0)),rfl,bel.frame _,fun h=>by cases h⟩
theorem over:Rows.fnOpenedRow.holds Tryd.pinned (abr Rows.fnOpenedSpec):=
 OpenClaim.holds_of_cond 3 abQ rfl rfl rfl rfl rfl rfl rfl ⟨rfl,rfl,rfl,rfl,rfl⟩ rfl rfl rfl rfl rfl (by kernel_rfl) Tryd.func3 (by kernel_rfl)
  (of_decide_eq_true (by kernel_rfl)) (by unfold Func.isWrapper;first|(rw[if_pos (by decide+kernel)];kernel_rfl)|(rw[if_neg (by decide+kernel)];exact⟨rfl,rfl⟩))
  (fun os started H enc _ F0=>by rw[OpenClaim.pre_eq_preRow];exact a05 os started H enc F0)
theorem proved:Rows.FnOpenedSaid:=over
#print axioms proved
end Go.Proofs.YtgpjnkahgofpmaaDoor.fnOpened
namespace Go.Proofs.YtgpjnkahgofpmaaDoor
/-- The row, under a short name, for the claim. -/
theorem WX:Rows.FnOpenedSaid:=fnOpened.proved
end Go.Proofs.YtgpjnkahgofpmaaDoor
