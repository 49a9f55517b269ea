/- The statement FnPunchedSaid: the law FnPunched returns true for every input and leaves its arguments as they were. No condition. Printed by a program of this session out of the walk (YtjojdplkgekagaaG*.lean) and the plain law (YtjojdplkgekagaaQFnPunched.lean). -/
import Derived.Test.YtjojdplkgekagaaRows
import Derived.Test.YtjojdplkgekagaaGO
import Derived.Test.YtjojdplkgekagaaG9
import Derived.Test.YtjojdplkgekagaaQFnPunched
import Derived.WalkKit
import Derived.ProofKit
import Derived.OpenShut
import Derived.ShutString
import Derived.ChangeOld
import Derived.Below
import Derived.SizedLaws
open Go.Proofs.Try renaming prog→aad,underlying22→abL
namespace Go.Proofs.Ytjojdplkgekagaa.fnPunched
open Go.ChangeShapes Go.WideShapes Go.ChangeAt Go.RowKit Go.Proofs.Ytjojdplkgekagaa.oF Go.Proofs.Ytjojdplkgekagaa.G Go.Proofs.YtjojdplkgekagaaW.PrintWords
open Go.ChangeMaps (open_string shut_string)
set_option linter.unusedVariables false
theorem own:ownKnob aad.godebug=none:=by kernel_rfl
theorem laidOut:laidOutB aad=true:=by kernel_rfl
set_option maxRecDepth 100000 in
theorem lifted(os:Os)(started:os.Started)(H:Type)(enc:TypeId×Value→H):
 ReturnsInHanded {} Try.checked os 3 .any (Rows.fnPunchedSpec.pre6 enc aad Try.f3 Rows.fnPunchedRow.domain false) (Rows.fnPunchedSpec.post enc aad Try.f3 false true false false):=by
 refine returnsInHanded_of_change_sized (C:=Try.checked) own started (by kernel_rfl) Try.func3
  (ChangeSpec.witness6 (enc:=enc) (C:=Try.checked) false ⟨#[],#[.slice none 0 0,.slice none 0 0],[]⟩ 8 (by kernel_rfl) (by kernel_rfl) (by kernel_rfl) (by kernel_rfl)) ?_
 intro W base args ds gs before hval0 hW hcnd hsz0 _
 have hval:∀ (j:Nat) t v,Try.f3.params[j]?=some t→args[j]?=some v→Value.okWide aad W .any base t v:=hval0
 have hW':=hW
 obtain⟨p,q,hA0,hV,rfl,hfz,hnd⟩:=hW
 have hA:DataW.TrodAll enc aad W 0 (fun _=>true) true Try.f3.params.toList args.toList ds p:=hA0
 rw[Try.params3]at hA hval
 obtain⟨v0,vs0,d0,ds0,p0,q0,hargs,rfl,rfl,h0,r0⟩:=trodAll_cons hA
 obtain⟨v1,vs1,d1,ds1,p1,q1,rfl,rfl,rfl,h1,r1⟩:=trodAll_cons r0
 obtain⟨rfl,rfl,rfl⟩:=trodAll_nil r1
 obtain rfl:args= #[v0,v1]:=by cases args;simp_all
 obtain⟨rfl,rfl⟩:=trodVars_none hV
 have k0:=h0
 have lt0:∀x∈p0,x.block<W.heap.size:=by obtain⟨m,hm⟩:=k0;exact DataW.trod_lt m _ _ _ hm
 obtain⟨a0,len0,cap0,rfl⟩:=okWide_slice abL (hval 0 22 v0 rfl rfl)
 obtain⟨l0,hk0,ho0⟩:=XU (XF abL (by kernel_rfl) (XV Try.underlying5)) h0
 obtain⟨A0,c0,he0,hc0,hr0⟩:=hk0
 obtain⟨rfl,rfl,rfl⟩:a0=A0∧len0=l0.length∧cap0=c0:=by simpa[Value.cells]using he0
 have k1:=h1
 have lt1:∀x∈p1,x.block<W.heap.size:=by obtain⟨m,hm⟩:=k1;exact DataW.trod_lt m _ _ _ hm
 obtain⟨a1,len1,a3z,rfl⟩:=okWide_slice abL (hval 1 22 v1 rfl rfl)
 obtain⟨l1,hk1,ho1⟩:=XU (XF abL (by kernel_rfl) (XV Try.underlying5)) h1
 obtain⟨A1,c1,he1,hc1,hr1⟩:=hk1
 obtain⟨rfl,rfl,rfl⟩:a1=A1∧len1=l1.length∧a3z=c1:=by simpa[Value.cells]using he1
 clear hA0 hval0 hsz0
 obtain⟨k,hq⟩:=Q.FnPunched l0 l1 ho0 ho1
 refine(b8.calls (k:=k) (A0:=a0) (c0:=cap0) (l0:=l0) (hr0:=hr0) (hc0:=hc0) (A1:=a1) (c1:=a3z) (l1:=l1) (hr1:=hr1) (hc1:=hc1) (r:=true) (w:=W) (h:=hq)).mono fun e W' hp=> ?_
 obtain⟨rfl,bel0⟩:=hp
 have bel:Below W.heap.size W W':=bel0
 exact⟨_,rfl,_,_,_,[],_,[],hW',trodAll_mk1 (shut_bool Try.underlying4 _),(trodAll_cons_mk (Below.trod laidOut (by kernel_rfl) (of_decide_eq_true (by kernel_rfl)) k0 bel lt0) (trodAll_cons_mk (Below.trod laidOut (by kernel_rfl) (of_decide_eq_true (by kernel_rfl)) k1 bel lt1) trodAll_mk0)),rfl,bel.frame _,fun h=>by cases h⟩
theorem over:Rows.fnPunchedRow.holds Try.pinned (OpenSpec.ofChange Rows.fnPunchedSpec):=
 OpenClaim.holds_of_wide 3 Try.f3 rfl rfl rfl rfl rfl rfl rfl ⟨rfl,rfl,rfl,rfl,rfl⟩ rfl rfl rfl rfl rfl (by kernel_rfl) Try.func3 (by kernel_rfl)
  (of_decide_eq_true (by kernel_rfl)) (by unfold Func.isWrapper;first|(rw[if_pos (by decide+kernel)];kernel_rfl)|(rw[if_neg (by decide+kernel)];exact⟨rfl,rfl⟩))
  (fun os started H enc _=>lifted os started H enc)
theorem proved:Rows.FnPunchedSaid:=over
#print axioms proved
end Go.Proofs.Ytjojdplkgekagaa.fnPunched
namespace Go.Proofs.Ytjojdplkgekagaa
/-- The row, under a short name, for the claim. -/
theorem fnPunched_holds:Rows.FnPunchedSaid:=fnPunched.proved
end Go.Proofs.Ytjojdplkgekagaa
