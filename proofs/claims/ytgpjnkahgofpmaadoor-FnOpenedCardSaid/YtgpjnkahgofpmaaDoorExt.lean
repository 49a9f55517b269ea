/- Two words more for the printed walks: a string's bytes appended as one step of a region that draws its order. No program, no statement. -/
import Derived.Test.YtgpjnkahgofpmaaDoorWWords
import Derived.Lib.SliceRun
import Derived.Lib.AppendStr
namespace Go.Proofs.YtgpjnkahgofpmaaDoorW.PrintWords
open Go.RowKit
set_option linter.unusedVariables false
section
variable {P : Program} {ops : Array Oper} {o : Oper} {a : Act} {Q : Exit → Act → World → Prop} {K : Act → World → Prop}
theorem print_append_str_step {w0 W:World}(base:Nat)(hw:Region.wanted o (yielded ops a.tmps)=true)(s x:Operand)(t u e:TypeId)
 (ho:o.op= .call {callee:= .builtin .append,args:= #[s,x],argTypes:= #[t,u]})
 (ht:P.underlying t=some (.slice e))(hu:P.underlying u=some .string)(hinfo:(P.info? e).map (fun i=>(i.zero,i.size,i.bytes))=some (some (.int .u8 0),1,1))
 (v:Value)(xs:List Int)(y:ByteArray)(hs:a.eval s=v)(hx:a.eval x= .string y)
 (HO:W.ownsRow base e 1 v xs.length (nQ .u8 xs))(HB:Below base w0 W)(hbase:base≤W.heap.size)(hl:xs.length+y.size≤140737488355328)
 (h:∀v1 w1,w1.ownsRow base e 1 v1 (xs++gY y).length (nQ .u8 (xs++gY y))→Below base w0 w1→W.grownBy w1 v.ownBlock→K (a.put o.dst v1) w1):
 if Region.wanted o (yielded ops a.tmps)=true then Oper.wp P o a W K Q else K (a.put o.dst undef) W:=by
 obtain⟨i0,hi,hzz⟩:=Option.map_eq_some_iff.1 hinfo;simp only[Prod.mk.injEq]at hzz;obtain⟨hz0,hz1,hz2⟩:=hzz;rw[if_pos hw];obtain⟨v1,w1,hr,hown,hg,_⟩:=Lib.run_append_own_string (P:=P) W base t u o.type e i0 ht hu hi hz0 hz1 hz2 v xs.length (nQ .u8 xs) HO y (by simp only[maxLen];omega) hl hbase;unfold Oper.wp execOp;simp only[ho,resolve,invoke,builtin,Sem.run_bind,Sem.run_pure,Result.andThen_ok,List.map_toArray,List.map_cons,List.map_nil,hs,hx,hr]
 have hl2:(xs++gY y).length=xs.length+y.size:=by rw[List.length_append,u6]
 have hc:nQ .u8 (xs++gY y)=nQ .u8 xs++Lib.strCells y:=by
  rw[Wn]
  congr 1
  simp[nQ,gY,Lib.strCells]
 exact h v1 w1 (by rw[hl2,hc];exact hown) (HB.grown hg hbase (ws HO)) hg
end
end Go.Proofs.YtgpjnkahgofpmaaDoorW.PrintWords
