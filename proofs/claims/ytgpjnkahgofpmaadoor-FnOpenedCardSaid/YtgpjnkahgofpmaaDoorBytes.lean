/- '[]byte(s)': a row of a string's bytes, for the printed walks: it is only read. No program, no statement. -/
import Derived.Test.YtgpjnkahgofpmaaDoorWWords
import Derived.Lib.ConvBytes
import Derived.Laws.AppendOwn
open Go.Lib renaming bytesWorld→abv
namespace Go.Proofs.YtgpjnkahgofpmaaDoorW.PrintWords
open Go.RowKit
set_option linter.unusedVariables false
section
variable {P : Program} {ops : Array Oper} {rest : List Oper} {o : Oper} {a : Act} {Q : Exit → Act → World → Prop} {Kc : Act → World → Prop}
theorem NY(w:World)(e:TypeId)(s:ByteArray):Below w.heap.size w (abv w e s):=
 ⟨by simp[abv,World.freeze,World.alloc,World.drew,-World.alloc_eq,-World.drew_eq],by simp[abv,World.freeze,World.alloc,World.drew,-World.alloc_eq,-World.drew_eq],by simp[abv,World.freeze,World.alloc,World.drew,-World.alloc_eq,-World.drew_eq],by rw[Lib.bytesWorld_size];omega,fun k hk=>Lib.bytesWorld_at_old w e s k hk⟩
theorem Nh(w:World)(e:TypeId)(s:ByteArray)(hl:s.size<140737488355328):Kd.C (Kd.int .u8) (Lib.bytesWorld w e s) (some ⟨w.heap.size,0,none⟩) (gY s).length (gY s):=by
 have hb:=u6 s;refine Kd.Wx (d:=0) ⟨rfl,by omega,fun _=>⟨_,rfl,fun j hj=> ?_⟩⟩;rw[show(⟨w.heap.size,0,none⟩:Addr).add j=⟨w.heap.size,j,none⟩ by rw[xX,Nat.zero_add],Lib.bytesWorld_cell w e s j (by omega)]
 congr 2
 simp only[gY,List.getD_eq_getElem?_getD,List.getElem?_map]
 cases s.data.toList[j]?<;>rfl
theorem bytes_event {W:World}{N:Tmp}(hgd:o.guard=none)(_hd:o.dst=some N)(src dst e:TypeId)(x:Operand)(ho:o.op= .convert src dst x){u:TypeDesc}(hs:P.underlying src=some u)(hdt:P.underlying dst=some (.slice e))(he:P.underlying e=some (.int .u8))
 (s:ByteArray)(hx:a.eval x= .string s)(hl:s.size<140737488355328)
 (h:∀ad c w1,Kd.C (Kd.int .u8) w1 (some ad) (gY s).length (gY s)→(gY s).length≤c→Below W.heap.size W w1→wpList P ops Q rest (a.put o.dst (.slice (some ad) (gY s).length c)) w1):wpList P ops Q (o::rest) a W:=by
 have hrun:(execOp a.eval o).run P W= .ok (.value (.slice (some ⟨W.heap.size,0,none⟩) (gY s).length (grownCap W s.size 0 e))) (abv W e s):=by
  unfold execOp;simp only[ho,hx,Sem.run_bind,Lib.run_convert_string_bytes W src dst e s hs hdt he,Result.andThen_ok,Sem.run_pure,u6]
 exact Kd.Ia hgd hrun (h _ _ _ (Nh W e s hl) (by rw[u6];exact grownCap_ge _ _ _ _) (NY W e s))
theorem Wz {W:World}{N:Tmp}(hw:Region.wanted o (yielded ops a.tmps)=true)(_hd:o.dst=some N)(src dst e:TypeId)(x:Operand)(ho:o.op= .convert src dst x){u:TypeDesc}(hs:P.underlying src=some u)(hdt:P.underlying dst=some (.slice e))(he:P.underlying e=some (.int .u8))
 (s:ByteArray)(hx:a.eval x= .string s)(hl:s.size<140737488355328)
 (h:∀ad c w1,Kd.C (Kd.int .u8) w1 (some ad) (gY s).length (gY s)→(gY s).length≤c→Below W.heap.size W w1→Kc (a.put o.dst (.slice (some ad) (gY s).length c)) w1):if Region.wanted o (yielded ops a.tmps)=true then Oper.wp P o a W Kc Q else Kc (a.put o.dst undef) W:=by
 have hrun:(execOp a.eval o).run P W= .ok (.value (.slice (some ⟨W.heap.size,0,none⟩) (gY s).length (grownCap W s.size 0 e))) (abv W e s):=by
  unfold execOp;simp only[ho,hx,Sem.run_bind,Lib.run_convert_string_bytes W src dst e s hs hdt he,Result.andThen_ok,Sem.run_pure,u6]
 exact IV hw hrun (h _ _ _ (Nh W e s hl) (by rw[u6];exact grownCap_ge _ _ _ _) (NY W e s))
end
end Go.Proofs.YtgpjnkahgofpmaaDoorW.PrintWords
