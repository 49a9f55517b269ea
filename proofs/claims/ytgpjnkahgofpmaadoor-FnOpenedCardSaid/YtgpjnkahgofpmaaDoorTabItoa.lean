/- strconv.Itoa by the library's shelf: its contract at this program, and the table that it reads, kept over time. No statement. -/
import Derived.Test.YtgpjnkahgofpmaaDoorItoaLay
import Derived.Test.YtgpjnkahgofpmaaDoorWWords
import Derived.Lib.SmallJoins
namespace Go.Proofs.YtgpjnkahgofpmaaDoor.Ito
open Go.RowKit
def lz(w:World):Prop:=Lib.TabIs Tryd.prog w "internal/strconv.uint64pow10" .u64 Lib.pow10Tab
theorem ea {w W:World}(h:lz w)(hb:Below w.heap.size w W):lz W:=by
 unfold lz Lib.TabIs at h⊢
 obtain⟨g,hg⟩:∃g,Tryd.prog.globalNamed "internal/strconv.uint64pow10" =some g:=by
  cases e:Tryd.prog.globalNamed "internal/strconv.uint64pow10" with
  |some g=>exact⟨g,rfl⟩
  |none=>unfold World.var? at h;rw[e]at h;cases h
 exact Joins.var_stays hg h hb (Nat.le_refl _)
theorem Wr(n:Int)(h0: -9223372036854775808≤n)(h1:n≤9223372036854775807)(w:World)(hT:lz w):
 Calls Tryd.prog 36 #[.int .i64 n] w fun e w'=>e= .returned (.string ⟨(Lib.itoa n).toArray⟩)∧Below w.heap.size w w':=by
 refine(Any.strconv_Itoa a06 n h0 h1 w hT).mono ?_;rintro e w' ⟨rfl,k,os,rfl⟩;refine⟨rfl,⟨rfl,rfl,rfl, ?_,fun j hj=> ?_⟩⟩
 ·simp[Sort.grow,World.drewN]
 ·simp only[Sort.grow,World.drewN]
  rw[Array.getElem?_append_left hj]
end Go.Proofs.YtgpjnkahgofpmaaDoor.Ito
