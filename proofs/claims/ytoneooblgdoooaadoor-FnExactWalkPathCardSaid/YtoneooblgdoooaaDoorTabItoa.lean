/- strings.Split by the library's shelf: its contract at this program, and the variable that it reads (internal/bytealg.MaxLen: some int), kept over time. No statement. -/
import Derived.Test.YtoneooblgdoooaaDoorSplLay
import Derived.Test.YtoneooblgdoooaaDoorWWords
import Derived.Shelf.Strings.SplitShaped
namespace Go.Proofs.YtoneooblgdoooaaDoor.Ito
open Go.RowKit Go.Shelf Go.Proofs.YtoneooblgdoooaaDoorW.PrintWords
/-- The variable holds some int. -/
def TabW (w : World) : Prop := ∃ m : Int, w.cell? ⟨0, 0, none⟩ = some (.int .i64 m)
theorem tabB {w W : World} (h : TabW w) (hb : Below w.heap.size w W) : TabW W := by
  obtain ⟨m, hm⟩ := h
  exact ⟨m, (hb.cell (World.block_lt_of_cell? _ _ hm)).trans hm⟩
theorem tab_of_shaped {w : World} (h : w.ShapedOpen Tryd.prog) : TabW w := Spl.splEx.s1_3 w h
theorem split_calls (s sep : ByteArray) (hs : s.size < 4294967281) (h1 : 1 ≤ sep.size) (w : World) (hT : TabW w) :
    Calls Tryd.prog 30 #[.string s, .string sep] w fun e w' => ∃ v0_ : Value, e = .returned v0_ ∧ Kd.R Kd.string 9 w' w.heap.size (fun _ => True) v0_ (Lib.splitB sep 0 (Lib.countB s sep) s) ∧ Below w.heap.size w w' := by
  obtain ⟨m, hm⟩ := hT
  have hle := Lib.countB_le sep h1 s.size s (Nat.le_refl _)
  have hlen := Lib.splitB_all sep h1 0 _ s rfl
  refine (Any.strings_Split { Spl.splEx with } Spl.splEx.i9 s sep m w hs hm h1).mono ?_
  rintro e w' ⟨rfl, rfl⟩
  refine ⟨_, rfl, ?_, ?_⟩
  · refine Kd.R_of_own ⟨by simp [encs], .inr ⟨w.heap.size, Lib.countB s sep + 1, ((Lib.splitB sep 0 (Lib.countB s sep) s).map Value.string).toArray, by rw [hlen], Nat.le_refl _, ?_, by omega, ?_, ?_, ?_⟩⟩ (fun _ _ => trivial)
    · exact heap_alloc_new w _
    · unfold maxLen; omega
    · simp [hlen]
    · rw [Nat.mul_one, List.toList_toArray, List.take_of_length_le (by simp)]; rfl
  · exact below_alloc (Below.refl _ _) _
end Go.Proofs.YtoneooblgdoooaaDoor.Ito
