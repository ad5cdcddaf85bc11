/-
  unicode/utf8.ValidString at this seat (the laying by the shelf's own program, in plain words).
  Conditions: utf8's two tables as the program lays them.
-/
import Derived.Shelf.Unicode.ValidAny
import Derived.Test.YtemepnpfhoidhaaGreatDoorPolicyBase
namespace Go.Proofs.YtemepnpfhoidhaaGreatDoor.PAll
open Go.RowKit Go.Lib Go.Proofs.YtemepnpfhoidhaaGreatDoorW.PrintWords
/-- utf8's two tables. -/
def U8 (w : World) : Prop := Utf8Tabs (Tryz.lValid_ren.g 3) (Tryz.lValid_ren.g 4) w
theorem U8.below {w w' : World} (h : U8 w) (hb : Below w.heap.size w w') : U8 w' := by
  obtain ⟨h1, h2⟩ := h
  refine ⟨fun c hc => ?_, fun i hi => ?_⟩
  · exact (hb.cell (World.block_lt_of_cell? _ _ (h1 c hc))).trans (h1 c hc)
  · exact ⟨(hb.cell (World.block_lt_of_cell? _ _ (h2 i hi).1)).trans (h2 i hi).1, (hb.cell (World.block_lt_of_cell? _ _ (h2 i hi).2)).trans (h2 i hi).2⟩
theorem valid_calls (s : ByteArray) (w : World) (hs : s.size ≤ 1000) (hT : U8 w) :
    Calls Tryz.prog 67 #[.string s] w fun e w' => e = .returned (.bool (validD s.data.toList)) ∧ Below w.heap.size w w' := Any.utf8_ValidString Tryz.lValid s w (by omega) hT
end Go.Proofs.YtemepnpfhoidhaaGreatDoor.PAll
