/-
  unicode/utf8.ValidString at this seat (the laying by the shelf's own program, in plain words).
  Conditions: utf8's two tables as the program lays them.
-/
import Derived.Shelf.Unicode.ValidAny
import Derived.Test.YtemepnpfhoidhaaDoorPolicyBase
namespace Go.Proofs
open Go.Shelf
def Tryd.lValid_ren : Go.Shelf.Ren := ⟨fun | 196 => 28 | 259 => 52 | n => n, fun | 9 => 9 | 4 => 4 | 3 => 3 | 5 => 5 | 12 => 12 | 119 => 84 | 0 => 0 | 46 => 55 | 139 => 87 | 138 => 86 | 53 => 22 | n => n, fun | 3 => 0 | 4 => 1 | n => n⟩
theorem Tryd.lValid : Go.Proofs.Lays.n196 Tryd.prog Tryd.lValid_ren := {
  mixed := by kernel_rfl
  f196 := Tryd.func28.trans (congrArg some (by kernel_rfl))
  f259 := Tryd.func52.trans (congrArg some (by kernel_rfl))
  t0 := Tryd.underlying0
  a0 := Tryd.isAgg0
  z0 := Tryd.sizeOf0
  v0 := Tryd.zeroValue0
  t3 := Tryd.underlying3
  a3 := Tryd.isAgg3
  z3 := Tryd.sizeOf3
  v3 := Tryd.zeroValue3
  t4 := Tryd.underlying4
  a4 := Tryd.isAgg4
  z4 := Tryd.sizeOf4
  v4 := Tryd.zeroValue4
  t5 := Tryd.underlying5
  a5 := Tryd.isAgg5
  z5 := Tryd.sizeOf5
  v5 := Tryd.zeroValue5
  t9 := Tryd.underlying9
  a9 := Tryd.isAgg9
  z9 := Tryd.sizeOf9
  v9 := Tryd.zeroValue9
  t12 := Tryd.underlying12
  a12 := Tryd.isAgg12
  z12 := Tryd.sizeOf12
  v12 := Tryd.zeroValue12
  t46 := Tryd.underlying55
  a46 := Tryd.isAgg55
  z46 := Tryd.sizeOf55
  v46 := Tryd.zeroValue55
  t53 := Tryd.underlying22
  a53 := Tryd.isAgg22
  z53 := Tryd.sizeOf22
  v53 := Tryd.zeroValue22
  t119 := Tryd.underlying84
  a119 := Tryd.isAgg84
  z119 := Tryd.sizeOf84
  t138 := Tryd.underlying86
  a138 := Tryd.isAgg86
  z138 := Tryd.sizeOf86
  v138 := Tryd.zeroValue86
  t139 := Tryd.underlying87
  a139 := Tryd.isAgg87
  z139 := Tryd.sizeOf87
  v139 := Tryd.zeroValue87
  g3 := by kernel_rfl
  g4 := by kernel_rfl }
end Go.Proofs
namespace Go.Proofs.YtemepnpfhoidhaaDoor.PAll
open Go.RowKit Go.Lib Go.Proofs.YtemepnpfhoidhaaDoorW.PrintWords
/-- utf8's two tables. -/
def U8 (w : World) : Prop := Utf8Tabs (Tryd.lValid_ren.g 3) (Tryd.lValid_ren.g 4) w
theorem U8.below {w w' : World} (h : U8 w) (hb : Below w.heap.size w w') : U8 w' := by
  obtain ⟨h1, h2⟩ := h
  refine ⟨fun c hc => ?_, fun i hi => ?_⟩
  · exact (hb.cell (World.block_lt_of_cell? _ _ (h1 c hc))).trans (h1 c hc)
  · exact ⟨(hb.cell (World.block_lt_of_cell? _ _ (h2 i hi).1)).trans (h2 i hi).1, (hb.cell (World.block_lt_of_cell? _ _ (h2 i hi).2)).trans (h2 i hi).2⟩
theorem valid_calls (s : ByteArray) (w : World) (hs : s.size ≤ 1000) (hT : U8 w) :
    Calls Tryd.prog 28 #[.string s] w fun e w' => e = .returned (.bool (validD s.data.toList)) ∧ Below w.heap.size w w' := Any.utf8_ValidString Tryd.lValid s w (by omega) hT
end Go.Proofs.YtemepnpfhoidhaaDoor.PAll
