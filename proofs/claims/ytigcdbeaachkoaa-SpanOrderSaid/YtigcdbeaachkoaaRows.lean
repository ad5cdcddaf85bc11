/-
  No cell of these rows narrows 'for every input' (looked for: loops, veiled, ifaces, maps, wideKeys, modest, calm, conditions, laid).
  DERIVED. THE GIVEN ROWS OF THIS SEAT. 9 by the template 'for every input the law returns true; each argument reads behind the call as it read before'; 0 by the template 'total and deterministic' (their statements: YtigcdbeaachkoaaTotals.lean).
  GIVEN WITH THE SEED: the statements are not yours to turn. If you find one false, say at which input.
  Laid BY PROGRAM, IN A SANDBOX (cutbox-rows.mjs): the forced cells as the released guide's own fill.sh prints them over the translation 9e4252f6a977bec3… (all of the seat's roots in one cut). By AI agents, Wed Nov 11 2026. No macro, syntax, notation, axiom, sorry.
-/
import Derived.Test.YtigcdbeaachkoaaChecked
import GoSem.Claim
import GoSem.ClaimJoined
import GoSem.ClaimMapViews
import Derived.JoinedTies
import Derived.KernelRfl
namespace Go.Proofs.Ytigcdbeaachkoaa
/- THE CELL 'sum', in the pinned program and in every row, IS THE sha256 OF THE DUMP (.gsa) THAT YtigcdbeaachkoaaProg.lean LOADS. Nothing in Lean hashes anything: it is a label: what it is worth is what the hold of that sum in a sandbox is worth. -/
noncomputable def Try.pinned : Pinned := { name := "ytigcdbeaachkoaa", sum := "9e4252f6a977bec3bca1b3b4e087e5c2091899244cf440d02e4996f143e6c01b", checked := Try.checked }
namespace Rows
def none {H : Type} : Left H := { results := [], args := [] }

/-- 'winnowlaw03.SpanNames': WHATEVER THE INPUT: true; the input reads as it did. -/
def spanNamesSpec : ChangeSpec := { name := "spanNames", fn := fun _ => fun
  | [d] => { results := [.lit (.bool true)], args := [d] }
  | _ => none }
def spanNamesRow : OpenClaim := { program := "ytigcdbeaachkoaa", sum := "9e4252f6a977bec3bca1b3b4e087e5c2091899244cf440d02e4996f143e6c01b", func := "winnow/winnowlaw03.SpanNames", spec := "spanNames", apart := false }
def SpanNamesSaid : Prop := spanNamesRow.holds Try.pinned (OpenSpec.ofChange spanNamesSpec)

/-- ITS FALSE NEIGHBOUR: 'it returns false'. Refute it at one input. -/
def spanNamesWrong : ChangeSpec := { name := "spanNames", fn := fun _ => fun
  | [d] => { results := [.lit (.bool false)], args := [d] }
  | _ => none }
def SpanNamesWrongFalsely : Prop := spanNamesRow.holds Try.pinned (OpenSpec.ofChange spanNamesWrong)

/-- 'winnowlaw03.SpanRight': WHATEVER THE INPUT: true; the input reads as it did. -/
def spanRightSpec : ChangeSpec := { name := "spanRight", fn := fun _ => fun
  | [d] => { results := [.lit (.bool true)], args := [d] }
  | _ => none }
def spanRightRow : OpenClaim := { program := "ytigcdbeaachkoaa", sum := "9e4252f6a977bec3bca1b3b4e087e5c2091899244cf440d02e4996f143e6c01b", func := "winnow/winnowlaw03.SpanRight", spec := "spanRight", apart := false }
def SpanRightSaid : Prop := spanRightRow.holds Try.pinned (OpenSpec.ofChange spanRightSpec)

/-- ITS FALSE NEIGHBOUR: 'it returns false'. Refute it at one input. -/
def spanRightWrong : ChangeSpec := { name := "spanRight", fn := fun _ => fun
  | [d] => { results := [.lit (.bool false)], args := [d] }
  | _ => none }
def SpanRightWrongFalsely : Prop := spanRightRow.holds Try.pinned (OpenSpec.ofChange spanRightWrong)

/-- 'winnowlaw03.SpanPuts': WHATEVER THE INPUT: true; the input reads as it did. -/
def spanPutsSpec : ChangeSpec := { name := "spanPuts", fn := fun _ => fun
  | [d1, d2] => { results := [.lit (.bool true)], args := [d1, d2] }
  | _ => none }
def spanPutsRow : OpenClaim := { program := "ytigcdbeaachkoaa", sum := "9e4252f6a977bec3bca1b3b4e087e5c2091899244cf440d02e4996f143e6c01b", func := "winnow/winnowlaw03.SpanPuts", spec := "spanPuts", apart := false }
def SpanPutsSaid : Prop := spanPutsRow.holds Try.pinned (OpenSpec.ofChange spanPutsSpec)

/-- ITS FALSE NEIGHBOUR: 'it returns false'. Refute it at one input. -/
def spanPutsWrong : ChangeSpec := { name := "spanPuts", fn := fun _ => fun
  | [d1, d2] => { results := [.lit (.bool false)], args := [d1, d2] }
  | _ => none }
def SpanPutsWrongFalsely : Prop := spanPutsRow.holds Try.pinned (OpenSpec.ofChange spanPutsWrong)

/-- 'winnowlaw03.SpanTotal': WHATEVER THE INPUT: true; the input reads as it did. -/
def spanTotalSpec : ChangeSpec := { name := "spanTotal", fn := fun _ => fun
  | [d1, d2, d3] => { results := [.lit (.bool true)], args := [d1, d2, d3] }
  | _ => none }
def spanTotalRow : OpenClaim := { program := "ytigcdbeaachkoaa", sum := "9e4252f6a977bec3bca1b3b4e087e5c2091899244cf440d02e4996f143e6c01b", func := "winnow/winnowlaw03.SpanTotal", spec := "spanTotal", apart := false }
def SpanTotalSaid : Prop := spanTotalRow.holds Try.pinned (OpenSpec.ofChange spanTotalSpec)

/-- ITS FALSE NEIGHBOUR: 'it returns false'. Refute it at one input. -/
def spanTotalWrong : ChangeSpec := { name := "spanTotal", fn := fun _ => fun
  | [d1, d2, d3] => { results := [.lit (.bool false)], args := [d1, d2, d3] }
  | _ => none }
def SpanTotalWrongFalsely : Prop := spanTotalRow.holds Try.pinned (OpenSpec.ofChange spanTotalWrong)

/-- 'winnowlaw03.SpanCuts': WHATEVER THE INPUT: true; the input reads as it did. -/
def spanCutsSpec : ChangeSpec := { name := "spanCuts", fn := fun _ => fun
  | [d] => { results := [.lit (.bool true)], args := [d] }
  | _ => none }
def spanCutsRow : OpenClaim := { program := "ytigcdbeaachkoaa", sum := "9e4252f6a977bec3bca1b3b4e087e5c2091899244cf440d02e4996f143e6c01b", func := "winnow/winnowlaw03.SpanCuts", spec := "spanCuts", apart := false }
def SpanCutsSaid : Prop := spanCutsRow.holds Try.pinned (OpenSpec.ofChange spanCutsSpec)

/-- ITS FALSE NEIGHBOUR: 'it returns false'. Refute it at one input. -/
def spanCutsWrong : ChangeSpec := { name := "spanCuts", fn := fun _ => fun
  | [d] => { results := [.lit (.bool false)], args := [d] }
  | _ => none }
def SpanCutsWrongFalsely : Prop := spanCutsRow.holds Try.pinned (OpenSpec.ofChange spanCutsWrong)

/-- 'winnowlaw03.SpanBack': WHATEVER THE INPUT: true; the input reads as it did. -/
def spanBackSpec : ChangeSpec := { name := "spanBack", fn := fun _ => fun
  | [d1, d2] => { results := [.lit (.bool true)], args := [d1, d2] }
  | _ => none }
def spanBackRow : OpenClaim := { program := "ytigcdbeaachkoaa", sum := "9e4252f6a977bec3bca1b3b4e087e5c2091899244cf440d02e4996f143e6c01b", func := "winnow/winnowlaw03.SpanBack", spec := "spanBack", apart := false }
def SpanBackSaid : Prop := spanBackRow.holds Try.pinned (OpenSpec.ofChange spanBackSpec)

/-- ITS FALSE NEIGHBOUR: 'it returns false'. Refute it at one input. -/
def spanBackWrong : ChangeSpec := { name := "spanBack", fn := fun _ => fun
  | [d1, d2] => { results := [.lit (.bool false)], args := [d1, d2] }
  | _ => none }
def SpanBackWrongFalsely : Prop := spanBackRow.holds Try.pinned (OpenSpec.ofChange spanBackWrong)

/-- 'winnowlaw03.SpanShort': WHATEVER THE INPUT: true; the input reads as it did. -/
def spanShortSpec : ChangeSpec := { name := "spanShort", fn := fun _ => fun
  | [d1, d2] => { results := [.lit (.bool true)], args := [d1, d2] }
  | _ => none }
def spanShortRow : OpenClaim := { program := "ytigcdbeaachkoaa", sum := "9e4252f6a977bec3bca1b3b4e087e5c2091899244cf440d02e4996f143e6c01b", func := "winnow/winnowlaw03.SpanShort", spec := "spanShort", apart := false }
def SpanShortSaid : Prop := spanShortRow.holds Try.pinned (OpenSpec.ofChange spanShortSpec)

/-- ITS FALSE NEIGHBOUR: 'it returns false'. Refute it at one input. -/
def spanShortWrong : ChangeSpec := { name := "spanShort", fn := fun _ => fun
  | [d1, d2] => { results := [.lit (.bool false)], args := [d1, d2] }
  | _ => none }
def SpanShortWrongFalsely : Prop := spanShortRow.holds Try.pinned (OpenSpec.ofChange spanShortWrong)

/-- 'winnowlaw03.SpanOrder': WHATEVER THE INPUT: true; the input reads as it did. -/
def spanOrderSpec : ChangeSpec := { name := "spanOrder", fn := fun _ => fun
  | [d1, d2, d3] => { results := [.lit (.bool true)], args := [d1, d2, d3] }
  | _ => none }
def spanOrderRow : OpenClaim := { program := "ytigcdbeaachkoaa", sum := "9e4252f6a977bec3bca1b3b4e087e5c2091899244cf440d02e4996f143e6c01b", func := "winnow/winnowlaw03.SpanOrder", spec := "spanOrder", unfollowed := true, recurses := true, apart := false }
def SpanOrderSaid : Prop := spanOrderRow.holds Try.pinned (OpenSpec.ofChange spanOrderSpec)

/-- ITS FALSE NEIGHBOUR: 'it returns false'. Refute it at one input. -/
def spanOrderWrong : ChangeSpec := { name := "spanOrder", fn := fun _ => fun
  | [d1, d2, d3] => { results := [.lit (.bool false)], args := [d1, d2, d3] }
  | _ => none }
def SpanOrderWrongFalsely : Prop := spanOrderRow.holds Try.pinned (OpenSpec.ofChange spanOrderWrong)

/-- 'winnowlaw03.SpanSorted': WHATEVER THE INPUT: true; the input reads as it did. -/
def spanSortedSpec : ChangeSpec := { name := "spanSorted", fn := fun _ => fun
  | [d] => { results := [.lit (.bool true)], args := [d] }
  | _ => none }
def spanSortedRow : OpenClaim := { program := "ytigcdbeaachkoaa", sum := "9e4252f6a977bec3bca1b3b4e087e5c2091899244cf440d02e4996f143e6c01b", func := "winnow/winnowlaw03.SpanSorted", spec := "spanSorted", unfollowed := true, recurses := true, apart := false }
def SpanSortedSaid : Prop := spanSortedRow.holds Try.pinned (OpenSpec.ofChange spanSortedSpec)

/-- ITS FALSE NEIGHBOUR: 'it returns false'. Refute it at one input. -/
def spanSortedWrong : ChangeSpec := { name := "spanSorted", fn := fun _ => fun
  | [d] => { results := [.lit (.bool false)], args := [d] }
  | _ => none }
def SpanSortedWrongFalsely : Prop := spanSortedRow.holds Try.pinned (OpenSpec.ofChange spanSortedWrong)

/- THE SECOND FORM. 'bulk': how many values and letters a reading holds, each counted each time it is reached (what is shared counts as often as it is met; a slice's spare places count too). A statement '..UptoSaid' is the law's where the arguments, and the package variables that the reading takes, are together of bulk at most 1048576: NARROWER than '..Said'. Prove '..Said' where nothing that the law and all that it calls make is longer than what came in: it says more and counts as full. Else prove '..UptoSaid'. A law counts once. -/
mutual
def uptoBulk {H : Type} : DataW H → Nat
  | .lit (.string bytes) => bytes.length + 1
  | .lit _ => 1
  | .nil => 1
  | .ptr d => uptoBulk d + 1
  | .slice elems spare => uptoBulkAll elems + uptoBulkAll spare + 1
  | .agg parts => uptoBulkAll parts + 1
  | .iface _ d => uptoBulk d + 1
  | .map entries => uptoBulkEntries entries + 1
  | .held _ => 1
def uptoBulkAll {H : Type} : List (DataW H) → Nat
  | [] => 0
  | d :: r => uptoBulk d + uptoBulkAll r
def uptoBulkEntries {H : Type} : List (Lit × DataW H) → Nat
  | [] => 0
  | x :: r => uptoBulkEntry x + uptoBulkEntries r
def uptoBulkEntry {H : Type} : Lit × DataW H → Nat
  | (.string bytes, d) => bytes.length + uptoBulk d + 1
  | (_, d) => uptoBulk d + 1
 end
def uptoSmall : (H : Type) → List (DataW H) → Bool := fun _ ds => decide (uptoBulkAll ds ≤ 1048576)
def OpenSpec.upto (s : _root_.Go.ChangeSpec) : _root_.Go.OpenSpec := { _root_.Go.OpenSpec.ofChange s with cond := some uptoSmall }

/-- 'winnowlaw03.SpanNames', WHERE WHAT IT READS IS OF BULK AT MOST 1048576: true; the input reads as it did. -/
def spanNamesUptoRow : OpenClaim := { program := "ytigcdbeaachkoaa", sum := "9e4252f6a977bec3bca1b3b4e087e5c2091899244cf440d02e4996f143e6c01b", func := "winnow/winnowlaw03.SpanNames", spec := "spanNames", apart := false, narrowed := true }
def SpanNamesUptoSaid : Prop := spanNamesUptoRow.holds Try.pinned (OpenSpec.upto spanNamesSpec)

/-- 'winnowlaw03.SpanRight', WHERE WHAT IT READS IS OF BULK AT MOST 1048576: true; the input reads as it did. -/
def spanRightUptoRow : OpenClaim := { program := "ytigcdbeaachkoaa", sum := "9e4252f6a977bec3bca1b3b4e087e5c2091899244cf440d02e4996f143e6c01b", func := "winnow/winnowlaw03.SpanRight", spec := "spanRight", apart := false, narrowed := true }
def SpanRightUptoSaid : Prop := spanRightUptoRow.holds Try.pinned (OpenSpec.upto spanRightSpec)

/-- 'winnowlaw03.SpanPuts', WHERE WHAT IT READS IS OF BULK AT MOST 1048576: true; the input reads as it did. -/
def spanPutsUptoRow : OpenClaim := { program := "ytigcdbeaachkoaa", sum := "9e4252f6a977bec3bca1b3b4e087e5c2091899244cf440d02e4996f143e6c01b", func := "winnow/winnowlaw03.SpanPuts", spec := "spanPuts", apart := false, narrowed := true }
def SpanPutsUptoSaid : Prop := spanPutsUptoRow.holds Try.pinned (OpenSpec.upto spanPutsSpec)

/-- 'winnowlaw03.SpanTotal', WHERE WHAT IT READS IS OF BULK AT MOST 1048576: true; the input reads as it did. -/
def spanTotalUptoRow : OpenClaim := { program := "ytigcdbeaachkoaa", sum := "9e4252f6a977bec3bca1b3b4e087e5c2091899244cf440d02e4996f143e6c01b", func := "winnow/winnowlaw03.SpanTotal", spec := "spanTotal", apart := false, narrowed := true }
def SpanTotalUptoSaid : Prop := spanTotalUptoRow.holds Try.pinned (OpenSpec.upto spanTotalSpec)

/-- 'winnowlaw03.SpanCuts', WHERE WHAT IT READS IS OF BULK AT MOST 1048576: true; the input reads as it did. -/
def spanCutsUptoRow : OpenClaim := { program := "ytigcdbeaachkoaa", sum := "9e4252f6a977bec3bca1b3b4e087e5c2091899244cf440d02e4996f143e6c01b", func := "winnow/winnowlaw03.SpanCuts", spec := "spanCuts", apart := false, narrowed := true }
def SpanCutsUptoSaid : Prop := spanCutsUptoRow.holds Try.pinned (OpenSpec.upto spanCutsSpec)

/-- 'winnowlaw03.SpanBack', WHERE WHAT IT READS IS OF BULK AT MOST 1048576: true; the input reads as it did. -/
def spanBackUptoRow : OpenClaim := { program := "ytigcdbeaachkoaa", sum := "9e4252f6a977bec3bca1b3b4e087e5c2091899244cf440d02e4996f143e6c01b", func := "winnow/winnowlaw03.SpanBack", spec := "spanBack", apart := false, narrowed := true }
def SpanBackUptoSaid : Prop := spanBackUptoRow.holds Try.pinned (OpenSpec.upto spanBackSpec)

/-- 'winnowlaw03.SpanShort', WHERE WHAT IT READS IS OF BULK AT MOST 1048576: true; the input reads as it did. -/
def spanShortUptoRow : OpenClaim := { program := "ytigcdbeaachkoaa", sum := "9e4252f6a977bec3bca1b3b4e087e5c2091899244cf440d02e4996f143e6c01b", func := "winnow/winnowlaw03.SpanShort", spec := "spanShort", apart := false, narrowed := true }
def SpanShortUptoSaid : Prop := spanShortUptoRow.holds Try.pinned (OpenSpec.upto spanShortSpec)

/-- 'winnowlaw03.SpanOrder', WHERE WHAT IT READS IS OF BULK AT MOST 1048576: true; the input reads as it did. -/
def spanOrderUptoRow : OpenClaim := { program := "ytigcdbeaachkoaa", sum := "9e4252f6a977bec3bca1b3b4e087e5c2091899244cf440d02e4996f143e6c01b", func := "winnow/winnowlaw03.SpanOrder", spec := "spanOrder", unfollowed := true, recurses := true, apart := false, narrowed := true }
def SpanOrderUptoSaid : Prop := spanOrderUptoRow.holds Try.pinned (OpenSpec.upto spanOrderSpec)

/-- 'winnowlaw03.SpanSorted', WHERE WHAT IT READS IS OF BULK AT MOST 1048576: true; the input reads as it did. -/
def spanSortedUptoRow : OpenClaim := { program := "ytigcdbeaachkoaa", sum := "9e4252f6a977bec3bca1b3b4e087e5c2091899244cf440d02e4996f143e6c01b", func := "winnow/winnowlaw03.SpanSorted", spec := "spanSorted", unfollowed := true, recurses := true, apart := false, narrowed := true }
def SpanSortedUptoSaid : Prop := spanSortedUptoRow.holds Try.pinned (OpenSpec.upto spanSortedSpec)

end Rows
end Go.Proofs.Ytigcdbeaachkoaa
