/-
  The law SpanNames, called with anything that its parameters' kinds hold, returns true and writes nothing that was there.
  Conditions: none.
-/
import Derived.Test.YtigcdbeaachkoaaSpanRightPure
import Derived.Test.YtigcdbeaachkoaaOpsAll
namespace Go.Proofs.Ytigcdbeaachkoaa.PAll
open Go.RowKit Go.Proofs.YtigcdbeaachkoaaW.PrintWords Go.Proofs.YtigcdbeaachkoaaW.PrintLast Go.Proofs.YtigcdbeaachkoaaW.PrintMore
set_option linter.unusedVariables false
theorem walk_SpanNames (W : World) (b0 : ByteArray) (ok_0 : b0.size ≤ maxLen) :
    Calls Try.prog 3 #[.string b0] W fun e W' => e = .returned (.bool true) ∧ Below W.heap.size W W' := by
  obtain ⟨k, hk⟩ : ∃ k, winnowlaw03_SpanNames.f k _ = some true := ⟨100, SpanNames b0⟩
  exact winnowlaw03_SpanNames.calls k _ true W  rfl hk
end Go.Proofs.Ytigcdbeaachkoaa.PAll
