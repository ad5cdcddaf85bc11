/-
  The law SpanSorted, called with anything that its parameter's kind holds, returns true and writes nothing that was there.
  Conditions: none.
-/
import Derived.Test.YtigcdbeaachkoaaSpanSortedPure
import Derived.Test.YtigcdbeaachkoaaOpsAll
import Derived.Test.YtigcdbeaachkoaaPAllx9
namespace Go.Proofs.Ytigcdbeaachkoaa.PAll
open Go.RowKit Go.Proofs.YtigcdbeaachkoaaW.PrintWords Go.Proofs.YtigcdbeaachkoaaW.PrintLast Go.Proofs.YtigcdbeaachkoaaW.PrintMore
set_option linter.unusedVariables false
theorem walk_SpanSorted (W : World) (a0 : Option Addr) (cap0 : Nat) (x0 : (List S28)) (hl0 : x0.length ≤ cap0) (hC0 : Kd.C k28 W a0 x0.length x0) (ok_0 : x0.length ≤ maxLen ∧ ∀ y_x0 ∈ x0, (ok28 y_x0)) :
    Calls Try.prog 11 #[.slice a0 x0.length cap0] W fun e W' => e = .returned (.bool true) ∧ Below W.heap.size W W' := by
  obtain ⟨k, hk⟩ := SpanSorted x0
  exact winnowlaw03_SpanSorted.calls k a0 cap0 x0 true W hC0 hl0 rfl hk
end Go.Proofs.Ytigcdbeaachkoaa.PAll
