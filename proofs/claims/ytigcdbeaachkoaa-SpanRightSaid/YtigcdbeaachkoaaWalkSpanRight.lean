/-
  The law SpanRight, called with anything that its parameters' kinds hold, returns true and writes nothing that was there.
  Conditions: none.
-/
import Derived.Test.YtigcdbeaachkoaaSpanRightPure
import Derived.Test.YtigcdbeaachkoaaOpsAll
namespace Go.Proofs.Ytigcdbeaachkoaa.PAll
open Go.RowKit Go.Proofs.YtigcdbeaachkoaaW.PrintWords Go.Proofs.YtigcdbeaachkoaaW.PrintLast Go.Proofs.YtigcdbeaachkoaaW.PrintMore
set_option linter.unusedVariables false
theorem walk_SpanRight (W : World) (cs0 : Array Value) (x0 : S28) (hK0 : k28.K W x0 cs0.toList) (ok_0 : ok28 x0) :
    Calls Try.prog 4 #[.agg cs0] W fun e W' => e = .returned (.bool true) ∧ Below W.heap.size W W' := by
  obtain rfl := arr_of (k28_open hK0)
  obtain ⟨k, hk⟩ : ∃ k, winnowlaw03_SpanRight.f k _ _ _ _ _ _ _ _ = some true := ⟨200, SpanRight x0.f0 x0.f1 x0.f2 x0.f3 x0.f4 x0.f5 x0.f6 x0.f7 ⟩
  exact winnowlaw03_SpanRight.calls k _ _ _ _ _ _ _ _ true W  rfl hk
end Go.Proofs.Ytigcdbeaachkoaa.PAll
