/-
  The law SpanTotal, called with anything that its parameters' kinds hold, returns true and writes nothing that was there.
  Conditions: none.
-/
import Derived.Test.YtigcdbeaachkoaaSpanTotalPure
import Derived.Test.YtigcdbeaachkoaaOpsAll
namespace Go.Proofs.Ytigcdbeaachkoaa.PAll
open Go.RowKit Go.Proofs.YtigcdbeaachkoaaW.PrintWords Go.Proofs.YtigcdbeaachkoaaW.PrintLast Go.Proofs.YtigcdbeaachkoaaW.PrintMore
set_option linter.unusedVariables false
theorem walk_SpanTotal (W : World) (cs0 : Array Value) (x0 : S28) (hK0 : k28.K W x0 cs0.toList) (ok_0 : ok28 x0)
    (cs1 : Array Value) (x1 : S28) (hK1 : k28.K W x1 cs1.toList) (ok_1 : ok28 x1)
    (cs2 : Array Value) (x2 : S28) (hK2 : k28.K W x2 cs2.toList) (ok_2 : ok28 x2) :
    Calls Try.prog 6 #[.agg cs0, .agg cs1, .agg cs2] W fun e W' => e = .returned (.bool true) ∧ Below W.heap.size W W' := by
  obtain rfl := arr_of (k28_open hK0)
  obtain rfl := arr_of (k28_open hK1)
  obtain rfl := arr_of (k28_open hK2)
  obtain ⟨k, hk⟩ : ∃ k, winnowlaw03_SpanTotal.f k _ _ _ _ _ _ _ _ _ _ _ _ _ _ _ _ _ _ _ _ _ _ _ _ = some true := ⟨10, SpanTotal x0.f0 x0.f1 x0.f2 x0.f3 x0.f4 x0.f5 x0.f6 x0.f7  x1.f0 x1.f1 x1.f2 x1.f3 x1.f4 x1.f5 x1.f6 x1.f7  x2.f0 x2.f1 x2.f2 x2.f3 x2.f4 x2.f5 x2.f6 x2.f7 ⟩
  exact winnowlaw03_SpanTotal.calls k _ _ _ _ _ _ _ _ _ _ _ _ _ _ _ _ _ _ _ _ _ _ _ _ true W  rfl hk
end Go.Proofs.Ytigcdbeaachkoaa.PAll
