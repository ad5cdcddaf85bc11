/-
  The law SpanOrder, called with anything that its parameters' kinds hold, returns true and writes nothing that was there.
  Conditions: none.
-/
import Derived.Test.YtigcdbeaachkoaaSpanOrderPure
import Derived.Test.YtigcdbeaachkoaaOpsAll
import Derived.Test.YtigcdbeaachkoaaArrOf
import Derived.Test.YtigcdbeaachkoaaPAllx21
namespace Go.Proofs.Ytigcdbeaachkoaa.PAll
open Go.RowKit Go.Proofs.YtigcdbeaachkoaaW.PrintWords Go.Proofs.YtigcdbeaachkoaaW.PrintLast Go.Proofs.YtigcdbeaachkoaaW.PrintMore
set_option linter.unusedVariables false
theorem walk_SpanOrder (W : World) (cs0 : Array Value) (x0 : S28) (hK0 : k28.K W x0 cs0.toList) (ok_0 : ok28 x0)
    (cs1 : Array Value) (x1 : S28) (hK1 : k28.K W x1 cs1.toList) (ok_1 : ok28 x1)
    (a2 : Option Addr) (cap2 : Nat) (x2 : (List S28)) (hl2 : x2.length ≤ cap2) (hC2 : Kd.C k28 W a2 x2.length x2) (ok_2 : x2.length ≤ maxLen ∧ ∀ y_x2 ∈ x2, (ok28 y_x2)) :
    Calls Try.prog 10 #[.agg cs0, .agg cs1, .slice a2 x2.length cap2] W fun e W' => e = .returned (.bool true) ∧ Below W.heap.size W W' := by
  obtain rfl := arr_of (k28_open hK0)
  obtain rfl := arr_of (k28_open hK1)
  obtain ⟨k, hk⟩ := SpanOrder x0.f0 x0.f1 x0.f2 x0.f3 x0.f4 x0.f5 x0.f6 x0.f7 x1.f0 x1.f1 x1.f2 x1.f3 x1.f4 x1.f5 x1.f6 x1.f7 x2
  exact winnowlaw03_SpanOrder.calls k _ _ _ _ _ _ _ _ _ _ _ _ _ _ _ _ a2 cap2 x2 true W hC2 hl2 rfl hk
end Go.Proofs.Ytigcdbeaachkoaa.PAll
