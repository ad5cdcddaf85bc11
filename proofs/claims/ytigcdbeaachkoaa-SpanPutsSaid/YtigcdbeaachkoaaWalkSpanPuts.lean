/-
  The law SpanPuts, called with anything that its parameters' kinds hold, returns true and writes nothing that was there.
  Conditions: none.
-/
import Derived.Test.YtigcdbeaachkoaaSpanPutPure
import Derived.Test.YtigcdbeaachkoaaOpsAll
namespace Go.Proofs.Ytigcdbeaachkoaa.PAll
open Go.RowKit Go.Proofs.YtigcdbeaachkoaaW.PrintWords Go.Proofs.YtigcdbeaachkoaaW.PrintLast Go.Proofs.YtigcdbeaachkoaaW.PrintMore
set_option linter.unusedVariables false
theorem walk_SpanPuts (W : World) (a0 : Option Addr) (cap0 : Nat) (x0 : (List Int)) (hl0 : x0.length ≤ cap0) (hC0 : Kd.C (Kd.int .u8) W a0 x0.length x0) (ok_0 : x0.length ≤ maxLen ∧ ∀ y_x0 ∈ x0, ((Lit.int .u8 y_x0).wf = true))
    (cs1 : Array Value) (x1 : S28) (hK1 : k28.K W x1 cs1.toList) (ok_1 : ok28 x1) :
    Calls Try.prog 5 #[.slice a0 x0.length cap0, .agg cs1] W fun e W' => e = .returned (.bool true) ∧ Below W.heap.size W W' := by
  obtain rfl := arr_of (k28_open hK1)
  obtain ⟨k, hk⟩ : ∃ k, winnowlaw03_SpanPuts.f k _ _ _ _ _ _ _ _ _ = some true := ⟨20000, SpanPuts x0 x1.f0 x1.f1 x1.f2 x1.f3 x1.f4 x1.f5 x1.f6 x1.f7  (five ok_1.1 ok_1.2.1 ok_1.2.2.1 ok_1.2.2.2.1 ok_1.2.2.2.2.1)⟩
  exact winnowlaw03_SpanPuts.calls k _ _ _ _ _ _ _ _ _ _ _ true W hC0 hl0 rfl hk
end Go.Proofs.Ytigcdbeaachkoaa.PAll
