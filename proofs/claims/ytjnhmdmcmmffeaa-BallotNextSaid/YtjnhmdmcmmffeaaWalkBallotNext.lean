/-
  The law BallotNext, called with anything that its parameters' kinds hold, returns true and writes nothing that was there.
  Conditions: none.
-/
import Derived.Test.YtjnhmdmcmmffeaaBallotPure
namespace Go.Proofs.Ytjnhmdmcmmffeaa.PAll
open Go.RowKit Go.Proofs.YtjnhmdmcmmffeaaW.PrintWords Go.Proofs.YtjnhmdmcmmffeaaW.PrintLast Go.Proofs.YtjnhmdmcmmffeaaW.PrintMore
set_option linter.unusedVariables false
theorem walk_BallotNext (W : World) (cs0 : Array Value) (x0 : S24) (hK0 : k24.K W x0 cs0.toList) (ok_0 : ok24 x0)
    (b1 : Int) (ok_1 : (Lit.int .u64 b1).wf = true)
    (b2 : Int) (ok_2 : (Lit.int .u64 b2).wf = true) :
    Calls Try.prog 3 #[.agg cs0, .int .u64 b1, .int .u64 b2] W fun e W' => e = .returned (.bool true) ∧ Below W.heap.size W W' := by
  obtain rfl := arr_of (k24_open hK0)
  exact winnowlaw11_BallotNext.calls 3 _ _ _ _ true W rfl (BallotNext x0 b1 b2 ok_0 ok_1 ok_2)
end Go.Proofs.Ytjnhmdmcmmffeaa.PAll
