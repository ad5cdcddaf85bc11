/-
  The law BallotAbove, called with anything that its parameters' kinds hold, returns true and writes nothing that was there.
  Conditions: none.
-/
import Derived.Test.YtjnhmdmcmmffeaaBallotPure
namespace Go.Proofs.Ytjnhmdmcmmffeaa.PAll
open Go.RowKit Go.Proofs.YtjnhmdmcmmffeaaW.PrintWords Go.Proofs.YtjnhmdmcmmffeaaW.PrintLast Go.Proofs.YtjnhmdmcmmffeaaW.PrintMore
set_option linter.unusedVariables false
theorem walk_BallotAbove (W : World) (cs0 : Array Value) (x0 : S24) (hK0 : k24.K W x0 cs0.toList) (ok_0 : ok24 x0)
    (cs1 : Array Value) (x1 : S24) (hK1 : k24.K W x1 cs1.toList) (ok_1 : ok24 x1)
    (b2 : Int) (ok_2 : (Lit.int .u64 b2).wf = true)
    (b3 : Int) (ok_3 : (Lit.int .u64 b3).wf = true)
    (b4 : Int) (ok_4 : (Lit.int .u64 b4).wf = true) :
    Calls Try.prog 4 #[.agg cs0, .agg cs1, .int .u64 b2, .int .u64 b3, .int .u64 b4] W fun e W' => e = .returned (.bool true) ∧ Below W.heap.size W W' := by
  obtain rfl := arr_of (k24_open hK0)
  obtain rfl := arr_of (k24_open hK1)
  exact winnowlaw11_BallotAbove.calls 3 _ _ _ _ _ _ _ true W rfl (BallotAbove x0 x1 b2 b3 b4 ok_0 ok_1 ok_2 ok_3 ok_4)
end Go.Proofs.Ytjnhmdmcmmffeaa.PAll
