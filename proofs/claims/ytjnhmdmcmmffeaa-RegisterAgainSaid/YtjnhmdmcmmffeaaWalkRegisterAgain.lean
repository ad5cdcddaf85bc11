/-
  The law RegisterAgain, called with anything that its parameters' kinds hold, returns true and writes nothing that was there.
  Conditions: none.
-/
import Derived.Test.YtjnhmdmcmmffeaaRegisterPure
namespace Go.Proofs.Ytjnhmdmcmmffeaa.PAll
open Go.RowKit Go.Proofs.YtjnhmdmcmmffeaaW.PrintWords Go.Proofs.YtjnhmdmcmmffeaaW.PrintLast Go.Proofs.YtjnhmdmcmmffeaaW.PrintMore
set_option linter.unusedVariables false
theorem walk_RegisterAgain (W : World) (cs0 : Array Value) (x0 : S40) (hK0 : k40.K W x0 cs0.toList) (ok_0 : ok40 x0)
    (cs1 : Array Value) (x1 : S24) (hK1 : k24.K W x1 cs1.toList) (ok_1 : ok24 x1)
    (cs2 : Array Value) (x2 : S24) (hK2 : k24.K W x2 cs2.toList) (ok_2 : ok24 x2)
    (b3 : Int) (ok_3 : (Lit.int .i64 b3).wf = true) :
    Calls Try.prog 9 #[.agg cs0, .agg cs1, .agg cs2, .int .i64 b3] W fun e W' => e = .returned (.bool true) ∧ Below W.heap.size W W' := by
  obtain rfl := arr_of (k40_open hK0)
  obtain rfl := arr_of (k24_open hK1)
  obtain rfl := arr_of (k24_open hK2)
  exact winnowlaw12_RegisterAgain.calls 5 _ _ _ _ _ _ _ _ _ _ true W rfl (RegisterAgain _ _ _ _ _ _ _ _ _ _)
end Go.Proofs.Ytjnhmdmcmmffeaa.PAll
