/-
  The law BallotOrder, called with anything that its parameters' kinds hold, returns true and writes nothing that was there.
  Conditions: none.
-/
import Derived.Test.YtjnhmdmcmmffeaaBallotPure
namespace Go.Proofs.Ytjnhmdmcmmffeaa.PAll
open Go.RowKit Go.Proofs.YtjnhmdmcmmffeaaW.PrintWords Go.Proofs.YtjnhmdmcmmffeaaW.PrintLast Go.Proofs.YtjnhmdmcmmffeaaW.PrintMore
set_option linter.unusedVariables false
theorem walk_BallotOrder (W : World) (cs0 : Array Value) (x0 : S24) (hK0 : k24.K W x0 cs0.toList) (ok_0 : ok24 x0)
    (cs1 : Array Value) (x1 : S24) (hK1 : k24.K W x1 cs1.toList) (ok_1 : ok24 x1)
    (a2 : Option Addr) (cap2 : Nat) (x2 : (List S24)) (hl2 : x2.length ≤ cap2) (hC2 : Kd.C k24 W a2 x2.length x2) (ok_2 : x2.length ≤ maxLen ∧ ∀ x ∈ x2, (ok24 x)) :
    Calls Try.prog 5 #[.agg cs0, .agg cs1, .slice a2 x2.length cap2] W fun e W' => e = .returned (.bool true) ∧ Below W.heap.size W W' := by
  obtain rfl := arr_of (k24_open hK0)
  obtain rfl := arr_of (k24_open hK1)
  obtain ⟨k, hk⟩ := BallotOrder x0 x1 x2
  exact winnowlaw11_BallotOrder.calls k _ _ _ _ a2 cap2 x2 true W hC2 hl2 rfl hk
end Go.Proofs.Ytjnhmdmcmmffeaa.PAll
