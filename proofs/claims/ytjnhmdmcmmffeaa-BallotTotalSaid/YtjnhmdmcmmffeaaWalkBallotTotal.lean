/-
  The law BallotTotal, called with anything that its parameters' kinds hold, returns true and writes nothing that was there.
  Conditions: none.
-/
import Derived.Test.YtjnhmdmcmmffeaaBallotTotalPure
namespace Go.Proofs.Ytjnhmdmcmmffeaa.PAll
open Go.RowKit Go.Proofs.YtjnhmdmcmmffeaaW.PrintWords Go.Proofs.YtjnhmdmcmmffeaaW.PrintLast Go.Proofs.YtjnhmdmcmmffeaaW.PrintMore
set_option linter.unusedVariables false
theorem walk_BallotTotal (W : World) (cs0 : Array Value) (x0 : S24) (hK0 : k24.K W x0 cs0.toList) (ok_0 : ok24 x0)
    (cs1 : Array Value) (x1 : S24) (hK1 : k24.K W x1 cs1.toList) (ok_1 : ok24 x1)
    (cs2 : Array Value) (x2 : S24) (hK2 : k24.K W x2 cs2.toList) (ok_2 : ok24 x2)
    (a3 : Option Addr) (cap3 : Nat) (x3 : (List S24)) (hl3 : x3.length ≤ cap3) (hC3 : Kd.C k24 W a3 x3.length x3) (ok_3 : x3.length ≤ maxLen ∧ ∀ x ∈ x3, (ok24 x)) :
    Calls Try.prog 6 #[.agg cs0, .agg cs1, .agg cs2, .slice a3 x3.length cap3] W fun e W' => e = .returned (.bool true) ∧ Below W.heap.size W W' := by
  obtain rfl := arr_of (k24_open hK0)
  obtain rfl := arr_of (k24_open hK1)
  obtain rfl := arr_of (k24_open hK2)
  obtain ⟨k, hk⟩ := BallotTotal x0 x1 x2 x3 ok_3.2
  exact winnowlaw11_BallotTotal.calls k _ _ _ _ _ _ a3 cap3 x3 true W hC3 hl3 rfl hk
end Go.Proofs.Ytjnhmdmcmmffeaa.PAll
