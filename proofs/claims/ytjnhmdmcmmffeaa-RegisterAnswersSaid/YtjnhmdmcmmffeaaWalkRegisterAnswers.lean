/-
  The law RegisterAnswers, called with anything that its parameters' kinds hold, returns true and writes nothing that was there.
  Conditions: none.
-/
import Derived.Test.YtjnhmdmcmmffeaaRegisterAnswersPure
import Derived.Test.YtjnhmdmcmmffeaaOpsAll
namespace Go.Proofs.Ytjnhmdmcmmffeaa.PAll
open Go.RowKit Go.Proofs.YtjnhmdmcmmffeaaW.PrintWords Go.Proofs.YtjnhmdmcmmffeaaW.PrintLast Go.Proofs.YtjnhmdmcmmffeaaW.PrintMore
set_option linter.unusedVariables false
theorem walk_RegisterAnswers (W : World) (cs0 : Array Value) (x0 : S40) (hK0 : k40.K W x0 cs0.toList) (ok_0 : ok40 x0)
    (cs1 : Array Value) (x1 : S24) (hK1 : k24.K W x1 cs1.toList) (ok_1 : ok24 x1)
    (b2 : Int) (ok_2 : (Lit.int .i64 b2).wf = true)
    (b3 : Int) (ok_3 : (Lit.int .u64 b3).wf = true) :
    Calls Try.prog 11 #[.agg cs0, .agg cs1, .int .i64 b2, .int .u64 b3] W fun e W' => e = .returned (.bool true) ∧ Below W.heap.size W W' := by
  obtain rfl := arr_of (k40_open hK0)
  obtain rfl := arr_of (k24_open hK1)
  obtain ⟨k, hk⟩ : ∃ k, winnowlaw12_RegisterAnswers.f k _ _ _ _ _ _ _ _ _ = some true := ⟨20, RegisterAnswers _ _ _ _ _ _ _ _ _ (wf_u64 ok_0.1.1).1 (wf_u64 ok_0.1.2).1 (wf_u64 ok_1.1).1 (wf_u64 ok_1.2).1⟩
  exact winnowlaw12_RegisterAnswers.calls k _ _ _ _ _ _ _ _ _ true W  rfl hk
end Go.Proofs.Ytjnhmdmcmmffeaa.PAll
