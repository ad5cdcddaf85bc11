/-
  The law BallotRuns, called with anything that its parameters' kinds hold, returns true and writes nothing that was there.
  Conditions: none.
-/
import Derived.Test.YtjnhmdmcmmffeaaBallotRunsPure
namespace Go.Proofs.Ytjnhmdmcmmffeaa.PAll
open Go.RowKit Go.Proofs.YtjnhmdmcmmffeaaW.PrintWords Go.Proofs.YtjnhmdmcmmffeaaW.PrintLast Go.Proofs.YtjnhmdmcmmffeaaW.PrintMore
set_option linter.unusedVariables false
theorem walk_BallotRuns (W : World) (b0 : Int) (ok_0 : (Lit.int .u64 b0).wf = true)
    (a1 : Option Addr) (cap1 : Nat) (x1 : (List Int)) (hl1 : x1.length ≤ cap1) (hC1 : Kd.C (Kd.int .u64) W a1 x1.length x1) (ok_1 : x1.length ≤ maxLen ∧ ∀ x ∈ x1, ((Lit.int .u64 x).wf = true))
    (a2 : Option Addr) (cap2 : Nat) (x2 : (List Int)) (hl2 : x2.length ≤ cap2) (hC2 : Kd.C (Kd.int .u64) W a2 x2.length x2) (ok_2 : x2.length ≤ maxLen ∧ ∀ x ∈ x2, ((Lit.int .u64 x).wf = true)) :
    Calls Try.prog 7 #[.int .u64 b0, .slice a1 x1.length cap1, .slice a2 x2.length cap2] W fun e W' => e = .returned (.bool true) ∧ Below W.heap.size W W' :=
  winnowlaw11_BallotRuns.calls 500 b0 a1 cap1 x1 a2 cap2 x2 true W hC1 hl1 hC2 hl2 rfl (BallotRuns b0 x1 x2 ok_0 ok_1.2 ok_2.2)
end Go.Proofs.Ytjnhmdmcmmffeaa.PAll
