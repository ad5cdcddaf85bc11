/-
  The law PolicyMixed returns true.
  Conditions: the tables that the row lists, as the program lays them.
-/
import Derived.Test.YtemepnpfhoidhaaDoorWalkPolicyMixes
namespace Go.Proofs.YtemepnpfhoidhaaDoor.PAll
open Go.RowKit
theorem walk_PolicyMixed (W : World) (b0 : Int) (ok_0 : (Lit.int .u64 b0).wf = true)
    (b1 : Int) (ok_1 : (Lit.int .u64 b1).wf = true) (hL : Laid W) :
    Calls Tryd.prog 7 #[.int .u64 b0, .int .u64 b1] W fun e W' => e = .returned (.bool true) ∧ Below W.heap.size W W' := mixed_calls b0 b1 (wf64 ok_0) (wf64 ok_1) W hL
end Go.Proofs.YtemepnpfhoidhaaDoor.PAll
