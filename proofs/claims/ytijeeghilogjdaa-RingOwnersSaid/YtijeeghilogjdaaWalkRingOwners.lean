/-
  The law RingOwners, called with anything that its parameters' kinds hold, returns true and writes nothing that was there.
  Conditions: none.
-/
import Derived.Test.YtijeeghilogjdaaRingOwnersPure
import Derived.Test.YtijeeghilogjdaaOpsAll
import Derived.Test.YtijeeghilogjdaaPAllx8
namespace Go.Proofs.Ytijeeghilogjdaa.PAll
open Go.RowKit Go.Proofs.YtijeeghilogjdaaW.PrintWords Go.Proofs.YtijeeghilogjdaaW.PrintLast Go.Proofs.YtijeeghilogjdaaW.PrintMore
set_option linter.unusedVariables false
theorem walk_RingOwners (W : World) (a0 : Option Addr) (cap0 : Nat) (x0 : (List S58)) (hl0 : x0.length ≤ cap0) (hC0 : Kd.C k58 W a0 x0.length x0) (ok_0 : x0.length ≤ maxLen ∧ ∀ y_x0 ∈ x0, (ok58 y_x0))
    (b1 : Int) (ok_1 : (Lit.int .u64 b1).wf = true) :
    Calls Try.prog 4 #[.slice a0 x0.length cap0, .int .u64 b1] W fun e W' => e = .returned (.bool true) ∧ Below W.heap.size W W' := by
  obtain ⟨k, hk⟩ := RingOwners x0 b1
  exact winnowlaw08_RingOwners.calls k a0 cap0 x0 b1 true W hC0 hl0 rfl hk
end Go.Proofs.Ytijeeghilogjdaa.PAll
