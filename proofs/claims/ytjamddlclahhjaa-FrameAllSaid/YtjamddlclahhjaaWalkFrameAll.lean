/-
  The law FrameAll, called with anything that its parameters' kinds hold, returns true and writes nothing that was there.
  Conditions: none.
-/
import Derived.Test.YtjamddlclahhjaaCutsPure
import Derived.Test.YtjamddlclahhjaaOpsAll
namespace Go.Proofs.Ytjamddlclahhjaa.PAll
open Go.RowKit Go.Proofs.YtjamddlclahhjaaW.PrintWords Go.Proofs.YtjamddlclahhjaaW.PrintLast Go.Proofs.YtjamddlclahhjaaW.PrintMore
set_option linter.unusedVariables false
theorem walk_FrameAll (W : World) (a0 : Option Addr) (cap0 : Nat) (x0 : (List Int)) (hl0 : x0.length ≤ cap0) (hC0 : Kd.C (Kd.int .u8) W a0 x0.length x0) (ok_0 : x0.length ≤ maxLen ∧ ∀ y_x0 ∈ x0, ((Lit.int .u8 y_x0).wf = true)) :
    Calls Try.prog 6 #[.slice a0 x0.length cap0] W fun e W' => e = .returned (.bool true) ∧ Below W.heap.size W W' := by
  obtain ⟨k, hk⟩ : ∃ k, winnowlaw02_FrameAll.f k _ = some true := ⟨200000, FrameAll x0 (bytes_of ok_0.2)⟩
  exact winnowlaw02_FrameAll.calls k _ _ _ true W hC0 hl0 rfl hk
end Go.Proofs.Ytjamddlclahhjaa.PAll
