/-
  The law FramePuts, called with anything that its parameters' kinds hold, returns true and writes nothing that was there.
  Conditions: none.
-/
import Derived.Test.YtjamddlclahhjaaFramePure
import Derived.Test.YtjamddlclahhjaaOpsAll
namespace Go.Proofs.Ytjamddlclahhjaa.PAll
open Go.RowKit Go.Proofs.YtjamddlclahhjaaW.PrintWords Go.Proofs.YtjamddlclahhjaaW.PrintLast Go.Proofs.YtjamddlclahhjaaW.PrintMore
set_option linter.unusedVariables false
theorem walk_FramePuts (W : World) (a0 : Option Addr) (cap0 : Nat) (x0 : (List Int)) (hl0 : x0.length ≤ cap0) (hC0 : Kd.C (Kd.int .u8) W a0 x0.length x0) (ok_0 : x0.length ≤ maxLen ∧ ∀ y_x0 ∈ x0, ((Lit.int .u8 y_x0).wf = true))
    (a1 : Option Addr) (cap1 : Nat) (x1 : (List Int)) (hl1 : x1.length ≤ cap1) (hC1 : Kd.C (Kd.int .u8) W a1 x1.length x1) (ok_1 : x1.length ≤ maxLen ∧ ∀ y_x1 ∈ x1, ((Lit.int .u8 y_x1).wf = true)) :
    Calls Try.prog 3 #[.slice a0 x0.length cap0, .slice a1 x1.length cap1] W fun e W' => e = .returned (.bool true) ∧ Below W.heap.size W W' := by
  obtain ⟨k, hk⟩ : ∃ k, winnowlaw02_FramePuts.f k _ _ = some true := ⟨200000, FramePuts x0 x1 (bytes_of ok_0.2) (bytes_of ok_1.2)⟩
  exact winnowlaw02_FramePuts.calls k _ _ _ _ _ _ true W hC0 hl0 hC1 hl1 rfl hk
end Go.Proofs.Ytjamddlclahhjaa.PAll
