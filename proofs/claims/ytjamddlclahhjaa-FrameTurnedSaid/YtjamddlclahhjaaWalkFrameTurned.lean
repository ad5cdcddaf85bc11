/-
  The law FrameTurned, called with anything that its parameters' kinds hold, returns true and writes nothing that was there.
  Conditions: none.
-/
import Derived.Test.YtjamddlclahhjaaCutPure
import Derived.Test.YtjamddlclahhjaaOpsAll
namespace Go.Proofs.Ytjamddlclahhjaa.PAll
open Go.RowKit Go.Proofs.YtjamddlclahhjaaW.PrintWords Go.Proofs.YtjamddlclahhjaaW.PrintLast Go.Proofs.YtjamddlclahhjaaW.PrintMore
set_option linter.unusedVariables false
theorem walk_FrameTurned (W : World) (a0 : Option Addr) (cap0 : Nat) (x0 : (List Int)) (hl0 : x0.length ≤ cap0) (hC0 : Kd.C (Kd.int .u8) W a0 x0.length x0) (ok_0 : x0.length ≤ maxLen ∧ ∀ y_x0 ∈ x0, ((Lit.int .u8 y_x0).wf = true))
    (b1 : Int) (ok_1 : (Lit.int .i64 b1).wf = true)
    (b2 : Int) (ok_2 : (Lit.int .u8 b2).wf = true) :
    Calls Try.prog 5 #[.slice a0 x0.length cap0, .int .i64 b1, .int .u8 b2] W fun e W' => e = .returned (.bool true) ∧ Below W.heap.size W W' := by
  obtain ⟨k, hk⟩ : ∃ k, winnowlaw02_FrameTurned.f k _ _ _ = some true := ⟨20000, FrameTurned x0 b1 b2 (bytes_of ok_0.2) (by simpa [Lit.wf, IntKind.min, IntKind.max, IntKind.signed, IntKind.bits] using ok_2)⟩
  exact winnowlaw02_FrameTurned.calls k _ _ _ _ _ true W hC0 hl0 rfl hk
end Go.Proofs.Ytjamddlclahhjaa.PAll
