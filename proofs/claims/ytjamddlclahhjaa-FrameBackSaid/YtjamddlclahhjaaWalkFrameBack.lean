/-
  The law FrameBack, called with anything that its parameters' kinds hold, returns true and writes nothing that was there.
  Conditions: none.
-/
import Derived.Test.YtjamddlclahhjaaBackPure
import Derived.Test.YtjamddlclahhjaaOpsAll
namespace Go.Proofs.Ytjamddlclahhjaa.PAll
open Go.RowKit Go.Proofs.YtjamddlclahhjaaW.PrintWords Go.Proofs.YtjamddlclahhjaaW.PrintLast Go.Proofs.YtjamddlclahhjaaW.PrintMore
set_option linter.unusedVariables false
theorem walk_FrameBack (W : World) (a0 : Option Addr) (cap0 : Nat) (x0 : (List (List Int))) (hl0 : x0.length ≤ cap0) (hC0 : Kd.C (Kd.slice 5 (Kd.int .u8)) W a0 x0.length x0) (ok_0 : x0.length ≤ maxLen ∧ ∀ y_x0 ∈ x0, (y_x0.length ≤ maxLen ∧ ∀ y_y_x0 ∈ y_x0, ((Lit.int .u8 y_y_x0).wf = true)))
    (b1 : Int) (ok_1 : (Lit.int .i64 b1).wf = true) :
    Calls Try.prog 7 #[.slice a0 x0.length cap0, .int .i64 b1] W fun e W' => e = .returned (.bool true) ∧ Below W.heap.size W W' := by
  obtain ⟨k, hk⟩ : ∃ k, winnowlaw02_FrameBack.f k _ _ = some true := ⟨20000, FrameBack x0 b1 (fun x hx => bytes_of (ok_0.2 x hx).2)⟩
  exact winnowlaw02_FrameBack.calls k _ _ _ _ true W hC0 hl0 rfl hk
end Go.Proofs.Ytjamddlclahhjaa.PAll
