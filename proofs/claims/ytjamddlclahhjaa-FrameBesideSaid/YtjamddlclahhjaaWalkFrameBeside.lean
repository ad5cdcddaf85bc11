/-
  The law FrameBeside, called with anything that its parameters' kinds hold, returns true and writes nothing that was there.
  Conditions: none.
-/
import Derived.Test.YtjamddlclahhjaaBesidePure
import Derived.Test.YtjamddlclahhjaaOpsAll
namespace Go.Proofs.Ytjamddlclahhjaa.PAll
open Go.RowKit Go.Proofs.YtjamddlclahhjaaW.PrintWords Go.Proofs.YtjamddlclahhjaaW.PrintLast Go.Proofs.YtjamddlclahhjaaW.PrintMore
set_option linter.unusedVariables false
theorem walk_FrameBeside (W : World) (a0 : Option Addr) (cap0 : Nat) (x0 : (List (List Int))) (hl0 : x0.length ≤ cap0) (hC0 : Kd.C (Kd.slice 5 (Kd.int .u8)) W a0 x0.length x0) (ok_0 : x0.length ≤ maxLen ∧ ∀ y_x0 ∈ x0, (y_x0.length ≤ maxLen ∧ ∀ y_y_x0 ∈ y_x0, ((Lit.int .u8 y_y_x0).wf = true)))
    (a1 : Option Addr) (cap1 : Nat) (x1 : (List (List Int))) (hl1 : x1.length ≤ cap1) (hC1 : Kd.C (Kd.slice 5 (Kd.int .u8)) W a1 x1.length x1) (ok_1 : x1.length ≤ maxLen ∧ ∀ y_x1 ∈ x1, (y_x1.length ≤ maxLen ∧ ∀ y_y_x1 ∈ y_x1, ((Lit.int .u8 y_y_x1).wf = true))) :
    Calls Try.prog 8 #[.slice a0 x0.length cap0, .slice a1 x1.length cap1] W fun e W' => e = .returned (.bool true) ∧ Below W.heap.size W W' :=
  winnowlaw02_FrameBeside.calls 500000 (fun k => k < W.heap.size) a0 cap0 x0 (fun k => k < W.heap.size) a1 cap1 x1 true W
    (Kd.V_mk hl0 (Kd.C_F (Kd.heap_slice _ (Kd.heap_int _)) hC0)) (Kd.V_mk hl1 (Kd.C_F (Kd.heap_slice _ (Kd.heap_int _)) hC1)) rfl
    (FrameBeside 500000 (Nat.le_refl _) x0 x1 (fun y hy => bytes_of (ok_0.2 y hy).2) (fun y hy => bytes_of (ok_1.2 y hy).2))
end Go.Proofs.Ytjamddlclahhjaa.PAll
