/-
  What comes into these laws is held by cells, kind by kind.
  Conditions: none.
-/
import Derived.Test.YtijeeghilogjdaaOpens
import Derived.Test.YtijeeghilogjdaaPAllx0
namespace Go.Proofs.Ytijeeghilogjdaa.PAll
open Go.RowKit Go.Proofs.YtijeeghilogjdaaW.PrintWords Go.Proofs.YtijeeghilogjdaaW.PrintLast
open Go.Proofs.Ytijeeghilogjdaa
set_option linter.unusedVariables false
set_option linter.unusedSimpArgs false

def ok58 (x : S58) : Prop := ((Lit.int .u64 x.f0).wf = true) ∧ ((Lit.int .u64 x.f1).wf = true)
theorem op58 : Opens.Opens Try.prog k58 58 ok58 :=
  Opens.struct Try.underlying58 (by kernel_rfl) (Opens.cons _ (i := 0) rfl rfl (by kernel_rfl) (Opens.int (P := Try.prog) (T := 32) Try.underlying32) (Opens.last _ (i := 1) rfl rfl (by kernel_rfl) (Opens.int (P := Try.prog) (T := 32) Try.underlying32))) _ (fun p => ⟨p.1, p.2⟩) (fun _ => rfl)
end Go.Proofs.Ytijeeghilogjdaa.PAll
