/-
  What comes into these laws is held by cells, kind by kind.
  Conditions: none.
-/
import Derived.Test.YtigcdbeaachkoaaOpens
import Derived.Test.YtigcdbeaachkoaaPAllx0
namespace Go.Proofs.Ytigcdbeaachkoaa.PAll
open Go.RowKit Go.Proofs.YtigcdbeaachkoaaW.PrintWords Go.Proofs.YtigcdbeaachkoaaW.PrintLast
open Go.Proofs.Ytigcdbeaachkoaa
set_option linter.unusedVariables false
set_option linter.unusedSimpArgs false

def ok28 (x : S28) : Prop := ((Lit.int .u64 x.f0).wf = true) ∧ ((Lit.int .u64 x.f1).wf = true) ∧ ((Lit.int .u64 x.f2).wf = true) ∧ ((Lit.int .u64 x.f3).wf = true) ∧ ((Lit.int .u64 x.f4).wf = true) ∧ (x.f5.size ≤ maxLen) ∧ (x.f6.size ≤ maxLen) ∧ (True)
theorem op28 : Opens.Opens Try.prog k28 28 ok28 :=
  Opens.struct Try.underlying28 (by kernel_rfl) (Opens.cons _ (i := 0) rfl rfl (by kernel_rfl) (Opens.int (P := Try.prog) (T := 26) Try.underlying26) (Opens.cons _ (i := 1) rfl rfl (by kernel_rfl) (Opens.int (P := Try.prog) (T := 26) Try.underlying26) (Opens.cons _ (i := 2) rfl rfl (by kernel_rfl) (Opens.int (P := Try.prog) (T := 26) Try.underlying26) (Opens.cons _ (i := 3) rfl rfl (by kernel_rfl) (Opens.int (P := Try.prog) (T := 26) Try.underlying26) (Opens.cons _ (i := 4) rfl rfl (by kernel_rfl) (Opens.int (P := Try.prog) (T := 26) Try.underlying26) (Opens.cons _ (i := 5) rfl rfl (by kernel_rfl) (Opens.string (P := Try.prog) (T := 9) Try.underlying9) (Opens.cons _ (i := 6) rfl rfl (by kernel_rfl) (Opens.string (P := Try.prog) (T := 9) Try.underlying9) (Opens.last _ (i := 7) rfl rfl (by kernel_rfl) (Opens.bool (P := Try.prog) (T := 4) Try.underlying4))))))))) _ (fun p => ⟨p.1, p.2.1, p.2.2.1, p.2.2.2.1, p.2.2.2.2.1, p.2.2.2.2.2.1, p.2.2.2.2.2.2.1, p.2.2.2.2.2.2.2⟩) (fun _ => rfl)
end Go.Proofs.Ytigcdbeaachkoaa.PAll
