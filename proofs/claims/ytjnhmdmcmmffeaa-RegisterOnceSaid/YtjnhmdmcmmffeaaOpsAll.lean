/-
  What comes into these laws is held by cells, kind by kind.
  Conditions: none.
-/
import Derived.Test.YtjnhmdmcmmffeaaOpens
import Derived.Test.YtjnhmdmcmmffeaaPAllx0
namespace Go.Proofs.Ytjnhmdmcmmffeaa.PAll
open Go.RowKit Go.Proofs.YtjnhmdmcmmffeaaW.PrintWords Go.Proofs.YtjnhmdmcmmffeaaW.PrintLast
open Go.Proofs.Ytjnhmdmcmmffeaa
set_option linter.unusedVariables false
set_option linter.unusedSimpArgs false

def ok69 (x : S69) : Prop := ((Lit.int .u64 x.f0).wf = true) ∧ ((Lit.int .i64 x.f1).wf = true) ∧ (x.f2.length ≤ maxLen ∧ ∀ y_x_f2 ∈ x.f2, ((Lit.int .i64 y_x_f2).wf = true)) ∧ (x.f3.length ≤ maxLen ∧ ∀ y_x_f3 ∈ x.f3, ((Lit.int .i64 y_x_f3).wf = true)) ∧ ((Lit.int .i64 x.f4).wf = true)
theorem op69 : Opens.Opens Try.prog k69 69 ok69 :=
  Opens.struct Try.underlying69 (by kernel_rfl) (Opens.cons _ (i := 0) rfl rfl (by kernel_rfl) (Opens.int (P := Try.prog) (T := 22) Try.underlying22) (Opens.cons _ (i := 1) rfl rfl (by kernel_rfl) (Opens.int (P := Try.prog) (T := 38) Try.underlying38) (Opens.cons _ (i := 2) rfl rfl (by kernel_rfl) (Opens.slice (P := Try.prog) (T := 67) (e := 3) (d := (Kd.int .i64)) Try.underlying67 (by kernel_rfl) (Opens.int (P := Try.prog) (T := 3) Try.underlying3)) (Opens.cons _ (i := 3) rfl rfl (by kernel_rfl) (Opens.slice (P := Try.prog) (T := 67) (e := 3) (d := (Kd.int .i64)) Try.underlying67 (by kernel_rfl) (Opens.int (P := Try.prog) (T := 3) Try.underlying3)) (Opens.last _ (i := 4) rfl rfl (by kernel_rfl) (Opens.int (P := Try.prog) (T := 3) Try.underlying3)))))) _ (fun p => ⟨p.1, p.2.1, p.2.2.1, p.2.2.2.1, p.2.2.2.2⟩) (fun _ => rfl)
end Go.Proofs.Ytjnhmdmcmmffeaa.PAll
