/-
  What comes into these laws is held by cells, kind by kind.
  Conditions: none.
-/
import Derived.Test.YtemepnpfhoidhaaGreatDoorOpens
import Derived.Test.YtemepnpfhoidhaaGreatDoorPAllx0
namespace Go.Proofs.YtemepnpfhoidhaaGreatDoor.PAll
open Go.RowKit Go.Proofs.YtemepnpfhoidhaaGreatDoorW.PrintWords Go.Proofs.YtemepnpfhoidhaaGreatDoorW.PrintLast
open Go.Proofs.YtemepnpfhoidhaaGreatDoor
set_option linter.unusedVariables false
set_option linter.unusedSimpArgs false

def ok37 (x : S37) : Prop := (True) ∧ (x.f1.size ≤ maxLen) ∧ ((Lit.int .u64 x.f2).wf = true) ∧ (x.f3.size ≤ maxLen)
theorem op37 : Opens.Opens Tryz.prog k37 37 ok37 :=
  Opens.struct Tryz.underlying37 (by kernel_rfl) (Opens.cons _ (i := 0) rfl rfl (by kernel_rfl) (Opens.bool (P := Tryz.prog) (T := 4) Tryz.underlying4) (Opens.cons _ (i := 1) rfl rfl (by kernel_rfl) (Opens.string (P := Tryz.prog) (T := 9) Tryz.underlying9) (Opens.cons _ (i := 2) rfl rfl (by kernel_rfl) (Opens.int (P := Tryz.prog) (T := 35) Tryz.underlying35) (Opens.last _ (i := 3) rfl rfl (by kernel_rfl) (Opens.string (P := Tryz.prog) (T := 9) Tryz.underlying9))))) _ (fun p => ⟨p.1, p.2.1, p.2.2.1, p.2.2.2⟩) (fun _ => rfl)
end Go.Proofs.YtemepnpfhoidhaaGreatDoor.PAll
