/-
  What comes into these laws is held by cells, kind by kind.
  Conditions: none.
-/
import Derived.Test.YtemepnpfhoidhaaDoorOpens
import Derived.Test.YtemepnpfhoidhaaDoorPAllx0
namespace Go.Proofs.YtemepnpfhoidhaaDoor.PAll
open Go.RowKit Go.Proofs.YtemepnpfhoidhaaDoorW.PrintWords Go.Proofs.YtemepnpfhoidhaaDoorW.PrintLast
open Go.Proofs.YtemepnpfhoidhaaDoor
set_option linter.unusedVariables false
set_option linter.unusedSimpArgs false

def ok39 (x : S39) : Prop := (True) ∧ (x.f1.size ≤ maxLen) ∧ ((Lit.int .u64 x.f2).wf = true) ∧ (x.f3.size ≤ maxLen)
theorem op39 : Opens.Opens Tryd.prog k39 39 ok39 :=
  Opens.struct Tryd.underlying39 (by kernel_rfl) (Opens.cons _ (i := 0) rfl rfl (by kernel_rfl) (Opens.bool (P := Tryd.prog) (T := 4) Tryd.underlying4) (Opens.cons _ (i := 1) rfl rfl (by kernel_rfl) (Opens.string (P := Tryd.prog) (T := 9) Tryd.underlying9) (Opens.cons _ (i := 2) rfl rfl (by kernel_rfl) (Opens.int (P := Tryd.prog) (T := 22) Tryd.underlying22) (Opens.last _ (i := 3) rfl rfl (by kernel_rfl) (Opens.string (P := Tryd.prog) (T := 9) Tryd.underlying9))))) _ (fun p => ⟨p.1, p.2.1, p.2.2.1, p.2.2.2⟩) (fun _ => rfl)
def ok44 (x : S44) : Prop := ((Lit.int .u64 x.f0).wf = true) ∧ ((Lit.int .u64 x.f1).wf = true) ∧ ((Lit.int .u64 x.f2).wf = true) ∧ ((Lit.int .u64 x.f3).wf = true) ∧ ((Lit.int .u64 x.f4).wf = true) ∧ (x.f5.size ≤ maxLen) ∧ (x.f6.size ≤ maxLen) ∧ (True)
theorem op44 : Opens.Opens Tryd.prog k44 44 ok44 :=
  Opens.struct Tryd.underlying44 (by kernel_rfl) (Opens.cons _ (i := 0) rfl rfl (by kernel_rfl) (Opens.int (P := Tryd.prog) (T := 22) Tryd.underlying22) (Opens.cons _ (i := 1) rfl rfl (by kernel_rfl) (Opens.int (P := Tryd.prog) (T := 22) Tryd.underlying22) (Opens.cons _ (i := 2) rfl rfl (by kernel_rfl) (Opens.int (P := Tryd.prog) (T := 22) Tryd.underlying22) (Opens.cons _ (i := 3) rfl rfl (by kernel_rfl) (Opens.int (P := Tryd.prog) (T := 22) Tryd.underlying22) (Opens.cons _ (i := 4) rfl rfl (by kernel_rfl) (Opens.int (P := Tryd.prog) (T := 22) Tryd.underlying22) (Opens.cons _ (i := 5) rfl rfl (by kernel_rfl) (Opens.string (P := Tryd.prog) (T := 9) Tryd.underlying9) (Opens.cons _ (i := 6) rfl rfl (by kernel_rfl) (Opens.string (P := Tryd.prog) (T := 9) Tryd.underlying9) (Opens.last _ (i := 7) rfl rfl (by kernel_rfl) (Opens.bool (P := Tryd.prog) (T := 4) Tryd.underlying4))))))))) _ (fun p => ⟨p.1, p.2.1, p.2.2.1, p.2.2.2.1, p.2.2.2.2.1, p.2.2.2.2.2.1, p.2.2.2.2.2.2.1, p.2.2.2.2.2.2.2⟩) (fun _ => rfl)
end Go.Proofs.YtemepnpfhoidhaaDoor.PAll
