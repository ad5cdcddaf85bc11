/-
  What comes into these laws is held by cells, kind by kind.
  Conditions: none.
-/
import Derived.Test.YtlpnpnjjmpkapaaOpens
import Derived.Test.YtlpnpnjjmpkapaaPAllx0
namespace Go.Proofs.Ytlpnpnjjmpkapaa.PAll
open Go.RowKit Go.Proofs.YtlpnpnjjmpkapaaW.PrintWords Go.Proofs.YtlpnpnjjmpkapaaW.PrintLast
open Go.Proofs.Ytlpnpnjjmpkapaa
set_option linter.unusedVariables false
set_option linter.unusedSimpArgs false

def ok24 (x : S24) : Prop := ((Lit.int .u64 x.f0).wf = true) ∧ ((Lit.int .u64 x.f1).wf = true)
theorem op24 : Opens.Opens Try.prog k24 24 ok24 :=
  Opens.struct Try.underlying24 (by kernel_rfl) (Opens.cons _ (i := 0) rfl rfl (by kernel_rfl) (Opens.int (P := Try.prog) (T := 22) Try.underlying22) (Opens.last _ (i := 1) rfl rfl (by kernel_rfl) (Opens.int (P := Try.prog) (T := 22) Try.underlying22))) _ (fun p => ⟨p.1, p.2⟩) (fun _ => rfl)
def ok76 (x : S76) : Prop := ((Lit.int .u64 x.f0).wf = true) ∧ ((Lit.int .u64 x.f1).wf = true) ∧ ((Lit.int .u64 x.f2).wf = true) ∧ ((Lit.int .u64 x.f3).wf = true) ∧ ((Lit.int .u64 x.f4).wf = true) ∧ (x.f5.size ≤ maxLen) ∧ (x.f6.size ≤ maxLen) ∧ (True)
theorem op76 : Opens.Opens Try.prog k76 76 ok76 :=
  Opens.struct Try.underlying76 (by kernel_rfl) (Opens.cons _ (i := 0) rfl rfl (by kernel_rfl) (Opens.int (P := Try.prog) (T := 22) Try.underlying22) (Opens.cons _ (i := 1) rfl rfl (by kernel_rfl) (Opens.int (P := Try.prog) (T := 22) Try.underlying22) (Opens.cons _ (i := 2) rfl rfl (by kernel_rfl) (Opens.int (P := Try.prog) (T := 22) Try.underlying22) (Opens.cons _ (i := 3) rfl rfl (by kernel_rfl) (Opens.int (P := Try.prog) (T := 22) Try.underlying22) (Opens.cons _ (i := 4) rfl rfl (by kernel_rfl) (Opens.int (P := Try.prog) (T := 22) Try.underlying22) (Opens.cons _ (i := 5) rfl rfl (by kernel_rfl) (Opens.string (P := Try.prog) (T := 9) Try.underlying9) (Opens.cons _ (i := 6) rfl rfl (by kernel_rfl) (Opens.string (P := Try.prog) (T := 9) Try.underlying9) (Opens.last _ (i := 7) rfl rfl (by kernel_rfl) (Opens.bool (P := Try.prog) (T := 4) Try.underlying4))))))))) _ (fun p => ⟨p.1, p.2.1, p.2.2.1, p.2.2.2.1, p.2.2.2.2.1, p.2.2.2.2.2.1, p.2.2.2.2.2.2.1, p.2.2.2.2.2.2.2⟩) (fun _ => rfl)
def ok92 (x : S92) : Prop := ((Lit.int .u64 x.f0).wf = true) ∧ ((Lit.int .u64 x.f1).wf = true) ∧ ((Lit.int .i64 x.f2).wf = true)
theorem op92 : Opens.Opens Try.prog k92 92 ok92 :=
  Opens.struct Try.underlying92 (by kernel_rfl) (Opens.cons _ (i := 0) rfl rfl (by kernel_rfl) (Opens.int (P := Try.prog) (T := 22) Try.underlying22) (Opens.cons _ (i := 1) rfl rfl (by kernel_rfl) (Opens.int (P := Try.prog) (T := 22) Try.underlying22) (Opens.last _ (i := 2) rfl rfl (by kernel_rfl) (Opens.int (P := Try.prog) (T := 3) Try.underlying3)))) _ (fun p => ⟨p.1, p.2.1, p.2.2⟩) (fun _ => rfl)
def ok30 (x : S30) : Prop := ((Lit.int .i64 x.f0).wf = true) ∧ ((Lit.int .u64 x.f1).wf = true) ∧ (ok24 x.f2) ∧ (ok24 x.f3) ∧ ((Lit.int .i64 x.f4).wf = true) ∧ (True) ∧ (x.f6.length ≤ maxLen ∧ ∀ y_x_f6 ∈ x.f6, (ok76 y_x_f6)) ∧ (x.f7.length ≤ maxLen ∧ ∀ y_x_f7 ∈ x.f7, (ok92 y_x_f7)) ∧ (x.f8.length ≤ maxLen ∧ ∀ y_x_f8 ∈ x.f8, ((Lit.int .u64 y_x_f8).wf = true))
theorem op30 : Opens.Opens Try.prog k30 30 ok30 :=
  Opens.struct Try.underlying30 (by kernel_rfl) (Opens.cons _ (i := 0) rfl rfl (by kernel_rfl) (Opens.int (P := Try.prog) (T := 3) Try.underlying3) (Opens.cons _ (i := 1) rfl rfl (by kernel_rfl) (Opens.int (P := Try.prog) (T := 22) Try.underlying22) (Opens.cons _ (i := 2) rfl rfl (by kernel_rfl) op24 (Opens.cons _ (i := 3) rfl rfl (by kernel_rfl) op24 (Opens.cons _ (i := 4) rfl rfl (by kernel_rfl) (Opens.int (P := Try.prog) (T := 25) Try.underlying25) (Opens.cons _ (i := 5) rfl rfl (by kernel_rfl) (Opens.bool (P := Try.prog) (T := 4) Try.underlying4) (Opens.cons _ (i := 6) rfl rfl (by kernel_rfl) (Opens.slice (P := Try.prog) (T := 26) (e := 76) (d := k76) Try.underlying26 (by kernel_rfl) op76) (Opens.cons _ (i := 7) rfl rfl (by kernel_rfl) (Opens.slice (P := Try.prog) (T := 27) (e := 92) (d := k92) Try.underlying27 (by kernel_rfl) op92) (Opens.last _ (i := 8) rfl rfl (by kernel_rfl) (Opens.slice (P := Try.prog) (T := 28) (e := 22) (d := (Kd.int .u64)) Try.underlying28 (by kernel_rfl) (Opens.int (P := Try.prog) (T := 22) Try.underlying22))))))))))) _ (fun p => ⟨p.1, p.2.1, p.2.2.1, p.2.2.2.1, p.2.2.2.2.1, p.2.2.2.2.2.1, p.2.2.2.2.2.2.1, p.2.2.2.2.2.2.2.1, p.2.2.2.2.2.2.2.2⟩) (fun _ => rfl)
end Go.Proofs.Ytlpnpnjjmpkapaa.PAll
