/-
  The law MessageRight, called with anything that its parameter's kind holds, returns true and writes nothing that was there.
  Conditions: none.
-/
import Derived.Test.YtlpnpnjjmpkapaaMsgRightLaw
import Derived.Test.YtlpnpnjjmpkapaaOpsAll
import Derived.Test.YtlpnpnjjmpkapaaArrOf
import Derived.Test.YtlpnpnjjmpkapaaPAllx20
namespace Go.Proofs.Ytlpnpnjjmpkapaa.PAll
open Go.RowKit Go.Proofs.YtlpnpnjjmpkapaaW.PrintWords Go.Proofs.YtlpnpnjjmpkapaaW.PrintLast Go.Proofs.YtlpnpnjjmpkapaaW.PrintMore
set_option linter.unusedVariables false
theorem wf_u {x : Int} (h : (Lit.int .u64 x).wf = true) : 0 ≤ x ∧ x < 18446744073709551616 := by
  have h2 : IntKind.u64.min ≤ x ∧ x ≤ IntKind.u64.max := by simpa [Lit.wf] using h
  have h3 : IntKind.u64.min = 0 := by decide
  have h4 : IntKind.u64.max = 18446744073709551615 := by decide
  omega
end Go.Proofs.Ytlpnpnjjmpkapaa.PAll
