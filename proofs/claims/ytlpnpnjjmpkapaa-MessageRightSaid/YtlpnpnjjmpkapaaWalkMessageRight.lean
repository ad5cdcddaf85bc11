/-
  The law MessageRight, called with anything that its parameter's kind holds, returns true and writes nothing that was there.
  Conditions: none.
-/
import Derived.Test.YtlpnpnjjmpkapaaMsgRightLaw
import Derived.Test.YtlpnpnjjmpkapaaOpsAll
import Derived.Test.YtlpnpnjjmpkapaaArrOf
import Derived.Test.YtlpnpnjjmpkapaaPAllx20
namespace Go.Proofs.Ytlpnpnjjmpkapaa.PAll
open Go.RowKit Go.Proofs.YtlpnpnjjmpkapaaW.PrintWords Go.Proofs.YtlpnpnjjmpkapaaW.PrintLast Go.Proofs.YtlpnpnjjmpkapaaW.PrintMore
set_option linter.unusedVariables false
theorem wf_u {x : Int} (h : (Lit.int .u64 x).wf = true) : 0 ≤ x ∧ x < 18446744073709551616 := by
  have h2 : IntKind.u64.min ≤ x ∧ x ≤ IntKind.u64.max := by simpa [Lit.wf] using h
  have h3 : IntKind.u64.min = 0 := by decide
  have h4 : IntKind.u64.max = 18446744073709551615 := by decide
  omega
theorem walk_MessageRight (W : World) (cs0 : Array Value) (x0 : S30) (hK0 : k30.K W x0 cs0.toList) (ok_0 : ok30 x0) :
    Calls Try.prog 3 #[.agg cs0] W fun e W' => e = .returned (.bool true) ∧ Below W.heap.size W W' := by
  obtain ⟨A8, c8, A9, c9, A10, c10, hcs, l8, C8, l9, C9, l10, C10⟩ := k30_open hK0
  obtain rfl := arr_of hcs
  obtain ⟨_, o1, o2, _, _, _, o6, o7, o8⟩ := ok_0
  exact winnowlaw05_MessageRight.calls 4000 _ _ _ _ _ _ _ _ A8 c8 _ A9 c9 _ A10 c10 _ true W C8 l8 C9 l9 C10 l10 rfl
    (MessageRight_law _ _ _ _ _ _ _ _ _ _ _ (fun s hs => wf_u (o6.2 s hs).2.1) (fun s hs => (wf_u (o7.2 s hs).1).1) (fun s hs => (wf_u (o8.2 s hs)).1) (wf_u o1).1 (wf_u o2.1).1)
end Go.Proofs.Ytlpnpnjjmpkapaa.PAll
