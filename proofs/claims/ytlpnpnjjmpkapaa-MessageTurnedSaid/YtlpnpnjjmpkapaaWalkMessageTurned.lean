/-
  The law MessageTurned, called with anything that its parameters' kinds hold, returns true and writes nothing that was there.
  Conditions: none.
-/
import Derived.Test.YtlpnpnjjmpkapaaMsgTurnedPure
import Derived.Test.YtlpnpnjjmpkapaaOpsAll
import Derived.Test.YtlpnpnjjmpkapaaArrOf
import Derived.Test.YtlpnpnjjmpkapaaPAllx16
namespace Go.Proofs.Ytlpnpnjjmpkapaa.PAll
open Go.RowKit Go.Proofs.YtlpnpnjjmpkapaaW.PrintWords Go.Proofs.YtlpnpnjjmpkapaaW.PrintLast Go.Proofs.YtlpnpnjjmpkapaaW.PrintMore
set_option linter.unusedVariables false
theorem wf_u {x : Int} (h : (Lit.int .u64 x).wf = true) : 0 ≤ x ∧ x < 18446744073709551616 := by
  have h2 : IntKind.u64.min ≤ x ∧ x ≤ IntKind.u64.max := by simpa [Lit.wf] using h
  have h3 : IntKind.u64.min = 0 := by decide
  have h4 : IntKind.u64.max = 18446744073709551615 := by decide
  omega
theorem wf_b {x : Int} (h : (Lit.int .u8 x).wf = true) : 0 ≤ x ∧ x ≤ 255 := by
  have h2 : IntKind.u8.min ≤ x ∧ x ≤ IntKind.u8.max := by simpa [Lit.wf] using h
  have h3 : IntKind.u8.min = 0 := by decide
  have h4 : IntKind.u8.max = 255 := by decide
  omega
theorem walk_MessageTurned (W : World) (cs0 : Array Value) (x0 : S30) (hK0 : k30.K W x0 cs0.toList) (ok_0 : ok30 x0)
    (b1 : Int) (ok_1 : (Lit.int .i64 b1).wf = true)
    (b2 : Int) (ok_2 : (Lit.int .u8 b2).wf = true) :
    Calls Try.prog 8 #[.agg cs0, .int .i64 b1, .int .u8 b2] W fun e W' => e = .returned (.bool true) ∧ Below W.heap.size W W' := by
  obtain ⟨A8, c8, A9, c9, A10, c10, hcs, l8, C8, l9, C9, l10, C10⟩ := k30_open hK0
  obtain rfl := arr_of hcs
  obtain ⟨_, o1, o2, _, _, _, o6, o7, o8⟩ := ok_0
  exact winnowlaw05_MessageTurned.calls 4000 _ _ _ _ _ _ _ _ A8 c8 _ A9 c9 _ A10 c10 _ b1 b2 true W C8 l8 C9 l9 C10 l10 rfl
    (turned_law _ _ _ _ _ _ _ _ _ _ _ b1 b2 (fun s hs => wf_u (o6.2 s hs).2.1) (wf_b ok_2))
end Go.Proofs.Ytlpnpnjjmpkapaa.PAll
