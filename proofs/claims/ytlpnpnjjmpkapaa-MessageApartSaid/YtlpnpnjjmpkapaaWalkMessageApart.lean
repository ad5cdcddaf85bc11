/-
  The law MessageApart, called with anything that its parameters' kinds hold, returns true and writes nothing that was there.
  Conditions: none.
-/
import Derived.Test.YtlpnpnjjmpkapaaMsgApartPure
import Derived.Test.YtlpnpnjjmpkapaaOpsAll
import Derived.Test.YtlpnpnjjmpkapaaArrOf
import Derived.Test.YtlpnpnjjmpkapaaPAllx17
namespace Go.Proofs.Ytlpnpnjjmpkapaa.PAll
open Go.RowKit Go.Proofs.YtlpnpnjjmpkapaaW.PrintWords Go.Proofs.YtlpnpnjjmpkapaaW.PrintLast Go.Proofs.YtlpnpnjjmpkapaaW.PrintMore
set_option linter.unusedVariables false
theorem wf_r {x : Int} (h : (Lit.int .u64 x).wf = true) : R64 x := by
  have h2 : IntKind.u64.min ≤ x ∧ x ≤ IntKind.u64.max := by simpa [Lit.wf] using h
  have h3 : IntKind.u64.min = 0 := by decide
  have h4 : IntKind.u64.max = 18446744073709551615 := by decide
  unfold R64
  omega
theorem wp_of {x : S30} (h : ok30 x) : WP x.f1 x.f2.f0 x.f2.f1 x.f3.f0 x.f3.f1 x.f6 x.f7 x.f8 := by
  obtain ⟨_, o1, o2, o3, _, _, o6, o7, o8⟩ := h
  exact ⟨wf_r o1, wf_r o2.1, wf_r o2.2, wf_r o3.1, wf_r o3.2, fun s hs => ⟨wf_r (o6.2 s hs).1, wf_r (o6.2 s hs).2.1, wf_r (o6.2 s hs).2.2.1, wf_r (o6.2 s hs).2.2.2.1, wf_r (o6.2 s hs).2.2.2.2.1⟩, fun s hs => ⟨wf_r (o7.2 s hs).1, wf_r (o7.2 s hs).2.1⟩, fun n hn => wf_r (o8.2 n hn)⟩
theorem walk_MessageApart (W : World) (cs0 : Array Value) (x0 : S30) (hK0 : k30.K W x0 cs0.toList) (ok_0 : ok30 x0)
    (cs1 : Array Value) (x1 : S30) (hK1 : k30.K W x1 cs1.toList) (ok_1 : ok30 x1) :
    Calls Try.prog 9 #[.agg cs0, .agg cs1] W fun e W' => e = .returned (.bool true) ∧ Below W.heap.size W W' := by
  obtain ⟨A8, c8, A9, c9, A10, c10, hcs, l8, C8, l9, C9, l10, C10⟩ := k30_open hK0
  obtain rfl := arr_of hcs
  obtain ⟨B8, d8, B9, d9, B10, d10, hct, m8, D8, m9, D9, m10, D10⟩ := k30_open hK1
  obtain rfl := arr_of hct
  exact winnowlaw05_MessageApart.calls 20000 _ _ _ _ _ _ _ _ A8 c8 _ A9 c9 _ A10 c10 _ _ _ _ _ _ _ _ _ B8 d8 _ B9 d9 _ B10 d10 _ true W C8 l8 C9 l9 C10 l10 D8 m8 D9 m9 D10 m10 rfl
    (apart_law _ _ _ _ _ _ _ _ _ _ _ _ _ _ _ _ _ _ _ _ _ _ (wp_of ok_0) (wp_of ok_1))
end Go.Proofs.Ytlpnpnjjmpkapaa.PAll
