/-
  An array that is a list's.
  Conditions: none.
-/
import Derived.Test.YtlpnpnjjmpkapaaPAllx0
namespace Go.Proofs.Ytlpnpnjjmpkapaa.PAll
theorem arr_of {cs : Array Value} {l : List Value} (h : cs.toList = l) : cs = l.toArray := by rw [← h]
end Go.Proofs.Ytlpnpnjjmpkapaa.PAll
