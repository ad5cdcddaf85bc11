/-
  An array that is a list's.
  Conditions: none.
-/
import Derived.Test.YtigcdbeaachkoaaPAllx0
namespace Go.Proofs.Ytigcdbeaachkoaa.PAll
theorem arr_of {cs : Array Value} {l : List Value} (h : cs.toList = l) : cs = l.toArray := by rw [← h]
end Go.Proofs.Ytigcdbeaachkoaa.PAll
