/-
  What the document's cut of a span's bytes computes.
  Conditions: none.
-/
import Derived.Test.YtigcdbeaachkoaaPAllx0
import Derived.Test.YtigcdbeaachkoaaPAllx10
import Derived.Test.YtigcdbeaachkoaaPAllx11
import Derived.Test.YtigcdbeaachkoaaPAllx5
namespace Go.Proofs.Ytigcdbeaachkoaa.PAll
open Go.RowKit Go.Proofs.YtigcdbeaachkoaaW.PrintWords Go.Proofs.YtigcdbeaachkoaaW.PrintLast Go.Proofs.YtigcdbeaachkoaaW.PrintMore
attribute [local go_sem] max2_int min2_int max_two min_two max_three min_three max_four min_four   -- for this text's walks alone
set_option linter.unusedVariables false
set_option linter.unusedSimpArgs false
def winnowref03_Cut.f (k : Nat) (l0 : List Int) : Option (Int × Int × Int × Int × Int × ByteArray × ByteArray × Bool × List Int × Int) := if (l0.length : Int) < 41 then (some (0, 0, 0, 0, 0, (⟨#[]⟩ : ByteArray), (⟨#[]⟩ : ByteArray), false, ([] : List Int), 3)) else ((winnowref03_Number.f k l0).bind fun t129 => (if 8 ≤ (l0.length : Int) then ((winnowref03_Number.f k (l0.drop 8)).bind fun t135 => (if 16 ≤ (l0.length : Int) then ((winnowref03_Number.f k (l0.drop 16)).bind fun t141 => (if 24 ≤ (l0.length : Int) then ((winnowref03_Number.f k (l0.drop 24)).bind fun t147 => (if 32 ≤ (l0.length : Int) then ((winnowref03_Number.f k (l0.drop 32)).bind fun t153 => (if 40 < (l0.length : Int) then (if (rd l0 40) > 1 then (some (0, 0, 0, 0, 0, (⟨#[]⟩ : ByteArray), (⟨#[]⟩ : ByteArray), false, ([] : List Int), 6)) else (if 41 ≤ (l0.length : Int) then ((winnowref03_cutText.f k (l0.drop 41)).bind fun bt162 => (if bt162.2.2 = 0 then ((winnowref03_cutText.f k bt162.2.1).bind fun bt167 => (if bt167.2.2 = 0 then ((winnowref03_Right.f k t129 t135 t141 t147 t153 bt162.1 bt167.1 ((rd l0 40) == 1)).bind fun t172 => (if t172 = 0 then (some (t129, t135, t141, t147, t153, bt162.1, bt167.1, ((rd l0 40) == 1), bt167.2.1, 0)) else (some (0, 0, 0, 0, 0, (⟨#[]⟩ : ByteArray), (⟨#[]⟩ : ByteArray), false, ([] : List Int), t172)))) else (some (0, 0, 0, 0, 0, (⟨#[]⟩ : ByteArray), (⟨#[]⟩ : ByteArray), false, ([] : List Int), bt167.2.2)))) else (some (0, 0, 0, 0, 0, (⟨#[]⟩ : ByteArray), (⟨#[]⟩ : ByteArray), false, ([] : List Int), bt162.2.2)))) else (none))) else (none))) else (none))) else (none))) else (none))) else (none)))
end Go.Proofs.Ytigcdbeaachkoaa.PAll
