/-
  What comes into these laws is held by cells, kind by kind.
  Conditions: none.
-/
import Derived.Test.YtjamddlclahhjaaOpens
import Derived.Test.YtjamddlclahhjaaPAllx0
namespace Go.Proofs.Ytjamddlclahhjaa.PAll
open Go.RowKit Go.Proofs.YtjamddlclahhjaaW.PrintWords Go.Proofs.YtjamddlclahhjaaW.PrintLast
open Go.Proofs.Ytjamddlclahhjaa
set_option linter.unusedVariables false
set_option linter.unusedSimpArgs false

end Go.Proofs.Ytjamddlclahhjaa.PAll
