/-
  strings.Join is laid in the text that this one imports.
  Conditions: none.
-/
import Derived.Test.YtemepnpfhoidhaaGreatDoorPolicyLaid
