/-
  Plain lemmas on the functions.
  Conditions: none.
-/
import Derived.Test.YtmfiijdlhjajcaaGreatDoorNodeServesPProgTie
set_option linter.unusedVariables false
set_option linter.unusedSimpArgs false
set_option maxRecDepth 20000
namespace Go.PE
end Go.PE
