/-
  Plain lemmas on the functions.
  Conditions: none.
-/
import Derived.Test.YtemajkklbjdmjaaClusSizesPClusBase
set_option linter.unusedVariables false
set_option linter.unusedSimpArgs false
set_option maxRecDepth 20000
namespace Go.PE
theorem begun8 : pleachlaw8_begun = some ((true, ()), ()) := by kernel_rfl
end Go.PE
