/- Plain facts: FarmShares-law-both. -/
import Derived.Test.YtnoanpohmppnaaaGreatDoorM20
set_option linter.unusedVariables false
set_option linter.unusedSimpArgs false
set_option linter.unusedSectionVars false
namespace Go.Rv
theorem pr_range (l : List I4) (A : List (Int × Unit)) : pr l A = (List.range A.length).map fun j => ((g4 l j).1, fI A j, ()) := by
 apply List.ext_getElem
 ·simp [pr]
 ·intro i h1 h2
  have hi : i < A.length := by simpa [pr] using h1
  simp [pr, fI, List.getD_eq_getElem?_getD, hi]
end Go.Rv
