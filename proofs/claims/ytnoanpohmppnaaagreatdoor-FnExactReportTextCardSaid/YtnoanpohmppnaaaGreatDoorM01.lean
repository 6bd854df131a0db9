/- A function of the library by hand: RvHkn1. -/
import Derived.Test.YtnoanpohmppnaaaGreatDoorM00
import Derived.Lib.LaidTab
import Derived.Lib.ItoaNum
import Derived.KernelRfl
set_option linter.unusedVariables false
set_option linter.unusedSimpArgs false
set_option linter.unusedSectionVars false
namespace Go.Rv
open Go.Proofs Go.RowKit
/-- where the table of the powers of ten lies -/
abbrev tenB : Nat := 0
def tenCells : Array Value := (Lib.pow10Tab.map fun z => Value.int .u64 z).toArray
theorem ten_named : Tryz.prog.globalNamed "internal/strconv.uint64pow10" = some tenB := by kernel_rfl
/-- what is known of the worlds here: the table of the powers of ten lies where nobody writes -/
def KN : Kn := ⟨False, fun J w => J tenB ∧ ∃ t f, w.heap[tenB]? = some (.cells tenCells t f), fun h ⟨h1, t, f, h2⟩ => ⟨(h _ h1).1, t, f, (h _ h1).2.trans h2⟩⟩
theorem KN_ten {J : Nat → Prop} {w : World} (h : KN.tab J w) : ∃ t f, w.heap[tenB]? = some (.cells tenCells t f) := h.2
end Go.Rv
