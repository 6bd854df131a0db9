/- Small laws of this session for walks: a region of reads with one tail, blocks, worlds. -/
import Derived.StillTailTactics
import Derived.Test.YtppbocpmahhciaaWWords
import Derived.Test.YtppbocpmahhciaaWLast
set_option linter.unusedVariables false
namespace Go.Proofs.Ytppbocpmahhciaa.Kit
open Go.RowKit Go.Proofs.YtppbocpmahhciaaW.PrintWords Go.Proofs.YtppbocpmahhciaaW.PrintLast
/-- A region of which all operations but the last few only read or call quietly. -/
theorem still_tail {P : Program} {id : Nat} {Q : Exit → Act → World → Prop} {a : Act} {w : World} {l : List Oper} (n : Nat) (hm : P.follows .mixedOrders = true) (hB : Region.lexTailB .any l.toArray n = true)
    (h : wpStill P l.toArray w.drew (fun a' => wpList P l.toArray Q (l.drop n) a' w.drew) (l.take n) a) : (Code.region id l.toArray true).wp P Q a w := wp_region_still_tail n hm hB h
theorem blk_new' (w : World) (o : Obj) {g : Nat} (h : g = w.heap.size) : (w.alloc o).heap[g]? = some o := by rw [h]; exact heap_alloc_new w o
theorem cell_far {W : World} {g h i j : Nat} {u : Value} (hne : h ≠ g) : (W.setCell ⟨h, i, none⟩ u).cell? ⟨g, j, none⟩ = W.cell? ⟨g, j, none⟩ := by
  unfold World.cell?
  rw [Below.heap_setCell W ⟨h, i, none⟩ u g (Ne.symm hne)]
end Go.Proofs.Ytppbocpmahhciaa.Kit
