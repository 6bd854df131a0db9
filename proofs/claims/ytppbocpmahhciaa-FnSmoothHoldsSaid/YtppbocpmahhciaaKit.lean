/- Small laws of this session for walks: a region of reads with one tail, blocks, worlds. -/
import Derived.StillTailTactics
import Derived.Laws.OwnMore
import Derived.Test.YtppbocpmahhciaaWWords
import Derived.Test.YtppbocpmahhciaaWLast
set_option linter.unusedVariables false
namespace Go.Proofs.Ytppbocpmahhciaa.Kit
open Go.RowKit Go.Proofs.YtppbocpmahhciaaW.PrintWords Go.Proofs.YtppbocpmahhciaaW.PrintLast
/-- A region of which all operations but the last few only read or call quietly. -/
theorem still_tail {P : Program} {id : Nat} {Q : Exit → Act → World → Prop} {a : Act} {w : World} {l : List Oper} (n : Nat) (hm : P.follows .mixedOrders = true) (hB : Region.lexTailB .any l.toArray n = true)
    (h : wpStill P l.toArray w.drew (fun a' => wpList P l.toArray Q (l.drop n) a' w.drew) (l.take n) a) : (Code.region id l.toArray true).wp P Q a w := wp_region_still_tail n hm hB h
theorem blk_new' (w : World) (o : Obj) {g : Nat} (h : g = w.heap.size) : (w.alloc o).heap[g]? = some o := by rw [h]; exact heap_alloc_new w o
theorem cell_far {W : World} {g h i j : Nat} {u : Value} (hne : h ≠ g) : (W.setCell ⟨h, i, none⟩ u).cell? ⟨g, j, none⟩ = W.cell? ⟨g, j, none⟩ := by
  unfold World.cell?
  rw [Below.heap_setCell W ⟨h, i, none⟩ u g (Ne.symm hne)]
/-- A row of one's own where only a block of another type has turned. -/
theorem R_keepBlk {α : Type} {d : Kd α} {e : Nat} {w w1 : World} {base : Nat} {ok : Nat → Prop} {v : Value} {xs : List α} (h : d.R e w base ok v xs) {g t : Nat} {cells : Array Value} (hb : w.heap[g]? = some (.cells cells t (0, 0))) (ht : ∀ q, q ∈ e :: d.E → q ≠ t)
    (hk : ∀ k, k < w.heap.size → k ≠ g → w1.heap[k]? = w.heap[k]?) : d.R e w1 base ok v xs :=
  Kd.R_mono (Kd.R_step (Kd.R_types h hb ht) (fun k ho hl => hk k hl ho.2)) (fun _ h => h.1)
/-- A new row of nothing. -/
theorem R_new0 {α : Type} (d : Kd α) (W : World) {base : Nat} (e : Nat) (hb : base ≤ W.heap.size) : d.R e (W.alloc (.cells #[] e)) base (fun _ => True) (.slice (some ⟨W.heap.size, 0, none⟩) 0 0) [] :=
  ⟨fun _ _ => trivial, [], by have := World.ownsRow_lit (base := base) (e := e) (size := d.sz) W #[] 0 hb (Nat.zero_le _) (by simp); simpa using this, Reps.none _ _⟩
end Go.Proofs.Ytppbocpmahhciaa.Kit
