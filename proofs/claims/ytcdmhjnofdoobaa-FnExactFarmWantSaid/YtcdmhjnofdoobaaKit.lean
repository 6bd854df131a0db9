/- Small laws of this session for walks: a region of reads with one tail, blocks, worlds. -/
import Derived.StillTailTactics
import Derived.Laws.OwnMore
import Derived.BigQuiet
import Derived.Test.YtcdmhjnofdoobaaWWords
import Derived.Test.YtcdmhjnofdoobaaWLast
set_option linter.unusedVariables false
namespace Go.Proofs.Ytcdmhjnofdoobaa.Kit
open Go.RowKit Go.Proofs.YtcdmhjnofdoobaaW.PrintWords Go.Proofs.YtcdmhjnofdoobaaW.PrintLast
/-- A region of which all operations but the last few only read or call quietly. -/
theorem still_tail {P : Program} {id : Nat} {Q : Exit → Act → World → Prop} {a : Act} {w : World} {l : List Oper} (n : Nat) (hm : P.follows .mixedOrders = true) (hB : Region.lexTailB .any l.toArray n = true)
    (h : wpStill P l.toArray w.drew (fun a' => wpList P l.toArray Q (l.drop n) a' w.drew) (l.take n) a) : (Code.region id l.toArray true).wp P Q a w := wp_region_still_tail n hm hB h
theorem blk_new' (w : World) (o : Obj) {g : Nat} (h : g = w.heap.size) : (w.alloc o).heap[g]? = some o := by rw [h]; exact heap_alloc_new w o
theorem cell_far {W : World} {g h i j : Nat} {u : Value} (hne : h ≠ g) : (W.setCell ⟨h, i, none⟩ u).cell? ⟨g, j, none⟩ = W.cell? ⟨g, j, none⟩ := by
  unfold World.cell?
  rw [Below.heap_setCell W ⟨h, i, none⟩ u g (Ne.symm hne)]
/-- A row of one's own where only a block of another type has turned. -/
theorem R_keepBlk {α : Type} {d : Kd α} {e : Nat} {w w1 : World} {base : Nat} {ok : Nat → Prop} {v : Value} {xs : List α} (h : d.R e w base ok v xs) {g t : Nat} {cells : Array Value} (hb : w.heap[g]? = some (.cells cells t (0, 0))) (ht : ∀ q, q ∈ e :: d.E → q ≠ t)
    (hk : ∀ k, k < w.heap.size → k ≠ g → w1.heap[k]? = w.heap[k]?) : d.R e w1 base ok v xs :=
  Kd.R_mono (Kd.R_step (Kd.R_types h hb ht) (fun k ho hl => hk k hl ho.2)) (fun _ h => h.1)
/-- A new row of nothing. -/
theorem R_new0 {α : Type} (d : Kd α) (W : World) {base : Nat} (e : Nat) (hb : base ≤ W.heap.size) : d.R e (W.alloc (.cells #[] e)) base (fun _ => True) (.slice (some ⟨W.heap.size, 0, none⟩) 0 0) [] :=
  ⟨fun _ _ => trivial, [], by have := World.ownsRow_lit (base := base) (e := e) (size := d.sz) W #[] 0 hb (Nat.zero_le _) (by simp); simpa using this, Reps.none _ _⟩
theorem cell_on {W W' : World} {a : Addr} {v : Value} (hb : Below W.heap.size W W') (h : W.cell? a = some v) : W'.cell? a = some v := (hb.cell (World.block_lt_of_cell? W a h)).trans h
/-- a region that draws its order, whose operations only read and whose callees only read or make new memory: one walk, in the text's order, in whatever world above the one at hand -/
theorem wp_region_on {P : Program} {id : Nat} {Q : Exit → Act → World → Prop} {a : Act} {w : World} {l : List Oper} (hm : P.follows .mixedOrders = true) (hB : Region.lexB .any l.toArray = true)
    (h : ∀ (T : Type) (val : T → World) (_ : Nonempty T), (∀ t, Below w.heap.size w (val t)) → (∀ t w', Below (val t).heap.size (val t) w' → ∃ u, w' = val u) →
      wpQuiet P l.toArray (fun w' => ∃ t, w' = val t) (fun a' => ∀ t, Q .normal a' (val t)) l a) : (Code.region id l.toArray true).wp P Q a w := by
  refine wp_region_quiet (C := fun w' => ∃ t : {W : World // Below w.heap.size w W}, w' = t.1) hm hB ⟨⟨w.drew, below_drew1 (Below.refl _ _)⟩, rfl⟩ ?_
  have := h {W : World // Below w.heap.size w W} (fun t => t.1) ⟨⟨w, Below.refl _ _⟩⟩ (fun t => t.2) (fun t w' hb => ⟨⟨w', below_step t.2 hb⟩, rfl⟩)
  have e : (fun a' => ∀ w' : World, (∃ t : {W : World // Below w.heap.size w W}, w' = t.1) → Q .normal a' w') = (fun a' => ∀ t : {W : World // Below w.heap.size w W}, Q .normal a' t.1) := by
    funext a'
    simp
  rw [e]
  simpa using this
/-- a test's answer, as a Bool, and what it says -/
theorem told {p : Prop} [Decidable p] {g : Option Bool} {P : Program} {f : FuncId} {args : Array Value} (hf : g = some (decide p)) (hc : ∀ (r : Bool) (w : World), g = some r → Calls P f args w fun e w' => e = .returned (.bool r) ∧ Drawn0 w w') :
    ∃ q : Bool, Aside0 (q = true ↔ p) ∧ ∀ W, Aside0 (Calls P f args W fun e w' => e = .returned (.bool q) ∧ Drawn0 W w') := ⟨decide p, ⟨decide_eq_true_iff⟩, fun W => ⟨hc _ W hf⟩⟩
end Go.Proofs.Ytcdmhjnofdoobaa.Kit
