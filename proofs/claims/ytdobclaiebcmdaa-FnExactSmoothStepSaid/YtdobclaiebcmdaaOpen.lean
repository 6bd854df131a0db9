/- Opening an argument that is a struct of int64 fields: its value is written out, each number fits int64. -/
import Derived.Test.YtdobclaiebcmdaaRows
import Derived.WalkKit
import Derived.ProofKit
import Derived.OpenShut
import Derived.ShutString
import Derived.ChangeOld
import Derived.Below
import Derived.SizedLaws
import Derived.ChangeArms
namespace Go.Proofs.Ytdobclaiebcmdaa.Open
open Go.ChangeShapes Go.WideShapes Go.ChangeAt Go.RowKit
section
variable {H : Type} {enc : TypeId × Value → H} {P : Program} {w : World} {base : Nat} {spare : Nat → Bool} {held : Bool}

/-- the fields of a struct are int64s, one cell each -/
def flatI64 (P : Program) (fs : Array Field) : Prop :=
  ∀ (i : Nat) (f : Field), fs[i]? = some f → P.underlying f.type = some (.int .i64) ∧ f.offset = i ∧ P.cellsOf f.type = 1

/-- the cells of a struct of int64 fields, read -/
theorem cells_flat {t : TypeId} {fs : Array Field} {fuel : Nat} {cs : List Value} {x : DataW H × List MemPlace} (hs : P.underlying t = some (.struct fs)) (hone : flatI64 P fs) (hC : P.cellsOf t = fs.size)
    (h : DataW.trod enc P w base spare held fuel t cs = some x) :
    ∃ zs : List Int, zs.length = fs.size ∧ cs = zs.map (Value.int .i64) ∧ x = (.agg (zs.map fun z => .lit (.int .i64 z)), []) ∧ ∀ z ∈ zs, (Lit.int .i64 z).wf = true := by
  obtain ⟨xs, n, _, hx, hlen, hxl, hg⟩ := DataW.trod_struct hs h
  have step : ∀ (i : Nat), i < fs.size → ∃ z, cs[i]? = some (.int .i64 z) ∧ xs[i]? = some (.lit (.int .i64 z), []) ∧ (Lit.int .i64 z).wf = true := by
    intro i hi
    obtain ⟨hu, ho, hk⟩ := hone i fs[i] (Array.getElem?_eq_getElem hi)
    have h1 := hg i fs[i] (Array.getElem?_eq_getElem hi)
    have hil : i < cs.length := by omega
    rw [ho, hk, List.drop_eq_getElem_cons hil, List.take_succ_cons, List.take_zero] at h1
    have hxi : xs[i]? = some (xs[i]'(by omega)) := List.getElem?_eq_getElem (by omega)
    rw [hxi] at h1
    obtain ⟨z, hz, hx1, hw⟩ := DataW.trod_int hu h1
    refine ⟨z, ?_, ?_, hw⟩
    · rw [List.getElem?_eq_getElem hil]; simpa using hz
    · rw [hxi, hx1]
  have hcl : cs.length = fs.size := by omega
  obtain ⟨zs, hzl, hcs, hxs, hwf⟩ : ∃ zs : List Int, zs.length = fs.size ∧ cs = zs.map (Value.int .i64) ∧ xs = zs.map (fun z => (.lit (.int .i64 z), [])) ∧ ∀ z ∈ zs, (Lit.int .i64 z).wf = true := by
    clear hx h hg hlen hs
    revert hcl hxl step
    generalize fs.size = n
    intro hxl step hcl
    induction cs generalizing xs n with
    | nil =>
      have : n = 0 := by simpa using hcl.symm
      subst this
      have : xs = [] := List.eq_nil_of_length_eq_zero hxl
      subst this
      exact ⟨[], rfl, rfl, rfl, by simp⟩
    | cons c cs ih =>
      cases n with
      | zero => simp at hcl
      | succ n =>
        cases xs with
        | nil => simp at hxl
        | cons y ys =>
          obtain ⟨z, h1, h2, h3⟩ := step 0 (by omega)
          obtain ⟨zs, a, b, d, e⟩ := ih ys n (by simpa using hxl) (fun i hi => by
            obtain ⟨z, h1, h2, h3⟩ := step (i + 1) (by omega)
            exact ⟨z, by simpa using h1, by simpa using h2, h3⟩) (by simpa using hcl)
          simp at h1 h2
          refine ⟨z :: zs, by simp [a], by rw [h1, b]; rfl, by rw [h2, d]; rfl, ?_⟩
          intro u hu
          rcases List.mem_cons.1 hu with rfl | hu
          · exact h3
          · exact e u hu
  refine ⟨zs, hzl, hcs, ?_, hwf⟩
  rw [hx, hxs]
  simp [List.map_map, Function.comp_def]

/-- a struct of int64 fields by value -/
theorem open_flat {r : Reach} {b0 : Nat} {t : TypeId} {fs : Array Field} {v : Value} {d : DataW H} {p : List MemPlace} (hs : P.underlying t = some (.struct fs)) (hone : flatI64 P fs) (hC : P.cellsOf t = fs.size)
    (hv : Value.okWide P w r b0 t v) (h : DataW.Trod enc P w base spare held t v d p) :
    ∃ zs : List Int, zs.length = fs.size ∧ v = .agg (zs.map (Value.int .i64)).toArray ∧ d = .agg (zs.map fun z => .lit (.int .i64 z)) ∧ p = [] ∧ ∀ z ∈ zs, (Lit.int .i64 z).wf = true := by
  obtain ⟨cs, rfl, hsz⟩ := okWide_struct hs hv
  obtain ⟨fuel, hf⟩ := h
  obtain ⟨zs, hl, hc, hx, hw⟩ := cells_flat hs hone hC (by simpa [Value.cells] using hf)
  simp only [Prod.mk.injEq] at hx
  exact ⟨zs, hl, by rw [← hc], hx.1, hx.2, hw⟩

theorem bd_i64 {z : Int} (h : (Lit.int .i64 z).wf = true) : -9223372036854775808 ≤ z ∧ z ≤ 9223372036854775807 := bounds_i64 h
end
end Go.Proofs.Ytdobclaiebcmdaa.Open
