/- Opening an argument that is a struct of int64 fields: its value is written out, each number fits int64. -/
import Derived.Test.YtcdmhjnofdoobaaRows
import Derived.WalkKit
import Derived.ProofKit
import Derived.OpenShut
import Derived.ShutString
import Derived.ChangeOld
import Derived.Below
import Derived.SizedLaws
import Derived.ChangeArms
import Derived.Deep.Slices
import Derived.DataReads
namespace Go.Proofs.Ytcdmhjnofdoobaa.Open
open Go.ChangeShapes Go.WideShapes Go.ChangeAt Go.RowKit
section
variable {H : Type} {enc : TypeId × Value → H} {P : Program} {w : World} {base : Nat} {spare : Nat → Bool} {held : Bool}

/-- the fields of a struct are int64s, one cell each -/
def flatI64 (P : Program) (fs : Array Field) : Prop :=
  ∀ (i : Nat) (f : Field), fs[i]? = some f → P.underlying f.type = some (.int .i64) ∧ f.offset = i ∧ P.cellsOf f.type = 1

/-- the cells of a struct of int64 fields, read -/
theorem cells_flat {t : TypeId} {fs : Array Field} {fuel : Nat} {cs : List Value} {x : DataW H × List MemPlace} (hs : P.underlying t = some (.struct fs)) (hone : flatI64 P fs) (hC : P.cellsOf t = fs.size)
    (h : DataW.trod enc P w base spare held fuel t cs = some x) :
    ∃ zs : List Int, zs.length = fs.size ∧ cs = zs.map (Value.int .i64) ∧ x = (.agg (zs.map fun z => .lit (.int .i64 z)), []) ∧ ∀ z ∈ zs, (Lit.int .i64 z).wf = true := by
  obtain ⟨xs, n, _, hx, hlen, hxl, hg⟩ := DataW.trod_struct hs h
  have step : ∀ (i : Nat), i < fs.size → ∃ z, cs[i]? = some (.int .i64 z) ∧ xs[i]? = some (.lit (.int .i64 z), []) ∧ (Lit.int .i64 z).wf = true := by
    intro i hi
    obtain ⟨hu, ho, hk⟩ := hone i fs[i] (Array.getElem?_eq_getElem hi)
    have h1 := hg i fs[i] (Array.getElem?_eq_getElem hi)
    have hil : i < cs.length := by omega
    rw [ho, hk, List.drop_eq_getElem_cons hil, List.take_succ_cons, List.take_zero] at h1
    have hxi : xs[i]? = some (xs[i]'(by omega)) := List.getElem?_eq_getElem (by omega)
    rw [hxi] at h1
    obtain ⟨z, hz, hx1, hw⟩ := DataW.trod_int hu h1
    refine ⟨z, ?_, ?_, hw⟩
    · rw [List.getElem?_eq_getElem hil]; simpa using hz
    · rw [hxi, hx1]
  have hcl : cs.length = fs.size := by omega
  obtain ⟨zs, hzl, hcs, hxs, hwf⟩ : ∃ zs : List Int, zs.length = fs.size ∧ cs = zs.map (Value.int .i64) ∧ xs = zs.map (fun z => (.lit (.int .i64 z), [])) ∧ ∀ z ∈ zs, (Lit.int .i64 z).wf = true := by
    clear hx h hg hlen hs
    revert hcl hxl step
    generalize fs.size = n
    intro hxl step hcl
    induction cs generalizing xs n with
    | nil =>
      have : n = 0 := by simpa using hcl.symm
      subst this
      have : xs = [] := List.eq_nil_of_length_eq_zero hxl
      subst this
      exact ⟨[], rfl, rfl, rfl, by simp⟩
    | cons c cs ih =>
      cases n with
      | zero => simp at hcl
      | succ n =>
        cases xs with
        | nil => simp at hxl
        | cons y ys =>
          obtain ⟨z, h1, h2, h3⟩ := step 0 (by omega)
          obtain ⟨zs, a, b, d, e⟩ := ih ys n (by simpa using hxl) (fun i hi => by
            obtain ⟨z, h1, h2, h3⟩ := step (i + 1) (by omega)
            exact ⟨z, by simpa using h1, by simpa using h2, h3⟩) (by simpa using hcl)
          simp at h1 h2
          refine ⟨z :: zs, by simp [a], by rw [h1, b]; rfl, by rw [h2, d]; rfl, ?_⟩
          intro u hu
          rcases List.mem_cons.1 hu with rfl | hu
          · exact h3
          · exact e u hu
  refine ⟨zs, hzl, hcs, ?_, hwf⟩
  rw [hx, hxs]
  simp [List.map_map, Function.comp_def]

/-- a struct of int64 fields by value -/
theorem open_flat {r : Reach} {b0 : Nat} {t : TypeId} {fs : Array Field} {v : Value} {d : DataW H} {p : List MemPlace} (hs : P.underlying t = some (.struct fs)) (hone : flatI64 P fs) (hC : P.cellsOf t = fs.size)
    (hv : Value.okWide P w r b0 t v) (h : DataW.Trod enc P w base spare held t v d p) :
    ∃ zs : List Int, zs.length = fs.size ∧ v = .agg (zs.map (Value.int .i64)).toArray ∧ d = .agg (zs.map fun z => .lit (.int .i64 z)) ∧ p = [] ∧ ∀ z ∈ zs, (Lit.int .i64 z).wf = true := by
  obtain ⟨cs, rfl, hsz⟩ := okWide_struct hs hv
  obtain ⟨fuel, hf⟩ := h
  obtain ⟨zs, hl, hc, hx, hw⟩ := cells_flat hs hone hC (by simpa [Value.cells] using hf)
  simp only [Prod.mk.injEq] at hx
  exact ⟨zs, hl, by rw [← hc], hx.1, hx.2, hw⟩

theorem bd_i64 {z : Int} (h : (Lit.int .i64 z).wf = true) : -9223372036854775808 ≤ z ∧ z ≤ 9223372036854775807 := bounds_i64 h

theorem collect {α : Type} {Q : Nat → α → Prop} : ∀ (n : Nat), (∀ i, i < n → ∃ z, Q i z) → ∃ l : List α, l.length = n ∧ ∀ i z, l[i]? = some z → Q i z
  | 0, _ => ⟨[], rfl, by simp⟩
  | m + 1, step => by
    obtain ⟨zss, a1, a2⟩ := collect m (fun i hi => step i (by omega))
    obtain ⟨zs, b⟩ := step m (by omega)
    refine ⟨zss ++ [zs], by simp [a1], fun i zs' h' => ?_⟩
    rcases Nat.lt_or_ge i zss.length with hlt | hge
    · rw [List.getElem?_append_left hlt] at h'
      exact a2 i zs' h'
    · rw [List.getElem?_append_right hge] at h'
      have hi0 : i - zss.length = 0 := by
        have := (List.getElem?_eq_some_iff.1 h').1
        simp at this
        omega
      rw [hi0] at h'
      simp at h'
      subst h'
      have him : i = m := by omega
      subst him
      exact b

/-- a slice of structs of int64 fields: what its elements are, and where they lie -/
theorem slice_flat {t e : TypeId} {fs : Array Field} {fuel : Nat} {a : Option Addr} {len cap : Nat} {x : DataW H × List MemPlace} (ht : P.underlying t = some (.slice e)) (hs : P.underlying e = some (.struct fs)) (hone : flatI64 P fs) (hC : P.cellsOf e = fs.size)
    (h : DataW.trod enc P w base spare held fuel t [.slice a len cap] = some x) :
    ∃ zss : List (List Int), zss.length = len ∧ len ≤ cap ∧ cap ≤ maxLen ∧ (∀ zs ∈ zss, zs.length = fs.size ∧ ∀ z ∈ zs, (Lit.int .i64 z).wf = true) ∧
      (0 < len → ∃ ad, a = some ad ∧ ∀ j zs, zss[j]? = some zs → ∀ i u, (zs.map (Value.int .i64))[i]? = some u → w.cell? (ad.add (j * fs.size + i)) = some u) ∧
      (len = 0 ∨ ∃ elems rest, x.1 = .slice elems rest ∧ len ≤ elems.length) := by
  rcases DataW.trod_slice ht h with ⟨hcs, hx⟩ | ⟨ad, l, c, elems, rest, n, _, hcs, hx, hb, hl, hc, hel, hi, _, _⟩
  · simp only [List.cons.injEq, Value.slice.injEq, and_true] at hcs
    obtain ⟨rfl, rfl, rfl⟩ := hcs
    exact ⟨[], rfl, Nat.le_refl _, Nat.zero_le _, by simp, fun h => absurd h (Nat.lt_irrefl 0), .inl rfl⟩
  · simp only [List.cons.injEq, Value.slice.injEq, and_true] at hcs
    obtain ⟨rfl, rfl, rfl⟩ := hcs
    have step : ∀ i, i < len → ∃ zs : List Int, zs.length = fs.size ∧ (∀ z ∈ zs, (Lit.int .i64 z).wf = true) ∧ ∀ j u, (zs.map (Value.int .i64))[j]? = some u → w.cell? (ad.add (i * fs.size + j)) = some u := by
      intro i hil
      have h1 := hi i hil
      have hei : elems[i]? = some (elems[i]'(by omega)) := List.getElem?_eq_getElem (by omega)
      rw [hei] at h1
      obtain ⟨cs, hcs, htr⟩ := Option.bind_eq_some_iff.1 h1
      rw [hC] at hcs
      obtain ⟨zs, hzl, hczs, _, hw⟩ := cells_flat hs hone hC htr
      obtain ⟨_, hcl, hat⟩ := World.cells?_some hcs
      refine ⟨zs, hzl, hw, fun j u hu => ?_⟩
      rw [← hczs] at hu
      have hj : j < fs.size := by have := (List.getElem?_eq_some_iff.1 hu).1; omega
      have := hat j hj
      rw [hu] at this
      rw [← this]
      rw [Go.Deep.add_add]
    obtain ⟨zss, hzl, hz⟩ := collect len step
    refine ⟨zss, hzl, hl, hc, fun zs hm => ?_, fun _ => ⟨ad, rfl, fun j zs hj => (hz j zs hj).2.2⟩, .inr ⟨_, _, by rw [hx], by simp [hel]⟩⟩
    obtain ⟨i, hi'⟩ := List.getElem?_of_mem hm
    exact ⟨(hz i zs hi').1, (hz i zs hi').2.1⟩

/-- a slice of whole numbers: what they are, and where they lie -/
theorem slice_num {k : IntKind} {t e : TypeId} {fuel : Nat} {a : Option Addr} {len cap : Nat} {x : DataW H × List MemPlace} (ht : P.underlying t = some (.slice e)) (he : P.underlying e = some (.int k)) (hC : P.cellsOf e = 1)
    (h : DataW.trod enc P w base spare held fuel t [.slice a len cap] = some x) :
    ∃ zs : List Int, zs.length = len ∧ len ≤ cap ∧ cap ≤ maxLen ∧ (∀ z ∈ zs, (Lit.int k z).wf = true) ∧
      (0 < len → ∃ ad, a = some ad ∧ ∀ j z, zs[j]? = some z → w.cell? (ad.add j) = some (.int k z)) ∧
      (len = 0 ∨ ∃ elems rest, x.1 = .slice elems rest ∧ len ≤ elems.length) := by
  rcases DataW.trod_slice ht h with ⟨hcs, hx⟩ | ⟨ad, l, c, elems, rest, n, _, hcs, hx, hb, hl, hc, hel, hi, _, _⟩
  · simp only [List.cons.injEq, Value.slice.injEq, and_true] at hcs
    obtain ⟨rfl, rfl, rfl⟩ := hcs
    exact ⟨[], rfl, Nat.le_refl _, Nat.zero_le _, by simp, fun h => absurd h (Nat.lt_irrefl 0), .inl rfl⟩
  · simp only [List.cons.injEq, Value.slice.injEq, and_true] at hcs
    obtain ⟨rfl, rfl, rfl⟩ := hcs
    have step : ∀ i, i < len → ∃ z : Int, (Lit.int k z).wf = true ∧ w.cell? (ad.add i) = some (.int k z) := by
      intro i hil
      have h1 := hi i hil
      have hei : elems[i]? = some (elems[i]'(by omega)) := List.getElem?_eq_getElem (by omega)
      rw [hei] at h1
      obtain ⟨cs, hcs, htr⟩ := Option.bind_eq_some_iff.1 h1
      rw [hC, Nat.mul_one] at hcs
      obtain ⟨z, hz, _, hw⟩ := DataW.trod_int he htr
      obtain ⟨_, hcl, hat⟩ := World.cells?_some hcs
      have := hat 0 (by omega)
      rw [hz, Go.Deep.add_add] at this
      exact ⟨z, hw, by simpa using this⟩
    obtain ⟨zs, hzl, hz⟩ := collect len step
    refine ⟨zs, hzl, hl, hc, fun z hm => ?_, fun _ => ⟨ad, rfl, fun j z hj => (hz j z hj).2⟩, .inr ⟨_, _, by rw [hx], by simp [hel]⟩⟩
    obtain ⟨i, hi'⟩ := List.getElem?_of_mem hm
    exact (hz i z hi').1
/-- a field of a struct, read -/
theorem field_at {t : TypeId} {fs : Array Field} {fuel : Nat} {cs : List Value} {x : DataW H × List MemPlace} (hs : P.underlying t = some (.struct fs)) (h : DataW.trod enc P w base spare held fuel t cs = some x) (i : Nat) (T : TypeId) (o s : Nat)
    (hf : ∃ f, fs[i]? = some f ∧ f.type = T ∧ f.offset = o ∧ P.cellsOf T = s) : ∃ fuel' y, DataW.trod enc P w base spare held fuel' T ((cs.drop o).take s) = some y := by
  obtain ⟨xs, n, _, hx, hlen, hxl, hg⟩ := DataW.trod_struct hs h
  obtain ⟨f, hf, rfl, rfl, rfl⟩ := hf
  have hi := (Array.getElem?_eq_some_iff.1 hf).1
  have h1 := hg i f hf
  have hxi : xs[i]? = some (xs[i]'(by omega)) := List.getElem?_eq_getElem (by omega)
  rw [hxi] at h1
  exact ⟨_, _, h1⟩
/-- a struct by value: its cells -/
theorem open_agg {r : Reach} {b0 : Nat} {t : TypeId} {fs : Array Field} {v : Value} {d : DataW H} {p : List MemPlace} (hs : P.underlying t = some (.struct fs))
    (hv : Value.okWide P w r b0 t v) (h : DataW.Trod enc P w base spare held t v d p) :
    ∃ (cs : List Value) (fuel : Nat) (x : DataW H × List MemPlace), v = .agg cs.toArray ∧ cs.length = P.cellsOf t ∧ DataW.trod enc P w base spare held fuel t cs = some x := by
  obtain ⟨ca, rfl, hsz⟩ := okWide_struct hs hv
  obtain ⟨fuel, hf⟩ := h
  have hf' : DataW.trod enc P w base spare held fuel t ca.toList = some (d, p) := by simpa [Value.cells] using hf
  exact ⟨ca.toList, fuel, _, by simp, by simpa using hsz, hf'⟩
/-- a cell that holds an int64 -/
theorem leaf_int {t : TypeId} {fuel : Nat} {c : Value} {x : DataW H × List MemPlace} (ht : P.underlying t = some (.int .i64)) (h : DataW.trod enc P w base spare held fuel t [c] = some x) :
    ∃ z : Int, c = .int .i64 z ∧ -9223372036854775808 ≤ z ∧ z ≤ 9223372036854775807 := by
  obtain ⟨z, hz, _, hw⟩ := DataW.trod_int ht h
  have := bounds_i64 hw
  exact ⟨z, by simpa using hz, this.1, this.2⟩
/-- a cell that holds a slice of structs of int64s -/
theorem leaf_flat {t e : TypeId} {fs : Array Field} {fuel : Nat} {c : Value} {x : DataW H × List MemPlace} (ht : P.underlying t = some (.slice e)) (hs : P.underlying e = some (.struct fs)) (hone : flatI64 P fs) (hC : P.cellsOf e = fs.size)
    (h : DataW.trod enc P w base spare held fuel t [c] = some x) :
    ∃ (a : Option Addr) (len cap : Nat) (zss : List (List Int)), c = .slice a len cap ∧ zss.length = len ∧ len ≤ cap ∧ cap ≤ maxLen ∧ (∀ zs ∈ zss, zs.length = fs.size ∧ ∀ z ∈ zs, (Lit.int .i64 z).wf = true) ∧
      (0 < len → ∃ ad, a = some ad ∧ ∀ j zs, zss[j]? = some zs → ∀ i u, (zs.map (Value.int .i64))[i]? = some u → w.cell? (ad.add (j * fs.size + i)) = some u) := by
  have hsl : ∃ a len cap, c = .slice a len cap := by
    rcases DataW.trod_slice ht h with ⟨hcs, _⟩ | ⟨ad, l, k, _, _, _, _, hcs, _⟩
    · exact ⟨none, 0, 0, by simpa using hcs⟩
    · exact ⟨some ad, l, k, by simpa using hcs⟩
  obtain ⟨a, len, cap, rfl⟩ := hsl
  obtain ⟨zss, h1, h2, h3, h4, h5, _⟩ := slice_flat ht hs hone hC h
  exact ⟨a, len, cap, zss, rfl, h1, h2, h3, h4, h5⟩
end
end Go.Proofs.Ytcdmhjnofdoobaa.Open
