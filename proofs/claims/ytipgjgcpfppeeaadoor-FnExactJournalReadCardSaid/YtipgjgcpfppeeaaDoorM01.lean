/- A function of the library by hand: RvHkn2. -/
import Derived.Test.YtipgjgcpfppeeaaDoorM00
import Derived.Lib.LaidTab
import Derived.Shelf.Vars
import Derived.Lib.ItoaNum
import Derived.KernelRfl
set_option linter.unusedVariables false
set_option linter.unusedSimpArgs false
set_option linter.unusedSectionVars false
namespace Go.Rv
open Go.Proofs Go.RowKit
/-- where the table of the powers of ten lies; the greatest length of a search at once; the two errors of numbers -/
abbrev tenB : Nat := 1
abbrev mlB : Nat := 0
abbrev esB : Nat := 4
abbrev erB : Nat := 5
def tenCells : Array Value := (Lib.pow10Tab.map fun z => Value.int .u64 z).toArray
theorem ten_named : Tryd.prog.globalNamed "internal/strconv.uint64pow10" = some tenB := by kernel_rfl
def ifaceV (v : Value) : Prop := v = .nilIface ∨ ∃ te pe, v = .iface te pe
def cellAt (w : World) (b : Nat) (cs : Array Value) : Prop := ∃ t f, w.heap[b]? = some (.cells cs t f)
theorem cellAt.keep {w w' : World} {b : Nat} {cs : Array Value} (h : cellAt w b cs) (e : w'.heap[b]? = w.heap[b]?) : cellAt w' b cs := let ⟨t, f, h⟩ := h; ⟨t, f, e.trans h⟩
/-- what is known of the worlds here -/
def KN : Kn := ⟨False, fun J w => (J tenB ∧ J mlB ∧ J esB ∧ J erB) ∧ cellAt w tenB tenCells ∧ (∃ m, cellAt w mlB #[.int .i64 m]) ∧ (∃ ev, ifaceV ev ∧ cellAt w esB #[ev]) ∧ ∃ ev, ifaceV ev ∧ cellAt w erB #[ev],
 fun h ⟨⟨h1, h2, h3, h4⟩, a, ⟨m, b⟩, ⟨e1, c1, c2⟩, e2, d1, d2⟩ => ⟨⟨(h _ h1).1, (h _ h2).1, (h _ h3).1, (h _ h4).1⟩, a.keep (h _ h1).2, ⟨m, b.keep (h _ h2).2⟩, ⟨e1, c1, c2.keep (h _ h3).2⟩, e2, d1, d2.keep (h _ h4).2⟩⟩
theorem KN_ten {J : Nat → Prop} {w : World} (h : KN.tab J w) : ∃ t f, w.heap[tenB]? = some (.cells tenCells t f) := h.2.1
theorem cellAt.get {w : World} {b : Nat} {v : Value} (h : cellAt w b #[v]) : w.cell? ⟨b, 0, none⟩ = some v := by
 obtain ⟨t, f, h⟩ := h
 simp [World.cell?, h]
theorem sent_of {W : World} {name nm : String} {g : Nat} {t : TypeId} {ms : Array (String × TypeId)} {d : DataW Unit} (hg : Tryd.prog.globalNamed name = some g) (hty : (Tryd.prog.globals[g]?).map (·.type) = some t) (hi : Tryd.prog.underlying t = some (.interface ms)) (h : laidMet Tryd.prog [(name, .iface nm d)] W) : ∃ ev, ifaceV ev ∧ cellAt W g #[ev] := by
 obtain ⟨ps, ⟨g', t', cs, fuel, p, q, hg', ht', hvar, hd, _, _⟩, _⟩ := h
 obtain rfl := Option.some.inj (hg.symm.trans hg')
 obtain rfl := Option.some.inj (hty.symm.trans ht')
 obtain ⟨_, u, v, hcs, _, _⟩ := iface_of_trod hi hd
 unfold World.var? at hvar
 rw [hg] at hvar
 simp only [Option.bind_some] at hvar
 split at hvar
 ·rename_i cs' t f hc
  have e := Option.some.inj hvar
  subst e
  refine ⟨.iface u v, Or.inr ⟨u, v, rfl⟩, t, f, ?_⟩
  have e1 : cs' = #[.iface u v] := by rw [← Array.toArray_toList (xs := cs'), hcs]
  rw [hc, e1]
 ·cases hvar
theorem int_of {W : World} {g : Nat} {t : TypeId} (h : W.ShapedOpen Tryd.prog) (hg : g < Tryd.prog.globals.size) (h0 : ((begin Tryd.prog (fun _ _ => 0) default).world.heap[g]?).bind Obj.row? = some (#[.int .i64 0], t))
  (hb : Tryd.prog.buildable t = true) (hc : Tryd.prog.cellTypes Tryd.prog.depth t = some [t]) (hu : Tryd.prog.underlying t = some (.int .i64)) : ∃ m, cellAt W g #[.int .i64 m] := by
 obtain ⟨m, hm⟩ := cell_of_shapedOpen_int h hg h0 rfl hb hc hu
 obtain ⟨cs, hh, hs, _⟩ := h.1 g _ t hg h0
 refine ⟨m, t, (0, 0), hh.trans ?_⟩
 have h1 : cs[0]? = some (.int .i64 m) := by simpa [World.cell?, hh] using hm
 have e : cs = #[.int .i64 m] := by
  apply Array.ext_getElem?
  intro i
  rcases i with _ | i
  ·rw [h1]; rfl
  ·rw [Array.getElem?_eq_none (by rw [hs]; simp), Array.getElem?_eq_none (by simp)]
 rw [e]
theorem ten_of {W : World} (h : laidMet Tryd.prog [("internal/strconv.uint64pow10", Lib.tabData .u64 Lib.pow10Tab)] W) : cellAt W tenB tenCells := by
 have hT := Lib.tabIs_of_head (g := tenB) (t := 100) (e := 91) (n := 20) ten_named (by kernel_rfl) (by kernel_rfl) (by kernel_rfl) (by kernel_rfl) (by kernel_rfl) h
 unfold Lib.TabIs World.var? at hT
 rw [ten_named] at hT
 simp only [Option.bind_some] at hT
 split at hT
 ·rename_i cs t f hc
  have e := Option.some.inj hT
  subst e
  exact ⟨t, f, hc⟩
 ·cases hT
theorem cellAt.lt {W : World} {g : Nat} {cs : Array Value} (h : cellAt W g cs) : g < W.heap.size := let ⟨_, _, h⟩ := h; (Array.getElem?_eq_some_iff.1 h).1
end Go.Rv
