/- Plain facts: words_read. -/
import Derived.Test.YtipgjgcpfppeeaaDoorM11
set_option linter.unusedVariables false
set_option linter.unusedSimpArgs false
set_option linter.unusedSectionVars false
namespace Go.Rv
theorem eqOp (x0 : Int) (x1 : Int) (x2 : Int) (x3 : Int) (x4 : Int)  : F_laws_eqOp (x0, x1, x2, x3, x4, x0, x1, x2, x3, x4, ()) = some (true, ()) := by
 simp (disch := assumption) only [F_laws_eqOp, laws_eqOp.T, Option.bind_some, bne_self_eq_false, cond_false, Bool.not_true]
theorem eqOpS (l : List (Int × Int × Int × Int × Int × Unit)) (hl : l.length ≤ 1048576) : F_laws_eqOpS (l, l, ()) = some (true, ()) := by
 show laws_eqOpS.FF (300 + l.length + l.length) l l = _
 simp only [laws_eqOpS.FF, laws_eqOpS.T, bne_self_eq_false, cond_false]
 rw [← bbAll l.length]
 refine scanB (g := fun k i => laws_eqOpS.G0 (300 + l.length + l.length) (fun t => laws_eqOpS.A0 l l t) (fun _ => laws_eqOpS.A1 l l ()) k l l (i : Nat)) (fun k i hi _ => ?_) (fun _ k => ?_) _ (by omega)
 ·have hw : w64 ((i : Int) + 1) = ((i + 1 : Nat) : Int) := w64_in _ (by omega)
  simp only [laws_eqOpS.G0, laws_eqOpS.R0, rd_cast, eqOp, Option.bind_some, hw]
  grind [= bb_iff]
 ·simp only [laws_eqOpS.G0, laws_eqOpS.R0, laws_eqOpS.A1]; grind [= bb_iff]
def mkOpS (k : Int) (i : Nat) : Int × Int × Int × Int × Int × Unit := ((k + 5 * (i : Int)), (k + 5 * (i : Int) + 1), (k + 5 * (i : Int) + 2), (k + 5 * (i : Int) + 3), (k + 5 * (i : Int) + 4), ())
theorem mhOpS (l : List (Int × Int × Int × Int × Int × Unit)) (k : Int) (h0 : 0 ≤ k) (h1 : k ≤ 72057594037927936) (hl : l.length ≤ 1048576) : ∃ y : List (Int × Int × Int × Int × Int × Unit), F_laws_markOpS (l, k, ()) = some (k + 5 * (l.length : Int), y, ()) ∧ F_laws_heldOpS (y, k, ()) = some (k + 5 * (l.length : Int), ()) := by
 refine ⟨List.ofFn fun i : Fin l.length => mkOpS k i, ?_, ?_⟩
 ·show laws_markOpS.FF (300 + l.length) l k = _
  simp only [laws_markOpS.FF, laws_markOpS.T]
  refine Eq.trans (congrArg (fun z => laws_markOpS.G0 (300 + l.length) (fun kx o => laws_markOpS.A0 l k kx o) (300 + l.length) z 0 l) (show k = k + 5 * ((0 : Nat) : Int) by omega))
   (copies (n := l.length) (mkOpS k) (fun q i out => laws_markOpS.G0 (300 + l.length) (fun kx o => laws_markOpS.A0 l k kx o) q (k + 5 * ((i : Nat) : Int)) (i : Nat) out) (some (k + 5 * (l.length : Int), List.ofFn fun i : Fin l.length => mkOpS k i, ())) (fun q i out hi ho => ?_) (fun q => ?_) (300 + l.length) 0 l (by omega) (by omega) rfl (by intro j h hj; omega))
  ·have hw : w64 ((i : Int) + 1) = ((i + 1 : Nat) : Int) := w64_in _ (by omega)
   have v1 : w64 (k + 5 * (i : Int) + 1) = k + 5 * (i : Int) + 1 := (w64_in _ (by omega)).trans (by omega)
   have v2 : w64 (k + 5 * (i : Int) + 1 + 1) = k + 5 * (i : Int) + 2 := (w64_in _ (by omega)).trans (by omega)
   have v3 : w64 (k + 5 * (i : Int) + 2 + 1) = k + 5 * (i : Int) + 3 := (w64_in _ (by omega)).trans (by omega)
   have v4 : w64 (k + 5 * (i : Int) + 3 + 1) = k + 5 * (i : Int) + 4 := (w64_in _ (by omega)).trans (by omega)
   have v5 : w64 (k + 5 * (i : Int) + 4 + 1) = k + 5 * (i : Int) + 5 := (w64_in _ (by omega)).trans (by omega)
   have hnx : k + 5 * ((i + 1 : Nat) : Int) = k + 5 * (i : Int) + 5 := by omega
   simp only [laws_markOpS.G0, laws_markOpS.R0, hw, v1, v2, v3, v4, v5, hnx, List.length_set, Int.toNat_natCast, List.set_set, ho]
   rw [decide_eq_true (by omega), cond_true]
   simp only [if_pos (show 0 ≤ (i : Int) ∧ (i : Int) < (l.length : Int) by omega), getD_set_self _ _ _ _ (show i < out.length by omega)]
   rfl
  ·simp only [laws_markOpS.G0, laws_markOpS.R0]
   rw [decide_eq_false (by simp), cond_false]
   rfl
 ·show laws_heldOpS.FF (300 + (List.ofFn fun i : Fin l.length => mkOpS k i).length) _ k = _
  simp only [laws_heldOpS.FF, laws_heldOpS.T, List.length_ofFn]
  generalize hy : (List.ofFn fun i : Fin l.length => mkOpS k i) = y
  have hyl : y.length = l.length := by rw [← hy, List.length_ofFn]
  have hyg : ∀ i : Nat, i < l.length → y.getD i (0, 0, 0, 0, 0, ()) = ((k + 5 * (i : Int)), (k + 5 * (i : Int) + 1), (k + 5 * (i : Int) + 2), (k + 5 * (i : Int) + 3), (k + 5 * (i : Int) + 4), ()) := fun i hi => by rw [← hy]; exact ofFn_at (mkOpS k) _ _ hi
  refine Eq.trans (congrArg (fun z => laws_heldOpS.G0 (300 + l.length) (fun kx t => laws_heldOpS.A0 y k kx t) (fun kx => laws_heldOpS.A1 y k kx) (300 + l.length) y z 0) (show k = k + 5 * ((0 : Nat) : Int) by omega))
   ((scan (α := Option (Int × Unit)) l.length (fun _ => True) (fun q i => laws_heldOpS.G0 (300 + l.length) (fun kx t => laws_heldOpS.A0 y k kx t) (fun kx => laws_heldOpS.A1 y k kx) q y (k + 5 * ((i : Nat) : Int)) (i : Nat)) (some (k + 5 * (l.length : Int), ())) none (fun q i hi _ => ⟨fun _ => ?_, fun h => absurd trivial h⟩) (fun _ q => ?_) (300 + l.length) 0 (by omega) (by omega) (fun _ _ => trivial)).1 (fun _ _ => trivial))
  ·have hw : w64 ((i : Int) + 1) = ((i + 1 : Nat) : Int) := w64_in _ (by omega)
   have v1 : w64 (k + 5 * (i : Int) + 1) = k + 5 * (i : Int) + 1 := (w64_in _ (by omega)).trans (by omega)
   have v2 : w64 (k + 5 * (i : Int) + 1 + 1) = k + 5 * (i : Int) + 2 := (w64_in _ (by omega)).trans (by omega)
   have v3 : w64 (k + 5 * (i : Int) + 2 + 1) = k + 5 * (i : Int) + 3 := (w64_in _ (by omega)).trans (by omega)
   have v4 : w64 (k + 5 * (i : Int) + 3 + 1) = k + 5 * (i : Int) + 4 := (w64_in _ (by omega)).trans (by omega)
   have v5 : w64 (k + 5 * (i : Int) + 4 + 1) = k + 5 * (i : Int) + 5 := (w64_in _ (by omega)).trans (by omega)
   have hnx : k + 5 * ((i + 1 : Nat) : Int) = k + 5 * (i : Int) + 5 := by omega
   simp only [laws_heldOpS.G0, laws_heldOpS.R0, rd_cast, hyg i hi, hw, v1, v2, v3, v4, v5, hnx, hyl, bne_self_eq_false, cond_false]
   rw [decide_eq_true (by omega), cond_true]
   simp only [if_pos (show 0 ≤ (i : Int) ∧ (i : Int) < (l.length : Int) by omega)]
  ·simp only [laws_heldOpS.G0, laws_heldOpS.R0, hyl]
   rw [decide_eq_false (by omega), cond_false]
   rfl
end Go.Rv
