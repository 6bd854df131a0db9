/- Plain facts: words_top. -/
import Derived.Test.YtipgjgcpfppeeaaM08
set_option linter.unusedVariables false
set_option linter.unusedSimpArgs false
set_option linter.unusedSectionVars false
namespace Go.Rv
theorem toRow (x0 : Int) (x1 : Int) (x2 : Int) (x3 : Int) (x4 : Int) (x5 : Int)  : F_laws_toRow (x0, x1, x2, x3, x4, x5, ()) = some (x0, x1, x2, x3, x4, x5, ()) := by
  rfl
theorem toRowS (l : List (Int × Int × Int × Int × Int × Int × Unit)) (hl : l.length ≤ 1048576) : F_laws_toRowS (l, ()) = some (l, ()) := by
  show laws_toRowS.FF (300 + l.length) l = _
  simp only [laws_toRowS.FF, laws_toRowS.T]
  rw [if_pos (by omega)]
  refine copies (n := l.length) (fun i => l.getD i (0, 0, 0, 0, 0, 0, ())) (fun k i out => laws_toRowS.G0 (300 + l.length) (fun out => laws_toRowS.A0 l out) k l (i : Nat) out) _ (fun k i out hi ho => ?_) (fun k => ?_) (300 + l.length) 0 _ (by omega) (by omega) (by simp) (by intro j h hj; omega)
  · have hw : w64 ((i : Int) + 1) = ((i + 1 : Nat) : Int) := w64_in _ (by omega)
    simp only [laws_toRowS.G0, laws_toRowS.R0, rd_cast, toRow, Option.bind_some, hw]
    rw [decide_eq_true (by omega), cond_true, if_pos (by omega), if_pos (by omega)]
    rfl
  · simp only [laws_toRowS.G0, laws_toRowS.R0]
    rw [decide_eq_false (by omega), cond_false]
    exact congrArg (fun x => some (x, ())) (ofFn_getD l (0, 0, 0, 0, 0, 0, ()))
theorem eqRow (x0 : Int) (x1 : Int) (x2 : Int) (x3 : Int) (x4 : Int) (x5 : Int)  : F_laws_eqRow (x0, x1, x2, x3, x4, x5, x0, x1, x2, x3, x4, x5, ()) = some (true, ()) := by
  simp (disch := assumption) only [F_laws_eqRow, laws_eqRow.T, Option.bind_some, bne_self_eq_false, cond_false, Bool.not_true]
theorem eqRowS (l : List (Int × Int × Int × Int × Int × Int × Unit)) (hl : l.length ≤ 1048576) : F_laws_eqRowS (l, l, ()) = some (true, ()) := by
  show laws_eqRowS.FF (300 + l.length + l.length) l l = _
  simp only [laws_eqRowS.FF, laws_eqRowS.T, bne_self_eq_false, cond_false]
  rw [← bbAll l.length]
  refine scanB (g := fun k i => laws_eqRowS.G0 (300 + l.length + l.length) (fun t => laws_eqRowS.A0 l l t) (fun _ => laws_eqRowS.A1 l l ()) k l l (i : Nat)) (fun k i hi _ => ?_) (fun _ k => ?_) _ (by omega)
  · have hw : w64 ((i : Int) + 1) = ((i + 1 : Nat) : Int) := w64_in _ (by omega)
    simp only [laws_eqRowS.G0, laws_eqRowS.R0, rd_cast, eqRow, Option.bind_some, hw]
    grind [= bb_iff]
  · simp only [laws_eqRowS.G0, laws_eqRowS.R0, laws_eqRowS.A1]; grind [= bb_iff]
theorem szRowS (l : List (Int × Int × Int × Int × Int × Int × Unit)) (left : Int) (h0 : 0 ≤ left) (h1 : left ≤ 1048576) (hl : l.length ≤ 140737488355328) : ∃ z, F_laws_szRowS (l, left, ()) = some (z, ()) ∧ lft z left [l.length] := by
  simp only [F_laws_szRowS, laws_szRowS.T]
  rw [w64_in (left - l.length) (by omega)]
  by_cases h : left - (l.length : Int) < 0
  · rw [decide_eq_true h]; exact ⟨_, rfl, by omega, by omega⟩
  · rw [decide_eq_false h]; exact ⟨_, rfl, by omega, fun _ n hn => by simp at hn; omega⟩
def mkRowS (k : Int) (i : Nat) : Int × Int × Int × Int × Int × Int × Unit := ((k + 6 * (i : Int)), (k + 6 * (i : Int) + 1), (k + 6 * (i : Int) + 2), (k + 6 * (i : Int) + 3), (k + 6 * (i : Int) + 4), (k + 6 * (i : Int) + 5), ())
theorem mhRowS (l : List (Int × Int × Int × Int × Int × Int × Unit)) (k : Int) (h0 : 0 ≤ k) (h1 : k ≤ 72057594037927936) (hl : l.length ≤ 1048576) : ∃ y : List (Int × Int × Int × Int × Int × Int × Unit), F_laws_markRowS (l, k, ()) = some (k + 6 * (l.length : Int), y, ()) ∧ F_laws_heldRowS (y, k, ()) = some (k + 6 * (l.length : Int), ()) := by
  refine ⟨List.ofFn fun i : Fin l.length => mkRowS k i, ?_, ?_⟩
  · show laws_markRowS.FF (300 + l.length) l k = _
    simp only [laws_markRowS.FF, laws_markRowS.T]
    refine Eq.trans (congrArg (fun z => laws_markRowS.G0 (300 + l.length) (fun kx o => laws_markRowS.A0 l k kx o) (300 + l.length) z 0 l) (show k = k + 6 * ((0 : Nat) : Int) by omega))
      (copies (n := l.length) (mkRowS k) (fun q i out => laws_markRowS.G0 (300 + l.length) (fun kx o => laws_markRowS.A0 l k kx o) q (k + 6 * ((i : Nat) : Int)) (i : Nat) out) (some (k + 6 * (l.length : Int), List.ofFn fun i : Fin l.length => mkRowS k i, ())) (fun q i out hi ho => ?_) (fun q => ?_) (300 + l.length) 0 l (by omega) (by omega) rfl (by intro j h hj; omega))
    · have hw : w64 ((i : Int) + 1) = ((i + 1 : Nat) : Int) := w64_in _ (by omega)
      have v1 : w64 (k + 6 * (i : Int) + 1) = k + 6 * (i : Int) + 1 := (w64_in _ (by omega)).trans (by omega)
      have v2 : w64 (k + 6 * (i : Int) + 1 + 1) = k + 6 * (i : Int) + 2 := (w64_in _ (by omega)).trans (by omega)
      have v3 : w64 (k + 6 * (i : Int) + 2 + 1) = k + 6 * (i : Int) + 3 := (w64_in _ (by omega)).trans (by omega)
      have v4 : w64 (k + 6 * (i : Int) + 3 + 1) = k + 6 * (i : Int) + 4 := (w64_in _ (by omega)).trans (by omega)
      have v5 : w64 (k + 6 * (i : Int) + 4 + 1) = k + 6 * (i : Int) + 5 := (w64_in _ (by omega)).trans (by omega)
      have v6 : w64 (k + 6 * (i : Int) + 5 + 1) = k + 6 * (i : Int) + 6 := (w64_in _ (by omega)).trans (by omega)
      have hnx : k + 6 * ((i + 1 : Nat) : Int) = k + 6 * (i : Int) + 6 := by omega
      simp only [laws_markRowS.G0, laws_markRowS.R0, hw, v1, v2, v3, v4, v5, v6, hnx, List.length_set, Int.toNat_natCast, List.set_set, ho]
      rw [decide_eq_true (by omega), cond_true]
      simp only [if_pos (show 0 ≤ (i : Int) ∧ (i : Int) < (l.length : Int) by omega), getD_set_self _ _ _ _ (show i < out.length by omega)]
      rfl
    · simp only [laws_markRowS.G0, laws_markRowS.R0]
      rw [decide_eq_false (by simp), cond_false]
      rfl
  · show laws_heldRowS.FF (300 + (List.ofFn fun i : Fin l.length => mkRowS k i).length) _ k = _
    simp only [laws_heldRowS.FF, laws_heldRowS.T, List.length_ofFn]
    generalize hy : (List.ofFn fun i : Fin l.length => mkRowS k i) = y
    have hyl : y.length = l.length := by rw [← hy, List.length_ofFn]
    have hyg : ∀ i : Nat, i < l.length → y.getD i (0, 0, 0, 0, 0, 0, ()) = ((k + 6 * (i : Int)), (k + 6 * (i : Int) + 1), (k + 6 * (i : Int) + 2), (k + 6 * (i : Int) + 3), (k + 6 * (i : Int) + 4), (k + 6 * (i : Int) + 5), ()) := fun i hi => by rw [← hy]; exact ofFn_at (mkRowS k) _ _ hi
    refine Eq.trans (congrArg (fun z => laws_heldRowS.G0 (300 + l.length) (fun kx t => laws_heldRowS.A0 y k kx t) (fun kx => laws_heldRowS.A1 y k kx) (300 + l.length) y z 0) (show k = k + 6 * ((0 : Nat) : Int) by omega))
      ((scan (α := Option (Int × Unit)) l.length (fun _ => True) (fun q i => laws_heldRowS.G0 (300 + l.length) (fun kx t => laws_heldRowS.A0 y k kx t) (fun kx => laws_heldRowS.A1 y k kx) q y (k + 6 * ((i : Nat) : Int)) (i : Nat)) (some (k + 6 * (l.length : Int), ())) none (fun q i hi _ => ⟨fun _ => ?_, fun h => absurd trivial h⟩) (fun _ q => ?_) (300 + l.length) 0 (by omega) (by omega) (fun _ _ => trivial)).1 (fun _ _ => trivial))
    · have hw : w64 ((i : Int) + 1) = ((i + 1 : Nat) : Int) := w64_in _ (by omega)
      have v1 : w64 (k + 6 * (i : Int) + 1) = k + 6 * (i : Int) + 1 := (w64_in _ (by omega)).trans (by omega)
      have v2 : w64 (k + 6 * (i : Int) + 1 + 1) = k + 6 * (i : Int) + 2 := (w64_in _ (by omega)).trans (by omega)
      have v3 : w64 (k + 6 * (i : Int) + 2 + 1) = k + 6 * (i : Int) + 3 := (w64_in _ (by omega)).trans (by omega)
      have v4 : w64 (k + 6 * (i : Int) + 3 + 1) = k + 6 * (i : Int) + 4 := (w64_in _ (by omega)).trans (by omega)
      have v5 : w64 (k + 6 * (i : Int) + 4 + 1) = k + 6 * (i : Int) + 5 := (w64_in _ (by omega)).trans (by omega)
      have v6 : w64 (k + 6 * (i : Int) + 5 + 1) = k + 6 * (i : Int) + 6 := (w64_in _ (by omega)).trans (by omega)
      have hnx : k + 6 * ((i + 1 : Nat) : Int) = k + 6 * (i : Int) + 6 := by omega
      simp only [laws_heldRowS.G0, laws_heldRowS.R0, rd_cast, hyg i hi, hw, v1, v2, v3, v4, v5, v6, hnx, hyl, bne_self_eq_false, cond_false]
      rw [decide_eq_true (by omega), cond_true]
      simp only [if_pos (show 0 ≤ (i : Int) ∧ (i : Int) < (l.length : Int) by omega)]
    · simp only [laws_heldRowS.G0, laws_heldRowS.R0, hyl]
      rw [decide_eq_false (by omega), cond_false]
      rfl
end Go.Rv
