/- Plain facts: words_ops. -/
import Derived.Test.YtipgjgcpfppeeaaDoorM05
set_option linter.unusedVariables false
set_option linter.unusedSimpArgs false
set_option linter.unusedSectionVars false
namespace Go.Rv
theorem toOp (x0 : Int) (x1 : Int) (x2 : Int) (x3 : Int) (x4 : Int)  : F_laws_toOp (x0, x1, x2, x3, x4, ()) = some (x0, x1, x2, x3, x4, ()) := by
 rfl
theorem eqOp (x0 : Int) (x1 : Int) (x2 : Int) (x3 : Int) (x4 : Int)  : F_laws_eqOp (x0, x1, x2, x3, x4, x0, x1, x2, x3, x4, ()) = some (true, ()) := by
 simp (disch := assumption) only [F_laws_eqOp, laws_eqOp.T, Option.bind_some, bne_self_eq_false, cond_false, Bool.not_true]
theorem toOpS (l : List (Int × Int × Int × Int × Int × Unit)) (hl : l.length ≤ 1048576) : F_laws_toOpS (l, ()) = some (l, ()) := by
 show laws_toOpS.FF (300 + l.length) l = _
 simp only [laws_toOpS.FF, laws_toOpS.T]
 rw [if_pos (by omega)]
 refine copies (n := l.length) (fun i => l.getD i (0, 0, 0, 0, 0, ())) (fun k i out => laws_toOpS.G0 (300 + l.length) (fun out => laws_toOpS.A0 l out) k l (i : Nat) out) _ (fun k i out hi ho => ?_) (fun k => ?_) (300 + l.length) 0 _ (by omega) (by omega) (by simp) (by intro j h hj; omega)
 ·have hw : w64 ((i : Int) + 1) = ((i + 1 : Nat) : Int) := w64_in _ (by omega)
  simp only [laws_toOpS.G0, laws_toOpS.R0, rd_cast, toOp, Option.bind_some, hw]
  rw [decide_eq_true (by omega), cond_true, if_pos (by omega), if_pos (by omega)]
  rfl
 ·simp only [laws_toOpS.G0, laws_toOpS.R0]
  rw [decide_eq_false (by omega), cond_false]
  exact congrArg (fun x => some (x, ())) (ofFn_getD l (0, 0, 0, 0, 0, ()))
theorem eqOpS (l : List (Int × Int × Int × Int × Int × Unit)) (hl : l.length ≤ 1048576) : F_laws_eqOpS (l, l, ()) = some (true, ()) := by
 show laws_eqOpS.FF (300 + l.length + l.length) l l = _
 simp only [laws_eqOpS.FF, laws_eqOpS.T, bne_self_eq_false, cond_false]
 rw [← bbAll l.length]
 refine scanB (g := fun k i => laws_eqOpS.G0 (300 + l.length + l.length) (fun t => laws_eqOpS.A0 l l t) (fun _ => laws_eqOpS.A1 l l ()) k l l (i : Nat)) (fun k i hi _ => ?_) (fun _ k => ?_) _ (by omega)
 ·have hw : w64 ((i : Int) + 1) = ((i + 1 : Nat) : Int) := w64_in _ (by omega)
  simp only [laws_eqOpS.G0, laws_eqOpS.R0, rd_cast, eqOp, Option.bind_some, hw]
  grind [= bb_iff]
 ·simp only [laws_eqOpS.G0, laws_eqOpS.R0, laws_eqOpS.A1]; grind [= bb_iff]
theorem szOpS (l : List (Int × Int × Int × Int × Int × Unit)) (left : Int) (h0 : 0 ≤ left) (h1 : left ≤ 1048576) (hl : l.length ≤ 140737488355328) : ∃ z, F_laws_szOpS (l, left, ()) = some (z, ()) ∧ lft z left [l.length] := by
 simp only [F_laws_szOpS, laws_szOpS.T]
 rw [w64_in (left - l.length) (by omega)]
 by_cases h : left - (l.length : Int) < 0
 ·rw [decide_eq_true h]; exact ⟨_, rfl, by omega, by omega⟩
 ·rw [decide_eq_false h]; exact ⟨_, rfl, by omega, fun _ n hn => by simp at hn; omega⟩
end Go.Rv
