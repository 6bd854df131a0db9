/- What functions come to on pure values (printed by a program of ours). -/
import Derived.Test.YtipgjgcpfppeeaaDoorM06
set_option linter.unusedVariables false
set_option linter.unusedSimpArgs false
set_option linter.unusedSectionVars false
set_option maxRecDepth 100000
namespace Go.Rv
open Go.Proofs
variable {Dr : Kn}
abbrev ins_impl_headText : List Par := [.v false [CT.int .i64], .v false [CT.int .i64]]
abbrev outs_impl_headText : List (Bool × List CT) := [(false, [CT.str])]
namespace impl_headText
/-! ### loop.example/g00095/impl.headText (function 54) -/
noncomputable def ztbl : Tbl := tblL [(51, [], S_impl_spaced)]
noncomputable def zbody : Code := ((Tryd.prog.funcs[54]?).bind (·.body)).getD .skip
def zcfg : Nat → List Nat × List Nat := fun k => ([], [])
noncomputable def T  (length cap : Int) : Option (ByteArray × Unit) := (F_impl_spaced ([(length, ()), (cap, ())], ())).bind fun y1 => if (strLit [115, 101, 114, 118, 101, 114, 32]).size + y1.1.size ≤ 9223372036854775807 then if ((strLit [115, 101, 114, 118, 101, 114, 32]) ++ y1.1).size + (strLit [10]).size ≤ 9223372036854775807 then some ((((strLit [115, 101, 114, 118, 101, 114, 32]) ++ y1.1) ++ (strLit [10])), ()) else none else none
theorem ztop (k0 : Nat) (length cap : Int) : runFn Tryd.prog ztbl zcfg k0 54 ins_impl_headText outs_impl_headText [] (length, cap, ()) = T  length cap := by kernel_rfl
noncomputable def _root_.Go.Rv.F_impl_headText : Int × Int × Unit → Option (ByteArray × Unit) := fun x => T x.1 x.2.1
noncomputable abbrev _root_.Go.Rv.S_impl_headText : Summ := ⟨ins_impl_headText, outs_impl_headText, F_impl_headText, []⟩
theorem _root_.Go.Rv.ok_impl_headText : SumOK KN Tryd.prog 54 S_impl_headText := runFn_ok (by kernel_rfl) (tblL_ok (.cons ok_impl_spaced .nil)) (by kernel_rfl) fun x y h => ⟨zcfg, 0, (ztop 0 x.1 x.2.1).trans h⟩
end impl_headText
abbrev ins_impl_journal : List Par := [.v false [CT.int .i64], .v false [CT.int .i64], .v false [CT.sl ct0]]
abbrev outs_impl_journal : List (Bool × List CT) := [(false, [CT.str])]
namespace impl_journal
/-! ### loop.example/g00095/impl.journal (function 31) -/
noncomputable def ztbl : Tbl := tblL [(25, [], S_impl_Op_text), (54, [], S_impl_headText)]
noncomputable def zbody : Code := ((Tryd.prog.funcs[31]?).bind (·.body)).getD .skip
def zcfg : Nat → List Nat × List Nat := fun k => if k = 3 then ([7, 13, 14, 15], [7]) else ([], [])
noncomputable def R0 {R : Type} (nx0 : (ByteArray → (List U1) → Int → Int → Option R)) (ex0 : (ByteArray → Option R)) (out : ByteArray) (t13x : List U1) (t14x t15x : Int) : Option R := cond (decide (t15x < t14x)) (if 0 ≤ t15x ∧ t15x < (t13x.length : Int) then (F_impl_Op_text ((rd (0, 0, 0, 0, 0, ()) t13x t15x).1, (rd (0, 0, 0, 0, 0, ()) t13x t15x).2.1, (rd (0, 0, 0, 0, 0, ()) t13x t15x).2.2.1, (rd (0, 0, 0, 0, 0, ()) t13x t15x).2.2.2.1, (rd (0, 0, 0, 0, 0, ()) t13x t15x).2.2.2.2.1, ())).bind fun y1 => if y1.1.size + (strLit [10]).size ≤ 9223372036854775807 then if out.size + (y1.1 ++ (strLit [10])).size ≤ 9223372036854775807 then nx0 (out ++ (y1.1 ++ (strLit [10]))) t13x t14x (w64 (t15x + 1)) else none else none else none) (ex0 out)
noncomputable def A0  (length cap : Int) (list : List U1) (out : ByteArray) : Option (ByteArray × Unit) := some (out, ())
noncomputable def T (lo0 : (ByteArray → (List U1) → Int → Int → Option (ByteArray × Unit))) (length cap : Int) (list : List U1) : Option (ByteArray × Unit) := (F_impl_headText (length, cap, ())).bind fun y1 => lo0 y1.1 list (list.length : Int) 0
noncomputable def zst0 {R : Type} (k0 : Nat) : Env → List Ob → Kont R → Option R := fun env ob K => runCode Tryd.prog ztbl 26 0 zcfg k0 (codeAt [1, 1, 0, 1, 0, 0] zbody) env ob K
noncomputable def K0 {R : Type} (k0 : Nat) (K : Kont R) : Kont R := blockK 0 (seqK (fun env ob => runCode Tryd.prog ztbl 26 0 zcfg k0 (codeAt [1, 1, 1] zbody) env ob (K)) (K))
noncomputable def L0 {R : Type} (k0 k : Nat) (K : Kont R) (out : ByteArray) (t13x : List U1) (t14x t15x : Int) : Option R := iter 0 [7, 13, 14, 15] [7] (zst0 k0) k [(7, .str out), (13, .sl ct0 t13x), (14, .int .i64 t14x), (15, .int .i64 t15x)] [] K
theorem zs0 {R : Type} (k0 k : Nat) (K : Kont R) (out : ByteArray) (t13x : List U1) (t14x t15x : Int) : L0 k0 (k + 1) K out t13x t14x t15x = R0 (L0 k0 k K) (fun out => K (.exit 0) [(7, .str out)] []) out t13x t14x t15x := by kernel_rfl
theorem za0 (k0 : Nat) (length cap : Int) (list : List U1) (out : ByteArray) : K0 (R := (ByteArray × Unit)) k0 (finK Tryd.prog [.tmp 6] ins_impl_journal outs_impl_journal (length, cap, list, ())) (.exit 0) [(7, .str out)] [] = A0  length cap list out := by kernel_rfl
theorem ztop (k0 : Nat) (length cap : Int) (list : List U1) : runFn Tryd.prog ztbl zcfg k0 31 ins_impl_journal outs_impl_journal [] (length, cap, list, ()) = T (L0 (R := (ByteArray × Unit)) k0 k0 (K0 (R := (ByteArray × Unit)) k0 ((finK Tryd.prog [.tmp 6] ins_impl_journal outs_impl_journal (length, cap, list, ()))))) length cap list := by kernel_rfl
noncomputable def G0 {R : Type} (k0 : Nat) (hx0 : (ByteArray → Option R)) : Nat → ByteArray → (List U1) → Int → Int → Option R
 | 0, _, _, _, _ => none
 | k + 1, out, t13x, t14x, t15x => R0 (G0 k0 hx0 k) hx0 out t13x t14x t15x
theorem zg0 {R : Type} (k0 : Nat) (K : Kont R) : ∀ k : Nat, L0 k0 k K = G0 k0 (fun out => K (.exit 0) [(7, .str out)] []) k := by
 intro k
 induction k with
 | zero => funext out t13x t14x t15x; rfl
 | succ k ih => funext out t13x t14x t15x; rw [zs0, G0]; (try simp only [ih]); try rfl
noncomputable def FF (k0 : Nat) (length cap : Int) (list : List U1) : Option (ByteArray × Unit) := T (G0 k0 (A0  length cap list) k0) length cap list
theorem zrun (k0 : Nat) (length cap : Int) (list : List U1) : runFn Tryd.prog ztbl zcfg k0 31 ins_impl_journal outs_impl_journal [] (length, cap, list, ()) = FF k0 length cap list := by
 rw [ztop, FF]; (try simp only [zg0, za0]); try rfl
noncomputable def _root_.Go.Rv.F_impl_journal : Int × Int × (List U1) × Unit → Option (ByteArray × Unit) := fun x => (fun (length cap : Int) (list : List U1) => FF (300 + list.length) length cap list) x.1 x.2.1 x.2.2.1
noncomputable abbrev _root_.Go.Rv.S_impl_journal : Summ := ⟨ins_impl_journal, outs_impl_journal, F_impl_journal, []⟩
theorem _root_.Go.Rv.ok_impl_journal : SumOK KN Tryd.prog 31 S_impl_journal := runFn_ok (by kernel_rfl) (tblL_ok (.cons ok_impl_Op_text (.cons ok_impl_headText .nil))) (by kernel_rfl) fun x y h => ⟨zcfg, _, (zrun _ x.1 x.2.1 x.2.2.1).trans h⟩
end impl_journal
abbrev ins_impl_JournalCut : List Par := [.v false [CT.str], .v false [CT.int .i64]]
abbrev outs_impl_JournalCut : List (Bool × List CT) := [(false, [CT.str])]
namespace impl_JournalCut
/-! ### loop.example/g00095/impl.JournalCut (function 16) -/
noncomputable def ztbl : Tbl := tblL [(18, [], S_impl_JournalRead), (31, [], S_impl_journal)]
noncomputable def zbody : Code := ((Tryd.prog.funcs[16]?).bind (·.body)).getD .skip
def zcfg : Nat → List Nat × List Nat := fun k => ([], [])
noncomputable def T  (text : ByteArray) (count : Int) : Option (ByteArray × Unit) := (F_impl_JournalRead (text, ())).bind fun y1 => cond (y1.2.2.2.2.1 != 0) (some ((strLit []), ())) (if 0 ≤ (mx (mn count (y1.2.2.1.length : Int)) 0) ∧ (mx (mn count (y1.2.2.1.length : Int)) 0) ≤ (y1.2.2.1.length : Int) then if 0 + ((mx (mn count (y1.2.2.1.length : Int)) 0).toNat - 0) ≤ y1.2.2.1.length then (F_impl_journal (y1.1, y1.2.1, ((y1.2.2.1.drop 0).take ((mx (mn count (y1.2.2.1.length : Int)) 0).toNat - 0)), ())).bind fun y2 => some (y2.1, ()) else none else none)
theorem ztop (k0 : Nat) (text : ByteArray) (count : Int) : runFn Tryd.prog ztbl zcfg k0 16 ins_impl_JournalCut outs_impl_JournalCut [] (text, count, ()) = T  text count := by kernel_rfl
noncomputable def _root_.Go.Rv.F_impl_JournalCut : ByteArray × Int × Unit → Option (ByteArray × Unit) := fun x => T x.1 x.2.1
noncomputable abbrev _root_.Go.Rv.S_impl_JournalCut : Summ := ⟨ins_impl_JournalCut, outs_impl_JournalCut, F_impl_JournalCut, []⟩
theorem _root_.Go.Rv.ok_impl_JournalCut : SumOK KN Tryd.prog 16 S_impl_JournalCut := runFn_ok (by kernel_rfl) (tblL_ok (.cons ok_impl_JournalRead (.cons ok_impl_journal .nil))) (by kernel_rfl) fun x y h => ⟨zcfg, 0, (ztop 0 x.1 x.2.1).trans h⟩
end impl_JournalCut
abbrev ins_laws_FnExactJournalCut : List Par := [.v false [CT.str], .v false [CT.int .i64]]
abbrev outs_laws_FnExactJournalCut : List (Bool × List CT) := [(false, [CT.bool])]
namespace laws_FnExactJournalCut
/-! ### loop.example/g00095/laws.FnExactJournalCut (function 5) -/
noncomputable def ztbl : Tbl := tblL [(15, [], S_spec_JournalCut), (16, [], S_impl_JournalCut)]
noncomputable def zbody : Code := ((Tryd.prog.funcs[5]?).bind (·.body)).getD .skip
def zcfg : Nat → List Nat × List Nat := fun k => ([], [])
noncomputable def T  (aText : ByteArray) (aCount : Int) : Option (Bool × Unit) := cond (decide ((aText.size : Int) > 1048576)) (some (true, ())) ((F_spec_JournalCut (aText, aCount, ())).bind fun y1 => (F_impl_JournalCut (aText, aCount, ())).bind fun y2 => cond (!seq y2.1 y1.1) (some (false, ())) (some (true, ())))
theorem ztop (k0 : Nat) (aText : ByteArray) (aCount : Int) : runFn Tryd.prog ztbl zcfg k0 5 ins_laws_FnExactJournalCut outs_laws_FnExactJournalCut [] (aText, aCount, ()) = T  aText aCount := by kernel_rfl
noncomputable def _root_.Go.Rv.F_laws_FnExactJournalCut : ByteArray × Int × Unit → Option (Bool × Unit) := fun x => T x.1 x.2.1
noncomputable abbrev _root_.Go.Rv.S_laws_FnExactJournalCut : Summ := ⟨ins_laws_FnExactJournalCut, outs_laws_FnExactJournalCut, F_laws_FnExactJournalCut, []⟩
theorem _root_.Go.Rv.ok_laws_FnExactJournalCut : SumOK KN Tryd.prog 5 S_laws_FnExactJournalCut := runFn_ok (by kernel_rfl) (tblL_ok (.cons ok_spec_JournalCut (.cons ok_impl_JournalCut .nil))) (by kernel_rfl) fun x y h => ⟨zcfg, 0, (ztop 0 x.1 x.2.1).trans h⟩
end laws_FnExactJournalCut

end Go.Rv
