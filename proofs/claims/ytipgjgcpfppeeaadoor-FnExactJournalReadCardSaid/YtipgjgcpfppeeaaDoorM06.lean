/- What functions come to on pure values (printed by a program of ours). -/
import Derived.Test.YtipgjgcpfppeeaaDoorM05
set_option linter.unusedVariables false
set_option linter.unusedSimpArgs false
set_option linter.unusedSectionVars false
set_option maxRecDepth 100000
namespace Go.Rv
open Go.Proofs
variable {Dr : Kn}
abbrev ins_spec_l01Dec : List Par := [.v false [CT.int .i64]]
abbrev outs_spec_l01Dec : List (Bool × List CT) := [(false, [CT.str])]
namespace spec_l01Dec
/-! ### loop.example/g00095/spec.l01Dec (function 23) -/
noncomputable def ztbl : Tbl := tblL []
noncomputable def zbody : Code := ((Tryd.prog.funcs[23]?).bind (·.body)).getD .skip
def zcfg : Nat → List Nat × List Nat := fun k => if k = 5 then ([0, 3, 4], [3, 4]) else ([], [])
noncomputable def R0 {R : Type} (nx0 : (Int → Bool → ByteArray → Option R)) (ex0 : (Bool → ByteArray → Option R)) (n2 : Int) (neg : Bool) (out : ByteArray) : Option R := cond (n2 != 0) (if 10 = 0 then none else cond (decide ((Int.tmod n2 10) < 0)) (if (bytesOf [((IntKind.u8.wrap ((w64 (48 + (w64 (0 - (Int.tmod n2 10))))))), ())]).size + out.size ≤ 9223372036854775807 then if 10 = 0 then none else nx0 (w64 (Int.tdiv n2 10)) neg ((bytesOf [((IntKind.u8.wrap ((w64 (48 + (w64 (0 - (Int.tmod n2 10))))))), ())]) ++ out) else none) (if (bytesOf [((IntKind.u8.wrap ((w64 (48 + (Int.tmod n2 10))))), ())]).size + out.size ≤ 9223372036854775807 then if 10 = 0 then none else nx0 (w64 (Int.tdiv n2 10)) neg ((bytesOf [((IntKind.u8.wrap ((w64 (48 + (Int.tmod n2 10))))), ())]) ++ out) else none)) (ex0 neg out)
noncomputable def A0  (n : Int) (neg : Bool) (out : ByteArray) : Option (ByteArray × Unit) := cond neg (if (strLit [45]).size + out.size ≤ 9223372036854775807 then some (((strLit [45]) ++ out), ()) else none) (some (out, ()))
noncomputable def T (lo0 : (Int → Bool → ByteArray → Option (ByteArray × Unit))) (n : Int) : Option (ByteArray × Unit) := cond (n == 0) (some ((strLit [48]), ())) (lo0 n (decide (n < 0)) (strLit []))
noncomputable def zst0 {R : Type} (k0 : Nat) : Env → List Ob → Kont R → Option R := fun env ob K => runCode Tryd.prog ztbl 31 0 zcfg k0 (codeAt [1, 1, 1, 1, 0, 0, 0] zbody) env ob K
noncomputable def K0 {R : Type} (k0 : Nat) (K : Kont R) : Kont R := blockK 0 (seqK (fun env ob => runCode Tryd.prog ztbl 31 0 zcfg k0 (codeAt [1, 1, 1, 1, 1] zbody) env ob (K)) (K))
noncomputable def L0 {R : Type} (k0 k : Nat) (K : Kont R) (n2 : Int) (neg : Bool) (out : ByteArray) : Option R := iter 0 [0, 3, 4] [3, 4] (zst0 k0) k [(0, .int .i64 n2), (3, .bool neg), (4, .str out)] [] K
theorem zs0 {R : Type} (k0 k : Nat) (K : Kont R) (n2 : Int) (neg : Bool) (out : ByteArray) : L0 k0 (k + 1) K n2 neg out = R0 (L0 k0 k K) (fun neg out => K (.exit 0) [(3, .bool neg), (4, .str out)] []) n2 neg out := by kernel_rfl
theorem za0 (k0 : Nat) (n : Int) (neg : Bool) (out : ByteArray) : K0 (R := (ByteArray × Unit)) k0 (finK Tryd.prog [.tmp 2] ins_spec_l01Dec outs_spec_l01Dec (n, ())) (.exit 0) [(3, .bool neg), (4, .str out)] [] = A0  n neg out := by kernel_rfl
theorem ztop (k0 : Nat) (n : Int) : runFn Tryd.prog ztbl zcfg k0 23 ins_spec_l01Dec outs_spec_l01Dec [] (n, ()) = T (L0 (R := (ByteArray × Unit)) k0 k0 (K0 (R := (ByteArray × Unit)) k0 ((finK Tryd.prog [.tmp 2] ins_spec_l01Dec outs_spec_l01Dec (n, ()))))) n := by kernel_rfl
noncomputable def G0 {R : Type} (k0 : Nat) (hx0 : (Bool → ByteArray → Option R)) : Nat → Int → Bool → ByteArray → Option R
 | 0, _, _, _ => none
 | k + 1, n2, neg, out => R0 (G0 k0 hx0 k) hx0 n2 neg out
theorem zg0 {R : Type} (k0 : Nat) (K : Kont R) : ∀ k : Nat, L0 k0 k K = G0 k0 (fun neg out => K (.exit 0) [(3, .bool neg), (4, .str out)] []) k := by
 intro k
 induction k with
 | zero => funext n2 neg out; rfl
 | succ k ih => funext n2 neg out; rw [zs0, G0]; (try simp only [ih]); try rfl
noncomputable def FF (k0 : Nat) (n : Int) : Option (ByteArray × Unit) := T (G0 k0 (A0  n) k0) n
theorem zrun (k0 : Nat) (n : Int) : runFn Tryd.prog ztbl zcfg k0 23 ins_spec_l01Dec outs_spec_l01Dec [] (n, ()) = FF k0 n := by
 rw [ztop, FF]; (try simp only [zg0, za0]); try rfl
noncomputable def _root_.Go.Rv.F_spec_l01Dec : Int × Unit → Option (ByteArray × Unit) := fun x => (fun (n : Int) => FF (300) n) x.1
noncomputable abbrev _root_.Go.Rv.S_spec_l01Dec : Summ := ⟨ins_spec_l01Dec, outs_spec_l01Dec, F_spec_l01Dec, []⟩
theorem _root_.Go.Rv.ok_spec_l01Dec : SumOK Dr Tryd.prog 23 S_spec_l01Dec := runFn_ok (by kernel_rfl) (tblL_ok .nil) (by kernel_rfl) fun x y h => ⟨zcfg, _, (zrun _ x.1).trans h⟩
end spec_l01Dec
abbrev ins_spec_OpText : List Par := [.v true ct0]
abbrev outs_spec_OpText : List (Bool × List CT) := [(false, [CT.str])]
namespace spec_OpText
/-! ### loop.example/g00095/spec.OpText (function 7) -/
noncomputable def ztbl : Tbl := tblL [(22, [], S_spec_l10Op), (23, [], S_spec_l01Dec)]
noncomputable def zbody : Code := ((Tryd.prog.funcs[7]?).bind (·.body)).getD .skip
def zcfg : Nat → List Nat × List Nat := fun k => ([], [])
noncomputable def T  (o0 o1 o2 o3 o4 : Int) : Option (ByteArray × Unit) := (F_spec_l10Op (o0, o1, o2, o3, o4, ())).bind fun y1 => cond (!y1.1) (some ((strLit []), ())) ((F_spec_l01Dec (o1, ())).bind fun y2 => if (strLit [32]).size + y2.1.size ≤ 9223372036854775807 then (F_spec_l01Dec (o2, ())).bind fun y3 => if (strLit [32]).size + y3.1.size ≤ 9223372036854775807 then (F_spec_l01Dec (o3, ())).bind fun y4 => if (strLit [32]).size + y4.1.size ≤ 9223372036854775807 then (F_spec_l01Dec (o4, ())).bind fun y5 => if (strLit [32]).size + y5.1.size ≤ 9223372036854775807 then cond (o0 == 1) (if (strLit [103, 101, 116]).size + ((strLit [32]) ++ y2.1).size ≤ 9223372036854775807 then if ((strLit [103, 101, 116]) ++ ((strLit [32]) ++ y2.1)).size + ((strLit [32]) ++ y3.1).size ≤ 9223372036854775807 then if (((strLit [103, 101, 116]) ++ ((strLit [32]) ++ y2.1)) ++ ((strLit [32]) ++ y3.1)).size + ((strLit [32]) ++ y4.1).size ≤ 9223372036854775807 then if ((((strLit [103, 101, 116]) ++ ((strLit [32]) ++ y2.1)) ++ ((strLit [32]) ++ y3.1)) ++ ((strLit [32]) ++ y4.1)).size + ((strLit [32]) ++ y5.1).size ≤ 9223372036854775807 then some ((((((strLit [103, 101, 116]) ++ ((strLit [32]) ++ y2.1)) ++ ((strLit [32]) ++ y3.1)) ++ ((strLit [32]) ++ y4.1)) ++ ((strLit [32]) ++ y5.1)), ()) else none else none else none else none) (cond (o0 == 2) (if (strLit [114, 101, 108, 101, 97, 115, 101]).size + ((strLit [32]) ++ y2.1).size ≤ 9223372036854775807 then some (((strLit [114, 101, 108, 101, 97, 115, 101]) ++ ((strLit [32]) ++ y2.1)), ()) else none) (cond (o0 == 3) (if (strLit [99, 97, 112]).size + ((strLit [32]) ++ y2.1).size ≤ 9223372036854775807 then if ((strLit [99, 97, 112]) ++ ((strLit [32]) ++ y2.1)).size + ((strLit [32]) ++ y4.1).size ≤ 9223372036854775807 then some ((((strLit [99, 97, 112]) ++ ((strLit [32]) ++ y2.1)) ++ ((strLit [32]) ++ y4.1)), ()) else none else none) (cond (o0 == 4) (some ((strLit [116, 105, 99, 107]), ())) (cond (o0 == 5) (some ((strLit [114, 101, 115, 116, 97, 114, 116]), ())) (cond (o0 == 6) (if (strLit [103, 114, 111, 117, 112]).size + ((strLit [32]) ++ y2.1).size ≤ 9223372036854775807 then if ((strLit [103, 114, 111, 117, 112]) ++ ((strLit [32]) ++ y2.1)).size + ((strLit [32]) ++ y3.1).size ≤ 9223372036854775807 then if (((strLit [103, 114, 111, 117, 112]) ++ ((strLit [32]) ++ y2.1)) ++ ((strLit [32]) ++ y3.1)).size + ((strLit [32]) ++ y4.1).size ≤ 9223372036854775807 then if ((((strLit [103, 114, 111, 117, 112]) ++ ((strLit [32]) ++ y2.1)) ++ ((strLit [32]) ++ y3.1)) ++ ((strLit [32]) ++ y4.1)).size + ((strLit [32]) ++ y5.1).size ≤ 9223372036854775807 then some ((((((strLit [103, 114, 111, 117, 112]) ++ ((strLit [32]) ++ y2.1)) ++ ((strLit [32]) ++ y3.1)) ++ ((strLit [32]) ++ y4.1)) ++ ((strLit [32]) ++ y5.1)), ()) else none else none else none else none) (if (strLit [100, 114, 111, 112]).size + ((strLit [32]) ++ y2.1).size ≤ 9223372036854775807 then some (((strLit [100, 114, 111, 112]) ++ ((strLit [32]) ++ y2.1)), ()) else none)))))) else none else none else none else none)
theorem ztop (k0 : Nat) (o0 o1 o2 o3 o4 : Int) : runFn Tryd.prog ztbl zcfg k0 7 ins_spec_OpText outs_spec_OpText [] (o0, o1, o2, o3, o4, ()) = T  o0 o1 o2 o3 o4 := by kernel_rfl
noncomputable def _root_.Go.Rv.F_spec_OpText : U1 → Option (ByteArray × Unit) := fun x => T x.1 x.2.1 x.2.2.1 x.2.2.2.1 x.2.2.2.2.1
noncomputable abbrev _root_.Go.Rv.S_spec_OpText : Summ := ⟨ins_spec_OpText, outs_spec_OpText, F_spec_OpText, []⟩
theorem _root_.Go.Rv.ok_spec_OpText : SumOK Dr Tryd.prog 7 S_spec_OpText := runFn_ok (by kernel_rfl) (tblL_ok (.cons ok_spec_l10Op (.cons ok_spec_l01Dec .nil))) (by kernel_rfl) fun x y h => ⟨zcfg, 0, (ztop 0 x.1 x.2.1 x.2.2.1 x.2.2.2.1 x.2.2.2.2.1).trans h⟩
end spec_OpText
abbrev ins_spec_l10Length : List Par := [.v false [CT.int .i64]]
abbrev outs_spec_l10Length : List (Bool × List CT) := [(false, [CT.bool])]
namespace spec_l10Length
/-! ### loop.example/g00095/spec.l10Length (function 26) -/
noncomputable def ztbl : Tbl := tblL []
noncomputable def zbody : Code := ((Tryd.prog.funcs[26]?).bind (·.body)).getD .skip
def zcfg : Nat → List Nat × List Nat := fun k => ([], [])
noncomputable def T  (n : Int) : Option (Bool × Unit) := cond (decide (n ≥ 1)) (some ((decide (n ≤ 1000)), ())) (some (false, ()))
theorem ztop (k0 : Nat) (n : Int) : runFn Tryd.prog ztbl zcfg k0 26 ins_spec_l10Length outs_spec_l10Length [] (n, ()) = T  n := by kernel_rfl
noncomputable def _root_.Go.Rv.F_spec_l10Length : Int × Unit → Option (Bool × Unit) := fun x => T x.1
noncomputable abbrev _root_.Go.Rv.S_spec_l10Length : Summ := ⟨ins_spec_l10Length, outs_spec_l10Length, F_spec_l10Length, []⟩
theorem _root_.Go.Rv.ok_spec_l10Length : SumOK Dr Tryd.prog 26 S_spec_l10Length := runFn_ok (by kernel_rfl) (tblL_ok .nil) (by kernel_rfl) fun x y h => ⟨zcfg, 0, (ztop 0 x.1).trans h⟩
end spec_l10Length
abbrev ins_spec_JournalText : List Par := [.v false [CT.int .i64], .v false [CT.int .i64], .v false [CT.sl ct0]]
abbrev outs_spec_JournalText : List (Bool × List CT) := [(false, [CT.str])]
namespace spec_JournalText
/-! ### loop.example/g00095/spec.JournalText (function 11) -/
noncomputable def ztbl : Tbl := tblL [(7, [], S_spec_OpText), (22, [], S_spec_l10Op), (23, [], S_spec_l01Dec), (26, [], S_spec_l10Length), (27, [], S_spec_l02Want)]
noncomputable def zbody : Code := ((Tryd.prog.funcs[11]?).bind (·.body)).getD .skip
def zcfg : Nat → List Nat × List Nat := fun k => if k = 5 then ([2, 7, 8], [6, 7]) else ([], [])
noncomputable def R0 {R : Type} (nx0 : ((List U1) → ByteArray → Int → Option R)) (ex0 : (ByteArray → ByteArray → Option R)) (ex1 : (ByteArray → Option R)) (list2 : List U1) (t : ByteArray) (i : Int) : Option R := cond (decide (i < (list2.length : Int))) (if 0 ≤ i ∧ i < (list2.length : Int) then (F_spec_l10Op ((rd (0, 0, 0, 0, 0, ()) list2 i).1, (rd (0, 0, 0, 0, 0, ()) list2 i).2.1, (rd (0, 0, 0, 0, 0, ()) list2 i).2.2.1, (rd (0, 0, 0, 0, 0, ()) list2 i).2.2.2.1, (rd (0, 0, 0, 0, 0, ()) list2 i).2.2.2.2.1, ())).bind fun y1 => cond (!y1.1) (ex0 (strLit []) t) (if 0 ≤ i ∧ i < (list2.length : Int) then (F_spec_OpText ((rd (0, 0, 0, 0, 0, ()) list2 i).1, (rd (0, 0, 0, 0, 0, ()) list2 i).2.1, (rd (0, 0, 0, 0, 0, ()) list2 i).2.2.1, (rd (0, 0, 0, 0, 0, ()) list2 i).2.2.2.1, (rd (0, 0, 0, 0, 0, ()) list2 i).2.2.2.2.1, ())).bind fun y2 => if t.size + y2.1.size ≤ 9223372036854775807 then if (t ++ y2.1).size + (strLit [10]).size ≤ 9223372036854775807 then nx0 list2 ((t ++ y2.1) ++ (strLit [10])) (w64 (i + 1)) else none else none else none) else none) (ex1 t)
noncomputable def A0  (length cap : Int) (list : List U1) (t6x t : ByteArray) : Option (ByteArray × Unit) := some (t6x, ())
noncomputable def A1  (length cap : Int) (list : List U1) (t : ByteArray) : Option (ByteArray × Unit) := some (t, ())
noncomputable def T (lo0 : ((List U1) → ByteArray → Int → Option (ByteArray × Unit))) (length cap : Int) (list : List U1) : Option (ByteArray × Unit) := (F_spec_l10Length (length, ())).bind fun y1 => cond (!y1.1) (some ((strLit []), ())) ((F_spec_l02Want (cap, ())).bind fun y2 => cond (!y2.1) (some ((strLit []), ())) (cond (decide ((list.length : Int) > 300)) (some ((strLit []), ())) ((F_spec_l01Dec (length, ())).bind fun y3 => if (strLit [115, 101, 114, 118, 101, 114, 32]).size + y3.1.size ≤ 9223372036854775807 then if ((strLit [115, 101, 114, 118, 101, 114, 32]) ++ y3.1).size + (strLit [32]).size ≤ 9223372036854775807 then (F_spec_l01Dec (cap, ())).bind fun y4 => if (((strLit [115, 101, 114, 118, 101, 114, 32]) ++ y3.1) ++ (strLit [32])).size + y4.1.size ≤ 9223372036854775807 then if ((((strLit [115, 101, 114, 118, 101, 114, 32]) ++ y3.1) ++ (strLit [32])) ++ y4.1).size + (strLit [10]).size ≤ 9223372036854775807 then lo0 list (((((strLit [115, 101, 114, 118, 101, 114, 32]) ++ y3.1) ++ (strLit [32])) ++ y4.1) ++ (strLit [10])) 0 else none else none else none else none)))
noncomputable def zst0 {R : Type} (k0 : Nat) : Env → List Ob → Kont R → Option R := fun env ob K => runCode Tryd.prog ztbl 51 0 zcfg k0 (codeAt [1, 1, 1, 0, 1, 0, 0] zbody) env ob K
noncomputable def K0 {R : Type} (k0 : Nat) (K : Kont R) : Kont R := blockK 0 (seqK (fun env ob => runCode Tryd.prog ztbl 51 0 zcfg k0 (codeAt [1, 1, 1, 1] zbody) env ob (K)) (K))
noncomputable def L0 {R : Type} (k0 k : Nat) (K : Kont R) (list2 : List U1) (t : ByteArray) (i : Int) : Option R := iter 0 [2, 7, 8] [6, 7] (zst0 k0) k [(2, .sl ct0 list2), (7, .str t), (8, .int .i64 i)] [] K
theorem zs0 {R : Type} (k0 k : Nat) (K : Kont R) (list2 : List U1) (t : ByteArray) (i : Int) : L0 k0 (k + 1) K list2 t i = R0 (L0 k0 k K) (fun t6x t => K .ret [(6, .str t6x), (7, .str t)] []) (fun t => K (.exit 0) [(6, .undef), (7, .str t)] []) list2 t i := by kernel_rfl
theorem za0 (k0 : Nat) (length cap : Int) (list : List U1) (t6x t : ByteArray) : K0 (R := (ByteArray × Unit)) k0 (finK Tryd.prog [.tmp 6] ins_spec_JournalText outs_spec_JournalText (length, cap, list, ())) .ret [(6, .str t6x), (7, .str t)] [] = A0  length cap list t6x t := by kernel_rfl
theorem za1 (k0 : Nat) (length cap : Int) (list : List U1) (t : ByteArray) : K0 (R := (ByteArray × Unit)) k0 (finK Tryd.prog [.tmp 6] ins_spec_JournalText outs_spec_JournalText (length, cap, list, ())) (.exit 0) [(6, .undef), (7, .str t)] [] = A1  length cap list t := by kernel_rfl
theorem ztop (k0 : Nat) (length cap : Int) (list : List U1) : runFn Tryd.prog ztbl zcfg k0 11 ins_spec_JournalText outs_spec_JournalText [] (length, cap, list, ()) = T (L0 (R := (ByteArray × Unit)) k0 k0 (K0 (R := (ByteArray × Unit)) k0 ((finK Tryd.prog [.tmp 6] ins_spec_JournalText outs_spec_JournalText (length, cap, list, ()))))) length cap list := by kernel_rfl
noncomputable def G0 {R : Type} (k0 : Nat) (hx0 : (ByteArray → ByteArray → Option R)) (hx1 : (ByteArray → Option R)) : Nat → (List U1) → ByteArray → Int → Option R
 | 0, _, _, _ => none
 | k + 1, list2, t, i => R0 (G0 k0 hx0 hx1 k) hx0 hx1 list2 t i
theorem zg0 {R : Type} (k0 : Nat) (K : Kont R) : ∀ k : Nat, L0 k0 k K = G0 k0 (fun t6x t => K .ret [(6, .str t6x), (7, .str t)] []) (fun t => K (.exit 0) [(6, .undef), (7, .str t)] []) k := by
 intro k
 induction k with
 | zero => funext list2 t i; rfl
 | succ k ih => funext list2 t i; rw [zs0, G0]; (try simp only [ih]); try rfl
noncomputable def FF (k0 : Nat) (length cap : Int) (list : List U1) : Option (ByteArray × Unit) := T (G0 k0 (A0  length cap list) (A1  length cap list) k0) length cap list
theorem zrun (k0 : Nat) (length cap : Int) (list : List U1) : runFn Tryd.prog ztbl zcfg k0 11 ins_spec_JournalText outs_spec_JournalText [] (length, cap, list, ()) = FF k0 length cap list := by
 rw [ztop, FF]; (try simp only [zg0, za0, za1]); try rfl
noncomputable def _root_.Go.Rv.F_spec_JournalText : Int × Int × (List U1) × Unit → Option (ByteArray × Unit) := fun x => (fun (length cap : Int) (list : List U1) => FF (300 + list.length) length cap list) x.1 x.2.1 x.2.2.1
noncomputable abbrev _root_.Go.Rv.S_spec_JournalText : Summ := ⟨ins_spec_JournalText, outs_spec_JournalText, F_spec_JournalText, []⟩
theorem _root_.Go.Rv.ok_spec_JournalText : SumOK Dr Tryd.prog 11 S_spec_JournalText := runFn_ok (by kernel_rfl) (tblL_ok (.cons ok_spec_OpText (.cons ok_spec_l10Op (.cons ok_spec_l01Dec (.cons ok_spec_l10Length (.cons ok_spec_l02Want .nil)))))) (by kernel_rfl) fun x y h => ⟨zcfg, _, (zrun _ x.1 x.2.1 x.2.2.1).trans h⟩
end spec_JournalText
abbrev ins_spec_l01Split : List Par := [.v false [CT.str], .v false [CT.int .u8]]
abbrev outs_spec_l01Split : List (Bool × List CT) := [(false, [CT.sl [CT.str]])]
namespace spec_l01Split
/-! ### loop.example/g00095/spec.l01Split (function 35) -/
noncomputable def ztbl : Tbl := tblL []
noncomputable def zbody : Code := ((Tryd.prog.funcs[35]?).bind (·.body)).getD .skip
def zcfg : Nat → List Nat × List Nat := fun k => if k = 4 then ([0, 1, 5, 6, 7], [0, 5, 6]) else ([], [])
noncomputable def R0 {R : Type} (nx0 : (ByteArray → Int → Int → Int → (List (ByteArray × Unit)) → Option R)) (ex0 : (ByteArray → Int → (List (ByteArray × Unit)) → Option R)) (t2 : ByteArray) (byx fromx i : Int) (out : List (ByteArray × Unit)) : Option R := cond (decide (i < (t2.size : Int))) (if 0 ≤ i ∧ i < (t2.size : Int) then cond ((bt t2 i) == byx) (if 0 ≤ fromx ∧ fromx ≤ i ∧ i ≤ (t2.size : Int) then if out.length + [((t2.extract (fromx.toNat) (i.toNat)), ())].length ≤ maxRow then nx0 t2 byx (w64 (i + 1)) (w64 (i + 1)) (out ++ [((t2.extract (fromx.toNat) (i.toNat)), ())]) else none else none) (nx0 t2 byx fromx (w64 (i + 1)) out) else none) (ex0 t2 fromx out)
noncomputable def A0  (t : ByteArray) (aby : Int) (t2 : ByteArray) (fromx : Int) (out : List (ByteArray × Unit)) : Option ((List (ByteArray × Unit)) × Unit) := if 0 ≤ fromx ∧ fromx ≤ (t2.size : Int) then if out.length + [((t2.extract (fromx.toNat) t2.size), ())].length ≤ maxRow then some ((out ++ [((t2.extract (fromx.toNat) t2.size), ())]), ()) else none else none
noncomputable def T (lo0 : (ByteArray → Int → Int → Int → (List (ByteArray × Unit)) → Option ((List (ByteArray × Unit)) × Unit))) (t : ByteArray) (aby : Int) : Option ((List (ByteArray × Unit)) × Unit) := lo0 t aby 0 0 ([] : List (ByteArray × Unit))
noncomputable def zst0 {R : Type} (k0 : Nat) : Env → List Ob → Kont R → Option R := fun env ob K => runCode Tryd.prog ztbl 35 0 zcfg k0 (codeAt [1, 1, 1, 0, 1, 0, 0] zbody) env ob K
noncomputable def K0 {R : Type} (k0 : Nat) (K : Kont R) : Kont R := blockK 0 (seqK (fun env ob => runCode Tryd.prog ztbl 35 0 zcfg k0 (codeAt [1, 1, 1, 1] zbody) env ob (K)) (K))
noncomputable def L0 {R : Type} (k0 k : Nat) (K : Kont R) (t2 : ByteArray) (byx fromx i : Int) (out : List (ByteArray × Unit)) : Option R := iter 0 [0, 1, 5, 6, 7] [0, 5, 6] (zst0 k0) k [(0, .str t2), (1, .int .u8 byx), (5, .own 0), (6, .int .i64 fromx), (7, .int .i64 i)] [.arr [CT.str] out] K
theorem zs0 {R : Type} (k0 k : Nat) (K : Kont R) (t2 : ByteArray) (byx fromx i : Int) (out : List (ByteArray × Unit)) : L0 k0 (k + 1) K t2 byx fromx i out = R0 (L0 k0 k K) (fun t2 fromx out => K (.exit 0) [(0, .str t2), (5, .own 0), (6, .int .i64 fromx)] [.arr [CT.str] out]) t2 byx fromx i out := by kernel_rfl
theorem za0 (k0 : Nat) (t : ByteArray) (aby : Int) (t2 : ByteArray) (fromx : Int) (out : List (ByteArray × Unit)) : K0 (R := ((List (ByteArray × Unit)) × Unit)) k0 (finK Tryd.prog [.tmp 4] ins_spec_l01Split outs_spec_l01Split (t, aby, ())) (.exit 0) [(0, .str t2), (5, .own 0), (6, .int .i64 fromx)] [.arr [CT.str] out] = A0  t aby t2 fromx out := by kernel_rfl
theorem ztop (k0 : Nat) (t : ByteArray) (aby : Int) : runFn Tryd.prog ztbl zcfg k0 35 ins_spec_l01Split outs_spec_l01Split [] (t, aby, ()) = T (L0 (R := ((List (ByteArray × Unit)) × Unit)) k0 k0 (K0 (R := ((List (ByteArray × Unit)) × Unit)) k0 ((finK Tryd.prog [.tmp 4] ins_spec_l01Split outs_spec_l01Split (t, aby, ()))))) t aby := by kernel_rfl
noncomputable def G0 {R : Type} (k0 : Nat) (hx0 : (ByteArray → Int → (List (ByteArray × Unit)) → Option R)) : Nat → ByteArray → Int → Int → Int → (List (ByteArray × Unit)) → Option R
 | 0, _, _, _, _, _ => none
 | k + 1, t2, byx, fromx, i, out => R0 (G0 k0 hx0 k) hx0 t2 byx fromx i out
theorem zg0 {R : Type} (k0 : Nat) (K : Kont R) : ∀ k : Nat, L0 k0 k K = G0 k0 (fun t2 fromx out => K (.exit 0) [(0, .str t2), (5, .own 0), (6, .int .i64 fromx)] [.arr [CT.str] out]) k := by
 intro k
 induction k with
 | zero => funext t2 byx fromx i out; rfl
 | succ k ih => funext t2 byx fromx i out; rw [zs0, G0]; (try simp only [ih]); try rfl
noncomputable def FF (k0 : Nat) (t : ByteArray) (aby : Int) : Option ((List (ByteArray × Unit)) × Unit) := T (G0 k0 (A0  t aby) k0) t aby
theorem zrun (k0 : Nat) (t : ByteArray) (aby : Int) : runFn Tryd.prog ztbl zcfg k0 35 ins_spec_l01Split outs_spec_l01Split [] (t, aby, ()) = FF k0 t aby := by
 rw [ztop, FF]; (try simp only [zg0, za0]); try rfl
noncomputable def _root_.Go.Rv.F_spec_l01Split : ByteArray × Int × Unit → Option ((List (ByteArray × Unit)) × Unit) := fun x => (fun (t : ByteArray) (aby : Int) => FF (300 + t.size) t aby) x.1 x.2.1
noncomputable abbrev _root_.Go.Rv.S_spec_l01Split : Summ := ⟨ins_spec_l01Split, outs_spec_l01Split, F_spec_l01Split, []⟩
theorem _root_.Go.Rv.ok_spec_l01Split : SumOK Dr Tryd.prog 35 S_spec_l01Split := runFn_ok (by kernel_rfl) (tblL_ok .nil) (by kernel_rfl) fun x y h => ⟨zcfg, _, (zrun _ x.1 x.2.1).trans h⟩
end spec_l01Split
abbrev ins_spec_l01Num : List Par := [.v false [CT.str]]
abbrev outs_spec_l01Num : List (Bool × List CT) := [(false, [CT.int .i64]), (false, [CT.bool])]
namespace spec_l01Num
/-! ### loop.example/g00095/spec.l01Num (function 36) -/
noncomputable def ztbl : Tbl := tblL [(23, [], S_spec_l01Dec)]
noncomputable def zbody : Code := ((Tryd.prog.funcs[36]?).bind (·.body)).getD .skip
def zcfg : Nat → List Nat × List Nat := fun k => if k = 9 then ([0, 4, 5, 6, 7], [0, 2, 3, 4, 6]) else ([], [])
noncomputable def R0 {R : Type} (nx0 : (ByteArray → Bool → ByteArray → Int → Int → Option R)) (ex0 : (ByteArray → Int → Bool → Bool → Int → Option R)) (ex1 : (ByteArray → Bool → Int → Option R)) (t2 : ByteArray) (neg : Bool) (d : ByteArray) (n i : Int) : Option R := cond (decide (i < (d.size : Int))) (if 0 ≤ i ∧ i < (d.size : Int) then cond (decide ((bt d i) < 48)) (ex0 t2 0 false neg n) (if 0 ≤ i ∧ i < (d.size : Int) then cond (decide ((bt d i) > 57)) (ex0 t2 0 false neg n) (if 0 ≤ i ∧ i < (d.size : Int) then nx0 t2 neg d (w64 ((w64 (10 * n)) + (w64 ((IntKind.u8.wrap ((bt d i) - 48)))))) (w64 (i + 1)) else none) else none) else none) (ex1 t2 neg n)
noncomputable def A0  (t : ByteArray) (t2 : ByteArray) (t2x : Int) (t3x neg : Bool) (n : Int) : Option (Int × Bool × Unit) := some (t2x, t3x, ())
noncomputable def A1  (t : ByteArray) (t2 : ByteArray) (neg : Bool) (n : Int) : Option (Int × Bool × Unit) := cond neg ((F_spec_l01Dec ((w64 (0 - n)), ())).bind fun y1 => some ((w64 (0 - n)), (seq y1.1 t2), ())) ((F_spec_l01Dec (n, ())).bind fun y2 => some (n, (seq y2.1 t2), ()))
noncomputable def T (lo0 : (ByteArray → Bool → ByteArray → Int → Int → Option (Int × Bool × Unit))) (t : ByteArray) : Option (Int × Bool × Unit) := cond (decide ((t.size : Int) > 0)) (if (0 : Int) ≤ 0 ∧ 0 < (t.size : Int) then cond ((bt t 0) == 45) (if (0 : Int) ≤ 1 ∧ 1 ≤ (t.size : Int) then cond (decide (((t.extract ((1 : Int).toNat) t.size).size : Int) < 1)) (some (0, false, ())) (cond (decide (((t.extract ((1 : Int).toNat) t.size).size : Int) > 18)) (some (0, false, ())) (lo0 t ((bt t 0) == 45) (t.extract ((1 : Int).toNat) t.size) 0 0)) else none) (cond (decide ((t.size : Int) < 1)) (some (0, false, ())) (cond (decide ((t.size : Int) > 18)) (some (0, false, ())) (lo0 t ((bt t 0) == 45) t 0 0))) else none) (cond (decide ((t.size : Int) < 1)) (some (0, false, ())) (cond (decide ((t.size : Int) > 18)) (some (0, false, ())) (lo0 t false t 0 0)))
noncomputable def zst0 {R : Type} (k0 : Nat) : Env → List Ob → Kont R → Option R := fun env ob K => runCode Tryd.prog ztbl 60 0 zcfg k0 (codeAt [1, 1, 1, 1, 1, 1, 0, 1, 0, 0] zbody) env ob K
noncomputable def K0 {R : Type} (k0 : Nat) (K : Kont R) : Kont R := blockK 0 (seqK (fun env ob => runCode Tryd.prog ztbl 60 0 zcfg k0 (codeAt [1, 1, 1, 1, 1, 1, 1] zbody) env ob (K)) (K))
noncomputable def L0 {R : Type} (k0 k : Nat) (K : Kont R) (t2 : ByteArray) (neg : Bool) (d : ByteArray) (n i : Int) : Option R := iter 0 [0, 4, 5, 6, 7] [0, 2, 3, 4, 6] (zst0 k0) k [(0, .str t2), (4, .bool neg), (5, .str d), (6, .int .i64 n), (7, .int .i64 i)] [] K
theorem zs0 {R : Type} (k0 k : Nat) (K : Kont R) (t2 : ByteArray) (neg : Bool) (d : ByteArray) (n i : Int) : L0 k0 (k + 1) K t2 neg d n i = R0 (L0 k0 k K) (fun t2 t2x t3x neg n => K .ret [(0, .str t2), (2, .int .i64 t2x), (3, .bool t3x), (4, .bool neg), (6, .int .i64 n)] []) (fun t2 neg n => K (.exit 0) [(0, .str t2), (2, .undef), (3, .undef), (4, .bool neg), (6, .int .i64 n)] []) t2 neg d n i := by kernel_rfl
theorem za0 (k0 : Nat) (t : ByteArray) (t2 : ByteArray) (t2x : Int) (t3x neg : Bool) (n : Int) : K0 (R := (Int × Bool × Unit)) k0 (finK Tryd.prog [.tmp 2, .tmp 3] ins_spec_l01Num outs_spec_l01Num (t, ())) .ret [(0, .str t2), (2, .int .i64 t2x), (3, .bool t3x), (4, .bool neg), (6, .int .i64 n)] [] = A0  t t2 t2x t3x neg n := by kernel_rfl
theorem za1 (k0 : Nat) (t : ByteArray) (t2 : ByteArray) (neg : Bool) (n : Int) : K0 (R := (Int × Bool × Unit)) k0 (finK Tryd.prog [.tmp 2, .tmp 3] ins_spec_l01Num outs_spec_l01Num (t, ())) (.exit 0) [(0, .str t2), (2, .undef), (3, .undef), (4, .bool neg), (6, .int .i64 n)] [] = A1  t t2 neg n := by kernel_rfl
theorem ztop (k0 : Nat) (t : ByteArray) : runFn Tryd.prog ztbl zcfg k0 36 ins_spec_l01Num outs_spec_l01Num [] (t, ()) = T (L0 (R := (Int × Bool × Unit)) k0 k0 (K0 (R := (Int × Bool × Unit)) k0 ((finK Tryd.prog [.tmp 2, .tmp 3] ins_spec_l01Num outs_spec_l01Num (t, ()))))) t := by kernel_rfl
noncomputable def G0 {R : Type} (k0 : Nat) (hx0 : (ByteArray → Int → Bool → Bool → Int → Option R)) (hx1 : (ByteArray → Bool → Int → Option R)) : Nat → ByteArray → Bool → ByteArray → Int → Int → Option R
 | 0, _, _, _, _, _ => none
 | k + 1, t2, neg, d, n, i => R0 (G0 k0 hx0 hx1 k) hx0 hx1 t2 neg d n i
theorem zg0 {R : Type} (k0 : Nat) (K : Kont R) : ∀ k : Nat, L0 k0 k K = G0 k0 (fun t2 t2x t3x neg n => K .ret [(0, .str t2), (2, .int .i64 t2x), (3, .bool t3x), (4, .bool neg), (6, .int .i64 n)] []) (fun t2 neg n => K (.exit 0) [(0, .str t2), (2, .undef), (3, .undef), (4, .bool neg), (6, .int .i64 n)] []) k := by
 intro k
 induction k with
 | zero => funext t2 neg d n i; rfl
 | succ k ih => funext t2 neg d n i; rw [zs0, G0]; (try simp only [ih]); try rfl
noncomputable def FF (k0 : Nat) (t : ByteArray) : Option (Int × Bool × Unit) := T (G0 k0 (A0  t) (A1  t) k0) t
theorem zrun (k0 : Nat) (t : ByteArray) : runFn Tryd.prog ztbl zcfg k0 36 ins_spec_l01Num outs_spec_l01Num [] (t, ()) = FF k0 t := by
 rw [ztop, FF]; (try simp only [zg0, za0, za1]); try rfl
noncomputable def _root_.Go.Rv.F_spec_l01Num : ByteArray × Unit → Option (Int × Bool × Unit) := fun x => (fun (t : ByteArray) => FF (300 + t.size) t) x.1
noncomputable abbrev _root_.Go.Rv.S_spec_l01Num : Summ := ⟨ins_spec_l01Num, outs_spec_l01Num, F_spec_l01Num, []⟩
theorem _root_.Go.Rv.ok_spec_l01Num : SumOK Dr Tryd.prog 36 S_spec_l01Num := runFn_ok (by kernel_rfl) (tblL_ok (.cons ok_spec_l01Dec .nil)) (by kernel_rfl) fun x y h => ⟨zcfg, _, (zrun _ x.1).trans h⟩
end spec_l01Num
abbrev ins_spec_l15Op : List Par := [.v false [CT.str]]
abbrev outs_spec_l15Op : List (Bool × List CT) := [(true, ct0), (false, [CT.bool])]
namespace spec_l15Op
/-! ### loop.example/g00095/spec.l15Op (function 37) -/
noncomputable def ztbl : Tbl := tblL [(7, [], S_spec_OpText), (35, [], S_spec_l01Split), (36, [], S_spec_l01Num)]
noncomputable def zbody : Code := ((Tryd.prog.funcs[37]?).bind (·.body)).getD .skip
def zcfg : Nat → List Nat × List Nat := fun k => if k = 4 then ([0, 2, 4, 5, 6], [0, 2, 4, 5]) else ([], [])
noncomputable def R0 {R : Type} (nx0 : (ByteArray → Int → Int → Int → Int → Int → Int → (List (ByteArray × Unit)) → (List (Int × Unit)) → Option R)) (ex0 : (ByteArray → Int → Int → Int → Int → Int → (List (ByteArray × Unit)) → (List (Int × Unit)) → Option R)) (t2 : ByteArray) (i t2x t2x2 t2x3 t2x4 t2x5 : Int) (w : List (ByteArray × Unit)) (n : List (Int × Unit)) : Option R := cond (decide (i < (w.length : Int))) (cond (decide (i < 5)) (if 0 ≤ i ∧ i < (w.length : Int) then (F_spec_l01Num ((w.getD i.toNat (ByteArray.empty, ())).1, ())).bind fun y1 => if 0 ≤ i ∧ i < (n.length : Int) then nx0 t2 (w64 (i + 1)) t2x t2x2 t2x3 t2x4 t2x5 w (n.set i.toNat (y1.1, ())) else none else none) (ex0 t2 t2x t2x2 t2x3 t2x4 t2x5 w n)) (ex0 t2 t2x t2x2 t2x3 t2x4 t2x5 w n)
noncomputable def A0  (t : ByteArray) (t2 : ByteArray) (t2x t2x2 t2x3 t2x4 t2x5 : Int) (w : List (ByteArray × Unit)) (n : List (Int × Unit)) : Option (Int × Int × Int × Int × Int × Bool × Unit) := if (0 : Int) ≤ 1 ∧ 1 < (n.length : Int) then if (0 : Int) ≤ 0 ∧ 0 < (w.length : Int) then cond (seq ((w.getD ((0 : Int).toNat) (ByteArray.empty, ())).1) (strLit [103, 101, 116])) (if (0 : Int) ≤ 2 ∧ 2 < (n.length : Int) then if (0 : Int) ≤ 3 ∧ 3 < (n.length : Int) then if (0 : Int) ≤ 4 ∧ 4 < (n.length : Int) then if (0 : Int) ≤ 0 ∧ 0 < (w.length : Int) then cond (seq ((w.getD ((0 : Int).toNat) (ByteArray.empty, ())).1) (strLit [103, 114, 111, 117, 112])) (cond (!seq t2 (strLit [])) ((F_spec_OpText (6, (n.getD ((1 : Int).toNat) (0, ())).1, (n.getD ((2 : Int).toNat) (0, ())).1, (n.getD ((3 : Int).toNat) (0, ())).1, (n.getD ((4 : Int).toNat) (0, ())).1, ())).bind fun y1 => some (6, (n.getD ((1 : Int).toNat) (0, ())).1, (n.getD ((2 : Int).toNat) (0, ())).1, (n.getD ((3 : Int).toNat) (0, ())).1, (n.getD ((4 : Int).toNat) (0, ())).1, (seq y1.1 t2), ())) (some (6, (n.getD ((1 : Int).toNat) (0, ())).1, (n.getD ((2 : Int).toNat) (0, ())).1, (n.getD ((3 : Int).toNat) (0, ())).1, (n.getD ((4 : Int).toNat) (0, ())).1, false, ()))) (cond (!seq t2 (strLit [])) ((F_spec_OpText (1, (n.getD ((1 : Int).toNat) (0, ())).1, (n.getD ((2 : Int).toNat) (0, ())).1, (n.getD ((3 : Int).toNat) (0, ())).1, (n.getD ((4 : Int).toNat) (0, ())).1, ())).bind fun y2 => some (1, (n.getD ((1 : Int).toNat) (0, ())).1, (n.getD ((2 : Int).toNat) (0, ())).1, (n.getD ((3 : Int).toNat) (0, ())).1, (n.getD ((4 : Int).toNat) (0, ())).1, (seq y2.1 t2), ())) (some (1, (n.getD ((1 : Int).toNat) (0, ())).1, (n.getD ((2 : Int).toNat) (0, ())).1, (n.getD ((3 : Int).toNat) (0, ())).1, (n.getD ((4 : Int).toNat) (0, ())).1, false, ()))) else none else none else none else none) (cond (seq ((w.getD ((0 : Int).toNat) (ByteArray.empty, ())).1) (strLit [103, 114, 111, 117, 112])) (if (0 : Int) ≤ 2 ∧ 2 < (n.length : Int) then if (0 : Int) ≤ 3 ∧ 3 < (n.length : Int) then if (0 : Int) ≤ 4 ∧ 4 < (n.length : Int) then if (0 : Int) ≤ 0 ∧ 0 < (w.length : Int) then cond (seq ((w.getD ((0 : Int).toNat) (ByteArray.empty, ())).1) (strLit [103, 114, 111, 117, 112])) (cond (!seq t2 (strLit [])) ((F_spec_OpText (6, (n.getD ((1 : Int).toNat) (0, ())).1, (n.getD ((2 : Int).toNat) (0, ())).1, (n.getD ((3 : Int).toNat) (0, ())).1, (n.getD ((4 : Int).toNat) (0, ())).1, ())).bind fun y3 => some (6, (n.getD ((1 : Int).toNat) (0, ())).1, (n.getD ((2 : Int).toNat) (0, ())).1, (n.getD ((3 : Int).toNat) (0, ())).1, (n.getD ((4 : Int).toNat) (0, ())).1, (seq y3.1 t2), ())) (some (6, (n.getD ((1 : Int).toNat) (0, ())).1, (n.getD ((2 : Int).toNat) (0, ())).1, (n.getD ((3 : Int).toNat) (0, ())).1, (n.getD ((4 : Int).toNat) (0, ())).1, false, ()))) (cond (!seq t2 (strLit [])) ((F_spec_OpText (1, (n.getD ((1 : Int).toNat) (0, ())).1, (n.getD ((2 : Int).toNat) (0, ())).1, (n.getD ((3 : Int).toNat) (0, ())).1, (n.getD ((4 : Int).toNat) (0, ())).1, ())).bind fun y4 => some (1, (n.getD ((1 : Int).toNat) (0, ())).1, (n.getD ((2 : Int).toNat) (0, ())).1, (n.getD ((3 : Int).toNat) (0, ())).1, (n.getD ((4 : Int).toNat) (0, ())).1, (seq y4.1 t2), ())) (some (1, (n.getD ((1 : Int).toNat) (0, ())).1, (n.getD ((2 : Int).toNat) (0, ())).1, (n.getD ((3 : Int).toNat) (0, ())).1, (n.getD ((4 : Int).toNat) (0, ())).1, false, ()))) else none else none else none else none) (cond (seq ((w.getD ((0 : Int).toNat) (ByteArray.empty, ())).1) (strLit [114, 101, 108, 101, 97, 115, 101])) (cond (!seq t2 (strLit [])) ((F_spec_OpText (2, (n.getD ((1 : Int).toNat) (0, ())).1, 0, 0, 0, ())).bind fun y5 => some (2, (n.getD ((1 : Int).toNat) (0, ())).1, 0, 0, 0, (seq y5.1 t2), ())) (some (2, (n.getD ((1 : Int).toNat) (0, ())).1, 0, 0, 0, false, ()))) (cond (seq ((w.getD ((0 : Int).toNat) (ByteArray.empty, ())).1) (strLit [99, 97, 112])) (if (0 : Int) ≤ 2 ∧ 2 < (n.length : Int) then cond (!seq t2 (strLit [])) ((F_spec_OpText (3, (n.getD ((1 : Int).toNat) (0, ())).1, 0, (n.getD ((2 : Int).toNat) (0, ())).1, 0, ())).bind fun y6 => some (3, (n.getD ((1 : Int).toNat) (0, ())).1, 0, (n.getD ((2 : Int).toNat) (0, ())).1, 0, (seq y6.1 t2), ())) (some (3, (n.getD ((1 : Int).toNat) (0, ())).1, 0, (n.getD ((2 : Int).toNat) (0, ())).1, 0, false, ())) else none) (cond (seq ((w.getD ((0 : Int).toNat) (ByteArray.empty, ())).1) (strLit [116, 105, 99, 107])) (cond (!seq t2 (strLit [])) ((F_spec_OpText (4, (n.getD ((1 : Int).toNat) (0, ())).1, 0, 0, 0, ())).bind fun y7 => some (4, (n.getD ((1 : Int).toNat) (0, ())).1, 0, 0, 0, (seq y7.1 t2), ())) (some (4, (n.getD ((1 : Int).toNat) (0, ())).1, 0, 0, 0, false, ()))) (cond (seq ((w.getD ((0 : Int).toNat) (ByteArray.empty, ())).1) (strLit [114, 101, 115, 116, 97, 114, 116])) (cond (!seq t2 (strLit [])) ((F_spec_OpText (5, (n.getD ((1 : Int).toNat) (0, ())).1, 0, 0, 0, ())).bind fun y8 => some (5, (n.getD ((1 : Int).toNat) (0, ())).1, 0, 0, 0, (seq y8.1 t2), ())) (some (5, (n.getD ((1 : Int).toNat) (0, ())).1, 0, 0, 0, false, ()))) (cond (seq ((w.getD ((0 : Int).toNat) (ByteArray.empty, ())).1) (strLit [100, 114, 111, 112])) (cond (!seq t2 (strLit [])) ((F_spec_OpText (7, (n.getD ((1 : Int).toNat) (0, ())).1, 0, 0, 0, ())).bind fun y9 => some (7, (n.getD ((1 : Int).toNat) (0, ())).1, 0, 0, 0, (seq y9.1 t2), ())) (some (7, (n.getD ((1 : Int).toNat) (0, ())).1, 0, 0, 0, false, ()))) (cond (!seq t2 (strLit [])) ((F_spec_OpText (0, (n.getD ((1 : Int).toNat) (0, ())).1, 0, 0, 0, ())).bind fun y10 => some (0, (n.getD ((1 : Int).toNat) (0, ())).1, 0, 0, 0, (seq y10.1 t2), ())) (some (0, (n.getD ((1 : Int).toNat) (0, ())).1, 0, 0, 0, false, ()))))))))) else none else none
noncomputable def T (lo0 : (ByteArray → Int → Int → Int → Int → Int → Int → (List (ByteArray × Unit)) → (List (Int × Unit)) → Option (Int × Int × Int × Int × Int × Bool × Unit))) (t : ByteArray) : Option (Int × Int × Int × Int × Int × Bool × Unit) := (F_spec_l01Split (t, 32, ())).bind fun y1 => lo0 t 1 0 0 0 0 0 y1.1 [(0, ()), (0, ()), (0, ()), (0, ()), (0, ())]
noncomputable def zst0 {R : Type} (k0 : Nat) : Env → List Ob → Kont R → Option R := fun env ob K => runCode Tryd.prog ztbl 91 0 zcfg k0 (codeAt [1, 1, 1, 0, 1, 0, 0] zbody) env ob K
noncomputable def K0 {R : Type} (k0 : Nat) (K : Kont R) : Kont R := blockK 0 (seqK (fun env ob => runCode Tryd.prog ztbl 91 0 zcfg k0 (codeAt [1, 1, 1, 1] zbody) env ob (K)) (K))
noncomputable def L0 {R : Type} (k0 k : Nat) (K : Kont R) (t2 : ByteArray) (i t2x t2x2 t2x3 t2x4 t2x5 : Int) (w : List (ByteArray × Unit)) (n : List (Int × Unit)) : Option R := iter 0 [0, 2, 4, 5, 6] [0, 2, 4, 5] (zst0 k0) k [(0, .str t2), (2, .ptr 0 0 0 0), (4, .own 1), (5, .own 2), (6, .int .i64 i)] [.box [.int .i64 t2x, .int .i64 t2x2, .int .i64 t2x3, .int .i64 t2x4, .int .i64 t2x5], .arr [CT.str] w, .arr [CT.int .i64] n] K
theorem zs0 {R : Type} (k0 k : Nat) (K : Kont R) (t2 : ByteArray) (i t2x t2x2 t2x3 t2x4 t2x5 : Int) (w : List (ByteArray × Unit)) (n : List (Int × Unit)) : L0 k0 (k + 1) K t2 i t2x t2x2 t2x3 t2x4 t2x5 w n = R0 (L0 k0 k K) (fun t2 t2x t2x2 t2x3 t2x4 t2x5 w n => K (.exit 0) [(0, .str t2), (2, .ptr 0 0 0 0), (4, .own 1), (5, .own 2)] [.box [.int .i64 t2x, .int .i64 t2x2, .int .i64 t2x3, .int .i64 t2x4, .int .i64 t2x5], .arr [CT.str] w, .arr [CT.int .i64] n]) t2 i t2x t2x2 t2x3 t2x4 t2x5 w n := by kernel_rfl
theorem za0 (k0 : Nat) (t : ByteArray) (t2 : ByteArray) (t2x t2x2 t2x3 t2x4 t2x5 : Int) (w : List (ByteArray × Unit)) (n : List (Int × Unit)) : K0 (R := (Int × Int × Int × Int × Int × Bool × Unit)) k0 (finK Tryd.prog [.cell 2 25, .tmp 3] ins_spec_l15Op outs_spec_l15Op (t, ())) (.exit 0) [(0, .str t2), (2, .ptr 0 0 0 0), (4, .own 1), (5, .own 2)] [.box [.int .i64 t2x, .int .i64 t2x2, .int .i64 t2x3, .int .i64 t2x4, .int .i64 t2x5], .arr [CT.str] w, .arr [CT.int .i64] n] = A0  t t2 t2x t2x2 t2x3 t2x4 t2x5 w n := by kernel_rfl
theorem ztop (k0 : Nat) (t : ByteArray) : runFn Tryd.prog ztbl zcfg k0 37 ins_spec_l15Op outs_spec_l15Op [] (t, ()) = T (L0 (R := (Int × Int × Int × Int × Int × Bool × Unit)) k0 k0 (K0 (R := (Int × Int × Int × Int × Int × Bool × Unit)) k0 ((finK Tryd.prog [.cell 2 25, .tmp 3] ins_spec_l15Op outs_spec_l15Op (t, ()))))) t := by kernel_rfl
noncomputable def G0 {R : Type} (k0 : Nat) (hx0 : (ByteArray → Int → Int → Int → Int → Int → (List (ByteArray × Unit)) → (List (Int × Unit)) → Option R)) : Nat → ByteArray → Int → Int → Int → Int → Int → Int → (List (ByteArray × Unit)) → (List (Int × Unit)) → Option R
 | 0, _, _, _, _, _, _, _, _, _ => none
 | k + 1, t2, i, t2x, t2x2, t2x3, t2x4, t2x5, w, n => R0 (G0 k0 hx0 k) hx0 t2 i t2x t2x2 t2x3 t2x4 t2x5 w n
theorem zg0 {R : Type} (k0 : Nat) (K : Kont R) : ∀ k : Nat, L0 k0 k K = G0 k0 (fun t2 t2x t2x2 t2x3 t2x4 t2x5 w n => K (.exit 0) [(0, .str t2), (2, .ptr 0 0 0 0), (4, .own 1), (5, .own 2)] [.box [.int .i64 t2x, .int .i64 t2x2, .int .i64 t2x3, .int .i64 t2x4, .int .i64 t2x5], .arr [CT.str] w, .arr [CT.int .i64] n]) k := by
 intro k
 induction k with
 | zero => funext t2 i t2x t2x2 t2x3 t2x4 t2x5 w n; rfl
 | succ k ih => funext t2 i t2x t2x2 t2x3 t2x4 t2x5 w n; rw [zs0, G0]; (try simp only [ih]); try rfl
noncomputable def FF (k0 : Nat) (t : ByteArray) : Option (Int × Int × Int × Int × Int × Bool × Unit) := T (G0 k0 (A0  t) k0) t
theorem zrun (k0 : Nat) (t : ByteArray) : runFn Tryd.prog ztbl zcfg k0 37 ins_spec_l15Op outs_spec_l15Op [] (t, ()) = FF k0 t := by
 rw [ztop, FF]; (try simp only [zg0, za0]); try rfl
noncomputable def _root_.Go.Rv.F_spec_l15Op : ByteArray × Unit → Option (Int × Int × Int × Int × Int × Bool × Unit) := fun x => (fun (t : ByteArray) => FF (300 + t.size) t) x.1
noncomputable abbrev _root_.Go.Rv.S_spec_l15Op : Summ := ⟨ins_spec_l15Op, outs_spec_l15Op, F_spec_l15Op, []⟩
theorem _root_.Go.Rv.ok_spec_l15Op : SumOK Dr Tryd.prog 37 S_spec_l15Op := runFn_ok (by kernel_rfl) (tblL_ok (.cons ok_spec_OpText (.cons ok_spec_l01Split (.cons ok_spec_l01Num .nil)))) (by kernel_rfl) fun x y h => ⟨zcfg, _, (zrun _ x.1).trans h⟩
end spec_l15Op
abbrev ins_spec_JournalRead : List Par := [.v false [CT.str]]
abbrev outs_spec_JournalRead : List (Bool × List CT) := [(true, ct1)]
namespace spec_JournalRead
/-! ### loop.example/g00095/spec.JournalRead (function 17) -/
noncomputable def ztbl : Tbl := tblL [(11, [], S_spec_JournalText), (35, [], S_spec_l01Split), (36, [], S_spec_l01Num), (37, [], S_spec_l15Op)]
noncomputable def zbody : Code := ((Tryd.prog.funcs[17]?).bind (·.body)).getD .skip
def zcfg : Nat → List Nat × List Nat := fun k => if k = 6 then ([2, 3, 4, 5], [2, 4]) else ([], [])
noncomputable def R0 {R : Type} (nx0 : (Int → Int → Int → Int → Int → (List (ByteArray × Unit)) → Int → Int → Int → Int → Option R)) (nx1 : (Int → Int → Int → Int → Int → (List (ByteArray × Unit)) → Int → Int → Int → Int → (List U1) → Option R)) (ex0 : (Int → Int → Int → Int → Int → Int → Int → Int → Option R)) (ex1 : (Int → Int → Int → Int → Int → Int → Int → Int → Option R)) (i t2x t2x2 t2x3 t2x4 : Int) (lines : List (ByteArray × Unit)) (out out2 out3 out4 : Int) : Option R := cond (decide (i < (lines.length : Int))) (cond (i == (w64 ((lines.length : Int) - 1))) (if 0 ≤ i ∧ i < (lines.length : Int) then cond (!seq ((lines.getD i.toNat (ByteArray.empty, ())).1) (strLit [])) (ex0 0 0 i 3 out out2 out3 out4) (cond (i == 0) (ex0 0 0 i 3 out out2 out3 out4) (ex1 t2x t2x2 t2x3 t2x4 out out2 out3 out4)) else none) (cond (i == 0) (if (0 : Int) ≤ 0 ∧ 0 < (lines.length : Int) then (F_spec_l01Split ((lines.getD ((0 : Int).toNat) (ByteArray.empty, ())).1, 32, ())).bind fun y1 => cond ((y1.1.length : Int) != 3) (ex0 0 0 i 3 out out2 out3 out4) (if (0 : Int) ≤ 1 ∧ 1 < (y1.1.length : Int) then (F_spec_l01Num ((y1.1.getD ((1 : Int).toNat) (ByteArray.empty, ())).1, ())).bind fun y2 => if (0 : Int) ≤ 2 ∧ 2 < (y1.1.length : Int) then (F_spec_l01Num ((y1.1.getD ((2 : Int).toNat) (ByteArray.empty, ())).1, ())).bind fun y3 => (F_spec_JournalText (y2.1, y3.1, [], ())).bind fun y4 => if (0 : Int) ≤ 0 ∧ 0 < (lines.length : Int) then if ((lines.getD ((0 : Int).toNat) (ByteArray.empty, ())).1).size + (strLit [10]).size ≤ 9223372036854775807 then cond (!seq y4.1 ((lines.getD ((0 : Int).toNat) (ByteArray.empty, ())).1 ++ (strLit [10]))) (ex0 0 0 i 3 y2.1 y3.1 out3 out4) (nx0 (w64 (i + 1)) t2x t2x2 t2x3 t2x4 lines y2.1 y3.1 out3 out4) else none else none else none else none) else none) (if 0 ≤ i ∧ i < (lines.length : Int) then (F_spec_l15Op ((lines.getD i.toNat (ByteArray.empty, ())).1, ())).bind fun y5 => cond (!y5.2.2.2.2.2.1) (ex0 0 0 i 3 out out2 out3 out4) (cond (decide (i > 300)) (ex0 0 0 i 3 out out2 out3 out4) (if [(y5.1, y5.2.1, y5.2.2.1, y5.2.2.2.1, y5.2.2.2.2.1, ())].length ≤ maxRow then nx1 (w64 (i + 1)) t2x t2x2 t2x3 t2x4 lines out out2 out3 out4 [(y5.1, y5.2.1, y5.2.2.1, y5.2.2.2.1, y5.2.2.2.2.1, ())] else none)) else none))) (ex1 t2x t2x2 t2x3 t2x4 out out2 out3 out4)
noncomputable def R1 {R : Type} (nx1 : (Int → Int → Int → Int → Int → (List (ByteArray × Unit)) → Int → Int → Int → Int → (List U1) → Option R)) (ex2 : (Int → Int → Int → Int → Int → Int → Int → Int → (List U1) → Option R)) (ex3 : (Int → Int → Int → Int → Int → Int → Int → Int → (List U1) → Option R)) (i t2x t2x2 t2x3 t2x4 : Int) (lines : List (ByteArray × Unit)) (out out2 out3 out4 : Int) (o3 : List U1) : Option R := cond (decide (i < (lines.length : Int))) (cond (i == (w64 ((lines.length : Int) - 1))) (if 0 ≤ i ∧ i < (lines.length : Int) then cond (!seq ((lines.getD i.toNat (ByteArray.empty, ())).1) (strLit [])) (ex2 0 0 i 3 out out2 out3 out4 o3) (cond (i == 0) (ex2 0 0 i 3 out out2 out3 out4 o3) (ex3 t2x t2x2 t2x3 t2x4 out out2 out3 out4 o3)) else none) (cond (i == 0) (if (0 : Int) ≤ 0 ∧ 0 < (lines.length : Int) then (F_spec_l01Split ((lines.getD ((0 : Int).toNat) (ByteArray.empty, ())).1, 32, ())).bind fun y1 => cond ((y1.1.length : Int) != 3) (ex2 0 0 i 3 out out2 out3 out4 o3) (if (0 : Int) ≤ 1 ∧ 1 < (y1.1.length : Int) then (F_spec_l01Num ((y1.1.getD ((1 : Int).toNat) (ByteArray.empty, ())).1, ())).bind fun y2 => if (0 : Int) ≤ 2 ∧ 2 < (y1.1.length : Int) then (F_spec_l01Num ((y1.1.getD ((2 : Int).toNat) (ByteArray.empty, ())).1, ())).bind fun y3 => (F_spec_JournalText (y2.1, y3.1, [], ())).bind fun y4 => if (0 : Int) ≤ 0 ∧ 0 < (lines.length : Int) then if ((lines.getD ((0 : Int).toNat) (ByteArray.empty, ())).1).size + (strLit [10]).size ≤ 9223372036854775807 then cond (!seq y4.1 ((lines.getD ((0 : Int).toNat) (ByteArray.empty, ())).1 ++ (strLit [10]))) (ex2 0 0 i 3 y2.1 y3.1 out3 out4 o3) (nx1 (w64 (i + 1)) t2x t2x2 t2x3 t2x4 lines y2.1 y3.1 out3 out4 o3) else none else none else none else none) else none) (if 0 ≤ i ∧ i < (lines.length : Int) then (F_spec_l15Op ((lines.getD i.toNat (ByteArray.empty, ())).1, ())).bind fun y5 => cond (!y5.2.2.2.2.2.1) (ex2 0 0 i 3 out out2 out3 out4 o3) (cond (decide (i > 300)) (ex2 0 0 i 3 out out2 out3 out4 o3) (if o3.length + [(y5.1, y5.2.1, y5.2.2.1, y5.2.2.2.1, y5.2.2.2.2.1, ())].length ≤ maxRow then nx1 (w64 (i + 1)) t2x t2x2 t2x3 t2x4 lines out out2 out3 out4 (o3 ++ [(y5.1, y5.2.1, y5.2.2.1, y5.2.2.2.1, y5.2.2.2.2.1, ())]) else none)) else none))) (ex3 t2x t2x2 t2x3 t2x4 out out2 out3 out4 o3)
noncomputable def A0  (text : ByteArray) (t2x t2x2 t2x3 t2x4 out out2 out3 out4 : Int) : Option (U0) := some (t2x, t2x2, [], t2x3, t2x4, ())
noncomputable def A1  (text : ByteArray) (t2x t2x2 t2x3 t2x4 out out2 out3 out4 : Int) : Option (U0) := some (out, out2, [], out3, out4, ())
noncomputable def A2  (text : ByteArray) (t2x t2x2 t2x3 t2x4 out out2 out3 out4 : Int) (o2 : List U1) : Option (U0) := some (t2x, t2x2, [], t2x3, t2x4, ())
noncomputable def A3  (text : ByteArray) (t2x t2x2 t2x3 t2x4 out out2 out3 out4 : Int) (o2 : List U1) : Option (U0) := some (out, out2, o2, out3, out4, ())
noncomputable def T (lo0 : (Int → Int → Int → Int → Int → (List (ByteArray × Unit)) → Int → Int → Int → Int → Option (U0))) (text : ByteArray) : Option (U0) := cond (decide ((text.size : Int) > 20000)) (some (0, 0, [], 0, 2, ())) ((F_spec_l01Split (text, 10, ())).bind fun y1 => lo0 0 0 0 0 0 y1.1 0 0 0 0)
noncomputable def zst0 {R : Type} (k0 : Nat) : Env → List Ob → Kont R → Option R := fun env ob K => runCode Tryd.prog ztbl 99 0 zcfg k0 (codeAt [1, 1, 1, 1, 0, 1, 0, 0] zbody) env ob K
noncomputable def K0 {R : Type} (k0 : Nat) (K : Kont R) : Kont R := blockK 0 (seqK (fun env ob => runCode Tryd.prog ztbl 99 0 zcfg k0 (codeAt [1, 1, 1, 1, 1] zbody) env ob (K)) (K))
noncomputable def L0 {R : Type} (k0 k : Nat) (K : Kont R) (i t2x t2x2 t2x3 t2x4 : Int) (lines : List (ByteArray × Unit)) (out out2 out3 out4 : Int) : Option R := iter 0 [2, 3, 4, 5] [2, 4] (zst0 k0) k [(2, .ptr 0 0 0 0), (3, .own 1), (4, .ptr 2 0 0 0), (5, .int .i64 i)] [.box [.int .i64 t2x, .int .i64 t2x2, .nils, .int .i64 t2x3, .int .i64 t2x4], .arr [CT.str] lines, .box [.int .i64 out, .int .i64 out2, .nils, .int .i64 out3, .int .i64 out4]] K
noncomputable def L1 {R : Type} (k0 k : Nat) (K : Kont R) (i t2x t2x2 t2x3 t2x4 : Int) (lines : List (ByteArray × Unit)) (out out2 out3 out4 : Int) (o3 : List U1) : Option R := iter 0 [2, 3, 4, 5] [2, 4] (zst0 k0) k [(2, .ptr 0 0 0 0), (3, .own 1), (4, .ptr 2 0 0 0), (5, .int .i64 i)] [.box [.int .i64 t2x, .int .i64 t2x2, .nils, .int .i64 t2x3, .int .i64 t2x4], .arr [CT.str] lines, .box [.int .i64 out, .int .i64 out2, .own 3, .int .i64 out3, .int .i64 out4], .arr ct0 o3] K
theorem zs0 {R : Type} (k0 k : Nat) (K : Kont R) (i t2x t2x2 t2x3 t2x4 : Int) (lines : List (ByteArray × Unit)) (out out2 out3 out4 : Int) : L0 k0 (k + 1) K i t2x t2x2 t2x3 t2x4 lines out out2 out3 out4 = R0 (L0 k0 k K) (L1 k0 k K) (fun t2x t2x2 t2x3 t2x4 out out2 out3 out4 => K .ret [(2, .ptr 0 0 0 0), (4, .ptr 1 0 0 0)] [.box [.int .i64 t2x, .int .i64 t2x2, .nils, .int .i64 t2x3, .int .i64 t2x4], .box [.int .i64 out, .int .i64 out2, .nils, .int .i64 out3, .int .i64 out4]]) (fun t2x t2x2 t2x3 t2x4 out out2 out3 out4 => K (.exit 0) [(2, .ptr 0 0 0 0), (4, .ptr 1 0 0 0)] [.box [.int .i64 t2x, .int .i64 t2x2, .nils, .int .i64 t2x3, .int .i64 t2x4], .box [.int .i64 out, .int .i64 out2, .nils, .int .i64 out3, .int .i64 out4]]) i t2x t2x2 t2x3 t2x4 lines out out2 out3 out4 := by kernel_rfl
theorem zs1 {R : Type} (k0 k : Nat) (K : Kont R) (i t2x t2x2 t2x3 t2x4 : Int) (lines : List (ByteArray × Unit)) (out out2 out3 out4 : Int) (o3 : List U1) : L1 k0 (k + 1) K i t2x t2x2 t2x3 t2x4 lines out out2 out3 out4 o3 = R1 (L1 k0 k K) (fun t2x t2x2 t2x3 t2x4 out out2 out3 out4 o2 => K .ret [(2, .ptr 0 0 0 0), (4, .ptr 1 0 0 0)] [.box [.int .i64 t2x, .int .i64 t2x2, .nils, .int .i64 t2x3, .int .i64 t2x4], .box [.int .i64 out, .int .i64 out2, .own 2, .int .i64 out3, .int .i64 out4], .arr ct0 o2]) (fun t2x t2x2 t2x3 t2x4 out out2 out3 out4 o2 => K (.exit 0) [(2, .ptr 0 0 0 0), (4, .ptr 1 0 0 0)] [.box [.int .i64 t2x, .int .i64 t2x2, .nils, .int .i64 t2x3, .int .i64 t2x4], .box [.int .i64 out, .int .i64 out2, .own 2, .int .i64 out3, .int .i64 out4], .arr ct0 o2]) i t2x t2x2 t2x3 t2x4 lines out out2 out3 out4 o3 := by kernel_rfl
theorem za0 (k0 : Nat) (text : ByteArray) (t2x t2x2 t2x3 t2x4 out out2 out3 out4 : Int) : K0 (R := (U0)) k0 (finK Tryd.prog [.cell 2 38] ins_spec_JournalRead outs_spec_JournalRead (text, ())) .ret [(2, .ptr 0 0 0 0), (4, .ptr 1 0 0 0)] [.box [.int .i64 t2x, .int .i64 t2x2, .nils, .int .i64 t2x3, .int .i64 t2x4], .box [.int .i64 out, .int .i64 out2, .nils, .int .i64 out3, .int .i64 out4]] = A0  text t2x t2x2 t2x3 t2x4 out out2 out3 out4 := by kernel_rfl
theorem za1 (k0 : Nat) (text : ByteArray) (t2x t2x2 t2x3 t2x4 out out2 out3 out4 : Int) : K0 (R := (U0)) k0 (finK Tryd.prog [.cell 2 38] ins_spec_JournalRead outs_spec_JournalRead (text, ())) (.exit 0) [(2, .ptr 0 0 0 0), (4, .ptr 1 0 0 0)] [.box [.int .i64 t2x, .int .i64 t2x2, .nils, .int .i64 t2x3, .int .i64 t2x4], .box [.int .i64 out, .int .i64 out2, .nils, .int .i64 out3, .int .i64 out4]] = A1  text t2x t2x2 t2x3 t2x4 out out2 out3 out4 := by kernel_rfl
theorem za2 (k0 : Nat) (text : ByteArray) (t2x t2x2 t2x3 t2x4 out out2 out3 out4 : Int) (o2 : List U1) : K0 (R := (U0)) k0 (finK Tryd.prog [.cell 2 38] ins_spec_JournalRead outs_spec_JournalRead (text, ())) .ret [(2, .ptr 0 0 0 0), (4, .ptr 1 0 0 0)] [.box [.int .i64 t2x, .int .i64 t2x2, .nils, .int .i64 t2x3, .int .i64 t2x4], .box [.int .i64 out, .int .i64 out2, .own 2, .int .i64 out3, .int .i64 out4], .arr ct0 o2] = A2  text t2x t2x2 t2x3 t2x4 out out2 out3 out4 o2 := by kernel_rfl
theorem za3 (k0 : Nat) (text : ByteArray) (t2x t2x2 t2x3 t2x4 out out2 out3 out4 : Int) (o2 : List U1) : K0 (R := (U0)) k0 (finK Tryd.prog [.cell 2 38] ins_spec_JournalRead outs_spec_JournalRead (text, ())) (.exit 0) [(2, .ptr 0 0 0 0), (4, .ptr 1 0 0 0)] [.box [.int .i64 t2x, .int .i64 t2x2, .nils, .int .i64 t2x3, .int .i64 t2x4], .box [.int .i64 out, .int .i64 out2, .own 2, .int .i64 out3, .int .i64 out4], .arr ct0 o2] = A3  text t2x t2x2 t2x3 t2x4 out out2 out3 out4 o2 := by kernel_rfl
theorem ztop (k0 : Nat) (text : ByteArray) : runFn Tryd.prog ztbl zcfg k0 17 ins_spec_JournalRead outs_spec_JournalRead [] (text, ()) = T (L0 (R := (U0)) k0 k0 (K0 (R := (U0)) k0 ((finK Tryd.prog [.cell 2 38] ins_spec_JournalRead outs_spec_JournalRead (text, ()))))) text := by kernel_rfl
noncomputable def G1 {R : Type} (k0 : Nat) (hx0 : (Int → Int → Int → Int → Int → Int → Int → Int → Option R)) (hx1 : (Int → Int → Int → Int → Int → Int → Int → Int → Option R)) (hx2 : (Int → Int → Int → Int → Int → Int → Int → Int → (List U1) → Option R)) (hx3 : (Int → Int → Int → Int → Int → Int → Int → Int → (List U1) → Option R)) : Nat → Int → Int → Int → Int → Int → (List (ByteArray × Unit)) → Int → Int → Int → Int → (List U1) → Option R
 | 0, _, _, _, _, _, _, _, _, _, _, _ => none
 | k + 1, i, t2x, t2x2, t2x3, t2x4, lines, out, out2, out3, out4, o3 => R1 (G1 k0 hx0 hx1 hx2 hx3 k) hx2 hx3 i t2x t2x2 t2x3 t2x4 lines out out2 out3 out4 o3
theorem zg1 {R : Type} (k0 : Nat) (K : Kont R) : ∀ k : Nat, L1 k0 k K = G1 k0 (fun t2x t2x2 t2x3 t2x4 out out2 out3 out4 => K .ret [(2, .ptr 0 0 0 0), (4, .ptr 1 0 0 0)] [.box [.int .i64 t2x, .int .i64 t2x2, .nils, .int .i64 t2x3, .int .i64 t2x4], .box [.int .i64 out, .int .i64 out2, .nils, .int .i64 out3, .int .i64 out4]]) (fun t2x t2x2 t2x3 t2x4 out out2 out3 out4 => K (.exit 0) [(2, .ptr 0 0 0 0), (4, .ptr 1 0 0 0)] [.box [.int .i64 t2x, .int .i64 t2x2, .nils, .int .i64 t2x3, .int .i64 t2x4], .box [.int .i64 out, .int .i64 out2, .nils, .int .i64 out3, .int .i64 out4]]) (fun t2x t2x2 t2x3 t2x4 out out2 out3 out4 o2 => K .ret [(2, .ptr 0 0 0 0), (4, .ptr 1 0 0 0)] [.box [.int .i64 t2x, .int .i64 t2x2, .nils, .int .i64 t2x3, .int .i64 t2x4], .box [.int .i64 out, .int .i64 out2, .own 2, .int .i64 out3, .int .i64 out4], .arr ct0 o2]) (fun t2x t2x2 t2x3 t2x4 out out2 out3 out4 o2 => K (.exit 0) [(2, .ptr 0 0 0 0), (4, .ptr 1 0 0 0)] [.box [.int .i64 t2x, .int .i64 t2x2, .nils, .int .i64 t2x3, .int .i64 t2x4], .box [.int .i64 out, .int .i64 out2, .own 2, .int .i64 out3, .int .i64 out4], .arr ct0 o2]) k := by
 intro k
 induction k with
 | zero => funext i t2x t2x2 t2x3 t2x4 lines out out2 out3 out4 o3; rfl
 | succ k ih => funext i t2x t2x2 t2x3 t2x4 lines out out2 out3 out4 o3; rw [zs1, G1]; (try simp only [ih]); try rfl
noncomputable def G0 {R : Type} (k0 : Nat) (hx0 : (Int → Int → Int → Int → Int → Int → Int → Int → Option R)) (hx1 : (Int → Int → Int → Int → Int → Int → Int → Int → Option R)) (hx2 : (Int → Int → Int → Int → Int → Int → Int → Int → (List U1) → Option R)) (hx3 : (Int → Int → Int → Int → Int → Int → Int → Int → (List U1) → Option R)) : Nat → Int → Int → Int → Int → Int → (List (ByteArray × Unit)) → Int → Int → Int → Int → Option R
 | 0, _, _, _, _, _, _, _, _, _, _ => none
 | k + 1, i, t2x, t2x2, t2x3, t2x4, lines, out, out2, out3, out4 => R0 (G0 k0 hx0 hx1 hx2 hx3 k) (G1 k0 hx0 hx1 hx2 hx3 k) hx0 hx1 i t2x t2x2 t2x3 t2x4 lines out out2 out3 out4
theorem zg0 {R : Type} (k0 : Nat) (K : Kont R) : ∀ k : Nat, L0 k0 k K = G0 k0 (fun t2x t2x2 t2x3 t2x4 out out2 out3 out4 => K .ret [(2, .ptr 0 0 0 0), (4, .ptr 1 0 0 0)] [.box [.int .i64 t2x, .int .i64 t2x2, .nils, .int .i64 t2x3, .int .i64 t2x4], .box [.int .i64 out, .int .i64 out2, .nils, .int .i64 out3, .int .i64 out4]]) (fun t2x t2x2 t2x3 t2x4 out out2 out3 out4 => K (.exit 0) [(2, .ptr 0 0 0 0), (4, .ptr 1 0 0 0)] [.box [.int .i64 t2x, .int .i64 t2x2, .nils, .int .i64 t2x3, .int .i64 t2x4], .box [.int .i64 out, .int .i64 out2, .nils, .int .i64 out3, .int .i64 out4]]) (fun t2x t2x2 t2x3 t2x4 out out2 out3 out4 o2 => K .ret [(2, .ptr 0 0 0 0), (4, .ptr 1 0 0 0)] [.box [.int .i64 t2x, .int .i64 t2x2, .nils, .int .i64 t2x3, .int .i64 t2x4], .box [.int .i64 out, .int .i64 out2, .own 2, .int .i64 out3, .int .i64 out4], .arr ct0 o2]) (fun t2x t2x2 t2x3 t2x4 out out2 out3 out4 o2 => K (.exit 0) [(2, .ptr 0 0 0 0), (4, .ptr 1 0 0 0)] [.box [.int .i64 t2x, .int .i64 t2x2, .nils, .int .i64 t2x3, .int .i64 t2x4], .box [.int .i64 out, .int .i64 out2, .own 2, .int .i64 out3, .int .i64 out4], .arr ct0 o2]) k := by
 intro k
 induction k with
 | zero => funext i t2x t2x2 t2x3 t2x4 lines out out2 out3 out4; rfl
 | succ k ih => funext i t2x t2x2 t2x3 t2x4 lines out out2 out3 out4; rw [zs0, G0]; (try simp only [ih, zg1]); try rfl
noncomputable def FF (k0 : Nat) (text : ByteArray) : Option (U0) := T (G0 k0 (A0  text) (A1  text) (A2  text) (A3  text) k0) text
theorem zrun (k0 : Nat) (text : ByteArray) : runFn Tryd.prog ztbl zcfg k0 17 ins_spec_JournalRead outs_spec_JournalRead [] (text, ()) = FF k0 text := by
 rw [ztop, FF]; (try simp only [zg1, zg0, za0, za1, za2, za3]); try rfl
noncomputable def _root_.Go.Rv.F_spec_JournalRead : ByteArray × Unit → Option (U0) := fun x => (fun (text : ByteArray) => FF (300 + text.size) text) x.1
noncomputable abbrev _root_.Go.Rv.S_spec_JournalRead : Summ := ⟨ins_spec_JournalRead, outs_spec_JournalRead, F_spec_JournalRead, []⟩
theorem _root_.Go.Rv.ok_spec_JournalRead : SumOK Dr Tryd.prog 17 S_spec_JournalRead := runFn_ok (by kernel_rfl) (tblL_ok (.cons ok_spec_JournalText (.cons ok_spec_l01Split (.cons ok_spec_l01Num (.cons ok_spec_l15Op .nil))))) (by kernel_rfl) fun x y h => ⟨zcfg, _, (zrun _ x.1).trans h⟩
end spec_JournalRead
abbrev ins_impl_in : List Par := [.v false [CT.int .i64], .v false [CT.int .i64], .v false [CT.int .i64]]
abbrev outs_impl_in : List (Bool × List CT) := [(false, [CT.bool])]
namespace impl_in
/-! ### loop.example/g00095/impl.in (function 52) -/
noncomputable def ztbl : Tbl := tblL []
noncomputable def zbody : Code := ((Tryd.prog.funcs[52]?).bind (·.body)).getD .skip
def zcfg : Nat → List Nat × List Nat := fun k => ([], [])
noncomputable def T  (n low high : Int) : Option (Bool × Unit) := cond (decide (low ≤ n)) (some ((decide (n ≤ high)), ())) (some (false, ()))
theorem ztop (k0 : Nat) (n low high : Int) : runFn Tryd.prog ztbl zcfg k0 52 ins_impl_in outs_impl_in [] (n, low, high, ()) = T  n low high := by kernel_rfl
noncomputable def _root_.Go.Rv.F_impl_in : Int × Int × Int × Unit → Option (Bool × Unit) := fun x => T x.1 x.2.1 x.2.2.1
noncomputable abbrev _root_.Go.Rv.S_impl_in : Summ := ⟨ins_impl_in, outs_impl_in, F_impl_in, []⟩
theorem _root_.Go.Rv.ok_impl_in : SumOK Dr Tryd.prog 52 S_impl_in := runFn_ok (by kernel_rfl) (tblL_ok .nil) (by kernel_rfl) fun x y h => ⟨zcfg, 0, (ztop 0 x.1 x.2.1 x.2.2.1).trans h⟩
end impl_in
abbrev ins_impl_isWant : List Par := [.v false [CT.int .i64]]
abbrev outs_impl_isWant : List (Bool × List CT) := [(false, [CT.bool])]
namespace impl_isWant
/-! ### loop.example/g00095/impl.isWant (function 46) -/
noncomputable def ztbl : Tbl := tblL [(52, [], S_impl_in)]
noncomputable def zbody : Code := ((Tryd.prog.funcs[46]?).bind (·.body)).getD .skip
def zcfg : Nat → List Nat × List Nat := fun k => ([], [])
noncomputable def T  (n : Int) : Option (Bool × Unit) := (F_impl_in (n, 0, 1125899906842624, ())).bind fun y1 => some (y1.1, ())
theorem ztop (k0 : Nat) (n : Int) : runFn Tryd.prog ztbl zcfg k0 46 ins_impl_isWant outs_impl_isWant [] (n, ()) = T  n := by kernel_rfl
noncomputable def _root_.Go.Rv.F_impl_isWant : Int × Unit → Option (Bool × Unit) := fun x => T x.1
noncomputable abbrev _root_.Go.Rv.S_impl_isWant : Summ := ⟨ins_impl_isWant, outs_impl_isWant, F_impl_isWant, []⟩
theorem _root_.Go.Rv.ok_impl_isWant : SumOK Dr Tryd.prog 46 S_impl_isWant := runFn_ok (by kernel_rfl) (tblL_ok (.cons ok_impl_in .nil)) (by kernel_rfl) fun x y h => ⟨zcfg, 0, (ztop 0 x.1).trans h⟩
end impl_isWant
abbrev ins_impl_mayStart : List Par := [.v false [CT.int .i64], .v false [CT.int .i64]]
abbrev outs_impl_mayStart : List (Bool × List CT) := [(false, [CT.bool])]
namespace impl_mayStart
/-! ### loop.example/g00095/impl.mayStart (function 28) -/
noncomputable def ztbl : Tbl := tblL [(46, [], S_impl_isWant), (52, [], S_impl_in)]
noncomputable def zbody : Code := ((Tryd.prog.funcs[28]?).bind (·.body)).getD .skip
def zcfg : Nat → List Nat × List Nat := fun k => ([], [])
noncomputable def T  (length cap : Int) : Option (Bool × Unit) := (F_impl_in (length, 1, 1000, ())).bind fun y1 => cond y1.1 ((F_impl_isWant (cap, ())).bind fun y2 => some (y2.1, ())) (some (false, ()))
theorem ztop (k0 : Nat) (length cap : Int) : runFn Tryd.prog ztbl zcfg k0 28 ins_impl_mayStart outs_impl_mayStart [] (length, cap, ()) = T  length cap := by kernel_rfl
noncomputable def _root_.Go.Rv.F_impl_mayStart : Int × Int × Unit → Option (Bool × Unit) := fun x => T x.1 x.2.1
noncomputable abbrev _root_.Go.Rv.S_impl_mayStart : Summ := ⟨ins_impl_mayStart, outs_impl_mayStart, F_impl_mayStart, []⟩
theorem _root_.Go.Rv.ok_impl_mayStart : SumOK Dr Tryd.prog 28 S_impl_mayStart := runFn_ok (by kernel_rfl) (tblL_ok (.cons ok_impl_isWant (.cons ok_impl_in .nil))) (by kernel_rfl) fun x y h => ⟨zcfg, 0, (ztop 0 x.1 x.2.1).trans h⟩
end impl_mayStart
abbrev ins_impl_readNums : List Par := [.v false [CT.sl [CT.str]]]
abbrev outs_impl_readNums : List (Bool × List CT) := [(false, [CT.sl [CT.int .i64]]), (false, [CT.bool])]
namespace impl_readNums
/-! ### loop.example/g00095/impl.readNums (function 61) -/
noncomputable def ztbl : Tbl := tblL [(67, [], ⟨ins_impl_readNum, outs_impl_readNum, F_impl_readNum, []⟩)]
noncomputable def zbody : Code := ((Tryd.prog.funcs[61]?).bind (·.body)).getD .skip
def zcfg : Nat → List Nat × List Nat := fun k => if k = 3 then ([4, 10, 11, 12], [2, 3, 4]) else ([], [])
noncomputable def R0 {R : Type} (nx0 : ((List (ByteArray × Unit)) → Int → Int → (List (Int × Unit)) → Option R)) (ex0 : (Bool → (List (Int × Unit)) → Option R)) (ex1 : ((List (Int × Unit)) → Option R)) (t10x : List (ByteArray × Unit)) (t11x t12x : Int) (out : List (Int × Unit)) : Option R := cond (decide (t12x < t11x)) (if 0 ≤ t12x ∧ t12x < (t10x.length : Int) then (F_impl_readNum ((rd (ByteArray.empty, ()) t10x t12x).1, ())).bind fun y1 => cond (!y1.2.1) (ex0 false out) (if out.length + [(y1.1, ())].length ≤ maxRow then nx0 t10x t11x (w64 (t12x + 1)) (out ++ [(y1.1, ())]) else none) else none) (ex1 out)
noncomputable def A0  (words : List (ByteArray × Unit)) (t3x : Bool) (out : List (Int × Unit)) : Option ((List (Int × Unit)) × Bool × Unit) := some ([], t3x, ())
noncomputable def A1  (words : List (ByteArray × Unit)) (out : List (Int × Unit)) : Option ((List (Int × Unit)) × Bool × Unit) := some (out, true, ())
noncomputable def T (lo0 : ((List (ByteArray × Unit)) → Int → Int → (List (Int × Unit)) → Option ((List (Int × Unit)) × Bool × Unit))) (words : List (ByteArray × Unit)) : Option ((List (Int × Unit)) × Bool × Unit) := lo0 words (words.length : Int) 0 ([] : List (Int × Unit))
noncomputable def zst0 {R : Type} (k0 : Nat) : Env → List Ob → Kont R → Option R := fun env ob K => runCode Tryd.prog ztbl 29 0 zcfg k0 (codeAt [1, 1, 0, 1, 0, 0] zbody) env ob K
noncomputable def K0 {R : Type} (k0 : Nat) (K : Kont R) : Kont R := blockK 0 (seqK (fun env ob => runCode Tryd.prog ztbl 29 0 zcfg k0 (codeAt [1, 1, 1] zbody) env ob (K)) (K))
noncomputable def L0 {R : Type} (k0 k : Nat) (K : Kont R) (t10x : List (ByteArray × Unit)) (t11x t12x : Int) (out : List (Int × Unit)) : Option R := iter 0 [4, 10, 11, 12] [2, 3, 4] (zst0 k0) k [(4, .own 0), (10, .sl [CT.str] t10x), (11, .int .i64 t11x), (12, .int .i64 t12x)] [.arr [CT.int .i64] out] K
theorem zs0 {R : Type} (k0 k : Nat) (K : Kont R) (t10x : List (ByteArray × Unit)) (t11x t12x : Int) (out : List (Int × Unit)) : L0 k0 (k + 1) K t10x t11x t12x out = R0 (L0 k0 k K) (fun t3x out => K .ret [(2, .nils), (3, .bool t3x), (4, .own 0)] [.arr [CT.int .i64] out]) (fun out => K (.exit 0) [(2, .undef), (3, .undef), (4, .own 0)] [.arr [CT.int .i64] out]) t10x t11x t12x out := by kernel_rfl
theorem za0 (k0 : Nat) (words : List (ByteArray × Unit)) (t3x : Bool) (out : List (Int × Unit)) : K0 (R := ((List (Int × Unit)) × Bool × Unit)) k0 (finK Tryd.prog [.tmp 2, .tmp 3] ins_impl_readNums outs_impl_readNums (words, ())) .ret [(2, .nils), (3, .bool t3x), (4, .own 0)] [.arr [CT.int .i64] out] = A0  words t3x out := by kernel_rfl
theorem za1 (k0 : Nat) (words : List (ByteArray × Unit)) (out : List (Int × Unit)) : K0 (R := ((List (Int × Unit)) × Bool × Unit)) k0 (finK Tryd.prog [.tmp 2, .tmp 3] ins_impl_readNums outs_impl_readNums (words, ())) (.exit 0) [(2, .undef), (3, .undef), (4, .own 0)] [.arr [CT.int .i64] out] = A1  words out := by kernel_rfl
theorem ztop (k0 : Nat) (words : List (ByteArray × Unit)) : runFn Tryd.prog ztbl zcfg k0 61 ins_impl_readNums outs_impl_readNums [] (words, ()) = T (L0 (R := ((List (Int × Unit)) × Bool × Unit)) k0 k0 (K0 (R := ((List (Int × Unit)) × Bool × Unit)) k0 ((finK Tryd.prog [.tmp 2, .tmp 3] ins_impl_readNums outs_impl_readNums (words, ()))))) words := by kernel_rfl
noncomputable def G0 {R : Type} (k0 : Nat) (hx0 : (Bool → (List (Int × Unit)) → Option R)) (hx1 : ((List (Int × Unit)) → Option R)) : Nat → (List (ByteArray × Unit)) → Int → Int → (List (Int × Unit)) → Option R
 | 0, _, _, _, _ => none
 | k + 1, t10x, t11x, t12x, out => R0 (G0 k0 hx0 hx1 k) hx0 hx1 t10x t11x t12x out
theorem zg0 {R : Type} (k0 : Nat) (K : Kont R) : ∀ k : Nat, L0 k0 k K = G0 k0 (fun t3x out => K .ret [(2, .nils), (3, .bool t3x), (4, .own 0)] [.arr [CT.int .i64] out]) (fun out => K (.exit 0) [(2, .undef), (3, .undef), (4, .own 0)] [.arr [CT.int .i64] out]) k := by
 intro k
 induction k with
 | zero => funext t10x t11x t12x out; rfl
 | succ k ih => funext t10x t11x t12x out; rw [zs0, G0]; (try simp only [ih]); try rfl
noncomputable def FF (k0 : Nat) (words : List (ByteArray × Unit)) : Option ((List (Int × Unit)) × Bool × Unit) := T (G0 k0 (A0  words) (A1  words) k0) words
theorem zrun (k0 : Nat) (words : List (ByteArray × Unit)) : runFn Tryd.prog ztbl zcfg k0 61 ins_impl_readNums outs_impl_readNums [] (words, ()) = FF k0 words := by
 rw [ztop, FF]; (try simp only [zg0, za0, za1]); try rfl
noncomputable def _root_.Go.Rv.F_impl_readNums : (List (ByteArray × Unit)) × Unit → Option ((List (Int × Unit)) × Bool × Unit) := fun x => (fun (words : List (ByteArray × Unit)) => FF (300 + words.length) words) x.1
noncomputable abbrev _root_.Go.Rv.S_impl_readNums : Summ := ⟨ins_impl_readNums, outs_impl_readNums, F_impl_readNums, []⟩
theorem _root_.Go.Rv.ok_impl_readNums : SumOK KN Tryd.prog 61 S_impl_readNums := runFn_ok (by kernel_rfl) (tblL_ok (.cons ok_impl_readNum .nil)) (by kernel_rfl) fun x y h => ⟨zcfg, _, (zrun _ x.1).trans h⟩
end impl_readNums
abbrev ins_impl_readHead : List Par := [.v false [CT.str]]
abbrev outs_impl_readHead : List (Bool × List CT) := [(false, [CT.int .i64]), (false, [CT.int .i64]), (false, [CT.bool])]
namespace impl_readHead
/-! ### loop.example/g00095/impl.readHead (function 56) -/
noncomputable def ztbl : Tbl := tblL [(55, [], ⟨ins_strings_Split, outs_strings_Split, F_strings_Split, []⟩), (61, [], S_impl_readNums)]
noncomputable def zbody : Code := ((Tryd.prog.funcs[56]?).bind (·.body)).getD .skip
def zcfg : Nat → List Nat × List Nat := fun k => ([], [])
noncomputable def T  (line : ByteArray) : Option (Int × Int × Bool × Unit) := (F_strings_Split (line, (strLit [32]), ())).bind fun y1 => if (0 : Int) ≤ 1 ∧ 1 ≤ (y1.1.length : Int) then if ((1 : Int).toNat) + (y1.1.length - (1 : Int).toNat) ≤ y1.1.length then (F_impl_readNums (((y1.1.drop ((1 : Int).toNat)).take (y1.1.length - (1 : Int).toNat)), ())).bind fun y2 => if (0 : Int) ≤ 0 ∧ 0 < (y1.1.length : Int) then cond (!seq ((y1.1.getD ((0 : Int).toNat) (ByteArray.empty, ())).1) (strLit [115, 101, 114, 118, 101, 114])) (some (0, 0, false, ())) (cond (!y2.2.1) (some (0, 0, false, ())) (cond ((y2.1.length : Int) != 2) (some (0, 0, false, ())) (if (0 : Int) ≤ 0 ∧ 0 < (y2.1.length : Int) then if (0 : Int) ≤ 1 ∧ 1 < (y2.1.length : Int) then some ((y2.1.getD ((0 : Int).toNat) (0, ())).1, (y2.1.getD ((1 : Int).toNat) (0, ())).1, true, ()) else none else none))) else none else none else none
theorem ztop (k0 : Nat) (line : ByteArray) : runFn Tryd.prog ztbl zcfg k0 56 ins_impl_readHead outs_impl_readHead [] (line, ()) = T  line := by kernel_rfl
noncomputable def _root_.Go.Rv.F_impl_readHead : ByteArray × Unit → Option (Int × Int × Bool × Unit) := fun x => T x.1
noncomputable abbrev _root_.Go.Rv.S_impl_readHead : Summ := ⟨ins_impl_readHead, outs_impl_readHead, F_impl_readHead, []⟩
theorem _root_.Go.Rv.ok_impl_readHead : SumOK KN Tryd.prog 56 S_impl_readHead := runFn_ok (by kernel_rfl) (tblL_ok (.cons ok_strings_Split (.cons ok_impl_readNums .nil))) (by kernel_rfl) fun x y h => ⟨zcfg, 0, (ztop 0 x.1).trans h⟩
end impl_readHead
abbrev ins_impl_isId : List Par := [.v false [CT.int .i64]]
abbrev outs_impl_isId : List (Bool × List CT) := [(false, [CT.bool])]
namespace impl_isId
/-! ### loop.example/g00095/impl.isId (function 45) -/
noncomputable def ztbl : Tbl := tblL [(52, [], S_impl_in)]
noncomputable def zbody : Code := ((Tryd.prog.funcs[45]?).bind (·.body)).getD .skip
def zcfg : Nat → List Nat × List Nat := fun k => ([], [])
noncomputable def T  (n : Int) : Option (Bool × Unit) := (F_impl_in (n, 1, 1000000, ())).bind fun y1 => some (y1.1, ())
theorem ztop (k0 : Nat) (n : Int) : runFn Tryd.prog ztbl zcfg k0 45 ins_impl_isId outs_impl_isId [] (n, ()) = T  n := by kernel_rfl
noncomputable def _root_.Go.Rv.F_impl_isId : Int × Unit → Option (Bool × Unit) := fun x => T x.1
noncomputable abbrev _root_.Go.Rv.S_impl_isId : Summ := ⟨ins_impl_isId, outs_impl_isId, F_impl_isId, []⟩
theorem _root_.Go.Rv.ok_impl_isId : SumOK Dr Tryd.prog 45 S_impl_isId := runFn_ok (by kernel_rfl) (tblL_ok (.cons ok_impl_in .nil)) (by kernel_rfl) fun x y h => ⟨zcfg, 0, (ztop 0 x.1).trans h⟩
end impl_isId
abbrev ins_impl_isWeight : List Par := [.v false [CT.int .i64]]
abbrev outs_impl_isWeight : List (Bool × List CT) := [(false, [CT.bool])]
namespace impl_isWeight
/-! ### loop.example/g00095/impl.isWeight (function 47) -/
noncomputable def ztbl : Tbl := tblL [(52, [], S_impl_in)]
noncomputable def zbody : Code := ((Tryd.prog.funcs[47]?).bind (·.body)).getD .skip
def zcfg : Nat → List Nat × List Nat := fun k => ([], [])
noncomputable def T  (n : Int) : Option (Bool × Unit) := (F_impl_in (n, 1, 1073741824, ())).bind fun y1 => some (y1.1, ())
theorem ztop (k0 : Nat) (n : Int) : runFn Tryd.prog ztbl zcfg k0 47 ins_impl_isWeight outs_impl_isWeight [] (n, ()) = T  n := by kernel_rfl
noncomputable def _root_.Go.Rv.F_impl_isWeight : Int × Unit → Option (Bool × Unit) := fun x => T x.1
noncomputable abbrev _root_.Go.Rv.S_impl_isWeight : Summ := ⟨ins_impl_isWeight, outs_impl_isWeight, F_impl_isWeight, []⟩
theorem _root_.Go.Rv.ok_impl_isWeight : SumOK Dr Tryd.prog 47 S_impl_isWeight := runFn_ok (by kernel_rfl) (tblL_ok (.cons ok_impl_in .nil)) (by kernel_rfl) fun x y h => ⟨zcfg, 0, (ztop 0 x.1).trans h⟩
end impl_isWeight
abbrev ins_impl_EditRight : List Par := [.v true ct0]
abbrev outs_impl_EditRight : List (Bool × List CT) := [(false, [CT.bool])]
namespace impl_EditRight
/-! ### loop.example/g00095/impl.EditRight (function 58) -/
noncomputable def ztbl : Tbl := tblL [(45, [], S_impl_isId), (46, [], S_impl_isWant), (47, [], S_impl_isWeight)]
noncomputable def zbody : Code := ((Tryd.prog.funcs[58]?).bind (·.body)).getD .skip
def zcfg : Nat → List Nat × List Nat := fun k => ([], [])
noncomputable def T  (e0 e1 e2 e3 e4 : Int) : Option (Bool × Unit) := cond (e2 == 0) (cond (e0 == 1) ((F_impl_isWant (e3, ())).bind fun y1 => (F_impl_isWeight (e4, ())).bind fun y2 => (F_impl_isId (e1, ())).bind fun y3 => cond y3.1 (cond y1.1 (some (y2.1, ())) (some (false, ()))) (cond (e0 == 8) (cond (e1 == 0) (cond y1.1 (some (y2.1, ())) (some (false, ()))) (some (false, ()))) (some (false, ())))) (cond (e0 == 6) ((F_impl_isWant (e3, ())).bind fun y4 => (F_impl_isWeight (e4, ())).bind fun y5 => (F_impl_isId (e1, ())).bind fun y6 => cond y6.1 (cond y4.1 (some (y5.1, ())) (some (false, ()))) (cond (e0 == 8) (cond (e1 == 0) (cond y4.1 (some (y5.1, ())) (some (false, ()))) (some (false, ()))) (some (false, ())))) (cond (e0 == 3) ((F_impl_isWant (e3, ())).bind fun y7 => (F_impl_isId (e1, ())).bind fun y8 => cond y8.1 (cond (e2 == 0) (cond y7.1 (some ((e4 == 0), ())) (some (false, ()))) (some (false, ()))) (cond (e0 == 8) (cond (e1 == 0) (cond (e2 == 0) (cond y7.1 (some ((e4 == 0), ())) (some (false, ()))) (some (false, ()))) (some (false, ()))) (some (false, ())))) (cond (e0 == 8) ((F_impl_isWant (e3, ())).bind fun y9 => (F_impl_isId (e1, ())).bind fun y10 => cond y10.1 (cond (e2 == 0) (cond y9.1 (some ((e4 == 0), ())) (some (false, ()))) (some (false, ()))) (cond (e0 == 8) (cond (e1 == 0) (cond (e2 == 0) (cond y9.1 (some ((e4 == 0), ())) (some (false, ()))) (some (false, ()))) (some (false, ()))) (some (false, ())))) (cond (e0 == 4) ((F_impl_isWeight (e3, ())).bind fun y11 => (F_impl_isId (e1, ())).bind fun y12 => cond y12.1 (cond (e2 == 0) (cond y11.1 (some ((e4 == 0), ())) (some (false, ()))) (some (false, ()))) (cond (e0 == 8) (cond (e1 == 0) (cond (e2 == 0) (cond y11.1 (some ((e4 == 0), ())) (some (false, ()))) (some (false, ()))) (some (false, ()))) (some (false, ())))) (cond (e0 == 5) ((F_impl_isId (e1, ())).bind fun y13 => cond y13.1 (cond (e3 == 0) (some ((e4 == 0), ())) (some (false, ()))) (cond (e0 == 8) (cond (e1 == 0) (cond (e3 == 0) (some ((e4 == 0), ())) (some (false, ()))) (some (false, ()))) (some (false, ())))) (cond (e0 == 2) ((F_impl_isId (e1, ())).bind fun y14 => cond y14.1 (cond (e2 == 0) (cond (e3 == 0) (some ((e4 == 0), ())) (some (false, ()))) (some (false, ()))) (cond (e0 == 8) (cond (e1 == 0) (cond (e2 == 0) (cond (e3 == 0) (some ((e4 == 0), ())) (some (false, ()))) (some (false, ()))) (some (false, ()))) (some (false, ())))) (cond (e0 == 7) ((F_impl_isId (e1, ())).bind fun y15 => cond y15.1 (cond (e2 == 0) (cond (e3 == 0) (some ((e4 == 0), ())) (some (false, ()))) (some (false, ()))) (cond (e0 == 8) (cond (e1 == 0) (cond (e2 == 0) (cond (e3 == 0) (some ((e4 == 0), ())) (some (false, ()))) (some (false, ()))) (some (false, ()))) (some (false, ())))) (some (false, ())))))))))) ((F_impl_isId (e2, ())).bind fun y16 => cond (e0 == 1) ((F_impl_isWant (e3, ())).bind fun y17 => (F_impl_isWeight (e4, ())).bind fun y18 => (F_impl_isId (e1, ())).bind fun y19 => cond y19.1 (cond y16.1 (cond y17.1 (some (y18.1, ())) (some (false, ()))) (some (false, ()))) (cond (e0 == 8) (cond (e1 == 0) (cond y16.1 (cond y17.1 (some (y18.1, ())) (some (false, ()))) (some (false, ()))) (some (false, ()))) (some (false, ())))) (cond (e0 == 6) ((F_impl_isWant (e3, ())).bind fun y20 => (F_impl_isWeight (e4, ())).bind fun y21 => (F_impl_isId (e1, ())).bind fun y22 => cond y22.1 (cond y16.1 (cond y20.1 (some (y21.1, ())) (some (false, ()))) (some (false, ()))) (cond (e0 == 8) (cond (e1 == 0) (cond y16.1 (cond y20.1 (some (y21.1, ())) (some (false, ()))) (some (false, ()))) (some (false, ()))) (some (false, ())))) (cond (e0 == 3) ((F_impl_isWant (e3, ())).bind fun y23 => (F_impl_isId (e1, ())).bind fun y24 => cond y24.1 (cond (e2 == 0) (cond y23.1 (some ((e4 == 0), ())) (some (false, ()))) (some (false, ()))) (cond (e0 == 8) (cond (e1 == 0) (cond (e2 == 0) (cond y23.1 (some ((e4 == 0), ())) (some (false, ()))) (some (false, ()))) (some (false, ()))) (some (false, ())))) (cond (e0 == 8) ((F_impl_isWant (e3, ())).bind fun y25 => (F_impl_isId (e1, ())).bind fun y26 => cond y26.1 (cond (e2 == 0) (cond y25.1 (some ((e4 == 0), ())) (some (false, ()))) (some (false, ()))) (cond (e0 == 8) (cond (e1 == 0) (cond (e2 == 0) (cond y25.1 (some ((e4 == 0), ())) (some (false, ()))) (some (false, ()))) (some (false, ()))) (some (false, ())))) (cond (e0 == 4) ((F_impl_isWeight (e3, ())).bind fun y27 => (F_impl_isId (e1, ())).bind fun y28 => cond y28.1 (cond (e2 == 0) (cond y27.1 (some ((e4 == 0), ())) (some (false, ()))) (some (false, ()))) (cond (e0 == 8) (cond (e1 == 0) (cond (e2 == 0) (cond y27.1 (some ((e4 == 0), ())) (some (false, ()))) (some (false, ()))) (some (false, ()))) (some (false, ())))) (cond (e0 == 5) ((F_impl_isId (e1, ())).bind fun y29 => cond y29.1 (cond y16.1 (cond (e3 == 0) (some ((e4 == 0), ())) (some (false, ()))) (some (false, ()))) (cond (e0 == 8) (cond (e1 == 0) (cond y16.1 (cond (e3 == 0) (some ((e4 == 0), ())) (some (false, ()))) (some (false, ()))) (some (false, ()))) (some (false, ())))) (cond (e0 == 2) ((F_impl_isId (e1, ())).bind fun y30 => cond y30.1 (cond (e2 == 0) (cond (e3 == 0) (some ((e4 == 0), ())) (some (false, ()))) (some (false, ()))) (cond (e0 == 8) (cond (e1 == 0) (cond (e2 == 0) (cond (e3 == 0) (some ((e4 == 0), ())) (some (false, ()))) (some (false, ()))) (some (false, ()))) (some (false, ())))) (cond (e0 == 7) ((F_impl_isId (e1, ())).bind fun y31 => cond y31.1 (cond (e2 == 0) (cond (e3 == 0) (some ((e4 == 0), ())) (some (false, ()))) (some (false, ()))) (cond (e0 == 8) (cond (e1 == 0) (cond (e2 == 0) (cond (e3 == 0) (some ((e4 == 0), ())) (some (false, ()))) (some (false, ()))) (some (false, ()))) (some (false, ())))) (some (false, ()))))))))))
theorem ztop (k0 : Nat) (e0 e1 e2 e3 e4 : Int) : runFn Tryd.prog ztbl zcfg k0 58 ins_impl_EditRight outs_impl_EditRight [] (e0, e1, e2, e3, e4, ()) = T  e0 e1 e2 e3 e4 := by kernel_rfl
noncomputable def _root_.Go.Rv.F_impl_EditRight : U1 → Option (Bool × Unit) := fun x => T x.1 x.2.1 x.2.2.1 x.2.2.2.1 x.2.2.2.2.1
noncomputable abbrev _root_.Go.Rv.S_impl_EditRight : Summ := ⟨ins_impl_EditRight, outs_impl_EditRight, F_impl_EditRight, []⟩
theorem _root_.Go.Rv.ok_impl_EditRight : SumOK Dr Tryd.prog 58 S_impl_EditRight := runFn_ok (by kernel_rfl) (tblL_ok (.cons ok_impl_isId (.cons ok_impl_isWant (.cons ok_impl_isWeight .nil)))) (by kernel_rfl) fun x y h => ⟨zcfg, 0, (ztop 0 x.1 x.2.1 x.2.2.1 x.2.2.2.1 x.2.2.2.2.1).trans h⟩
end impl_EditRight
abbrev ins_impl_isEdit : List Par := [.v true ct0]
abbrev outs_impl_isEdit : List (Bool × List CT) := [(false, [CT.bool])]
namespace impl_isEdit
/-! ### loop.example/g00095/impl.isEdit (function 48) -/
noncomputable def ztbl : Tbl := tblL [(58, [], S_impl_EditRight)]
noncomputable def zbody : Code := ((Tryd.prog.funcs[48]?).bind (·.body)).getD .skip
def zcfg : Nat → List Nat × List Nat := fun k => ([], [])
noncomputable def T  (e0 e1 e2 e3 e4 : Int) : Option (Bool × Unit) := (F_impl_EditRight (e0, e1, e2, e3, e4, ())).bind fun y1 => cond y1.1 (cond (e0 != 6) (some (true, ())) (some ((decide (e2 < e1)), ()))) (some (false, ()))
theorem ztop (k0 : Nat) (e0 e1 e2 e3 e4 : Int) : runFn Tryd.prog ztbl zcfg k0 48 ins_impl_isEdit outs_impl_isEdit [] (e0, e1, e2, e3, e4, ()) = T  e0 e1 e2 e3 e4 := by kernel_rfl
noncomputable def _root_.Go.Rv.F_impl_isEdit : U1 → Option (Bool × Unit) := fun x => T x.1 x.2.1 x.2.2.1 x.2.2.2.1 x.2.2.2.2.1
noncomputable abbrev _root_.Go.Rv.S_impl_isEdit : Summ := ⟨ins_impl_isEdit, outs_impl_isEdit, F_impl_isEdit, []⟩
theorem _root_.Go.Rv.ok_impl_isEdit : SumOK Dr Tryd.prog 48 S_impl_isEdit := runFn_ok (by kernel_rfl) (tblL_ok (.cons ok_impl_EditRight .nil)) (by kernel_rfl) fun x y h => ⟨zcfg, 0, (ztop 0 x.1 x.2.1 x.2.2.1 x.2.2.2.1 x.2.2.2.2.1).trans h⟩
end impl_isEdit
abbrev ins_impl_Op_edit : List Par := [.v true ct0]
abbrev outs_impl_Op_edit : List (Bool × List CT) := [(true, ct0)]
namespace impl_Op_edit
/-! ### (loop.example/g00095/impl.Op).edit (function 49) -/
noncomputable def ztbl : Tbl := tblL []
noncomputable def zbody : Code := ((Tryd.prog.funcs[49]?).bind (·.body)).getD .skip
def zcfg : Nat → List Nat × List Nat := fun k => ([], [])
noncomputable def T  (o0 o1 o2 o3 o4 : Int) : Option (U1) := cond (o0 == 3) (some (8, o1, o2, o3, o4, ())) (cond (o0 == 6) (some (6, o1, o2, o3, o4, ())) (cond (o0 == 7) (some (7, o1, o2, o3, o4, ())) (some (0, o1, o2, o3, o4, ()))))
theorem ztop (k0 : Nat) (o0 o1 o2 o3 o4 : Int) : runFn Tryd.prog ztbl zcfg k0 49 ins_impl_Op_edit outs_impl_Op_edit [] (o0, o1, o2, o3, o4, ()) = T  o0 o1 o2 o3 o4 := by kernel_rfl
noncomputable def _root_.Go.Rv.F_impl_Op_edit : U1 → Option (U1) := fun x => T x.1 x.2.1 x.2.2.1 x.2.2.2.1 x.2.2.2.2.1
noncomputable abbrev _root_.Go.Rv.S_impl_Op_edit : Summ := ⟨ins_impl_Op_edit, outs_impl_Op_edit, F_impl_Op_edit, []⟩
theorem _root_.Go.Rv.ok_impl_Op_edit : SumOK Dr Tryd.prog 49 S_impl_Op_edit := runFn_ok (by kernel_rfl) (tblL_ok .nil) (by kernel_rfl) fun x y h => ⟨zcfg, 0, (ztop 0 x.1 x.2.1 x.2.2.1 x.2.2.2.1 x.2.2.2.2.1).trans h⟩
end impl_Op_edit
abbrev ins_impl_OpRight : List Par := [.v true ct0]
abbrev outs_impl_OpRight : List (Bool × List CT) := [(false, [CT.bool])]
namespace impl_OpRight
/-! ### loop.example/g00095/impl.OpRight (function 24) -/
noncomputable def ztbl : Tbl := tblL [(45, [], S_impl_isId), (46, [], S_impl_isWant), (47, [], S_impl_isWeight), (48, [], S_impl_isEdit), (49, [], S_impl_Op_edit)]
noncomputable def zbody : Code := ((Tryd.prog.funcs[24]?).bind (·.body)).getD .skip
def zcfg : Nat → List Nat × List Nat := fun k => ([], [])
noncomputable def T  (o0 o1 o2 o3 o4 : Int) : Option (Bool × Unit) := cond (o0 == 1) ((F_impl_isId (o1, ())).bind fun y1 => cond y1.1 (cond (o2 == 0) ((F_impl_isWant (o3, ())).bind fun y2 => cond y2.1 ((F_impl_isWeight (o4, ())).bind fun y3 => some (y3.1, ())) (some (false, ()))) ((F_impl_isId (o2, ())).bind fun y4 => cond y4.1 ((F_impl_isWant (o3, ())).bind fun y5 => cond y5.1 ((F_impl_isWeight (o4, ())).bind fun y6 => some (y6.1, ())) (some (false, ()))) (some (false, ())))) (some (false, ()))) (cond (o0 == 2) ((F_impl_isId (o1, ())).bind fun y7 => cond y7.1 (some (((o0 == 2) && ((o1 == o1) && ((o2 == 0) && ((o3 == 0) && ((o4 == 0) && true))))), ())) (some (false, ()))) (cond (o0 == 4) (some (((o0 == o0) && ((o1 == 0) && ((o2 == 0) && ((o3 == 0) && ((o4 == 0) && true))))), ())) (cond (o0 == 5) (some (((o0 == o0) && ((o1 == 0) && ((o2 == 0) && ((o3 == 0) && ((o4 == 0) && true))))), ())) ((F_impl_Op_edit (o0, o1, o2, o3, o4, ())).bind fun y8 => (F_impl_isEdit (y8.1, y8.2.1, y8.2.2.1, y8.2.2.2.1, y8.2.2.2.2.1, ())).bind fun y9 => some (y9.1, ())))))
theorem ztop (k0 : Nat) (o0 o1 o2 o3 o4 : Int) : runFn Tryd.prog ztbl zcfg k0 24 ins_impl_OpRight outs_impl_OpRight [] (o0, o1, o2, o3, o4, ()) = T  o0 o1 o2 o3 o4 := by kernel_rfl
noncomputable def _root_.Go.Rv.F_impl_OpRight : U1 → Option (Bool × Unit) := fun x => T x.1 x.2.1 x.2.2.1 x.2.2.2.1 x.2.2.2.2.1
noncomputable abbrev _root_.Go.Rv.S_impl_OpRight : Summ := ⟨ins_impl_OpRight, outs_impl_OpRight, F_impl_OpRight, []⟩
theorem _root_.Go.Rv.ok_impl_OpRight : SumOK Dr Tryd.prog 24 S_impl_OpRight := runFn_ok (by kernel_rfl) (tblL_ok (.cons ok_impl_isId (.cons ok_impl_isWant (.cons ok_impl_isWeight (.cons ok_impl_isEdit (.cons ok_impl_Op_edit .nil)))))) (by kernel_rfl) fun x y h => ⟨zcfg, 0, (ztop 0 x.1 x.2.1 x.2.2.1 x.2.2.2.1 x.2.2.2.2.1).trans h⟩
end impl_OpRight
abbrev ins_impl_opWords : List Par := []
abbrev outs_impl_opWords : List (Bool × List CT) := [(false, [CT.sl [CT.str]]), (false, [CT.sl [CT.int .i64]])]
namespace impl_opWords
/-! ### loop.example/g00095/impl.opWords (function 50) -/
noncomputable def ztbl : Tbl := tblL []
noncomputable def zbody : Code := ((Tryd.prog.funcs[50]?).bind (·.body)).getD .skip
def zcfg : Nat → List Nat × List Nat := fun k => ([], [])
noncomputable def T  (_u : Unit) : Option ((List (ByteArray × Unit)) × (List (Int × Unit)) × Unit) := some ([((strLit [103, 101, 116]), ()), ((strLit [114, 101, 108, 101, 97, 115, 101]), ()), ((strLit [99, 97, 112]), ()), ((strLit [116, 105, 99, 107]), ()), ((strLit [114, 101, 115, 116, 97, 114, 116]), ()), ((strLit [103, 114, 111, 117, 112]), ()), ((strLit [100, 114, 111, 112]), ())], [(4, ()), (1, ()), (2, ()), (0, ()), (0, ()), (4, ()), (1, ())], ())
theorem ztop (k0 : Nat)  : runFn Tryd.prog ztbl zcfg k0 50 ins_impl_opWords outs_impl_opWords [] (()) = T  () := by kernel_rfl
noncomputable def _root_.Go.Rv.F_impl_opWords : Unit → Option ((List (ByteArray × Unit)) × (List (Int × Unit)) × Unit) := fun x => T ()
noncomputable abbrev _root_.Go.Rv.S_impl_opWords : Summ := ⟨ins_impl_opWords, outs_impl_opWords, F_impl_opWords, []⟩
theorem _root_.Go.Rv.ok_impl_opWords : SumOK Dr Tryd.prog 50 S_impl_opWords := runFn_ok (by kernel_rfl) (tblL_ok .nil) (by kernel_rfl) fun x y h => ⟨zcfg, 0, (ztop 0 ).trans h⟩
end impl_opWords
abbrev ins_slices_Index_string_string : List Par := [.v false [CT.sl [CT.str]], .v false [CT.str]]
abbrev outs_slices_Index_string_string : List (Bool × List CT) := [(false, [CT.int .i64])]
namespace slices_Index_string_string
/-! ### slices.Index[[]string,string] (function 62) -/
noncomputable def ztbl : Tbl := tblL []
noncomputable def zbody : Code := ((Tryd.prog.funcs[62]?).bind (·.body)).getD .skip
def zcfg : Nat → List Nat × List Nat := fun k => if k = 2 then ([0, 1, 7, 8], [4]) else ([], [])
noncomputable def R0 {R : Type} (nx0 : ((List (ByteArray × Unit)) → ByteArray → Int → Int → Option R)) (ex0 : (Int → Option R)) (ex1 : (Unit → Option R)) (s2 : List (ByteArray × Unit)) (v2 : ByteArray) (t7x t8x : Int) : Option R := cond (decide (t8x < t7x)) (if 0 ≤ t8x ∧ t8x < (s2.length : Int) then cond (seq v2 ((rd (ByteArray.empty, ()) s2 t8x).1)) (ex0 t8x) (nx0 s2 v2 t7x (w64 (t8x + 1))) else none) (ex1 ())
noncomputable def A0  (s : List (ByteArray × Unit)) (v : ByteArray) (t4x : Int) : Option (Int × Unit) := some (t4x, ())
noncomputable def A1  (s : List (ByteArray × Unit)) (v : ByteArray) (_u : Unit) : Option (Int × Unit) := some ((-1), ())
noncomputable def T (lo0 : ((List (ByteArray × Unit)) → ByteArray → Int → Int → Option (Int × Unit))) (s : List (ByteArray × Unit)) (v : ByteArray) : Option (Int × Unit) := lo0 s v (s.length : Int) 0
noncomputable def zst0 {R : Type} (k0 : Nat) : Env → List Ob → Kont R → Option R := fun env ob K => runCode Tryd.prog ztbl 19 0 zcfg k0 (codeAt [1, 0, 1, 0, 0] zbody) env ob K
noncomputable def K0 {R : Type} (k0 : Nat) (K : Kont R) : Kont R := blockK 0 (seqK (fun env ob => runCode Tryd.prog ztbl 19 0 zcfg k0 (codeAt [1, 1] zbody) env ob (K)) (K))
noncomputable def L0 {R : Type} (k0 k : Nat) (K : Kont R) (s2 : List (ByteArray × Unit)) (v2 : ByteArray) (t7x t8x : Int) : Option R := iter 0 [0, 1, 7, 8] [4] (zst0 k0) k [(0, .sl [CT.str] s2), (1, .str v2), (7, .int .i64 t7x), (8, .int .i64 t8x)] [] K
theorem zs0 {R : Type} (k0 k : Nat) (K : Kont R) (s2 : List (ByteArray × Unit)) (v2 : ByteArray) (t7x t8x : Int) : L0 k0 (k + 1) K s2 v2 t7x t8x = R0 (L0 k0 k K) (fun t4x => K .ret [(4, .int .i64 t4x)] []) (fun _ => K (.exit 0) [(4, .undef)] []) s2 v2 t7x t8x := by kernel_rfl
theorem za0 (k0 : Nat) (s : List (ByteArray × Unit)) (v : ByteArray) (t4x : Int) : K0 (R := (Int × Unit)) k0 (finK Tryd.prog [.tmp 4] ins_slices_Index_string_string outs_slices_Index_string_string (s, v, ())) .ret [(4, .int .i64 t4x)] [] = A0  s v t4x := by kernel_rfl
theorem za1 (k0 : Nat) (s : List (ByteArray × Unit)) (v : ByteArray)  : K0 (R := (Int × Unit)) k0 (finK Tryd.prog [.tmp 4] ins_slices_Index_string_string outs_slices_Index_string_string (s, v, ())) (.exit 0) [(4, .undef)] [] = A1  s v () := by kernel_rfl
theorem ztop (k0 : Nat) (s : List (ByteArray × Unit)) (v : ByteArray) : runFn Tryd.prog ztbl zcfg k0 62 ins_slices_Index_string_string outs_slices_Index_string_string [] (s, v, ()) = T (L0 (R := (Int × Unit)) k0 k0 (K0 (R := (Int × Unit)) k0 ((finK Tryd.prog [.tmp 4] ins_slices_Index_string_string outs_slices_Index_string_string (s, v, ()))))) s v := by kernel_rfl
noncomputable def G0 {R : Type} (k0 : Nat) (hx0 : (Int → Option R)) (hx1 : (Unit → Option R)) : Nat → (List (ByteArray × Unit)) → ByteArray → Int → Int → Option R
 | 0, _, _, _, _ => none
 | k + 1, s2, v2, t7x, t8x => R0 (G0 k0 hx0 hx1 k) hx0 hx1 s2 v2 t7x t8x
theorem zg0 {R : Type} (k0 : Nat) (K : Kont R) : ∀ k : Nat, L0 k0 k K = G0 k0 (fun t4x => K .ret [(4, .int .i64 t4x)] []) (fun _ => K (.exit 0) [(4, .undef)] []) k := by
 intro k
 induction k with
 | zero => funext s2 v2 t7x t8x; rfl
 | succ k ih => funext s2 v2 t7x t8x; rw [zs0, G0]; (try simp only [ih]); try rfl
noncomputable def FF (k0 : Nat) (s : List (ByteArray × Unit)) (v : ByteArray) : Option (Int × Unit) := T (G0 k0 (A0  s v) (A1  s v) k0) s v
theorem zrun (k0 : Nat) (s : List (ByteArray × Unit)) (v : ByteArray) : runFn Tryd.prog ztbl zcfg k0 62 ins_slices_Index_string_string outs_slices_Index_string_string [] (s, v, ()) = FF k0 s v := by
 rw [ztop, FF]; (try simp only [zg0, za0, za1]); try rfl
noncomputable def _root_.Go.Rv.F_slices_Index_string_string : (List (ByteArray × Unit)) × ByteArray × Unit → Option (Int × Unit) := fun x => (fun (s : List (ByteArray × Unit)) (v : ByteArray) => FF (300 + s.length + v.size) s v) x.1 x.2.1
noncomputable abbrev _root_.Go.Rv.S_slices_Index_string_string : Summ := ⟨ins_slices_Index_string_string, outs_slices_Index_string_string, F_slices_Index_string_string, []⟩
theorem _root_.Go.Rv.ok_slices_Index_string_string : SumOK Dr Tryd.prog 62 S_slices_Index_string_string := runFn_ok (by kernel_rfl) (tblL_ok .nil) (by kernel_rfl) fun x y h => ⟨zcfg, _, (zrun _ x.1 x.2.1).trans h⟩
end slices_Index_string_string
abbrev ins_impl_readOp : List Par := [.v false [CT.str]]
abbrev outs_impl_readOp : List (Bool × List CT) := [(true, ct0), (false, [CT.bool])]
namespace impl_readOp
/-! ### loop.example/g00095/impl.readOp (function 57) -/
noncomputable def ztbl : Tbl := tblL [(24, [], S_impl_OpRight), (50, [], S_impl_opWords), (55, [], ⟨ins_strings_Split, outs_strings_Split, F_strings_Split, []⟩), (61, [], S_impl_readNums), (62, [], S_slices_Index_string_string)]
noncomputable def zbody : Code := ((Tryd.prog.funcs[57]?).bind (·.body)).getD .skip
def zcfg : Nat → List Nat × List Nat := fun k => ([], [])
noncomputable def T  (line : ByteArray) : Option (Int × Int × Int × Int × Int × Bool × Unit) := (F_impl_opWords (())).bind fun y1 => (F_strings_Split (line, (strLit [32]), ())).bind fun y2 => if (0 : Int) ≤ 0 ∧ 0 < (y2.1.length : Int) then (F_slices_Index_string_string (y1.1, (y2.1.getD ((0 : Int).toNat) (ByteArray.empty, ())).1, ())).bind fun y3 => if (0 : Int) ≤ 1 ∧ 1 ≤ (y2.1.length : Int) then if ((1 : Int).toNat) + (y2.1.length - (1 : Int).toNat) ≤ y2.1.length then (F_impl_readNums (((y2.1.drop ((1 : Int).toNat)).take (y2.1.length - (1 : Int).toNat)), ())).bind fun y4 => cond (decide (y3.1 < 0)) (some (0, 0, 0, 0, 0, false, ())) (cond (!y4.2.1) (some (0, 0, 0, 0, 0, false, ())) (if 0 ≤ y3.1 ∧ y3.1 < (y1.2.1.length : Int) then cond ((y4.1.length : Int) != (y1.2.1.getD ((y3.1).toNat) (0, ())).1) (some (0, 0, 0, 0, 0, false, ())) (cond ((y4.1.length : Int) == 4) (if (0 : Int) ≤ 0 ∧ 0 < (y4.1.length : Int) then if (0 : Int) ≤ 1 ∧ 1 < (y4.1.length : Int) then if (0 : Int) ≤ 2 ∧ 2 < (y4.1.length : Int) then if (0 : Int) ≤ 3 ∧ 3 < (y4.1.length : Int) then (F_impl_OpRight ((w64 (y3.1 + 1)), (y4.1.getD ((0 : Int).toNat) (0, ())).1, (y4.1.getD ((1 : Int).toNat) (0, ())).1, (y4.1.getD ((2 : Int).toNat) (0, ())).1, (y4.1.getD ((3 : Int).toNat) (0, ())).1, ())).bind fun y5 => some ((w64 (y3.1 + 1)), (y4.1.getD ((0 : Int).toNat) (0, ())).1, (y4.1.getD ((1 : Int).toNat) (0, ())).1, (y4.1.getD ((2 : Int).toNat) (0, ())).1, (y4.1.getD ((3 : Int).toNat) (0, ())).1, y5.1, ()) else none else none else none else none) (cond ((y4.1.length : Int) == 2) (if (0 : Int) ≤ 0 ∧ 0 < (y4.1.length : Int) then if (0 : Int) ≤ 1 ∧ 1 < (y4.1.length : Int) then (F_impl_OpRight ((w64 (y3.1 + 1)), (y4.1.getD ((0 : Int).toNat) (0, ())).1, 0, (y4.1.getD ((1 : Int).toNat) (0, ())).1, 0, ())).bind fun y6 => some ((w64 (y3.1 + 1)), (y4.1.getD ((0 : Int).toNat) (0, ())).1, 0, (y4.1.getD ((1 : Int).toNat) (0, ())).1, 0, y6.1, ()) else none else none) (cond ((y4.1.length : Int) == 1) (if (0 : Int) ≤ 0 ∧ 0 < (y4.1.length : Int) then (F_impl_OpRight ((w64 (y3.1 + 1)), (y4.1.getD ((0 : Int).toNat) (0, ())).1, 0, 0, 0, ())).bind fun y7 => some ((w64 (y3.1 + 1)), (y4.1.getD ((0 : Int).toNat) (0, ())).1, 0, 0, 0, y7.1, ()) else none) ((F_impl_OpRight ((w64 (y3.1 + 1)), 0, 0, 0, 0, ())).bind fun y8 => some ((w64 (y3.1 + 1)), 0, 0, 0, 0, y8.1, ()))))) else none)) else none else none else none
theorem ztop (k0 : Nat) (line : ByteArray) : runFn Tryd.prog ztbl zcfg k0 57 ins_impl_readOp outs_impl_readOp [] (line, ()) = T  line := by kernel_rfl
noncomputable def _root_.Go.Rv.F_impl_readOp : ByteArray × Unit → Option (Int × Int × Int × Int × Int × Bool × Unit) := fun x => T x.1
noncomputable abbrev _root_.Go.Rv.S_impl_readOp : Summ := ⟨ins_impl_readOp, outs_impl_readOp, F_impl_readOp, []⟩
theorem _root_.Go.Rv.ok_impl_readOp : SumOK KN Tryd.prog 57 S_impl_readOp := runFn_ok (by kernel_rfl) (tblL_ok (.cons ok_impl_OpRight (.cons ok_impl_opWords (.cons ok_strings_Split (.cons ok_impl_readNums (.cons ok_slices_Index_string_string .nil)))))) (by kernel_rfl) fun x y h => ⟨zcfg, 0, (ztop 0 x.1).trans h⟩
end impl_readOp
abbrev ins_impl_journalRead : List Par := [.v false [CT.str]]
abbrev outs_impl_journalRead : List (Bool × List CT) := [(true, ct1)]
namespace impl_journalRead
/-! ### loop.example/g00095/impl.journalRead (function 38) -/
noncomputable def ztbl : Tbl := tblL [(28, [], S_impl_mayStart), (55, [], ⟨ins_strings_Split, outs_strings_Split, F_strings_Split, []⟩), (56, [], S_impl_readHead), (57, [], S_impl_readOp)]
noncomputable def zbody : Code := ((Tryd.prog.funcs[38]?).bind (·.body)).getD .skip
def zcfg : Nat → List Nat × List Nat := fun k => if k = 5 then ([2, 4, 5, 18, 19, 20], [2, 5]) else ([], [])
noncomputable def R0 {R : Type} (nx0 : (Int → Int → Int → Int → Int → Int → Int → Int → Int → Int → Int → (List (ByteArray × Unit)) → Option R)) (nx1 : (Int → Int → Int → Int → Int → Int → Int → Int → Int → Int → Int → (List (ByteArray × Unit)) → (List U1) → Option R)) (ex0 : (Int → Int → Int → Int → Int → Int → Int → Int → Option R)) (ex1 : (Int → Int → Int → Int → Int → Int → Int → Int → (List U1) → Option R)) (ex2 : (Int → Int → Int → Int → Int → Int → Int → Int → Option R)) (last t19x t20x t2x t2x2 t2x3 t2x4 out out2 out3 out4 : Int) (t18x : List (ByteArray × Unit)) : Option R := cond (decide (t20x < t19x)) (if 0 ≤ t20x ∧ t20x < (t18x.length : Int) then cond (t20x == last) (cond (seq ((t18x.getD t20x.toNat (ByteArray.empty, ())).1) (strLit [])) (cond (decide (t20x > 0)) (ex0 out out2 out3 out4 out out2 out3 out4) (cond (t20x == 0) ((F_impl_readHead ((t18x.getD t20x.toNat (ByteArray.empty, ())).1, ())).bind fun y1 => cond (decide (t20x < last)) (cond y1.2.2.1 ((F_impl_mayStart (y1.1, y1.2.1, ())).bind fun y2 => cond (!y2.1) (ex0 0 0 t20x 3 y1.1 y1.2.1 out3 out4) (nx0 last t19x (w64 (t20x + 1)) t2x t2x2 t2x3 t2x4 y1.1 y1.2.1 out3 out4 t18x)) (ex0 0 0 t20x 3 y1.1 y1.2.1 out3 out4)) (ex0 0 0 t20x 3 y1.1 y1.2.1 out3 out4)) (cond (decide (t20x > 300)) (ex0 0 0 t20x 3 out out2 out3 out4) ((F_impl_readOp ((t18x.getD t20x.toNat (ByteArray.empty, ())).1, ())).bind fun y3 => if [(y3.1, y3.2.1, y3.2.2.1, y3.2.2.2.1, y3.2.2.2.2.1, ())].length ≤ maxRow then cond (decide (t20x < last)) (cond (!y3.2.2.2.2.2.1) (ex1 0 0 t20x 3 out out2 out3 out4 [(y3.1, y3.2.1, y3.2.2.1, y3.2.2.2.1, y3.2.2.2.2.1, ())]) (nx1 last t19x (w64 (t20x + 1)) t2x t2x2 t2x3 t2x4 out out2 out3 out4 t18x [(y3.1, y3.2.1, y3.2.2.1, y3.2.2.2.1, y3.2.2.2.2.1, ())])) (ex1 0 0 t20x 3 out out2 out3 out4 [(y3.1, y3.2.1, y3.2.2.1, y3.2.2.2.1, y3.2.2.2.2.1, ())]) else none)))) (cond (t20x == 0) ((F_impl_readHead ((t18x.getD t20x.toNat (ByteArray.empty, ())).1, ())).bind fun y4 => cond (decide (t20x < last)) (cond y4.2.2.1 ((F_impl_mayStart (y4.1, y4.2.1, ())).bind fun y5 => cond (!y5.1) (ex0 0 0 t20x 3 y4.1 y4.2.1 out3 out4) (nx0 last t19x (w64 (t20x + 1)) t2x t2x2 t2x3 t2x4 y4.1 y4.2.1 out3 out4 t18x)) (ex0 0 0 t20x 3 y4.1 y4.2.1 out3 out4)) (ex0 0 0 t20x 3 y4.1 y4.2.1 out3 out4)) (cond (decide (t20x > 300)) (ex0 0 0 t20x 3 out out2 out3 out4) ((F_impl_readOp ((t18x.getD t20x.toNat (ByteArray.empty, ())).1, ())).bind fun y6 => if [(y6.1, y6.2.1, y6.2.2.1, y6.2.2.2.1, y6.2.2.2.2.1, ())].length ≤ maxRow then cond (decide (t20x < last)) (cond (!y6.2.2.2.2.2.1) (ex1 0 0 t20x 3 out out2 out3 out4 [(y6.1, y6.2.1, y6.2.2.1, y6.2.2.2.1, y6.2.2.2.2.1, ())]) (nx1 last t19x (w64 (t20x + 1)) t2x t2x2 t2x3 t2x4 out out2 out3 out4 t18x [(y6.1, y6.2.1, y6.2.2.1, y6.2.2.2.1, y6.2.2.2.2.1, ())])) (ex1 0 0 t20x 3 out out2 out3 out4 [(y6.1, y6.2.1, y6.2.2.1, y6.2.2.2.1, y6.2.2.2.2.1, ())]) else none)))) (cond (t20x == 0) ((F_impl_readHead ((t18x.getD t20x.toNat (ByteArray.empty, ())).1, ())).bind fun y7 => cond (decide (t20x < last)) (cond y7.2.2.1 ((F_impl_mayStart (y7.1, y7.2.1, ())).bind fun y8 => cond (!y8.1) (ex0 0 0 t20x 3 y7.1 y7.2.1 out3 out4) (nx0 last t19x (w64 (t20x + 1)) t2x t2x2 t2x3 t2x4 y7.1 y7.2.1 out3 out4 t18x)) (ex0 0 0 t20x 3 y7.1 y7.2.1 out3 out4)) (ex0 0 0 t20x 3 y7.1 y7.2.1 out3 out4)) (cond (decide (t20x > 300)) (ex0 0 0 t20x 3 out out2 out3 out4) ((F_impl_readOp ((t18x.getD t20x.toNat (ByteArray.empty, ())).1, ())).bind fun y9 => if [(y9.1, y9.2.1, y9.2.2.1, y9.2.2.2.1, y9.2.2.2.2.1, ())].length ≤ maxRow then cond (decide (t20x < last)) (cond (!y9.2.2.2.2.2.1) (ex1 0 0 t20x 3 out out2 out3 out4 [(y9.1, y9.2.1, y9.2.2.1, y9.2.2.2.1, y9.2.2.2.2.1, ())]) (nx1 last t19x (w64 (t20x + 1)) t2x t2x2 t2x3 t2x4 out out2 out3 out4 t18x [(y9.1, y9.2.1, y9.2.2.1, y9.2.2.2.1, y9.2.2.2.2.1, ())])) (ex1 0 0 t20x 3 out out2 out3 out4 [(y9.1, y9.2.1, y9.2.2.1, y9.2.2.2.1, y9.2.2.2.2.1, ())]) else none))) else none) (ex2 t2x t2x2 t2x3 t2x4 out out2 out3 out4)
noncomputable def R1 {R : Type} (nx1 : (Int → Int → Int → Int → Int → Int → Int → Int → Int → Int → Int → (List (ByteArray × Unit)) → (List U1) → Option R)) (ex3 : (Int → Int → Int → Int → Int → Int → Int → Int → (List U1) → Option R)) (ex1 : (Int → Int → Int → Int → Int → Int → Int → Int → (List U1) → Option R)) (ex4 : (Int → Int → Int → Int → Int → Int → Int → Int → (List U1) → Option R)) (last t19x t20x t2x t2x2 t2x3 t2x4 out out2 out3 out4 : Int) (t18x : List (ByteArray × Unit)) (o3 : List U1) : Option R := cond (decide (t20x < t19x)) (if 0 ≤ t20x ∧ t20x < (t18x.length : Int) then cond (t20x == last) (cond (seq ((t18x.getD t20x.toNat (ByteArray.empty, ())).1) (strLit [])) (cond (decide (t20x > 0)) (ex3 out out2 out3 out4 out out2 out3 out4 o3) (cond (t20x == 0) ((F_impl_readHead ((t18x.getD t20x.toNat (ByteArray.empty, ())).1, ())).bind fun y1 => cond (decide (t20x < last)) (cond y1.2.2.1 ((F_impl_mayStart (y1.1, y1.2.1, ())).bind fun y2 => cond (!y2.1) (ex1 0 0 t20x 3 y1.1 y1.2.1 out3 out4 o3) (nx1 last t19x (w64 (t20x + 1)) t2x t2x2 t2x3 t2x4 y1.1 y1.2.1 out3 out4 t18x o3)) (ex1 0 0 t20x 3 y1.1 y1.2.1 out3 out4 o3)) (ex1 0 0 t20x 3 y1.1 y1.2.1 out3 out4 o3)) (cond (decide (t20x > 300)) (ex1 0 0 t20x 3 out out2 out3 out4 o3) ((F_impl_readOp ((t18x.getD t20x.toNat (ByteArray.empty, ())).1, ())).bind fun y3 => if o3.length + [(y3.1, y3.2.1, y3.2.2.1, y3.2.2.2.1, y3.2.2.2.2.1, ())].length ≤ maxRow then cond (decide (t20x < last)) (cond (!y3.2.2.2.2.2.1) (ex1 0 0 t20x 3 out out2 out3 out4 (o3 ++ [(y3.1, y3.2.1, y3.2.2.1, y3.2.2.2.1, y3.2.2.2.2.1, ())])) (nx1 last t19x (w64 (t20x + 1)) t2x t2x2 t2x3 t2x4 out out2 out3 out4 t18x (o3 ++ [(y3.1, y3.2.1, y3.2.2.1, y3.2.2.2.1, y3.2.2.2.2.1, ())]))) (ex1 0 0 t20x 3 out out2 out3 out4 (o3 ++ [(y3.1, y3.2.1, y3.2.2.1, y3.2.2.2.1, y3.2.2.2.2.1, ())])) else none)))) (cond (t20x == 0) ((F_impl_readHead ((t18x.getD t20x.toNat (ByteArray.empty, ())).1, ())).bind fun y4 => cond (decide (t20x < last)) (cond y4.2.2.1 ((F_impl_mayStart (y4.1, y4.2.1, ())).bind fun y5 => cond (!y5.1) (ex1 0 0 t20x 3 y4.1 y4.2.1 out3 out4 o3) (nx1 last t19x (w64 (t20x + 1)) t2x t2x2 t2x3 t2x4 y4.1 y4.2.1 out3 out4 t18x o3)) (ex1 0 0 t20x 3 y4.1 y4.2.1 out3 out4 o3)) (ex1 0 0 t20x 3 y4.1 y4.2.1 out3 out4 o3)) (cond (decide (t20x > 300)) (ex1 0 0 t20x 3 out out2 out3 out4 o3) ((F_impl_readOp ((t18x.getD t20x.toNat (ByteArray.empty, ())).1, ())).bind fun y6 => if o3.length + [(y6.1, y6.2.1, y6.2.2.1, y6.2.2.2.1, y6.2.2.2.2.1, ())].length ≤ maxRow then cond (decide (t20x < last)) (cond (!y6.2.2.2.2.2.1) (ex1 0 0 t20x 3 out out2 out3 out4 (o3 ++ [(y6.1, y6.2.1, y6.2.2.1, y6.2.2.2.1, y6.2.2.2.2.1, ())])) (nx1 last t19x (w64 (t20x + 1)) t2x t2x2 t2x3 t2x4 out out2 out3 out4 t18x (o3 ++ [(y6.1, y6.2.1, y6.2.2.1, y6.2.2.2.1, y6.2.2.2.2.1, ())]))) (ex1 0 0 t20x 3 out out2 out3 out4 (o3 ++ [(y6.1, y6.2.1, y6.2.2.1, y6.2.2.2.1, y6.2.2.2.2.1, ())])) else none)))) (cond (t20x == 0) ((F_impl_readHead ((t18x.getD t20x.toNat (ByteArray.empty, ())).1, ())).bind fun y7 => cond (decide (t20x < last)) (cond y7.2.2.1 ((F_impl_mayStart (y7.1, y7.2.1, ())).bind fun y8 => cond (!y8.1) (ex1 0 0 t20x 3 y7.1 y7.2.1 out3 out4 o3) (nx1 last t19x (w64 (t20x + 1)) t2x t2x2 t2x3 t2x4 y7.1 y7.2.1 out3 out4 t18x o3)) (ex1 0 0 t20x 3 y7.1 y7.2.1 out3 out4 o3)) (ex1 0 0 t20x 3 y7.1 y7.2.1 out3 out4 o3)) (cond (decide (t20x > 300)) (ex1 0 0 t20x 3 out out2 out3 out4 o3) ((F_impl_readOp ((t18x.getD t20x.toNat (ByteArray.empty, ())).1, ())).bind fun y9 => if o3.length + [(y9.1, y9.2.1, y9.2.2.1, y9.2.2.2.1, y9.2.2.2.2.1, ())].length ≤ maxRow then cond (decide (t20x < last)) (cond (!y9.2.2.2.2.2.1) (ex1 0 0 t20x 3 out out2 out3 out4 (o3 ++ [(y9.1, y9.2.1, y9.2.2.1, y9.2.2.2.1, y9.2.2.2.2.1, ())])) (nx1 last t19x (w64 (t20x + 1)) t2x t2x2 t2x3 t2x4 out out2 out3 out4 t18x (o3 ++ [(y9.1, y9.2.1, y9.2.2.1, y9.2.2.2.1, y9.2.2.2.2.1, ())]))) (ex1 0 0 t20x 3 out out2 out3 out4 (o3 ++ [(y9.1, y9.2.1, y9.2.2.1, y9.2.2.2.1, y9.2.2.2.2.1, ())])) else none))) else none) (ex4 t2x t2x2 t2x3 t2x4 out out2 out3 out4 o3)
noncomputable def A0  (text : ByteArray) (t2x t2x2 t2x3 t2x4 out out2 out3 out4 : Int) : Option (U0) := some (t2x, t2x2, [], t2x3, t2x4, ())
noncomputable def A1  (text : ByteArray) (t2x t2x2 t2x3 t2x4 out out2 out3 out4 : Int) (o2 : List U1) : Option (U0) := some (t2x, t2x2, [], t2x3, t2x4, ())
noncomputable def A2  (text : ByteArray) (t2x t2x2 t2x3 t2x4 out out2 out3 out4 : Int) : Option (U0) := some (out, out2, [], out3, out4, ())
noncomputable def A3  (text : ByteArray) (t2x t2x2 t2x3 t2x4 out out2 out3 out4 : Int) (o2 : List U1) : Option (U0) := some (t2x, t2x2, o2, t2x3, t2x4, ())
noncomputable def A4  (text : ByteArray) (t2x t2x2 t2x3 t2x4 out out2 out3 out4 : Int) (o2 : List U1) : Option (U0) := some (out, out2, o2, out3, out4, ())
noncomputable def T (lo0 : (Int → Int → Int → Int → Int → Int → Int → Int → Int → Int → Int → (List (ByteArray × Unit)) → Option (U0))) (text : ByteArray) : Option (U0) := (F_strings_Split (text, (strLit [10]), ())).bind fun y1 => lo0 (w64 ((y1.1.length : Int) - 1)) (y1.1.length : Int) 0 0 0 0 0 0 0 0 0 y1.1
noncomputable def zst0 {R : Type} (k0 : Nat) : Env → List Ob → Kont R → Option R := fun env ob K => runCode Tryd.prog ztbl 87 0 zcfg k0 (codeAt [1, 1, 1, 1, 0, 1, 0, 0] zbody) env ob K
noncomputable def K0 {R : Type} (k0 : Nat) (K : Kont R) : Kont R := blockK 0 (seqK (fun env ob => runCode Tryd.prog ztbl 87 0 zcfg k0 (codeAt [1, 1, 1, 1, 1] zbody) env ob (K)) (K))
noncomputable def L0 {R : Type} (k0 k : Nat) (K : Kont R) (last t19x t20x t2x t2x2 t2x3 t2x4 out out2 out3 out4 : Int) (t18x : List (ByteArray × Unit)) : Option R := iter 0 [2, 4, 5, 18, 19, 20] [2, 5] (zst0 k0) k [(2, .ptr 0 0 0 0), (4, .int .i64 last), (5, .ptr 1 0 0 0), (18, .own 2), (19, .int .i64 t19x), (20, .int .i64 t20x)] [.box [.int .i64 t2x, .int .i64 t2x2, .nils, .int .i64 t2x3, .int .i64 t2x4], .box [.int .i64 out, .int .i64 out2, .nils, .int .i64 out3, .int .i64 out4], .arr [CT.str] t18x] K
noncomputable def L1 {R : Type} (k0 k : Nat) (K : Kont R) (last t19x t20x t2x t2x2 t2x3 t2x4 out out2 out3 out4 : Int) (t18x : List (ByteArray × Unit)) (o3 : List U1) : Option R := iter 0 [2, 4, 5, 18, 19, 20] [2, 5] (zst0 k0) k [(2, .ptr 0 0 0 0), (4, .int .i64 last), (5, .ptr 1 0 0 0), (18, .own 2), (19, .int .i64 t19x), (20, .int .i64 t20x)] [.box [.int .i64 t2x, .int .i64 t2x2, .nils, .int .i64 t2x3, .int .i64 t2x4], .box [.int .i64 out, .int .i64 out2, .own 3, .int .i64 out3, .int .i64 out4], .arr [CT.str] t18x, .arr ct0 o3] K
theorem zs0 {R : Type} (k0 k : Nat) (K : Kont R) (last t19x t20x t2x t2x2 t2x3 t2x4 out out2 out3 out4 : Int) (t18x : List (ByteArray × Unit)) : L0 k0 (k + 1) K last t19x t20x t2x t2x2 t2x3 t2x4 out out2 out3 out4 t18x = R0 (L0 k0 k K) (L1 k0 k K) (fun t2x t2x2 t2x3 t2x4 out out2 out3 out4 => K .ret [(2, .ptr 0 0 0 0), (5, .ptr 1 0 0 0)] [.box [.int .i64 t2x, .int .i64 t2x2, .nils, .int .i64 t2x3, .int .i64 t2x4], .box [.int .i64 out, .int .i64 out2, .nils, .int .i64 out3, .int .i64 out4]]) (fun t2x t2x2 t2x3 t2x4 out out2 out3 out4 o2 => K .ret [(2, .ptr 0 0 0 0), (5, .ptr 1 0 0 0)] [.box [.int .i64 t2x, .int .i64 t2x2, .nils, .int .i64 t2x3, .int .i64 t2x4], .box [.int .i64 out, .int .i64 out2, .own 2, .int .i64 out3, .int .i64 out4], .arr ct0 o2]) (fun t2x t2x2 t2x3 t2x4 out out2 out3 out4 => K (.exit 0) [(2, .ptr 0 0 0 0), (5, .ptr 1 0 0 0)] [.box [.int .i64 t2x, .int .i64 t2x2, .nils, .int .i64 t2x3, .int .i64 t2x4], .box [.int .i64 out, .int .i64 out2, .nils, .int .i64 out3, .int .i64 out4]]) last t19x t20x t2x t2x2 t2x3 t2x4 out out2 out3 out4 t18x := by kernel_rfl
theorem zs1 {R : Type} (k0 k : Nat) (K : Kont R) (last t19x t20x t2x t2x2 t2x3 t2x4 out out2 out3 out4 : Int) (t18x : List (ByteArray × Unit)) (o3 : List U1) : L1 k0 (k + 1) K last t19x t20x t2x t2x2 t2x3 t2x4 out out2 out3 out4 t18x o3 = R1 (L1 k0 k K) (fun t2x t2x2 t2x3 t2x4 out out2 out3 out4 o2 => K .ret [(2, .ptr 0 0 0 0), (5, .ptr 1 0 0 0)] [.box [.int .i64 t2x, .int .i64 t2x2, .own 2, .int .i64 t2x3, .int .i64 t2x4], .box [.int .i64 out, .int .i64 out2, .own 2, .int .i64 out3, .int .i64 out4], .arr ct0 o2]) (fun t2x t2x2 t2x3 t2x4 out out2 out3 out4 o2 => K .ret [(2, .ptr 0 0 0 0), (5, .ptr 1 0 0 0)] [.box [.int .i64 t2x, .int .i64 t2x2, .nils, .int .i64 t2x3, .int .i64 t2x4], .box [.int .i64 out, .int .i64 out2, .own 2, .int .i64 out3, .int .i64 out4], .arr ct0 o2]) (fun t2x t2x2 t2x3 t2x4 out out2 out3 out4 o2 => K (.exit 0) [(2, .ptr 0 0 0 0), (5, .ptr 1 0 0 0)] [.box [.int .i64 t2x, .int .i64 t2x2, .nils, .int .i64 t2x3, .int .i64 t2x4], .box [.int .i64 out, .int .i64 out2, .own 2, .int .i64 out3, .int .i64 out4], .arr ct0 o2]) last t19x t20x t2x t2x2 t2x3 t2x4 out out2 out3 out4 t18x o3 := by kernel_rfl
theorem za0 (k0 : Nat) (text : ByteArray) (t2x t2x2 t2x3 t2x4 out out2 out3 out4 : Int) : K0 (R := (U0)) k0 (finK Tryd.prog [.cell 2 38] ins_impl_journalRead outs_impl_journalRead (text, ())) .ret [(2, .ptr 0 0 0 0), (5, .ptr 1 0 0 0)] [.box [.int .i64 t2x, .int .i64 t2x2, .nils, .int .i64 t2x3, .int .i64 t2x4], .box [.int .i64 out, .int .i64 out2, .nils, .int .i64 out3, .int .i64 out4]] = A0  text t2x t2x2 t2x3 t2x4 out out2 out3 out4 := by kernel_rfl
theorem za1 (k0 : Nat) (text : ByteArray) (t2x t2x2 t2x3 t2x4 out out2 out3 out4 : Int) (o2 : List U1) : K0 (R := (U0)) k0 (finK Tryd.prog [.cell 2 38] ins_impl_journalRead outs_impl_journalRead (text, ())) .ret [(2, .ptr 0 0 0 0), (5, .ptr 1 0 0 0)] [.box [.int .i64 t2x, .int .i64 t2x2, .nils, .int .i64 t2x3, .int .i64 t2x4], .box [.int .i64 out, .int .i64 out2, .own 2, .int .i64 out3, .int .i64 out4], .arr ct0 o2] = A1  text t2x t2x2 t2x3 t2x4 out out2 out3 out4 o2 := by kernel_rfl
theorem za2 (k0 : Nat) (text : ByteArray) (t2x t2x2 t2x3 t2x4 out out2 out3 out4 : Int) : K0 (R := (U0)) k0 (finK Tryd.prog [.cell 2 38] ins_impl_journalRead outs_impl_journalRead (text, ())) (.exit 0) [(2, .ptr 0 0 0 0), (5, .ptr 1 0 0 0)] [.box [.int .i64 t2x, .int .i64 t2x2, .nils, .int .i64 t2x3, .int .i64 t2x4], .box [.int .i64 out, .int .i64 out2, .nils, .int .i64 out3, .int .i64 out4]] = A2  text t2x t2x2 t2x3 t2x4 out out2 out3 out4 := by kernel_rfl
theorem za3 (k0 : Nat) (text : ByteArray) (t2x t2x2 t2x3 t2x4 out out2 out3 out4 : Int) (o2 : List U1) : K0 (R := (U0)) k0 (finK Tryd.prog [.cell 2 38] ins_impl_journalRead outs_impl_journalRead (text, ())) .ret [(2, .ptr 0 0 0 0), (5, .ptr 1 0 0 0)] [.box [.int .i64 t2x, .int .i64 t2x2, .own 2, .int .i64 t2x3, .int .i64 t2x4], .box [.int .i64 out, .int .i64 out2, .own 2, .int .i64 out3, .int .i64 out4], .arr ct0 o2] = A3  text t2x t2x2 t2x3 t2x4 out out2 out3 out4 o2 := by kernel_rfl
theorem za4 (k0 : Nat) (text : ByteArray) (t2x t2x2 t2x3 t2x4 out out2 out3 out4 : Int) (o2 : List U1) : K0 (R := (U0)) k0 (finK Tryd.prog [.cell 2 38] ins_impl_journalRead outs_impl_journalRead (text, ())) (.exit 0) [(2, .ptr 0 0 0 0), (5, .ptr 1 0 0 0)] [.box [.int .i64 t2x, .int .i64 t2x2, .nils, .int .i64 t2x3, .int .i64 t2x4], .box [.int .i64 out, .int .i64 out2, .own 2, .int .i64 out3, .int .i64 out4], .arr ct0 o2] = A4  text t2x t2x2 t2x3 t2x4 out out2 out3 out4 o2 := by kernel_rfl
theorem ztop (k0 : Nat) (text : ByteArray) : runFn Tryd.prog ztbl zcfg k0 38 ins_impl_journalRead outs_impl_journalRead [] (text, ()) = T (L0 (R := (U0)) k0 k0 (K0 (R := (U0)) k0 ((finK Tryd.prog [.cell 2 38] ins_impl_journalRead outs_impl_journalRead (text, ()))))) text := by kernel_rfl
noncomputable def G1 {R : Type} (k0 : Nat) (hx0 : (Int → Int → Int → Int → Int → Int → Int → Int → Option R)) (hx1 : (Int → Int → Int → Int → Int → Int → Int → Int → (List U1) → Option R)) (hx2 : (Int → Int → Int → Int → Int → Int → Int → Int → Option R)) (hx3 : (Int → Int → Int → Int → Int → Int → Int → Int → (List U1) → Option R)) (hx4 : (Int → Int → Int → Int → Int → Int → Int → Int → (List U1) → Option R)) : Nat → Int → Int → Int → Int → Int → Int → Int → Int → Int → Int → Int → (List (ByteArray × Unit)) → (List U1) → Option R
 | 0, _, _, _, _, _, _, _, _, _, _, _, _, _ => none
 | k + 1, last, t19x, t20x, t2x, t2x2, t2x3, t2x4, out, out2, out3, out4, t18x, o3 => R1 (G1 k0 hx0 hx1 hx2 hx3 hx4 k) hx3 hx1 hx4 last t19x t20x t2x t2x2 t2x3 t2x4 out out2 out3 out4 t18x o3
theorem zg1 {R : Type} (k0 : Nat) (K : Kont R) : ∀ k : Nat, L1 k0 k K = G1 k0 (fun t2x t2x2 t2x3 t2x4 out out2 out3 out4 => K .ret [(2, .ptr 0 0 0 0), (5, .ptr 1 0 0 0)] [.box [.int .i64 t2x, .int .i64 t2x2, .nils, .int .i64 t2x3, .int .i64 t2x4], .box [.int .i64 out, .int .i64 out2, .nils, .int .i64 out3, .int .i64 out4]]) (fun t2x t2x2 t2x3 t2x4 out out2 out3 out4 o2 => K .ret [(2, .ptr 0 0 0 0), (5, .ptr 1 0 0 0)] [.box [.int .i64 t2x, .int .i64 t2x2, .nils, .int .i64 t2x3, .int .i64 t2x4], .box [.int .i64 out, .int .i64 out2, .own 2, .int .i64 out3, .int .i64 out4], .arr ct0 o2]) (fun t2x t2x2 t2x3 t2x4 out out2 out3 out4 => K (.exit 0) [(2, .ptr 0 0 0 0), (5, .ptr 1 0 0 0)] [.box [.int .i64 t2x, .int .i64 t2x2, .nils, .int .i64 t2x3, .int .i64 t2x4], .box [.int .i64 out, .int .i64 out2, .nils, .int .i64 out3, .int .i64 out4]]) (fun t2x t2x2 t2x3 t2x4 out out2 out3 out4 o2 => K .ret [(2, .ptr 0 0 0 0), (5, .ptr 1 0 0 0)] [.box [.int .i64 t2x, .int .i64 t2x2, .own 2, .int .i64 t2x3, .int .i64 t2x4], .box [.int .i64 out, .int .i64 out2, .own 2, .int .i64 out3, .int .i64 out4], .arr ct0 o2]) (fun t2x t2x2 t2x3 t2x4 out out2 out3 out4 o2 => K (.exit 0) [(2, .ptr 0 0 0 0), (5, .ptr 1 0 0 0)] [.box [.int .i64 t2x, .int .i64 t2x2, .nils, .int .i64 t2x3, .int .i64 t2x4], .box [.int .i64 out, .int .i64 out2, .own 2, .int .i64 out3, .int .i64 out4], .arr ct0 o2]) k := by
 intro k
 induction k with
 | zero => funext last t19x t20x t2x t2x2 t2x3 t2x4 out out2 out3 out4 t18x o3; rfl
 | succ k ih => funext last t19x t20x t2x t2x2 t2x3 t2x4 out out2 out3 out4 t18x o3; rw [zs1, G1]; (try simp only [ih]); try rfl
noncomputable def G0 {R : Type} (k0 : Nat) (hx0 : (Int → Int → Int → Int → Int → Int → Int → Int → Option R)) (hx1 : (Int → Int → Int → Int → Int → Int → Int → Int → (List U1) → Option R)) (hx2 : (Int → Int → Int → Int → Int → Int → Int → Int → Option R)) (hx3 : (Int → Int → Int → Int → Int → Int → Int → Int → (List U1) → Option R)) (hx4 : (Int → Int → Int → Int → Int → Int → Int → Int → (List U1) → Option R)) : Nat → Int → Int → Int → Int → Int → Int → Int → Int → Int → Int → Int → (List (ByteArray × Unit)) → Option R
 | 0, _, _, _, _, _, _, _, _, _, _, _, _ => none
 | k + 1, last, t19x, t20x, t2x, t2x2, t2x3, t2x4, out, out2, out3, out4, t18x => R0 (G0 k0 hx0 hx1 hx2 hx3 hx4 k) (G1 k0 hx0 hx1 hx2 hx3 hx4 k) hx0 hx1 hx2 last t19x t20x t2x t2x2 t2x3 t2x4 out out2 out3 out4 t18x
theorem zg0 {R : Type} (k0 : Nat) (K : Kont R) : ∀ k : Nat, L0 k0 k K = G0 k0 (fun t2x t2x2 t2x3 t2x4 out out2 out3 out4 => K .ret [(2, .ptr 0 0 0 0), (5, .ptr 1 0 0 0)] [.box [.int .i64 t2x, .int .i64 t2x2, .nils, .int .i64 t2x3, .int .i64 t2x4], .box [.int .i64 out, .int .i64 out2, .nils, .int .i64 out3, .int .i64 out4]]) (fun t2x t2x2 t2x3 t2x4 out out2 out3 out4 o2 => K .ret [(2, .ptr 0 0 0 0), (5, .ptr 1 0 0 0)] [.box [.int .i64 t2x, .int .i64 t2x2, .nils, .int .i64 t2x3, .int .i64 t2x4], .box [.int .i64 out, .int .i64 out2, .own 2, .int .i64 out3, .int .i64 out4], .arr ct0 o2]) (fun t2x t2x2 t2x3 t2x4 out out2 out3 out4 => K (.exit 0) [(2, .ptr 0 0 0 0), (5, .ptr 1 0 0 0)] [.box [.int .i64 t2x, .int .i64 t2x2, .nils, .int .i64 t2x3, .int .i64 t2x4], .box [.int .i64 out, .int .i64 out2, .nils, .int .i64 out3, .int .i64 out4]]) (fun t2x t2x2 t2x3 t2x4 out out2 out3 out4 o2 => K .ret [(2, .ptr 0 0 0 0), (5, .ptr 1 0 0 0)] [.box [.int .i64 t2x, .int .i64 t2x2, .own 2, .int .i64 t2x3, .int .i64 t2x4], .box [.int .i64 out, .int .i64 out2, .own 2, .int .i64 out3, .int .i64 out4], .arr ct0 o2]) (fun t2x t2x2 t2x3 t2x4 out out2 out3 out4 o2 => K (.exit 0) [(2, .ptr 0 0 0 0), (5, .ptr 1 0 0 0)] [.box [.int .i64 t2x, .int .i64 t2x2, .nils, .int .i64 t2x3, .int .i64 t2x4], .box [.int .i64 out, .int .i64 out2, .own 2, .int .i64 out3, .int .i64 out4], .arr ct0 o2]) k := by
 intro k
 induction k with
 | zero => funext last t19x t20x t2x t2x2 t2x3 t2x4 out out2 out3 out4 t18x; rfl
 | succ k ih => funext last t19x t20x t2x t2x2 t2x3 t2x4 out out2 out3 out4 t18x; rw [zs0, G0]; (try simp only [ih, zg1]); try rfl
noncomputable def FF (k0 : Nat) (text : ByteArray) : Option (U0) := T (G0 k0 (A0  text) (A1  text) (A2  text) (A3  text) (A4  text) k0) text
theorem zrun (k0 : Nat) (text : ByteArray) : runFn Tryd.prog ztbl zcfg k0 38 ins_impl_journalRead outs_impl_journalRead [] (text, ()) = FF k0 text := by
 rw [ztop, FF]; (try simp only [zg1, zg0, za0, za1, za2, za3, za4]); try rfl
noncomputable def _root_.Go.Rv.F_impl_journalRead : ByteArray × Unit → Option (U0) := fun x => (fun (text : ByteArray) => FF (300 + text.size) text) x.1
noncomputable abbrev _root_.Go.Rv.S_impl_journalRead : Summ := ⟨ins_impl_journalRead, outs_impl_journalRead, F_impl_journalRead, []⟩
theorem _root_.Go.Rv.ok_impl_journalRead : SumOK KN Tryd.prog 38 S_impl_journalRead := runFn_ok (by kernel_rfl) (tblL_ok (.cons ok_impl_mayStart (.cons ok_strings_Split (.cons ok_impl_readHead (.cons ok_impl_readOp .nil))))) (by kernel_rfl) fun x y h => ⟨zcfg, _, (zrun _ x.1).trans h⟩
end impl_journalRead
abbrev ins_impl_JournalRead : List Par := [.v false [CT.str]]
abbrev outs_impl_JournalRead : List (Bool × List CT) := [(true, ct1)]
namespace impl_JournalRead
/-! ### loop.example/g00095/impl.JournalRead (function 18) -/
noncomputable def ztbl : Tbl := tblL [(38, [], S_impl_journalRead)]
noncomputable def zbody : Code := ((Tryd.prog.funcs[18]?).bind (·.body)).getD .skip
def zcfg : Nat → List Nat × List Nat := fun k => ([], [])
noncomputable def T  (text : ByteArray) : Option (U0) := cond (decide ((text.size : Int) > 20000)) (some (0, 0, [], 0, 2, ())) ((F_impl_journalRead (text, ())).bind fun y1 => some (y1.1, y1.2.1, y1.2.2.1, y1.2.2.2.1, y1.2.2.2.2.1, ()))
theorem ztop (k0 : Nat) (text : ByteArray) : runFn Tryd.prog ztbl zcfg k0 18 ins_impl_JournalRead outs_impl_JournalRead [] (text, ()) = T  text := by kernel_rfl
noncomputable def _root_.Go.Rv.F_impl_JournalRead : ByteArray × Unit → Option (U0) := fun x => T x.1
noncomputable abbrev _root_.Go.Rv.S_impl_JournalRead : Summ := ⟨ins_impl_JournalRead, outs_impl_JournalRead, F_impl_JournalRead, []⟩
theorem _root_.Go.Rv.ok_impl_JournalRead : SumOK KN Tryd.prog 18 S_impl_JournalRead := runFn_ok (by kernel_rfl) (tblL_ok (.cons ok_impl_journalRead .nil)) (by kernel_rfl) fun x y h => ⟨zcfg, 0, (ztop 0 x.1).trans h⟩
end impl_JournalRead
abbrev ins_laws_eqOp : List Par := [.v true ct0, .v true ct0]
abbrev outs_laws_eqOp : List (Bool × List CT) := [(false, [CT.bool])]
namespace laws_eqOp
/-! ### loop.example/g00095/laws.eqOp (function 32) -/
noncomputable def ztbl : Tbl := tblL []
noncomputable def zbody : Code := ((Tryd.prog.funcs[32]?).bind (·.body)).getD .skip
def zcfg : Nat → List Nat × List Nat := fun k => ([], [])
noncomputable def T  (a0 a1 a2 a3 a4 b0 b1 b2 b3 b4 : Int) : Option (Bool × Unit) := cond (a0 != b0) (some (false, ())) (cond (a1 != b1) (some (false, ())) (cond (a2 != b2) (some (false, ())) (cond (a3 != b3) (some (false, ())) (cond (a4 != b4) (some (false, ())) (some (true, ()))))))
theorem ztop (k0 : Nat) (a0 a1 a2 a3 a4 b0 b1 b2 b3 b4 : Int) : runFn Tryd.prog ztbl zcfg k0 32 ins_laws_eqOp outs_laws_eqOp [] (a0, a1, a2, a3, a4, b0, b1, b2, b3, b4, ()) = T  a0 a1 a2 a3 a4 b0 b1 b2 b3 b4 := by kernel_rfl
noncomputable def _root_.Go.Rv.F_laws_eqOp : Int × Int × Int × Int × Int × U1 → Option (Bool × Unit) := fun x => T x.1 x.2.1 x.2.2.1 x.2.2.2.1 x.2.2.2.2.1 x.2.2.2.2.2.1 x.2.2.2.2.2.2.1 x.2.2.2.2.2.2.2.1 x.2.2.2.2.2.2.2.2.1 x.2.2.2.2.2.2.2.2.2.1
noncomputable abbrev _root_.Go.Rv.S_laws_eqOp : Summ := ⟨ins_laws_eqOp, outs_laws_eqOp, F_laws_eqOp, []⟩
theorem _root_.Go.Rv.ok_laws_eqOp : SumOK Dr Tryd.prog 32 S_laws_eqOp := runFn_ok (by kernel_rfl) (tblL_ok .nil) (by kernel_rfl) fun x y h => ⟨zcfg, 0, (ztop 0 x.1 x.2.1 x.2.2.1 x.2.2.2.1 x.2.2.2.2.1 x.2.2.2.2.2.1 x.2.2.2.2.2.2.1 x.2.2.2.2.2.2.2.1 x.2.2.2.2.2.2.2.2.1 x.2.2.2.2.2.2.2.2.2.1).trans h⟩
end laws_eqOp
abbrev ins_laws_eqOpS : List Par := [.v false [CT.sl ct0], .v false [CT.sl ct0]]
abbrev outs_laws_eqOpS : List (Bool × List CT) := [(false, [CT.bool])]
namespace laws_eqOpS
/-! ### loop.example/g00095/laws.eqOpS (function 14) -/
noncomputable def ztbl : Tbl := tblL [(32, [], S_laws_eqOp)]
noncomputable def zbody : Code := ((Tryd.prog.funcs[14]?).bind (·.body)).getD .skip
def zcfg : Nat → List Nat × List Nat := fun k => if k = 4 then ([0, 1, 5], [4]) else ([], [])
noncomputable def R0 {R : Type} (nx0 : ((List U1) → (List U1) → Int → Option R)) (ex0 : (Bool → Option R)) (ex1 : (Unit → Option R)) (a2 b2 : List U1) (i : Int) : Option R := cond (decide (i < (a2.length : Int))) (if 0 ≤ i ∧ i < (a2.length : Int) then if 0 ≤ i ∧ i < (b2.length : Int) then (F_laws_eqOp ((rd (0, 0, 0, 0, 0, ()) a2 i).1, (rd (0, 0, 0, 0, 0, ()) a2 i).2.1, (rd (0, 0, 0, 0, 0, ()) a2 i).2.2.1, (rd (0, 0, 0, 0, 0, ()) a2 i).2.2.2.1, (rd (0, 0, 0, 0, 0, ()) a2 i).2.2.2.2.1, (rd (0, 0, 0, 0, 0, ()) b2 i).1, (rd (0, 0, 0, 0, 0, ()) b2 i).2.1, (rd (0, 0, 0, 0, 0, ()) b2 i).2.2.1, (rd (0, 0, 0, 0, 0, ()) b2 i).2.2.2.1, (rd (0, 0, 0, 0, 0, ()) b2 i).2.2.2.2.1, ())).bind fun y1 => cond (!y1.1) (ex0 false) (nx0 a2 b2 (w64 (i + 1))) else none else none) (ex1 ())
noncomputable def A0  (a b : List U1) (t4x : Bool) : Option (Bool × Unit) := some (t4x, ())
noncomputable def A1  (a b : List U1) (_u : Unit) : Option (Bool × Unit) := some (true, ())
noncomputable def T (lo0 : ((List U1) → (List U1) → Int → Option (Bool × Unit))) (a b : List U1) : Option (Bool × Unit) := cond ((a.length : Int) != (b.length : Int)) (some (false, ())) (lo0 a b 0)
noncomputable def zst0 {R : Type} (k0 : Nat) : Env → List Ob → Kont R → Option R := fun env ob K => runCode Tryd.prog ztbl 27 0 zcfg k0 (codeAt [1, 1, 0, 1, 0, 0] zbody) env ob K
noncomputable def K0 {R : Type} (k0 : Nat) (K : Kont R) : Kont R := blockK 0 (seqK (fun env ob => runCode Tryd.prog ztbl 27 0 zcfg k0 (codeAt [1, 1, 1] zbody) env ob (K)) (K))
noncomputable def L0 {R : Type} (k0 k : Nat) (K : Kont R) (a2 b2 : List U1) (i : Int) : Option R := iter 0 [0, 1, 5] [4] (zst0 k0) k [(0, .sl ct0 a2), (1, .sl ct0 b2), (5, .int .i64 i)] [] K
theorem zs0 {R : Type} (k0 k : Nat) (K : Kont R) (a2 b2 : List U1) (i : Int) : L0 k0 (k + 1) K a2 b2 i = R0 (L0 k0 k K) (fun t4x => K .ret [(4, .bool t4x)] []) (fun _ => K (.exit 0) [(4, .undef)] []) a2 b2 i := by kernel_rfl
theorem za0 (k0 : Nat) (a b : List U1) (t4x : Bool) : K0 (R := (Bool × Unit)) k0 (finK Tryd.prog [.tmp 4] ins_laws_eqOpS outs_laws_eqOpS (a, b, ())) .ret [(4, .bool t4x)] [] = A0  a b t4x := by kernel_rfl
theorem za1 (k0 : Nat) (a b : List U1)  : K0 (R := (Bool × Unit)) k0 (finK Tryd.prog [.tmp 4] ins_laws_eqOpS outs_laws_eqOpS (a, b, ())) (.exit 0) [(4, .undef)] [] = A1  a b () := by kernel_rfl
theorem ztop (k0 : Nat) (a b : List U1) : runFn Tryd.prog ztbl zcfg k0 14 ins_laws_eqOpS outs_laws_eqOpS [] (a, b, ()) = T (L0 (R := (Bool × Unit)) k0 k0 (K0 (R := (Bool × Unit)) k0 ((finK Tryd.prog [.tmp 4] ins_laws_eqOpS outs_laws_eqOpS (a, b, ()))))) a b := by kernel_rfl
noncomputable def G0 {R : Type} (k0 : Nat) (hx0 : (Bool → Option R)) (hx1 : (Unit → Option R)) : Nat → (List U1) → (List U1) → Int → Option R
 | 0, _, _, _ => none
 | k + 1, a2, b2, i => R0 (G0 k0 hx0 hx1 k) hx0 hx1 a2 b2 i
theorem zg0 {R : Type} (k0 : Nat) (K : Kont R) : ∀ k : Nat, L0 k0 k K = G0 k0 (fun t4x => K .ret [(4, .bool t4x)] []) (fun _ => K (.exit 0) [(4, .undef)] []) k := by
 intro k
 induction k with
 | zero => funext a2 b2 i; rfl
 | succ k ih => funext a2 b2 i; rw [zs0, G0]; (try simp only [ih]); try rfl
noncomputable def FF (k0 : Nat) (a b : List U1) : Option (Bool × Unit) := T (G0 k0 (A0  a b) (A1  a b) k0) a b
theorem zrun (k0 : Nat) (a b : List U1) : runFn Tryd.prog ztbl zcfg k0 14 ins_laws_eqOpS outs_laws_eqOpS [] (a, b, ()) = FF k0 a b := by
 rw [ztop, FF]; (try simp only [zg0, za0, za1]); try rfl
noncomputable def _root_.Go.Rv.F_laws_eqOpS : (List U1) × (List U1) × Unit → Option (Bool × Unit) := fun x => (fun (a b : List U1) => FF (300 + a.length + b.length) a b) x.1 x.2.1
noncomputable abbrev _root_.Go.Rv.S_laws_eqOpS : Summ := ⟨ins_laws_eqOpS, outs_laws_eqOpS, F_laws_eqOpS, []⟩
theorem _root_.Go.Rv.ok_laws_eqOpS : SumOK Dr Tryd.prog 14 S_laws_eqOpS := runFn_ok (by kernel_rfl) (tblL_ok (.cons ok_laws_eqOp .nil)) (by kernel_rfl) fun x y h => ⟨zcfg, _, (zrun _ x.1 x.2.1).trans h⟩
end laws_eqOpS
abbrev ins_laws_eqJournalOut : List Par := [.v true ct1, .v true ct1]
abbrev outs_laws_eqJournalOut : List (Bool × List CT) := [(false, [CT.bool])]
namespace laws_eqJournalOut
/-! ### loop.example/g00095/laws.eqJournalOut (function 19) -/
noncomputable def ztbl : Tbl := tblL [(14, [], S_laws_eqOpS)]
noncomputable def zbody : Code := ((Tryd.prog.funcs[19]?).bind (·.body)).getD .skip
def zcfg : Nat → List Nat × List Nat := fun k => ([], [])
noncomputable def T  (a0 a1 : Int) (a2 : List U1) (a3 a4 b0 b1 : Int) (b2 : List U1) (b3 b4 : Int) : Option (Bool × Unit) := cond (a0 != b0) (some (false, ())) (cond (a1 != b1) (some (false, ())) ((F_laws_eqOpS (a2, b2, ())).bind fun y1 => cond (!y1.1) (some (false, ())) (cond (a3 != b3) (some (false, ())) (cond (a4 != b4) (some (false, ())) (some (true, ()))))))
theorem ztop (k0 : Nat) (a0 a1 : Int) (a2 : List U1) (a3 a4 b0 b1 : Int) (b2 : List U1) (b3 b4 : Int) : runFn Tryd.prog ztbl zcfg k0 19 ins_laws_eqJournalOut outs_laws_eqJournalOut [] (a0, a1, a2, a3, a4, b0, b1, b2, b3, b4, ()) = T  a0 a1 a2 a3 a4 b0 b1 b2 b3 b4 := by kernel_rfl
noncomputable def _root_.Go.Rv.F_laws_eqJournalOut : Int × Int × (List U1) × Int × Int × U0 → Option (Bool × Unit) := fun x => T x.1 x.2.1 x.2.2.1 x.2.2.2.1 x.2.2.2.2.1 x.2.2.2.2.2.1 x.2.2.2.2.2.2.1 x.2.2.2.2.2.2.2.1 x.2.2.2.2.2.2.2.2.1 x.2.2.2.2.2.2.2.2.2.1
noncomputable abbrev _root_.Go.Rv.S_laws_eqJournalOut : Summ := ⟨ins_laws_eqJournalOut, outs_laws_eqJournalOut, F_laws_eqJournalOut, []⟩
theorem _root_.Go.Rv.ok_laws_eqJournalOut : SumOK Dr Tryd.prog 19 S_laws_eqJournalOut := runFn_ok (by kernel_rfl) (tblL_ok (.cons ok_laws_eqOpS .nil)) (by kernel_rfl) fun x y h => ⟨zcfg, 0, (ztop 0 x.1 x.2.1 x.2.2.1 x.2.2.2.1 x.2.2.2.2.1 x.2.2.2.2.2.1 x.2.2.2.2.2.2.1 x.2.2.2.2.2.2.2.1 x.2.2.2.2.2.2.2.2.1 x.2.2.2.2.2.2.2.2.2.1).trans h⟩
end laws_eqJournalOut
abbrev ins_laws_markOpS : List Par := [.w false [CT.sl ct0], .v false [CT.int .i64]]
abbrev outs_laws_markOpS : List (Bool × List CT) := [(false, [CT.int .i64])]
namespace laws_markOpS
/-! ### loop.example/g00095/laws.markOpS (function 39) -/
noncomputable def ztbl : Tbl := tblL []
noncomputable def zbody : Code := ((Tryd.prog.funcs[39]?).bind (·.body)).getD .skip
def zcfg : Nat → List Nat × List Nat := fun k => if k = 2 then ([0, 1, 5], [1]) else ([], [])
noncomputable def R0 {R : Type} (nx0 : (Int → Int → (List U1) → Option R)) (ex0 : (Int → (List U1) → Option R)) (kx i : Int) (a2 : List U1) : Option R := cond (decide (i < (a2.length : Int))) (if 0 ≤ i ∧ i < (a2.length : Int) then if 0 ≤ i ∧ i < ((a2.set i.toNat (ct0s0 (a2.getD i.toNat (0, 0, 0, 0, 0, ())) kx)).length : Int) then if 0 ≤ i ∧ i < (((a2.set i.toNat (ct0s0 (a2.getD i.toNat (0, 0, 0, 0, 0, ())) kx)).set i.toNat (ct0s1 ((a2.set i.toNat (ct0s0 (a2.getD i.toNat (0, 0, 0, 0, 0, ())) kx)).getD i.toNat (0, 0, 0, 0, 0, ())) (w64 (kx + 1)))).length : Int) then if 0 ≤ i ∧ i < ((((a2.set i.toNat (ct0s0 (a2.getD i.toNat (0, 0, 0, 0, 0, ())) kx)).set i.toNat (ct0s1 ((a2.set i.toNat (ct0s0 (a2.getD i.toNat (0, 0, 0, 0, 0, ())) kx)).getD i.toNat (0, 0, 0, 0, 0, ())) (w64 (kx + 1)))).set i.toNat (ct0s2 (((a2.set i.toNat (ct0s0 (a2.getD i.toNat (0, 0, 0, 0, 0, ())) kx)).set i.toNat (ct0s1 ((a2.set i.toNat (ct0s0 (a2.getD i.toNat (0, 0, 0, 0, 0, ())) kx)).getD i.toNat (0, 0, 0, 0, 0, ())) (w64 (kx + 1)))).getD i.toNat (0, 0, 0, 0, 0, ())) (w64 ((w64 (kx + 1)) + 1)))).length : Int) then if 0 ≤ i ∧ i < (((((a2.set i.toNat (ct0s0 (a2.getD i.toNat (0, 0, 0, 0, 0, ())) kx)).set i.toNat (ct0s1 ((a2.set i.toNat (ct0s0 (a2.getD i.toNat (0, 0, 0, 0, 0, ())) kx)).getD i.toNat (0, 0, 0, 0, 0, ())) (w64 (kx + 1)))).set i.toNat (ct0s2 (((a2.set i.toNat (ct0s0 (a2.getD i.toNat (0, 0, 0, 0, 0, ())) kx)).set i.toNat (ct0s1 ((a2.set i.toNat (ct0s0 (a2.getD i.toNat (0, 0, 0, 0, 0, ())) kx)).getD i.toNat (0, 0, 0, 0, 0, ())) (w64 (kx + 1)))).getD i.toNat (0, 0, 0, 0, 0, ())) (w64 ((w64 (kx + 1)) + 1)))).set i.toNat (ct0s3 ((((a2.set i.toNat (ct0s0 (a2.getD i.toNat (0, 0, 0, 0, 0, ())) kx)).set i.toNat (ct0s1 ((a2.set i.toNat (ct0s0 (a2.getD i.toNat (0, 0, 0, 0, 0, ())) kx)).getD i.toNat (0, 0, 0, 0, 0, ())) (w64 (kx + 1)))).set i.toNat (ct0s2 (((a2.set i.toNat (ct0s0 (a2.getD i.toNat (0, 0, 0, 0, 0, ())) kx)).set i.toNat (ct0s1 ((a2.set i.toNat (ct0s0 (a2.getD i.toNat (0, 0, 0, 0, 0, ())) kx)).getD i.toNat (0, 0, 0, 0, 0, ())) (w64 (kx + 1)))).getD i.toNat (0, 0, 0, 0, 0, ())) (w64 ((w64 (kx + 1)) + 1)))).getD i.toNat (0, 0, 0, 0, 0, ())) (w64 ((w64 ((w64 (kx + 1)) + 1)) + 1)))).length : Int) then nx0 (w64 ((w64 ((w64 ((w64 ((w64 (kx + 1)) + 1)) + 1)) + 1)) + 1)) (w64 (i + 1)) (((((a2.set i.toNat (ct0s0 (a2.getD i.toNat (0, 0, 0, 0, 0, ())) kx)).set i.toNat (ct0s1 ((a2.set i.toNat (ct0s0 (a2.getD i.toNat (0, 0, 0, 0, 0, ())) kx)).getD i.toNat (0, 0, 0, 0, 0, ())) (w64 (kx + 1)))).set i.toNat (ct0s2 (((a2.set i.toNat (ct0s0 (a2.getD i.toNat (0, 0, 0, 0, 0, ())) kx)).set i.toNat (ct0s1 ((a2.set i.toNat (ct0s0 (a2.getD i.toNat (0, 0, 0, 0, 0, ())) kx)).getD i.toNat (0, 0, 0, 0, 0, ())) (w64 (kx + 1)))).getD i.toNat (0, 0, 0, 0, 0, ())) (w64 ((w64 (kx + 1)) + 1)))).set i.toNat (ct0s3 ((((a2.set i.toNat (ct0s0 (a2.getD i.toNat (0, 0, 0, 0, 0, ())) kx)).set i.toNat (ct0s1 ((a2.set i.toNat (ct0s0 (a2.getD i.toNat (0, 0, 0, 0, 0, ())) kx)).getD i.toNat (0, 0, 0, 0, 0, ())) (w64 (kx + 1)))).set i.toNat (ct0s2 (((a2.set i.toNat (ct0s0 (a2.getD i.toNat (0, 0, 0, 0, 0, ())) kx)).set i.toNat (ct0s1 ((a2.set i.toNat (ct0s0 (a2.getD i.toNat (0, 0, 0, 0, 0, ())) kx)).getD i.toNat (0, 0, 0, 0, 0, ())) (w64 (kx + 1)))).getD i.toNat (0, 0, 0, 0, 0, ())) (w64 ((w64 (kx + 1)) + 1)))).getD i.toNat (0, 0, 0, 0, 0, ())) (w64 ((w64 ((w64 (kx + 1)) + 1)) + 1)))).set i.toNat (ct0s4 (((((a2.set i.toNat (ct0s0 (a2.getD i.toNat (0, 0, 0, 0, 0, ())) kx)).set i.toNat (ct0s1 ((a2.set i.toNat (ct0s0 (a2.getD i.toNat (0, 0, 0, 0, 0, ())) kx)).getD i.toNat (0, 0, 0, 0, 0, ())) (w64 (kx + 1)))).set i.toNat (ct0s2 (((a2.set i.toNat (ct0s0 (a2.getD i.toNat (0, 0, 0, 0, 0, ())) kx)).set i.toNat (ct0s1 ((a2.set i.toNat (ct0s0 (a2.getD i.toNat (0, 0, 0, 0, 0, ())) kx)).getD i.toNat (0, 0, 0, 0, 0, ())) (w64 (kx + 1)))).getD i.toNat (0, 0, 0, 0, 0, ())) (w64 ((w64 (kx + 1)) + 1)))).set i.toNat (ct0s3 ((((a2.set i.toNat (ct0s0 (a2.getD i.toNat (0, 0, 0, 0, 0, ())) kx)).set i.toNat (ct0s1 ((a2.set i.toNat (ct0s0 (a2.getD i.toNat (0, 0, 0, 0, 0, ())) kx)).getD i.toNat (0, 0, 0, 0, 0, ())) (w64 (kx + 1)))).set i.toNat (ct0s2 (((a2.set i.toNat (ct0s0 (a2.getD i.toNat (0, 0, 0, 0, 0, ())) kx)).set i.toNat (ct0s1 ((a2.set i.toNat (ct0s0 (a2.getD i.toNat (0, 0, 0, 0, 0, ())) kx)).getD i.toNat (0, 0, 0, 0, 0, ())) (w64 (kx + 1)))).getD i.toNat (0, 0, 0, 0, 0, ())) (w64 ((w64 (kx + 1)) + 1)))).getD i.toNat (0, 0, 0, 0, 0, ())) (w64 ((w64 ((w64 (kx + 1)) + 1)) + 1)))).getD i.toNat (0, 0, 0, 0, 0, ())) (w64 ((w64 ((w64 ((w64 (kx + 1)) + 1)) + 1)) + 1)))) else none else none else none else none else none) (ex0 kx a2)
noncomputable def A0  (a : List U1) (ak : Int) (kx : Int) (o0 : List U1) : Option (Int × (List U1) × Unit) := some (kx, o0, ())
noncomputable def T (lo0 : (Int → Int → (List U1) → Option (Int × (List U1) × Unit))) (a : List U1) (ak : Int) : Option (Int × (List U1) × Unit) := lo0 ak 0 a
noncomputable def zst0 {R : Type} (k0 : Nat) : Env → List Ob → Kont R → Option R := fun env ob K => runCode Tryd.prog ztbl 48 1 zcfg k0 (codeAt [1, 0, 1, 0, 0] zbody) env ob K
noncomputable def K0 {R : Type} (k0 : Nat) (K : Kont R) : Kont R := blockK 0 (seqK (fun env ob => runCode Tryd.prog ztbl 48 1 zcfg k0 (codeAt [1, 1] zbody) env ob (K)) (K))
noncomputable def L0 {R : Type} (k0 k : Nat) (K : Kont R) (kx i : Int) (a2 : List U1) : Option R := iter 1 [0, 1, 5] [1] (zst0 k0) k [(0, .own 0), (1, .int .i64 kx), (5, .int .i64 i)] [.arr ct0 a2] K
theorem zs0 {R : Type} (k0 k : Nat) (K : Kont R) (kx i : Int) (a2 : List U1) : L0 k0 (k + 1) K kx i a2 = R0 (L0 k0 k K) (fun kx o0 => K (.exit 0) [(1, .int .i64 kx)] [.arr ct0 o0]) kx i a2 := by kernel_rfl
theorem za0 (k0 : Nat) (a : List U1) (ak : Int) (kx : Int) (o0 : List U1) : K0 (R := (Int × (List U1) × Unit)) k0 (finK Tryd.prog [.tmp 4] ins_laws_markOpS outs_laws_markOpS (a, ak, ())) (.exit 0) [(1, .int .i64 kx)] [.arr ct0 o0] = A0  a ak kx o0 := by kernel_rfl
theorem ztop (k0 : Nat) (a : List U1) (ak : Int) : runFn Tryd.prog ztbl zcfg k0 39 ins_laws_markOpS outs_laws_markOpS [] (a, ak, ()) = T (L0 (R := (Int × (List U1) × Unit)) k0 k0 (K0 (R := (Int × (List U1) × Unit)) k0 ((finK Tryd.prog [.tmp 4] ins_laws_markOpS outs_laws_markOpS (a, ak, ()))))) a ak := by kernel_rfl
noncomputable def G0 {R : Type} (k0 : Nat) (hx0 : (Int → (List U1) → Option R)) : Nat → Int → Int → (List U1) → Option R
 | 0, _, _, _ => none
 | k + 1, kx, i, a2 => R0 (G0 k0 hx0 k) hx0 kx i a2
theorem zg0 {R : Type} (k0 : Nat) (K : Kont R) : ∀ k : Nat, L0 k0 k K = G0 k0 (fun kx o0 => K (.exit 0) [(1, .int .i64 kx)] [.arr ct0 o0]) k := by
 intro k
 induction k with
 | zero => funext kx i a2; rfl
 | succ k ih => funext kx i a2; rw [zs0, G0]; (try simp only [ih]); try rfl
noncomputable def FF (k0 : Nat) (a : List U1) (ak : Int) : Option (Int × (List U1) × Unit) := T (G0 k0 (A0  a ak) k0) a ak
theorem zrun (k0 : Nat) (a : List U1) (ak : Int) : runFn Tryd.prog ztbl zcfg k0 39 ins_laws_markOpS outs_laws_markOpS [] (a, ak, ()) = FF k0 a ak := by
 rw [ztop, FF]; (try simp only [zg0, za0]); try rfl
noncomputable def _root_.Go.Rv.F_laws_markOpS : (List U1) × Int × Unit → Option (Int × (List U1) × Unit) := fun x => (fun (a : List U1) (ak : Int) => FF (300 + a.length) a ak) x.1 x.2.1
noncomputable abbrev _root_.Go.Rv.S_laws_markOpS : Summ := ⟨ins_laws_markOpS, outs_laws_markOpS, F_laws_markOpS, []⟩
theorem _root_.Go.Rv.ok_laws_markOpS : SumOK Dr Tryd.prog 39 S_laws_markOpS := runFn_ok (by kernel_rfl) (tblL_ok .nil) (by kernel_rfl) fun x y h => ⟨zcfg, _, (zrun _ x.1 x.2.1).trans h⟩
end laws_markOpS
abbrev ins_laws_markJournalOut : List Par := [.w true ct1, .v false [CT.int .i64]]
abbrev outs_laws_markJournalOut : List (Bool × List CT) := [(false, [CT.int .i64])]
namespace laws_markJournalOut
/-! ### loop.example/g00095/laws.markJournalOut (function 20) -/
noncomputable def ztbl : Tbl := tblL [(39, [], S_laws_markOpS)]
noncomputable def zbody : Code := ((Tryd.prog.funcs[20]?).bind (·.body)).getD .skip
def zcfg : Nat → List Nat × List Nat := fun k => ([], [])
noncomputable def T  (a0 a1 : Int) (a2 : List U1) (a3 a4 ak : Int) : Option (Int × U0) := (F_laws_markOpS (a2, ak, ())).bind fun y1 => some (y1.1, a0, a1, y1.2.1, a3, a4, ())
theorem ztop (k0 : Nat) (a0 a1 : Int) (a2 : List U1) (a3 a4 ak : Int) : runFn Tryd.prog ztbl zcfg k0 20 ins_laws_markJournalOut outs_laws_markJournalOut [] (a0, a1, a2, a3, a4, ak, ()) = T  a0 a1 a2 a3 a4 ak := by kernel_rfl
noncomputable def _root_.Go.Rv.F_laws_markJournalOut : Int × Int × (List U1) × Int × Int × Int × Unit → Option (Int × U0) := fun x => T x.1 x.2.1 x.2.2.1 x.2.2.2.1 x.2.2.2.2.1 x.2.2.2.2.2.1
noncomputable abbrev _root_.Go.Rv.S_laws_markJournalOut : Summ := ⟨ins_laws_markJournalOut, outs_laws_markJournalOut, F_laws_markJournalOut, []⟩
theorem _root_.Go.Rv.ok_laws_markJournalOut : SumOK Dr Tryd.prog 20 S_laws_markJournalOut := runFn_ok (by kernel_rfl) (tblL_ok (.cons ok_laws_markOpS .nil)) (by kernel_rfl) fun x y h => ⟨zcfg, 0, (ztop 0 x.1 x.2.1 x.2.2.1 x.2.2.2.1 x.2.2.2.2.1 x.2.2.2.2.2.1).trans h⟩
end laws_markJournalOut
abbrev ins_laws_heldOpS : List Par := [.v false [CT.sl ct0], .v false [CT.int .i64]]
abbrev outs_laws_heldOpS : List (Bool × List CT) := [(false, [CT.int .i64])]
namespace laws_heldOpS
/-! ### loop.example/g00095/laws.heldOpS (function 40) -/
noncomputable def ztbl : Tbl := tblL []
noncomputable def zbody : Code := ((Tryd.prog.funcs[40]?).bind (·.body)).getD .skip
def zcfg : Nat → List Nat × List Nat := fun k => if k = 2 then ([0, 1, 5], [1, 4]) else ([], [])
noncomputable def R0 {R : Type} (nx0 : ((List U1) → Int → Int → Option R)) (ex0 : (Int → Int → Option R)) (ex1 : (Int → Option R)) (a2 : List U1) (kx i : Int) : Option R := cond (decide (i < (a2.length : Int))) (if 0 ≤ i ∧ i < (a2.length : Int) then cond ((rd (0, 0, 0, 0, 0, ()) a2 i).1 != kx) (ex0 kx (-1)) (if 0 ≤ i ∧ i < (a2.length : Int) then cond ((rd (0, 0, 0, 0, 0, ()) a2 i).2.1 != (w64 (kx + 1))) (ex0 (w64 (kx + 1)) (-1)) (if 0 ≤ i ∧ i < (a2.length : Int) then cond ((rd (0, 0, 0, 0, 0, ()) a2 i).2.2.1 != (w64 ((w64 (kx + 1)) + 1))) (ex0 (w64 ((w64 (kx + 1)) + 1)) (-1)) (if 0 ≤ i ∧ i < (a2.length : Int) then cond ((rd (0, 0, 0, 0, 0, ()) a2 i).2.2.2.1 != (w64 ((w64 ((w64 (kx + 1)) + 1)) + 1))) (ex0 (w64 ((w64 ((w64 (kx + 1)) + 1)) + 1)) (-1)) (if 0 ≤ i ∧ i < (a2.length : Int) then cond ((rd (0, 0, 0, 0, 0, ()) a2 i).2.2.2.2.1 != (w64 ((w64 ((w64 ((w64 (kx + 1)) + 1)) + 1)) + 1))) (ex0 (w64 ((w64 ((w64 ((w64 (kx + 1)) + 1)) + 1)) + 1)) (-1)) (nx0 a2 (w64 ((w64 ((w64 ((w64 ((w64 (kx + 1)) + 1)) + 1)) + 1)) + 1)) (w64 (i + 1))) else none) else none) else none) else none) else none) (ex1 kx)
noncomputable def A0  (a : List U1) (ak : Int) (kx t4x : Int) : Option (Int × Unit) := some (t4x, ())
noncomputable def A1  (a : List U1) (ak : Int) (kx : Int) : Option (Int × Unit) := some (kx, ())
noncomputable def T (lo0 : ((List U1) → Int → Int → Option (Int × Unit))) (a : List U1) (ak : Int) : Option (Int × Unit) := lo0 a ak 0
noncomputable def zst0 {R : Type} (k0 : Nat) : Env → List Ob → Kont R → Option R := fun env ob K => runCode Tryd.prog ztbl 58 0 zcfg k0 (codeAt [1, 0, 1, 0, 0] zbody) env ob K
noncomputable def K0 {R : Type} (k0 : Nat) (K : Kont R) : Kont R := blockK 0 (seqK (fun env ob => runCode Tryd.prog ztbl 58 0 zcfg k0 (codeAt [1, 1] zbody) env ob (K)) (K))
noncomputable def L0 {R : Type} (k0 k : Nat) (K : Kont R) (a2 : List U1) (kx i : Int) : Option R := iter 0 [0, 1, 5] [1, 4] (zst0 k0) k [(0, .sl ct0 a2), (1, .int .i64 kx), (5, .int .i64 i)] [] K
theorem zs0 {R : Type} (k0 k : Nat) (K : Kont R) (a2 : List U1) (kx i : Int) : L0 k0 (k + 1) K a2 kx i = R0 (L0 k0 k K) (fun kx t4x => K .ret [(1, .int .i64 kx), (4, .int .i64 t4x)] []) (fun kx => K (.exit 0) [(1, .int .i64 kx), (4, .undef)] []) a2 kx i := by kernel_rfl
theorem za0 (k0 : Nat) (a : List U1) (ak : Int) (kx t4x : Int) : K0 (R := (Int × Unit)) k0 (finK Tryd.prog [.tmp 4] ins_laws_heldOpS outs_laws_heldOpS (a, ak, ())) .ret [(1, .int .i64 kx), (4, .int .i64 t4x)] [] = A0  a ak kx t4x := by kernel_rfl
theorem za1 (k0 : Nat) (a : List U1) (ak : Int) (kx : Int) : K0 (R := (Int × Unit)) k0 (finK Tryd.prog [.tmp 4] ins_laws_heldOpS outs_laws_heldOpS (a, ak, ())) (.exit 0) [(1, .int .i64 kx), (4, .undef)] [] = A1  a ak kx := by kernel_rfl
theorem ztop (k0 : Nat) (a : List U1) (ak : Int) : runFn Tryd.prog ztbl zcfg k0 40 ins_laws_heldOpS outs_laws_heldOpS [] (a, ak, ()) = T (L0 (R := (Int × Unit)) k0 k0 (K0 (R := (Int × Unit)) k0 ((finK Tryd.prog [.tmp 4] ins_laws_heldOpS outs_laws_heldOpS (a, ak, ()))))) a ak := by kernel_rfl
noncomputable def G0 {R : Type} (k0 : Nat) (hx0 : (Int → Int → Option R)) (hx1 : (Int → Option R)) : Nat → (List U1) → Int → Int → Option R
 | 0, _, _, _ => none
 | k + 1, a2, kx, i => R0 (G0 k0 hx0 hx1 k) hx0 hx1 a2 kx i
theorem zg0 {R : Type} (k0 : Nat) (K : Kont R) : ∀ k : Nat, L0 k0 k K = G0 k0 (fun kx t4x => K .ret [(1, .int .i64 kx), (4, .int .i64 t4x)] []) (fun kx => K (.exit 0) [(1, .int .i64 kx), (4, .undef)] []) k := by
 intro k
 induction k with
 | zero => funext a2 kx i; rfl
 | succ k ih => funext a2 kx i; rw [zs0, G0]; (try simp only [ih]); try rfl
noncomputable def FF (k0 : Nat) (a : List U1) (ak : Int) : Option (Int × Unit) := T (G0 k0 (A0  a ak) (A1  a ak) k0) a ak
theorem zrun (k0 : Nat) (a : List U1) (ak : Int) : runFn Tryd.prog ztbl zcfg k0 40 ins_laws_heldOpS outs_laws_heldOpS [] (a, ak, ()) = FF k0 a ak := by
 rw [ztop, FF]; (try simp only [zg0, za0, za1]); try rfl
noncomputable def _root_.Go.Rv.F_laws_heldOpS : (List U1) × Int × Unit → Option (Int × Unit) := fun x => (fun (a : List U1) (ak : Int) => FF (300 + a.length) a ak) x.1 x.2.1
noncomputable abbrev _root_.Go.Rv.S_laws_heldOpS : Summ := ⟨ins_laws_heldOpS, outs_laws_heldOpS, F_laws_heldOpS, []⟩
theorem _root_.Go.Rv.ok_laws_heldOpS : SumOK Dr Tryd.prog 40 S_laws_heldOpS := runFn_ok (by kernel_rfl) (tblL_ok .nil) (by kernel_rfl) fun x y h => ⟨zcfg, _, (zrun _ x.1 x.2.1).trans h⟩
end laws_heldOpS
abbrev ins_laws_heldJournalOut : List Par := [.v true ct1, .v false [CT.int .i64]]
abbrev outs_laws_heldJournalOut : List (Bool × List CT) := [(false, [CT.int .i64])]
namespace laws_heldJournalOut
/-! ### loop.example/g00095/laws.heldJournalOut (function 21) -/
noncomputable def ztbl : Tbl := tblL [(40, [], S_laws_heldOpS)]
noncomputable def zbody : Code := ((Tryd.prog.funcs[21]?).bind (·.body)).getD .skip
def zcfg : Nat → List Nat × List Nat := fun k => ([], [])
noncomputable def T  (a0 a1 : Int) (a2 : List U1) (a3 a4 ak : Int) : Option (Int × Unit) := (F_laws_heldOpS (a2, ak, ())).bind fun y1 => cond (decide (y1.1 < 0)) (some ((-1), ())) (some (y1.1, ()))
theorem ztop (k0 : Nat) (a0 a1 : Int) (a2 : List U1) (a3 a4 ak : Int) : runFn Tryd.prog ztbl zcfg k0 21 ins_laws_heldJournalOut outs_laws_heldJournalOut [] (a0, a1, a2, a3, a4, ak, ()) = T  a0 a1 a2 a3 a4 ak := by kernel_rfl
noncomputable def _root_.Go.Rv.F_laws_heldJournalOut : Int × Int × (List U1) × Int × Int × Int × Unit → Option (Int × Unit) := fun x => T x.1 x.2.1 x.2.2.1 x.2.2.2.1 x.2.2.2.2.1 x.2.2.2.2.2.1
noncomputable abbrev _root_.Go.Rv.S_laws_heldJournalOut : Summ := ⟨ins_laws_heldJournalOut, outs_laws_heldJournalOut, F_laws_heldJournalOut, []⟩
theorem _root_.Go.Rv.ok_laws_heldJournalOut : SumOK Dr Tryd.prog 21 S_laws_heldJournalOut := runFn_ok (by kernel_rfl) (tblL_ok (.cons ok_laws_heldOpS .nil)) (by kernel_rfl) fun x y h => ⟨zcfg, 0, (ztop 0 x.1 x.2.1 x.2.2.1 x.2.2.2.1 x.2.2.2.2.1 x.2.2.2.2.2.1).trans h⟩
end laws_heldJournalOut
abbrev ins_laws_FnExactJournalRead : List Par := [.v false [CT.str]]
abbrev outs_laws_FnExactJournalRead : List (Bool × List CT) := [(false, [CT.bool])]
namespace laws_FnExactJournalRead
/-! ### loop.example/g00095/laws.FnExactJournalRead (function 6) -/
noncomputable def ztbl : Tbl := tblL [(17, [], S_spec_JournalRead), (18, [], S_impl_JournalRead), (19, [], S_laws_eqJournalOut), (20, [], S_laws_markJournalOut), (21, [], S_laws_heldJournalOut)]
noncomputable def zbody : Code := ((Tryd.prog.funcs[6]?).bind (·.body)).getD .skip
def zcfg : Nat → List Nat × List Nat := fun k => ([], [])
noncomputable def T  (aText : ByteArray) : Option (Bool × Unit) := cond (decide ((aText.size : Int) > 1048576)) (some (true, ())) ((F_spec_JournalRead (aText, ())).bind fun y1 => (F_impl_JournalRead (aText, ())).bind fun y2 => (F_laws_eqJournalOut (y2.1, y2.2.1, y2.2.2.1, y2.2.2.2.1, y2.2.2.2.2.1, y1.1, y1.2.1, y1.2.2.1, y1.2.2.2.1, y1.2.2.2.2.1, ())).bind fun y3 => cond (!y3.1) (some (false, ())) ((F_laws_markJournalOut (y2.1, y2.2.1, y2.2.2.1, y2.2.2.2.1, y2.2.2.2.2.1, 1, ())).bind fun y4 => (F_laws_heldJournalOut (y2.1, y2.2.1, y4.2.2.2.1, y2.2.2.2.1, y2.2.2.2.2.1, 1, ())).bind fun y5 => cond (decide (y5.1 < 0)) (some (false, ())) (cond (y5.1 != y4.1) (some (false, ())) ((F_impl_JournalRead (aText, ())).bind fun y6 => (F_laws_eqJournalOut (y6.1, y6.2.1, y6.2.2.1, y6.2.2.2.1, y6.2.2.2.2.1, y1.1, y1.2.1, y1.2.2.1, y1.2.2.2.1, y1.2.2.2.2.1, ())).bind fun y7 => cond (!y7.1) (some (false, ())) ((F_laws_heldJournalOut (y2.1, y2.2.1, y4.2.2.2.1, y2.2.2.2.1, y2.2.2.2.2.1, 1, ())).bind fun y8 => cond (decide (y8.1 < 0)) (some (false, ())) (cond (y8.1 != y4.1) (some (false, ())) (some (true, ()))))))))
theorem ztop (k0 : Nat) (aText : ByteArray) : runFn Tryd.prog ztbl zcfg k0 6 ins_laws_FnExactJournalRead outs_laws_FnExactJournalRead [] (aText, ()) = T  aText := by kernel_rfl
noncomputable def _root_.Go.Rv.F_laws_FnExactJournalRead : ByteArray × Unit → Option (Bool × Unit) := fun x => T x.1
noncomputable abbrev _root_.Go.Rv.S_laws_FnExactJournalRead : Summ := ⟨ins_laws_FnExactJournalRead, outs_laws_FnExactJournalRead, F_laws_FnExactJournalRead, []⟩
theorem _root_.Go.Rv.ok_laws_FnExactJournalRead : SumOK KN Tryd.prog 6 S_laws_FnExactJournalRead := runFn_ok (by kernel_rfl) (tblL_ok (.cons ok_spec_JournalRead (.cons ok_impl_JournalRead (.cons ok_laws_eqJournalOut (.cons ok_laws_markJournalOut (.cons ok_laws_heldJournalOut .nil)))))) (by kernel_rfl) fun x y h => ⟨zcfg, 0, (ztop 0 x.1).trans h⟩
end laws_FnExactJournalRead
abbrev ins_spec_l01Max : List Par := [.v false [CT.int .i64], .v false [CT.int .i64]]
abbrev outs_spec_l01Max : List (Bool × List CT) := [(false, [CT.int .i64])]
namespace spec_l01Max
/-! ### loop.example/g00095/spec.l01Max (function 33) -/
noncomputable def ztbl : Tbl := tblL []
noncomputable def zbody : Code := ((Tryd.prog.funcs[33]?).bind (·.body)).getD .skip
def zcfg : Nat → List Nat × List Nat := fun k => ([], [])
noncomputable def T  (a b : Int) : Option (Int × Unit) := cond (decide (a > b)) (some (a, ())) (some (b, ()))
theorem ztop (k0 : Nat) (a b : Int) : runFn Tryd.prog ztbl zcfg k0 33 ins_spec_l01Max outs_spec_l01Max [] (a, b, ()) = T  a b := by kernel_rfl
noncomputable def _root_.Go.Rv.F_spec_l01Max : Int × Int × Unit → Option (Int × Unit) := fun x => T x.1 x.2.1
noncomputable abbrev _root_.Go.Rv.S_spec_l01Max : Summ := ⟨ins_spec_l01Max, outs_spec_l01Max, F_spec_l01Max, []⟩
theorem _root_.Go.Rv.ok_spec_l01Max : SumOK Dr Tryd.prog 33 S_spec_l01Max := runFn_ok (by kernel_rfl) (tblL_ok .nil) (by kernel_rfl) fun x y h => ⟨zcfg, 0, (ztop 0 x.1 x.2.1).trans h⟩
end spec_l01Max
abbrev ins_spec_l01Min : List Par := [.v false [CT.int .i64], .v false [CT.int .i64]]
abbrev outs_spec_l01Min : List (Bool × List CT) := [(false, [CT.int .i64])]
namespace spec_l01Min
/-! ### loop.example/g00095/spec.l01Min (function 34) -/
noncomputable def ztbl : Tbl := tblL []
noncomputable def zbody : Code := ((Tryd.prog.funcs[34]?).bind (·.body)).getD .skip
def zcfg : Nat → List Nat × List Nat := fun k => ([], [])
noncomputable def T  (a b : Int) : Option (Int × Unit) := cond (decide (a < b)) (some (a, ())) (some (b, ()))
theorem ztop (k0 : Nat) (a b : Int) : runFn Tryd.prog ztbl zcfg k0 34 ins_spec_l01Min outs_spec_l01Min [] (a, b, ()) = T  a b := by kernel_rfl
noncomputable def _root_.Go.Rv.F_spec_l01Min : Int × Int × Unit → Option (Int × Unit) := fun x => T x.1 x.2.1
noncomputable abbrev _root_.Go.Rv.S_spec_l01Min : Summ := ⟨ins_spec_l01Min, outs_spec_l01Min, F_spec_l01Min, []⟩
theorem _root_.Go.Rv.ok_spec_l01Min : SumOK Dr Tryd.prog 34 S_spec_l01Min := runFn_ok (by kernel_rfl) (tblL_ok .nil) (by kernel_rfl) fun x y h => ⟨zcfg, 0, (ztop 0 x.1 x.2.1).trans h⟩
end spec_l01Min
abbrev ins_spec_JournalCut : List Par := [.v false [CT.str], .v false [CT.int .i64]]
abbrev outs_spec_JournalCut : List (Bool × List CT) := [(false, [CT.str])]
namespace spec_JournalCut
/-! ### loop.example/g00095/spec.JournalCut (function 15) -/
noncomputable def ztbl : Tbl := tblL [(11, [], S_spec_JournalText), (17, [], S_spec_JournalRead), (33, [], S_spec_l01Max), (34, [], S_spec_l01Min)]
noncomputable def zbody : Code := ((Tryd.prog.funcs[15]?).bind (·.body)).getD .skip
def zcfg : Nat → List Nat × List Nat := fun k => ([], [])
noncomputable def T  (text : ByteArray) (count : Int) : Option (ByteArray × Unit) := (F_spec_JournalRead (text, ())).bind fun y1 => cond (y1.2.2.2.2.1 != 0) (some ((strLit []), ())) ((F_spec_l01Min (count, (y1.2.2.1.length : Int), ())).bind fun y2 => (F_spec_l01Max (0, y2.1, ())).bind fun y3 => if 0 ≤ y3.1 ∧ y3.1 ≤ (y1.2.2.1.length : Int) then if 0 + (y3.1.toNat - 0) ≤ y1.2.2.1.length then (F_spec_JournalText (y1.1, y1.2.1, ((y1.2.2.1.drop 0).take (y3.1.toNat - 0)), ())).bind fun y4 => some (y4.1, ()) else none else none)
theorem ztop (k0 : Nat) (text : ByteArray) (count : Int) : runFn Tryd.prog ztbl zcfg k0 15 ins_spec_JournalCut outs_spec_JournalCut [] (text, count, ()) = T  text count := by kernel_rfl
noncomputable def _root_.Go.Rv.F_spec_JournalCut : ByteArray × Int × Unit → Option (ByteArray × Unit) := fun x => T x.1 x.2.1
noncomputable abbrev _root_.Go.Rv.S_spec_JournalCut : Summ := ⟨ins_spec_JournalCut, outs_spec_JournalCut, F_spec_JournalCut, []⟩
theorem _root_.Go.Rv.ok_spec_JournalCut : SumOK Dr Tryd.prog 15 S_spec_JournalCut := runFn_ok (by kernel_rfl) (tblL_ok (.cons ok_spec_JournalText (.cons ok_spec_JournalRead (.cons ok_spec_l01Max (.cons ok_spec_l01Min .nil))))) (by kernel_rfl) fun x y h => ⟨zcfg, 0, (ztop 0 x.1 x.2.1).trans h⟩
end spec_JournalCut
abbrev ins_impl_spaced : List Par := [.v false [CT.sl [CT.int .i64]]]
abbrev outs_impl_spaced : List (Bool × List CT) := [(false, [CT.str])]
namespace impl_spaced
/-! ### loop.example/g00095/impl.spaced (function 51) -/
noncomputable def ztbl : Tbl := tblL [(59, [], S_impl_dec)]
noncomputable def zbody : Code := ((Tryd.prog.funcs[51]?).bind (·.body)).getD .skip
def zcfg : Nat → List Nat × List Nat := fun k => if k = 3 then ([3, 6, 7, 8], [3]) else ([], [])
noncomputable def R0 {R : Type} (nx0 : (ByteArray → (List (Int × Unit)) → Int → Int → Option R)) (ex0 : (ByteArray → Option R)) (out : ByteArray) (t6x : List (Int × Unit)) (t7x t8x : Int) : Option R := cond (decide (t8x < t7x)) (if 0 ≤ t8x ∧ t8x < (t6x.length : Int) then cond (decide (t8x > 0)) (if out.size + (strLit [32]).size ≤ 9223372036854775807 then (F_impl_dec ((rd (0, ()) t6x t8x).1, ())).bind fun y1 => if (out ++ (strLit [32])).size + y1.1.size ≤ 9223372036854775807 then nx0 ((out ++ (strLit [32])) ++ y1.1) t6x t7x (w64 (t8x + 1)) else none else none) ((F_impl_dec ((rd (0, ()) t6x t8x).1, ())).bind fun y2 => if out.size + y2.1.size ≤ 9223372036854775807 then nx0 (out ++ y2.1) t6x t7x (w64 (t8x + 1)) else none) else none) (ex0 out)
noncomputable def A0  (list : List (Int × Unit)) (out : ByteArray) : Option (ByteArray × Unit) := some (out, ())
noncomputable def T (lo0 : (ByteArray → (List (Int × Unit)) → Int → Int → Option (ByteArray × Unit))) (list : List (Int × Unit)) : Option (ByteArray × Unit) := lo0 (strLit []) list (list.length : Int) 0
noncomputable def zst0 {R : Type} (k0 : Nat) : Env → List Ob → Kont R → Option R := fun env ob K => runCode Tryd.prog ztbl 23 0 zcfg k0 (codeAt [1, 1, 0, 1, 0, 0] zbody) env ob K
noncomputable def K0 {R : Type} (k0 : Nat) (K : Kont R) : Kont R := blockK 0 (seqK (fun env ob => runCode Tryd.prog ztbl 23 0 zcfg k0 (codeAt [1, 1, 1] zbody) env ob (K)) (K))
noncomputable def L0 {R : Type} (k0 k : Nat) (K : Kont R) (out : ByteArray) (t6x : List (Int × Unit)) (t7x t8x : Int) : Option R := iter 0 [3, 6, 7, 8] [3] (zst0 k0) k [(3, .str out), (6, .sl [CT.int .i64] t6x), (7, .int .i64 t7x), (8, .int .i64 t8x)] [] K
theorem zs0 {R : Type} (k0 k : Nat) (K : Kont R) (out : ByteArray) (t6x : List (Int × Unit)) (t7x t8x : Int) : L0 k0 (k + 1) K out t6x t7x t8x = R0 (L0 k0 k K) (fun out => K (.exit 0) [(3, .str out)] []) out t6x t7x t8x := by kernel_rfl
theorem za0 (k0 : Nat) (list : List (Int × Unit)) (out : ByteArray) : K0 (R := (ByteArray × Unit)) k0 (finK Tryd.prog [.tmp 2] ins_impl_spaced outs_impl_spaced (list, ())) (.exit 0) [(3, .str out)] [] = A0  list out := by kernel_rfl
theorem ztop (k0 : Nat) (list : List (Int × Unit)) : runFn Tryd.prog ztbl zcfg k0 51 ins_impl_spaced outs_impl_spaced [] (list, ()) = T (L0 (R := (ByteArray × Unit)) k0 k0 (K0 (R := (ByteArray × Unit)) k0 ((finK Tryd.prog [.tmp 2] ins_impl_spaced outs_impl_spaced (list, ()))))) list := by kernel_rfl
noncomputable def G0 {R : Type} (k0 : Nat) (hx0 : (ByteArray → Option R)) : Nat → ByteArray → (List (Int × Unit)) → Int → Int → Option R
 | 0, _, _, _, _ => none
 | k + 1, out, t6x, t7x, t8x => R0 (G0 k0 hx0 k) hx0 out t6x t7x t8x
theorem zg0 {R : Type} (k0 : Nat) (K : Kont R) : ∀ k : Nat, L0 k0 k K = G0 k0 (fun out => K (.exit 0) [(3, .str out)] []) k := by
 intro k
 induction k with
 | zero => funext out t6x t7x t8x; rfl
 | succ k ih => funext out t6x t7x t8x; rw [zs0, G0]; (try simp only [ih]); try rfl
noncomputable def FF (k0 : Nat) (list : List (Int × Unit)) : Option (ByteArray × Unit) := T (G0 k0 (A0  list) k0) list
theorem zrun (k0 : Nat) (list : List (Int × Unit)) : runFn Tryd.prog ztbl zcfg k0 51 ins_impl_spaced outs_impl_spaced [] (list, ()) = FF k0 list := by
 rw [ztop, FF]; (try simp only [zg0, za0]); try rfl
noncomputable def _root_.Go.Rv.F_impl_spaced : (List (Int × Unit)) × Unit → Option (ByteArray × Unit) := fun x => (fun (list : List (Int × Unit)) => FF (300 + list.length) list) x.1
noncomputable abbrev _root_.Go.Rv.S_impl_spaced : Summ := ⟨ins_impl_spaced, outs_impl_spaced, F_impl_spaced, []⟩
theorem _root_.Go.Rv.ok_impl_spaced : SumOK KN Tryd.prog 51 S_impl_spaced := runFn_ok (by kernel_rfl) (tblL_ok (.cons ok_impl_dec .nil)) (by kernel_rfl) fun x y h => ⟨zcfg, _, (zrun _ x.1).trans h⟩
end impl_spaced
abbrev ins_impl_Op_text : List Par := [.v true ct0]
abbrev outs_impl_Op_text : List (Bool × List CT) := [(false, [CT.str])]
namespace impl_Op_text
/-! ### (loop.example/g00095/impl.Op).text (function 25) -/
noncomputable def ztbl : Tbl := tblL [(50, [], S_impl_opWords), (51, [], S_impl_spaced)]
noncomputable def zbody : Code := ((Tryd.prog.funcs[25]?).bind (·.body)).getD .skip
def zcfg : Nat → List Nat × List Nat := fun k => ([], [])
noncomputable def T  (o0 o1 o2 o3 o4 : Int) : Option (ByteArray × Unit) := (F_impl_opWords (())).bind fun y1 => if 0 ≤ (w64 (o0 - 1)) ∧ (w64 (o0 - 1)) < (y1.1.length : Int) then if 0 ≤ (w64 (o0 - 1)) ∧ (w64 (o0 - 1)) < (y1.2.1.length : Int) then if 0 ≤ (y1.2.1.getD (((w64 (o0 - 1))).toNat) (0, ())).1 ∧ (y1.2.1.getD (((w64 (o0 - 1))).toNat) (0, ())).1 ≤ ([(o1, ()), (o2, ()), (o3, ()), (o4, ())].length : Int) then cond (o0 == 3) (cond ((y1.2.1.getD (((w64 (o0 - 1))).toNat) (0, ())).1 == 0) (some ((y1.1.getD (((w64 (o0 - 1))).toNat) (ByteArray.empty, ())).1, ())) (if ((y1.1.getD (((w64 (o0 - 1))).toNat) (ByteArray.empty, ())).1).size + (strLit [32]).size ≤ 9223372036854775807 then (F_impl_spaced ([(o1, ()), (o3, ())], ())).bind fun y2 => if ((y1.1.getD (((w64 (o0 - 1))).toNat) (ByteArray.empty, ())).1 ++ (strLit [32])).size + y2.1.size ≤ 9223372036854775807 then some ((((y1.1.getD (((w64 (o0 - 1))).toNat) (ByteArray.empty, ())).1 ++ (strLit [32])) ++ y2.1), ()) else none else none)) (cond ((y1.2.1.getD (((w64 (o0 - 1))).toNat) (0, ())).1 == 0) (some ((y1.1.getD (((w64 (o0 - 1))).toNat) (ByteArray.empty, ())).1, ())) (if ((y1.1.getD (((w64 (o0 - 1))).toNat) (ByteArray.empty, ())).1).size + (strLit [32]).size ≤ 9223372036854775807 then if 0 + (((y1.2.1.getD (((w64 (o0 - 1))).toNat) (0, ())).1).toNat - 0) ≤ [(o1, ()), (o2, ()), (o3, ()), (o4, ())].length then (F_impl_spaced ((([(o1, ()), (o2, ()), (o3, ()), (o4, ())].drop 0).take (((y1.2.1.getD (((w64 (o0 - 1))).toNat) (0, ())).1).toNat - 0)), ())).bind fun y3 => if ((y1.1.getD (((w64 (o0 - 1))).toNat) (ByteArray.empty, ())).1 ++ (strLit [32])).size + y3.1.size ≤ 9223372036854775807 then some ((((y1.1.getD (((w64 (o0 - 1))).toNat) (ByteArray.empty, ())).1 ++ (strLit [32])) ++ y3.1), ()) else none else none else none)) else none else none else none
theorem ztop (k0 : Nat) (o0 o1 o2 o3 o4 : Int) : runFn Tryd.prog ztbl zcfg k0 25 ins_impl_Op_text outs_impl_Op_text [] (o0, o1, o2, o3, o4, ()) = T  o0 o1 o2 o3 o4 := by kernel_rfl
noncomputable def _root_.Go.Rv.F_impl_Op_text : U1 → Option (ByteArray × Unit) := fun x => T x.1 x.2.1 x.2.2.1 x.2.2.2.1 x.2.2.2.2.1
noncomputable abbrev _root_.Go.Rv.S_impl_Op_text : Summ := ⟨ins_impl_Op_text, outs_impl_Op_text, F_impl_Op_text, []⟩
theorem _root_.Go.Rv.ok_impl_Op_text : SumOK KN Tryd.prog 25 S_impl_Op_text := runFn_ok (by kernel_rfl) (tblL_ok (.cons ok_impl_opWords (.cons ok_impl_spaced .nil))) (by kernel_rfl) fun x y h => ⟨zcfg, 0, (ztop 0 x.1 x.2.1 x.2.2.1 x.2.2.2.1 x.2.2.2.2.1).trans h⟩
end impl_Op_text
end Go.Rv
