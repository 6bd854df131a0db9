/- What functions come to on pure values (printed by a program of ours). -/
import Derived.Test.YtipgjgcpfppeeaaDoorM01
set_option linter.unusedVariables false
set_option linter.unusedSimpArgs false
set_option linter.unusedSectionVars false
set_option maxRecDepth 100000
namespace Go.Rv
open Go.Proofs
variable {Dr : Kn}
abbrev ins_spec_l01Dec : List Par := [.v false [CT.int .i64]]
abbrev outs_spec_l01Dec : List (Bool × List CT) := [(false, [CT.str])]
namespace spec_l01Dec
/-! ### loop.example/g00095/spec.l01Dec (function 23) -/
noncomputable def ztbl : Tbl := tblL []
noncomputable def zbody : Code := ((Tryd.prog.funcs[23]?).bind (·.body)).getD .skip
def zcfg : Nat → List Nat × List Nat := fun k => if k = 5 then ([0, 3, 4], [3, 4]) else ([], [])
noncomputable def R0 {R : Type} (nx0 : (Int → Bool → ByteArray → Option R)) (ex0 : (Bool → ByteArray → Option R)) (n2 : Int) (neg : Bool) (out : ByteArray) : Option R := cond (n2 != 0) (if 10 = 0 then none else cond (decide ((Int.tmod n2 10) < 0)) (if (bytesOf [((IntKind.u8.wrap ((w64 (48 + (w64 (0 - (Int.tmod n2 10))))))), ())]).size + out.size ≤ 9223372036854775807 then if 10 = 0 then none else nx0 (w64 (Int.tdiv n2 10)) neg ((bytesOf [((IntKind.u8.wrap ((w64 (48 + (w64 (0 - (Int.tmod n2 10))))))), ())]) ++ out) else none) (if (bytesOf [((IntKind.u8.wrap ((w64 (48 + (Int.tmod n2 10))))), ())]).size + out.size ≤ 9223372036854775807 then if 10 = 0 then none else nx0 (w64 (Int.tdiv n2 10)) neg ((bytesOf [((IntKind.u8.wrap ((w64 (48 + (Int.tmod n2 10))))), ())]) ++ out) else none)) (ex0 neg out)
noncomputable def A0  (n : Int) (neg : Bool) (out : ByteArray) : Option (ByteArray × Unit) := cond neg (if (strLit [45]).size + out.size ≤ 9223372036854775807 then some (((strLit [45]) ++ out), ()) else none) (some (out, ()))
noncomputable def T (lo0 : (Int → Bool → ByteArray → Option (ByteArray × Unit))) (n : Int) : Option (ByteArray × Unit) := cond (n == 0) (some ((strLit [48]), ())) (lo0 n (decide (n < 0)) (strLit []))
noncomputable def zst0 {R : Type} (k0 : Nat) : Env → List Ob → Kont R → Option R := fun env ob K => runCode Tryd.prog ztbl 31 0 zcfg k0 (codeAt [1, 1, 1, 1, 0, 0, 0] zbody) env ob K
noncomputable def K0 {R : Type} (k0 : Nat) (K : Kont R) : Kont R := blockK 0 (seqK (fun env ob => runCode Tryd.prog ztbl 31 0 zcfg k0 (codeAt [1, 1, 1, 1, 1] zbody) env ob (K)) (K))
noncomputable def L0 {R : Type} (k0 k : Nat) (K : Kont R) (n2 : Int) (neg : Bool) (out : ByteArray) : Option R := iter 0 [0, 3, 4] [3, 4] (zst0 k0) k [(0, .int .i64 n2), (3, .bool neg), (4, .str out)] [] K
theorem zs0 {R : Type} (k0 k : Nat) (K : Kont R) (n2 : Int) (neg : Bool) (out : ByteArray) : L0 k0 (k + 1) K n2 neg out = R0 (L0 k0 k K) (fun neg out => K (.exit 0) [(3, .bool neg), (4, .str out)] []) n2 neg out := by kernel_rfl
theorem za0 (k0 : Nat) (n : Int) (neg : Bool) (out : ByteArray) : K0 (R := (ByteArray × Unit)) k0 (finK Tryd.prog [.tmp 2] ins_spec_l01Dec outs_spec_l01Dec (n, ())) (.exit 0) [(3, .bool neg), (4, .str out)] [] = A0  n neg out := by kernel_rfl
theorem ztop (k0 : Nat) (n : Int) : runFn Tryd.prog ztbl zcfg k0 23 ins_spec_l01Dec outs_spec_l01Dec [] (n, ()) = T (L0 (R := (ByteArray × Unit)) k0 k0 (K0 (R := (ByteArray × Unit)) k0 ((finK Tryd.prog [.tmp 2] ins_spec_l01Dec outs_spec_l01Dec (n, ()))))) n := by kernel_rfl
noncomputable def G0 {R : Type} (k0 : Nat) (hx0 : (Bool → ByteArray → Option R)) : Nat → Int → Bool → ByteArray → Option R
 | 0, _, _, _ => none
 | k + 1, n2, neg, out => R0 (G0 k0 hx0 k) hx0 n2 neg out
theorem zg0 {R : Type} (k0 : Nat) (K : Kont R) : ∀ k : Nat, L0 k0 k K = G0 k0 (fun neg out => K (.exit 0) [(3, .bool neg), (4, .str out)] []) k := by
 intro k
 induction k with
 | zero => funext n2 neg out; rfl
 | succ k ih => funext n2 neg out; rw [zs0, G0]; (try simp only [ih]); try rfl
noncomputable def FF (k0 : Nat) (n : Int) : Option (ByteArray × Unit) := T (G0 k0 (A0  n) k0) n
theorem zrun (k0 : Nat) (n : Int) : runFn Tryd.prog ztbl zcfg k0 23 ins_spec_l01Dec outs_spec_l01Dec [] (n, ()) = FF k0 n := by
 rw [ztop, FF]; (try simp only [zg0, za0]); try rfl
noncomputable def _root_.Go.Rv.F_spec_l01Dec : Int × Unit → Option (ByteArray × Unit) := fun x => (fun (n : Int) => FF (300) n) x.1
noncomputable abbrev _root_.Go.Rv.S_spec_l01Dec : Summ := ⟨ins_spec_l01Dec, outs_spec_l01Dec, F_spec_l01Dec, []⟩
theorem _root_.Go.Rv.ok_spec_l01Dec : SumOK Dr Tryd.prog 23 S_spec_l01Dec := runFn_ok (by kernel_rfl) (tblL_ok .nil) (by kernel_rfl) fun x y h => ⟨zcfg, _, (zrun _ x.1).trans h⟩
end spec_l01Dec
abbrev ins_spec_OpText : List Par := [.v true ct0]
abbrev outs_spec_OpText : List (Bool × List CT) := [(false, [CT.str])]
namespace spec_OpText
/-! ### loop.example/g00095/spec.OpText (function 7) -/
noncomputable def ztbl : Tbl := tblL [(22, [], S_spec_l10Op), (23, [], S_spec_l01Dec)]
noncomputable def zbody : Code := ((Tryd.prog.funcs[7]?).bind (·.body)).getD .skip
def zcfg : Nat → List Nat × List Nat := fun k => ([], [])
noncomputable def T  (o0 o1 o2 o3 o4 : Int) : Option (ByteArray × Unit) := (F_spec_l10Op (o0, o1, o2, o3, o4, ())).bind fun y1 => cond (!y1.1) (some ((strLit []), ())) ((F_spec_l01Dec (o1, ())).bind fun y2 => if (strLit [32]).size + y2.1.size ≤ 9223372036854775807 then (F_spec_l01Dec (o2, ())).bind fun y3 => if (strLit [32]).size + y3.1.size ≤ 9223372036854775807 then (F_spec_l01Dec (o3, ())).bind fun y4 => if (strLit [32]).size + y4.1.size ≤ 9223372036854775807 then (F_spec_l01Dec (o4, ())).bind fun y5 => if (strLit [32]).size + y5.1.size ≤ 9223372036854775807 then cond (o0 == 1) (if (strLit [103, 101, 116]).size + ((strLit [32]) ++ y2.1).size ≤ 9223372036854775807 then if ((strLit [103, 101, 116]) ++ ((strLit [32]) ++ y2.1)).size + ((strLit [32]) ++ y3.1).size ≤ 9223372036854775807 then if (((strLit [103, 101, 116]) ++ ((strLit [32]) ++ y2.1)) ++ ((strLit [32]) ++ y3.1)).size + ((strLit [32]) ++ y4.1).size ≤ 9223372036854775807 then if ((((strLit [103, 101, 116]) ++ ((strLit [32]) ++ y2.1)) ++ ((strLit [32]) ++ y3.1)) ++ ((strLit [32]) ++ y4.1)).size + ((strLit [32]) ++ y5.1).size ≤ 9223372036854775807 then some ((((((strLit [103, 101, 116]) ++ ((strLit [32]) ++ y2.1)) ++ ((strLit [32]) ++ y3.1)) ++ ((strLit [32]) ++ y4.1)) ++ ((strLit [32]) ++ y5.1)), ()) else none else none else none else none) (cond (o0 == 2) (if (strLit [114, 101, 108, 101, 97, 115, 101]).size + ((strLit [32]) ++ y2.1).size ≤ 9223372036854775807 then some (((strLit [114, 101, 108, 101, 97, 115, 101]) ++ ((strLit [32]) ++ y2.1)), ()) else none) (cond (o0 == 3) (if (strLit [99, 97, 112]).size + ((strLit [32]) ++ y2.1).size ≤ 9223372036854775807 then if ((strLit [99, 97, 112]) ++ ((strLit [32]) ++ y2.1)).size + ((strLit [32]) ++ y4.1).size ≤ 9223372036854775807 then some ((((strLit [99, 97, 112]) ++ ((strLit [32]) ++ y2.1)) ++ ((strLit [32]) ++ y4.1)), ()) else none else none) (cond (o0 == 4) (some ((strLit [116, 105, 99, 107]), ())) (cond (o0 == 5) (some ((strLit [114, 101, 115, 116, 97, 114, 116]), ())) (cond (o0 == 6) (if (strLit [103, 114, 111, 117, 112]).size + ((strLit [32]) ++ y2.1).size ≤ 9223372036854775807 then if ((strLit [103, 114, 111, 117, 112]) ++ ((strLit [32]) ++ y2.1)).size + ((strLit [32]) ++ y3.1).size ≤ 9223372036854775807 then if (((strLit [103, 114, 111, 117, 112]) ++ ((strLit [32]) ++ y2.1)) ++ ((strLit [32]) ++ y3.1)).size + ((strLit [32]) ++ y4.1).size ≤ 9223372036854775807 then if ((((strLit [103, 114, 111, 117, 112]) ++ ((strLit [32]) ++ y2.1)) ++ ((strLit [32]) ++ y3.1)) ++ ((strLit [32]) ++ y4.1)).size + ((strLit [32]) ++ y5.1).size ≤ 9223372036854775807 then some ((((((strLit [103, 114, 111, 117, 112]) ++ ((strLit [32]) ++ y2.1)) ++ ((strLit [32]) ++ y3.1)) ++ ((strLit [32]) ++ y4.1)) ++ ((strLit [32]) ++ y5.1)), ()) else none else none else none else none) (if (strLit [100, 114, 111, 112]).size + ((strLit [32]) ++ y2.1).size ≤ 9223372036854775807 then some (((strLit [100, 114, 111, 112]) ++ ((strLit [32]) ++ y2.1)), ()) else none)))))) else none else none else none else none)
theorem ztop (k0 : Nat) (o0 o1 o2 o3 o4 : Int) : runFn Tryd.prog ztbl zcfg k0 7 ins_spec_OpText outs_spec_OpText [] (o0, o1, o2, o3, o4, ()) = T  o0 o1 o2 o3 o4 := by kernel_rfl
noncomputable def _root_.Go.Rv.F_spec_OpText : U0 → Option (ByteArray × Unit) := fun x => T x.1 x.2.1 x.2.2.1 x.2.2.2.1 x.2.2.2.2.1
noncomputable abbrev _root_.Go.Rv.S_spec_OpText : Summ := ⟨ins_spec_OpText, outs_spec_OpText, F_spec_OpText, []⟩
theorem _root_.Go.Rv.ok_spec_OpText : SumOK Dr Tryd.prog 7 S_spec_OpText := runFn_ok (by kernel_rfl) (tblL_ok (.cons ok_spec_l10Op (.cons ok_spec_l01Dec .nil))) (by kernel_rfl) fun x y h => ⟨zcfg, 0, (ztop 0 x.1 x.2.1 x.2.2.1 x.2.2.2.1 x.2.2.2.2.1).trans h⟩
end spec_OpText
abbrev ins_laws_toOp : List Par := [.v true ct0]
abbrev outs_laws_toOp : List (Bool × List CT) := [(true, ct0)]
namespace laws_toOp
/-! ### loop.example/g00095/laws.toOp (function 8) -/
noncomputable def ztbl : Tbl := tblL []
noncomputable def zbody : Code := ((Tryd.prog.funcs[8]?).bind (·.body)).getD .skip
def zcfg : Nat → List Nat × List Nat := fun k => ([], [])
noncomputable def T  (a0 a1 a2 a3 a4 : Int) : Option (U0) := some (a0, a1, a2, a3, a4, ())
theorem ztop (k0 : Nat) (a0 a1 a2 a3 a4 : Int) : runFn Tryd.prog ztbl zcfg k0 8 ins_laws_toOp outs_laws_toOp [] (a0, a1, a2, a3, a4, ()) = T  a0 a1 a2 a3 a4 := by kernel_rfl
noncomputable def _root_.Go.Rv.F_laws_toOp : U0 → Option (U0) := fun x => T x.1 x.2.1 x.2.2.1 x.2.2.2.1 x.2.2.2.2.1
noncomputable abbrev _root_.Go.Rv.S_laws_toOp : Summ := ⟨ins_laws_toOp, outs_laws_toOp, F_laws_toOp, []⟩
theorem _root_.Go.Rv.ok_laws_toOp : SumOK Dr Tryd.prog 8 S_laws_toOp := runFn_ok (by kernel_rfl) (tblL_ok .nil) (by kernel_rfl) fun x y h => ⟨zcfg, 0, (ztop 0 x.1 x.2.1 x.2.2.1 x.2.2.2.1 x.2.2.2.2.1).trans h⟩
end laws_toOp
abbrev ins_impl_in : List Par := [.v false [CT.int .i64], .v false [CT.int .i64], .v false [CT.int .i64]]
abbrev outs_impl_in : List (Bool × List CT) := [(false, [CT.bool])]
namespace impl_in
/-! ### loop.example/g00095/impl.in (function 52) -/
noncomputable def ztbl : Tbl := tblL []
noncomputable def zbody : Code := ((Tryd.prog.funcs[52]?).bind (·.body)).getD .skip
def zcfg : Nat → List Nat × List Nat := fun k => ([], [])
noncomputable def T  (n low high : Int) : Option (Bool × Unit) := cond (decide (low ≤ n)) (some ((decide (n ≤ high)), ())) (some (false, ()))
theorem ztop (k0 : Nat) (n low high : Int) : runFn Tryd.prog ztbl zcfg k0 52 ins_impl_in outs_impl_in [] (n, low, high, ()) = T  n low high := by kernel_rfl
noncomputable def _root_.Go.Rv.F_impl_in : Int × Int × Int × Unit → Option (Bool × Unit) := fun x => T x.1 x.2.1 x.2.2.1
noncomputable abbrev _root_.Go.Rv.S_impl_in : Summ := ⟨ins_impl_in, outs_impl_in, F_impl_in, []⟩
theorem _root_.Go.Rv.ok_impl_in : SumOK Dr Tryd.prog 52 S_impl_in := runFn_ok (by kernel_rfl) (tblL_ok .nil) (by kernel_rfl) fun x y h => ⟨zcfg, 0, (ztop 0 x.1 x.2.1 x.2.2.1).trans h⟩
end impl_in
abbrev ins_impl_isId : List Par := [.v false [CT.int .i64]]
abbrev outs_impl_isId : List (Bool × List CT) := [(false, [CT.bool])]
namespace impl_isId
/-! ### loop.example/g00095/impl.isId (function 45) -/
noncomputable def ztbl : Tbl := tblL [(52, [], S_impl_in)]
noncomputable def zbody : Code := ((Tryd.prog.funcs[45]?).bind (·.body)).getD .skip
def zcfg : Nat → List Nat × List Nat := fun k => ([], [])
noncomputable def T  (n : Int) : Option (Bool × Unit) := (F_impl_in (n, 1, 1000000, ())).bind fun y1 => some (y1.1, ())
theorem ztop (k0 : Nat) (n : Int) : runFn Tryd.prog ztbl zcfg k0 45 ins_impl_isId outs_impl_isId [] (n, ()) = T  n := by kernel_rfl
noncomputable def _root_.Go.Rv.F_impl_isId : Int × Unit → Option (Bool × Unit) := fun x => T x.1
noncomputable abbrev _root_.Go.Rv.S_impl_isId : Summ := ⟨ins_impl_isId, outs_impl_isId, F_impl_isId, []⟩
theorem _root_.Go.Rv.ok_impl_isId : SumOK Dr Tryd.prog 45 S_impl_isId := runFn_ok (by kernel_rfl) (tblL_ok (.cons ok_impl_in .nil)) (by kernel_rfl) fun x y h => ⟨zcfg, 0, (ztop 0 x.1).trans h⟩
end impl_isId
abbrev ins_impl_isWant : List Par := [.v false [CT.int .i64]]
abbrev outs_impl_isWant : List (Bool × List CT) := [(false, [CT.bool])]
namespace impl_isWant
/-! ### loop.example/g00095/impl.isWant (function 46) -/
noncomputable def ztbl : Tbl := tblL [(52, [], S_impl_in)]
noncomputable def zbody : Code := ((Tryd.prog.funcs[46]?).bind (·.body)).getD .skip
def zcfg : Nat → List Nat × List Nat := fun k => ([], [])
noncomputable def T  (n : Int) : Option (Bool × Unit) := (F_impl_in (n, 0, 1125899906842624, ())).bind fun y1 => some (y1.1, ())
theorem ztop (k0 : Nat) (n : Int) : runFn Tryd.prog ztbl zcfg k0 46 ins_impl_isWant outs_impl_isWant [] (n, ()) = T  n := by kernel_rfl
noncomputable def _root_.Go.Rv.F_impl_isWant : Int × Unit → Option (Bool × Unit) := fun x => T x.1
noncomputable abbrev _root_.Go.Rv.S_impl_isWant : Summ := ⟨ins_impl_isWant, outs_impl_isWant, F_impl_isWant, []⟩
theorem _root_.Go.Rv.ok_impl_isWant : SumOK Dr Tryd.prog 46 S_impl_isWant := runFn_ok (by kernel_rfl) (tblL_ok (.cons ok_impl_in .nil)) (by kernel_rfl) fun x y h => ⟨zcfg, 0, (ztop 0 x.1).trans h⟩
end impl_isWant
abbrev ins_impl_isWeight : List Par := [.v false [CT.int .i64]]
abbrev outs_impl_isWeight : List (Bool × List CT) := [(false, [CT.bool])]
namespace impl_isWeight
/-! ### loop.example/g00095/impl.isWeight (function 47) -/
noncomputable def ztbl : Tbl := tblL [(52, [], S_impl_in)]
noncomputable def zbody : Code := ((Tryd.prog.funcs[47]?).bind (·.body)).getD .skip
def zcfg : Nat → List Nat × List Nat := fun k => ([], [])
noncomputable def T  (n : Int) : Option (Bool × Unit) := (F_impl_in (n, 1, 1073741824, ())).bind fun y1 => some (y1.1, ())
theorem ztop (k0 : Nat) (n : Int) : runFn Tryd.prog ztbl zcfg k0 47 ins_impl_isWeight outs_impl_isWeight [] (n, ()) = T  n := by kernel_rfl
noncomputable def _root_.Go.Rv.F_impl_isWeight : Int × Unit → Option (Bool × Unit) := fun x => T x.1
noncomputable abbrev _root_.Go.Rv.S_impl_isWeight : Summ := ⟨ins_impl_isWeight, outs_impl_isWeight, F_impl_isWeight, []⟩
theorem _root_.Go.Rv.ok_impl_isWeight : SumOK Dr Tryd.prog 47 S_impl_isWeight := runFn_ok (by kernel_rfl) (tblL_ok (.cons ok_impl_in .nil)) (by kernel_rfl) fun x y h => ⟨zcfg, 0, (ztop 0 x.1).trans h⟩
end impl_isWeight
abbrev ins_impl_EditRight : List Par := [.v true ct0]
abbrev outs_impl_EditRight : List (Bool × List CT) := [(false, [CT.bool])]
namespace impl_EditRight
/-! ### loop.example/g00095/impl.EditRight (function 58) -/
noncomputable def ztbl : Tbl := tblL [(45, [], S_impl_isId), (46, [], S_impl_isWant), (47, [], S_impl_isWeight)]
noncomputable def zbody : Code := ((Tryd.prog.funcs[58]?).bind (·.body)).getD .skip
def zcfg : Nat → List Nat × List Nat := fun k => ([], [])
noncomputable def T  (e0 e1 e2 e3 e4 : Int) : Option (Bool × Unit) := cond (e2 == 0) (cond (e0 == 1) ((F_impl_isWant (e3, ())).bind fun y1 => (F_impl_isWeight (e4, ())).bind fun y2 => (F_impl_isId (e1, ())).bind fun y3 => cond y3.1 (cond y1.1 (some (y2.1, ())) (some (false, ()))) (cond (e0 == 8) (cond (e1 == 0) (cond y1.1 (some (y2.1, ())) (some (false, ()))) (some (false, ()))) (some (false, ())))) (cond (e0 == 6) ((F_impl_isWant (e3, ())).bind fun y4 => (F_impl_isWeight (e4, ())).bind fun y5 => (F_impl_isId (e1, ())).bind fun y6 => cond y6.1 (cond y4.1 (some (y5.1, ())) (some (false, ()))) (cond (e0 == 8) (cond (e1 == 0) (cond y4.1 (some (y5.1, ())) (some (false, ()))) (some (false, ()))) (some (false, ())))) (cond (e0 == 3) ((F_impl_isWant (e3, ())).bind fun y7 => (F_impl_isId (e1, ())).bind fun y8 => cond y8.1 (cond (e2 == 0) (cond y7.1 (some ((e4 == 0), ())) (some (false, ()))) (some (false, ()))) (cond (e0 == 8) (cond (e1 == 0) (cond (e2 == 0) (cond y7.1 (some ((e4 == 0), ())) (some (false, ()))) (some (false, ()))) (some (false, ()))) (some (false, ())))) (cond (e0 == 8) ((F_impl_isWant (e3, ())).bind fun y9 => (F_impl_isId (e1, ())).bind fun y10 => cond y10.1 (cond (e2 == 0) (cond y9.1 (some ((e4 == 0), ())) (some (false, ()))) (some (false, ()))) (cond (e0 == 8) (cond (e1 == 0) (cond (e2 == 0) (cond y9.1 (some ((e4 == 0), ())) (some (false, ()))) (some (false, ()))) (some (false, ()))) (some (false, ())))) (cond (e0 == 4) ((F_impl_isWeight (e3, ())).bind fun y11 => (F_impl_isId (e1, ())).bind fun y12 => cond y12.1 (cond (e2 == 0) (cond y11.1 (some ((e4 == 0), ())) (some (false, ()))) (some (false, ()))) (cond (e0 == 8) (cond (e1 == 0) (cond (e2 == 0) (cond y11.1 (some ((e4 == 0), ())) (some (false, ()))) (some (false, ()))) (some (false, ()))) (some (false, ())))) (cond (e0 == 5) ((F_impl_isId (e1, ())).bind fun y13 => cond y13.1 (cond (e3 == 0) (some ((e4 == 0), ())) (some (false, ()))) (cond (e0 == 8) (cond (e1 == 0) (cond (e3 == 0) (some ((e4 == 0), ())) (some (false, ()))) (some (false, ()))) (some (false, ())))) (cond (e0 == 2) ((F_impl_isId (e1, ())).bind fun y14 => cond y14.1 (cond (e2 == 0) (cond (e3 == 0) (some ((e4 == 0), ())) (some (false, ()))) (some (false, ()))) (cond (e0 == 8) (cond (e1 == 0) (cond (e2 == 0) (cond (e3 == 0) (some ((e4 == 0), ())) (some (false, ()))) (some (false, ()))) (some (false, ()))) (some (false, ())))) (cond (e0 == 7) ((F_impl_isId (e1, ())).bind fun y15 => cond y15.1 (cond (e2 == 0) (cond (e3 == 0) (some ((e4 == 0), ())) (some (false, ()))) (some (false, ()))) (cond (e0 == 8) (cond (e1 == 0) (cond (e2 == 0) (cond (e3 == 0) (some ((e4 == 0), ())) (some (false, ()))) (some (false, ()))) (some (false, ()))) (some (false, ())))) (some (false, ())))))))))) ((F_impl_isId (e2, ())).bind fun y16 => cond (e0 == 1) ((F_impl_isWant (e3, ())).bind fun y17 => (F_impl_isWeight (e4, ())).bind fun y18 => (F_impl_isId (e1, ())).bind fun y19 => cond y19.1 (cond y16.1 (cond y17.1 (some (y18.1, ())) (some (false, ()))) (some (false, ()))) (cond (e0 == 8) (cond (e1 == 0) (cond y16.1 (cond y17.1 (some (y18.1, ())) (some (false, ()))) (some (false, ()))) (some (false, ()))) (some (false, ())))) (cond (e0 == 6) ((F_impl_isWant (e3, ())).bind fun y20 => (F_impl_isWeight (e4, ())).bind fun y21 => (F_impl_isId (e1, ())).bind fun y22 => cond y22.1 (cond y16.1 (cond y20.1 (some (y21.1, ())) (some (false, ()))) (some (false, ()))) (cond (e0 == 8) (cond (e1 == 0) (cond y16.1 (cond y20.1 (some (y21.1, ())) (some (false, ()))) (some (false, ()))) (some (false, ()))) (some (false, ())))) (cond (e0 == 3) ((F_impl_isWant (e3, ())).bind fun y23 => (F_impl_isId (e1, ())).bind fun y24 => cond y24.1 (cond (e2 == 0) (cond y23.1 (some ((e4 == 0), ())) (some (false, ()))) (some (false, ()))) (cond (e0 == 8) (cond (e1 == 0) (cond (e2 == 0) (cond y23.1 (some ((e4 == 0), ())) (some (false, ()))) (some (false, ()))) (some (false, ()))) (some (false, ())))) (cond (e0 == 8) ((F_impl_isWant (e3, ())).bind fun y25 => (F_impl_isId (e1, ())).bind fun y26 => cond y26.1 (cond (e2 == 0) (cond y25.1 (some ((e4 == 0), ())) (some (false, ()))) (some (false, ()))) (cond (e0 == 8) (cond (e1 == 0) (cond (e2 == 0) (cond y25.1 (some ((e4 == 0), ())) (some (false, ()))) (some (false, ()))) (some (false, ()))) (some (false, ())))) (cond (e0 == 4) ((F_impl_isWeight (e3, ())).bind fun y27 => (F_impl_isId (e1, ())).bind fun y28 => cond y28.1 (cond (e2 == 0) (cond y27.1 (some ((e4 == 0), ())) (some (false, ()))) (some (false, ()))) (cond (e0 == 8) (cond (e1 == 0) (cond (e2 == 0) (cond y27.1 (some ((e4 == 0), ())) (some (false, ()))) (some (false, ()))) (some (false, ()))) (some (false, ())))) (cond (e0 == 5) ((F_impl_isId (e1, ())).bind fun y29 => cond y29.1 (cond y16.1 (cond (e3 == 0) (some ((e4 == 0), ())) (some (false, ()))) (some (false, ()))) (cond (e0 == 8) (cond (e1 == 0) (cond y16.1 (cond (e3 == 0) (some ((e4 == 0), ())) (some (false, ()))) (some (false, ()))) (some (false, ()))) (some (false, ())))) (cond (e0 == 2) ((F_impl_isId (e1, ())).bind fun y30 => cond y30.1 (cond (e2 == 0) (cond (e3 == 0) (some ((e4 == 0), ())) (some (false, ()))) (some (false, ()))) (cond (e0 == 8) (cond (e1 == 0) (cond (e2 == 0) (cond (e3 == 0) (some ((e4 == 0), ())) (some (false, ()))) (some (false, ()))) (some (false, ()))) (some (false, ())))) (cond (e0 == 7) ((F_impl_isId (e1, ())).bind fun y31 => cond y31.1 (cond (e2 == 0) (cond (e3 == 0) (some ((e4 == 0), ())) (some (false, ()))) (some (false, ()))) (cond (e0 == 8) (cond (e1 == 0) (cond (e2 == 0) (cond (e3 == 0) (some ((e4 == 0), ())) (some (false, ()))) (some (false, ()))) (some (false, ()))) (some (false, ())))) (some (false, ()))))))))))
theorem ztop (k0 : Nat) (e0 e1 e2 e3 e4 : Int) : runFn Tryd.prog ztbl zcfg k0 58 ins_impl_EditRight outs_impl_EditRight [] (e0, e1, e2, e3, e4, ()) = T  e0 e1 e2 e3 e4 := by kernel_rfl
noncomputable def _root_.Go.Rv.F_impl_EditRight : U0 → Option (Bool × Unit) := fun x => T x.1 x.2.1 x.2.2.1 x.2.2.2.1 x.2.2.2.2.1
noncomputable abbrev _root_.Go.Rv.S_impl_EditRight : Summ := ⟨ins_impl_EditRight, outs_impl_EditRight, F_impl_EditRight, []⟩
theorem _root_.Go.Rv.ok_impl_EditRight : SumOK Dr Tryd.prog 58 S_impl_EditRight := runFn_ok (by kernel_rfl) (tblL_ok (.cons ok_impl_isId (.cons ok_impl_isWant (.cons ok_impl_isWeight .nil)))) (by kernel_rfl) fun x y h => ⟨zcfg, 0, (ztop 0 x.1 x.2.1 x.2.2.1 x.2.2.2.1 x.2.2.2.2.1).trans h⟩
end impl_EditRight
abbrev ins_impl_isEdit : List Par := [.v true ct0]
abbrev outs_impl_isEdit : List (Bool × List CT) := [(false, [CT.bool])]
namespace impl_isEdit
/-! ### loop.example/g00095/impl.isEdit (function 48) -/
noncomputable def ztbl : Tbl := tblL [(58, [], S_impl_EditRight)]
noncomputable def zbody : Code := ((Tryd.prog.funcs[48]?).bind (·.body)).getD .skip
def zcfg : Nat → List Nat × List Nat := fun k => ([], [])
noncomputable def T  (e0 e1 e2 e3 e4 : Int) : Option (Bool × Unit) := (F_impl_EditRight (e0, e1, e2, e3, e4, ())).bind fun y1 => cond y1.1 (cond (e0 != 6) (some (true, ())) (some ((decide (e2 < e1)), ()))) (some (false, ()))
theorem ztop (k0 : Nat) (e0 e1 e2 e3 e4 : Int) : runFn Tryd.prog ztbl zcfg k0 48 ins_impl_isEdit outs_impl_isEdit [] (e0, e1, e2, e3, e4, ()) = T  e0 e1 e2 e3 e4 := by kernel_rfl
noncomputable def _root_.Go.Rv.F_impl_isEdit : U0 → Option (Bool × Unit) := fun x => T x.1 x.2.1 x.2.2.1 x.2.2.2.1 x.2.2.2.2.1
noncomputable abbrev _root_.Go.Rv.S_impl_isEdit : Summ := ⟨ins_impl_isEdit, outs_impl_isEdit, F_impl_isEdit, []⟩
theorem _root_.Go.Rv.ok_impl_isEdit : SumOK Dr Tryd.prog 48 S_impl_isEdit := runFn_ok (by kernel_rfl) (tblL_ok (.cons ok_impl_EditRight .nil)) (by kernel_rfl) fun x y h => ⟨zcfg, 0, (ztop 0 x.1 x.2.1 x.2.2.1 x.2.2.2.1 x.2.2.2.2.1).trans h⟩
end impl_isEdit
abbrev ins_impl_Op_edit : List Par := [.v true ct0]
abbrev outs_impl_Op_edit : List (Bool × List CT) := [(true, ct0)]
namespace impl_Op_edit
/-! ### (loop.example/g00095/impl.Op).edit (function 49) -/
noncomputable def ztbl : Tbl := tblL []
noncomputable def zbody : Code := ((Tryd.prog.funcs[49]?).bind (·.body)).getD .skip
def zcfg : Nat → List Nat × List Nat := fun k => ([], [])
noncomputable def T  (o0 o1 o2 o3 o4 : Int) : Option (U0) := cond (o0 == 3) (some (8, o1, o2, o3, o4, ())) (cond (o0 == 6) (some (6, o1, o2, o3, o4, ())) (cond (o0 == 7) (some (7, o1, o2, o3, o4, ())) (some (0, o1, o2, o3, o4, ()))))
theorem ztop (k0 : Nat) (o0 o1 o2 o3 o4 : Int) : runFn Tryd.prog ztbl zcfg k0 49 ins_impl_Op_edit outs_impl_Op_edit [] (o0, o1, o2, o3, o4, ()) = T  o0 o1 o2 o3 o4 := by kernel_rfl
noncomputable def _root_.Go.Rv.F_impl_Op_edit : U0 → Option (U0) := fun x => T x.1 x.2.1 x.2.2.1 x.2.2.2.1 x.2.2.2.2.1
noncomputable abbrev _root_.Go.Rv.S_impl_Op_edit : Summ := ⟨ins_impl_Op_edit, outs_impl_Op_edit, F_impl_Op_edit, []⟩
theorem _root_.Go.Rv.ok_impl_Op_edit : SumOK Dr Tryd.prog 49 S_impl_Op_edit := runFn_ok (by kernel_rfl) (tblL_ok .nil) (by kernel_rfl) fun x y h => ⟨zcfg, 0, (ztop 0 x.1 x.2.1 x.2.2.1 x.2.2.2.1 x.2.2.2.2.1).trans h⟩
end impl_Op_edit
abbrev ins_impl_OpRight : List Par := [.v true ct0]
abbrev outs_impl_OpRight : List (Bool × List CT) := [(false, [CT.bool])]
namespace impl_OpRight
/-! ### loop.example/g00095/impl.OpRight (function 24) -/
noncomputable def ztbl : Tbl := tblL [(45, [], S_impl_isId), (46, [], S_impl_isWant), (47, [], S_impl_isWeight), (48, [], S_impl_isEdit), (49, [], S_impl_Op_edit)]
noncomputable def zbody : Code := ((Tryd.prog.funcs[24]?).bind (·.body)).getD .skip
def zcfg : Nat → List Nat × List Nat := fun k => ([], [])
noncomputable def T  (o0 o1 o2 o3 o4 : Int) : Option (Bool × Unit) := cond (o0 == 1) ((F_impl_isId (o1, ())).bind fun y1 => cond y1.1 (cond (o2 == 0) ((F_impl_isWant (o3, ())).bind fun y2 => cond y2.1 ((F_impl_isWeight (o4, ())).bind fun y3 => some (y3.1, ())) (some (false, ()))) ((F_impl_isId (o2, ())).bind fun y4 => cond y4.1 ((F_impl_isWant (o3, ())).bind fun y5 => cond y5.1 ((F_impl_isWeight (o4, ())).bind fun y6 => some (y6.1, ())) (some (false, ()))) (some (false, ())))) (some (false, ()))) (cond (o0 == 2) ((F_impl_isId (o1, ())).bind fun y7 => cond y7.1 (some (((o0 == 2) && ((o1 == o1) && ((o2 == 0) && ((o3 == 0) && ((o4 == 0) && true))))), ())) (some (false, ()))) (cond (o0 == 4) (some (((o0 == o0) && ((o1 == 0) && ((o2 == 0) && ((o3 == 0) && ((o4 == 0) && true))))), ())) (cond (o0 == 5) (some (((o0 == o0) && ((o1 == 0) && ((o2 == 0) && ((o3 == 0) && ((o4 == 0) && true))))), ())) ((F_impl_Op_edit (o0, o1, o2, o3, o4, ())).bind fun y8 => (F_impl_isEdit (y8.1, y8.2.1, y8.2.2.1, y8.2.2.2.1, y8.2.2.2.2.1, ())).bind fun y9 => some (y9.1, ())))))
theorem ztop (k0 : Nat) (o0 o1 o2 o3 o4 : Int) : runFn Tryd.prog ztbl zcfg k0 24 ins_impl_OpRight outs_impl_OpRight [] (o0, o1, o2, o3, o4, ()) = T  o0 o1 o2 o3 o4 := by kernel_rfl
noncomputable def _root_.Go.Rv.F_impl_OpRight : U0 → Option (Bool × Unit) := fun x => T x.1 x.2.1 x.2.2.1 x.2.2.2.1 x.2.2.2.2.1
noncomputable abbrev _root_.Go.Rv.S_impl_OpRight : Summ := ⟨ins_impl_OpRight, outs_impl_OpRight, F_impl_OpRight, []⟩
theorem _root_.Go.Rv.ok_impl_OpRight : SumOK Dr Tryd.prog 24 S_impl_OpRight := runFn_ok (by kernel_rfl) (tblL_ok (.cons ok_impl_isId (.cons ok_impl_isWant (.cons ok_impl_isWeight (.cons ok_impl_isEdit (.cons ok_impl_Op_edit .nil)))))) (by kernel_rfl) fun x y h => ⟨zcfg, 0, (ztop 0 x.1 x.2.1 x.2.2.1 x.2.2.2.1 x.2.2.2.2.1).trans h⟩
end impl_OpRight
abbrev ins_impl_opWords : List Par := []
abbrev outs_impl_opWords : List (Bool × List CT) := [(false, [CT.sl [CT.str]]), (false, [CT.sl [CT.int .i64]])]
namespace impl_opWords
/-! ### loop.example/g00095/impl.opWords (function 50) -/
noncomputable def ztbl : Tbl := tblL []
noncomputable def zbody : Code := ((Tryd.prog.funcs[50]?).bind (·.body)).getD .skip
def zcfg : Nat → List Nat × List Nat := fun k => ([], [])
noncomputable def T  (_u : Unit) : Option ((List (ByteArray × Unit)) × (List (Int × Unit)) × Unit) := some ([((strLit [103, 101, 116]), ()), ((strLit [114, 101, 108, 101, 97, 115, 101]), ()), ((strLit [99, 97, 112]), ()), ((strLit [116, 105, 99, 107]), ()), ((strLit [114, 101, 115, 116, 97, 114, 116]), ()), ((strLit [103, 114, 111, 117, 112]), ()), ((strLit [100, 114, 111, 112]), ())], [(4, ()), (1, ()), (2, ()), (0, ()), (0, ()), (4, ()), (1, ())], ())
theorem ztop (k0 : Nat)  : runFn Tryd.prog ztbl zcfg k0 50 ins_impl_opWords outs_impl_opWords [] (()) = T  () := by kernel_rfl
noncomputable def _root_.Go.Rv.F_impl_opWords : Unit → Option ((List (ByteArray × Unit)) × (List (Int × Unit)) × Unit) := fun x => T ()
noncomputable abbrev _root_.Go.Rv.S_impl_opWords : Summ := ⟨ins_impl_opWords, outs_impl_opWords, F_impl_opWords, []⟩
theorem _root_.Go.Rv.ok_impl_opWords : SumOK Dr Tryd.prog 50 S_impl_opWords := runFn_ok (by kernel_rfl) (tblL_ok .nil) (by kernel_rfl) fun x y h => ⟨zcfg, 0, (ztop 0 ).trans h⟩
end impl_opWords
abbrev ins_impl_dec : List Par := [.v false [CT.int .i64]]
abbrev outs_impl_dec : List (Bool × List CT) := [(false, [CT.str])]
namespace impl_dec
/-! ### loop.example/g00095/impl.dec (function 59) -/
noncomputable def ztbl : Tbl := tblL [(63, [], ⟨ins_strconv_FormatInt, outs_strconv_FormatInt, F_strconv_FormatInt, []⟩)]
noncomputable def zbody : Code := ((Tryd.prog.funcs[59]?).bind (·.body)).getD .skip
def zcfg : Nat → List Nat × List Nat := fun k => ([], [])
noncomputable def T  (n : Int) : Option (ByteArray × Unit) := (F_strconv_FormatInt (n, 10, ())).bind fun y1 => some (y1.1, ())
theorem ztop (k0 : Nat) (n : Int) : runFn Tryd.prog ztbl zcfg k0 59 ins_impl_dec outs_impl_dec [] (n, ()) = T  n := by kernel_rfl
noncomputable def _root_.Go.Rv.F_impl_dec : Int × Unit → Option (ByteArray × Unit) := fun x => T x.1
noncomputable abbrev _root_.Go.Rv.S_impl_dec : Summ := ⟨ins_impl_dec, outs_impl_dec, F_impl_dec, []⟩
theorem _root_.Go.Rv.ok_impl_dec : SumOK KN Tryd.prog 59 S_impl_dec := runFn_ok (by kernel_rfl) (tblL_ok (.cons ok_strconv_FormatInt .nil)) (by kernel_rfl) fun x y h => ⟨zcfg, 0, (ztop 0 x.1).trans h⟩
end impl_dec
abbrev ins_impl_spaced : List Par := [.v false [CT.sl [CT.int .i64]]]
abbrev outs_impl_spaced : List (Bool × List CT) := [(false, [CT.str])]
namespace impl_spaced
/-! ### loop.example/g00095/impl.spaced (function 51) -/
noncomputable def ztbl : Tbl := tblL [(59, [], S_impl_dec)]
noncomputable def zbody : Code := ((Tryd.prog.funcs[51]?).bind (·.body)).getD .skip
def zcfg : Nat → List Nat × List Nat := fun k => if k = 3 then ([3, 6, 7, 8], [3]) else ([], [])
noncomputable def R0 {R : Type} (nx0 : (ByteArray → (List (Int × Unit)) → Int → Int → Option R)) (ex0 : (ByteArray → Option R)) (out : ByteArray) (t6x : List (Int × Unit)) (t7x t8x : Int) : Option R := cond (decide (t8x < t7x)) (if 0 ≤ t8x ∧ t8x < (t6x.length : Int) then cond (decide (t8x > 0)) (if out.size + (strLit [32]).size ≤ 9223372036854775807 then (F_impl_dec ((rd (0, ()) t6x t8x).1, ())).bind fun y1 => if (out ++ (strLit [32])).size + y1.1.size ≤ 9223372036854775807 then nx0 ((out ++ (strLit [32])) ++ y1.1) t6x t7x (w64 (t8x + 1)) else none else none) ((F_impl_dec ((rd (0, ()) t6x t8x).1, ())).bind fun y2 => if out.size + y2.1.size ≤ 9223372036854775807 then nx0 (out ++ y2.1) t6x t7x (w64 (t8x + 1)) else none) else none) (ex0 out)
noncomputable def A0  (list : List (Int × Unit)) (out : ByteArray) : Option (ByteArray × Unit) := some (out, ())
noncomputable def T (lo0 : (ByteArray → (List (Int × Unit)) → Int → Int → Option (ByteArray × Unit))) (list : List (Int × Unit)) : Option (ByteArray × Unit) := lo0 (strLit []) list (list.length : Int) 0
noncomputable def zst0 {R : Type} (k0 : Nat) : Env → List Ob → Kont R → Option R := fun env ob K => runCode Tryd.prog ztbl 23 0 zcfg k0 (codeAt [1, 1, 0, 1, 0, 0] zbody) env ob K
noncomputable def K0 {R : Type} (k0 : Nat) (K : Kont R) : Kont R := blockK 0 (seqK (fun env ob => runCode Tryd.prog ztbl 23 0 zcfg k0 (codeAt [1, 1, 1] zbody) env ob (K)) (K))
noncomputable def L0 {R : Type} (k0 k : Nat) (K : Kont R) (out : ByteArray) (t6x : List (Int × Unit)) (t7x t8x : Int) : Option R := iter 0 [3, 6, 7, 8] [3] (zst0 k0) k [(3, .str out), (6, .sl [CT.int .i64] t6x), (7, .int .i64 t7x), (8, .int .i64 t8x)] [] K
theorem zs0 {R : Type} (k0 k : Nat) (K : Kont R) (out : ByteArray) (t6x : List (Int × Unit)) (t7x t8x : Int) : L0 k0 (k + 1) K out t6x t7x t8x = R0 (L0 k0 k K) (fun out => K (.exit 0) [(3, .str out)] []) out t6x t7x t8x := by kernel_rfl
theorem za0 (k0 : Nat) (list : List (Int × Unit)) (out : ByteArray) : K0 (R := (ByteArray × Unit)) k0 (finK Tryd.prog [.tmp 2] ins_impl_spaced outs_impl_spaced (list, ())) (.exit 0) [(3, .str out)] [] = A0  list out := by kernel_rfl
theorem ztop (k0 : Nat) (list : List (Int × Unit)) : runFn Tryd.prog ztbl zcfg k0 51 ins_impl_spaced outs_impl_spaced [] (list, ()) = T (L0 (R := (ByteArray × Unit)) k0 k0 (K0 (R := (ByteArray × Unit)) k0 ((finK Tryd.prog [.tmp 2] ins_impl_spaced outs_impl_spaced (list, ()))))) list := by kernel_rfl
noncomputable def G0 {R : Type} (k0 : Nat) (hx0 : (ByteArray → Option R)) : Nat → ByteArray → (List (Int × Unit)) → Int → Int → Option R
 | 0, _, _, _, _ => none
 | k + 1, out, t6x, t7x, t8x => R0 (G0 k0 hx0 k) hx0 out t6x t7x t8x
theorem zg0 {R : Type} (k0 : Nat) (K : Kont R) : ∀ k : Nat, L0 k0 k K = G0 k0 (fun out => K (.exit 0) [(3, .str out)] []) k := by
 intro k
 induction k with
 | zero => funext out t6x t7x t8x; rfl
 | succ k ih => funext out t6x t7x t8x; rw [zs0, G0]; (try simp only [ih]); try rfl
noncomputable def FF (k0 : Nat) (list : List (Int × Unit)) : Option (ByteArray × Unit) := T (G0 k0 (A0  list) k0) list
theorem zrun (k0 : Nat) (list : List (Int × Unit)) : runFn Tryd.prog ztbl zcfg k0 51 ins_impl_spaced outs_impl_spaced [] (list, ()) = FF k0 list := by
 rw [ztop, FF]; (try simp only [zg0, za0]); try rfl
noncomputable def _root_.Go.Rv.F_impl_spaced : (List (Int × Unit)) × Unit → Option (ByteArray × Unit) := fun x => (fun (list : List (Int × Unit)) => FF (300 + list.length) list) x.1
noncomputable abbrev _root_.Go.Rv.S_impl_spaced : Summ := ⟨ins_impl_spaced, outs_impl_spaced, F_impl_spaced, []⟩
theorem _root_.Go.Rv.ok_impl_spaced : SumOK KN Tryd.prog 51 S_impl_spaced := runFn_ok (by kernel_rfl) (tblL_ok (.cons ok_impl_dec .nil)) (by kernel_rfl) fun x y h => ⟨zcfg, _, (zrun _ x.1).trans h⟩
end impl_spaced
abbrev ins_impl_Op_text : List Par := [.v true ct0]
abbrev outs_impl_Op_text : List (Bool × List CT) := [(false, [CT.str])]
namespace impl_Op_text
/-! ### (loop.example/g00095/impl.Op).text (function 25) -/
noncomputable def ztbl : Tbl := tblL [(50, [], S_impl_opWords), (51, [], S_impl_spaced)]
noncomputable def zbody : Code := ((Tryd.prog.funcs[25]?).bind (·.body)).getD .skip
def zcfg : Nat → List Nat × List Nat := fun k => ([], [])
noncomputable def T  (o0 o1 o2 o3 o4 : Int) : Option (ByteArray × Unit) := (F_impl_opWords (())).bind fun y1 => if 0 ≤ (w64 (o0 - 1)) ∧ (w64 (o0 - 1)) < (y1.1.length : Int) then if 0 ≤ (w64 (o0 - 1)) ∧ (w64 (o0 - 1)) < (y1.2.1.length : Int) then if 0 ≤ (y1.2.1.getD (((w64 (o0 - 1))).toNat) (0, ())).1 ∧ (y1.2.1.getD (((w64 (o0 - 1))).toNat) (0, ())).1 ≤ ([(o1, ()), (o2, ()), (o3, ()), (o4, ())].length : Int) then cond (o0 == 3) (cond ((y1.2.1.getD (((w64 (o0 - 1))).toNat) (0, ())).1 == 0) (some ((y1.1.getD (((w64 (o0 - 1))).toNat) (ByteArray.empty, ())).1, ())) (if ((y1.1.getD (((w64 (o0 - 1))).toNat) (ByteArray.empty, ())).1).size + (strLit [32]).size ≤ 9223372036854775807 then (F_impl_spaced ([(o1, ()), (o3, ())], ())).bind fun y2 => if ((y1.1.getD (((w64 (o0 - 1))).toNat) (ByteArray.empty, ())).1 ++ (strLit [32])).size + y2.1.size ≤ 9223372036854775807 then some ((((y1.1.getD (((w64 (o0 - 1))).toNat) (ByteArray.empty, ())).1 ++ (strLit [32])) ++ y2.1), ()) else none else none)) (cond ((y1.2.1.getD (((w64 (o0 - 1))).toNat) (0, ())).1 == 0) (some ((y1.1.getD (((w64 (o0 - 1))).toNat) (ByteArray.empty, ())).1, ())) (if ((y1.1.getD (((w64 (o0 - 1))).toNat) (ByteArray.empty, ())).1).size + (strLit [32]).size ≤ 9223372036854775807 then if 0 + (((y1.2.1.getD (((w64 (o0 - 1))).toNat) (0, ())).1).toNat - 0) ≤ [(o1, ()), (o2, ()), (o3, ()), (o4, ())].length then (F_impl_spaced ((([(o1, ()), (o2, ()), (o3, ()), (o4, ())].drop 0).take (((y1.2.1.getD (((w64 (o0 - 1))).toNat) (0, ())).1).toNat - 0)), ())).bind fun y3 => if ((y1.1.getD (((w64 (o0 - 1))).toNat) (ByteArray.empty, ())).1 ++ (strLit [32])).size + y3.1.size ≤ 9223372036854775807 then some ((((y1.1.getD (((w64 (o0 - 1))).toNat) (ByteArray.empty, ())).1 ++ (strLit [32])) ++ y3.1), ()) else none else none else none)) else none else none else none
theorem ztop (k0 : Nat) (o0 o1 o2 o3 o4 : Int) : runFn Tryd.prog ztbl zcfg k0 25 ins_impl_Op_text outs_impl_Op_text [] (o0, o1, o2, o3, o4, ()) = T  o0 o1 o2 o3 o4 := by kernel_rfl
noncomputable def _root_.Go.Rv.F_impl_Op_text : U0 → Option (ByteArray × Unit) := fun x => T x.1 x.2.1 x.2.2.1 x.2.2.2.1 x.2.2.2.2.1
noncomputable abbrev _root_.Go.Rv.S_impl_Op_text : Summ := ⟨ins_impl_Op_text, outs_impl_Op_text, F_impl_Op_text, []⟩
theorem _root_.Go.Rv.ok_impl_Op_text : SumOK KN Tryd.prog 25 S_impl_Op_text := runFn_ok (by kernel_rfl) (tblL_ok (.cons ok_impl_opWords (.cons ok_impl_spaced .nil))) (by kernel_rfl) fun x y h => ⟨zcfg, 0, (ztop 0 x.1 x.2.1 x.2.2.1 x.2.2.2.1 x.2.2.2.2.1).trans h⟩
end impl_Op_text
abbrev ins_impl_OpText : List Par := [.v true ct0]
abbrev outs_impl_OpText : List (Bool × List CT) := [(false, [CT.str])]
namespace impl_OpText
/-! ### loop.example/g00095/impl.OpText (function 9) -/
noncomputable def ztbl : Tbl := tblL [(24, [], S_impl_OpRight), (25, [], S_impl_Op_text)]
noncomputable def zbody : Code := ((Tryd.prog.funcs[9]?).bind (·.body)).getD .skip
def zcfg : Nat → List Nat × List Nat := fun k => ([], [])
noncomputable def T  (o0 o1 o2 o3 o4 : Int) : Option (ByteArray × Unit) := (F_impl_OpRight (o0, o1, o2, o3, o4, ())).bind fun y1 => cond (!y1.1) (some ((strLit []), ())) ((F_impl_Op_text (o0, o1, o2, o3, o4, ())).bind fun y2 => some (y2.1, ()))
theorem ztop (k0 : Nat) (o0 o1 o2 o3 o4 : Int) : runFn Tryd.prog ztbl zcfg k0 9 ins_impl_OpText outs_impl_OpText [] (o0, o1, o2, o3, o4, ()) = T  o0 o1 o2 o3 o4 := by kernel_rfl
noncomputable def _root_.Go.Rv.F_impl_OpText : U0 → Option (ByteArray × Unit) := fun x => T x.1 x.2.1 x.2.2.1 x.2.2.2.1 x.2.2.2.2.1
noncomputable abbrev _root_.Go.Rv.S_impl_OpText : Summ := ⟨ins_impl_OpText, outs_impl_OpText, F_impl_OpText, []⟩
theorem _root_.Go.Rv.ok_impl_OpText : SumOK KN Tryd.prog 9 S_impl_OpText := runFn_ok (by kernel_rfl) (tblL_ok (.cons ok_impl_OpRight (.cons ok_impl_Op_text .nil))) (by kernel_rfl) fun x y h => ⟨zcfg, 0, (ztop 0 x.1 x.2.1 x.2.2.1 x.2.2.2.1 x.2.2.2.2.1).trans h⟩
end impl_OpText
abbrev ins_laws_FnExactOpText : List Par := [.v true ct0]
abbrev outs_laws_FnExactOpText : List (Bool × List CT) := [(false, [CT.bool])]
namespace laws_FnExactOpText
/-! ### loop.example/g00095/laws.FnExactOpText (function 3) -/
noncomputable def ztbl : Tbl := tblL [(7, [], S_spec_OpText), (8, [], S_laws_toOp), (9, [], S_impl_OpText)]
noncomputable def zbody : Code := ((Tryd.prog.funcs[3]?).bind (·.body)).getD .skip
def zcfg : Nat → List Nat × List Nat := fun k => ([], [])
noncomputable def T  (aO0 aO1 aO2 aO3 aO4 : Int) : Option (Bool × Unit) := (F_laws_toOp (aO0, aO1, aO2, aO3, aO4, ())).bind fun y1 => (F_spec_OpText (y1.1, y1.2.1, y1.2.2.1, y1.2.2.2.1, y1.2.2.2.2.1, ())).bind fun y2 => (F_laws_toOp (aO0, aO1, aO2, aO3, aO4, ())).bind fun y3 => (F_impl_OpText (y3.1, y3.2.1, y3.2.2.1, y3.2.2.2.1, y3.2.2.2.2.1, ())).bind fun y4 => cond (!seq y4.1 y2.1) (some (false, ())) (some (true, ()))
theorem ztop (k0 : Nat) (aO0 aO1 aO2 aO3 aO4 : Int) : runFn Tryd.prog ztbl zcfg k0 3 ins_laws_FnExactOpText outs_laws_FnExactOpText [] (aO0, aO1, aO2, aO3, aO4, ()) = T  aO0 aO1 aO2 aO3 aO4 := by kernel_rfl
noncomputable def _root_.Go.Rv.F_laws_FnExactOpText : U0 → Option (Bool × Unit) := fun x => T x.1 x.2.1 x.2.2.1 x.2.2.2.1 x.2.2.2.2.1
noncomputable abbrev _root_.Go.Rv.S_laws_FnExactOpText : Summ := ⟨ins_laws_FnExactOpText, outs_laws_FnExactOpText, F_laws_FnExactOpText, []⟩
theorem _root_.Go.Rv.ok_laws_FnExactOpText : SumOK KN Tryd.prog 3 S_laws_FnExactOpText := runFn_ok (by kernel_rfl) (tblL_ok (.cons ok_spec_OpText (.cons ok_laws_toOp (.cons ok_impl_OpText .nil)))) (by kernel_rfl) fun x y h => ⟨zcfg, 0, (ztop 0 x.1 x.2.1 x.2.2.1 x.2.2.2.1 x.2.2.2.2.1).trans h⟩
end laws_FnExactOpText
abbrev ins_laws_szOpS : List Par := [.v false [CT.sl ct0], .v false [CT.int .i64]]
abbrev outs_laws_szOpS : List (Bool × List CT) := [(false, [CT.int .i64])]
namespace laws_szOpS
/-! ### loop.example/g00095/laws.szOpS (function 10) -/
noncomputable def ztbl : Tbl := tblL []
noncomputable def zbody : Code := ((Tryd.prog.funcs[10]?).bind (·.body)).getD .skip
def zcfg : Nat → List Nat × List Nat := fun k => ([], [])
noncomputable def T  (a : List U0) (left : Int) : Option (Int × Unit) := cond (decide ((w64 (left - (a.length : Int))) < 0)) (some ((-1), ())) (some ((w64 (left - (a.length : Int))), ()))
theorem ztop (k0 : Nat) (a : List U0) (left : Int) : runFn Tryd.prog ztbl zcfg k0 10 ins_laws_szOpS outs_laws_szOpS [] (a, left, ()) = T  a left := by kernel_rfl
noncomputable def _root_.Go.Rv.F_laws_szOpS : (List U0) × Int × Unit → Option (Int × Unit) := fun x => T x.1 x.2.1
noncomputable abbrev _root_.Go.Rv.S_laws_szOpS : Summ := ⟨ins_laws_szOpS, outs_laws_szOpS, F_laws_szOpS, []⟩
theorem _root_.Go.Rv.ok_laws_szOpS : SumOK Dr Tryd.prog 10 S_laws_szOpS := runFn_ok (by kernel_rfl) (tblL_ok .nil) (by kernel_rfl) fun x y h => ⟨zcfg, 0, (ztop 0 x.1 x.2.1).trans h⟩
end laws_szOpS
abbrev ins_spec_l10Length : List Par := [.v false [CT.int .i64]]
abbrev outs_spec_l10Length : List (Bool × List CT) := [(false, [CT.bool])]
namespace spec_l10Length
/-! ### loop.example/g00095/spec.l10Length (function 26) -/
noncomputable def ztbl : Tbl := tblL []
noncomputable def zbody : Code := ((Tryd.prog.funcs[26]?).bind (·.body)).getD .skip
def zcfg : Nat → List Nat × List Nat := fun k => ([], [])
noncomputable def T  (n : Int) : Option (Bool × Unit) := cond (decide (n ≥ 1)) (some ((decide (n ≤ 1000)), ())) (some (false, ()))
theorem ztop (k0 : Nat) (n : Int) : runFn Tryd.prog ztbl zcfg k0 26 ins_spec_l10Length outs_spec_l10Length [] (n, ()) = T  n := by kernel_rfl
noncomputable def _root_.Go.Rv.F_spec_l10Length : Int × Unit → Option (Bool × Unit) := fun x => T x.1
noncomputable abbrev _root_.Go.Rv.S_spec_l10Length : Summ := ⟨ins_spec_l10Length, outs_spec_l10Length, F_spec_l10Length, []⟩
theorem _root_.Go.Rv.ok_spec_l10Length : SumOK Dr Tryd.prog 26 S_spec_l10Length := runFn_ok (by kernel_rfl) (tblL_ok .nil) (by kernel_rfl) fun x y h => ⟨zcfg, 0, (ztop 0 x.1).trans h⟩
end spec_l10Length
abbrev ins_spec_JournalText : List Par := [.v false [CT.int .i64], .v false [CT.int .i64], .v false [CT.sl ct0]]
abbrev outs_spec_JournalText : List (Bool × List CT) := [(false, [CT.str])]
namespace spec_JournalText
/-! ### loop.example/g00095/spec.JournalText (function 11) -/
noncomputable def ztbl : Tbl := tblL [(7, [], S_spec_OpText), (22, [], S_spec_l10Op), (23, [], S_spec_l01Dec), (26, [], S_spec_l10Length), (27, [], S_spec_l02Want)]
noncomputable def zbody : Code := ((Tryd.prog.funcs[11]?).bind (·.body)).getD .skip
def zcfg : Nat → List Nat × List Nat := fun k => if k = 5 then ([2, 7, 8], [6, 7]) else ([], [])
noncomputable def R0 {R : Type} (nx0 : ((List U0) → ByteArray → Int → Option R)) (ex0 : (ByteArray → ByteArray → Option R)) (ex1 : (ByteArray → Option R)) (list2 : List U0) (t : ByteArray) (i : Int) : Option R := cond (decide (i < (list2.length : Int))) (if 0 ≤ i ∧ i < (list2.length : Int) then (F_spec_l10Op ((rd (0, 0, 0, 0, 0, ()) list2 i).1, (rd (0, 0, 0, 0, 0, ()) list2 i).2.1, (rd (0, 0, 0, 0, 0, ()) list2 i).2.2.1, (rd (0, 0, 0, 0, 0, ()) list2 i).2.2.2.1, (rd (0, 0, 0, 0, 0, ()) list2 i).2.2.2.2.1, ())).bind fun y1 => cond (!y1.1) (ex0 (strLit []) t) (if 0 ≤ i ∧ i < (list2.length : Int) then (F_spec_OpText ((rd (0, 0, 0, 0, 0, ()) list2 i).1, (rd (0, 0, 0, 0, 0, ()) list2 i).2.1, (rd (0, 0, 0, 0, 0, ()) list2 i).2.2.1, (rd (0, 0, 0, 0, 0, ()) list2 i).2.2.2.1, (rd (0, 0, 0, 0, 0, ()) list2 i).2.2.2.2.1, ())).bind fun y2 => if t.size + y2.1.size ≤ 9223372036854775807 then if (t ++ y2.1).size + (strLit [10]).size ≤ 9223372036854775807 then nx0 list2 ((t ++ y2.1) ++ (strLit [10])) (w64 (i + 1)) else none else none else none) else none) (ex1 t)
noncomputable def A0  (length cap : Int) (list : List U0) (t6x t : ByteArray) : Option (ByteArray × Unit) := some (t6x, ())
noncomputable def A1  (length cap : Int) (list : List U0) (t : ByteArray) : Option (ByteArray × Unit) := some (t, ())
noncomputable def T (lo0 : ((List U0) → ByteArray → Int → Option (ByteArray × Unit))) (length cap : Int) (list : List U0) : Option (ByteArray × Unit) := (F_spec_l10Length (length, ())).bind fun y1 => cond (!y1.1) (some ((strLit []), ())) ((F_spec_l02Want (cap, ())).bind fun y2 => cond (!y2.1) (some ((strLit []), ())) (cond (decide ((list.length : Int) > 300)) (some ((strLit []), ())) ((F_spec_l01Dec (length, ())).bind fun y3 => if (strLit [115, 101, 114, 118, 101, 114, 32]).size + y3.1.size ≤ 9223372036854775807 then if ((strLit [115, 101, 114, 118, 101, 114, 32]) ++ y3.1).size + (strLit [32]).size ≤ 9223372036854775807 then (F_spec_l01Dec (cap, ())).bind fun y4 => if (((strLit [115, 101, 114, 118, 101, 114, 32]) ++ y3.1) ++ (strLit [32])).size + y4.1.size ≤ 9223372036854775807 then if ((((strLit [115, 101, 114, 118, 101, 114, 32]) ++ y3.1) ++ (strLit [32])) ++ y4.1).size + (strLit [10]).size ≤ 9223372036854775807 then lo0 list (((((strLit [115, 101, 114, 118, 101, 114, 32]) ++ y3.1) ++ (strLit [32])) ++ y4.1) ++ (strLit [10])) 0 else none else none else none else none)))
noncomputable def zst0 {R : Type} (k0 : Nat) : Env → List Ob → Kont R → Option R := fun env ob K => runCode Tryd.prog ztbl 51 0 zcfg k0 (codeAt [1, 1, 1, 0, 1, 0, 0] zbody) env ob K
noncomputable def K0 {R : Type} (k0 : Nat) (K : Kont R) : Kont R := blockK 0 (seqK (fun env ob => runCode Tryd.prog ztbl 51 0 zcfg k0 (codeAt [1, 1, 1, 1] zbody) env ob (K)) (K))
noncomputable def L0 {R : Type} (k0 k : Nat) (K : Kont R) (list2 : List U0) (t : ByteArray) (i : Int) : Option R := iter 0 [2, 7, 8] [6, 7] (zst0 k0) k [(2, .sl ct0 list2), (7, .str t), (8, .int .i64 i)] [] K
theorem zs0 {R : Type} (k0 k : Nat) (K : Kont R) (list2 : List U0) (t : ByteArray) (i : Int) : L0 k0 (k + 1) K list2 t i = R0 (L0 k0 k K) (fun t6x t => K .ret [(6, .str t6x), (7, .str t)] []) (fun t => K (.exit 0) [(6, .undef), (7, .str t)] []) list2 t i := by kernel_rfl
theorem za0 (k0 : Nat) (length cap : Int) (list : List U0) (t6x t : ByteArray) : K0 (R := (ByteArray × Unit)) k0 (finK Tryd.prog [.tmp 6] ins_spec_JournalText outs_spec_JournalText (length, cap, list, ())) .ret [(6, .str t6x), (7, .str t)] [] = A0  length cap list t6x t := by kernel_rfl
theorem za1 (k0 : Nat) (length cap : Int) (list : List U0) (t : ByteArray) : K0 (R := (ByteArray × Unit)) k0 (finK Tryd.prog [.tmp 6] ins_spec_JournalText outs_spec_JournalText (length, cap, list, ())) (.exit 0) [(6, .undef), (7, .str t)] [] = A1  length cap list t := by kernel_rfl
theorem ztop (k0 : Nat) (length cap : Int) (list : List U0) : runFn Tryd.prog ztbl zcfg k0 11 ins_spec_JournalText outs_spec_JournalText [] (length, cap, list, ()) = T (L0 (R := (ByteArray × Unit)) k0 k0 (K0 (R := (ByteArray × Unit)) k0 ((finK Tryd.prog [.tmp 6] ins_spec_JournalText outs_spec_JournalText (length, cap, list, ()))))) length cap list := by kernel_rfl
noncomputable def G0 {R : Type} (k0 : Nat) (hx0 : (ByteArray → ByteArray → Option R)) (hx1 : (ByteArray → Option R)) : Nat → (List U0) → ByteArray → Int → Option R
 | 0, _, _, _ => none
 | k + 1, list2, t, i => R0 (G0 k0 hx0 hx1 k) hx0 hx1 list2 t i
theorem zg0 {R : Type} (k0 : Nat) (K : Kont R) : ∀ k : Nat, L0 k0 k K = G0 k0 (fun t6x t => K .ret [(6, .str t6x), (7, .str t)] []) (fun t => K (.exit 0) [(6, .undef), (7, .str t)] []) k := by
 intro k
 induction k with
 | zero => funext list2 t i; rfl
 | succ k ih => funext list2 t i; rw [zs0, G0]; (try simp only [ih]); try rfl
noncomputable def FF (k0 : Nat) (length cap : Int) (list : List U0) : Option (ByteArray × Unit) := T (G0 k0 (A0  length cap list) (A1  length cap list) k0) length cap list
theorem zrun (k0 : Nat) (length cap : Int) (list : List U0) : runFn Tryd.prog ztbl zcfg k0 11 ins_spec_JournalText outs_spec_JournalText [] (length, cap, list, ()) = FF k0 length cap list := by
 rw [ztop, FF]; (try simp only [zg0, za0, za1]); try rfl
noncomputable def _root_.Go.Rv.F_spec_JournalText : Int × Int × (List U0) × Unit → Option (ByteArray × Unit) := fun x => (fun (length cap : Int) (list : List U0) => FF (300 + list.length) length cap list) x.1 x.2.1 x.2.2.1
noncomputable abbrev _root_.Go.Rv.S_spec_JournalText : Summ := ⟨ins_spec_JournalText, outs_spec_JournalText, F_spec_JournalText, []⟩
theorem _root_.Go.Rv.ok_spec_JournalText : SumOK Dr Tryd.prog 11 S_spec_JournalText := runFn_ok (by kernel_rfl) (tblL_ok (.cons ok_spec_OpText (.cons ok_spec_l10Op (.cons ok_spec_l01Dec (.cons ok_spec_l10Length (.cons ok_spec_l02Want .nil)))))) (by kernel_rfl) fun x y h => ⟨zcfg, _, (zrun _ x.1 x.2.1 x.2.2.1).trans h⟩
end spec_JournalText
abbrev ins_laws_toOpS : List Par := [.v false [CT.sl ct0]]
abbrev outs_laws_toOpS : List (Bool × List CT) := [(false, [CT.sl ct0])]
namespace laws_toOpS
/-! ### loop.example/g00095/laws.toOpS (function 12) -/
noncomputable def ztbl : Tbl := tblL [(8, [], S_laws_toOp)]
noncomputable def zbody : Code := ((Tryd.prog.funcs[12]?).bind (·.body)).getD .skip
def zcfg : Nat → List Nat × List Nat := fun k => if k = 3 then ([0, 3, 4], [3]) else ([], [])
noncomputable def R0 {R : Type} (nx0 : ((List U0) → Int → (List U0) → Option R)) (ex0 : ((List U0) → Option R)) (a2 : List U0) (i : Int) (out : List U0) : Option R := cond (decide (i < (a2.length : Int))) (if 0 ≤ i ∧ i < (a2.length : Int) then (F_laws_toOp ((rd (0, 0, 0, 0, 0, ()) a2 i).1, (rd (0, 0, 0, 0, 0, ()) a2 i).2.1, (rd (0, 0, 0, 0, 0, ()) a2 i).2.2.1, (rd (0, 0, 0, 0, 0, ()) a2 i).2.2.2.1, (rd (0, 0, 0, 0, 0, ()) a2 i).2.2.2.2.1, ())).bind fun y1 => if 0 ≤ i ∧ i < (out.length : Int) then nx0 a2 (w64 (i + 1)) (out.set i.toNat y1) else none else none) (ex0 out)
noncomputable def A0  (a : List U0) (out : List U0) : Option ((List U0) × Unit) := some (out, ())
noncomputable def T (lo0 : ((List U0) → Int → (List U0) → Option ((List U0) × Unit))) (a : List U0) : Option ((List U0) × Unit) := if 0 ≤ (a.length : Int) ∧ (40 : Int) * (a.length : Int) ≤ 281474976710656 ∧ (a.length : Int) ≤ 9223372036854775807 then lo0 a 0 (List.replicate (((a.length : Int) : Int)).toNat (0, 0, 0, 0, 0, ())) else none
noncomputable def zst0 {R : Type} (k0 : Nat) : Env → List Ob → Kont R → Option R := fun env ob K => runCode Tryd.prog ztbl 23 0 zcfg k0 (codeAt [1, 1, 0, 1, 0, 0] zbody) env ob K
noncomputable def K0 {R : Type} (k0 : Nat) (K : Kont R) : Kont R := blockK 0 (seqK (fun env ob => runCode Tryd.prog ztbl 23 0 zcfg k0 (codeAt [1, 1, 1] zbody) env ob (K)) (K))
noncomputable def L0 {R : Type} (k0 k : Nat) (K : Kont R) (a2 : List U0) (i : Int) (out : List U0) : Option R := iter 0 [0, 3, 4] [3] (zst0 k0) k [(0, .sl ct0 a2), (3, .own 0), (4, .int .i64 i)] [.arr ct0 out] K
theorem zs0 {R : Type} (k0 k : Nat) (K : Kont R) (a2 : List U0) (i : Int) (out : List U0) : L0 k0 (k + 1) K a2 i out = R0 (L0 k0 k K) (fun out => K (.exit 0) [(3, .own 0)] [.arr ct0 out]) a2 i out := by kernel_rfl
theorem za0 (k0 : Nat) (a : List U0) (out : List U0) : K0 (R := ((List U0) × Unit)) k0 (finK Tryd.prog [.tmp 2] ins_laws_toOpS outs_laws_toOpS (a, ())) (.exit 0) [(3, .own 0)] [.arr ct0 out] = A0  a out := by kernel_rfl
theorem ztop (k0 : Nat) (a : List U0) : runFn Tryd.prog ztbl zcfg k0 12 ins_laws_toOpS outs_laws_toOpS [] (a, ()) = T (L0 (R := ((List U0) × Unit)) k0 k0 (K0 (R := ((List U0) × Unit)) k0 ((finK Tryd.prog [.tmp 2] ins_laws_toOpS outs_laws_toOpS (a, ()))))) a := by kernel_rfl
noncomputable def G0 {R : Type} (k0 : Nat) (hx0 : ((List U0) → Option R)) : Nat → (List U0) → Int → (List U0) → Option R
 | 0, _, _, _ => none
 | k + 1, a2, i, out => R0 (G0 k0 hx0 k) hx0 a2 i out
theorem zg0 {R : Type} (k0 : Nat) (K : Kont R) : ∀ k : Nat, L0 k0 k K = G0 k0 (fun out => K (.exit 0) [(3, .own 0)] [.arr ct0 out]) k := by
 intro k
 induction k with
 | zero => funext a2 i out; rfl
 | succ k ih => funext a2 i out; rw [zs0, G0]; (try simp only [ih]); try rfl
noncomputable def FF (k0 : Nat) (a : List U0) : Option ((List U0) × Unit) := T (G0 k0 (A0  a) k0) a
theorem zrun (k0 : Nat) (a : List U0) : runFn Tryd.prog ztbl zcfg k0 12 ins_laws_toOpS outs_laws_toOpS [] (a, ()) = FF k0 a := by
 rw [ztop, FF]; (try simp only [zg0, za0]); try rfl
noncomputable def _root_.Go.Rv.F_laws_toOpS : (List U0) × Unit → Option ((List U0) × Unit) := fun x => (fun (a : List U0) => FF (300 + a.length) a) x.1
noncomputable abbrev _root_.Go.Rv.S_laws_toOpS : Summ := ⟨ins_laws_toOpS, outs_laws_toOpS, F_laws_toOpS, []⟩
theorem _root_.Go.Rv.ok_laws_toOpS : SumOK Dr Tryd.prog 12 S_laws_toOpS := runFn_ok (by kernel_rfl) (tblL_ok (.cons ok_laws_toOp .nil)) (by kernel_rfl) fun x y h => ⟨zcfg, _, (zrun _ x.1).trans h⟩
end laws_toOpS
abbrev ins_impl_mayStart : List Par := [.v false [CT.int .i64], .v false [CT.int .i64]]
abbrev outs_impl_mayStart : List (Bool × List CT) := [(false, [CT.bool])]
namespace impl_mayStart
/-! ### loop.example/g00095/impl.mayStart (function 28) -/
noncomputable def ztbl : Tbl := tblL [(46, [], S_impl_isWant), (52, [], S_impl_in)]
noncomputable def zbody : Code := ((Tryd.prog.funcs[28]?).bind (·.body)).getD .skip
def zcfg : Nat → List Nat × List Nat := fun k => ([], [])
noncomputable def T  (length cap : Int) : Option (Bool × Unit) := (F_impl_in (length, 1, 1000, ())).bind fun y1 => cond y1.1 ((F_impl_isWant (cap, ())).bind fun y2 => some (y2.1, ())) (some (false, ()))
theorem ztop (k0 : Nat) (length cap : Int) : runFn Tryd.prog ztbl zcfg k0 28 ins_impl_mayStart outs_impl_mayStart [] (length, cap, ()) = T  length cap := by kernel_rfl
noncomputable def _root_.Go.Rv.F_impl_mayStart : Int × Int × Unit → Option (Bool × Unit) := fun x => T x.1 x.2.1
noncomputable abbrev _root_.Go.Rv.S_impl_mayStart : Summ := ⟨ins_impl_mayStart, outs_impl_mayStart, F_impl_mayStart, []⟩
theorem _root_.Go.Rv.ok_impl_mayStart : SumOK Dr Tryd.prog 28 S_impl_mayStart := runFn_ok (by kernel_rfl) (tblL_ok (.cons ok_impl_isWant (.cons ok_impl_in .nil))) (by kernel_rfl) fun x y h => ⟨zcfg, 0, (ztop 0 x.1 x.2.1).trans h⟩
end impl_mayStart
abbrev ins_impl_JournalText_1 : List Par := [.v true ct0]
abbrev outs_impl_JournalText_1 : List (Bool × List CT) := [(false, [CT.bool])]
namespace impl_JournalText_1
/-! ### loop.example/g00095/impl.JournalText$1 (function 30) -/
noncomputable def ztbl : Tbl := tblL [(24, [], S_impl_OpRight)]
noncomputable def zbody : Code := ((Tryd.prog.funcs[30]?).bind (·.body)).getD .skip
def zcfg : Nat → List Nat × List Nat := fun k => ([], [])
noncomputable def T  (o0 o1 o2 o3 o4 : Int) : Option (Bool × Unit) := (F_impl_OpRight (o0, o1, o2, o3, o4, ())).bind fun y1 => some ((!y1.1), ())
theorem ztop (k0 : Nat) (o0 o1 o2 o3 o4 : Int) : runFn Tryd.prog ztbl zcfg k0 30 ins_impl_JournalText_1 outs_impl_JournalText_1 [] (o0, o1, o2, o3, o4, ()) = T  o0 o1 o2 o3 o4 := by kernel_rfl
noncomputable def _root_.Go.Rv.F_impl_JournalText_1 : U0 → Option (Bool × Unit) := fun x => T x.1 x.2.1 x.2.2.1 x.2.2.2.1 x.2.2.2.2.1
noncomputable abbrev _root_.Go.Rv.S_impl_JournalText_1 : Summ := ⟨ins_impl_JournalText_1, outs_impl_JournalText_1, F_impl_JournalText_1, []⟩
theorem _root_.Go.Rv.ok_impl_JournalText_1 : SumOK Dr Tryd.prog 30 S_impl_JournalText_1 := runFn_ok (by kernel_rfl) (tblL_ok (.cons ok_impl_OpRight .nil)) (by kernel_rfl) fun x y h => ⟨zcfg, 0, (ztop 0 x.1 x.2.1 x.2.2.1 x.2.2.2.1 x.2.2.2.2.1).trans h⟩
end impl_JournalText_1
abbrev ins_slices_IndexFunc_impl_Op_impl_Op_at_impl_JournalText_1 : List Par := [.v false [CT.sl ct0], .cl 30 []]
abbrev outs_slices_IndexFunc_impl_Op_impl_Op_at_impl_JournalText_1 : List (Bool × List CT) := [(false, [CT.int .i64])]
namespace slices_IndexFunc_impl_Op_impl_Op_at_impl_JournalText_1
/-! ### slices.IndexFunc[[]loop.example/g00095/impl.Op,loop.example/g00095/impl.Op] (function 53) -/
noncomputable def ztbl : Tbl := tblL [(30, [], S_impl_JournalText_1)]
noncomputable def zbody : Code := ((Tryd.prog.funcs[53]?).bind (·.body)).getD .skip
def zcfg : Nat → List Nat × List Nat := fun k => if k = 2 then ([0, 1, 7, 8], [4]) else ([], [])
noncomputable def R0 {R : Type} (nx0 : ((List U0) → Int → Int → Option R)) (ex0 : (Int → Option R)) (ex1 : (Unit → Option R)) (s2 : List U0) (t7x t8x : Int) : Option R := cond (decide (t8x < t7x)) (if 0 ≤ t8x ∧ t8x < (s2.length : Int) then (F_impl_JournalText_1 ((rd (0, 0, 0, 0, 0, ()) s2 t8x).1, (rd (0, 0, 0, 0, 0, ()) s2 t8x).2.1, (rd (0, 0, 0, 0, 0, ()) s2 t8x).2.2.1, (rd (0, 0, 0, 0, 0, ()) s2 t8x).2.2.2.1, (rd (0, 0, 0, 0, 0, ()) s2 t8x).2.2.2.2.1, ())).bind fun y1 => cond y1.1 (ex0 t8x) (nx0 s2 t7x (w64 (t8x + 1))) else none) (ex1 ())
noncomputable def A0  (s : List U0) (t4x : Int) : Option (Int × Unit) := some (t4x, ())
noncomputable def A1  (s : List U0) (_u : Unit) : Option (Int × Unit) := some ((-1), ())
noncomputable def T (lo0 : ((List U0) → Int → Int → Option (Int × Unit))) (s : List U0) : Option (Int × Unit) := lo0 s (s.length : Int) 0
noncomputable def zst0 {R : Type} (k0 : Nat) : Env → List Ob → Kont R → Option R := fun env ob K => runCode Tryd.prog ztbl 19 0 zcfg k0 (codeAt [1, 0, 1, 0, 0] zbody) env ob K
noncomputable def K0 {R : Type} (k0 : Nat) (K : Kont R) : Kont R := blockK 0 (seqK (fun env ob => runCode Tryd.prog ztbl 19 0 zcfg k0 (codeAt [1, 1] zbody) env ob (K)) (K))
noncomputable def L0 {R : Type} (k0 k : Nat) (K : Kont R) (s2 : List U0) (t7x t8x : Int) : Option R := iter 0 [0, 1, 7, 8] [4] (zst0 k0) k [(0, .sl ct0 s2), (1, .fn 30 []), (7, .int .i64 t7x), (8, .int .i64 t8x)] [] K
theorem zs0 {R : Type} (k0 k : Nat) (K : Kont R) (s2 : List U0) (t7x t8x : Int) : L0 k0 (k + 1) K s2 t7x t8x = R0 (L0 k0 k K) (fun t4x => K .ret [(4, .int .i64 t4x)] []) (fun _ => K (.exit 0) [(4, .undef)] []) s2 t7x t8x := by kernel_rfl
theorem za0 (k0 : Nat) (s : List U0) (t4x : Int) : K0 (R := (Int × Unit)) k0 (finK Tryd.prog [.tmp 4] ins_slices_IndexFunc_impl_Op_impl_Op_at_impl_JournalText_1 outs_slices_IndexFunc_impl_Op_impl_Op_at_impl_JournalText_1 (s, ())) .ret [(4, .int .i64 t4x)] [] = A0  s t4x := by kernel_rfl
theorem za1 (k0 : Nat) (s : List U0)  : K0 (R := (Int × Unit)) k0 (finK Tryd.prog [.tmp 4] ins_slices_IndexFunc_impl_Op_impl_Op_at_impl_JournalText_1 outs_slices_IndexFunc_impl_Op_impl_Op_at_impl_JournalText_1 (s, ())) (.exit 0) [(4, .undef)] [] = A1  s () := by kernel_rfl
theorem ztop (k0 : Nat) (s : List U0) : runFn Tryd.prog ztbl zcfg k0 53 ins_slices_IndexFunc_impl_Op_impl_Op_at_impl_JournalText_1 outs_slices_IndexFunc_impl_Op_impl_Op_at_impl_JournalText_1 [] (s, ()) = T (L0 (R := (Int × Unit)) k0 k0 (K0 (R := (Int × Unit)) k0 ((finK Tryd.prog [.tmp 4] ins_slices_IndexFunc_impl_Op_impl_Op_at_impl_JournalText_1 outs_slices_IndexFunc_impl_Op_impl_Op_at_impl_JournalText_1 (s, ()))))) s := by kernel_rfl
noncomputable def G0 {R : Type} (k0 : Nat) (hx0 : (Int → Option R)) (hx1 : (Unit → Option R)) : Nat → (List U0) → Int → Int → Option R
 | 0, _, _, _ => none
 | k + 1, s2, t7x, t8x => R0 (G0 k0 hx0 hx1 k) hx0 hx1 s2 t7x t8x
theorem zg0 {R : Type} (k0 : Nat) (K : Kont R) : ∀ k : Nat, L0 k0 k K = G0 k0 (fun t4x => K .ret [(4, .int .i64 t4x)] []) (fun _ => K (.exit 0) [(4, .undef)] []) k := by
 intro k
 induction k with
 | zero => funext s2 t7x t8x; rfl
 | succ k ih => funext s2 t7x t8x; rw [zs0, G0]; (try simp only [ih]); try rfl
noncomputable def FF (k0 : Nat) (s : List U0) : Option (Int × Unit) := T (G0 k0 (A0  s) (A1  s) k0) s
theorem zrun (k0 : Nat) (s : List U0) : runFn Tryd.prog ztbl zcfg k0 53 ins_slices_IndexFunc_impl_Op_impl_Op_at_impl_JournalText_1 outs_slices_IndexFunc_impl_Op_impl_Op_at_impl_JournalText_1 [] (s, ()) = FF k0 s := by
 rw [ztop, FF]; (try simp only [zg0, za0, za1]); try rfl
noncomputable def _root_.Go.Rv.F_slices_IndexFunc_impl_Op_impl_Op_at_impl_JournalText_1 : (List U0) × Unit → Option (Int × Unit) := fun x => (fun (s : List U0) => FF (300 + s.length) s) x.1
noncomputable abbrev _root_.Go.Rv.S_slices_IndexFunc_impl_Op_impl_Op_at_impl_JournalText_1 : Summ := ⟨ins_slices_IndexFunc_impl_Op_impl_Op_at_impl_JournalText_1, outs_slices_IndexFunc_impl_Op_impl_Op_at_impl_JournalText_1, F_slices_IndexFunc_impl_Op_impl_Op_at_impl_JournalText_1, []⟩
theorem _root_.Go.Rv.ok_slices_IndexFunc_impl_Op_impl_Op_at_impl_JournalText_1 : SumOK Dr Tryd.prog 53 S_slices_IndexFunc_impl_Op_impl_Op_at_impl_JournalText_1 := runFn_ok (by kernel_rfl) (tblL_ok (.cons ok_impl_JournalText_1 .nil)) (by kernel_rfl) fun x y h => ⟨zcfg, _, (zrun _ x.1).trans h⟩
end slices_IndexFunc_impl_Op_impl_Op_at_impl_JournalText_1
abbrev ins_slices_ContainsFunc_impl_Op_impl_Op_at_impl_JournalText_1 : List Par := [.v false [CT.sl ct0], .cl 30 []]
abbrev outs_slices_ContainsFunc_impl_Op_impl_Op_at_impl_JournalText_1 : List (Bool × List CT) := [(false, [CT.bool])]
namespace slices_ContainsFunc_impl_Op_impl_Op_at_impl_JournalText_1
/-! ### slices.ContainsFunc[[]loop.example/g00095/impl.Op,loop.example/g00095/impl.Op] (function 29) -/
noncomputable def ztbl : Tbl := tblL [(53, [30], S_slices_IndexFunc_impl_Op_impl_Op_at_impl_JournalText_1)]
noncomputable def zbody : Code := ((Tryd.prog.funcs[29]?).bind (·.body)).getD .skip
def zcfg : Nat → List Nat × List Nat := fun k => ([], [])
noncomputable def T  (s : List U0) : Option (Bool × Unit) := (F_slices_IndexFunc_impl_Op_impl_Op_at_impl_JournalText_1 (s, ())).bind fun y1 => some ((decide (y1.1 ≥ 0)), ())
theorem ztop (k0 : Nat) (s : List U0) : runFn Tryd.prog ztbl zcfg k0 29 ins_slices_ContainsFunc_impl_Op_impl_Op_at_impl_JournalText_1 outs_slices_ContainsFunc_impl_Op_impl_Op_at_impl_JournalText_1 [] (s, ()) = T  s := by kernel_rfl
noncomputable def _root_.Go.Rv.F_slices_ContainsFunc_impl_Op_impl_Op_at_impl_JournalText_1 : (List U0) × Unit → Option (Bool × Unit) := fun x => T x.1
noncomputable abbrev _root_.Go.Rv.S_slices_ContainsFunc_impl_Op_impl_Op_at_impl_JournalText_1 : Summ := ⟨ins_slices_ContainsFunc_impl_Op_impl_Op_at_impl_JournalText_1, outs_slices_ContainsFunc_impl_Op_impl_Op_at_impl_JournalText_1, F_slices_ContainsFunc_impl_Op_impl_Op_at_impl_JournalText_1, []⟩
theorem _root_.Go.Rv.ok_slices_ContainsFunc_impl_Op_impl_Op_at_impl_JournalText_1 : SumOK Dr Tryd.prog 29 S_slices_ContainsFunc_impl_Op_impl_Op_at_impl_JournalText_1 := runFn_ok (by kernel_rfl) (tblL_ok (.cons ok_slices_IndexFunc_impl_Op_impl_Op_at_impl_JournalText_1 .nil)) (by kernel_rfl) fun x y h => ⟨zcfg, 0, (ztop 0 x.1).trans h⟩
end slices_ContainsFunc_impl_Op_impl_Op_at_impl_JournalText_1
abbrev ins_impl_headText : List Par := [.v false [CT.int .i64], .v false [CT.int .i64]]
abbrev outs_impl_headText : List (Bool × List CT) := [(false, [CT.str])]
namespace impl_headText
/-! ### loop.example/g00095/impl.headText (function 54) -/
noncomputable def ztbl : Tbl := tblL [(51, [], S_impl_spaced)]
noncomputable def zbody : Code := ((Tryd.prog.funcs[54]?).bind (·.body)).getD .skip
def zcfg : Nat → List Nat × List Nat := fun k => ([], [])
noncomputable def T  (length cap : Int) : Option (ByteArray × Unit) := (F_impl_spaced ([(length, ()), (cap, ())], ())).bind fun y1 => if (strLit [115, 101, 114, 118, 101, 114, 32]).size + y1.1.size ≤ 9223372036854775807 then if ((strLit [115, 101, 114, 118, 101, 114, 32]) ++ y1.1).size + (strLit [10]).size ≤ 9223372036854775807 then some ((((strLit [115, 101, 114, 118, 101, 114, 32]) ++ y1.1) ++ (strLit [10])), ()) else none else none
theorem ztop (k0 : Nat) (length cap : Int) : runFn Tryd.prog ztbl zcfg k0 54 ins_impl_headText outs_impl_headText [] (length, cap, ()) = T  length cap := by kernel_rfl
noncomputable def _root_.Go.Rv.F_impl_headText : Int × Int × Unit → Option (ByteArray × Unit) := fun x => T x.1 x.2.1
noncomputable abbrev _root_.Go.Rv.S_impl_headText : Summ := ⟨ins_impl_headText, outs_impl_headText, F_impl_headText, []⟩
theorem _root_.Go.Rv.ok_impl_headText : SumOK KN Tryd.prog 54 S_impl_headText := runFn_ok (by kernel_rfl) (tblL_ok (.cons ok_impl_spaced .nil)) (by kernel_rfl) fun x y h => ⟨zcfg, 0, (ztop 0 x.1 x.2.1).trans h⟩
end impl_headText
abbrev ins_impl_journal : List Par := [.v false [CT.int .i64], .v false [CT.int .i64], .v false [CT.sl ct0]]
abbrev outs_impl_journal : List (Bool × List CT) := [(false, [CT.str])]
namespace impl_journal
/-! ### loop.example/g00095/impl.journal (function 31) -/
noncomputable def ztbl : Tbl := tblL [(25, [], S_impl_Op_text), (54, [], S_impl_headText)]
noncomputable def zbody : Code := ((Tryd.prog.funcs[31]?).bind (·.body)).getD .skip
def zcfg : Nat → List Nat × List Nat := fun k => if k = 3 then ([7, 13, 14, 15], [7]) else ([], [])
noncomputable def R0 {R : Type} (nx0 : (ByteArray → (List U0) → Int → Int → Option R)) (ex0 : (ByteArray → Option R)) (out : ByteArray) (t13x : List U0) (t14x t15x : Int) : Option R := cond (decide (t15x < t14x)) (if 0 ≤ t15x ∧ t15x < (t13x.length : Int) then (F_impl_Op_text ((rd (0, 0, 0, 0, 0, ()) t13x t15x).1, (rd (0, 0, 0, 0, 0, ()) t13x t15x).2.1, (rd (0, 0, 0, 0, 0, ()) t13x t15x).2.2.1, (rd (0, 0, 0, 0, 0, ()) t13x t15x).2.2.2.1, (rd (0, 0, 0, 0, 0, ()) t13x t15x).2.2.2.2.1, ())).bind fun y1 => if y1.1.size + (strLit [10]).size ≤ 9223372036854775807 then if out.size + (y1.1 ++ (strLit [10])).size ≤ 9223372036854775807 then nx0 (out ++ (y1.1 ++ (strLit [10]))) t13x t14x (w64 (t15x + 1)) else none else none else none) (ex0 out)
noncomputable def A0  (length cap : Int) (list : List U0) (out : ByteArray) : Option (ByteArray × Unit) := some (out, ())
noncomputable def T (lo0 : (ByteArray → (List U0) → Int → Int → Option (ByteArray × Unit))) (length cap : Int) (list : List U0) : Option (ByteArray × Unit) := (F_impl_headText (length, cap, ())).bind fun y1 => lo0 y1.1 list (list.length : Int) 0
noncomputable def zst0 {R : Type} (k0 : Nat) : Env → List Ob → Kont R → Option R := fun env ob K => runCode Tryd.prog ztbl 26 0 zcfg k0 (codeAt [1, 1, 0, 1, 0, 0] zbody) env ob K
noncomputable def K0 {R : Type} (k0 : Nat) (K : Kont R) : Kont R := blockK 0 (seqK (fun env ob => runCode Tryd.prog ztbl 26 0 zcfg k0 (codeAt [1, 1, 1] zbody) env ob (K)) (K))
noncomputable def L0 {R : Type} (k0 k : Nat) (K : Kont R) (out : ByteArray) (t13x : List U0) (t14x t15x : Int) : Option R := iter 0 [7, 13, 14, 15] [7] (zst0 k0) k [(7, .str out), (13, .sl ct0 t13x), (14, .int .i64 t14x), (15, .int .i64 t15x)] [] K
theorem zs0 {R : Type} (k0 k : Nat) (K : Kont R) (out : ByteArray) (t13x : List U0) (t14x t15x : Int) : L0 k0 (k + 1) K out t13x t14x t15x = R0 (L0 k0 k K) (fun out => K (.exit 0) [(7, .str out)] []) out t13x t14x t15x := by kernel_rfl
theorem za0 (k0 : Nat) (length cap : Int) (list : List U0) (out : ByteArray) : K0 (R := (ByteArray × Unit)) k0 (finK Tryd.prog [.tmp 6] ins_impl_journal outs_impl_journal (length, cap, list, ())) (.exit 0) [(7, .str out)] [] = A0  length cap list out := by kernel_rfl
theorem ztop (k0 : Nat) (length cap : Int) (list : List U0) : runFn Tryd.prog ztbl zcfg k0 31 ins_impl_journal outs_impl_journal [] (length, cap, list, ()) = T (L0 (R := (ByteArray × Unit)) k0 k0 (K0 (R := (ByteArray × Unit)) k0 ((finK Tryd.prog [.tmp 6] ins_impl_journal outs_impl_journal (length, cap, list, ()))))) length cap list := by kernel_rfl
noncomputable def G0 {R : Type} (k0 : Nat) (hx0 : (ByteArray → Option R)) : Nat → ByteArray → (List U0) → Int → Int → Option R
 | 0, _, _, _, _ => none
 | k + 1, out, t13x, t14x, t15x => R0 (G0 k0 hx0 k) hx0 out t13x t14x t15x
theorem zg0 {R : Type} (k0 : Nat) (K : Kont R) : ∀ k : Nat, L0 k0 k K = G0 k0 (fun out => K (.exit 0) [(7, .str out)] []) k := by
 intro k
 induction k with
 | zero => funext out t13x t14x t15x; rfl
 | succ k ih => funext out t13x t14x t15x; rw [zs0, G0]; (try simp only [ih]); try rfl
noncomputable def FF (k0 : Nat) (length cap : Int) (list : List U0) : Option (ByteArray × Unit) := T (G0 k0 (A0  length cap list) k0) length cap list
theorem zrun (k0 : Nat) (length cap : Int) (list : List U0) : runFn Tryd.prog ztbl zcfg k0 31 ins_impl_journal outs_impl_journal [] (length, cap, list, ()) = FF k0 length cap list := by
 rw [ztop, FF]; (try simp only [zg0, za0]); try rfl
noncomputable def _root_.Go.Rv.F_impl_journal : Int × Int × (List U0) × Unit → Option (ByteArray × Unit) := fun x => (fun (length cap : Int) (list : List U0) => FF (300 + list.length) length cap list) x.1 x.2.1 x.2.2.1
noncomputable abbrev _root_.Go.Rv.S_impl_journal : Summ := ⟨ins_impl_journal, outs_impl_journal, F_impl_journal, []⟩
theorem _root_.Go.Rv.ok_impl_journal : SumOK KN Tryd.prog 31 S_impl_journal := runFn_ok (by kernel_rfl) (tblL_ok (.cons ok_impl_Op_text (.cons ok_impl_headText .nil))) (by kernel_rfl) fun x y h => ⟨zcfg, _, (zrun _ x.1 x.2.1 x.2.2.1).trans h⟩
end impl_journal
abbrev ins_impl_JournalText : List Par := [.v false [CT.int .i64], .v false [CT.int .i64], .v false [CT.sl ct0]]
abbrev outs_impl_JournalText : List (Bool × List CT) := [(false, [CT.str])]
namespace impl_JournalText
/-! ### loop.example/g00095/impl.JournalText (function 13) -/
noncomputable def ztbl : Tbl := tblL [(28, [], S_impl_mayStart), (29, [30], S_slices_ContainsFunc_impl_Op_impl_Op_at_impl_JournalText_1), (31, [], S_impl_journal)]
noncomputable def zbody : Code := ((Tryd.prog.funcs[13]?).bind (·.body)).getD .skip
def zcfg : Nat → List Nat × List Nat := fun k => ([], [])
noncomputable def T  (length cap : Int) (list : List U0) : Option (ByteArray × Unit) := (F_impl_mayStart (length, cap, ())).bind fun y1 => cond (!y1.1) (some ((strLit []), ())) (cond (decide ((list.length : Int) > 300)) (some ((strLit []), ())) ((F_slices_ContainsFunc_impl_Op_impl_Op_at_impl_JournalText_1 (list, ())).bind fun y2 => cond y2.1 (some ((strLit []), ())) ((F_impl_journal (length, cap, list, ())).bind fun y3 => some (y3.1, ()))))
theorem ztop (k0 : Nat) (length cap : Int) (list : List U0) : runFn Tryd.prog ztbl zcfg k0 13 ins_impl_JournalText outs_impl_JournalText [] (length, cap, list, ()) = T  length cap list := by kernel_rfl
noncomputable def _root_.Go.Rv.F_impl_JournalText : Int × Int × (List U0) × Unit → Option (ByteArray × Unit) := fun x => T x.1 x.2.1 x.2.2.1
noncomputable abbrev _root_.Go.Rv.S_impl_JournalText : Summ := ⟨ins_impl_JournalText, outs_impl_JournalText, F_impl_JournalText, []⟩
theorem _root_.Go.Rv.ok_impl_JournalText : SumOK KN Tryd.prog 13 S_impl_JournalText := runFn_ok (by kernel_rfl) (tblL_ok (.cons ok_impl_mayStart (.cons ok_slices_ContainsFunc_impl_Op_impl_Op_at_impl_JournalText_1 (.cons ok_impl_journal .nil)))) (by kernel_rfl) fun x y h => ⟨zcfg, 0, (ztop 0 x.1 x.2.1 x.2.2.1).trans h⟩
end impl_JournalText
abbrev ins_laws_eqOp : List Par := [.v true ct0, .v true ct0]
abbrev outs_laws_eqOp : List (Bool × List CT) := [(false, [CT.bool])]
namespace laws_eqOp
/-! ### loop.example/g00095/laws.eqOp (function 32) -/
noncomputable def ztbl : Tbl := tblL []
noncomputable def zbody : Code := ((Tryd.prog.funcs[32]?).bind (·.body)).getD .skip
def zcfg : Nat → List Nat × List Nat := fun k => ([], [])
noncomputable def T  (a0 a1 a2 a3 a4 b0 b1 b2 b3 b4 : Int) : Option (Bool × Unit) := cond (a0 != b0) (some (false, ())) (cond (a1 != b1) (some (false, ())) (cond (a2 != b2) (some (false, ())) (cond (a3 != b3) (some (false, ())) (cond (a4 != b4) (some (false, ())) (some (true, ()))))))
theorem ztop (k0 : Nat) (a0 a1 a2 a3 a4 b0 b1 b2 b3 b4 : Int) : runFn Tryd.prog ztbl zcfg k0 32 ins_laws_eqOp outs_laws_eqOp [] (a0, a1, a2, a3, a4, b0, b1, b2, b3, b4, ()) = T  a0 a1 a2 a3 a4 b0 b1 b2 b3 b4 := by kernel_rfl
noncomputable def _root_.Go.Rv.F_laws_eqOp : Int × Int × Int × Int × Int × U0 → Option (Bool × Unit) := fun x => T x.1 x.2.1 x.2.2.1 x.2.2.2.1 x.2.2.2.2.1 x.2.2.2.2.2.1 x.2.2.2.2.2.2.1 x.2.2.2.2.2.2.2.1 x.2.2.2.2.2.2.2.2.1 x.2.2.2.2.2.2.2.2.2.1
noncomputable abbrev _root_.Go.Rv.S_laws_eqOp : Summ := ⟨ins_laws_eqOp, outs_laws_eqOp, F_laws_eqOp, []⟩
theorem _root_.Go.Rv.ok_laws_eqOp : SumOK Dr Tryd.prog 32 S_laws_eqOp := runFn_ok (by kernel_rfl) (tblL_ok .nil) (by kernel_rfl) fun x y h => ⟨zcfg, 0, (ztop 0 x.1 x.2.1 x.2.2.1 x.2.2.2.1 x.2.2.2.2.1 x.2.2.2.2.2.1 x.2.2.2.2.2.2.1 x.2.2.2.2.2.2.2.1 x.2.2.2.2.2.2.2.2.1 x.2.2.2.2.2.2.2.2.2.1).trans h⟩
end laws_eqOp
abbrev ins_laws_eqOpS : List Par := [.v false [CT.sl ct0], .v false [CT.sl ct0]]
abbrev outs_laws_eqOpS : List (Bool × List CT) := [(false, [CT.bool])]
namespace laws_eqOpS
/-! ### loop.example/g00095/laws.eqOpS (function 14) -/
noncomputable def ztbl : Tbl := tblL [(32, [], S_laws_eqOp)]
noncomputable def zbody : Code := ((Tryd.prog.funcs[14]?).bind (·.body)).getD .skip
def zcfg : Nat → List Nat × List Nat := fun k => if k = 4 then ([0, 1, 5], [4]) else ([], [])
noncomputable def R0 {R : Type} (nx0 : ((List U0) → (List U0) → Int → Option R)) (ex0 : (Bool → Option R)) (ex1 : (Unit → Option R)) (a2 b2 : List U0) (i : Int) : Option R := cond (decide (i < (a2.length : Int))) (if 0 ≤ i ∧ i < (a2.length : Int) then if 0 ≤ i ∧ i < (b2.length : Int) then (F_laws_eqOp ((rd (0, 0, 0, 0, 0, ()) a2 i).1, (rd (0, 0, 0, 0, 0, ()) a2 i).2.1, (rd (0, 0, 0, 0, 0, ()) a2 i).2.2.1, (rd (0, 0, 0, 0, 0, ()) a2 i).2.2.2.1, (rd (0, 0, 0, 0, 0, ()) a2 i).2.2.2.2.1, (rd (0, 0, 0, 0, 0, ()) b2 i).1, (rd (0, 0, 0, 0, 0, ()) b2 i).2.1, (rd (0, 0, 0, 0, 0, ()) b2 i).2.2.1, (rd (0, 0, 0, 0, 0, ()) b2 i).2.2.2.1, (rd (0, 0, 0, 0, 0, ()) b2 i).2.2.2.2.1, ())).bind fun y1 => cond (!y1.1) (ex0 false) (nx0 a2 b2 (w64 (i + 1))) else none else none) (ex1 ())
noncomputable def A0  (a b : List U0) (t4x : Bool) : Option (Bool × Unit) := some (t4x, ())
noncomputable def A1  (a b : List U0) (_u : Unit) : Option (Bool × Unit) := some (true, ())
noncomputable def T (lo0 : ((List U0) → (List U0) → Int → Option (Bool × Unit))) (a b : List U0) : Option (Bool × Unit) := cond ((a.length : Int) != (b.length : Int)) (some (false, ())) (lo0 a b 0)
noncomputable def zst0 {R : Type} (k0 : Nat) : Env → List Ob → Kont R → Option R := fun env ob K => runCode Tryd.prog ztbl 27 0 zcfg k0 (codeAt [1, 1, 0, 1, 0, 0] zbody) env ob K
noncomputable def K0 {R : Type} (k0 : Nat) (K : Kont R) : Kont R := blockK 0 (seqK (fun env ob => runCode Tryd.prog ztbl 27 0 zcfg k0 (codeAt [1, 1, 1] zbody) env ob (K)) (K))
noncomputable def L0 {R : Type} (k0 k : Nat) (K : Kont R) (a2 b2 : List U0) (i : Int) : Option R := iter 0 [0, 1, 5] [4] (zst0 k0) k [(0, .sl ct0 a2), (1, .sl ct0 b2), (5, .int .i64 i)] [] K
theorem zs0 {R : Type} (k0 k : Nat) (K : Kont R) (a2 b2 : List U0) (i : Int) : L0 k0 (k + 1) K a2 b2 i = R0 (L0 k0 k K) (fun t4x => K .ret [(4, .bool t4x)] []) (fun _ => K (.exit 0) [(4, .undef)] []) a2 b2 i := by kernel_rfl
theorem za0 (k0 : Nat) (a b : List U0) (t4x : Bool) : K0 (R := (Bool × Unit)) k0 (finK Tryd.prog [.tmp 4] ins_laws_eqOpS outs_laws_eqOpS (a, b, ())) .ret [(4, .bool t4x)] [] = A0  a b t4x := by kernel_rfl
theorem za1 (k0 : Nat) (a b : List U0)  : K0 (R := (Bool × Unit)) k0 (finK Tryd.prog [.tmp 4] ins_laws_eqOpS outs_laws_eqOpS (a, b, ())) (.exit 0) [(4, .undef)] [] = A1  a b () := by kernel_rfl
theorem ztop (k0 : Nat) (a b : List U0) : runFn Tryd.prog ztbl zcfg k0 14 ins_laws_eqOpS outs_laws_eqOpS [] (a, b, ()) = T (L0 (R := (Bool × Unit)) k0 k0 (K0 (R := (Bool × Unit)) k0 ((finK Tryd.prog [.tmp 4] ins_laws_eqOpS outs_laws_eqOpS (a, b, ()))))) a b := by kernel_rfl
noncomputable def G0 {R : Type} (k0 : Nat) (hx0 : (Bool → Option R)) (hx1 : (Unit → Option R)) : Nat → (List U0) → (List U0) → Int → Option R
 | 0, _, _, _ => none
 | k + 1, a2, b2, i => R0 (G0 k0 hx0 hx1 k) hx0 hx1 a2 b2 i
theorem zg0 {R : Type} (k0 : Nat) (K : Kont R) : ∀ k : Nat, L0 k0 k K = G0 k0 (fun t4x => K .ret [(4, .bool t4x)] []) (fun _ => K (.exit 0) [(4, .undef)] []) k := by
 intro k
 induction k with
 | zero => funext a2 b2 i; rfl
 | succ k ih => funext a2 b2 i; rw [zs0, G0]; (try simp only [ih]); try rfl
noncomputable def FF (k0 : Nat) (a b : List U0) : Option (Bool × Unit) := T (G0 k0 (A0  a b) (A1  a b) k0) a b
theorem zrun (k0 : Nat) (a b : List U0) : runFn Tryd.prog ztbl zcfg k0 14 ins_laws_eqOpS outs_laws_eqOpS [] (a, b, ()) = FF k0 a b := by
 rw [ztop, FF]; (try simp only [zg0, za0, za1]); try rfl
noncomputable def _root_.Go.Rv.F_laws_eqOpS : (List U0) × (List U0) × Unit → Option (Bool × Unit) := fun x => (fun (a b : List U0) => FF (300 + a.length + b.length) a b) x.1 x.2.1
noncomputable abbrev _root_.Go.Rv.S_laws_eqOpS : Summ := ⟨ins_laws_eqOpS, outs_laws_eqOpS, F_laws_eqOpS, []⟩
theorem _root_.Go.Rv.ok_laws_eqOpS : SumOK Dr Tryd.prog 14 S_laws_eqOpS := runFn_ok (by kernel_rfl) (tblL_ok (.cons ok_laws_eqOp .nil)) (by kernel_rfl) fun x y h => ⟨zcfg, _, (zrun _ x.1 x.2.1).trans h⟩
end laws_eqOpS
abbrev ins_laws_FnExactJournalText : List Par := [.v false [CT.int .i64], .v false [CT.int .i64], .v false [CT.sl ct0]]
abbrev outs_laws_FnExactJournalText : List (Bool × List CT) := [(false, [CT.bool])]
namespace laws_FnExactJournalText
/-! ### loop.example/g00095/laws.FnExactJournalText (function 4) -/
noncomputable def ztbl : Tbl := tblL [(10, [], S_laws_szOpS), (11, [], S_spec_JournalText), (12, [], S_laws_toOpS), (13, [], S_impl_JournalText), (14, [], S_laws_eqOpS)]
noncomputable def zbody : Code := ((Tryd.prog.funcs[4]?).bind (·.body)).getD .skip
def zcfg : Nat → List Nat × List Nat := fun k => ([], [])
noncomputable def T  (aLength aCap : Int) (aList : List U0) : Option (Bool × Unit) := (F_laws_szOpS (aList, 1048576, ())).bind fun y1 => cond (decide (y1.1 < 0)) (some (true, ())) ((F_laws_toOpS (aList, ())).bind fun y2 => (F_spec_JournalText (aLength, aCap, y2.1, ())).bind fun y3 => (F_laws_toOpS (aList, ())).bind fun y4 => (F_impl_JournalText (aLength, aCap, y4.1, ())).bind fun y5 => cond (!seq y5.1 y3.1) (some (false, ())) ((F_laws_toOpS (aList, ())).bind fun y6 => (F_laws_eqOpS (y4.1, y6.1, ())).bind fun y7 => cond (!y7.1) (some (false, ())) (some (true, ()))))
theorem ztop (k0 : Nat) (aLength aCap : Int) (aList : List U0) : runFn Tryd.prog ztbl zcfg k0 4 ins_laws_FnExactJournalText outs_laws_FnExactJournalText [] (aLength, aCap, aList, ()) = T  aLength aCap aList := by kernel_rfl
noncomputable def _root_.Go.Rv.F_laws_FnExactJournalText : Int × Int × (List U0) × Unit → Option (Bool × Unit) := fun x => T x.1 x.2.1 x.2.2.1
noncomputable abbrev _root_.Go.Rv.S_laws_FnExactJournalText : Summ := ⟨ins_laws_FnExactJournalText, outs_laws_FnExactJournalText, F_laws_FnExactJournalText, []⟩
theorem _root_.Go.Rv.ok_laws_FnExactJournalText : SumOK KN Tryd.prog 4 S_laws_FnExactJournalText := runFn_ok (by kernel_rfl) (tblL_ok (.cons ok_laws_szOpS (.cons ok_spec_JournalText (.cons ok_laws_toOpS (.cons ok_impl_JournalText (.cons ok_laws_eqOpS .nil)))))) (by kernel_rfl) fun x y h => ⟨zcfg, 0, (ztop 0 x.1 x.2.1 x.2.2.1).trans h⟩
end laws_FnExactJournalText

end Go.Rv
