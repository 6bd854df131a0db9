/- What functions come to on pure values (printed by a program of ours). -/
import Derived.Test.YtnoanpohmppnaaaGreatDoorRvD
import Derived.Test.YtnoanpohmppnaaaGreatDoorProg
import Derived.KernelRfl
set_option linter.unusedVariables false
set_option linter.unusedSimpArgs false
set_option linter.unusedSectionVars false
set_option maxRecDepth 100000
namespace Go.Rv
open Go.Proofs
variable {Dr : Kn}
abbrev ct0 : List CT := [CT.int .i64, CT.int .i64, CT.int .i64]
abbrev ct1 : List CT := [CT.int .u64, CT.int .u64]
abbrev ct2 : List CT := [CT.int .i64, CT.int .i64, CT.int .i64, CT.int .i64]
abbrev ct3 : List CT := [CT.int .i64, CT.int .i64, CT.int .i64, CT.int .i64, CT.sl ct2, CT.sl ct2, CT.sl ct0]
abbrev ct4 : List CT := [CT.int .i64, CT.sl ct2, CT.sl ct2]
abbrev ct5 : List CT := [CT.int .i64, CT.int .i64, CT.int .i64, CT.int .i64, CT.int .i64, CT.int .i64]
abbrev ct6 : List CT := [CT.int .i64, CT.int .i64]
abbrev ct7 : List CT := [CT.int .u64, CT.int .u64, CT.bool, CT.int .i64]
abbrev ct8 : List CT := [CT.int .u64, CT.int .u64, CT.int .u64]
abbrev ct9 : List CT := [CT.sl [CT.int .i64], CT.int .i64, CT.int .i64, CT.int .i64, CT.sl [CT.bool]]
abbrev U0 := Int × Int × Int × Int × (List (Int × Int × Int × Int × Unit)) × (List (Int × Int × Int × Int × Unit)) × (List (Int × Int × Int × Unit)) × Unit
abbrev U1 := Int × (List (Int × Int × Int × Int × Unit)) × (List (Int × Int × Int × Int × Unit)) × Unit
abbrev U2 := (List (Int × Unit)) × Int × Int × Int × (List (Bool × Unit)) × Unit
abbrev U3 := Int × Int × Int × Int × Int × Int × Unit
abbrev U4 := Int × Int × Bool × Int × Unit
abbrev U5 := Int × Int × Int × Int × Unit
abbrev U6 := Int × Int × Int × Unit
abbrev U7 := Int × Int × Unit
abbrev ins_cmp_isNaN_int64 : List Par := [.v false [CT.int .i64]]
abbrev outs_cmp_isNaN_int64 : List (Bool × List CT) := [(false, [CT.bool])]
namespace cmp_isNaN_int64
/-! ### cmp.isNaN[int64] (function 94) -/
noncomputable def ztbl : Tbl := tblL []
noncomputable def zbody : Code := ((Tryz.prog.funcs[94]?).bind (·.body)).getD .skip
def zcfg : Nat → List Nat × List Nat := fun k => ([], [])
noncomputable def T  (x : Int) : Option (Bool × Unit) := some ((x != x), ())
theorem ztop (k0 : Nat) (x : Int) : runFn Tryz.prog ztbl zcfg k0 94 ins_cmp_isNaN_int64 outs_cmp_isNaN_int64 [] (x, ()) = T  x := by kernel_rfl
noncomputable def _root_.Go.Rv.F_cmp_isNaN_int64 : Int × Unit → Option (Bool × Unit) := fun x => T x.1
noncomputable abbrev _root_.Go.Rv.S_cmp_isNaN_int64 : Summ := ⟨ins_cmp_isNaN_int64, outs_cmp_isNaN_int64, F_cmp_isNaN_int64, []⟩
theorem _root_.Go.Rv.ok_cmp_isNaN_int64 : SumOK Dr Tryz.prog 94 S_cmp_isNaN_int64 := runFn_ok (by kernel_rfl) (tblL_ok .nil) (by kernel_rfl) fun x y h => ⟨zcfg, 0, (ztop 0 x.1).trans h⟩
end cmp_isNaN_int64
abbrev ins_cmp_Compare_int64 : List Par := [.v false [CT.int .i64], .v false [CT.int .i64]]
abbrev outs_cmp_Compare_int64 : List (Bool × List CT) := [(false, [CT.int .i64])]
namespace cmp_Compare_int64
/-! ### cmp.Compare[int64] (function 70) -/
noncomputable def ztbl : Tbl := tblL [(94, [], S_cmp_isNaN_int64)]
noncomputable def zbody : Code := ((Tryz.prog.funcs[70]?).bind (·.body)).getD .skip
def zcfg : Nat → List Nat × List Nat := fun k => ([], [])
noncomputable def T  (x y : Int) : Option (Int × Unit) := (F_cmp_isNaN_int64 (x, ())).bind fun y1 => (F_cmp_isNaN_int64 (y, ())).bind fun y2 => cond y1.1 (cond y2.1 (some (0, ())) (some ((-1), ()))) (cond y2.1 (some (1, ())) (cond (decide (x < y)) (some ((-1), ())) (cond (decide (x > y)) (some (1, ())) (some (0, ())))))
theorem ztop (k0 : Nat) (x y : Int) : runFn Tryz.prog ztbl zcfg k0 70 ins_cmp_Compare_int64 outs_cmp_Compare_int64 [] (x, y, ()) = T  x y := by kernel_rfl
noncomputable def _root_.Go.Rv.F_cmp_Compare_int64 : U7 → Option (Int × Unit) := fun x => T x.1 x.2.1
noncomputable abbrev _root_.Go.Rv.S_cmp_Compare_int64 : Summ := ⟨ins_cmp_Compare_int64, outs_cmp_Compare_int64, F_cmp_Compare_int64, []⟩
theorem _root_.Go.Rv.ok_cmp_Compare_int64 : SumOK Dr Tryz.prog 70 S_cmp_Compare_int64 := runFn_ok (by kernel_rfl) (tblL_ok (.cons ok_cmp_isNaN_int64 .nil)) (by kernel_rfl) fun x y h => ⟨zcfg, 0, (ztop 0 x.1 x.2.1).trans h⟩
end cmp_Compare_int64
abbrev ins_math_bits_Mul64 : List Par := [.v false [CT.int .u64], .v false [CT.int .u64]]
abbrev outs_math_bits_Mul64 : List (Bool × List CT) := [(false, [CT.int .u64]), (false, [CT.int .u64])]
namespace math_bits_Mul64
/-! ### math/bits.Mul64 (function 149) -/
noncomputable def ztbl : Tbl := tblL []
noncomputable def zbody : Code := ((Tryz.prog.funcs[149]?).bind (·.body)).getD .skip
def zcfg : Nat → List Nat × List Nat := fun k => ([], [])
noncomputable def T  (x y : Int) : Option (U7) := some ((IntKind.u64.wrap ((IntKind.u64.wrap ((IntKind.u64.wrap ((Int.fdiv x (2 ^ 32)) * (Int.fdiv y (2 ^ 32)))) + (Int.fdiv (IntKind.u64.wrap ((IntKind.u64.wrap ((Int.fdiv x (2 ^ 32)) * (IntKind.u64.wrap (((BitVec.ofInt 64 y) &&& (BitVec.ofInt 64 4294967295)).toNat)))) + (Int.fdiv (IntKind.u64.wrap ((IntKind.u64.wrap (((BitVec.ofInt 64 x) &&& (BitVec.ofInt 64 4294967295)).toNat)) * (IntKind.u64.wrap (((BitVec.ofInt 64 y) &&& (BitVec.ofInt 64 4294967295)).toNat)))) (2 ^ 32)))) (2 ^ 32)))) + (Int.fdiv (IntKind.u64.wrap ((IntKind.u64.wrap (((BitVec.ofInt 64 (IntKind.u64.wrap ((IntKind.u64.wrap ((Int.fdiv x (2 ^ 32)) * (IntKind.u64.wrap (((BitVec.ofInt 64 y) &&& (BitVec.ofInt 64 4294967295)).toNat)))) + (Int.fdiv (IntKind.u64.wrap ((IntKind.u64.wrap (((BitVec.ofInt 64 x) &&& (BitVec.ofInt 64 4294967295)).toNat)) * (IntKind.u64.wrap (((BitVec.ofInt 64 y) &&& (BitVec.ofInt 64 4294967295)).toNat)))) (2 ^ 32))))) &&& (BitVec.ofInt 64 4294967295)).toNat)) + (IntKind.u64.wrap ((IntKind.u64.wrap (((BitVec.ofInt 64 x) &&& (BitVec.ofInt 64 4294967295)).toNat)) * (Int.fdiv y (2 ^ 32)))))) (2 ^ 32)))), (IntKind.u64.wrap (x * y)), ())
theorem ztop (k0 : Nat) (x y : Int) : runFn Tryz.prog ztbl zcfg k0 149 ins_math_bits_Mul64 outs_math_bits_Mul64 [] (x, y, ()) = T  x y := by kernel_rfl
noncomputable def _root_.Go.Rv.F_math_bits_Mul64 : U7 → Option (U7) := fun x => T x.1 x.2.1
noncomputable abbrev _root_.Go.Rv.S_math_bits_Mul64 : Summ := ⟨ins_math_bits_Mul64, outs_math_bits_Mul64, F_math_bits_Mul64, []⟩
theorem _root_.Go.Rv.ok_math_bits_Mul64 : SumOK Dr Tryz.prog 149 S_math_bits_Mul64 := runFn_ok (by kernel_rfl) (tblL_ok .nil) (by kernel_rfl) fun x y h => ⟨zcfg, 0, (ztop 0 x.1 x.2.1).trans h⟩
end math_bits_Mul64
abbrev ins_impl_WideMul : List Par := [.v false [CT.int .u64], .v false [CT.int .u64]]
abbrev outs_impl_WideMul : List (Bool × List CT) := [(true, ct1)]
namespace impl_WideMul
/-! ### loop.example/g00095/impl.WideMul (function 141) -/
noncomputable def ztbl : Tbl := tblL [(149, [], S_math_bits_Mul64)]
noncomputable def zbody : Code := ((Tryz.prog.funcs[141]?).bind (·.body)).getD .skip
def zcfg : Nat → List Nat × List Nat := fun k => ([], [])
noncomputable def T  (a b : Int) : Option (U7) := (F_math_bits_Mul64 (a, b, ())).bind fun y1 => some (y1.1, y1.2.1, ())
theorem ztop (k0 : Nat) (a b : Int) : runFn Tryz.prog ztbl zcfg k0 141 ins_impl_WideMul outs_impl_WideMul [] (a, b, ()) = T  a b := by kernel_rfl
noncomputable def _root_.Go.Rv.F_impl_WideMul : U7 → Option (U7) := fun x => T x.1 x.2.1
noncomputable abbrev _root_.Go.Rv.S_impl_WideMul : Summ := ⟨ins_impl_WideMul, outs_impl_WideMul, F_impl_WideMul, []⟩
theorem _root_.Go.Rv.ok_impl_WideMul : SumOK Dr Tryz.prog 141 S_impl_WideMul := runFn_ok (by kernel_rfl) (tblL_ok (.cons ok_math_bits_Mul64 .nil)) (by kernel_rfl) fun x y h => ⟨zcfg, 0, (ztop 0 x.1 x.2.1).trans h⟩
end impl_WideMul
abbrev ins_impl_product : List Par := [.v false [CT.int .i64], .v false [CT.int .i64]]
abbrev outs_impl_product : List (Bool × List CT) := [(true, ct1)]
namespace impl_product
/-! ### loop.example/g00095/impl.product (function 129) -/
noncomputable def ztbl : Tbl := tblL [(141, [], S_impl_WideMul)]
noncomputable def zbody : Code := ((Tryz.prog.funcs[129]?).bind (·.body)).getD .skip
def zcfg : Nat → List Nat × List Nat := fun k => ([], [])
noncomputable def T  (a b : Int) : Option (U7) := (F_impl_WideMul ((IntKind.u64.wrap (a)), (IntKind.u64.wrap (b)), ())).bind fun y1 => some (y1.1, y1.2.1, ())
theorem ztop (k0 : Nat) (a b : Int) : runFn Tryz.prog ztbl zcfg k0 129 ins_impl_product outs_impl_product [] (a, b, ()) = T  a b := by kernel_rfl
noncomputable def _root_.Go.Rv.F_impl_product : U7 → Option (U7) := fun x => T x.1 x.2.1
noncomputable abbrev _root_.Go.Rv.S_impl_product : Summ := ⟨ins_impl_product, outs_impl_product, F_impl_product, []⟩
theorem _root_.Go.Rv.ok_impl_product : SumOK Dr Tryz.prog 129 S_impl_product := runFn_ok (by kernel_rfl) (tblL_ok (.cons ok_impl_WideMul .nil)) (by kernel_rfl) fun x y h => ⟨zcfg, 0, (ztop 0 x.1 x.2.1).trans h⟩
end impl_product
abbrev ins_cmp_Or_int : List Par := [.v false [CT.sl [CT.int .i64]]]
abbrev outs_cmp_Or_int : List (Bool × List CT) := [(false, [CT.int .i64])]
namespace cmp_Or_int
/-! ### cmp.Or[int] (function 138) -/
noncomputable def ztbl : Tbl := tblL []
noncomputable def zbody : Code := ((Tryz.prog.funcs[138]?).bind (·.body)).getD .skip
def zcfg : Nat → List Nat × List Nat := fun k => if k = 3 then ([3, 6, 7, 8], [2, 3]) else ([], [])
noncomputable def R0 {R : Type} (nx0 : (Int → (List (Int × Unit)) → Int → Int → Option R)) (ex0 : (Int → Int → Option R)) (ex1 : (Int → Option R)) (zero : Int) (t6x : List (Int × Unit)) (t7x t8x : Int) : Option R := cond (decide (t8x < t7x)) (if 0 ≤ t8x ∧ t8x < (t6x.length : Int) then cond ((rd (0, ()) t6x t8x).1 != zero) (ex0 ((rd (0, ()) t6x t8x).1) zero) (nx0 zero t6x t7x (w64 (t8x + 1))) else none) (ex1 zero)
noncomputable def A0  (vals : List (Int × Unit)) (t2x zero : Int) : Option (Int × Unit) := some (t2x, ())
noncomputable def A1  (vals : List (Int × Unit)) (zero : Int) : Option (Int × Unit) := some (zero, ())
noncomputable def T (lo0 : (Int → (List (Int × Unit)) → Int → Int → Option (Int × Unit))) (vals : List (Int × Unit)) : Option (Int × Unit) := lo0 0 vals (vals.length : Int) 0
noncomputable def zst0 {R : Type} (k0 : Nat) : Env → List Ob → Kont R → Option R := fun env ob K => runCode Tryz.prog ztbl 18 0 zcfg k0 (codeAt [1, 1, 0, 1, 0, 0] zbody) env ob K
noncomputable def K0 {R : Type} (k0 : Nat) (K : Kont R) : Kont R := blockK 0 (seqK (fun env ob => runCode Tryz.prog ztbl 18 0 zcfg k0 (codeAt [1, 1, 1] zbody) env ob (K)) (K))
noncomputable def L0 {R : Type} (k0 k : Nat) (K : Kont R) (zero : Int) (t6x : List (Int × Unit)) (t7x t8x : Int) : Option R := iter 0 [3, 6, 7, 8] [2, 3] (zst0 k0) k [(3, .int .i64 zero), (6, .sl [CT.int .i64] t6x), (7, .int .i64 t7x), (8, .int .i64 t8x)] [] K
theorem zs0 {R : Type} (k0 k : Nat) (K : Kont R) (zero : Int) (t6x : List (Int × Unit)) (t7x t8x : Int) : L0 k0 (k + 1) K zero t6x t7x t8x = R0 (L0 k0 k K) (fun t2x zero => K .ret [(2, .int .i64 t2x), (3, .int .i64 zero)] []) (fun zero => K (.exit 0) [(2, .undef), (3, .int .i64 zero)] []) zero t6x t7x t8x := by kernel_rfl
theorem za0 (k0 : Nat) (vals : List (Int × Unit)) (t2x zero : Int) : K0 (R := (Int × Unit)) k0 (finK Tryz.prog [.tmp 2] ins_cmp_Or_int outs_cmp_Or_int (vals, ())) .ret [(2, .int .i64 t2x), (3, .int .i64 zero)] [] = A0  vals t2x zero := by kernel_rfl
theorem za1 (k0 : Nat) (vals : List (Int × Unit)) (zero : Int) : K0 (R := (Int × Unit)) k0 (finK Tryz.prog [.tmp 2] ins_cmp_Or_int outs_cmp_Or_int (vals, ())) (.exit 0) [(2, .undef), (3, .int .i64 zero)] [] = A1  vals zero := by kernel_rfl
theorem ztop (k0 : Nat) (vals : List (Int × Unit)) : runFn Tryz.prog ztbl zcfg k0 138 ins_cmp_Or_int outs_cmp_Or_int [] (vals, ()) = T (L0 (R := (Int × Unit)) k0 k0 (K0 (R := (Int × Unit)) k0 ((finK Tryz.prog [.tmp 2] ins_cmp_Or_int outs_cmp_Or_int (vals, ()))))) vals := by kernel_rfl
noncomputable def G0 {R : Type} (k0 : Nat) (hx0 : (Int → Int → Option R)) (hx1 : (Int → Option R)) : Nat → Int → (List (Int × Unit)) → Int → Int → Option R
 | 0, _, _, _, _ => none
 | k + 1, zero, t6x, t7x, t8x => R0 (G0 k0 hx0 hx1 k) hx0 hx1 zero t6x t7x t8x
theorem zg0 {R : Type} (k0 : Nat) (K : Kont R) : ∀ k : Nat, L0 k0 k K = G0 k0 (fun t2x zero => K .ret [(2, .int .i64 t2x), (3, .int .i64 zero)] []) (fun zero => K (.exit 0) [(2, .undef), (3, .int .i64 zero)] []) k := by
 intro k
 induction k with
 | zero => funext zero t6x t7x t8x; rfl
 | succ k ih => funext zero t6x t7x t8x; rw [zs0, G0]; (try simp only [ih]); try rfl
noncomputable def FF (k0 : Nat) (vals : List (Int × Unit)) : Option (Int × Unit) := T (G0 k0 (A0  vals) (A1  vals) k0) vals
theorem zrun (k0 : Nat) (vals : List (Int × Unit)) : runFn Tryz.prog ztbl zcfg k0 138 ins_cmp_Or_int outs_cmp_Or_int [] (vals, ()) = FF k0 vals := by
 rw [ztop, FF]; (try simp only [zg0, za0, za1]); try rfl
noncomputable def _root_.Go.Rv.F_cmp_Or_int : (List (Int × Unit)) × Unit → Option (Int × Unit) := fun x => (fun (vals : List (Int × Unit)) => FF (300 + vals.length) vals) x.1
noncomputable abbrev _root_.Go.Rv.S_cmp_Or_int : Summ := ⟨ins_cmp_Or_int, outs_cmp_Or_int, F_cmp_Or_int, []⟩
theorem _root_.Go.Rv.ok_cmp_Or_int : SumOK Dr Tryz.prog 138 S_cmp_Or_int := runFn_ok (by kernel_rfl) (tblL_ok .nil) (by kernel_rfl) fun x y h => ⟨zcfg, _, (zrun _ x.1).trans h⟩
end cmp_Or_int
abbrev ins_cmp_isNaN_uint64 : List Par := [.v false [CT.int .u64]]
abbrev outs_cmp_isNaN_uint64 : List (Bool × List CT) := [(false, [CT.bool])]
namespace cmp_isNaN_uint64
/-! ### cmp.isNaN[uint64] (function 159) -/
noncomputable def ztbl : Tbl := tblL []
noncomputable def zbody : Code := ((Tryz.prog.funcs[159]?).bind (·.body)).getD .skip
def zcfg : Nat → List Nat × List Nat := fun k => ([], [])
noncomputable def T  (x : Int) : Option (Bool × Unit) := some ((x != x), ())
theorem ztop (k0 : Nat) (x : Int) : runFn Tryz.prog ztbl zcfg k0 159 ins_cmp_isNaN_uint64 outs_cmp_isNaN_uint64 [] (x, ()) = T  x := by kernel_rfl
noncomputable def _root_.Go.Rv.F_cmp_isNaN_uint64 : Int × Unit → Option (Bool × Unit) := fun x => T x.1
noncomputable abbrev _root_.Go.Rv.S_cmp_isNaN_uint64 : Summ := ⟨ins_cmp_isNaN_uint64, outs_cmp_isNaN_uint64, F_cmp_isNaN_uint64, []⟩
theorem _root_.Go.Rv.ok_cmp_isNaN_uint64 : SumOK Dr Tryz.prog 159 S_cmp_isNaN_uint64 := runFn_ok (by kernel_rfl) (tblL_ok .nil) (by kernel_rfl) fun x y h => ⟨zcfg, 0, (ztop 0 x.1).trans h⟩
end cmp_isNaN_uint64
abbrev ins_cmp_Compare_uint64 : List Par := [.v false [CT.int .u64], .v false [CT.int .u64]]
abbrev outs_cmp_Compare_uint64 : List (Bool × List CT) := [(false, [CT.int .i64])]
namespace cmp_Compare_uint64
/-! ### cmp.Compare[uint64] (function 147) -/
noncomputable def ztbl : Tbl := tblL [(159, [], S_cmp_isNaN_uint64)]
noncomputable def zbody : Code := ((Tryz.prog.funcs[147]?).bind (·.body)).getD .skip
def zcfg : Nat → List Nat × List Nat := fun k => ([], [])
noncomputable def T  (x y : Int) : Option (Int × Unit) := (F_cmp_isNaN_uint64 (x, ())).bind fun y1 => (F_cmp_isNaN_uint64 (y, ())).bind fun y2 => cond y1.1 (cond y2.1 (some (0, ())) (some ((-1), ()))) (cond y2.1 (some (1, ())) (cond (decide (x < y)) (some ((-1), ())) (cond (decide (x > y)) (some (1, ())) (some (0, ())))))
theorem ztop (k0 : Nat) (x y : Int) : runFn Tryz.prog ztbl zcfg k0 147 ins_cmp_Compare_uint64 outs_cmp_Compare_uint64 [] (x, y, ()) = T  x y := by kernel_rfl
noncomputable def _root_.Go.Rv.F_cmp_Compare_uint64 : U7 → Option (Int × Unit) := fun x => T x.1 x.2.1
noncomputable abbrev _root_.Go.Rv.S_cmp_Compare_uint64 : Summ := ⟨ins_cmp_Compare_uint64, outs_cmp_Compare_uint64, F_cmp_Compare_uint64, []⟩
theorem _root_.Go.Rv.ok_cmp_Compare_uint64 : SumOK Dr Tryz.prog 147 S_cmp_Compare_uint64 := runFn_ok (by kernel_rfl) (tblL_ok (.cons ok_cmp_isNaN_uint64 .nil)) (by kernel_rfl) fun x y h => ⟨zcfg, 0, (ztop 0 x.1 x.2.1).trans h⟩
end cmp_Compare_uint64
abbrev ins_impl_WideCmp : List Par := [.v true ct1, .v true ct1]
abbrev outs_impl_WideCmp : List (Bool × List CT) := [(false, [CT.int .i64])]
namespace impl_WideCmp
/-! ### loop.example/g00095/impl.WideCmp (function 139) -/
noncomputable def ztbl : Tbl := tblL [(138, [], S_cmp_Or_int), (147, [], S_cmp_Compare_uint64)]
noncomputable def zbody : Code := ((Tryz.prog.funcs[139]?).bind (·.body)).getD .skip
def zcfg : Nat → List Nat × List Nat := fun k => ([], [])
noncomputable def T  (a0 a1 b0 b1 : Int) : Option (Int × Unit) := (F_cmp_Compare_uint64 (a0, b0, ())).bind fun y1 => (F_cmp_Compare_uint64 (a1, b1, ())).bind fun y2 => (F_cmp_Or_int ([(y1.1, ()), (y2.1, ())], ())).bind fun y3 => some (y3.1, ())
theorem ztop (k0 : Nat) (a0 a1 b0 b1 : Int) : runFn Tryz.prog ztbl zcfg k0 139 ins_impl_WideCmp outs_impl_WideCmp [] (a0, a1, b0, b1, ()) = T  a0 a1 b0 b1 := by kernel_rfl
noncomputable def _root_.Go.Rv.F_impl_WideCmp : U5 → Option (Int × Unit) := fun x => T x.1 x.2.1 x.2.2.1 x.2.2.2.1
noncomputable abbrev _root_.Go.Rv.S_impl_WideCmp : Summ := ⟨ins_impl_WideCmp, outs_impl_WideCmp, F_impl_WideCmp, []⟩
theorem _root_.Go.Rv.ok_impl_WideCmp : SumOK Dr Tryz.prog 139 S_impl_WideCmp := runFn_ok (by kernel_rfl) (tblL_ok (.cons ok_cmp_Or_int (.cons ok_cmp_Compare_uint64 .nil))) (by kernel_rfl) fun x y h => ⟨zcfg, 0, (ztop 0 x.1 x.2.1 x.2.2.1 x.2.2.2.1).trans h⟩
end impl_WideCmp
abbrev ins_impl_comparePairs : List Par := [.v false [CT.int .i64], .v false [CT.int .i64], .v false [CT.int .i64], .v false [CT.int .i64]]
abbrev outs_impl_comparePairs : List (Bool × List CT) := [(false, [CT.int .i64])]
namespace impl_comparePairs
/-! ### loop.example/g00095/impl.comparePairs (function 127) -/
noncomputable def ztbl : Tbl := tblL [(129, [], S_impl_product), (139, [], S_impl_WideCmp)]
noncomputable def zbody : Code := ((Tryz.prog.funcs[127]?).bind (·.body)).getD .skip
def zcfg : Nat → List Nat × List Nat := fun k => ([], [])
noncomputable def T  (a b c d : Int) : Option (Int × Unit) := (F_impl_product (a, b, ())).bind fun y1 => (F_impl_product (c, d, ())).bind fun y2 => (F_impl_WideCmp (y1.1, y1.2.1, y2.1, y2.2.1, ())).bind fun y3 => some (y3.1, ())
theorem ztop (k0 : Nat) (a b c d : Int) : runFn Tryz.prog ztbl zcfg k0 127 ins_impl_comparePairs outs_impl_comparePairs [] (a, b, c, d, ()) = T  a b c d := by kernel_rfl
noncomputable def _root_.Go.Rv.F_impl_comparePairs : U5 → Option (Int × Unit) := fun x => T x.1 x.2.1 x.2.2.1 x.2.2.2.1
noncomputable abbrev _root_.Go.Rv.S_impl_comparePairs : Summ := ⟨ins_impl_comparePairs, outs_impl_comparePairs, F_impl_comparePairs, []⟩
theorem _root_.Go.Rv.ok_impl_comparePairs : SumOK Dr Tryz.prog 127 S_impl_comparePairs := runFn_ok (by kernel_rfl) (tblL_ok (.cons ok_impl_product (.cons ok_impl_WideCmp .nil))) (by kernel_rfl) fun x y h => ⟨zcfg, 0, (ztop 0 x.1 x.2.1 x.2.2.1 x.2.2.2.1).trans h⟩
end impl_comparePairs
abbrev ins_impl_Item_order : List Par := [.v true ct0, .v true ct0]
abbrev outs_impl_Item_order : List (Bool × List CT) := [(false, [CT.int .i64])]
namespace impl_Item_order
/-! ### (loop.example/g00095/impl.Item).order (function 126) -/
noncomputable def ztbl : Tbl := tblL [(70, [], S_cmp_Compare_int64), (127, [], S_impl_comparePairs), (138, [], S_cmp_Or_int)]
noncomputable def zbody : Code := ((Tryz.prog.funcs[126]?).bind (·.body)).getD .skip
def zcfg : Nat → List Nat × List Nat := fun k => ([], [])
noncomputable def T  (a0 a1 a2 b0 b1 b2 : Int) : Option (Int × Unit) := (F_impl_comparePairs (a1, b2, b1, a2, ())).bind fun y1 => (F_cmp_Compare_int64 (a0, b0, ())).bind fun y2 => (F_cmp_Or_int ([(y1.1, ()), (y2.1, ())], ())).bind fun y3 => some (y3.1, ())
theorem ztop (k0 : Nat) (a0 a1 a2 b0 b1 b2 : Int) : runFn Tryz.prog ztbl zcfg k0 126 ins_impl_Item_order outs_impl_Item_order [] (a0, a1, a2, b0, b1, b2, ()) = T  a0 a1 a2 b0 b1 b2 := by kernel_rfl
noncomputable def _root_.Go.Rv.F_impl_Item_order : U3 → Option (Int × Unit) := fun x => T x.1 x.2.1 x.2.2.1 x.2.2.2.1 x.2.2.2.2.1 x.2.2.2.2.2.1
noncomputable abbrev _root_.Go.Rv.S_impl_Item_order : Summ := ⟨ins_impl_Item_order, outs_impl_Item_order, F_impl_Item_order, []⟩
theorem _root_.Go.Rv.ok_impl_Item_order : SumOK Dr Tryz.prog 126 S_impl_Item_order := runFn_ok (by kernel_rfl) (tblL_ok (.cons ok_cmp_Compare_int64 (.cons ok_impl_comparePairs (.cons ok_cmp_Or_int .nil)))) (by kernel_rfl) fun x y h => ⟨zcfg, 0, (ztop 0 x.1 x.2.1 x.2.2.1 x.2.2.2.1 x.2.2.2.2.1 x.2.2.2.2.2.1).trans h⟩
end impl_Item_order

end Go.Rv
