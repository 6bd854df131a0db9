/- What functions come to on pure values (printed by a program of ours). -/
import Derived.Test.YtipgjgcpfppeeaaGreatRvD
import Derived.Test.YtipgjgcpfppeeaaGreatProg
import Derived.KernelRfl
set_option linter.unusedVariables false
set_option linter.unusedSimpArgs false
set_option linter.unusedSectionVars false
set_option maxRecDepth 100000
namespace Go.Rv
open Go.Proofs
variable {Dr : Kn}
abbrev ct0 : List CT := [CT.int .i64, CT.int .i64, CT.int .i64]
abbrev ct1 : List CT := [CT.int .u64, CT.int .u64]
abbrev ct2 : List CT := [CT.int .i64, CT.int .i64, CT.int .i64, CT.int .i64]
abbrev ct3 : List CT := [CT.int .i64, CT.int .i64, CT.int .i64, CT.int .i64, CT.sl ct2, CT.sl ct2, CT.sl ct0]
abbrev ct4 : List CT := [CT.int .i64, CT.sl ct2, CT.sl ct2]
abbrev ct5 : List CT := [CT.int .i64, CT.int .i64, CT.int .i64, CT.int .i64, CT.int .i64, CT.int .i64]
abbrev ct6 : List CT := [CT.int .i64, CT.int .i64]
abbrev ct7 : List CT := [CT.int .u64, CT.int .u64, CT.bool, CT.int .i64]
abbrev ct8 : List CT := [CT.int .u64, CT.int .u64, CT.int .u64]
abbrev ct9 : List CT := [CT.sl [CT.int .i64], CT.int .i64, CT.int .i64, CT.int .i64, CT.sl [CT.bool]]
def ct5s0 (p : Int × Int × Int × Int × Int × Int × Unit) (x : Int) : Int × Int × Int × Int × Int × Int × Unit := (x, p.2.1, p.2.2.1, p.2.2.2.1, p.2.2.2.2.1, p.2.2.2.2.2.1, ())
def ct5s1 (p : Int × Int × Int × Int × Int × Int × Unit) (x : Int) : Int × Int × Int × Int × Int × Int × Unit := (p.1, x, p.2.2.1, p.2.2.2.1, p.2.2.2.2.1, p.2.2.2.2.2.1, ())
def ct5s2 (p : Int × Int × Int × Int × Int × Int × Unit) (x : Int) : Int × Int × Int × Int × Int × Int × Unit := (p.1, p.2.1, x, p.2.2.2.1, p.2.2.2.2.1, p.2.2.2.2.2.1, ())
def ct5s3 (p : Int × Int × Int × Int × Int × Int × Unit) (x : Int) : Int × Int × Int × Int × Int × Int × Unit := (p.1, p.2.1, p.2.2.1, x, p.2.2.2.2.1, p.2.2.2.2.2.1, ())
def ct5s4 (p : Int × Int × Int × Int × Int × Int × Unit) (x : Int) : Int × Int × Int × Int × Int × Int × Unit := (p.1, p.2.1, p.2.2.1, p.2.2.2.1, x, p.2.2.2.2.2.1, ())
def ct5s5 (p : Int × Int × Int × Int × Int × Int × Unit) (x : Int) : Int × Int × Int × Int × Int × Int × Unit := (p.1, p.2.1, p.2.2.1, p.2.2.2.1, p.2.2.2.2.1, x, ())
/-- what is known of the worlds here -/
abbrev KN : Kn := Kn.no
abbrev ins_cmp_isNaN_int64 : List Par := [.v false [CT.int .i64]]
abbrev outs_cmp_isNaN_int64 : List (Bool × List CT) := [(false, [CT.bool])]
namespace cmp_isNaN_int64
/-! ### cmp.isNaN[int64] (function 88) -/
noncomputable def ztbl : Tbl := fun g fs => none
noncomputable def zbody : Code := ((Tryz.prog.funcs[88]?).bind (·.body)).getD .skip
def zcfg : Nat → List Nat × List Nat := fun k => ([], [])
noncomputable def T  (x : Int) : Option (Bool × Unit) := some ((x != x), ())
theorem ztop (k0 : Nat) (x : Int) : runFn Tryz.prog ztbl zcfg k0 88 ins_cmp_isNaN_int64 outs_cmp_isNaN_int64 [] (x, ()) = T  x := by kernel_rfl
noncomputable def _root_.Go.Rv.F_cmp_isNaN_int64 : Int × Unit → Option (Bool × Unit) := fun x => T x.1
theorem ztblOK : ∀ g fs S, ztbl g fs = some S → SumOK Dr Tryz.prog g S := by
  intro g fs S h
  unfold ztbl at h
  cases h
theorem _root_.Go.Rv.ok_cmp_isNaN_int64 : SumOK Dr Tryz.prog 88 ⟨ins_cmp_isNaN_int64, outs_cmp_isNaN_int64, F_cmp_isNaN_int64, []⟩ := runFn_ok (by kernel_rfl) ztblOK (by kernel_rfl) fun x y h => ⟨zcfg, 0, (ztop 0 x.1).trans h⟩
end cmp_isNaN_int64
abbrev ins_cmp_Compare_int64 : List Par := [.v false [CT.int .i64], .v false [CT.int .i64]]
abbrev outs_cmp_Compare_int64 : List (Bool × List CT) := [(false, [CT.int .i64])]
namespace cmp_Compare_int64
/-! ### cmp.Compare[int64] (function 80) -/
noncomputable def ztbl : Tbl := fun g fs => if g = 88 ∧ fs = [] then some ⟨ins_cmp_isNaN_int64, outs_cmp_isNaN_int64, F_cmp_isNaN_int64, []⟩ else none
noncomputable def zbody : Code := ((Tryz.prog.funcs[80]?).bind (·.body)).getD .skip
def zcfg : Nat → List Nat × List Nat := fun k => ([], [])
noncomputable def T  (x y : Int) : Option (Int × Unit) := (F_cmp_isNaN_int64 (x, ())).bind fun y1 => (F_cmp_isNaN_int64 (y, ())).bind fun y2 => cond y1.1 (cond y2.1 (some (0, ())) (some ((-1), ()))) (cond y2.1 (some (1, ())) (cond (decide (x < y)) (some ((-1), ())) (cond (decide (x > y)) (some (1, ())) (some (0, ())))))
theorem ztop (k0 : Nat) (x y : Int) : runFn Tryz.prog ztbl zcfg k0 80 ins_cmp_Compare_int64 outs_cmp_Compare_int64 [] (x, y, ()) = T  x y := by kernel_rfl
noncomputable def _root_.Go.Rv.F_cmp_Compare_int64 : Int × Int × Unit → Option (Int × Unit) := fun x => T x.1 x.2.1
theorem ztblOK : ∀ g fs S, ztbl g fs = some S → SumOK Dr Tryz.prog g S := by
  intro g fs S h
  unfold ztbl at h
  split at h
  · rename_i hc; obtain ⟨rfl, rfl⟩ := hc; have := Option.some.inj h; subst this; exact ok_cmp_isNaN_int64
  cases h
theorem _root_.Go.Rv.ok_cmp_Compare_int64 : SumOK Dr Tryz.prog 80 ⟨ins_cmp_Compare_int64, outs_cmp_Compare_int64, F_cmp_Compare_int64, []⟩ := runFn_ok (by kernel_rfl) ztblOK (by kernel_rfl) fun x y h => ⟨zcfg, 0, (ztop 0 x.1 x.2.1).trans h⟩
end cmp_Compare_int64
abbrev ins_math_bits_Mul64 : List Par := [.v false [CT.int .u64], .v false [CT.int .u64]]
abbrev outs_math_bits_Mul64 : List (Bool × List CT) := [(false, [CT.int .u64]), (false, [CT.int .u64])]
namespace math_bits_Mul64
/-! ### math/bits.Mul64 (function 108) -/
noncomputable def ztbl : Tbl := fun g fs => none
noncomputable def zbody : Code := ((Tryz.prog.funcs[108]?).bind (·.body)).getD .skip
def zcfg : Nat → List Nat × List Nat := fun k => ([], [])
noncomputable def T  (x y : Int) : Option (Int × Int × Unit) := some ((IntKind.u64.wrap ((IntKind.u64.wrap ((IntKind.u64.wrap ((Int.fdiv x (2 ^ 32)) * (Int.fdiv y (2 ^ 32)))) + (Int.fdiv (IntKind.u64.wrap ((IntKind.u64.wrap ((Int.fdiv x (2 ^ 32)) * (IntKind.u64.wrap (((BitVec.ofInt 64 y) &&& (BitVec.ofInt 64 4294967295)).toNat)))) + (Int.fdiv (IntKind.u64.wrap ((IntKind.u64.wrap (((BitVec.ofInt 64 x) &&& (BitVec.ofInt 64 4294967295)).toNat)) * (IntKind.u64.wrap (((BitVec.ofInt 64 y) &&& (BitVec.ofInt 64 4294967295)).toNat)))) (2 ^ 32)))) (2 ^ 32)))) + (Int.fdiv (IntKind.u64.wrap ((IntKind.u64.wrap (((BitVec.ofInt 64 (IntKind.u64.wrap ((IntKind.u64.wrap ((Int.fdiv x (2 ^ 32)) * (IntKind.u64.wrap (((BitVec.ofInt 64 y) &&& (BitVec.ofInt 64 4294967295)).toNat)))) + (Int.fdiv (IntKind.u64.wrap ((IntKind.u64.wrap (((BitVec.ofInt 64 x) &&& (BitVec.ofInt 64 4294967295)).toNat)) * (IntKind.u64.wrap (((BitVec.ofInt 64 y) &&& (BitVec.ofInt 64 4294967295)).toNat)))) (2 ^ 32))))) &&& (BitVec.ofInt 64 4294967295)).toNat)) + (IntKind.u64.wrap ((IntKind.u64.wrap (((BitVec.ofInt 64 x) &&& (BitVec.ofInt 64 4294967295)).toNat)) * (Int.fdiv y (2 ^ 32)))))) (2 ^ 32)))), (IntKind.u64.wrap (x * y)), ())
theorem ztop (k0 : Nat) (x y : Int) : runFn Tryz.prog ztbl zcfg k0 108 ins_math_bits_Mul64 outs_math_bits_Mul64 [] (x, y, ()) = T  x y := by kernel_rfl
noncomputable def _root_.Go.Rv.F_math_bits_Mul64 : Int × Int × Unit → Option (Int × Int × Unit) := fun x => T x.1 x.2.1
theorem ztblOK : ∀ g fs S, ztbl g fs = some S → SumOK Dr Tryz.prog g S := by
  intro g fs S h
  unfold ztbl at h
  cases h
theorem _root_.Go.Rv.ok_math_bits_Mul64 : SumOK Dr Tryz.prog 108 ⟨ins_math_bits_Mul64, outs_math_bits_Mul64, F_math_bits_Mul64, []⟩ := runFn_ok (by kernel_rfl) ztblOK (by kernel_rfl) fun x y h => ⟨zcfg, 0, (ztop 0 x.1 x.2.1).trans h⟩
end math_bits_Mul64
abbrev ins_impl_WideMul : List Par := [.v false [CT.int .u64], .v false [CT.int .u64]]
abbrev outs_impl_WideMul : List (Bool × List CT) := [(true, ct1)]
namespace impl_WideMul
/-! ### loop.example/g00095/impl.WideMul (function 102) -/
noncomputable def ztbl : Tbl := fun g fs => if g = 108 ∧ fs = [] then some ⟨ins_math_bits_Mul64, outs_math_bits_Mul64, F_math_bits_Mul64, []⟩ else none
noncomputable def zbody : Code := ((Tryz.prog.funcs[102]?).bind (·.body)).getD .skip
def zcfg : Nat → List Nat × List Nat := fun k => ([], [])
noncomputable def T  (a b : Int) : Option (Int × Int × Unit) := (F_math_bits_Mul64 (a, b, ())).bind fun y1 => some (y1.1, y1.2.1, ())
theorem ztop (k0 : Nat) (a b : Int) : runFn Tryz.prog ztbl zcfg k0 102 ins_impl_WideMul outs_impl_WideMul [] (a, b, ()) = T  a b := by kernel_rfl
noncomputable def _root_.Go.Rv.F_impl_WideMul : Int × Int × Unit → Option (Int × Int × Unit) := fun x => T x.1 x.2.1
theorem ztblOK : ∀ g fs S, ztbl g fs = some S → SumOK Dr Tryz.prog g S := by
  intro g fs S h
  unfold ztbl at h
  split at h
  · rename_i hc; obtain ⟨rfl, rfl⟩ := hc; have := Option.some.inj h; subst this; exact ok_math_bits_Mul64
  cases h
theorem _root_.Go.Rv.ok_impl_WideMul : SumOK Dr Tryz.prog 102 ⟨ins_impl_WideMul, outs_impl_WideMul, F_impl_WideMul, []⟩ := runFn_ok (by kernel_rfl) ztblOK (by kernel_rfl) fun x y h => ⟨zcfg, 0, (ztop 0 x.1 x.2.1).trans h⟩
end impl_WideMul
abbrev ins_impl_product : List Par := [.v false [CT.int .i64], .v false [CT.int .i64]]
abbrev outs_impl_product : List (Bool × List CT) := [(true, ct1)]
namespace impl_product
/-! ### loop.example/g00095/impl.product (function 95) -/
noncomputable def ztbl : Tbl := fun g fs => if g = 102 ∧ fs = [] then some ⟨ins_impl_WideMul, outs_impl_WideMul, F_impl_WideMul, []⟩ else none
noncomputable def zbody : Code := ((Tryz.prog.funcs[95]?).bind (·.body)).getD .skip
def zcfg : Nat → List Nat × List Nat := fun k => ([], [])
noncomputable def T  (a b : Int) : Option (Int × Int × Unit) := (F_impl_WideMul ((IntKind.u64.wrap (a)), (IntKind.u64.wrap (b)), ())).bind fun y1 => some (y1.1, y1.2.1, ())
theorem ztop (k0 : Nat) (a b : Int) : runFn Tryz.prog ztbl zcfg k0 95 ins_impl_product outs_impl_product [] (a, b, ()) = T  a b := by kernel_rfl
noncomputable def _root_.Go.Rv.F_impl_product : Int × Int × Unit → Option (Int × Int × Unit) := fun x => T x.1 x.2.1
theorem ztblOK : ∀ g fs S, ztbl g fs = some S → SumOK Dr Tryz.prog g S := by
  intro g fs S h
  unfold ztbl at h
  split at h
  · rename_i hc; obtain ⟨rfl, rfl⟩ := hc; have := Option.some.inj h; subst this; exact ok_impl_WideMul
  cases h
theorem _root_.Go.Rv.ok_impl_product : SumOK Dr Tryz.prog 95 ⟨ins_impl_product, outs_impl_product, F_impl_product, []⟩ := runFn_ok (by kernel_rfl) ztblOK (by kernel_rfl) fun x y h => ⟨zcfg, 0, (ztop 0 x.1 x.2.1).trans h⟩
end impl_product
abbrev ins_cmp_Or_int : List Par := [.v false [CT.sl [CT.int .i64]]]
abbrev outs_cmp_Or_int : List (Bool × List CT) := [(false, [CT.int .i64])]
namespace cmp_Or_int
/-! ### cmp.Or[int] (function 99) -/
noncomputable def ztbl : Tbl := fun g fs => none
noncomputable def zbody : Code := ((Tryz.prog.funcs[99]?).bind (·.body)).getD .skip
def zcfg : Nat → List Nat × List Nat := fun k => if k = 3 then ([3, 6, 7, 8], [2, 3]) else ([], [])
noncomputable def R0 {R : Type} (nx0 : (Int → (List (Int × Unit)) → Int → Int → Option R)) (ex0 : (Int → Int → Option R)) (ex1 : (Int → Option R)) (zero : Int) (t6x : List (Int × Unit)) (t7x t8x : Int) : Option R := cond (decide (t8x < t7x)) (if 0 ≤ t8x ∧ t8x < (t6x.length : Int) then cond ((rd (0, ()) t6x t8x).1 != zero) (ex0 ((rd (0, ()) t6x t8x).1) zero) (nx0 zero t6x t7x (w64 (t8x + 1))) else none) (ex1 zero)
noncomputable def A0  (vals : List (Int × Unit)) (t2x zero : Int) : Option (Int × Unit) := some (t2x, ())
noncomputable def A1  (vals : List (Int × Unit)) (zero : Int) : Option (Int × Unit) := some (zero, ())
noncomputable def T (lo0 : (Int → (List (Int × Unit)) → Int → Int → Option (Int × Unit))) (vals : List (Int × Unit)) : Option (Int × Unit) := lo0 0 vals (vals.length : Int) 0
noncomputable def zst0 {R : Type} (k0 : Nat) : Env → List Ob → Kont R → Option R := fun env ob K => runCode Tryz.prog ztbl 18 0 zcfg k0 (codeAt [1, 1, 0, 1, 0, 0] zbody) env ob K
noncomputable def K0 {R : Type} (k0 : Nat) (K : Kont R) : Kont R := blockK 0 (seqK (fun env ob => runCode Tryz.prog ztbl 18 0 zcfg k0 (codeAt [1, 1, 1] zbody) env ob (K)) (K))
noncomputable def L0 {R : Type} (k0 k : Nat) (K : Kont R) (zero : Int) (t6x : List (Int × Unit)) (t7x t8x : Int) : Option R := iter 0 [3, 6, 7, 8] [2, 3] (zst0 k0) k [(3, .int .i64 zero), (6, .sl [CT.int .i64] t6x), (7, .int .i64 t7x), (8, .int .i64 t8x)] [] K
theorem zs0 {R : Type} (k0 k : Nat) (K : Kont R) (zero : Int) (t6x : List (Int × Unit)) (t7x t8x : Int) : L0 k0 (k + 1) K zero t6x t7x t8x = R0 (L0 k0 k K) (fun t2x zero => K .ret [(2, .int .i64 t2x), (3, .int .i64 zero)] []) (fun zero => K (.exit 0) [(2, .undef), (3, .int .i64 zero)] []) zero t6x t7x t8x := by kernel_rfl
theorem za0 (k0 : Nat) (vals : List (Int × Unit)) (t2x zero : Int) : K0 (R := (Int × Unit)) k0 (finK Tryz.prog [.tmp 2] ins_cmp_Or_int outs_cmp_Or_int (vals, ())) .ret [(2, .int .i64 t2x), (3, .int .i64 zero)] [] = A0  vals t2x zero := by kernel_rfl
theorem za1 (k0 : Nat) (vals : List (Int × Unit)) (zero : Int) : K0 (R := (Int × Unit)) k0 (finK Tryz.prog [.tmp 2] ins_cmp_Or_int outs_cmp_Or_int (vals, ())) (.exit 0) [(2, .undef), (3, .int .i64 zero)] [] = A1  vals zero := by kernel_rfl
theorem ztop (k0 : Nat) (vals : List (Int × Unit)) : runFn Tryz.prog ztbl zcfg k0 99 ins_cmp_Or_int outs_cmp_Or_int [] (vals, ()) = T (L0 (R := (Int × Unit)) k0 k0 (K0 (R := (Int × Unit)) k0 ((finK Tryz.prog [.tmp 2] ins_cmp_Or_int outs_cmp_Or_int (vals, ()))))) vals := by kernel_rfl
noncomputable def G0 {R : Type} (k0 : Nat) (hx0 : (Int → Int → Option R)) (hx1 : (Int → Option R)) : Nat → Int → (List (Int × Unit)) → Int → Int → Option R
  | 0, _, _, _, _ => none
  | k + 1, zero, t6x, t7x, t8x => R0 (G0 k0 hx0 hx1 k) hx0 hx1 zero t6x t7x t8x
theorem zg0 {R : Type} (k0 : Nat) (K : Kont R) : ∀ k : Nat, L0 k0 k K = G0 k0 (fun t2x zero => K .ret [(2, .int .i64 t2x), (3, .int .i64 zero)] []) (fun zero => K (.exit 0) [(2, .undef), (3, .int .i64 zero)] []) k := by
  intro k
  induction k with
  | zero => funext zero t6x t7x t8x; rfl
  | succ k ih => funext zero t6x t7x t8x; rw [zs0, G0]; (try simp only [ih]); try rfl
noncomputable def FF (k0 : Nat) (vals : List (Int × Unit)) : Option (Int × Unit) := T (G0 k0 (A0  vals) (A1  vals) k0) vals
theorem zrun (k0 : Nat) (vals : List (Int × Unit)) : runFn Tryz.prog ztbl zcfg k0 99 ins_cmp_Or_int outs_cmp_Or_int [] (vals, ()) = FF k0 vals := by
  rw [ztop, FF]; (try simp only [zg0, za0, za1]); try rfl
noncomputable def _root_.Go.Rv.F_cmp_Or_int : (List (Int × Unit)) × Unit → Option (Int × Unit) := fun x => (fun (vals : List (Int × Unit)) => FF (300 + vals.length) vals) x.1
theorem ztblOK : ∀ g fs S, ztbl g fs = some S → SumOK Dr Tryz.prog g S := by
  intro g fs S h
  unfold ztbl at h
  cases h
theorem _root_.Go.Rv.ok_cmp_Or_int : SumOK Dr Tryz.prog 99 ⟨ins_cmp_Or_int, outs_cmp_Or_int, F_cmp_Or_int, []⟩ := runFn_ok (by kernel_rfl) ztblOK (by kernel_rfl) fun x y h => ⟨zcfg, _, (zrun _ x.1).trans h⟩
end cmp_Or_int
abbrev ins_cmp_isNaN_uint64 : List Par := [.v false [CT.int .u64]]
abbrev outs_cmp_isNaN_uint64 : List (Bool × List CT) := [(false, [CT.bool])]
namespace cmp_isNaN_uint64
/-! ### cmp.isNaN[uint64] (function 119) -/
noncomputable def ztbl : Tbl := fun g fs => none
noncomputable def zbody : Code := ((Tryz.prog.funcs[119]?).bind (·.body)).getD .skip
def zcfg : Nat → List Nat × List Nat := fun k => ([], [])
noncomputable def T  (x : Int) : Option (Bool × Unit) := some ((x != x), ())
theorem ztop (k0 : Nat) (x : Int) : runFn Tryz.prog ztbl zcfg k0 119 ins_cmp_isNaN_uint64 outs_cmp_isNaN_uint64 [] (x, ()) = T  x := by kernel_rfl
noncomputable def _root_.Go.Rv.F_cmp_isNaN_uint64 : Int × Unit → Option (Bool × Unit) := fun x => T x.1
theorem ztblOK : ∀ g fs S, ztbl g fs = some S → SumOK Dr Tryz.prog g S := by
  intro g fs S h
  unfold ztbl at h
  cases h
theorem _root_.Go.Rv.ok_cmp_isNaN_uint64 : SumOK Dr Tryz.prog 119 ⟨ins_cmp_isNaN_uint64, outs_cmp_isNaN_uint64, F_cmp_isNaN_uint64, []⟩ := runFn_ok (by kernel_rfl) ztblOK (by kernel_rfl) fun x y h => ⟨zcfg, 0, (ztop 0 x.1).trans h⟩
end cmp_isNaN_uint64
abbrev ins_cmp_Compare_uint64 : List Par := [.v false [CT.int .u64], .v false [CT.int .u64]]
abbrev outs_cmp_Compare_uint64 : List (Bool × List CT) := [(false, [CT.int .i64])]
namespace cmp_Compare_uint64
/-! ### cmp.Compare[uint64] (function 106) -/
noncomputable def ztbl : Tbl := fun g fs => if g = 119 ∧ fs = [] then some ⟨ins_cmp_isNaN_uint64, outs_cmp_isNaN_uint64, F_cmp_isNaN_uint64, []⟩ else none
noncomputable def zbody : Code := ((Tryz.prog.funcs[106]?).bind (·.body)).getD .skip
def zcfg : Nat → List Nat × List Nat := fun k => ([], [])
noncomputable def T  (x y : Int) : Option (Int × Unit) := (F_cmp_isNaN_uint64 (x, ())).bind fun y1 => (F_cmp_isNaN_uint64 (y, ())).bind fun y2 => cond y1.1 (cond y2.1 (some (0, ())) (some ((-1), ()))) (cond y2.1 (some (1, ())) (cond (decide (x < y)) (some ((-1), ())) (cond (decide (x > y)) (some (1, ())) (some (0, ())))))
theorem ztop (k0 : Nat) (x y : Int) : runFn Tryz.prog ztbl zcfg k0 106 ins_cmp_Compare_uint64 outs_cmp_Compare_uint64 [] (x, y, ()) = T  x y := by kernel_rfl
noncomputable def _root_.Go.Rv.F_cmp_Compare_uint64 : Int × Int × Unit → Option (Int × Unit) := fun x => T x.1 x.2.1
theorem ztblOK : ∀ g fs S, ztbl g fs = some S → SumOK Dr Tryz.prog g S := by
  intro g fs S h
  unfold ztbl at h
  split at h
  · rename_i hc; obtain ⟨rfl, rfl⟩ := hc; have := Option.some.inj h; subst this; exact ok_cmp_isNaN_uint64
  cases h
theorem _root_.Go.Rv.ok_cmp_Compare_uint64 : SumOK Dr Tryz.prog 106 ⟨ins_cmp_Compare_uint64, outs_cmp_Compare_uint64, F_cmp_Compare_uint64, []⟩ := runFn_ok (by kernel_rfl) ztblOK (by kernel_rfl) fun x y h => ⟨zcfg, 0, (ztop 0 x.1 x.2.1).trans h⟩
end cmp_Compare_uint64
abbrev ins_impl_WideCmp : List Par := [.v true ct1, .v true ct1]
abbrev outs_impl_WideCmp : List (Bool × List CT) := [(false, [CT.int .i64])]
namespace impl_WideCmp
/-! ### loop.example/g00095/impl.WideCmp (function 100) -/
noncomputable def ztbl : Tbl := fun g fs => if g = 99 ∧ fs = [] then some ⟨ins_cmp_Or_int, outs_cmp_Or_int, F_cmp_Or_int, []⟩ else if g = 106 ∧ fs = [] then some ⟨ins_cmp_Compare_uint64, outs_cmp_Compare_uint64, F_cmp_Compare_uint64, []⟩ else none
noncomputable def zbody : Code := ((Tryz.prog.funcs[100]?).bind (·.body)).getD .skip
def zcfg : Nat → List Nat × List Nat := fun k => ([], [])
noncomputable def T  (a0 a1 b0 b1 : Int) : Option (Int × Unit) := (F_cmp_Compare_uint64 (a0, b0, ())).bind fun y1 => (F_cmp_Compare_uint64 (a1, b1, ())).bind fun y2 => (F_cmp_Or_int ([(y1.1, ()), (y2.1, ())], ())).bind fun y3 => some (y3.1, ())
theorem ztop (k0 : Nat) (a0 a1 b0 b1 : Int) : runFn Tryz.prog ztbl zcfg k0 100 ins_impl_WideCmp outs_impl_WideCmp [] (a0, a1, b0, b1, ()) = T  a0 a1 b0 b1 := by kernel_rfl
noncomputable def _root_.Go.Rv.F_impl_WideCmp : Int × Int × Int × Int × Unit → Option (Int × Unit) := fun x => T x.1 x.2.1 x.2.2.1 x.2.2.2.1
theorem ztblOK : ∀ g fs S, ztbl g fs = some S → SumOK Dr Tryz.prog g S := by
  intro g fs S h
  unfold ztbl at h
  split at h
  · rename_i hc; obtain ⟨rfl, rfl⟩ := hc; have := Option.some.inj h; subst this; exact ok_cmp_Or_int
  split at h
  · rename_i hc; obtain ⟨rfl, rfl⟩ := hc; have := Option.some.inj h; subst this; exact ok_cmp_Compare_uint64
  cases h
theorem _root_.Go.Rv.ok_impl_WideCmp : SumOK Dr Tryz.prog 100 ⟨ins_impl_WideCmp, outs_impl_WideCmp, F_impl_WideCmp, []⟩ := runFn_ok (by kernel_rfl) ztblOK (by kernel_rfl) fun x y h => ⟨zcfg, 0, (ztop 0 x.1 x.2.1 x.2.2.1 x.2.2.2.1).trans h⟩
end impl_WideCmp
abbrev ins_impl_comparePairs : List Par := [.v false [CT.int .i64], .v false [CT.int .i64], .v false [CT.int .i64], .v false [CT.int .i64]]
abbrev outs_impl_comparePairs : List (Bool × List CT) := [(false, [CT.int .i64])]
namespace impl_comparePairs
/-! ### loop.example/g00095/impl.comparePairs (function 93) -/
noncomputable def ztbl : Tbl := fun g fs => if g = 95 ∧ fs = [] then some ⟨ins_impl_product, outs_impl_product, F_impl_product, []⟩ else if g = 100 ∧ fs = [] then some ⟨ins_impl_WideCmp, outs_impl_WideCmp, F_impl_WideCmp, []⟩ else none
noncomputable def zbody : Code := ((Tryz.prog.funcs[93]?).bind (·.body)).getD .skip
def zcfg : Nat → List Nat × List Nat := fun k => ([], [])
noncomputable def T  (a b c d : Int) : Option (Int × Unit) := (F_impl_product (a, b, ())).bind fun y1 => (F_impl_product (c, d, ())).bind fun y2 => (F_impl_WideCmp (y1.1, y1.2.1, y2.1, y2.2.1, ())).bind fun y3 => some (y3.1, ())
theorem ztop (k0 : Nat) (a b c d : Int) : runFn Tryz.prog ztbl zcfg k0 93 ins_impl_comparePairs outs_impl_comparePairs [] (a, b, c, d, ()) = T  a b c d := by kernel_rfl
noncomputable def _root_.Go.Rv.F_impl_comparePairs : Int × Int × Int × Int × Unit → Option (Int × Unit) := fun x => T x.1 x.2.1 x.2.2.1 x.2.2.2.1
theorem ztblOK : ∀ g fs S, ztbl g fs = some S → SumOK Dr Tryz.prog g S := by
  intro g fs S h
  unfold ztbl at h
  split at h
  · rename_i hc; obtain ⟨rfl, rfl⟩ := hc; have := Option.some.inj h; subst this; exact ok_impl_product
  split at h
  · rename_i hc; obtain ⟨rfl, rfl⟩ := hc; have := Option.some.inj h; subst this; exact ok_impl_WideCmp
  cases h
theorem _root_.Go.Rv.ok_impl_comparePairs : SumOK Dr Tryz.prog 93 ⟨ins_impl_comparePairs, outs_impl_comparePairs, F_impl_comparePairs, []⟩ := runFn_ok (by kernel_rfl) ztblOK (by kernel_rfl) fun x y h => ⟨zcfg, 0, (ztop 0 x.1 x.2.1 x.2.2.1 x.2.2.2.1).trans h⟩
end impl_comparePairs
abbrev ins_impl_Item_order : List Par := [.v true ct0, .v true ct0]
abbrev outs_impl_Item_order : List (Bool × List CT) := [(false, [CT.int .i64])]
namespace impl_Item_order
/-! ### (loop.example/g00095/impl.Item).order (function 92) -/
noncomputable def ztbl : Tbl := fun g fs => if g = 80 ∧ fs = [] then some ⟨ins_cmp_Compare_int64, outs_cmp_Compare_int64, F_cmp_Compare_int64, []⟩ else if g = 93 ∧ fs = [] then some ⟨ins_impl_comparePairs, outs_impl_comparePairs, F_impl_comparePairs, []⟩ else if g = 99 ∧ fs = [] then some ⟨ins_cmp_Or_int, outs_cmp_Or_int, F_cmp_Or_int, []⟩ else none
noncomputable def zbody : Code := ((Tryz.prog.funcs[92]?).bind (·.body)).getD .skip
def zcfg : Nat → List Nat × List Nat := fun k => ([], [])
noncomputable def T  (a0 a1 a2 b0 b1 b2 : Int) : Option (Int × Unit) := (F_impl_comparePairs (a1, b2, b1, a2, ())).bind fun y1 => (F_cmp_Compare_int64 (a0, b0, ())).bind fun y2 => (F_cmp_Or_int ([(y1.1, ()), (y2.1, ())], ())).bind fun y3 => some (y3.1, ())
theorem ztop (k0 : Nat) (a0 a1 a2 b0 b1 b2 : Int) : runFn Tryz.prog ztbl zcfg k0 92 ins_impl_Item_order outs_impl_Item_order [] (a0, a1, a2, b0, b1, b2, ()) = T  a0 a1 a2 b0 b1 b2 := by kernel_rfl
noncomputable def _root_.Go.Rv.F_impl_Item_order : Int × Int × Int × Int × Int × Int × Unit → Option (Int × Unit) := fun x => T x.1 x.2.1 x.2.2.1 x.2.2.2.1 x.2.2.2.2.1 x.2.2.2.2.2.1
theorem ztblOK : ∀ g fs S, ztbl g fs = some S → SumOK Dr Tryz.prog g S := by
  intro g fs S h
  unfold ztbl at h
  split at h
  · rename_i hc; obtain ⟨rfl, rfl⟩ := hc; have := Option.some.inj h; subst this; exact ok_cmp_Compare_int64
  split at h
  · rename_i hc; obtain ⟨rfl, rfl⟩ := hc; have := Option.some.inj h; subst this; exact ok_impl_comparePairs
  split at h
  · rename_i hc; obtain ⟨rfl, rfl⟩ := hc; have := Option.some.inj h; subst this; exact ok_cmp_Or_int
  cases h
theorem _root_.Go.Rv.ok_impl_Item_order : SumOK Dr Tryz.prog 92 ⟨ins_impl_Item_order, outs_impl_Item_order, F_impl_Item_order, []⟩ := runFn_ok (by kernel_rfl) ztblOK (by kernel_rfl) fun x y h => ⟨zcfg, 0, (ztop 0 x.1 x.2.1 x.2.2.1 x.2.2.2.1 x.2.2.2.2.1 x.2.2.2.2.2.1).trans h⟩
end impl_Item_order

end Go.Rv
