/- What functions come to on pure values (printed by a program of ours). -/
import Derived.Test.YtipgjgcpfppeeaaDoorM03
set_option linter.unusedVariables false
set_option linter.unusedSimpArgs false
set_option linter.unusedSectionVars false
set_option maxRecDepth 100000
namespace Go.Rv
open Go.Proofs
variable {Dr : Kn}
abbrev ins_impl_dec : List Par := [.v false [CT.int .i64]]
abbrev outs_impl_dec : List (Bool × List CT) := [(false, [CT.str])]
namespace impl_dec
/-! ### loop.example/g00095/impl.dec (function 59) -/
noncomputable def ztbl : Tbl := tblL [(63, [], ⟨ins_strconv_FormatInt, outs_strconv_FormatInt, F_strconv_FormatInt, []⟩)]
noncomputable def zbody : Code := ((Tryd.prog.funcs[59]?).bind (·.body)).getD .skip
def zcfg : Nat → List Nat × List Nat := fun k => ([], [])
noncomputable def T  (n : Int) : Option (ByteArray × Unit) := (F_strconv_FormatInt (n, 10, ())).bind fun y1 => some (y1.1, ())
theorem ztop (k0 : Nat) (n : Int) : runFn Tryd.prog ztbl zcfg k0 59 ins_impl_dec outs_impl_dec [] (n, ()) = T  n := by kernel_rfl
noncomputable def _root_.Go.Rv.F_impl_dec : Int × Unit → Option (ByteArray × Unit) := fun x => T x.1
noncomputable abbrev _root_.Go.Rv.S_impl_dec : Summ := ⟨ins_impl_dec, outs_impl_dec, F_impl_dec, []⟩
theorem _root_.Go.Rv.ok_impl_dec : SumOK KN Tryd.prog 59 S_impl_dec := runFn_ok (by kernel_rfl) (tblL_ok (.cons ok_strconv_FormatInt .nil)) (by kernel_rfl) fun x y h => ⟨zcfg, 0, (ztop 0 x.1).trans h⟩
end impl_dec

end Go.Rv
