/- What functions come to on pure values (printed by a program of ours). -/
import Derived.Test.YtipgjgcpfppeeaaDoorRvD
import Derived.Test.YtipgjgcpfppeeaaDoorProg
import Derived.KernelRfl
set_option linter.unusedVariables false
set_option linter.unusedSimpArgs false
set_option linter.unusedSectionVars false
set_option maxRecDepth 100000
namespace Go.Rv
open Go.Proofs
variable {Dr : Kn}
abbrev ct0 : List CT := [CT.int .i64, CT.int .i64, CT.int .i64, CT.int .i64, CT.int .i64]
abbrev ct1 : List CT := [CT.int .i64, CT.int .i64, CT.sl ct0, CT.int .i64, CT.int .i64]
def ct0s0 (p : Int × Int × Int × Int × Int × Unit) (x : Int) : Int × Int × Int × Int × Int × Unit := (x, p.2.1, p.2.2.1, p.2.2.2.1, p.2.2.2.2.1, ())
def ct0s1 (p : Int × Int × Int × Int × Int × Unit) (x : Int) : Int × Int × Int × Int × Int × Unit := (p.1, x, p.2.2.1, p.2.2.2.1, p.2.2.2.2.1, ())
def ct0s2 (p : Int × Int × Int × Int × Int × Unit) (x : Int) : Int × Int × Int × Int × Int × Unit := (p.1, p.2.1, x, p.2.2.2.1, p.2.2.2.2.1, ())
def ct0s3 (p : Int × Int × Int × Int × Int × Unit) (x : Int) : Int × Int × Int × Int × Int × Unit := (p.1, p.2.1, p.2.2.1, x, p.2.2.2.2.1, ())
def ct0s4 (p : Int × Int × Int × Int × Int × Unit) (x : Int) : Int × Int × Int × Int × Int × Unit := (p.1, p.2.1, p.2.2.1, p.2.2.2.1, x, ())
abbrev U0 := Int × Int × (List (Int × Int × Int × Int × Int × Unit)) × Int × Int × Unit
abbrev U1 := Int × Int × Int × Int × Int × Unit
abbrev ins_spec_l02Want : List Par := [.v false [CT.int .i64]]
abbrev outs_spec_l02Want : List (Bool × List CT) := [(false, [CT.bool])]
namespace spec_l02Want
/-! ### loop.example/g00095/spec.l02Want (function 27) -/
noncomputable def ztbl : Tbl := tblL []
noncomputable def zbody : Code := ((Tryd.prog.funcs[27]?).bind (·.body)).getD .skip
def zcfg : Nat → List Nat × List Nat := fun k => ([], [])
noncomputable def T  (n : Int) : Option (Bool × Unit) := cond (decide (n ≥ 0)) (some ((decide (n ≤ 1125899906842624)), ())) (some (false, ()))
theorem ztop (k0 : Nat) (n : Int) : runFn Tryd.prog ztbl zcfg k0 27 ins_spec_l02Want outs_spec_l02Want [] (n, ()) = T  n := by kernel_rfl
noncomputable def _root_.Go.Rv.F_spec_l02Want : Int × Unit → Option (Bool × Unit) := fun x => T x.1
noncomputable abbrev _root_.Go.Rv.S_spec_l02Want : Summ := ⟨ins_spec_l02Want, outs_spec_l02Want, F_spec_l02Want, []⟩
theorem _root_.Go.Rv.ok_spec_l02Want : SumOK Dr Tryd.prog 27 S_spec_l02Want := runFn_ok (by kernel_rfl) (tblL_ok .nil) (by kernel_rfl) fun x y h => ⟨zcfg, 0, (ztop 0 x.1).trans h⟩
end spec_l02Want
abbrev ins_spec_l02Id : List Par := [.v false [CT.int .i64]]
abbrev outs_spec_l02Id : List (Bool × List CT) := [(false, [CT.bool])]
namespace spec_l02Id
/-! ### loop.example/g00095/spec.l02Id (function 41) -/
noncomputable def ztbl : Tbl := tblL []
noncomputable def zbody : Code := ((Tryd.prog.funcs[41]?).bind (·.body)).getD .skip
def zcfg : Nat → List Nat × List Nat := fun k => ([], [])
noncomputable def T  (n : Int) : Option (Bool × Unit) := cond (decide (n ≥ 1)) (some ((decide (n ≤ 1000000)), ())) (some (false, ()))
theorem ztop (k0 : Nat) (n : Int) : runFn Tryd.prog ztbl zcfg k0 41 ins_spec_l02Id outs_spec_l02Id [] (n, ()) = T  n := by kernel_rfl
noncomputable def _root_.Go.Rv.F_spec_l02Id : Int × Unit → Option (Bool × Unit) := fun x => T x.1
noncomputable abbrev _root_.Go.Rv.S_spec_l02Id : Summ := ⟨ins_spec_l02Id, outs_spec_l02Id, F_spec_l02Id, []⟩
theorem _root_.Go.Rv.ok_spec_l02Id : SumOK Dr Tryd.prog 41 S_spec_l02Id := runFn_ok (by kernel_rfl) (tblL_ok .nil) (by kernel_rfl) fun x y h => ⟨zcfg, 0, (ztop 0 x.1).trans h⟩
end spec_l02Id
abbrev ins_spec_l02Weight : List Par := [.v false [CT.int .i64]]
abbrev outs_spec_l02Weight : List (Bool × List CT) := [(false, [CT.bool])]
namespace spec_l02Weight
/-! ### loop.example/g00095/spec.l02Weight (function 42) -/
noncomputable def ztbl : Tbl := tblL []
noncomputable def zbody : Code := ((Tryd.prog.funcs[42]?).bind (·.body)).getD .skip
def zcfg : Nat → List Nat × List Nat := fun k => ([], [])
noncomputable def T  (n : Int) : Option (Bool × Unit) := cond (decide (n ≥ 1)) (some ((decide (n ≤ 1073741824)), ())) (some (false, ()))
theorem ztop (k0 : Nat) (n : Int) : runFn Tryd.prog ztbl zcfg k0 42 ins_spec_l02Weight outs_spec_l02Weight [] (n, ()) = T  n := by kernel_rfl
noncomputable def _root_.Go.Rv.F_spec_l02Weight : Int × Unit → Option (Bool × Unit) := fun x => T x.1
noncomputable abbrev _root_.Go.Rv.S_spec_l02Weight : Summ := ⟨ins_spec_l02Weight, outs_spec_l02Weight, F_spec_l02Weight, []⟩
theorem _root_.Go.Rv.ok_spec_l02Weight : SumOK Dr Tryd.prog 42 S_spec_l02Weight := runFn_ok (by kernel_rfl) (tblL_ok .nil) (by kernel_rfl) fun x y h => ⟨zcfg, 0, (ztop 0 x.1).trans h⟩
end spec_l02Weight
abbrev ins_spec_EditRight : List Par := [.v true ct0]
abbrev outs_spec_EditRight : List (Bool × List CT) := [(false, [CT.bool])]
namespace spec_EditRight
/-! ### loop.example/g00095/spec.EditRight (function 43) -/
noncomputable def ztbl : Tbl := tblL [(27, [], S_spec_l02Want), (41, [], S_spec_l02Id), (42, [], S_spec_l02Weight)]
noncomputable def zbody : Code := ((Tryd.prog.funcs[43]?).bind (·.body)).getD .skip
def zcfg : Nat → List Nat × List Nat := fun k => ([], [])
noncomputable def T  (e0 e1 e2 e3 e4 : Int) : Option (Bool × Unit) := (F_spec_l02Id (e1, ())).bind fun y1 => cond (!y1.1) (cond (e0 == 8) (cond (!(e1 == 0)) (some (false, ())) (cond (e2 != 0) ((F_spec_l02Id (e2, ())).bind fun y2 => cond (!y2.1) (some (false, ())) (cond (e0 == 1) ((F_spec_l02Want (e3, ())).bind fun y3 => cond y3.1 ((F_spec_l02Weight (e4, ())).bind fun y4 => some (y4.1, ())) (some (false, ()))) (cond (e0 == 6) ((F_spec_l02Want (e3, ())).bind fun y5 => cond y5.1 ((F_spec_l02Weight (e4, ())).bind fun y6 => some (y6.1, ())) (some (false, ()))) (cond (e0 == 2) (cond (e2 == 0) (cond (e3 == 0) (some ((e4 == 0), ())) (some (false, ()))) (some (false, ()))) (cond (e0 == 7) (cond (e2 == 0) (cond (e3 == 0) (some ((e4 == 0), ())) (some (false, ()))) (some (false, ()))) (cond (e0 == 3) (cond (e2 == 0) ((F_spec_l02Want (e3, ())).bind fun y7 => cond y7.1 (some ((e4 == 0), ())) (some (false, ()))) (some (false, ()))) (cond (e0 == 8) (cond (e2 == 0) ((F_spec_l02Want (e3, ())).bind fun y8 => cond y8.1 (some ((e4 == 0), ())) (some (false, ()))) (some (false, ()))) (cond (e0 == 4) (cond (e2 == 0) ((F_spec_l02Weight (e3, ())).bind fun y9 => cond y9.1 (some ((e4 == 0), ())) (some (false, ()))) (some (false, ()))) (cond (e0 == 5) (cond (e3 == 0) (some ((e4 == 0), ())) (some (false, ()))) (some (false, ()))))))))))) (cond (e0 == 1) ((F_spec_l02Want (e3, ())).bind fun y10 => cond y10.1 ((F_spec_l02Weight (e4, ())).bind fun y11 => some (y11.1, ())) (some (false, ()))) (cond (e0 == 6) ((F_spec_l02Want (e3, ())).bind fun y12 => cond y12.1 ((F_spec_l02Weight (e4, ())).bind fun y13 => some (y13.1, ())) (some (false, ()))) (cond (e0 == 2) (cond (e2 == 0) (cond (e3 == 0) (some ((e4 == 0), ())) (some (false, ()))) (some (false, ()))) (cond (e0 == 7) (cond (e2 == 0) (cond (e3 == 0) (some ((e4 == 0), ())) (some (false, ()))) (some (false, ()))) (cond (e0 == 3) (cond (e2 == 0) ((F_spec_l02Want (e3, ())).bind fun y14 => cond y14.1 (some ((e4 == 0), ())) (some (false, ()))) (some (false, ()))) (cond (e0 == 8) (cond (e2 == 0) ((F_spec_l02Want (e3, ())).bind fun y15 => cond y15.1 (some ((e4 == 0), ())) (some (false, ()))) (some (false, ()))) (cond (e0 == 4) (cond (e2 == 0) ((F_spec_l02Weight (e3, ())).bind fun y16 => cond y16.1 (some ((e4 == 0), ())) (some (false, ()))) (some (false, ()))) (cond (e0 == 5) (cond (e3 == 0) (some ((e4 == 0), ())) (some (false, ()))) (some (false, ())))))))))))) (some (false, ()))) (cond (e2 != 0) ((F_spec_l02Id (e2, ())).bind fun y17 => cond (!y17.1) (some (false, ())) (cond (e0 == 1) ((F_spec_l02Want (e3, ())).bind fun y18 => cond y18.1 ((F_spec_l02Weight (e4, ())).bind fun y19 => some (y19.1, ())) (some (false, ()))) (cond (e0 == 6) ((F_spec_l02Want (e3, ())).bind fun y20 => cond y20.1 ((F_spec_l02Weight (e4, ())).bind fun y21 => some (y21.1, ())) (some (false, ()))) (cond (e0 == 2) (cond (e2 == 0) (cond (e3 == 0) (some ((e4 == 0), ())) (some (false, ()))) (some (false, ()))) (cond (e0 == 7) (cond (e2 == 0) (cond (e3 == 0) (some ((e4 == 0), ())) (some (false, ()))) (some (false, ()))) (cond (e0 == 3) (cond (e2 == 0) ((F_spec_l02Want (e3, ())).bind fun y22 => cond y22.1 (some ((e4 == 0), ())) (some (false, ()))) (some (false, ()))) (cond (e0 == 8) (cond (e2 == 0) ((F_spec_l02Want (e3, ())).bind fun y23 => cond y23.1 (some ((e4 == 0), ())) (some (false, ()))) (some (false, ()))) (cond (e0 == 4) (cond (e2 == 0) ((F_spec_l02Weight (e3, ())).bind fun y24 => cond y24.1 (some ((e4 == 0), ())) (some (false, ()))) (some (false, ()))) (cond (e0 == 5) (cond (e3 == 0) (some ((e4 == 0), ())) (some (false, ()))) (some (false, ()))))))))))) (cond (e0 == 1) ((F_spec_l02Want (e3, ())).bind fun y25 => cond y25.1 ((F_spec_l02Weight (e4, ())).bind fun y26 => some (y26.1, ())) (some (false, ()))) (cond (e0 == 6) ((F_spec_l02Want (e3, ())).bind fun y27 => cond y27.1 ((F_spec_l02Weight (e4, ())).bind fun y28 => some (y28.1, ())) (some (false, ()))) (cond (e0 == 2) (cond (e2 == 0) (cond (e3 == 0) (some ((e4 == 0), ())) (some (false, ()))) (some (false, ()))) (cond (e0 == 7) (cond (e2 == 0) (cond (e3 == 0) (some ((e4 == 0), ())) (some (false, ()))) (some (false, ()))) (cond (e0 == 3) (cond (e2 == 0) ((F_spec_l02Want (e3, ())).bind fun y29 => cond y29.1 (some ((e4 == 0), ())) (some (false, ()))) (some (false, ()))) (cond (e0 == 8) (cond (e2 == 0) ((F_spec_l02Want (e3, ())).bind fun y30 => cond y30.1 (some ((e4 == 0), ())) (some (false, ()))) (some (false, ()))) (cond (e0 == 4) (cond (e2 == 0) ((F_spec_l02Weight (e3, ())).bind fun y31 => cond y31.1 (some ((e4 == 0), ())) (some (false, ()))) (some (false, ()))) (cond (e0 == 5) (cond (e3 == 0) (some ((e4 == 0), ())) (some (false, ()))) (some (false, ())))))))))))
theorem ztop (k0 : Nat) (e0 e1 e2 e3 e4 : Int) : runFn Tryd.prog ztbl zcfg k0 43 ins_spec_EditRight outs_spec_EditRight [] (e0, e1, e2, e3, e4, ()) = T  e0 e1 e2 e3 e4 := by kernel_rfl
noncomputable def _root_.Go.Rv.F_spec_EditRight : U1 → Option (Bool × Unit) := fun x => T x.1 x.2.1 x.2.2.1 x.2.2.2.1 x.2.2.2.2.1
noncomputable abbrev _root_.Go.Rv.S_spec_EditRight : Summ := ⟨ins_spec_EditRight, outs_spec_EditRight, F_spec_EditRight, []⟩
theorem _root_.Go.Rv.ok_spec_EditRight : SumOK Dr Tryd.prog 43 S_spec_EditRight := runFn_ok (by kernel_rfl) (tblL_ok (.cons ok_spec_l02Want (.cons ok_spec_l02Id (.cons ok_spec_l02Weight .nil)))) (by kernel_rfl) fun x y h => ⟨zcfg, 0, (ztop 0 x.1 x.2.1 x.2.2.1 x.2.2.2.1 x.2.2.2.2.1).trans h⟩
end spec_EditRight
abbrev ins_spec_l10Edit : List Par := [.v true ct0]
abbrev outs_spec_l10Edit : List (Bool × List CT) := [(true, ct0)]
namespace spec_l10Edit
/-! ### loop.example/g00095/spec.l10Edit (function 44) -/
noncomputable def ztbl : Tbl := tblL []
noncomputable def zbody : Code := ((Tryd.prog.funcs[44]?).bind (·.body)).getD .skip
def zcfg : Nat → List Nat × List Nat := fun k => ([], [])
noncomputable def T  (o0 o1 o2 o3 o4 : Int) : Option (U1) := cond (o0 == 3) (some (8, o1, o2, o3, o4, ())) (cond (o0 == 6) (some (6, o1, o2, o3, o4, ())) (cond (o0 == 7) (some (7, o1, o2, o3, o4, ())) (some (0, o1, o2, o3, o4, ()))))
theorem ztop (k0 : Nat) (o0 o1 o2 o3 o4 : Int) : runFn Tryd.prog ztbl zcfg k0 44 ins_spec_l10Edit outs_spec_l10Edit [] (o0, o1, o2, o3, o4, ()) = T  o0 o1 o2 o3 o4 := by kernel_rfl
noncomputable def _root_.Go.Rv.F_spec_l10Edit : U1 → Option (U1) := fun x => T x.1 x.2.1 x.2.2.1 x.2.2.2.1 x.2.2.2.2.1
noncomputable abbrev _root_.Go.Rv.S_spec_l10Edit : Summ := ⟨ins_spec_l10Edit, outs_spec_l10Edit, F_spec_l10Edit, []⟩
theorem _root_.Go.Rv.ok_spec_l10Edit : SumOK Dr Tryd.prog 44 S_spec_l10Edit := runFn_ok (by kernel_rfl) (tblL_ok .nil) (by kernel_rfl) fun x y h => ⟨zcfg, 0, (ztop 0 x.1 x.2.1 x.2.2.1 x.2.2.2.1 x.2.2.2.2.1).trans h⟩
end spec_l10Edit
abbrev ins_spec_l10Op : List Par := [.v true ct0]
abbrev outs_spec_l10Op : List (Bool × List CT) := [(false, [CT.bool])]
namespace spec_l10Op
/-! ### loop.example/g00095/spec.l10Op (function 22) -/
noncomputable def ztbl : Tbl := tblL [(27, [], S_spec_l02Want), (41, [], S_spec_l02Id), (42, [], S_spec_l02Weight), (43, [], S_spec_EditRight), (44, [], S_spec_l10Edit)]
noncomputable def zbody : Code := ((Tryd.prog.funcs[22]?).bind (·.body)).getD .skip
def zcfg : Nat → List Nat × List Nat := fun k => ([], [])
noncomputable def T  (o0 o1 o2 o3 o4 : Int) : Option (Bool × Unit) := cond (o0 == 1) ((F_spec_l02Id (o1, ())).bind fun y1 => cond y1.1 (cond (o2 == 0) ((F_spec_l02Want (o3, ())).bind fun y2 => cond y2.1 ((F_spec_l02Weight (o4, ())).bind fun y3 => some (y3.1, ())) (some (false, ()))) ((F_spec_l02Id (o2, ())).bind fun y4 => cond y4.1 ((F_spec_l02Want (o3, ())).bind fun y5 => cond y5.1 ((F_spec_l02Weight (o4, ())).bind fun y6 => some (y6.1, ())) (some (false, ()))) (some (false, ())))) (some (false, ()))) (cond (o0 == 2) ((F_spec_l02Id (o1, ())).bind fun y7 => cond y7.1 (cond (o2 == 0) (cond (o3 == 0) (some ((o4 == 0), ())) (some (false, ()))) (some (false, ()))) (some (false, ()))) (cond (o0 == 4) (cond (o1 == 0) (cond (o2 == 0) (cond (o3 == 0) (some ((o4 == 0), ())) (some (false, ()))) (some (false, ()))) (some (false, ()))) (cond (o0 == 5) (cond (o1 == 0) (cond (o2 == 0) (cond (o3 == 0) (some ((o4 == 0), ())) (some (false, ()))) (some (false, ()))) (some (false, ()))) (cond (o0 == 6) ((F_spec_l10Edit (o0, o1, o2, o3, o4, ())).bind fun y8 => (F_spec_EditRight (y8.1, y8.2.1, y8.2.2.1, y8.2.2.2.1, y8.2.2.2.2.1, ())).bind fun y9 => cond y9.1 (some ((decide (o2 < o1)), ())) (some (false, ()))) (cond (o0 == 3) ((F_spec_l10Edit (o0, o1, o2, o3, o4, ())).bind fun y10 => (F_spec_EditRight (y10.1, y10.2.1, y10.2.2.1, y10.2.2.2.1, y10.2.2.2.2.1, ())).bind fun y11 => some (y11.1, ())) (cond (o0 == 7) ((F_spec_l10Edit (o0, o1, o2, o3, o4, ())).bind fun y12 => (F_spec_EditRight (y12.1, y12.2.1, y12.2.2.1, y12.2.2.2.1, y12.2.2.2.2.1, ())).bind fun y13 => some (y13.1, ())) (some (false, ()))))))))
theorem ztop (k0 : Nat) (o0 o1 o2 o3 o4 : Int) : runFn Tryd.prog ztbl zcfg k0 22 ins_spec_l10Op outs_spec_l10Op [] (o0, o1, o2, o3, o4, ()) = T  o0 o1 o2 o3 o4 := by kernel_rfl
noncomputable def _root_.Go.Rv.F_spec_l10Op : U1 → Option (Bool × Unit) := fun x => T x.1 x.2.1 x.2.2.1 x.2.2.2.1 x.2.2.2.2.1
noncomputable abbrev _root_.Go.Rv.S_spec_l10Op : Summ := ⟨ins_spec_l10Op, outs_spec_l10Op, F_spec_l10Op, []⟩
theorem _root_.Go.Rv.ok_spec_l10Op : SumOK Dr Tryd.prog 22 S_spec_l10Op := runFn_ok (by kernel_rfl) (tblL_ok (.cons ok_spec_l02Want (.cons ok_spec_l02Id (.cons ok_spec_l02Weight (.cons ok_spec_EditRight (.cons ok_spec_l10Edit .nil)))))) (by kernel_rfl) fun x y h => ⟨zcfg, 0, (ztop 0 x.1 x.2.1 x.2.2.1 x.2.2.2.1 x.2.2.2.2.1).trans h⟩
end spec_l10Op

end Go.Rv
