/- What functions come to on pure values (printed by a program of ours). -/
import Derived.Test.YtnoanpohmppnaaaGreatDoorM06
set_option linter.unusedVariables false
set_option linter.unusedSimpArgs false
set_option linter.unusedSectionVars false
set_option maxRecDepth 100000
namespace Go.Rv
open Go.Proofs
variable {Dr : Kn}
abbrev ins_laws_szGroupS : List Par := [.v false [CT.sl ct2], .v false [CT.int .i64]]
abbrev outs_laws_szGroupS : List (Bool × List CT) := [(false, [CT.int .i64])]
namespace laws_szGroupS
/-! ### loop.example/g00095/laws.szGroupS (function 24) -/
noncomputable def ztbl : Tbl := tblL []
noncomputable def zbody : Code := ((Tryz.prog.funcs[24]?).bind (·.body)).getD .skip
def zcfg : Nat → List Nat × List Nat := fun k => ([], [])
noncomputable def T  (a : List U5) (left : Int) : Option (Int × Unit) := cond (decide ((w64 (left - (a.length : Int))) < 0)) (some ((-1), ())) (some ((w64 (left - (a.length : Int))), ()))
theorem ztop (k0 : Nat) (a : List U5) (left : Int) : runFn Tryz.prog ztbl zcfg k0 24 ins_laws_szGroupS outs_laws_szGroupS [] (a, left, ()) = T  a left := by kernel_rfl
noncomputable def _root_.Go.Rv.F_laws_szGroupS : (List U5) × Int × Unit → Option (Int × Unit) := fun x => T x.1 x.2.1
noncomputable abbrev _root_.Go.Rv.S_laws_szGroupS : Summ := ⟨ins_laws_szGroupS, outs_laws_szGroupS, F_laws_szGroupS, []⟩
theorem _root_.Go.Rv.ok_laws_szGroupS : SumOK Dr Tryz.prog 24 S_laws_szGroupS := runFn_ok (by kernel_rfl) (tblL_ok .nil) (by kernel_rfl) fun x y h => ⟨zcfg, 0, (ztop 0 x.1 x.2.1).trans h⟩
end laws_szGroupS
abbrev ins_laws_szMemberS : List Par := [.v false [CT.sl ct2], .v false [CT.int .i64]]
abbrev outs_laws_szMemberS : List (Bool × List CT) := [(false, [CT.int .i64])]
namespace laws_szMemberS
/-! ### loop.example/g00095/laws.szMemberS (function 25) -/
noncomputable def ztbl : Tbl := tblL []
noncomputable def zbody : Code := ((Tryz.prog.funcs[25]?).bind (·.body)).getD .skip
def zcfg : Nat → List Nat × List Nat := fun k => ([], [])
noncomputable def T  (a : List U5) (left : Int) : Option (Int × Unit) := cond (decide ((w64 (left - (a.length : Int))) < 0)) (some ((-1), ())) (some ((w64 (left - (a.length : Int))), ()))
theorem ztop (k0 : Nat) (a : List U5) (left : Int) : runFn Tryz.prog ztbl zcfg k0 25 ins_laws_szMemberS outs_laws_szMemberS [] (a, left, ()) = T  a left := by kernel_rfl
noncomputable def _root_.Go.Rv.F_laws_szMemberS : (List U5) × Int × Unit → Option (Int × Unit) := fun x => T x.1 x.2.1
noncomputable abbrev _root_.Go.Rv.S_laws_szMemberS : Summ := ⟨ins_laws_szMemberS, outs_laws_szMemberS, F_laws_szMemberS, []⟩
theorem _root_.Go.Rv.ok_laws_szMemberS : SumOK Dr Tryz.prog 25 S_laws_szMemberS := runFn_ok (by kernel_rfl) (tblL_ok .nil) (by kernel_rfl) fun x y h => ⟨zcfg, 0, (ztop 0 x.1 x.2.1).trans h⟩
end laws_szMemberS
abbrev ins_laws_szFarm : List Par := [.v true ct4, .v false [CT.int .i64]]
abbrev outs_laws_szFarm : List (Bool × List CT) := [(false, [CT.int .i64])]
namespace laws_szFarm
/-! ### loop.example/g00095/laws.szFarm (function 10) -/
noncomputable def ztbl : Tbl := tblL [(24, [], S_laws_szGroupS), (25, [], S_laws_szMemberS)]
noncomputable def zbody : Code := ((Tryz.prog.funcs[10]?).bind (·.body)).getD .skip
def zcfg : Nat → List Nat × List Nat := fun k => ([], [])
noncomputable def T  (a0 : Int) (a1 a2 : List U5) (left : Int) : Option (Int × Unit) := (F_laws_szGroupS (a1, left, ())).bind fun y1 => cond (decide (y1.1 < 0)) (some ((-1), ())) ((F_laws_szMemberS (a2, y1.1, ())).bind fun y2 => cond (decide (y2.1 < 0)) (some ((-1), ())) (some (y2.1, ())))
theorem ztop (k0 : Nat) (a0 : Int) (a1 a2 : List U5) (left : Int) : runFn Tryz.prog ztbl zcfg k0 10 ins_laws_szFarm outs_laws_szFarm [] (a0, a1, a2, left, ()) = T  a0 a1 a2 left := by kernel_rfl
noncomputable def _root_.Go.Rv.F_laws_szFarm : Int × (List U5) × (List U5) × Int × Unit → Option (Int × Unit) := fun x => T x.1 x.2.1 x.2.2.1 x.2.2.2.1
noncomputable abbrev _root_.Go.Rv.S_laws_szFarm : Summ := ⟨ins_laws_szFarm, outs_laws_szFarm, F_laws_szFarm, []⟩
theorem _root_.Go.Rv.ok_laws_szFarm : SumOK Dr Tryz.prog 10 S_laws_szFarm := runFn_ok (by kernel_rfl) (tblL_ok (.cons ok_laws_szGroupS (.cons ok_laws_szMemberS .nil))) (by kernel_rfl) fun x y h => ⟨zcfg, 0, (ztop 0 x.1 x.2.1 x.2.2.1 x.2.2.2.1).trans h⟩
end laws_szFarm
abbrev ins_laws_szLeaseS : List Par := [.v false [CT.sl ct0], .v false [CT.int .i64]]
abbrev outs_laws_szLeaseS : List (Bool × List CT) := [(false, [CT.int .i64])]
namespace laws_szLeaseS
/-! ### loop.example/g00095/laws.szLeaseS (function 15) -/
noncomputable def ztbl : Tbl := tblL []
noncomputable def zbody : Code := ((Tryz.prog.funcs[15]?).bind (·.body)).getD .skip
def zcfg : Nat → List Nat × List Nat := fun k => ([], [])
noncomputable def T  (a : List U6) (left : Int) : Option (Int × Unit) := cond (decide ((w64 (left - (a.length : Int))) < 0)) (some ((-1), ())) (some ((w64 (left - (a.length : Int))), ()))
theorem ztop (k0 : Nat) (a : List U6) (left : Int) : runFn Tryz.prog ztbl zcfg k0 15 ins_laws_szLeaseS outs_laws_szLeaseS [] (a, left, ()) = T  a left := by kernel_rfl
noncomputable def _root_.Go.Rv.F_laws_szLeaseS : (List U6) × Int × Unit → Option (Int × Unit) := fun x => T x.1 x.2.1
noncomputable abbrev _root_.Go.Rv.S_laws_szLeaseS : Summ := ⟨ins_laws_szLeaseS, outs_laws_szLeaseS, F_laws_szLeaseS, []⟩
theorem _root_.Go.Rv.ok_laws_szLeaseS : SumOK Dr Tryz.prog 15 S_laws_szLeaseS := runFn_ok (by kernel_rfl) (tblL_ok .nil) (by kernel_rfl) fun x y h => ⟨zcfg, 0, (ztop 0 x.1 x.2.1).trans h⟩
end laws_szLeaseS
abbrev ins_laws_szServer : List Par := [.v true ct3, .v false [CT.int .i64]]
abbrev outs_laws_szServer : List (Bool × List CT) := [(false, [CT.int .i64])]
namespace laws_szServer
/-! ### loop.example/g00095/laws.szServer (function 5) -/
noncomputable def ztbl : Tbl := tblL [(10, [], S_laws_szFarm), (15, [], S_laws_szLeaseS)]
noncomputable def zbody : Code := ((Tryz.prog.funcs[5]?).bind (·.body)).getD .skip
def zcfg : Nat → List Nat × List Nat := fun k => ([], [])
noncomputable def T  (a0 a1 a2 a3 : Int) (a4 a5 : List U5) (a6 : List U6) (left : Int) : Option (Int × Unit) := (F_laws_szFarm (a3, a4, a5, left, ())).bind fun y1 => cond (decide (y1.1 < 0)) (some ((-1), ())) ((F_laws_szLeaseS (a6, y1.1, ())).bind fun y2 => cond (decide (y2.1 < 0)) (some ((-1), ())) (some (y2.1, ())))
theorem ztop (k0 : Nat) (a0 a1 a2 a3 : Int) (a4 a5 : List U5) (a6 : List U6) (left : Int) : runFn Tryz.prog ztbl zcfg k0 5 ins_laws_szServer outs_laws_szServer [] (a0, a1, a2, a3, a4, a5, a6, left, ()) = T  a0 a1 a2 a3 a4 a5 a6 left := by kernel_rfl
noncomputable def _root_.Go.Rv.F_laws_szServer : Int × Int × Int × Int × (List U5) × (List U5) × (List U6) × Int × Unit → Option (Int × Unit) := fun x => T x.1 x.2.1 x.2.2.1 x.2.2.2.1 x.2.2.2.2.1 x.2.2.2.2.2.1 x.2.2.2.2.2.2.1 x.2.2.2.2.2.2.2.1
noncomputable abbrev _root_.Go.Rv.S_laws_szServer : Summ := ⟨ins_laws_szServer, outs_laws_szServer, F_laws_szServer, []⟩
theorem _root_.Go.Rv.ok_laws_szServer : SumOK Dr Tryz.prog 5 S_laws_szServer := runFn_ok (by kernel_rfl) (tblL_ok (.cons ok_laws_szFarm (.cons ok_laws_szLeaseS .nil))) (by kernel_rfl) fun x y h => ⟨zcfg, 0, (ztop 0 x.1 x.2.1 x.2.2.1 x.2.2.2.1 x.2.2.2.2.1 x.2.2.2.2.2.1 x.2.2.2.2.2.2.1 x.2.2.2.2.2.2.2.1).trans h⟩
end laws_szServer
abbrev ins_spec_l05Group : List Par := [.v true ct4, .v false [CT.int .i64]]
abbrev outs_spec_l05Group : List (Bool × List CT) := [(false, [CT.int .i64])]
namespace spec_l05Group
/-! ### loop.example/g00095/spec.l05Group (function 32) -/
noncomputable def ztbl : Tbl := tblL []
noncomputable def zbody : Code := ((Tryz.prog.funcs[32]?).bind (·.body)).getD .skip
def zcfg : Nat → List Nat × List Nat := fun k => if k = 2 then ([1, 2, 5], [4]) else ([], [])
noncomputable def R0 {R : Type} (nx0 : (Int → Int → Int → (List U5) → (List U5) → Option R)) (ex0 : (Int → Option R)) (ex1 : (Unit → Option R)) (id2 i f : Int) (f3 f4 : List U5) : Option R := cond (decide (i < (f3.length : Int))) (if 0 ≤ i ∧ i < (f3.length : Int) then cond ((rd (0, 0, 0, 0, ()) f3 i).1 == id2) (ex0 i) (nx0 id2 (w64 (i + 1)) f f3 f4) else none) (ex1 ())
noncomputable def A0  (f0 : Int) (f1 f2 : List U5) (id : Int) (t4x : Int) : Option (Int × Unit) := some (t4x, ())
noncomputable def A1  (f0 : Int) (f1 f2 : List U5) (id : Int) (_u : Unit) : Option (Int × Unit) := some ((-1), ())
noncomputable def T (lo0 : (Int → Int → Int → (List U5) → (List U5) → Option (Int × Unit))) (f0 : Int) (f1 f2 : List U5) (id : Int) : Option (Int × Unit) := lo0 id 0 f0 f1 f2
noncomputable def zst0 {R : Type} (k0 : Nat) : Env → List Ob → Kont R → Option R := fun env ob K => runCode Tryz.prog ztbl 22 0 zcfg k0 (codeAt [1, 0, 1, 0, 0] zbody) env ob K
noncomputable def K0 {R : Type} (k0 : Nat) (K : Kont R) : Kont R := blockK 0 (seqK (fun env ob => runCode Tryz.prog ztbl 22 0 zcfg k0 (codeAt [1, 1] zbody) env ob (K)) (K))
noncomputable def L0 {R : Type} (k0 k : Nat) (K : Kont R) (id2 i f : Int) (f3 f4 : List U5) : Option R := iter 0 [1, 2, 5] [4] (zst0 k0) k [(1, .int .i64 id2), (2, .ptr 0 0 0 0), (5, .int .i64 i)] [.box [.int .i64 f, .sl ct2 f3, .sl ct2 f4]] K
theorem zs0 {R : Type} (k0 k : Nat) (K : Kont R) (id2 i f : Int) (f3 f4 : List U5) : L0 k0 (k + 1) K id2 i f f3 f4 = R0 (L0 k0 k K) (fun t4x => K .ret [(4, .int .i64 t4x)] []) (fun _ => K (.exit 0) [(4, .undef)] []) id2 i f f3 f4 := by kernel_rfl
theorem za0 (k0 : Nat) (f0 : Int) (f1 f2 : List U5) (id : Int) (t4x : Int) : K0 (R := (Int × Unit)) k0 (finK Tryz.prog [.tmp 4] ins_spec_l05Group outs_spec_l05Group (f0, f1, f2, id, ())) .ret [(4, .int .i64 t4x)] [] = A0  f0 f1 f2 id t4x := by kernel_rfl
theorem za1 (k0 : Nat) (f0 : Int) (f1 f2 : List U5) (id : Int)  : K0 (R := (Int × Unit)) k0 (finK Tryz.prog [.tmp 4] ins_spec_l05Group outs_spec_l05Group (f0, f1, f2, id, ())) (.exit 0) [(4, .undef)] [] = A1  f0 f1 f2 id () := by kernel_rfl
theorem ztop (k0 : Nat) (f0 : Int) (f1 f2 : List U5) (id : Int) : runFn Tryz.prog ztbl zcfg k0 32 ins_spec_l05Group outs_spec_l05Group [] (f0, f1, f2, id, ()) = T (L0 (R := (Int × Unit)) k0 k0 (K0 (R := (Int × Unit)) k0 ((finK Tryz.prog [.tmp 4] ins_spec_l05Group outs_spec_l05Group (f0, f1, f2, id, ()))))) f0 f1 f2 id := by kernel_rfl
noncomputable def G0 {R : Type} (k0 : Nat) (hx0 : (Int → Option R)) (hx1 : (Unit → Option R)) : Nat → Int → Int → Int → (List U5) → (List U5) → Option R
 | 0, _, _, _, _, _ => none
 | k + 1, id2, i, f, f3, f4 => R0 (G0 k0 hx0 hx1 k) hx0 hx1 id2 i f f3 f4
theorem zg0 {R : Type} (k0 : Nat) (K : Kont R) : ∀ k : Nat, L0 k0 k K = G0 k0 (fun t4x => K .ret [(4, .int .i64 t4x)] []) (fun _ => K (.exit 0) [(4, .undef)] []) k := by
 intro k
 induction k with
 | zero => funext id2 i f f3 f4; rfl
 | succ k ih => funext id2 i f f3 f4; rw [zs0, G0]; (try simp only [ih]); try rfl
noncomputable def FF (k0 : Nat) (f0 : Int) (f1 f2 : List U5) (id : Int) : Option (Int × Unit) := T (G0 k0 (A0  f0 f1 f2 id) (A1  f0 f1 f2 id) k0) f0 f1 f2 id
theorem zrun (k0 : Nat) (f0 : Int) (f1 f2 : List U5) (id : Int) : runFn Tryz.prog ztbl zcfg k0 32 ins_spec_l05Group outs_spec_l05Group [] (f0, f1, f2, id, ()) = FF k0 f0 f1 f2 id := by
 rw [ztop, FF]; (try simp only [zg0, za0, za1]); try rfl
noncomputable def _root_.Go.Rv.F_spec_l05Group : Int × (List U5) × (List U5) × Int × Unit → Option (Int × Unit) := fun x => (fun (f0 : Int) (f1 f2 : List U5) (id : Int) => FF (300 + f1.length + f2.length) f0 f1 f2 id) x.1 x.2.1 x.2.2.1 x.2.2.2.1
noncomputable abbrev _root_.Go.Rv.S_spec_l05Group : Summ := ⟨ins_spec_l05Group, outs_spec_l05Group, F_spec_l05Group, []⟩
theorem _root_.Go.Rv.ok_spec_l05Group : SumOK Dr Tryz.prog 32 S_spec_l05Group := runFn_ok (by kernel_rfl) (tblL_ok .nil) (by kernel_rfl) fun x y h => ⟨zcfg, _, (zrun _ x.1 x.2.1 x.2.2.1 x.2.2.2.1).trans h⟩
end spec_l05Group
abbrev ins_spec_l02Want : List Par := [.v false [CT.int .i64]]
abbrev outs_spec_l02Want : List (Bool × List CT) := [(false, [CT.bool])]
namespace spec_l02Want
/-! ### loop.example/g00095/spec.l02Want (function 53) -/
noncomputable def ztbl : Tbl := tblL []
noncomputable def zbody : Code := ((Tryz.prog.funcs[53]?).bind (·.body)).getD .skip
def zcfg : Nat → List Nat × List Nat := fun k => ([], [])
noncomputable def T  (n : Int) : Option (Bool × Unit) := cond (decide (n ≥ 0)) (some ((decide (n ≤ 1125899906842624)), ())) (some (false, ()))
theorem ztop (k0 : Nat) (n : Int) : runFn Tryz.prog ztbl zcfg k0 53 ins_spec_l02Want outs_spec_l02Want [] (n, ()) = T  n := by kernel_rfl
noncomputable def _root_.Go.Rv.F_spec_l02Want : Int × Unit → Option (Bool × Unit) := fun x => T x.1
noncomputable abbrev _root_.Go.Rv.S_spec_l02Want : Summ := ⟨ins_spec_l02Want, outs_spec_l02Want, F_spec_l02Want, []⟩
theorem _root_.Go.Rv.ok_spec_l02Want : SumOK Dr Tryz.prog 53 S_spec_l02Want := runFn_ok (by kernel_rfl) (tblL_ok .nil) (by kernel_rfl) fun x y h => ⟨zcfg, 0, (ztop 0 x.1).trans h⟩
end spec_l02Want
abbrev ins_spec_l02Id : List Par := [.v false [CT.int .i64]]
abbrev outs_spec_l02Id : List (Bool × List CT) := [(false, [CT.bool])]
namespace spec_l02Id
/-! ### loop.example/g00095/spec.l02Id (function 54) -/
noncomputable def ztbl : Tbl := tblL []
noncomputable def zbody : Code := ((Tryz.prog.funcs[54]?).bind (·.body)).getD .skip
def zcfg : Nat → List Nat × List Nat := fun k => ([], [])
noncomputable def T  (n : Int) : Option (Bool × Unit) := cond (decide (n ≥ 1)) (some ((decide (n ≤ 1000000)), ())) (some (false, ()))
theorem ztop (k0 : Nat) (n : Int) : runFn Tryz.prog ztbl zcfg k0 54 ins_spec_l02Id outs_spec_l02Id [] (n, ()) = T  n := by kernel_rfl
noncomputable def _root_.Go.Rv.F_spec_l02Id : Int × Unit → Option (Bool × Unit) := fun x => T x.1
noncomputable abbrev _root_.Go.Rv.S_spec_l02Id : Summ := ⟨ins_spec_l02Id, outs_spec_l02Id, F_spec_l02Id, []⟩
theorem _root_.Go.Rv.ok_spec_l02Id : SumOK Dr Tryz.prog 54 S_spec_l02Id := runFn_ok (by kernel_rfl) (tblL_ok .nil) (by kernel_rfl) fun x y h => ⟨zcfg, 0, (ztop 0 x.1).trans h⟩
end spec_l02Id
abbrev ins_spec_l02Weight : List Par := [.v false [CT.int .i64]]
abbrev outs_spec_l02Weight : List (Bool × List CT) := [(false, [CT.bool])]
namespace spec_l02Weight
/-! ### loop.example/g00095/spec.l02Weight (function 55) -/
noncomputable def ztbl : Tbl := tblL []
noncomputable def zbody : Code := ((Tryz.prog.funcs[55]?).bind (·.body)).getD .skip
def zcfg : Nat → List Nat × List Nat := fun k => ([], [])
noncomputable def T  (n : Int) : Option (Bool × Unit) := cond (decide (n ≥ 1)) (some ((decide (n ≤ 1073741824)), ())) (some (false, ()))
theorem ztop (k0 : Nat) (n : Int) : runFn Tryz.prog ztbl zcfg k0 55 ins_spec_l02Weight outs_spec_l02Weight [] (n, ()) = T  n := by kernel_rfl
noncomputable def _root_.Go.Rv.F_spec_l02Weight : Int × Unit → Option (Bool × Unit) := fun x => T x.1
noncomputable abbrev _root_.Go.Rv.S_spec_l02Weight : Summ := ⟨ins_spec_l02Weight, outs_spec_l02Weight, F_spec_l02Weight, []⟩
theorem _root_.Go.Rv.ok_spec_l02Weight : SumOK Dr Tryz.prog 55 S_spec_l02Weight := runFn_ok (by kernel_rfl) (tblL_ok .nil) (by kernel_rfl) fun x y h => ⟨zcfg, 0, (ztop 0 x.1).trans h⟩
end spec_l02Weight
abbrev ins_spec_FarmRight : List Par := [.v true ct4]
abbrev outs_spec_FarmRight : List (Bool × List CT) := [(false, [CT.bool])]
namespace spec_FarmRight
/-! ### loop.example/g00095/spec.FarmRight (function 26) -/
noncomputable def ztbl : Tbl := tblL [(32, [], S_spec_l05Group), (53, [], S_spec_l02Want), (54, [], S_spec_l02Id), (55, [], S_spec_l02Weight)]
noncomputable def zbody : Code := ((Tryz.prog.funcs[26]?).bind (·.body)).getD .skip
def zcfg : Nat → List Nat × List Nat := fun k => if k = 4 then ([1, 3], [1, 2]) else if k = 10 then ([1, 5], [2]) else ([], [])
noncomputable def R0 {R : Type} (nx0 : (Int → Int → (List U5) → (List U5) → Option R)) (ex0 : (Bool → Int → (List U5) → (List U5) → Option R)) (ex1 : (Int → (List U5) → (List U5) → Option R)) (i f : Int) (f3 f4 : List U5) : Option R := cond (decide (i < (f3.length : Int))) (if 0 ≤ i ∧ i < (f3.length : Int) then (F_spec_l02Id ((rd (0, 0, 0, 0, ()) f3 i).1, ())).bind fun y1 => cond (!y1.1) (ex0 false f f3 f4) (cond (decide (i > 0)) (if 0 ≤ (w64 (i - 1)) ∧ (w64 (i - 1)) < (f3.length : Int) then cond (decide ((rd (0, 0, 0, 0, ()) f3 i).1 ≤ (rd (0, 0, 0, 0, ()) f3 (w64 (i - 1))).1)) (ex0 false f f3 f4) (cond ((rd (0, 0, 0, 0, ()) f3 i).2.1 != 0) ((F_spec_l05Group (f, f3, f4, (rd (0, 0, 0, 0, ()) f3 i).2.1, ())).bind fun y2 => cond (decide (y2.1 < 0)) (ex0 false f f3 f4) (cond (decide ((rd (0, 0, 0, 0, ()) f3 i).2.1 ≥ (rd (0, 0, 0, 0, ()) f3 i).1)) (ex0 false f f3 f4) ((F_spec_l02Want ((rd (0, 0, 0, 0, ()) f3 i).2.2.1, ())).bind fun y3 => cond (!y3.1) (ex0 false f f3 f4) ((F_spec_l02Weight ((rd (0, 0, 0, 0, ()) f3 i).2.2.2.1, ())).bind fun y4 => cond (!y4.1) (ex0 false f f3 f4) (nx0 (w64 (i + 1)) f f3 f4))))) ((F_spec_l02Want ((rd (0, 0, 0, 0, ()) f3 i).2.2.1, ())).bind fun y5 => cond (!y5.1) (ex0 false f f3 f4) ((F_spec_l02Weight ((rd (0, 0, 0, 0, ()) f3 i).2.2.2.1, ())).bind fun y6 => cond (!y6.1) (ex0 false f f3 f4) (nx0 (w64 (i + 1)) f f3 f4)))) else none) (cond ((rd (0, 0, 0, 0, ()) f3 i).2.1 != 0) ((F_spec_l05Group (f, f3, f4, (rd (0, 0, 0, 0, ()) f3 i).2.1, ())).bind fun y7 => cond (decide (y7.1 < 0)) (ex0 false f f3 f4) (cond (decide ((rd (0, 0, 0, 0, ()) f3 i).2.1 ≥ (rd (0, 0, 0, 0, ()) f3 i).1)) (ex0 false f f3 f4) ((F_spec_l02Want ((rd (0, 0, 0, 0, ()) f3 i).2.2.1, ())).bind fun y8 => cond (!y8.1) (ex0 false f f3 f4) ((F_spec_l02Weight ((rd (0, 0, 0, 0, ()) f3 i).2.2.2.1, ())).bind fun y9 => cond (!y9.1) (ex0 false f f3 f4) (nx0 (w64 (i + 1)) f f3 f4))))) ((F_spec_l02Want ((rd (0, 0, 0, 0, ()) f3 i).2.2.1, ())).bind fun y10 => cond (!y10.1) (ex0 false f f3 f4) ((F_spec_l02Weight ((rd (0, 0, 0, 0, ()) f3 i).2.2.2.1, ())).bind fun y11 => cond (!y11.1) (ex0 false f f3 f4) (nx0 (w64 (i + 1)) f f3 f4))))) else none) (ex1 f f3 f4)
noncomputable def R1 {R : Type} (nx1 : (Int → Int → (List U5) → (List U5) → Option R)) (ex2 : (Bool → Option R)) (ex3 : (Unit → Option R)) (i f : Int) (f3 f4 : List U5) : Option R := cond (decide (i < (f4.length : Int))) (if 0 ≤ i ∧ i < (f4.length : Int) then (F_spec_l02Id ((rd (0, 0, 0, 0, ()) f4 i).1, ())).bind fun y1 => cond (!y1.1) (ex2 false) (cond (decide (i > 0)) (if 0 ≤ (w64 (i - 1)) ∧ (w64 (i - 1)) < (f4.length : Int) then cond (decide ((rd (0, 0, 0, 0, ()) f4 i).1 ≤ (rd (0, 0, 0, 0, ()) f4 (w64 (i - 1))).1)) (ex2 false) (cond ((rd (0, 0, 0, 0, ()) f4 i).2.1 != 0) ((F_spec_l05Group (f, f3, f4, (rd (0, 0, 0, 0, ()) f4 i).2.1, ())).bind fun y2 => cond (decide (y2.1 < 0)) (ex2 false) ((F_spec_l02Want ((rd (0, 0, 0, 0, ()) f4 i).2.2.1, ())).bind fun y3 => cond (!y3.1) (ex2 false) ((F_spec_l02Weight ((rd (0, 0, 0, 0, ()) f4 i).2.2.2.1, ())).bind fun y4 => cond (!y4.1) (ex2 false) (nx1 (w64 (i + 1)) f f3 f4)))) ((F_spec_l02Want ((rd (0, 0, 0, 0, ()) f4 i).2.2.1, ())).bind fun y5 => cond (!y5.1) (ex2 false) ((F_spec_l02Weight ((rd (0, 0, 0, 0, ()) f4 i).2.2.2.1, ())).bind fun y6 => cond (!y6.1) (ex2 false) (nx1 (w64 (i + 1)) f f3 f4)))) else none) (cond ((rd (0, 0, 0, 0, ()) f4 i).2.1 != 0) ((F_spec_l05Group (f, f3, f4, (rd (0, 0, 0, 0, ()) f4 i).2.1, ())).bind fun y7 => cond (decide (y7.1 < 0)) (ex2 false) ((F_spec_l02Want ((rd (0, 0, 0, 0, ()) f4 i).2.2.1, ())).bind fun y8 => cond (!y8.1) (ex2 false) ((F_spec_l02Weight ((rd (0, 0, 0, 0, ()) f4 i).2.2.2.1, ())).bind fun y9 => cond (!y9.1) (ex2 false) (nx1 (w64 (i + 1)) f f3 f4)))) ((F_spec_l02Want ((rd (0, 0, 0, 0, ()) f4 i).2.2.1, ())).bind fun y10 => cond (!y10.1) (ex2 false) ((F_spec_l02Weight ((rd (0, 0, 0, 0, ()) f4 i).2.2.2.1, ())).bind fun y11 => cond (!y11.1) (ex2 false) (nx1 (w64 (i + 1)) f f3 f4))))) else none) (ex3 ())
noncomputable def A0  (f0 : Int) (f1 f2 : List U5) (t2x : Bool) (f : Int) (f3 f4 : List U5) : Option (Bool × Unit) := some (t2x, ())
noncomputable def A1 (lo1 : (Int → Int → (List U5) → (List U5) → Option (Bool × Unit))) (f0 : Int) (f1 f2 : List U5) (f : Int) (f3 f4 : List U5) : Option (Bool × Unit) := lo1 0 f f3 f4
noncomputable def A2  (f0 : Int) (f1 f2 : List U5) (t2x : Bool) : Option (Bool × Unit) := some (t2x, ())
noncomputable def A3  (f0 : Int) (f1 f2 : List U5) (_u : Unit) : Option (Bool × Unit) := some (true, ())
noncomputable def T (lo0 : (Int → Int → (List U5) → (List U5) → Option (Bool × Unit))) (f0 : Int) (f1 f2 : List U5) : Option (Bool × Unit) := (F_spec_l02Want (f0, ())).bind fun y1 => cond (!y1.1) (some (false, ())) (cond (decide ((f1.length : Int) > 30)) (some (false, ())) (cond (decide ((f2.length : Int) > 60)) (some (false, ())) (lo0 0 f0 f1 f2)))
noncomputable def zst0 {R : Type} (k0 : Nat) : Env → List Ob → Kont R → Option R := fun env ob K => runCode Tryz.prog ztbl 142 0 zcfg k0 (codeAt [1, 1, 0, 1, 0, 0] zbody) env ob K
noncomputable def K0 {R : Type} (k0 : Nat) (K : Kont R) : Kont R := blockK 0 (seqK (fun env ob => runCode Tryz.prog ztbl 142 0 zcfg k0 (codeAt [1, 1, 1] zbody) env ob (K)) (K))
noncomputable def zst1 {R : Type} (k0 : Nat) : Env → List Ob → Kont R → Option R := fun env ob K => runCode Tryz.prog ztbl 142 0 zcfg k0 (codeAt [1, 1, 1, 0, 1, 0, 0] zbody) env ob K
noncomputable def K1 {R : Type} (k0 : Nat) (K : Kont R) : Kont R := blockK 2 (seqK (fun env ob => runCode Tryz.prog ztbl 142 0 zcfg k0 (codeAt [1, 1, 1, 1] zbody) env ob (K)) (K))
noncomputable def L0 {R : Type} (k0 k : Nat) (K : Kont R) (i f : Int) (f3 f4 : List U5) : Option R := iter 0 [1, 3] [1, 2] (zst0 k0) k [(1, .ptr 0 0 0 0), (3, .int .i64 i)] [.box [.int .i64 f, .sl ct2 f3, .sl ct2 f4]] K
noncomputable def L1 {R : Type} (k0 k : Nat) (K : Kont R) (i f : Int) (f3 f4 : List U5) : Option R := iter 0 [1, 5] [2] (zst1 k0) k [(1, .ptr 0 0 0 0), (5, .int .i64 i)] [.box [.int .i64 f, .sl ct2 f3, .sl ct2 f4]] K
theorem zs0 {R : Type} (k0 k : Nat) (K : Kont R) (i f : Int) (f3 f4 : List U5) : L0 k0 (k + 1) K i f f3 f4 = R0 (L0 k0 k K) (fun t2x f f3 f4 => K .ret [(1, .ptr 0 0 0 0), (2, .bool t2x)] [.box [.int .i64 f, .sl ct2 f3, .sl ct2 f4]]) (fun f f3 f4 => K (.exit 0) [(1, .ptr 0 0 0 0), (2, .undef)] [.box [.int .i64 f, .sl ct2 f3, .sl ct2 f4]]) i f f3 f4 := by kernel_rfl
theorem zs1 {R : Type} (k0 k : Nat) (K : Kont R) (i f : Int) (f3 f4 : List U5) : L1 k0 (k + 1) K i f f3 f4 = R1 (L1 k0 k K) (fun t2x => K .ret [(2, .bool t2x)] []) (fun _ => K (.exit 2) [(2, .undef)] []) i f f3 f4 := by kernel_rfl
theorem za0 (k0 : Nat) (f0 : Int) (f1 f2 : List U5) (t2x : Bool) (f : Int) (f3 f4 : List U5) : K0 (R := (Bool × Unit)) k0 (finK Tryz.prog [.tmp 2] ins_spec_FarmRight outs_spec_FarmRight (f0, f1, f2, ())) .ret [(1, .ptr 0 0 0 0), (2, .bool t2x)] [.box [.int .i64 f, .sl ct2 f3, .sl ct2 f4]] = A0  f0 f1 f2 t2x f f3 f4 := by kernel_rfl
theorem za1 (k0 : Nat) (f0 : Int) (f1 f2 : List U5) (f : Int) (f3 f4 : List U5) : K0 (R := (Bool × Unit)) k0 (finK Tryz.prog [.tmp 2] ins_spec_FarmRight outs_spec_FarmRight (f0, f1, f2, ())) (.exit 0) [(1, .ptr 0 0 0 0), (2, .undef)] [.box [.int .i64 f, .sl ct2 f3, .sl ct2 f4]] = A1 (L1 (R := (Bool × Unit)) k0 k0 (K1 (R := (Bool × Unit)) k0 ((finK Tryz.prog [.tmp 2] ins_spec_FarmRight outs_spec_FarmRight (f0, f1, f2, ()))))) f0 f1 f2 f f3 f4 := by kernel_rfl
theorem za2 (k0 : Nat) (f0 : Int) (f1 f2 : List U5) (t2x : Bool) : K1 (R := (Bool × Unit)) k0 (finK Tryz.prog [.tmp 2] ins_spec_FarmRight outs_spec_FarmRight (f0, f1, f2, ())) .ret [(2, .bool t2x)] [] = A2  f0 f1 f2 t2x := by kernel_rfl
theorem za3 (k0 : Nat) (f0 : Int) (f1 f2 : List U5)  : K1 (R := (Bool × Unit)) k0 (finK Tryz.prog [.tmp 2] ins_spec_FarmRight outs_spec_FarmRight (f0, f1, f2, ())) (.exit 2) [(2, .undef)] [] = A3  f0 f1 f2 () := by kernel_rfl
theorem ztop (k0 : Nat) (f0 : Int) (f1 f2 : List U5) : runFn Tryz.prog ztbl zcfg k0 26 ins_spec_FarmRight outs_spec_FarmRight [] (f0, f1, f2, ()) = T (L0 (R := (Bool × Unit)) k0 k0 (K0 (R := (Bool × Unit)) k0 ((finK Tryz.prog [.tmp 2] ins_spec_FarmRight outs_spec_FarmRight (f0, f1, f2, ()))))) f0 f1 f2 := by kernel_rfl
noncomputable def G0 {R : Type} (k0 : Nat) (hx0 : (Bool → Int → (List U5) → (List U5) → Option R)) (hx1 : (Int → (List U5) → (List U5) → Option R)) : Nat → Int → Int → (List U5) → (List U5) → Option R
 | 0, _, _, _, _ => none
 | k + 1, i, f, f3, f4 => R0 (G0 k0 hx0 hx1 k) hx0 hx1 i f f3 f4
theorem zg0 {R : Type} (k0 : Nat) (K : Kont R) : ∀ k : Nat, L0 k0 k K = G0 k0 (fun t2x f f3 f4 => K .ret [(1, .ptr 0 0 0 0), (2, .bool t2x)] [.box [.int .i64 f, .sl ct2 f3, .sl ct2 f4]]) (fun f f3 f4 => K (.exit 0) [(1, .ptr 0 0 0 0), (2, .undef)] [.box [.int .i64 f, .sl ct2 f3, .sl ct2 f4]]) k := by
 intro k
 induction k with
 | zero => funext i f f3 f4; rfl
 | succ k ih => funext i f f3 f4; rw [zs0, G0]; (try simp only [ih]); try rfl
noncomputable def G1 {R : Type} (k0 : Nat) (hx2 : (Bool → Option R)) (hx3 : (Unit → Option R)) : Nat → Int → Int → (List U5) → (List U5) → Option R
 | 0, _, _, _, _ => none
 | k + 1, i, f, f3, f4 => R1 (G1 k0 hx2 hx3 k) hx2 hx3 i f f3 f4
theorem zg1 {R : Type} (k0 : Nat) (K : Kont R) : ∀ k : Nat, L1 k0 k K = G1 k0 (fun t2x => K .ret [(2, .bool t2x)] []) (fun _ => K (.exit 2) [(2, .undef)] []) k := by
 intro k
 induction k with
 | zero => funext i f f3 f4; rfl
 | succ k ih => funext i f f3 f4; rw [zs1, G1]; (try simp only [ih, zg0]); try rfl
noncomputable def FF (k0 : Nat) (f0 : Int) (f1 f2 : List U5) : Option (Bool × Unit) := T (G0 k0 (A0  f0 f1 f2) (A1 (G1 k0 (A2  f0 f1 f2) (A3  f0 f1 f2) k0) f0 f1 f2) k0) f0 f1 f2
theorem zrun (k0 : Nat) (f0 : Int) (f1 f2 : List U5) : runFn Tryz.prog ztbl zcfg k0 26 ins_spec_FarmRight outs_spec_FarmRight [] (f0, f1, f2, ()) = FF k0 f0 f1 f2 := by
 rw [ztop, FF]; (try simp only [zg0, zg1, za0, za1, za2, za3]); try rfl
noncomputable def _root_.Go.Rv.F_spec_FarmRight : U1 → Option (Bool × Unit) := fun x => (fun (f0 : Int) (f1 f2 : List U5) => FF (300 + f1.length + f2.length) f0 f1 f2) x.1 x.2.1 x.2.2.1
noncomputable abbrev _root_.Go.Rv.S_spec_FarmRight : Summ := ⟨ins_spec_FarmRight, outs_spec_FarmRight, F_spec_FarmRight, []⟩
theorem _root_.Go.Rv.ok_spec_FarmRight : SumOK Dr Tryz.prog 26 S_spec_FarmRight := runFn_ok (by kernel_rfl) (tblL_ok (.cons ok_spec_l05Group (.cons ok_spec_l02Want (.cons ok_spec_l02Id (.cons ok_spec_l02Weight .nil))))) (by kernel_rfl) fun x y h => ⟨zcfg, _, (zrun _ x.1 x.2.1 x.2.2.1).trans h⟩
end spec_FarmRight
abbrev ins_spec_l10Length : List Par := [.v false [CT.int .i64]]
abbrev outs_spec_l10Length : List (Bool × List CT) := [(false, [CT.bool])]
namespace spec_l10Length
/-! ### loop.example/g00095/spec.l10Length (function 40) -/
noncomputable def ztbl : Tbl := tblL []
noncomputable def zbody : Code := ((Tryz.prog.funcs[40]?).bind (·.body)).getD .skip
def zcfg : Nat → List Nat × List Nat := fun k => ([], [])
noncomputable def T  (n : Int) : Option (Bool × Unit) := cond (decide (n ≥ 1)) (some ((decide (n ≤ 1000)), ())) (some (false, ()))
theorem ztop (k0 : Nat) (n : Int) : runFn Tryz.prog ztbl zcfg k0 40 ins_spec_l10Length outs_spec_l10Length [] (n, ()) = T  n := by kernel_rfl
noncomputable def _root_.Go.Rv.F_spec_l10Length : Int × Unit → Option (Bool × Unit) := fun x => T x.1
noncomputable abbrev _root_.Go.Rv.S_spec_l10Length : Summ := ⟨ins_spec_l10Length, outs_spec_l10Length, F_spec_l10Length, []⟩
theorem _root_.Go.Rv.ok_spec_l10Length : SumOK Dr Tryz.prog 40 S_spec_l10Length := runFn_ok (by kernel_rfl) (tblL_ok .nil) (by kernel_rfl) fun x y h => ⟨zcfg, 0, (ztop 0 x.1).trans h⟩
end spec_l10Length
abbrev ins_spec_l07Time : List Par := [.v false [CT.int .i64]]
abbrev outs_spec_l07Time : List (Bool × List CT) := [(false, [CT.bool])]
namespace spec_l07Time
/-! ### loop.example/g00095/spec.l07Time (function 104) -/
noncomputable def ztbl : Tbl := tblL []
noncomputable def zbody : Code := ((Tryz.prog.funcs[104]?).bind (·.body)).getD .skip
def zcfg : Nat → List Nat × List Nat := fun k => ([], [])
noncomputable def T  (n : Int) : Option (Bool × Unit) := cond (decide (n ≥ 0)) (some ((decide (n ≤ 1000000)), ())) (some (false, ()))
theorem ztop (k0 : Nat) (n : Int) : runFn Tryz.prog ztbl zcfg k0 104 ins_spec_l07Time outs_spec_l07Time [] (n, ()) = T  n := by kernel_rfl
noncomputable def _root_.Go.Rv.F_spec_l07Time : Int × Unit → Option (Bool × Unit) := fun x => T x.1
noncomputable abbrev _root_.Go.Rv.S_spec_l07Time : Summ := ⟨ins_spec_l07Time, outs_spec_l07Time, F_spec_l07Time, []⟩
theorem _root_.Go.Rv.ok_spec_l07Time : SumOK Dr Tryz.prog 104 S_spec_l07Time := runFn_ok (by kernel_rfl) (tblL_ok .nil) (by kernel_rfl) fun x y h => ⟨zcfg, 0, (ztop 0 x.1).trans h⟩
end spec_l07Time
abbrev ins_spec_l07Lease : List Par := [.v true ct0]
abbrev outs_spec_l07Lease : List (Bool × List CT) := [(false, [CT.bool])]
namespace spec_l07Lease
/-! ### loop.example/g00095/spec.l07Lease (function 80) -/
noncomputable def ztbl : Tbl := tblL [(53, [], S_spec_l02Want), (54, [], S_spec_l02Id), (104, [], S_spec_l07Time)]
noncomputable def zbody : Code := ((Tryz.prog.funcs[80]?).bind (·.body)).getD .skip
def zcfg : Nat → List Nat × List Nat := fun k => ([], [])
noncomputable def T  (l0 l1 l2 : Int) : Option (Bool × Unit) := (F_spec_l02Id (l0, ())).bind fun y1 => cond y1.1 ((F_spec_l02Want (l1, ())).bind fun y2 => cond y2.1 ((F_spec_l07Time (l2, ())).bind fun y3 => some (y3.1, ())) (some (false, ()))) (some (false, ()))
theorem ztop (k0 : Nat) (l0 l1 l2 : Int) : runFn Tryz.prog ztbl zcfg k0 80 ins_spec_l07Lease outs_spec_l07Lease [] (l0, l1, l2, ()) = T  l0 l1 l2 := by kernel_rfl
noncomputable def _root_.Go.Rv.F_spec_l07Lease : U6 → Option (Bool × Unit) := fun x => T x.1 x.2.1 x.2.2.1
noncomputable abbrev _root_.Go.Rv.S_spec_l07Lease : Summ := ⟨ins_spec_l07Lease, outs_spec_l07Lease, F_spec_l07Lease, []⟩
theorem _root_.Go.Rv.ok_spec_l07Lease : SumOK Dr Tryz.prog 80 S_spec_l07Lease := runFn_ok (by kernel_rfl) (tblL_ok (.cons ok_spec_l02Want (.cons ok_spec_l02Id (.cons ok_spec_l07Time .nil)))) (by kernel_rfl) fun x y h => ⟨zcfg, 0, (ztop 0 x.1 x.2.1 x.2.2.1).trans h⟩
end spec_l07Lease
abbrev ins_spec_LeasesRight : List Par := [.v false [CT.sl ct0]]
abbrev outs_spec_LeasesRight : List (Bool × List CT) := [(false, [CT.bool])]
namespace spec_LeasesRight
/-! ### loop.example/g00095/spec.LeasesRight (function 41) -/
noncomputable def ztbl : Tbl := tblL [(80, [], S_spec_l07Lease)]
noncomputable def zbody : Code := ((Tryz.prog.funcs[41]?).bind (·.body)).getD .skip
def zcfg : Nat → List Nat × List Nat := fun k => if k = 4 then ([0, 3], [2]) else ([], [])
noncomputable def R0 {R : Type} (nx0 : ((List U6) → Int → Option R)) (ex0 : (Bool → Option R)) (ex1 : (Unit → Option R)) (list2 : List U6) (i : Int) : Option R := cond (decide (i < (list2.length : Int))) (if 0 ≤ i ∧ i < (list2.length : Int) then (F_spec_l07Lease ((rd (0, 0, 0, ()) list2 i).1, (rd (0, 0, 0, ()) list2 i).2.1, (rd (0, 0, 0, ()) list2 i).2.2.1, ())).bind fun y1 => cond (!y1.1) (ex0 false) (cond (decide (i > 0)) (if 0 ≤ i ∧ i < (list2.length : Int) then if 0 ≤ (w64 (i - 1)) ∧ (w64 (i - 1)) < (list2.length : Int) then cond (decide ((rd (0, 0, 0, ()) list2 i).1 ≤ (rd (0, 0, 0, ()) list2 (w64 (i - 1))).1)) (ex0 false) (nx0 list2 (w64 (i + 1))) else none else none) (nx0 list2 (w64 (i + 1)))) else none) (ex1 ())
noncomputable def A0  (list : List U6) (t2x : Bool) : Option (Bool × Unit) := some (t2x, ())
noncomputable def A1  (list : List U6) (_u : Unit) : Option (Bool × Unit) := some (true, ())
noncomputable def T (lo0 : ((List U6) → Int → Option (Bool × Unit))) (list : List U6) : Option (Bool × Unit) := cond (decide ((list.length : Int) > 60)) (some (false, ())) (lo0 list 0)
noncomputable def zst0 {R : Type} (k0 : Nat) : Env → List Ob → Kont R → Option R := fun env ob K => runCode Tryz.prog ztbl 37 0 zcfg k0 (codeAt [1, 1, 0, 1, 0, 0] zbody) env ob K
noncomputable def K0 {R : Type} (k0 : Nat) (K : Kont R) : Kont R := blockK 0 (seqK (fun env ob => runCode Tryz.prog ztbl 37 0 zcfg k0 (codeAt [1, 1, 1] zbody) env ob (K)) (K))
noncomputable def L0 {R : Type} (k0 k : Nat) (K : Kont R) (list2 : List U6) (i : Int) : Option R := iter 0 [0, 3] [2] (zst0 k0) k [(0, .sl ct0 list2), (3, .int .i64 i)] [] K
theorem zs0 {R : Type} (k0 k : Nat) (K : Kont R) (list2 : List U6) (i : Int) : L0 k0 (k + 1) K list2 i = R0 (L0 k0 k K) (fun t2x => K .ret [(2, .bool t2x)] []) (fun _ => K (.exit 0) [(2, .undef)] []) list2 i := by kernel_rfl
theorem za0 (k0 : Nat) (list : List U6) (t2x : Bool) : K0 (R := (Bool × Unit)) k0 (finK Tryz.prog [.tmp 2] ins_spec_LeasesRight outs_spec_LeasesRight (list, ())) .ret [(2, .bool t2x)] [] = A0  list t2x := by kernel_rfl
theorem za1 (k0 : Nat) (list : List U6)  : K0 (R := (Bool × Unit)) k0 (finK Tryz.prog [.tmp 2] ins_spec_LeasesRight outs_spec_LeasesRight (list, ())) (.exit 0) [(2, .undef)] [] = A1  list () := by kernel_rfl
theorem ztop (k0 : Nat) (list : List U6) : runFn Tryz.prog ztbl zcfg k0 41 ins_spec_LeasesRight outs_spec_LeasesRight [] (list, ()) = T (L0 (R := (Bool × Unit)) k0 k0 (K0 (R := (Bool × Unit)) k0 ((finK Tryz.prog [.tmp 2] ins_spec_LeasesRight outs_spec_LeasesRight (list, ()))))) list := by kernel_rfl
noncomputable def G0 {R : Type} (k0 : Nat) (hx0 : (Bool → Option R)) (hx1 : (Unit → Option R)) : Nat → (List U6) → Int → Option R
 | 0, _, _ => none
 | k + 1, list2, i => R0 (G0 k0 hx0 hx1 k) hx0 hx1 list2 i
theorem zg0 {R : Type} (k0 : Nat) (K : Kont R) : ∀ k : Nat, L0 k0 k K = G0 k0 (fun t2x => K .ret [(2, .bool t2x)] []) (fun _ => K (.exit 0) [(2, .undef)] []) k := by
 intro k
 induction k with
 | zero => funext list2 i; rfl
 | succ k ih => funext list2 i; rw [zs0, G0]; (try simp only [ih]); try rfl
noncomputable def FF (k0 : Nat) (list : List U6) : Option (Bool × Unit) := T (G0 k0 (A0  list) (A1  list) k0) list
theorem zrun (k0 : Nat) (list : List U6) : runFn Tryz.prog ztbl zcfg k0 41 ins_spec_LeasesRight outs_spec_LeasesRight [] (list, ()) = FF k0 list := by
 rw [ztop, FF]; (try simp only [zg0, za0, za1]); try rfl
noncomputable def _root_.Go.Rv.F_spec_LeasesRight : (List U6) × Unit → Option (Bool × Unit) := fun x => (fun (list : List U6) => FF (300 + list.length) list) x.1
noncomputable abbrev _root_.Go.Rv.S_spec_LeasesRight : Summ := ⟨ins_spec_LeasesRight, outs_spec_LeasesRight, F_spec_LeasesRight, []⟩
theorem _root_.Go.Rv.ok_spec_LeasesRight : SumOK Dr Tryz.prog 41 S_spec_LeasesRight := runFn_ok (by kernel_rfl) (tblL_ok (.cons ok_spec_l07Lease .nil)) (by kernel_rfl) fun x y h => ⟨zcfg, _, (zrun _ x.1).trans h⟩
end spec_LeasesRight
abbrev ins_spec_ServerRight : List Par := [.v true ct3]
abbrev outs_spec_ServerRight : List (Bool × List CT) := [(false, [CT.bool])]
namespace spec_ServerRight
/-! ### loop.example/g00095/spec.ServerRight (function 16) -/
noncomputable def ztbl : Tbl := tblL [(26, [], S_spec_FarmRight), (40, [], S_spec_l10Length), (41, [], S_spec_LeasesRight)]
noncomputable def zbody : Code := ((Tryz.prog.funcs[16]?).bind (·.body)).getD .skip
def zcfg : Nat → List Nat × List Nat := fun k => if k = 4 then ([1, 3], [2]) else ([], [])
noncomputable def R0 {R : Type} (nx0 : (Int → Int → Int → Int → Int → (List U5) → (List U5) → (List U6) → Option R)) (ex0 : (Bool → Option R)) (ex1 : (Unit → Option R)) (i s s7 s8 s9 : Int) (s10 s11 : List U5) (s12 : List U6) : Option R := cond (decide (i < (s12.length : Int))) (if 0 ≤ i ∧ i < (s12.length : Int) then if 0 ≤ i ∧ i < (s11.length : Int) then cond ((rd (0, 0, 0, ()) s12 i).1 != (rd (0, 0, 0, 0, ()) s11 i).1) (ex0 false) (if 0 ≤ i ∧ i < (s12.length : Int) then cond (decide ((rd (0, 0, 0, ()) s12 i).2.2.1 ≤ s8)) (ex0 false) (if 0 ≤ i ∧ i < (s12.length : Int) then cond (decide ((rd (0, 0, 0, ()) s12 i).2.2.1 > (w64 (s8 + s)))) (ex0 false) (nx0 (w64 (i + 1)) s s7 s8 s9 s10 s11 s12) else none) else none) else none else none) (ex1 ())
noncomputable def A0  (s0 s1 s2 s3 : Int) (s4 s5 : List U5) (s6 : List U6) (t2x : Bool) : Option (Bool × Unit) := some (t2x, ())
noncomputable def A1  (s0 s1 s2 s3 : Int) (s4 s5 : List U5) (s6 : List U6) (_u : Unit) : Option (Bool × Unit) := some (true, ())
noncomputable def T (lo0 : (Int → Int → Int → Int → Int → (List U5) → (List U5) → (List U6) → Option (Bool × Unit))) (s0 s1 s2 s3 : Int) (s4 s5 : List U5) (s6 : List U6) : Option (Bool × Unit) := (F_spec_l10Length (s0, ())).bind fun y1 => cond (!y1.1) (some (false, ())) (cond (decide (s1 < 0)) (some (false, ())) (cond (decide (s1 > s2)) (some (false, ())) (cond (decide (s2 > 999000)) (some (false, ())) ((F_spec_FarmRight (s3, s4, s5, ())).bind fun y2 => cond (!y2.1) (some (false, ())) ((F_spec_LeasesRight (s6, ())).bind fun y3 => cond (!y3.1) (some (false, ())) (cond ((s6.length : Int) != (s5.length : Int)) (some (false, ())) (lo0 0 s0 s1 s2 s3 s4 s5 s6)))))))
noncomputable def zst0 {R : Type} (k0 : Nat) : Env → List Ob → Kont R → Option R := fun env ob K => runCode Tryz.prog ztbl 93 0 zcfg k0 (codeAt [1, 1, 0, 1, 0, 0] zbody) env ob K
noncomputable def K0 {R : Type} (k0 : Nat) (K : Kont R) : Kont R := blockK 0 (seqK (fun env ob => runCode Tryz.prog ztbl 93 0 zcfg k0 (codeAt [1, 1, 1] zbody) env ob (K)) (K))
noncomputable def L0 {R : Type} (k0 k : Nat) (K : Kont R) (i s s7 s8 s9 : Int) (s10 s11 : List U5) (s12 : List U6) : Option R := iter 0 [1, 3] [2] (zst0 k0) k [(1, .ptr 0 0 0 0), (3, .int .i64 i)] [.box [.int .i64 s, .int .i64 s7, .int .i64 s8, .int .i64 s9, .sl ct2 s10, .sl ct2 s11, .sl ct0 s12]] K
theorem zs0 {R : Type} (k0 k : Nat) (K : Kont R) (i s s7 s8 s9 : Int) (s10 s11 : List U5) (s12 : List U6) : L0 k0 (k + 1) K i s s7 s8 s9 s10 s11 s12 = R0 (L0 k0 k K) (fun t2x => K .ret [(2, .bool t2x)] []) (fun _ => K (.exit 0) [(2, .undef)] []) i s s7 s8 s9 s10 s11 s12 := by kernel_rfl
theorem za0 (k0 : Nat) (s0 s1 s2 s3 : Int) (s4 s5 : List U5) (s6 : List U6) (t2x : Bool) : K0 (R := (Bool × Unit)) k0 (finK Tryz.prog [.tmp 2] ins_spec_ServerRight outs_spec_ServerRight (s0, s1, s2, s3, s4, s5, s6, ())) .ret [(2, .bool t2x)] [] = A0  s0 s1 s2 s3 s4 s5 s6 t2x := by kernel_rfl
theorem za1 (k0 : Nat) (s0 s1 s2 s3 : Int) (s4 s5 : List U5) (s6 : List U6)  : K0 (R := (Bool × Unit)) k0 (finK Tryz.prog [.tmp 2] ins_spec_ServerRight outs_spec_ServerRight (s0, s1, s2, s3, s4, s5, s6, ())) (.exit 0) [(2, .undef)] [] = A1  s0 s1 s2 s3 s4 s5 s6 () := by kernel_rfl
theorem ztop (k0 : Nat) (s0 s1 s2 s3 : Int) (s4 s5 : List U5) (s6 : List U6) : runFn Tryz.prog ztbl zcfg k0 16 ins_spec_ServerRight outs_spec_ServerRight [] (s0, s1, s2, s3, s4, s5, s6, ()) = T (L0 (R := (Bool × Unit)) k0 k0 (K0 (R := (Bool × Unit)) k0 ((finK Tryz.prog [.tmp 2] ins_spec_ServerRight outs_spec_ServerRight (s0, s1, s2, s3, s4, s5, s6, ()))))) s0 s1 s2 s3 s4 s5 s6 := by kernel_rfl
noncomputable def G0 {R : Type} (k0 : Nat) (hx0 : (Bool → Option R)) (hx1 : (Unit → Option R)) : Nat → Int → Int → Int → Int → Int → (List U5) → (List U5) → (List U6) → Option R
 | 0, _, _, _, _, _, _, _, _ => none
 | k + 1, i, s, s7, s8, s9, s10, s11, s12 => R0 (G0 k0 hx0 hx1 k) hx0 hx1 i s s7 s8 s9 s10 s11 s12
theorem zg0 {R : Type} (k0 : Nat) (K : Kont R) : ∀ k : Nat, L0 k0 k K = G0 k0 (fun t2x => K .ret [(2, .bool t2x)] []) (fun _ => K (.exit 0) [(2, .undef)] []) k := by
 intro k
 induction k with
 | zero => funext i s s7 s8 s9 s10 s11 s12; rfl
 | succ k ih => funext i s s7 s8 s9 s10 s11 s12; rw [zs0, G0]; (try simp only [ih]); try rfl
noncomputable def FF (k0 : Nat) (s0 s1 s2 s3 : Int) (s4 s5 : List U5) (s6 : List U6) : Option (Bool × Unit) := T (G0 k0 (A0  s0 s1 s2 s3 s4 s5 s6) (A1  s0 s1 s2 s3 s4 s5 s6) k0) s0 s1 s2 s3 s4 s5 s6
theorem zrun (k0 : Nat) (s0 s1 s2 s3 : Int) (s4 s5 : List U5) (s6 : List U6) : runFn Tryz.prog ztbl zcfg k0 16 ins_spec_ServerRight outs_spec_ServerRight [] (s0, s1, s2, s3, s4, s5, s6, ()) = FF k0 s0 s1 s2 s3 s4 s5 s6 := by
 rw [ztop, FF]; (try simp only [zg0, za0, za1]); try rfl
noncomputable def _root_.Go.Rv.F_spec_ServerRight : U0 → Option (Bool × Unit) := fun x => (fun (s0 s1 s2 s3 : Int) (s4 s5 : List U5) (s6 : List U6) => FF (300 + s4.length + s5.length + s6.length) s0 s1 s2 s3 s4 s5 s6) x.1 x.2.1 x.2.2.1 x.2.2.2.1 x.2.2.2.2.1 x.2.2.2.2.2.1 x.2.2.2.2.2.2.1
noncomputable abbrev _root_.Go.Rv.S_spec_ServerRight : Summ := ⟨ins_spec_ServerRight, outs_spec_ServerRight, F_spec_ServerRight, []⟩
theorem _root_.Go.Rv.ok_spec_ServerRight : SumOK Dr Tryz.prog 16 S_spec_ServerRight := runFn_ok (by kernel_rfl) (tblL_ok (.cons ok_spec_FarmRight (.cons ok_spec_l10Length (.cons ok_spec_LeasesRight .nil)))) (by kernel_rfl) fun x y h => ⟨zcfg, _, (zrun _ x.1 x.2.1 x.2.2.1 x.2.2.2.1 x.2.2.2.2.1 x.2.2.2.2.2.1 x.2.2.2.2.2.2.1).trans h⟩
end spec_ServerRight
abbrev ins_spec_l01Min : List Par := [.v false [CT.int .i64], .v false [CT.int .i64]]
abbrev outs_spec_l01Min : List (Bool × List CT) := [(false, [CT.int .i64])]
namespace spec_l01Min
/-! ### loop.example/g00095/spec.l01Min (function 89) -/
noncomputable def ztbl : Tbl := tblL []
noncomputable def zbody : Code := ((Tryz.prog.funcs[89]?).bind (·.body)).getD .skip
def zcfg : Nat → List Nat × List Nat := fun k => ([], [])
noncomputable def T  (a b : Int) : Option (Int × Unit) := cond (decide (a < b)) (some (a, ())) (some (b, ()))
theorem ztop (k0 : Nat) (a b : Int) : runFn Tryz.prog ztbl zcfg k0 89 ins_spec_l01Min outs_spec_l01Min [] (a, b, ()) = T  a b := by kernel_rfl
noncomputable def _root_.Go.Rv.F_spec_l01Min : U7 → Option (Int × Unit) := fun x => T x.1 x.2.1
noncomputable abbrev _root_.Go.Rv.S_spec_l01Min : Summ := ⟨ins_spec_l01Min, outs_spec_l01Min, F_spec_l01Min, []⟩
theorem _root_.Go.Rv.ok_spec_l01Min : SumOK Dr Tryz.prog 89 S_spec_l01Min := runFn_ok (by kernel_rfl) (tblL_ok .nil) (by kernel_rfl) fun x y h => ⟨zcfg, 0, (ztop 0 x.1 x.2.1).trans h⟩
end spec_l01Min
abbrev ins_spec_l05Wants : List Par := [.v true ct4]
abbrev outs_spec_l05Wants : List (Bool × List CT) := [(false, [CT.sl [CT.int .i64]])]
namespace spec_l05Wants
/-! ### loop.example/g00095/spec.l05Wants (function 57) -/
noncomputable def ztbl : Tbl := tblL [(89, [], S_spec_l01Min)]
noncomputable def zbody : Code := ((Tryz.prog.funcs[57]?).bind (·.body)).getD .skip
def zcfg : Nat → List Nat × List Nat := fun k => if k = 3 then ([1, 3, 4], [3]) else if k = 7 then ([1, 3, 4, 5, 6], [1, 3, 4, 5]) else if k = 12 then ([1, 3, 4, 5, 7], [1, 3, 4, 5]) else ([], [])
noncomputable def R0 {R : Type} (ex0 : ((List (Int × Unit)) → Option R)) (lo1 : (Int → Int → Int → Int → (List U5) → (List U5) → (List (Int × Unit)) → Option R)) (i f : Int) (f3 f4 : List U5) (out : List (Int × Unit)) : Option R := cond (decide (i ≥ 0)) (lo1 i 0 (w64 (i + 1)) f f3 f4 out) (ex0 out)
noncomputable def R1 {R : Type} (nx1 : (Int → Int → Int → Int → (List U5) → (List U5) → (List (Int × Unit)) → Option R)) (ex1 : (Int → Int → Int → (List U5) → (List U5) → (List (Int × Unit)) → Option R)) (i sum kx f : Int) (f3 f4 : List U5) (out : List (Int × Unit)) : Option R := cond (decide (kx < (f3.length : Int))) (if 0 ≤ kx ∧ kx < (f3.length : Int) then if 0 ≤ i ∧ i < (f3.length : Int) then cond ((rd (0, 0, 0, 0, ()) f3 kx).2.1 == (rd (0, 0, 0, 0, ()) f3 i).1) (if 0 ≤ kx ∧ kx < (out.length : Int) then nx1 i (w64 (sum + (out.getD kx.toNat (0, ())).1)) (w64 (kx + 1)) f f3 f4 out else none) (nx1 i sum (w64 (kx + 1)) f f3 f4 out) else none else none) (ex1 i sum f f3 f4 out)
noncomputable def R2 {R : Type} (nx2 : (Int → Int → Int → Int → (List U5) → (List U5) → (List (Int × Unit)) → Option R)) (ex2 : (Int → Int → Int → (List U5) → (List U5) → (List (Int × Unit)) → Option R)) (i sum kx f : Int) (f3 f4 : List U5) (out : List (Int × Unit)) : Option R := cond (decide (kx < (f4.length : Int))) (if 0 ≤ kx ∧ kx < (f4.length : Int) then if 0 ≤ i ∧ i < (f3.length : Int) then cond ((rd (0, 0, 0, 0, ()) f4 kx).2.1 == (rd (0, 0, 0, 0, ()) f3 i).1) (if 0 ≤ kx ∧ kx < (f4.length : Int) then nx2 i (w64 (sum + (rd (0, 0, 0, 0, ()) f4 kx).2.2.1)) (w64 (kx + 1)) f f3 f4 out else none) (nx2 i sum (w64 (kx + 1)) f f3 f4 out) else none else none) (ex2 i sum f f3 f4 out)
noncomputable def A0  (f0 : Int) (f1 f2 : List U5) (out : List (Int × Unit)) : Option ((List (Int × Unit)) × Unit) := some (out, ())
noncomputable def A1 {R : Type} (lo2 : (Int → Int → Int → Int → (List U5) → (List U5) → (List (Int × Unit)) → Option R)) (i sum f : Int) (f3 f4 : List U5) (out : List (Int × Unit)) : Option R := lo2 i sum 0 f f3 f4 out
noncomputable def A2 {R : Type} (nx0 : (Int → Int → (List U5) → (List U5) → (List (Int × Unit)) → Option R)) (i sum f : Int) (f3 f4 : List U5) (out : List (Int × Unit)) : Option R := if 0 ≤ i ∧ i < (f3.length : Int) then (F_spec_l01Min (sum, (rd (0, 0, 0, 0, ()) f3 i).2.2.1, ())).bind fun y1 => if 0 ≤ i ∧ i < (out.length : Int) then nx0 (w64 (i - 1)) f f3 f4 (out.set i.toNat (y1.1, ())) else none else none
noncomputable def T (lo0 : (Int → Int → (List U5) → (List U5) → (List (Int × Unit)) → Option ((List (Int × Unit)) × Unit))) (f0 : Int) (f1 f2 : List U5) : Option ((List (Int × Unit)) × Unit) := if 0 ≤ (f1.length : Int) ∧ (8 : Int) * (f1.length : Int) ≤ 281474976710656 ∧ (f1.length : Int) ≤ 9223372036854775807 then lo0 (w64 ((f1.length : Int) - 1)) f0 f1 f2 (List.replicate (((f1.length : Int) : Int)).toNat (0, ())) else none
noncomputable def zst0 {R : Type} (k0 : Nat) : Env → List Ob → Kont R → Option R := fun env ob K => runCode Tryz.prog ztbl 88 0 zcfg k0 (codeAt [1, 1, 0, 1, 0, 0] zbody) env ob K
noncomputable def K0 {R : Type} (k0 : Nat) (K : Kont R) : Kont R := blockK 0 (seqK (fun env ob => runCode Tryz.prog ztbl 88 0 zcfg k0 (codeAt [1, 1, 1] zbody) env ob (K)) (K))
noncomputable def zst1 {R : Type} (k0 : Nat) : Env → List Ob → Kont R → Option R := fun env ob K => runCode Tryz.prog ztbl 88 0 zcfg k0 (codeAt [1, 1, 0, 1, 0, 0, 1, 0, 0, 1, 0, 1, 0, 0] zbody) env ob K
noncomputable def K1 {R : Type} (k0 : Nat) (K : Kont R) : Kont R := blockK 2 (seqK (fun env ob => runCode Tryz.prog ztbl 88 0 zcfg k0 (codeAt [1, 1, 0, 1, 0, 0, 1, 0, 0, 1, 1] zbody) env ob (blockK 1 (seqK (fun env ob => runCode Tryz.prog ztbl 88 0 zcfg k0 (codeAt [1, 1, 0, 1, 0, 0, 1, 1] zbody) env ob (K)) (K)))) (blockK 1 (seqK (fun env ob => runCode Tryz.prog ztbl 88 0 zcfg k0 (codeAt [1, 1, 0, 1, 0, 0, 1, 1] zbody) env ob (K)) (K))))
noncomputable def zst2 {R : Type} (k0 : Nat) : Env → List Ob → Kont R → Option R := fun env ob K => runCode Tryz.prog ztbl 88 0 zcfg k0 (codeAt [1, 1, 0, 1, 0, 0, 1, 0, 0, 1, 1, 0, 1, 0, 0] zbody) env ob K
noncomputable def K2 {R : Type} (k0 : Nat) (K : Kont R) : Kont R := blockK 4 (seqK (fun env ob => runCode Tryz.prog ztbl 88 0 zcfg k0 (codeAt [1, 1, 0, 1, 0, 0, 1, 0, 0, 1, 1, 1] zbody) env ob (blockK 1 (seqK (fun env ob => runCode Tryz.prog ztbl 88 0 zcfg k0 (codeAt [1, 1, 0, 1, 0, 0, 1, 1] zbody) env ob (K)) (K)))) (blockK 1 (seqK (fun env ob => runCode Tryz.prog ztbl 88 0 zcfg k0 (codeAt [1, 1, 0, 1, 0, 0, 1, 1] zbody) env ob (K)) (K))))
noncomputable def L0 {R : Type} (k0 k : Nat) (K : Kont R) (i f : Int) (f3 f4 : List U5) (out : List (Int × Unit)) : Option R := iter 0 [1, 3, 4] [3] (zst0 k0) k [(1, .ptr 0 0 0 0), (3, .own 1), (4, .int .i64 i)] [.box [.int .i64 f, .sl ct2 f3, .sl ct2 f4], .arr [CT.int .i64] out] K
noncomputable def L1 {R : Type} (k0 k : Nat) (K : Kont R) (i sum kx f : Int) (f3 f4 : List U5) (out : List (Int × Unit)) : Option R := iter 0 [1, 3, 4, 5, 6] [1, 3, 4, 5] (zst1 k0) k [(1, .ptr 0 0 0 0), (3, .own 1), (4, .int .i64 i), (5, .int .i64 sum), (6, .int .i64 kx)] [.box [.int .i64 f, .sl ct2 f3, .sl ct2 f4], .arr [CT.int .i64] out] K
noncomputable def L2 {R : Type} (k0 k : Nat) (K : Kont R) (i sum kx f : Int) (f3 f4 : List U5) (out : List (Int × Unit)) : Option R := iter 0 [1, 3, 4, 5, 7] [1, 3, 4, 5] (zst2 k0) k [(1, .ptr 0 0 0 0), (3, .own 1), (4, .int .i64 i), (5, .int .i64 sum), (7, .int .i64 kx)] [.box [.int .i64 f, .sl ct2 f3, .sl ct2 f4], .arr [CT.int .i64] out] K
theorem zs0 {R : Type} (k0 k : Nat) (K : Kont R) (i f : Int) (f3 f4 : List U5) (out : List (Int × Unit)) : L0 k0 (k + 1) K i f f3 f4 out = R0 (fun out => K (.exit 0) [(3, .own 0)] [.arr [CT.int .i64] out]) (L1 k0 k0 (K1 k0 (loopK 0 [1, 3, 4] [3] (fun env ob => iter 0 [1, 3, 4] [3] (zst0 k0) k env ob K) K))) i f f3 f4 out := by kernel_rfl
theorem zs1 {R : Type} (k0 k : Nat) (K : Kont R) (i sum kx f : Int) (f3 f4 : List U5) (out : List (Int × Unit)) : L1 k0 (k + 1) K i sum kx f f3 f4 out = R1 (L1 k0 k K) (fun i sum f f3 f4 out => K (.exit 2) [(1, .ptr 0 0 0 0), (3, .own 1), (4, .int .i64 i), (5, .int .i64 sum)] [.box [.int .i64 f, .sl ct2 f3, .sl ct2 f4], .arr [CT.int .i64] out]) i sum kx f f3 f4 out := by kernel_rfl
theorem zs2 {R : Type} (k0 k : Nat) (K : Kont R) (i sum kx f : Int) (f3 f4 : List U5) (out : List (Int × Unit)) : L2 k0 (k + 1) K i sum kx f f3 f4 out = R2 (L2 k0 k K) (fun i sum f f3 f4 out => K (.exit 4) [(1, .ptr 0 0 0 0), (3, .own 1), (4, .int .i64 i), (5, .int .i64 sum)] [.box [.int .i64 f, .sl ct2 f3, .sl ct2 f4], .arr [CT.int .i64] out]) i sum kx f f3 f4 out := by kernel_rfl
theorem za0 (k0 : Nat) (f0 : Int) (f1 f2 : List U5) (out : List (Int × Unit)) : K0 (R := ((List (Int × Unit)) × Unit)) k0 (finK Tryz.prog [.tmp 2] ins_spec_l05Wants outs_spec_l05Wants (f0, f1, f2, ())) (.exit 0) [(3, .own 0)] [.arr [CT.int .i64] out] = A0  f0 f1 f2 out := by kernel_rfl
theorem za1 {R : Type} (k0 k : Nat) (K : Kont R) (i sum f : Int) (f3 f4 : List U5) (out : List (Int × Unit)) : K1 k0 (loopK 0 [1, 3, 4] [3] (fun env ob => iter 0 [1, 3, 4] [3] (zst0 k0) k env ob K) K) (.exit 2) [(1, .ptr 0 0 0 0), (3, .own 1), (4, .int .i64 i), (5, .int .i64 sum)] [.box [.int .i64 f, .sl ct2 f3, .sl ct2 f4], .arr [CT.int .i64] out] = A1 (L2 k0 k0 (K2 k0 (loopK 0 [1, 3, 4] [3] (fun env ob => iter 0 [1, 3, 4] [3] (zst0 k0) k env ob K) K))) i sum f f3 f4 out := by kernel_rfl
theorem za2 {R : Type} (k0 k : Nat) (K : Kont R) (i sum f : Int) (f3 f4 : List U5) (out : List (Int × Unit)) : K2 k0 (loopK 0 [1, 3, 4] [3] (fun env ob => iter 0 [1, 3, 4] [3] (zst0 k0) k env ob K) K) (.exit 4) [(1, .ptr 0 0 0 0), (3, .own 1), (4, .int .i64 i), (5, .int .i64 sum)] [.box [.int .i64 f, .sl ct2 f3, .sl ct2 f4], .arr [CT.int .i64] out] = A2 (L0 k0 k K) i sum f f3 f4 out := by kernel_rfl
theorem ztop (k0 : Nat) (f0 : Int) (f1 f2 : List U5) : runFn Tryz.prog ztbl zcfg k0 57 ins_spec_l05Wants outs_spec_l05Wants [] (f0, f1, f2, ()) = T (L0 (R := ((List (Int × Unit)) × Unit)) k0 k0 (K0 (R := ((List (Int × Unit)) × Unit)) k0 ((finK Tryz.prog [.tmp 2] ins_spec_l05Wants outs_spec_l05Wants (f0, f1, f2, ()))))) f0 f1 f2 := by kernel_rfl
noncomputable def G1 {R : Type} (k0 : Nat) (hx1 : (Int → Int → Int → (List U5) → (List U5) → (List (Int × Unit)) → Option R)) : Nat → Int → Int → Int → Int → (List U5) → (List U5) → (List (Int × Unit)) → Option R
 | 0, _, _, _, _, _, _, _ => none
 | k + 1, i, sum, kx, f, f3, f4, out => R1 (G1 k0 hx1 k) hx1 i sum kx f f3 f4 out
theorem zg1 {R : Type} (k0 : Nat) (K : Kont R) : ∀ k : Nat, L1 k0 k K = G1 k0 (fun i sum f f3 f4 out => K (.exit 2) [(1, .ptr 0 0 0 0), (3, .own 1), (4, .int .i64 i), (5, .int .i64 sum)] [.box [.int .i64 f, .sl ct2 f3, .sl ct2 f4], .arr [CT.int .i64] out]) k := by
 intro k
 induction k with
 | zero => funext i sum kx f f3 f4 out; rfl
 | succ k ih => funext i sum kx f f3 f4 out; rw [zs1, G1]; (try simp only [ih]); try rfl
noncomputable def G2 {R : Type} (k0 : Nat) (hx2 : (Int → Int → Int → (List U5) → (List U5) → (List (Int × Unit)) → Option R)) : Nat → Int → Int → Int → Int → (List U5) → (List U5) → (List (Int × Unit)) → Option R
 | 0, _, _, _, _, _, _, _ => none
 | k + 1, i, sum, kx, f, f3, f4, out => R2 (G2 k0 hx2 k) hx2 i sum kx f f3 f4 out
theorem zg2 {R : Type} (k0 : Nat) (K : Kont R) : ∀ k : Nat, L2 k0 k K = G2 k0 (fun i sum f f3 f4 out => K (.exit 4) [(1, .ptr 0 0 0 0), (3, .own 1), (4, .int .i64 i), (5, .int .i64 sum)] [.box [.int .i64 f, .sl ct2 f3, .sl ct2 f4], .arr [CT.int .i64] out]) k := by
 intro k
 induction k with
 | zero => funext i sum kx f f3 f4 out; rfl
 | succ k ih => funext i sum kx f f3 f4 out; rw [zs2, G2]; (try simp only [ih, zg1]); try rfl
noncomputable def G0 {R : Type} (k0 : Nat) (hx0 : ((List (Int × Unit)) → Option R)) : Nat → Int → Int → (List U5) → (List U5) → (List (Int × Unit)) → Option R
 | 0, _, _, _, _, _ => none
 | k + 1, i, f, f3, f4, out => R0 hx0 (G1 k0 (A1 (G2 k0 (A2 (G0 k0 hx0 k)) k0)) k0) i f f3 f4 out
theorem zg0 {R : Type} (k0 : Nat) (K : Kont R) : ∀ k : Nat, L0 k0 k K = G0 k0 (fun out => K (.exit 0) [(3, .own 0)] [.arr [CT.int .i64] out]) k := by
 intro k
 induction k with
 | zero => funext i f f3 f4 out; rfl
 | succ k ih => funext i f f3 f4 out; rw [zs0, G0]; (try simp only [ih, zg1, zg2, za1, za2]); try rfl
noncomputable def FF (k0 : Nat) (f0 : Int) (f1 f2 : List U5) : Option ((List (Int × Unit)) × Unit) := T (G0 k0 (A0  f0 f1 f2) k0) f0 f1 f2
theorem zrun (k0 : Nat) (f0 : Int) (f1 f2 : List U5) : runFn Tryz.prog ztbl zcfg k0 57 ins_spec_l05Wants outs_spec_l05Wants [] (f0, f1, f2, ()) = FF k0 f0 f1 f2 := by
 rw [ztop, FF]; (try simp only [zg1, zg2, zg0, za0]); try rfl
noncomputable def _root_.Go.Rv.F_spec_l05Wants : U1 → Option ((List (Int × Unit)) × Unit) := fun x => (fun (f0 : Int) (f1 f2 : List U5) => FF (300 + f1.length + f2.length) f0 f1 f2) x.1 x.2.1 x.2.2.1
noncomputable abbrev _root_.Go.Rv.S_spec_l05Wants : Summ := ⟨ins_spec_l05Wants, outs_spec_l05Wants, F_spec_l05Wants, []⟩
theorem _root_.Go.Rv.ok_spec_l05Wants : SumOK Dr Tryz.prog 57 S_spec_l05Wants := runFn_ok (by kernel_rfl) (tblL_ok (.cons ok_spec_l01Min .nil)) (by kernel_rfl) fun x y h => ⟨zcfg, _, (zrun _ x.1 x.2.1 x.2.2.1).trans h⟩
end spec_l05Wants
abbrev ins_spec_l05Kids : List Par := [.v true ct4, .v false [CT.int .i64]]
abbrev outs_spec_l05Kids : List (Bool × List CT) := [(false, [CT.sl ct6]), (false, [CT.sl ct0])]
namespace spec_l05Kids
/-! ### loop.example/g00095/spec.l05Kids (function 30) -/
noncomputable def ztbl : Tbl := tblL [(57, [], S_spec_l05Wants)]
noncomputable def zbody : Code := ((Tryz.prog.funcs[30]?).bind (·.body)).getD .skip
def zcfg : Nat → List Nat × List Nat := fun k => if k = 5 then ([1, 2, 6, 7, 8, 9], [1, 2, 7, 8]) else if k = 11 then ([1, 2, 7, 8, 10], [7, 8]) else ([], [])
noncomputable def R0 {R : Type} (nx0 : (Int → Int → Int → (List U5) → (List U5) → (List (Int × Unit)) → (List U7) → (List U6) → Option R)) (ex0 : (Int → Int → (List U5) → (List U5) → (List U7) → (List U6) → Option R)) (group2 i f : Int) (f3 f4 : List U5) (wants : List (Int × Unit)) (kids : List U7) (items : List U6) : Option R := cond (decide (i < (f3.length : Int))) (if 0 ≤ i ∧ i < (f3.length : Int) then cond ((rd (0, 0, 0, 0, ()) f3 i).2.1 == group2) (if kids.length + [(i, (-1), ())].length ≤ maxRow then if 0 ≤ i ∧ i < (wants.length : Int) then if 0 ≤ i ∧ i < (f3.length : Int) then if items.length + ([(((kids ++ [(i, (-1), ())]).length : Int), (wants.getD i.toNat (0, ())).1, (rd (0, 0, 0, 0, ()) f3 i).2.2.2.1, ())]).length ≤ maxRow then nx0 group2 (w64 (i + 1)) f f3 f4 wants (kids ++ [(i, (-1), ())]) (items ++ [(((kids ++ [(i, (-1), ())]).length : Int), (wants.getD i.toNat (0, ())).1, (rd (0, 0, 0, 0, ()) f3 i).2.2.2.1, ())]) else none else none else none else none) (nx0 group2 (w64 (i + 1)) f f3 f4 wants kids items) else none) (ex0 group2 f f3 f4 kids items)
noncomputable def R1 {R : Type} (nx1 : (Int → Int → Int → (List U5) → (List U5) → (List U7) → (List U6) → Option R)) (ex1 : ((List U7) → (List U6) → Option R)) (group2 i f : Int) (f3 f4 : List U5) (kids : List U7) (items : List U6) : Option R := cond (decide (i < (f4.length : Int))) (if 0 ≤ i ∧ i < (f4.length : Int) then cond ((rd (0, 0, 0, 0, ()) f4 i).2.1 == group2) (if kids.length + [((-1), i, ())].length ≤ maxRow then if 0 ≤ i ∧ i < (f4.length : Int) then if 0 ≤ i ∧ i < (f4.length : Int) then if items.length + ([(((kids ++ [((-1), i, ())]).length : Int), (rd (0, 0, 0, 0, ()) f4 i).2.2.1, (rd (0, 0, 0, 0, ()) f4 i).2.2.2.1, ())]).length ≤ maxRow then nx1 group2 (w64 (i + 1)) f f3 f4 (kids ++ [((-1), i, ())]) (items ++ [(((kids ++ [((-1), i, ())]).length : Int), (rd (0, 0, 0, 0, ()) f4 i).2.2.1, (rd (0, 0, 0, 0, ()) f4 i).2.2.2.1, ())]) else none else none else none else none) (nx1 group2 (w64 (i + 1)) f f3 f4 kids items) else none) (ex1 kids items)
noncomputable def A0 (lo1 : (Int → Int → Int → (List U5) → (List U5) → (List U7) → (List U6) → Option ((List U7) × (List U6) × Unit))) (f0 : Int) (f1 f2 : List U5) (group : Int) (group2 f : Int) (f3 f4 : List U5) (kids : List U7) (items : List U6) : Option ((List U7) × (List U6) × Unit) := lo1 group2 0 f f3 f4 kids items
noncomputable def A1  (f0 : Int) (f1 f2 : List U5) (group : Int) (kids : List U7) (items : List U6) : Option ((List U7) × (List U6) × Unit) := some (kids, items, ())
noncomputable def T (lo0 : (Int → Int → Int → (List U5) → (List U5) → (List (Int × Unit)) → (List U7) → (List U6) → Option ((List U7) × (List U6) × Unit))) (f0 : Int) (f1 f2 : List U5) (group : Int) : Option ((List U7) × (List U6) × Unit) := (F_spec_l05Wants (f0, f1, f2, ())).bind fun y1 => lo0 group 0 f0 f1 f2 y1.1 ([] : List U7) ([] : List U6)
noncomputable def zst0 {R : Type} (k0 : Nat) : Env → List Ob → Kont R → Option R := fun env ob K => runCode Tryz.prog ztbl 91 0 zcfg k0 (codeAt [1, 1, 1, 1, 0, 1, 0, 0] zbody) env ob K
noncomputable def K0 {R : Type} (k0 : Nat) (K : Kont R) : Kont R := blockK 0 (seqK (fun env ob => runCode Tryz.prog ztbl 91 0 zcfg k0 (codeAt [1, 1, 1, 1, 1] zbody) env ob (K)) (K))
noncomputable def zst1 {R : Type} (k0 : Nat) : Env → List Ob → Kont R → Option R := fun env ob K => runCode Tryz.prog ztbl 91 0 zcfg k0 (codeAt [1, 1, 1, 1, 1, 0, 1, 0, 0] zbody) env ob K
noncomputable def K1 {R : Type} (k0 : Nat) (K : Kont R) : Kont R := blockK 2 (seqK (fun env ob => runCode Tryz.prog ztbl 91 0 zcfg k0 (codeAt [1, 1, 1, 1, 1, 1] zbody) env ob (K)) (K))
noncomputable def L0 {R : Type} (k0 k : Nat) (K : Kont R) (group2 i f : Int) (f3 f4 : List U5) (wants : List (Int × Unit)) (kids : List U7) (items : List U6) : Option R := iter 0 [1, 2, 6, 7, 8, 9] [1, 2, 7, 8] (zst0 k0) k [(1, .int .i64 group2), (2, .ptr 0 0 0 0), (6, .own 1), (7, .own 2), (8, .own 3), (9, .int .i64 i)] [.box [.int .i64 f, .sl ct2 f3, .sl ct2 f4], .arr [CT.int .i64] wants, .arr ct6 kids, .arr ct0 items] K
noncomputable def L1 {R : Type} (k0 k : Nat) (K : Kont R) (group2 i f : Int) (f3 f4 : List U5) (kids : List U7) (items : List U6) : Option R := iter 0 [1, 2, 7, 8, 10] [7, 8] (zst1 k0) k [(1, .int .i64 group2), (2, .ptr 0 0 0 0), (7, .own 1), (8, .own 2), (10, .int .i64 i)] [.box [.int .i64 f, .sl ct2 f3, .sl ct2 f4], .arr ct6 kids, .arr ct0 items] K
theorem zs0 {R : Type} (k0 k : Nat) (K : Kont R) (group2 i f : Int) (f3 f4 : List U5) (wants : List (Int × Unit)) (kids : List U7) (items : List U6) : L0 k0 (k + 1) K group2 i f f3 f4 wants kids items = R0 (L0 k0 k K) (fun group2 f f3 f4 kids items => K (.exit 0) [(1, .int .i64 group2), (2, .ptr 0 0 0 0), (7, .own 1), (8, .own 2)] [.box [.int .i64 f, .sl ct2 f3, .sl ct2 f4], .arr ct6 kids, .arr ct0 items]) group2 i f f3 f4 wants kids items := by kernel_rfl
theorem zs1 {R : Type} (k0 k : Nat) (K : Kont R) (group2 i f : Int) (f3 f4 : List U5) (kids : List U7) (items : List U6) : L1 k0 (k + 1) K group2 i f f3 f4 kids items = R1 (L1 k0 k K) (fun kids items => K (.exit 2) [(7, .own 0), (8, .own 1)] [.arr ct6 kids, .arr ct0 items]) group2 i f f3 f4 kids items := by kernel_rfl
theorem za0 (k0 : Nat) (f0 : Int) (f1 f2 : List U5) (group : Int) (group2 f : Int) (f3 f4 : List U5) (kids : List U7) (items : List U6) : K0 (R := ((List U7) × (List U6) × Unit)) k0 (finK Tryz.prog [.tmp 4, .tmp 5] ins_spec_l05Kids outs_spec_l05Kids (f0, f1, f2, group, ())) (.exit 0) [(1, .int .i64 group2), (2, .ptr 0 0 0 0), (7, .own 1), (8, .own 2)] [.box [.int .i64 f, .sl ct2 f3, .sl ct2 f4], .arr ct6 kids, .arr ct0 items] = A0 (L1 (R := ((List U7) × (List U6) × Unit)) k0 k0 (K1 (R := ((List U7) × (List U6) × Unit)) k0 ((finK Tryz.prog [.tmp 4, .tmp 5] ins_spec_l05Kids outs_spec_l05Kids (f0, f1, f2, group, ()))))) f0 f1 f2 group group2 f f3 f4 kids items := by kernel_rfl
theorem za1 (k0 : Nat) (f0 : Int) (f1 f2 : List U5) (group : Int) (kids : List U7) (items : List U6) : K1 (R := ((List U7) × (List U6) × Unit)) k0 (finK Tryz.prog [.tmp 4, .tmp 5] ins_spec_l05Kids outs_spec_l05Kids (f0, f1, f2, group, ())) (.exit 2) [(7, .own 0), (8, .own 1)] [.arr ct6 kids, .arr ct0 items] = A1  f0 f1 f2 group kids items := by kernel_rfl
theorem ztop (k0 : Nat) (f0 : Int) (f1 f2 : List U5) (group : Int) : runFn Tryz.prog ztbl zcfg k0 30 ins_spec_l05Kids outs_spec_l05Kids [] (f0, f1, f2, group, ()) = T (L0 (R := ((List U7) × (List U6) × Unit)) k0 k0 (K0 (R := ((List U7) × (List U6) × Unit)) k0 ((finK Tryz.prog [.tmp 4, .tmp 5] ins_spec_l05Kids outs_spec_l05Kids (f0, f1, f2, group, ()))))) f0 f1 f2 group := by kernel_rfl
noncomputable def G0 {R : Type} (k0 : Nat) (hx0 : (Int → Int → (List U5) → (List U5) → (List U7) → (List U6) → Option R)) : Nat → Int → Int → Int → (List U5) → (List U5) → (List (Int × Unit)) → (List U7) → (List U6) → Option R
 | 0, _, _, _, _, _, _, _, _ => none
 | k + 1, group2, i, f, f3, f4, wants, kids, items => R0 (G0 k0 hx0 k) hx0 group2 i f f3 f4 wants kids items
theorem zg0 {R : Type} (k0 : Nat) (K : Kont R) : ∀ k : Nat, L0 k0 k K = G0 k0 (fun group2 f f3 f4 kids items => K (.exit 0) [(1, .int .i64 group2), (2, .ptr 0 0 0 0), (7, .own 1), (8, .own 2)] [.box [.int .i64 f, .sl ct2 f3, .sl ct2 f4], .arr ct6 kids, .arr ct0 items]) k := by
 intro k
 induction k with
 | zero => funext group2 i f f3 f4 wants kids items; rfl
 | succ k ih => funext group2 i f f3 f4 wants kids items; rw [zs0, G0]; (try simp only [ih]); try rfl
noncomputable def G1 {R : Type} (k0 : Nat) (hx1 : ((List U7) → (List U6) → Option R)) : Nat → Int → Int → Int → (List U5) → (List U5) → (List U7) → (List U6) → Option R
 | 0, _, _, _, _, _, _, _ => none
 | k + 1, group2, i, f, f3, f4, kids, items => R1 (G1 k0 hx1 k) hx1 group2 i f f3 f4 kids items
theorem zg1 {R : Type} (k0 : Nat) (K : Kont R) : ∀ k : Nat, L1 k0 k K = G1 k0 (fun kids items => K (.exit 2) [(7, .own 0), (8, .own 1)] [.arr ct6 kids, .arr ct0 items]) k := by
 intro k
 induction k with
 | zero => funext group2 i f f3 f4 kids items; rfl
 | succ k ih => funext group2 i f f3 f4 kids items; rw [zs1, G1]; (try simp only [ih, zg0]); try rfl
noncomputable def FF (k0 : Nat) (f0 : Int) (f1 f2 : List U5) (group : Int) : Option ((List U7) × (List U6) × Unit) := T (G0 k0 (A0 (G1 k0 (A1  f0 f1 f2 group) k0) f0 f1 f2 group) k0) f0 f1 f2 group
theorem zrun (k0 : Nat) (f0 : Int) (f1 f2 : List U5) (group : Int) : runFn Tryz.prog ztbl zcfg k0 30 ins_spec_l05Kids outs_spec_l05Kids [] (f0, f1, f2, group, ()) = FF k0 f0 f1 f2 group := by
 rw [ztop, FF]; (try simp only [zg0, zg1, za0, za1]); try rfl
noncomputable def _root_.Go.Rv.F_spec_l05Kids : Int × (List U5) × (List U5) × Int × Unit → Option ((List U7) × (List U6) × Unit) := fun x => (fun (f0 : Int) (f1 f2 : List U5) (group : Int) => FF (300 + f1.length + f2.length) f0 f1 f2 group) x.1 x.2.1 x.2.2.1 x.2.2.2.1
noncomputable abbrev _root_.Go.Rv.S_spec_l05Kids : Summ := ⟨ins_spec_l05Kids, outs_spec_l05Kids, F_spec_l05Kids, []⟩
theorem _root_.Go.Rv.ok_spec_l05Kids : SumOK Dr Tryz.prog 30 S_spec_l05Kids := runFn_ok (by kernel_rfl) (tblL_ok (.cons ok_spec_l05Wants .nil)) (by kernel_rfl) fun x y h => ⟨zcfg, _, (zrun _ x.1 x.2.1 x.2.2.1 x.2.2.2.1).trans h⟩
end spec_l05Kids
abbrev ins_spec_WideAdd : List Par := [.v true ct1, .v true ct1]
abbrev outs_spec_WideAdd : List (Bool × List CT) := [(true, ct7)]
namespace spec_WideAdd
/-! ### loop.example/g00095/spec.WideAdd (function 108) -/
noncomputable def ztbl : Tbl := tblL []
noncomputable def zbody : Code := ((Tryz.prog.funcs[108]?).bind (·.body)).getD .skip
def zcfg : Nat → List Nat × List Nat := fun k => ([], [])
noncomputable def T  (a0 a1 b0 b1 : Int) : Option (U4) := cond (decide ((IntKind.u64.wrap (a1 + b1)) < a1)) (cond (decide ((IntKind.u64.wrap (a0 + b0)) < a0)) (some ((IntKind.u64.wrap ((IntKind.u64.wrap (a0 + b0)) + 1)), (IntKind.u64.wrap (a1 + b1)), true, 0, ())) (some ((IntKind.u64.wrap ((IntKind.u64.wrap (a0 + b0)) + 1)), (IntKind.u64.wrap (a1 + b1)), (decide ((IntKind.u64.wrap ((IntKind.u64.wrap (a0 + b0)) + 1)) < (IntKind.u64.wrap (a0 + b0)))), 0, ()))) (cond (decide ((IntKind.u64.wrap (a0 + b0)) < a0)) (some ((IntKind.u64.wrap ((IntKind.u64.wrap (a0 + b0)) + 0)), (IntKind.u64.wrap (a1 + b1)), true, 0, ())) (some ((IntKind.u64.wrap ((IntKind.u64.wrap (a0 + b0)) + 0)), (IntKind.u64.wrap (a1 + b1)), (decide ((IntKind.u64.wrap ((IntKind.u64.wrap (a0 + b0)) + 0)) < (IntKind.u64.wrap (a0 + b0)))), 0, ())))
theorem ztop (k0 : Nat) (a0 a1 b0 b1 : Int) : runFn Tryz.prog ztbl zcfg k0 108 ins_spec_WideAdd outs_spec_WideAdd [] (a0, a1, b0, b1, ()) = T  a0 a1 b0 b1 := by kernel_rfl
noncomputable def _root_.Go.Rv.F_spec_WideAdd : U5 → Option (U4) := fun x => T x.1 x.2.1 x.2.2.1 x.2.2.2.1
noncomputable abbrev _root_.Go.Rv.S_spec_WideAdd : Summ := ⟨ins_spec_WideAdd, outs_spec_WideAdd, F_spec_WideAdd, []⟩
theorem _root_.Go.Rv.ok_spec_WideAdd : SumOK Dr Tryz.prog 108 S_spec_WideAdd := runFn_ok (by kernel_rfl) (tblL_ok .nil) (by kernel_rfl) fun x y h => ⟨zcfg, 0, (ztop 0 x.1 x.2.1 x.2.2.1 x.2.2.2.1).trans h⟩
end spec_WideAdd
abbrev ins_spec_WideShl : List Par := [.v true ct1, .v false [CT.int .i64]]
abbrev outs_spec_WideShl : List (Bool × List CT) := [(true, ct1)]
namespace spec_WideShl
/-! ### loop.example/g00095/spec.WideShl (function 111) -/
noncomputable def ztbl : Tbl := tblL [(108, [], S_spec_WideAdd)]
noncomputable def zbody : Code := ((Tryz.prog.funcs[111]?).bind (·.body)).getD .skip
def zcfg : Nat → List Nat × List Nat := fun k => if k = 3 then ([1, 2, 4], [2, 4]) else ([], [])
noncomputable def R0 {R : Type} (nx0 : (Int → Int → Int → Int → Int → Option R)) (ex0 : (Int → Int → Int → Int → Option R)) (n2 a a2 t4x t4x2 : Int) : Option R := cond (decide (n2 > 0)) ((F_spec_WideAdd (a, a2, a, a2, ())).bind fun y1 => nx0 (w64 (n2 - 1)) y1.1 y1.2.1 t4x t4x2) (ex0 a a2 t4x t4x2)
noncomputable def A0  (a0 a1 n : Int) (a a2 t4x t4x2 : Int) : Option (U7) := some (a, a2, ())
noncomputable def T (lo0 : (Int → Int → Int → Int → Int → Option (U7))) (a0 a1 n : Int) : Option (U7) := cond (decide (n < 0)) (some (0, 0, ())) (cond (decide (n > 127)) (some (0, 0, ())) (lo0 n a0 a1 0 0))
noncomputable def zst0 {R : Type} (k0 : Nat) : Env → List Ob → Kont R → Option R := fun env ob K => runCode Tryz.prog ztbl 21 0 zcfg k0 (codeAt [1, 1, 0, 0, 0] zbody) env ob K
noncomputable def K0 {R : Type} (k0 : Nat) (K : Kont R) : Kont R := blockK 0 (seqK (fun env ob => runCode Tryz.prog ztbl 21 0 zcfg k0 (codeAt [1, 1, 1] zbody) env ob (K)) (K))
noncomputable def L0 {R : Type} (k0 k : Nat) (K : Kont R) (n2 a a2 t4x t4x2 : Int) : Option R := iter 0 [1, 2, 4] [2, 4] (zst0 k0) k [(1, .int .i64 n2), (2, .ptr 0 0 0 0), (4, .ptr 1 0 0 0)] [.box [.int .u64 a, .int .u64 a2], .box [.int .u64 t4x, .int .u64 t4x2]] K
theorem zs0 {R : Type} (k0 k : Nat) (K : Kont R) (n2 a a2 t4x t4x2 : Int) : L0 k0 (k + 1) K n2 a a2 t4x t4x2 = R0 (L0 k0 k K) (fun a a2 t4x t4x2 => K (.exit 0) [(2, .ptr 0 0 0 0), (4, .ptr 1 0 0 0)] [.box [.int .u64 a, .int .u64 a2], .box [.int .u64 t4x, .int .u64 t4x2]]) n2 a a2 t4x t4x2 := by kernel_rfl
theorem za0 (k0 : Nat) (a0 a1 n : Int) (a a2 t4x t4x2 : Int) : K0 (R := (U7)) k0 (finK Tryz.prog [.cell 4 137] ins_spec_WideShl outs_spec_WideShl (a0, a1, n, ())) (.exit 0) [(2, .ptr 0 0 0 0), (4, .ptr 1 0 0 0)] [.box [.int .u64 a, .int .u64 a2], .box [.int .u64 t4x, .int .u64 t4x2]] = A0  a0 a1 n a a2 t4x t4x2 := by kernel_rfl
theorem ztop (k0 : Nat) (a0 a1 n : Int) : runFn Tryz.prog ztbl zcfg k0 111 ins_spec_WideShl outs_spec_WideShl [] (a0, a1, n, ()) = T (L0 (R := (U7)) k0 k0 (K0 (R := (U7)) k0 ((finK Tryz.prog [.cell 4 137] ins_spec_WideShl outs_spec_WideShl (a0, a1, n, ()))))) a0 a1 n := by kernel_rfl
noncomputable def G0 {R : Type} (k0 : Nat) (hx0 : (Int → Int → Int → Int → Option R)) : Nat → Int → Int → Int → Int → Int → Option R
 | 0, _, _, _, _, _ => none
 | k + 1, n2, a, a2, t4x, t4x2 => R0 (G0 k0 hx0 k) hx0 n2 a a2 t4x t4x2
theorem zg0 {R : Type} (k0 : Nat) (K : Kont R) : ∀ k : Nat, L0 k0 k K = G0 k0 (fun a a2 t4x t4x2 => K (.exit 0) [(2, .ptr 0 0 0 0), (4, .ptr 1 0 0 0)] [.box [.int .u64 a, .int .u64 a2], .box [.int .u64 t4x, .int .u64 t4x2]]) k := by
 intro k
 induction k with
 | zero => funext n2 a a2 t4x t4x2; rfl
 | succ k ih => funext n2 a a2 t4x t4x2; rw [zs0, G0]; (try simp only [ih]); try rfl
noncomputable def FF (k0 : Nat) (a0 a1 n : Int) : Option (U7) := T (G0 k0 (A0  a0 a1 n) k0) a0 a1 n
theorem zrun (k0 : Nat) (a0 a1 n : Int) : runFn Tryz.prog ztbl zcfg k0 111 ins_spec_WideShl outs_spec_WideShl [] (a0, a1, n, ()) = FF k0 a0 a1 n := by
 rw [ztop, FF]; (try simp only [zg0, za0]); try rfl
noncomputable def _root_.Go.Rv.F_spec_WideShl : U6 → Option (U7) := fun x => (fun (a0 a1 n : Int) => FF (300) a0 a1 n) x.1 x.2.1 x.2.2.1
noncomputable abbrev _root_.Go.Rv.S_spec_WideShl : Summ := ⟨ins_spec_WideShl, outs_spec_WideShl, F_spec_WideShl, []⟩
theorem _root_.Go.Rv.ok_spec_WideShl : SumOK Dr Tryz.prog 111 S_spec_WideShl := runFn_ok (by kernel_rfl) (tblL_ok (.cons ok_spec_WideAdd .nil)) (by kernel_rfl) fun x y h => ⟨zcfg, _, (zrun _ x.1 x.2.1 x.2.2.1).trans h⟩
end spec_WideShl
abbrev ins_spec_WideMul : List Par := [.v false [CT.int .u64], .v false [CT.int .u64]]
abbrev outs_spec_WideMul : List (Bool × List CT) := [(true, ct1)]
namespace spec_WideMul
/-! ### loop.example/g00095/spec.WideMul (function 88) -/
noncomputable def ztbl : Tbl := tblL [(108, [], S_spec_WideAdd), (111, [], S_spec_WideShl)]
noncomputable def zbody : Code := ((Tryz.prog.funcs[88]?).bind (·.body)).getD .skip
def zcfg : Nat → List Nat × List Nat := fun k => if k = 3 then ([0, 1, 4, 5, 6], [4, 5]) else ([], [])
noncomputable def R0 {R : Type} (nx0 : (Int → Int → Int → Int → Int → Int → Int → Option R)) (ex0 : (Int → Int → Int → Int → Option R)) (a2 b2 kx t4x t4x2 sum sum2 : Int) : Option R := cond (decide (kx < 64)) (if (IntKind.u64.wrap (kx)) < 0 then none else cond ((IntKind.u64.wrap (((BitVec.ofInt 64 (Int.fdiv b2 (2 ^ (min (((IntKind.u64.wrap (kx)) : Int)).toNat 64)))) &&& (BitVec.ofInt 64 1)).toNat)) == 1) ((F_spec_WideShl (0, a2, kx, ())).bind fun y1 => (F_spec_WideAdd (sum, sum2, y1.1, y1.2.1, ())).bind fun y2 => nx0 a2 b2 (w64 (kx + 1)) t4x t4x2 y2.1 y2.2.1) (nx0 a2 b2 (w64 (kx + 1)) t4x t4x2 sum sum2)) (ex0 t4x t4x2 sum sum2)
noncomputable def A0  (a b : Int) (t4x t4x2 sum sum2 : Int) : Option (U7) := some (sum, sum2, ())
noncomputable def T (lo0 : (Int → Int → Int → Int → Int → Int → Int → Option (U7))) (a b : Int) : Option (U7) := lo0 a b 0 0 0 0 0
noncomputable def zst0 {R : Type} (k0 : Nat) : Env → List Ob → Kont R → Option R := fun env ob K => runCode Tryz.prog ztbl 26 0 zcfg k0 (codeAt [1, 1, 0, 1, 0, 0] zbody) env ob K
noncomputable def K0 {R : Type} (k0 : Nat) (K : Kont R) : Kont R := blockK 0 (seqK (fun env ob => runCode Tryz.prog ztbl 26 0 zcfg k0 (codeAt [1, 1, 1] zbody) env ob (K)) (K))
noncomputable def L0 {R : Type} (k0 k : Nat) (K : Kont R) (a2 b2 kx t4x t4x2 sum sum2 : Int) : Option R := iter 0 [0, 1, 4, 5, 6] [4, 5] (zst0 k0) k [(0, .int .u64 a2), (1, .int .u64 b2), (4, .ptr 0 0 0 0), (5, .ptr 1 0 0 0), (6, .int .i64 kx)] [.box [.int .u64 t4x, .int .u64 t4x2], .box [.int .u64 sum, .int .u64 sum2]] K
theorem zs0 {R : Type} (k0 k : Nat) (K : Kont R) (a2 b2 kx t4x t4x2 sum sum2 : Int) : L0 k0 (k + 1) K a2 b2 kx t4x t4x2 sum sum2 = R0 (L0 k0 k K) (fun t4x t4x2 sum sum2 => K (.exit 0) [(4, .ptr 0 0 0 0), (5, .ptr 1 0 0 0)] [.box [.int .u64 t4x, .int .u64 t4x2], .box [.int .u64 sum, .int .u64 sum2]]) a2 b2 kx t4x t4x2 sum sum2 := by kernel_rfl
theorem za0 (k0 : Nat) (a b : Int) (t4x t4x2 sum sum2 : Int) : K0 (R := (U7)) k0 (finK Tryz.prog [.cell 4 137] ins_spec_WideMul outs_spec_WideMul (a, b, ())) (.exit 0) [(4, .ptr 0 0 0 0), (5, .ptr 1 0 0 0)] [.box [.int .u64 t4x, .int .u64 t4x2], .box [.int .u64 sum, .int .u64 sum2]] = A0  a b t4x t4x2 sum sum2 := by kernel_rfl
theorem ztop (k0 : Nat) (a b : Int) : runFn Tryz.prog ztbl zcfg k0 88 ins_spec_WideMul outs_spec_WideMul [] (a, b, ()) = T (L0 (R := (U7)) k0 k0 (K0 (R := (U7)) k0 ((finK Tryz.prog [.cell 4 137] ins_spec_WideMul outs_spec_WideMul (a, b, ()))))) a b := by kernel_rfl
noncomputable def G0 {R : Type} (k0 : Nat) (hx0 : (Int → Int → Int → Int → Option R)) : Nat → Int → Int → Int → Int → Int → Int → Int → Option R
 | 0, _, _, _, _, _, _, _ => none
 | k + 1, a2, b2, kx, t4x, t4x2, sum, sum2 => R0 (G0 k0 hx0 k) hx0 a2 b2 kx t4x t4x2 sum sum2
theorem zg0 {R : Type} (k0 : Nat) (K : Kont R) : ∀ k : Nat, L0 k0 k K = G0 k0 (fun t4x t4x2 sum sum2 => K (.exit 0) [(4, .ptr 0 0 0 0), (5, .ptr 1 0 0 0)] [.box [.int .u64 t4x, .int .u64 t4x2], .box [.int .u64 sum, .int .u64 sum2]]) k := by
 intro k
 induction k with
 | zero => funext a2 b2 kx t4x t4x2 sum sum2; rfl
 | succ k ih => funext a2 b2 kx t4x t4x2 sum sum2; rw [zs0, G0]; (try simp only [ih]); try rfl
noncomputable def FF (k0 : Nat) (a b : Int) : Option (U7) := T (G0 k0 (A0  a b) k0) a b
theorem zrun (k0 : Nat) (a b : Int) : runFn Tryz.prog ztbl zcfg k0 88 ins_spec_WideMul outs_spec_WideMul [] (a, b, ()) = FF k0 a b := by
 rw [ztop, FF]; (try simp only [zg0, za0]); try rfl
noncomputable def _root_.Go.Rv.F_spec_WideMul : U7 → Option (U7) := fun x => (fun (a b : Int) => FF (300) a b) x.1 x.2.1
noncomputable abbrev _root_.Go.Rv.S_spec_WideMul : Summ := ⟨ins_spec_WideMul, outs_spec_WideMul, F_spec_WideMul, []⟩
theorem _root_.Go.Rv.ok_spec_WideMul : SumOK Dr Tryz.prog 88 S_spec_WideMul := runFn_ok (by kernel_rfl) (tblL_ok (.cons ok_spec_WideAdd (.cons ok_spec_WideShl .nil))) (by kernel_rfl) fun x y h => ⟨zcfg, _, (zrun _ x.1 x.2.1).trans h⟩
end spec_WideMul
abbrev ins_spec_WideCmp : List Par := [.v true ct1, .v true ct1]
abbrev outs_spec_WideCmp : List (Bool × List CT) := [(false, [CT.int .i64])]
namespace spec_WideCmp
/-! ### loop.example/g00095/spec.WideCmp (function 107) -/
noncomputable def ztbl : Tbl := tblL []
noncomputable def zbody : Code := ((Tryz.prog.funcs[107]?).bind (·.body)).getD .skip
def zcfg : Nat → List Nat × List Nat := fun k => ([], [])
noncomputable def T  (a0 a1 b0 b1 : Int) : Option (Int × Unit) := cond (a0 != b0) (cond (decide (a0 < b0)) (some ((-1), ())) (some (1, ()))) (cond (decide (a1 < b1)) (some ((-1), ())) (cond (decide (a1 > b1)) (some (1, ())) (some (0, ()))))
theorem ztop (k0 : Nat) (a0 a1 b0 b1 : Int) : runFn Tryz.prog ztbl zcfg k0 107 ins_spec_WideCmp outs_spec_WideCmp [] (a0, a1, b0, b1, ()) = T  a0 a1 b0 b1 := by kernel_rfl
noncomputable def _root_.Go.Rv.F_spec_WideCmp : U5 → Option (Int × Unit) := fun x => T x.1 x.2.1 x.2.2.1 x.2.2.2.1
noncomputable abbrev _root_.Go.Rv.S_spec_WideCmp : Summ := ⟨ins_spec_WideCmp, outs_spec_WideCmp, F_spec_WideCmp, []⟩
theorem _root_.Go.Rv.ok_spec_WideCmp : SumOK Dr Tryz.prog 107 S_spec_WideCmp := runFn_ok (by kernel_rfl) (tblL_ok .nil) (by kernel_rfl) fun x y h => ⟨zcfg, 0, (ztop 0 x.1 x.2.1 x.2.2.1 x.2.2.2.1).trans h⟩
end spec_WideCmp
abbrev ins_spec_l02Times : List Par := [.v false [CT.int .i64], .v false [CT.int .i64], .v false [CT.int .i64], .v false [CT.int .i64]]
abbrev outs_spec_l02Times : List (Bool × List CT) := [(false, [CT.int .i64])]
namespace spec_l02Times
/-! ### loop.example/g00095/spec.l02Times (function 86) -/
noncomputable def ztbl : Tbl := tblL [(88, [], S_spec_WideMul), (107, [], S_spec_WideCmp)]
noncomputable def zbody : Code := ((Tryz.prog.funcs[86]?).bind (·.body)).getD .skip
def zcfg : Nat → List Nat × List Nat := fun k => ([], [])
noncomputable def T  (a b c d : Int) : Option (Int × Unit) := (F_spec_WideMul ((IntKind.u64.wrap (a)), (IntKind.u64.wrap (b)), ())).bind fun y1 => (F_spec_WideMul ((IntKind.u64.wrap (c)), (IntKind.u64.wrap (d)), ())).bind fun y2 => (F_spec_WideCmp (y1.1, y1.2.1, y2.1, y2.2.1, ())).bind fun y3 => some (y3.1, ())
theorem ztop (k0 : Nat) (a b c d : Int) : runFn Tryz.prog ztbl zcfg k0 86 ins_spec_l02Times outs_spec_l02Times [] (a, b, c, d, ()) = T  a b c d := by kernel_rfl
noncomputable def _root_.Go.Rv.F_spec_l02Times : U5 → Option (Int × Unit) := fun x => T x.1 x.2.1 x.2.2.1 x.2.2.2.1
noncomputable abbrev _root_.Go.Rv.S_spec_l02Times : Summ := ⟨ins_spec_l02Times, outs_spec_l02Times, F_spec_l02Times, []⟩
theorem _root_.Go.Rv.ok_spec_l02Times : SumOK Dr Tryz.prog 86 S_spec_l02Times := runFn_ok (by kernel_rfl) (tblL_ok (.cons ok_spec_WideMul (.cons ok_spec_WideCmp .nil))) (by kernel_rfl) fun x y h => ⟨zcfg, 0, (ztop 0 x.1 x.2.1 x.2.2.1 x.2.2.2.1).trans h⟩
end spec_l02Times
abbrev ins_spec_ItemRight : List Par := [.v true ct0]
abbrev outs_spec_ItemRight : List (Bool × List CT) := [(false, [CT.bool])]
namespace spec_ItemRight
/-! ### loop.example/g00095/spec.ItemRight (function 90) -/
noncomputable def ztbl : Tbl := tblL [(53, [], S_spec_l02Want), (54, [], S_spec_l02Id), (55, [], S_spec_l02Weight)]
noncomputable def zbody : Code := ((Tryz.prog.funcs[90]?).bind (·.body)).getD .skip
def zcfg : Nat → List Nat × List Nat := fun k => ([], [])
noncomputable def T  (a0 a1 a2 : Int) : Option (Bool × Unit) := (F_spec_l02Id (a0, ())).bind fun y1 => cond y1.1 ((F_spec_l02Want (a1, ())).bind fun y2 => cond y2.1 ((F_spec_l02Weight (a2, ())).bind fun y3 => some (y3.1, ())) (some (false, ()))) (some (false, ()))
theorem ztop (k0 : Nat) (a0 a1 a2 : Int) : runFn Tryz.prog ztbl zcfg k0 90 ins_spec_ItemRight outs_spec_ItemRight [] (a0, a1, a2, ()) = T  a0 a1 a2 := by kernel_rfl
noncomputable def _root_.Go.Rv.F_spec_ItemRight : U6 → Option (Bool × Unit) := fun x => T x.1 x.2.1 x.2.2.1
noncomputable abbrev _root_.Go.Rv.S_spec_ItemRight : Summ := ⟨ins_spec_ItemRight, outs_spec_ItemRight, F_spec_ItemRight, []⟩
theorem _root_.Go.Rv.ok_spec_ItemRight : SumOK Dr Tryz.prog 90 S_spec_ItemRight := runFn_ok (by kernel_rfl) (tblL_ok (.cons ok_spec_l02Want (.cons ok_spec_l02Id (.cons ok_spec_l02Weight .nil)))) (by kernel_rfl) fun x y h => ⟨zcfg, 0, (ztop 0 x.1 x.2.1 x.2.2.1).trans h⟩
end spec_ItemRight
abbrev ins_spec_RatioCmp : List Par := [.v true ct0, .v true ct0]
abbrev outs_spec_RatioCmp : List (Bool × List CT) := [(false, [CT.int .i64])]
namespace spec_RatioCmp
/-! ### loop.example/g00095/spec.RatioCmp (function 85) -/
noncomputable def ztbl : Tbl := tblL [(86, [], S_spec_l02Times), (90, [], S_spec_ItemRight)]
noncomputable def zbody : Code := ((Tryz.prog.funcs[85]?).bind (·.body)).getD .skip
def zcfg : Nat → List Nat × List Nat := fun k => ([], [])
noncomputable def T  (a0 a1 a2 b0 b1 b2 : Int) : Option (Int × Unit) := (F_spec_ItemRight (a0, a1, a2, ())).bind fun y1 => cond (!y1.1) (some (0, ())) ((F_spec_ItemRight (b0, b1, b2, ())).bind fun y2 => cond (!y2.1) (some (0, ())) ((F_spec_l02Times (a1, b2, b1, a2, ())).bind fun y3 => cond (y3.1 != 0) (some (y3.1, ())) (cond (decide (a0 < b0)) (some ((-1), ())) (cond (decide (a0 > b0)) (some (1, ())) (some (0, ()))))))
theorem ztop (k0 : Nat) (a0 a1 a2 b0 b1 b2 : Int) : runFn Tryz.prog ztbl zcfg k0 85 ins_spec_RatioCmp outs_spec_RatioCmp [] (a0, a1, a2, b0, b1, b2, ()) = T  a0 a1 a2 b0 b1 b2 := by kernel_rfl
noncomputable def _root_.Go.Rv.F_spec_RatioCmp : U3 → Option (Int × Unit) := fun x => T x.1 x.2.1 x.2.2.1 x.2.2.2.1 x.2.2.2.2.1 x.2.2.2.2.2.1
noncomputable abbrev _root_.Go.Rv.S_spec_RatioCmp : Summ := ⟨ins_spec_RatioCmp, outs_spec_RatioCmp, F_spec_RatioCmp, []⟩
theorem _root_.Go.Rv.ok_spec_RatioCmp : SumOK Dr Tryz.prog 85 S_spec_RatioCmp := runFn_ok (by kernel_rfl) (tblL_ok (.cons ok_spec_l02Times (.cons ok_spec_ItemRight .nil))) (by kernel_rfl) fun x y h => ⟨zcfg, 0, (ztop 0 x.1 x.2.1 x.2.2.1 x.2.2.2.1 x.2.2.2.2.1 x.2.2.2.2.2.1).trans h⟩
end spec_RatioCmp
abbrev ins_spec_WideShr : List Par := [.v true ct1, .v false [CT.int .i64]]
abbrev outs_spec_WideShr : List (Bool × List CT) := [(true, ct1)]
namespace spec_WideShr
/-! ### loop.example/g00095/spec.WideShr (function 123) -/
noncomputable def ztbl : Tbl := tblL []
noncomputable def zbody : Code := ((Tryz.prog.funcs[123]?).bind (·.body)).getD .skip
def zcfg : Nat → List Nat × List Nat := fun k => if k = 3 then ([1, 2, 4], [2, 4]) else ([], [])
noncomputable def R0 {R : Type} (nx0 : (Int → Int → Int → Int → Int → Option R)) (ex0 : (Int → Int → Int → Int → Option R)) (n2 a a2 t4x t4x2 : Int) : Option R := cond (decide (n2 > 0)) (if 2 = 0 then none else if 2 = 0 then none else if 2 = 0 then none else nx0 (w64 (n2 - 1)) (IntKind.u64.wrap (Int.tdiv a 2)) (IntKind.u64.wrap ((IntKind.u64.wrap (Int.tdiv a2 2)) + (IntKind.u64.wrap ((Int.tmod a 2) * 9223372036854775808)))) t4x t4x2) (ex0 a a2 t4x t4x2)
noncomputable def A0  (a0 a1 n : Int) (a a2 t4x t4x2 : Int) : Option (U7) := some (a, a2, ())
noncomputable def T (lo0 : (Int → Int → Int → Int → Int → Option (U7))) (a0 a1 n : Int) : Option (U7) := cond (decide (n < 0)) (some (0, 0, ())) (cond (decide (n > 127)) (some (0, 0, ())) (lo0 n a0 a1 0 0))
noncomputable def zst0 {R : Type} (k0 : Nat) : Env → List Ob → Kont R → Option R := fun env ob K => runCode Tryz.prog ztbl 29 0 zcfg k0 (codeAt [1, 1, 0, 0, 0] zbody) env ob K
noncomputable def K0 {R : Type} (k0 : Nat) (K : Kont R) : Kont R := blockK 0 (seqK (fun env ob => runCode Tryz.prog ztbl 29 0 zcfg k0 (codeAt [1, 1, 1] zbody) env ob (K)) (K))
noncomputable def L0 {R : Type} (k0 k : Nat) (K : Kont R) (n2 a a2 t4x t4x2 : Int) : Option R := iter 0 [1, 2, 4] [2, 4] (zst0 k0) k [(1, .int .i64 n2), (2, .ptr 0 0 0 0), (4, .ptr 1 0 0 0)] [.box [.int .u64 a, .int .u64 a2], .box [.int .u64 t4x, .int .u64 t4x2]] K
theorem zs0 {R : Type} (k0 k : Nat) (K : Kont R) (n2 a a2 t4x t4x2 : Int) : L0 k0 (k + 1) K n2 a a2 t4x t4x2 = R0 (L0 k0 k K) (fun a a2 t4x t4x2 => K (.exit 0) [(2, .ptr 0 0 0 0), (4, .ptr 1 0 0 0)] [.box [.int .u64 a, .int .u64 a2], .box [.int .u64 t4x, .int .u64 t4x2]]) n2 a a2 t4x t4x2 := by kernel_rfl
theorem za0 (k0 : Nat) (a0 a1 n : Int) (a a2 t4x t4x2 : Int) : K0 (R := (U7)) k0 (finK Tryz.prog [.cell 4 137] ins_spec_WideShr outs_spec_WideShr (a0, a1, n, ())) (.exit 0) [(2, .ptr 0 0 0 0), (4, .ptr 1 0 0 0)] [.box [.int .u64 a, .int .u64 a2], .box [.int .u64 t4x, .int .u64 t4x2]] = A0  a0 a1 n a a2 t4x t4x2 := by kernel_rfl
theorem ztop (k0 : Nat) (a0 a1 n : Int) : runFn Tryz.prog ztbl zcfg k0 123 ins_spec_WideShr outs_spec_WideShr [] (a0, a1, n, ()) = T (L0 (R := (U7)) k0 k0 (K0 (R := (U7)) k0 ((finK Tryz.prog [.cell 4 137] ins_spec_WideShr outs_spec_WideShr (a0, a1, n, ()))))) a0 a1 n := by kernel_rfl
noncomputable def G0 {R : Type} (k0 : Nat) (hx0 : (Int → Int → Int → Int → Option R)) : Nat → Int → Int → Int → Int → Int → Option R
 | 0, _, _, _, _, _ => none
 | k + 1, n2, a, a2, t4x, t4x2 => R0 (G0 k0 hx0 k) hx0 n2 a a2 t4x t4x2
theorem zg0 {R : Type} (k0 : Nat) (K : Kont R) : ∀ k : Nat, L0 k0 k K = G0 k0 (fun a a2 t4x t4x2 => K (.exit 0) [(2, .ptr 0 0 0 0), (4, .ptr 1 0 0 0)] [.box [.int .u64 a, .int .u64 a2], .box [.int .u64 t4x, .int .u64 t4x2]]) k := by
 intro k
 induction k with
 | zero => funext n2 a a2 t4x t4x2; rfl
 | succ k ih => funext n2 a a2 t4x t4x2; rw [zs0, G0]; (try simp only [ih]); try rfl
noncomputable def FF (k0 : Nat) (a0 a1 n : Int) : Option (U7) := T (G0 k0 (A0  a0 a1 n) k0) a0 a1 n
theorem zrun (k0 : Nat) (a0 a1 n : Int) : runFn Tryz.prog ztbl zcfg k0 123 ins_spec_WideShr outs_spec_WideShr [] (a0, a1, n, ()) = FF k0 a0 a1 n := by
 rw [ztop, FF]; (try simp only [zg0, za0]); try rfl
noncomputable def _root_.Go.Rv.F_spec_WideShr : U6 → Option (U7) := fun x => (fun (a0 a1 n : Int) => FF (300) a0 a1 n) x.1 x.2.1 x.2.2.1
noncomputable abbrev _root_.Go.Rv.S_spec_WideShr : Summ := ⟨ins_spec_WideShr, outs_spec_WideShr, F_spec_WideShr, []⟩
theorem _root_.Go.Rv.ok_spec_WideShr : SumOK Dr Tryz.prog 123 S_spec_WideShr := runFn_ok (by kernel_rfl) (tblL_ok .nil) (by kernel_rfl) fun x y h => ⟨zcfg, _, (zrun _ x.1 x.2.1 x.2.2.1).trans h⟩
end spec_WideShr
abbrev ins_spec_l01Bit : List Par := [.v true ct1, .v false [CT.int .i64]]
abbrev outs_spec_l01Bit : List (Bool × List CT) := [(false, [CT.int .u64])]
namespace spec_l01Bit
/-! ### loop.example/g00095/spec.l01Bit (function 109) -/
noncomputable def ztbl : Tbl := tblL [(123, [], S_spec_WideShr)]
noncomputable def zbody : Code := ((Tryz.prog.funcs[109]?).bind (·.body)).getD .skip
def zcfg : Nat → List Nat × List Nat := fun k => ([], [])
noncomputable def T  (a0 a1 ak : Int) : Option (Int × Unit) := (F_spec_WideShr (a0, a1, ak, ())).bind fun y1 => some ((IntKind.u64.wrap (((BitVec.ofInt 64 y1.2.1) &&& (BitVec.ofInt 64 1)).toNat)), ())
theorem ztop (k0 : Nat) (a0 a1 ak : Int) : runFn Tryz.prog ztbl zcfg k0 109 ins_spec_l01Bit outs_spec_l01Bit [] (a0, a1, ak, ()) = T  a0 a1 ak := by kernel_rfl
noncomputable def _root_.Go.Rv.F_spec_l01Bit : U6 → Option (Int × Unit) := fun x => T x.1 x.2.1 x.2.2.1
noncomputable abbrev _root_.Go.Rv.S_spec_l01Bit : Summ := ⟨ins_spec_l01Bit, outs_spec_l01Bit, F_spec_l01Bit, []⟩
theorem _root_.Go.Rv.ok_spec_l01Bit : SumOK Dr Tryz.prog 109 S_spec_l01Bit := runFn_ok (by kernel_rfl) (tblL_ok (.cons ok_spec_WideShr .nil)) (by kernel_rfl) fun x y h => ⟨zcfg, 0, (ztop 0 x.1 x.2.1 x.2.2.1).trans h⟩
end spec_l01Bit
abbrev ins_spec_WideSub : List Par := [.v true ct1, .v true ct1]
abbrev outs_spec_WideSub : List (Bool × List CT) := [(true, ct7)]
namespace spec_WideSub
/-! ### loop.example/g00095/spec.WideSub (function 110) -/
noncomputable def ztbl : Tbl := tblL [(107, [], S_spec_WideCmp)]
noncomputable def zbody : Code := ((Tryz.prog.funcs[110]?).bind (·.body)).getD .skip
def zcfg : Nat → List Nat × List Nat := fun k => ([], [])
noncomputable def T  (a0 a1 b0 b1 : Int) : Option (U4) := cond (decide (a1 < b1)) ((F_spec_WideCmp (a0, a1, b0, b1, ())).bind fun y1 => some ((IntKind.u64.wrap ((IntKind.u64.wrap (a0 - b0)) - 1)), (IntKind.u64.wrap (a1 - b1)), (decide (y1.1 < 0)), 0, ())) ((F_spec_WideCmp (a0, a1, b0, b1, ())).bind fun y2 => some ((IntKind.u64.wrap (a0 - b0)), (IntKind.u64.wrap (a1 - b1)), (decide (y2.1 < 0)), 0, ()))
theorem ztop (k0 : Nat) (a0 a1 b0 b1 : Int) : runFn Tryz.prog ztbl zcfg k0 110 ins_spec_WideSub outs_spec_WideSub [] (a0, a1, b0, b1, ()) = T  a0 a1 b0 b1 := by kernel_rfl
noncomputable def _root_.Go.Rv.F_spec_WideSub : U5 → Option (U4) := fun x => T x.1 x.2.1 x.2.2.1 x.2.2.2.1
noncomputable abbrev _root_.Go.Rv.S_spec_WideSub : Summ := ⟨ins_spec_WideSub, outs_spec_WideSub, F_spec_WideSub, []⟩
theorem _root_.Go.Rv.ok_spec_WideSub : SumOK Dr Tryz.prog 110 S_spec_WideSub := runFn_ok (by kernel_rfl) (tblL_ok (.cons ok_spec_WideCmp .nil)) (by kernel_rfl) fun x y h => ⟨zcfg, 0, (ztop 0 x.1 x.2.1 x.2.2.1 x.2.2.2.1).trans h⟩
end spec_WideSub
abbrev ins_spec_WideDiv : List Par := [.v true ct1, .v false [CT.int .u64]]
abbrev outs_spec_WideDiv : List (Bool × List CT) := [(true, ct8)]
namespace spec_WideDiv
/-! ### loop.example/g00095/spec.WideDiv (function 87) -/
noncomputable def ztbl : Tbl := tblL [(107, [], S_spec_WideCmp), (108, [], S_spec_WideAdd), (109, [], S_spec_l01Bit), (110, [], S_spec_WideSub)]
noncomputable def zbody : Code := ((Tryz.prog.funcs[87]?).bind (·.body)).getD .skip
def zcfg : Nat → List Nat × List Nat := fun k => if k = 6 then ([1, 2, 4, 5, 6, 7], [4, 5, 6]) else ([], [])
noncomputable def R0 {R : Type} (nx0 : (Int → Int → Int → Int → Int → Int → Int → Int → Int → Int → Int → Int → Option R)) (ex0 : (Int → Int → Int → Int → Int → Int → Int → Int → Option R)) (d2 kx a a2 t4x t4x2 t4x3 out out2 out3 rem rem2 : Int) : Option R := cond (decide (kx ≥ 0)) ((F_spec_WideAdd (rem, rem2, rem, rem2, ())).bind fun y1 => (F_spec_l01Bit (a, a2, kx, ())).bind fun y2 => (F_spec_WideAdd (out, out2, out, out2, ())).bind fun y3 => (F_spec_WideCmp (y1.1, (IntKind.u64.wrap (y1.2.1 + y2.1)), 0, d2, ())).bind fun y4 => cond (decide (y4.1 ≥ 0)) ((F_spec_WideSub (y1.1, (IntKind.u64.wrap (y1.2.1 + y2.1)), 0, d2, ())).bind fun y5 => nx0 d2 (w64 (kx - 1)) a a2 t4x t4x2 t4x3 y3.1 (IntKind.u64.wrap (y3.2.1 + 1)) out3 y5.1 y5.2.1) (nx0 d2 (w64 (kx - 1)) a a2 t4x t4x2 t4x3 y3.1 y3.2.1 out3 y1.1 (IntKind.u64.wrap (y1.2.1 + y2.1)))) (ex0 t4x t4x2 t4x3 out out2 out3 rem rem2)
noncomputable def A0  (a0 a1 d : Int) (t4x t4x2 t4x3 out out2 out3 rem rem2 : Int) : Option (U6) := some (out, out2, rem2, ())
noncomputable def T (lo0 : (Int → Int → Int → Int → Int → Int → Int → Int → Int → Int → Int → Int → Option (U6))) (a0 a1 d : Int) : Option (U6) := cond (d == 0) (some (0, 0, 0, ())) (lo0 d 127 a0 a1 0 0 0 0 0 0 0 0)
noncomputable def zst0 {R : Type} (k0 : Nat) : Env → List Ob → Kont R → Option R := fun env ob K => runCode Tryz.prog ztbl 55 0 zcfg k0 (codeAt [1, 1, 1, 1, 0, 1, 0, 0] zbody) env ob K
noncomputable def K0 {R : Type} (k0 : Nat) (K : Kont R) : Kont R := blockK 0 (seqK (fun env ob => runCode Tryz.prog ztbl 55 0 zcfg k0 (codeAt [1, 1, 1, 1, 1] zbody) env ob (K)) (K))
noncomputable def L0 {R : Type} (k0 k : Nat) (K : Kont R) (d2 kx a a2 t4x t4x2 t4x3 out out2 out3 rem rem2 : Int) : Option R := iter 0 [1, 2, 4, 5, 6, 7] [4, 5, 6] (zst0 k0) k [(1, .int .u64 d2), (2, .ptr 0 0 0 0), (4, .ptr 1 0 0 0), (5, .ptr 2 0 0 0), (6, .ptr 3 0 0 0), (7, .int .i64 kx)] [.box [.int .u64 a, .int .u64 a2], .box [.int .u64 t4x, .int .u64 t4x2, .int .u64 t4x3], .box [.int .u64 out, .int .u64 out2, .int .u64 out3], .box [.int .u64 rem, .int .u64 rem2]] K
theorem zs0 {R : Type} (k0 k : Nat) (K : Kont R) (d2 kx a a2 t4x t4x2 t4x3 out out2 out3 rem rem2 : Int) : L0 k0 (k + 1) K d2 kx a a2 t4x t4x2 t4x3 out out2 out3 rem rem2 = R0 (L0 k0 k K) (fun t4x t4x2 t4x3 out out2 out3 rem rem2 => K (.exit 0) [(4, .ptr 0 0 0 0), (5, .ptr 1 0 0 0), (6, .ptr 2 0 0 0)] [.box [.int .u64 t4x, .int .u64 t4x2, .int .u64 t4x3], .box [.int .u64 out, .int .u64 out2, .int .u64 out3], .box [.int .u64 rem, .int .u64 rem2]]) d2 kx a a2 t4x t4x2 t4x3 out out2 out3 rem rem2 := by kernel_rfl
theorem za0 (k0 : Nat) (a0 a1 d : Int) (t4x t4x2 t4x3 out out2 out3 rem rem2 : Int) : K0 (R := (U6)) k0 (finK Tryz.prog [.cell 4 139] ins_spec_WideDiv outs_spec_WideDiv (a0, a1, d, ())) (.exit 0) [(4, .ptr 0 0 0 0), (5, .ptr 1 0 0 0), (6, .ptr 2 0 0 0)] [.box [.int .u64 t4x, .int .u64 t4x2, .int .u64 t4x3], .box [.int .u64 out, .int .u64 out2, .int .u64 out3], .box [.int .u64 rem, .int .u64 rem2]] = A0  a0 a1 d t4x t4x2 t4x3 out out2 out3 rem rem2 := by kernel_rfl
theorem ztop (k0 : Nat) (a0 a1 d : Int) : runFn Tryz.prog ztbl zcfg k0 87 ins_spec_WideDiv outs_spec_WideDiv [] (a0, a1, d, ()) = T (L0 (R := (U6)) k0 k0 (K0 (R := (U6)) k0 ((finK Tryz.prog [.cell 4 139] ins_spec_WideDiv outs_spec_WideDiv (a0, a1, d, ()))))) a0 a1 d := by kernel_rfl
noncomputable def G0 {R : Type} (k0 : Nat) (hx0 : (Int → Int → Int → Int → Int → Int → Int → Int → Option R)) : Nat → Int → Int → Int → Int → Int → Int → Int → Int → Int → Int → Int → Int → Option R
 | 0, _, _, _, _, _, _, _, _, _, _, _, _ => none
 | k + 1, d2, kx, a, a2, t4x, t4x2, t4x3, out, out2, out3, rem, rem2 => R0 (G0 k0 hx0 k) hx0 d2 kx a a2 t4x t4x2 t4x3 out out2 out3 rem rem2
theorem zg0 {R : Type} (k0 : Nat) (K : Kont R) : ∀ k : Nat, L0 k0 k K = G0 k0 (fun t4x t4x2 t4x3 out out2 out3 rem rem2 => K (.exit 0) [(4, .ptr 0 0 0 0), (5, .ptr 1 0 0 0), (6, .ptr 2 0 0 0)] [.box [.int .u64 t4x, .int .u64 t4x2, .int .u64 t4x3], .box [.int .u64 out, .int .u64 out2, .int .u64 out3], .box [.int .u64 rem, .int .u64 rem2]]) k := by
 intro k
 induction k with
 | zero => funext d2 kx a a2 t4x t4x2 t4x3 out out2 out3 rem rem2; rfl
 | succ k ih => funext d2 kx a a2 t4x t4x2 t4x3 out out2 out3 rem rem2; rw [zs0, G0]; (try simp only [ih]); try rfl
noncomputable def FF (k0 : Nat) (a0 a1 d : Int) : Option (U6) := T (G0 k0 (A0  a0 a1 d) k0) a0 a1 d
theorem zrun (k0 : Nat) (a0 a1 d : Int) : runFn Tryz.prog ztbl zcfg k0 87 ins_spec_WideDiv outs_spec_WideDiv [] (a0, a1, d, ()) = FF k0 a0 a1 d := by
 rw [ztop, FF]; (try simp only [zg0, za0]); try rfl
noncomputable def _root_.Go.Rv.F_spec_WideDiv : U6 → Option (U6) := fun x => (fun (a0 a1 d : Int) => FF (300) a0 a1 d) x.1 x.2.1 x.2.2.1
noncomputable abbrev _root_.Go.Rv.S_spec_WideDiv : Summ := ⟨ins_spec_WideDiv, outs_spec_WideDiv, F_spec_WideDiv, []⟩
theorem _root_.Go.Rv.ok_spec_WideDiv : SumOK Dr Tryz.prog 87 S_spec_WideDiv := runFn_ok (by kernel_rfl) (tblL_ok (.cons ok_spec_WideCmp (.cons ok_spec_WideAdd (.cons ok_spec_l01Bit (.cons ok_spec_WideSub .nil))))) (by kernel_rfl) fun x y h => ⟨zcfg, _, (zrun _ x.1 x.2.1 x.2.2.1).trans h⟩
end spec_WideDiv
abbrev ins_spec_l05Fill : List Par := [.v false [CT.int .i64], .v false [CT.sl ct0]]
abbrev outs_spec_l05Fill : List (Bool × List CT) := [(false, [CT.sl [CT.int .i64]])]
namespace spec_l05Fill
/-! ### loop.example/g00095/spec.l05Fill (function 56) -/
noncomputable def ztbl : Tbl := tblL [(85, [], S_spec_RatioCmp), (86, [], S_spec_l02Times), (87, [], S_spec_WideDiv), (88, [], S_spec_WideMul)]
noncomputable def zbody : Code := ((Tryz.prog.funcs[56]?).bind (·.body)).getD .skip
def zcfg : Nat → List Nat × List Nat := fun k => if k = 6 then ([1, 5, 6, 7, 8, 9], [1, 5, 6, 7, 8]) else if k = 9 then ([1, 5, 6, 7, 8], [1, 4, 5, 6, 7, 8]) else if k = 11 then ([1, 5, 6, 7, 8, 10, 11], [1, 5, 6, 7, 8, 10]) else if k = 24 then ([1, 5, 6, 7, 8, 12, 13], [1, 5, 6, 12]) else if k = 30 then ([1, 5, 6, 12, 14], [5]) else ([], [])
noncomputable def R0 {R : Type} (nx0 : ((List U6) → Int → Int → Int → (List (Int × Unit)) → (List (Bool × Unit)) → Option R)) (ex0 : ((List U6) → Int → Int → (List (Int × Unit)) → (List (Bool × Unit)) → Option R)) (list2 : List U6) (rest all i : Int) (out : List (Int × Unit)) (done : List (Bool × Unit)) : Option R := cond (decide (i < (list2.length : Int))) (if 0 ≤ i ∧ i < (list2.length : Int) then nx0 list2 rest (w64 (all + (rd (0, 0, 0, ()) list2 i).2.2.1)) (w64 (i + 1)) out done else none) (ex0 list2 rest all out done)
noncomputable def R1 {R : Type} (lo2 : ((List U6) → Int → Int → Int → Int → (List (Int × Unit)) → (List (Bool × Unit)) → Option R)) (list2 : List U6) (rest all : Int) (out : List (Int × Unit)) (done : List (Bool × Unit)) : Option R := lo2 list2 rest all (-1) 0 out done
noncomputable def R2 {R : Type} (nx2 : ((List U6) → Int → Int → Int → Int → (List (Int × Unit)) → (List (Bool × Unit)) → Option R)) (ex1 : ((List U6) → Int → Int → Int → (List (Int × Unit)) → (List (Bool × Unit)) → Option R)) (list2 : List U6) (rest all next i : Int) (out : List (Int × Unit)) (done : List (Bool × Unit)) : Option R := cond (decide (i < (list2.length : Int))) (if 0 ≤ i ∧ i < (done.length : Int) then cond (!(done.getD i.toNat (false, ())).1) (cond (decide (next < 0)) (nx2 list2 rest all i (w64 (i + 1)) out done) (if 0 ≤ i ∧ i < (list2.length : Int) then if 0 ≤ next ∧ next < (list2.length : Int) then (F_spec_RatioCmp ((rd (0, 0, 0, ()) list2 i).1, (rd (0, 0, 0, ()) list2 i).2.1, (rd (0, 0, 0, ()) list2 i).2.2.1, (rd (0, 0, 0, ()) list2 next).1, (rd (0, 0, 0, ()) list2 next).2.1, (rd (0, 0, 0, ()) list2 next).2.2.1, ())).bind fun y1 => cond (decide (y1.1 < 0)) (nx2 list2 rest all i (w64 (i + 1)) out done) (nx2 list2 rest all next (w64 (i + 1)) out done) else none else none)) (nx2 list2 rest all next (w64 (i + 1)) out done) else none) (ex1 list2 rest all next out done)
noncomputable def R3 {R : Type} (nx3 : ((List U6) → Int → Int → Int → Int → (List (Int × Unit)) → (List (Bool × Unit)) → Option R)) (ex4 : ((List U6) → Int → (List (Int × Unit)) → (List (Bool × Unit)) → Option R)) (list2 : List U6) (rest all left i : Int) (out : List (Int × Unit)) (done : List (Bool × Unit)) : Option R := cond (decide (i < (list2.length : Int))) (if 0 ≤ i ∧ i < (done.length : Int) then cond (!(done.getD i.toNat (false, ())).1) (if 0 ≤ i ∧ i < (list2.length : Int) then (F_spec_WideMul ((IntKind.u64.wrap (rest)), (IntKind.u64.wrap ((rd (0, 0, 0, ()) list2 i).2.2.1)), ())).bind fun y1 => (F_spec_WideDiv (y1.1, y1.2.1, (IntKind.u64.wrap (all)), ())).bind fun y2 => if 0 ≤ i ∧ i < (out.length : Int) then if 0 ≤ i ∧ i < ((out.set i.toNat ((w64 (y2.2.1)), ())).length : Int) then nx3 list2 rest all (w64 (left - ((out.set i.toNat ((w64 (y2.2.1)), ())).getD i.toNat (0, ())).1)) (w64 (i + 1)) (out.set i.toNat ((w64 (y2.2.1)), ())) done else none else none else none) (nx3 list2 rest all left (w64 (i + 1)) out done) else none) (ex4 list2 left out done)
noncomputable def R4 {R : Type} (nx4 : ((List U6) → Int → Int → (List (Int × Unit)) → (List (Bool × Unit)) → Option R)) (ex5 : ((List (Int × Unit)) → Option R)) (list2 : List U6) (left i : Int) (out : List (Int × Unit)) (done : List (Bool × Unit)) : Option R := cond (decide (i < (list2.length : Int))) (cond (decide (left > 0)) (if 0 ≤ i ∧ i < (done.length : Int) then cond (!(done.getD i.toNat (false, ())).1) (if 0 ≤ i ∧ i < (out.length : Int) then if 0 ≤ i ∧ i < (out.length : Int) then nx4 list2 (w64 (left - 1)) (w64 (i + 1)) (out.set i.toNat ((w64 ((out.getD i.toNat (0, ())).1 + 1)), ())) done else none else none) (nx4 list2 left (w64 (i + 1)) out done) else none) (ex5 out)) (ex5 out)
noncomputable def A0 (lo1 : ((List U6) → Int → Int → (List (Int × Unit)) → (List (Bool × Unit)) → Option ((List (Int × Unit)) × Unit))) (amount : Int) (list : List U6) (list2 : List U6) (rest all : Int) (out : List (Int × Unit)) (done : List (Bool × Unit)) : Option ((List (Int × Unit)) × Unit) := lo1 list2 rest all out done
noncomputable def A1 {R : Type} (nx1 : ((List U6) → Int → Int → (List (Int × Unit)) → (List (Bool × Unit)) → Option R)) (ex2 : ((List U6) → Int → Int → (List (Int × Unit)) → (List (Bool × Unit)) → Option R)) (ex3 : ((List U6) → Int → Int → (List (Int × Unit)) → (List (Bool × Unit)) → Option R)) (list2 : List U6) (rest all next : Int) (out : List (Int × Unit)) (done : List (Bool × Unit)) : Option R := cond (decide (next < 0)) (ex2 list2 rest all out done) (if 0 ≤ next ∧ next < (list2.length : Int) then if 0 ≤ next ∧ next < (list2.length : Int) then (F_spec_l02Times ((rd (0, 0, 0, ()) list2 next).2.1, all, rest, (rd (0, 0, 0, ()) list2 next).2.2.1, ())).bind fun y1 => cond (decide (y1.1 > 0)) (ex3 list2 rest all out done) (if 0 ≤ next ∧ next < (done.length : Int) then if 0 ≤ next ∧ next < (list2.length : Int) then if 0 ≤ next ∧ next < (out.length : Int) then if 0 ≤ next ∧ next < (list2.length : Int) then if 0 ≤ next ∧ next < (list2.length : Int) then nx1 list2 (w64 (rest - (rd (0, 0, 0, ()) list2 next).2.1)) (w64 (all - (rd (0, 0, 0, ()) list2 next).2.2.1)) (out.set next.toNat ((rd (0, 0, 0, ()) list2 next).2.1, ())) (done.set next.toNat (true, ())) else none else none else none else none else none) else none else none)
noncomputable def A2  (amount : Int) (list : List U6) (list2 : List U6) (rest all : Int) (t4x : List (Int × Unit)) (done : List (Bool × Unit)) : Option ((List (Int × Unit)) × Unit) := some (t4x, ())
noncomputable def A3 (lo3 : ((List U6) → Int → Int → Int → Int → (List (Int × Unit)) → (List (Bool × Unit)) → Option ((List (Int × Unit)) × Unit))) (amount : Int) (list : List U6) (list2 : List U6) (rest all : Int) (out : List (Int × Unit)) (done : List (Bool × Unit)) : Option ((List (Int × Unit)) × Unit) := lo3 list2 rest all rest 0 out done
noncomputable def A4 (lo4 : ((List U6) → Int → Int → (List (Int × Unit)) → (List (Bool × Unit)) → Option ((List (Int × Unit)) × Unit))) (amount : Int) (list : List U6) (list2 : List U6) (left : Int) (out : List (Int × Unit)) (done : List (Bool × Unit)) : Option ((List (Int × Unit)) × Unit) := lo4 list2 left 0 out done
noncomputable def A5  (amount : Int) (list : List U6) (out : List (Int × Unit)) : Option ((List (Int × Unit)) × Unit) := some (out, ())
noncomputable def T (lo0 : ((List U6) → Int → Int → Int → (List (Int × Unit)) → (List (Bool × Unit)) → Option ((List (Int × Unit)) × Unit))) (amount : Int) (list : List U6) : Option ((List (Int × Unit)) × Unit) := if 0 ≤ (list.length : Int) ∧ (8 : Int) * (list.length : Int) ≤ 281474976710656 ∧ (list.length : Int) ≤ 9223372036854775807 then if 0 ≤ (list.length : Int) ∧ (1 : Int) * (list.length : Int) ≤ 281474976710656 ∧ (list.length : Int) ≤ 9223372036854775807 then lo0 list amount 0 0 (List.replicate (((list.length : Int) : Int)).toNat (0, ())) (List.replicate (((list.length : Int) : Int)).toNat (false, ())) else none else none
noncomputable def zst0 {R : Type} (k0 : Nat) : Env → List Ob → Kont R → Option R := fun env ob K => runCode Tryz.prog ztbl 167 0 zcfg k0 (codeAt [1, 1, 1, 1, 1, 0, 1, 0, 0] zbody) env ob K
noncomputable def K0 {R : Type} (k0 : Nat) (K : Kont R) : Kont R := blockK 0 (seqK (fun env ob => runCode Tryz.prog ztbl 167 0 zcfg k0 (codeAt [1, 1, 1, 1, 1, 1] zbody) env ob (K)) (K))
noncomputable def zst1 {R : Type} (k0 : Nat) : Env → List Ob → Kont R → Option R := fun env ob K => runCode Tryz.prog ztbl 167 0 zcfg k0 (codeAt [1, 1, 1, 1, 1, 1, 0, 0, 0] zbody) env ob K
noncomputable def K1 {R : Type} (k0 : Nat) (K : Kont R) : Kont R := blockK 2 (seqK (fun env ob => runCode Tryz.prog ztbl 167 0 zcfg k0 (codeAt [1, 1, 1, 1, 1, 1, 1] zbody) env ob (K)) (K))
noncomputable def zst2 {R : Type} (k0 : Nat) : Env → List Ob → Kont R → Option R := fun env ob K => runCode Tryz.prog ztbl 167 0 zcfg k0 (codeAt [1, 1, 1, 1, 1, 1, 0, 0, 0, 0, 1, 0, 1, 0, 0] zbody) env ob K
noncomputable def K2 {R : Type} (k0 : Nat) (K : Kont R) : Kont R := blockK 4 (seqK (fun env ob => runCode Tryz.prog ztbl 167 0 zcfg k0 (codeAt [1, 1, 1, 1, 1, 1, 0, 0, 0, 0, 1, 1] zbody) env ob (blockK 3 (K))) (blockK 3 (K)))
noncomputable def zst3 {R : Type} (k0 : Nat) : Env → List Ob → Kont R → Option R := fun env ob K => runCode Tryz.prog ztbl 167 0 zcfg k0 (codeAt [1, 1, 1, 1, 1, 1, 1, 1, 0, 1, 0, 0] zbody) env ob K
noncomputable def K3 {R : Type} (k0 : Nat) (K : Kont R) : Kont R := blockK 6 (seqK (fun env ob => runCode Tryz.prog ztbl 167 0 zcfg k0 (codeAt [1, 1, 1, 1, 1, 1, 1, 1, 1] zbody) env ob (K)) (K))
noncomputable def zst4 {R : Type} (k0 : Nat) : Env → List Ob → Kont R → Option R := fun env ob K => runCode Tryz.prog ztbl 167 0 zcfg k0 (codeAt [1, 1, 1, 1, 1, 1, 1, 1, 1, 0, 1, 0, 0] zbody) env ob K
noncomputable def K4 {R : Type} (k0 : Nat) (K : Kont R) : Kont R := blockK 8 (seqK (fun env ob => runCode Tryz.prog ztbl 167 0 zcfg k0 (codeAt [1, 1, 1, 1, 1, 1, 1, 1, 1, 1] zbody) env ob (K)) (K))
noncomputable def L0 {R : Type} (k0 k : Nat) (K : Kont R) (list2 : List U6) (rest all i : Int) (out : List (Int × Unit)) (done : List (Bool × Unit)) : Option R := iter 0 [1, 5, 6, 7, 8, 9] [1, 5, 6, 7, 8] (zst0 k0) k [(1, .sl ct0 list2), (5, .own 0), (6, .own 1), (7, .int .i64 rest), (8, .int .i64 all), (9, .int .i64 i)] [.arr [CT.int .i64] out, .arr [CT.bool] done] K
noncomputable def L1 {R : Type} (k0 k : Nat) (K : Kont R) (list2 : List U6) (rest all : Int) (out : List (Int × Unit)) (done : List (Bool × Unit)) : Option R := iter 0 [1, 5, 6, 7, 8] [1, 4, 5, 6, 7, 8] (zst1 k0) k [(1, .sl ct0 list2), (5, .own 0), (6, .own 1), (7, .int .i64 rest), (8, .int .i64 all)] [.arr [CT.int .i64] out, .arr [CT.bool] done] K
noncomputable def L2 {R : Type} (k0 k : Nat) (K : Kont R) (list2 : List U6) (rest all next i : Int) (out : List (Int × Unit)) (done : List (Bool × Unit)) : Option R := iter 0 [1, 5, 6, 7, 8, 10, 11] [1, 5, 6, 7, 8, 10] (zst2 k0) k [(1, .sl ct0 list2), (5, .own 0), (6, .own 1), (7, .int .i64 rest), (8, .int .i64 all), (10, .int .i64 next), (11, .int .i64 i)] [.arr [CT.int .i64] out, .arr [CT.bool] done] K
noncomputable def L3 {R : Type} (k0 k : Nat) (K : Kont R) (list2 : List U6) (rest all left i : Int) (out : List (Int × Unit)) (done : List (Bool × Unit)) : Option R := iter 0 [1, 5, 6, 7, 8, 12, 13] [1, 5, 6, 12] (zst3 k0) k [(1, .sl ct0 list2), (5, .own 0), (6, .own 1), (7, .int .i64 rest), (8, .int .i64 all), (12, .int .i64 left), (13, .int .i64 i)] [.arr [CT.int .i64] out, .arr [CT.bool] done] K
noncomputable def L4 {R : Type} (k0 k : Nat) (K : Kont R) (list2 : List U6) (left i : Int) (out : List (Int × Unit)) (done : List (Bool × Unit)) : Option R := iter 0 [1, 5, 6, 12, 14] [5] (zst4 k0) k [(1, .sl ct0 list2), (5, .own 0), (6, .own 1), (12, .int .i64 left), (14, .int .i64 i)] [.arr [CT.int .i64] out, .arr [CT.bool] done] K
theorem zs0 {R : Type} (k0 k : Nat) (K : Kont R) (list2 : List U6) (rest all i : Int) (out : List (Int × Unit)) (done : List (Bool × Unit)) : L0 k0 (k + 1) K list2 rest all i out done = R0 (L0 k0 k K) (fun list2 rest all out done => K (.exit 0) [(1, .sl ct0 list2), (5, .own 0), (6, .own 1), (7, .int .i64 rest), (8, .int .i64 all)] [.arr [CT.int .i64] out, .arr [CT.bool] done]) list2 rest all i out done := by kernel_rfl
theorem zs1 {R : Type} (k0 k : Nat) (K : Kont R) (list2 : List U6) (rest all : Int) (out : List (Int × Unit)) (done : List (Bool × Unit)) : L1 k0 (k + 1) K list2 rest all out done = R1 (L2 k0 k0 (K2 k0 (loopK 0 [1, 5, 6, 7, 8] [1, 4, 5, 6, 7, 8] (fun env ob => iter 0 [1, 5, 6, 7, 8] [1, 4, 5, 6, 7, 8] (zst1 k0) k env ob K) K))) list2 rest all out done := by kernel_rfl
theorem zs2 {R : Type} (k0 k : Nat) (K : Kont R) (list2 : List U6) (rest all next i : Int) (out : List (Int × Unit)) (done : List (Bool × Unit)) : L2 k0 (k + 1) K list2 rest all next i out done = R2 (L2 k0 k K) (fun list2 rest all next out done => K (.exit 4) [(1, .sl ct0 list2), (5, .own 0), (6, .own 1), (7, .int .i64 rest), (8, .int .i64 all), (10, .int .i64 next)] [.arr [CT.int .i64] out, .arr [CT.bool] done]) list2 rest all next i out done := by kernel_rfl
theorem zs3 {R : Type} (k0 k : Nat) (K : Kont R) (list2 : List U6) (rest all left i : Int) (out : List (Int × Unit)) (done : List (Bool × Unit)) : L3 k0 (k + 1) K list2 rest all left i out done = R3 (L3 k0 k K) (fun list2 left out done => K (.exit 6) [(1, .sl ct0 list2), (5, .own 0), (6, .own 1), (12, .int .i64 left)] [.arr [CT.int .i64] out, .arr [CT.bool] done]) list2 rest all left i out done := by kernel_rfl
theorem zs4 {R : Type} (k0 k : Nat) (K : Kont R) (list2 : List U6) (left i : Int) (out : List (Int × Unit)) (done : List (Bool × Unit)) : L4 k0 (k + 1) K list2 left i out done = R4 (L4 k0 k K) (fun out => K (.exit 8) [(5, .own 0)] [.arr [CT.int .i64] out]) list2 left i out done := by kernel_rfl
theorem za0 (k0 : Nat) (amount : Int) (list : List U6) (list2 : List U6) (rest all : Int) (out : List (Int × Unit)) (done : List (Bool × Unit)) : K0 (R := ((List (Int × Unit)) × Unit)) k0 (finK Tryz.prog [.tmp 4] ins_spec_l05Fill outs_spec_l05Fill (amount, list, ())) (.exit 0) [(1, .sl ct0 list2), (5, .own 0), (6, .own 1), (7, .int .i64 rest), (8, .int .i64 all)] [.arr [CT.int .i64] out, .arr [CT.bool] done] = A0 (L1 (R := ((List (Int × Unit)) × Unit)) k0 k0 (K1 (R := ((List (Int × Unit)) × Unit)) k0 ((finK Tryz.prog [.tmp 4] ins_spec_l05Fill outs_spec_l05Fill (amount, list, ()))))) amount list list2 rest all out done := by kernel_rfl
theorem za1 {R : Type} (k0 k : Nat) (K : Kont R) (list2 : List U6) (rest all next : Int) (out : List (Int × Unit)) (done : List (Bool × Unit)) : K2 k0 (loopK 0 [1, 5, 6, 7, 8] [1, 4, 5, 6, 7, 8] (fun env ob => iter 0 [1, 5, 6, 7, 8] [1, 4, 5, 6, 7, 8] (zst1 k0) k env ob K) K) (.exit 4) [(1, .sl ct0 list2), (5, .own 0), (6, .own 1), (7, .int .i64 rest), (8, .int .i64 all), (10, .int .i64 next)] [.arr [CT.int .i64] out, .arr [CT.bool] done] = A1 (L1 k0 k K) (fun list2 rest all t4x done => K .ret [(1, .sl ct0 list2), (4, .own 0), (5, .own 0), (6, .own 1), (7, .int .i64 rest), (8, .int .i64 all)] [.arr [CT.int .i64] t4x, .arr [CT.bool] done]) (fun list2 rest all out done => K (.exit 2) [(1, .sl ct0 list2), (4, .undef), (5, .own 0), (6, .own 1), (7, .int .i64 rest), (8, .int .i64 all)] [.arr [CT.int .i64] out, .arr [CT.bool] done]) list2 rest all next out done := by kernel_rfl
theorem za2 (k0 : Nat) (amount : Int) (list : List U6) (list2 : List U6) (rest all : Int) (t4x : List (Int × Unit)) (done : List (Bool × Unit)) : K1 (R := ((List (Int × Unit)) × Unit)) k0 (finK Tryz.prog [.tmp 4] ins_spec_l05Fill outs_spec_l05Fill (amount, list, ())) .ret [(1, .sl ct0 list2), (4, .own 0), (5, .own 0), (6, .own 1), (7, .int .i64 rest), (8, .int .i64 all)] [.arr [CT.int .i64] t4x, .arr [CT.bool] done] = A2  amount list list2 rest all t4x done := by kernel_rfl
theorem za3 (k0 : Nat) (amount : Int) (list : List U6) (list2 : List U6) (rest all : Int) (out : List (Int × Unit)) (done : List (Bool × Unit)) : K1 (R := ((List (Int × Unit)) × Unit)) k0 (finK Tryz.prog [.tmp 4] ins_spec_l05Fill outs_spec_l05Fill (amount, list, ())) (.exit 2) [(1, .sl ct0 list2), (4, .undef), (5, .own 0), (6, .own 1), (7, .int .i64 rest), (8, .int .i64 all)] [.arr [CT.int .i64] out, .arr [CT.bool] done] = A3 (L3 (R := ((List (Int × Unit)) × Unit)) k0 k0 (K3 (R := ((List (Int × Unit)) × Unit)) k0 ((finK Tryz.prog [.tmp 4] ins_spec_l05Fill outs_spec_l05Fill (amount, list, ()))))) amount list list2 rest all out done := by kernel_rfl
theorem za4 (k0 : Nat) (amount : Int) (list : List U6) (list2 : List U6) (left : Int) (out : List (Int × Unit)) (done : List (Bool × Unit)) : K3 (R := ((List (Int × Unit)) × Unit)) k0 (finK Tryz.prog [.tmp 4] ins_spec_l05Fill outs_spec_l05Fill (amount, list, ())) (.exit 6) [(1, .sl ct0 list2), (5, .own 0), (6, .own 1), (12, .int .i64 left)] [.arr [CT.int .i64] out, .arr [CT.bool] done] = A4 (L4 (R := ((List (Int × Unit)) × Unit)) k0 k0 (K4 (R := ((List (Int × Unit)) × Unit)) k0 ((finK Tryz.prog [.tmp 4] ins_spec_l05Fill outs_spec_l05Fill (amount, list, ()))))) amount list list2 left out done := by kernel_rfl
theorem za5 (k0 : Nat) (amount : Int) (list : List U6) (out : List (Int × Unit)) : K4 (R := ((List (Int × Unit)) × Unit)) k0 (finK Tryz.prog [.tmp 4] ins_spec_l05Fill outs_spec_l05Fill (amount, list, ())) (.exit 8) [(5, .own 0)] [.arr [CT.int .i64] out] = A5  amount list out := by kernel_rfl
theorem ztop (k0 : Nat) (amount : Int) (list : List U6) : runFn Tryz.prog ztbl zcfg k0 56 ins_spec_l05Fill outs_spec_l05Fill [] (amount, list, ()) = T (L0 (R := ((List (Int × Unit)) × Unit)) k0 k0 (K0 (R := ((List (Int × Unit)) × Unit)) k0 ((finK Tryz.prog [.tmp 4] ins_spec_l05Fill outs_spec_l05Fill (amount, list, ()))))) amount list := by kernel_rfl
noncomputable def G0 {R : Type} (k0 : Nat) (hx0 : ((List U6) → Int → Int → (List (Int × Unit)) → (List (Bool × Unit)) → Option R)) : Nat → (List U6) → Int → Int → Int → (List (Int × Unit)) → (List (Bool × Unit)) → Option R
 | 0, _, _, _, _, _, _ => none
 | k + 1, list2, rest, all, i, out, done => R0 (G0 k0 hx0 k) hx0 list2 rest all i out done
theorem zg0 {R : Type} (k0 : Nat) (K : Kont R) : ∀ k : Nat, L0 k0 k K = G0 k0 (fun list2 rest all out done => K (.exit 0) [(1, .sl ct0 list2), (5, .own 0), (6, .own 1), (7, .int .i64 rest), (8, .int .i64 all)] [.arr [CT.int .i64] out, .arr [CT.bool] done]) k := by
 intro k
 induction k with
 | zero => funext list2 rest all i out done; rfl
 | succ k ih => funext list2 rest all i out done; rw [zs0, G0]; (try simp only [ih]); try rfl
noncomputable def G2 {R : Type} (k0 : Nat) (hx1 : ((List U6) → Int → Int → Int → (List (Int × Unit)) → (List (Bool × Unit)) → Option R)) : Nat → (List U6) → Int → Int → Int → Int → (List (Int × Unit)) → (List (Bool × Unit)) → Option R
 | 0, _, _, _, _, _, _, _ => none
 | k + 1, list2, rest, all, next, i, out, done => R2 (G2 k0 hx1 k) hx1 list2 rest all next i out done
theorem zg2 {R : Type} (k0 : Nat) (K : Kont R) : ∀ k : Nat, L2 k0 k K = G2 k0 (fun list2 rest all next out done => K (.exit 4) [(1, .sl ct0 list2), (5, .own 0), (6, .own 1), (7, .int .i64 rest), (8, .int .i64 all), (10, .int .i64 next)] [.arr [CT.int .i64] out, .arr [CT.bool] done]) k := by
 intro k
 induction k with
 | zero => funext list2 rest all next i out done; rfl
 | succ k ih => funext list2 rest all next i out done; rw [zs2, G2]; (try simp only [ih, zg0]); try rfl
noncomputable def G1 {R : Type} (k0 : Nat) (hx2 : ((List U6) → Int → Int → (List (Int × Unit)) → (List (Bool × Unit)) → Option R)) (hx3 : ((List U6) → Int → Int → (List (Int × Unit)) → (List (Bool × Unit)) → Option R)) : Nat → (List U6) → Int → Int → (List (Int × Unit)) → (List (Bool × Unit)) → Option R
 | 0, _, _, _, _, _ => none
 | k + 1, list2, rest, all, out, done => R1 (G2 k0 (A1 (G1 k0 hx2 hx3 k) hx2 hx3) k0) list2 rest all out done
theorem zg1 {R : Type} (k0 : Nat) (K : Kont R) : ∀ k : Nat, L1 k0 k K = G1 k0 (fun list2 rest all t4x done => K .ret [(1, .sl ct0 list2), (4, .own 0), (5, .own 0), (6, .own 1), (7, .int .i64 rest), (8, .int .i64 all)] [.arr [CT.int .i64] t4x, .arr [CT.bool] done]) (fun list2 rest all out done => K (.exit 2) [(1, .sl ct0 list2), (4, .undef), (5, .own 0), (6, .own 1), (7, .int .i64 rest), (8, .int .i64 all)] [.arr [CT.int .i64] out, .arr [CT.bool] done]) k := by
 intro k
 induction k with
 | zero => funext list2 rest all out done; rfl
 | succ k ih => funext list2 rest all out done; rw [zs1, G1]; (try simp only [ih, zg0, zg2, za1]); try rfl
noncomputable def G3 {R : Type} (k0 : Nat) (hx4 : ((List U6) → Int → (List (Int × Unit)) → (List (Bool × Unit)) → Option R)) : Nat → (List U6) → Int → Int → Int → Int → (List (Int × Unit)) → (List (Bool × Unit)) → Option R
 | 0, _, _, _, _, _, _, _ => none
 | k + 1, list2, rest, all, left, i, out, done => R3 (G3 k0 hx4 k) hx4 list2 rest all left i out done
theorem zg3 {R : Type} (k0 : Nat) (K : Kont R) : ∀ k : Nat, L3 k0 k K = G3 k0 (fun list2 left out done => K (.exit 6) [(1, .sl ct0 list2), (5, .own 0), (6, .own 1), (12, .int .i64 left)] [.arr [CT.int .i64] out, .arr [CT.bool] done]) k := by
 intro k
 induction k with
 | zero => funext list2 rest all left i out done; rfl
 | succ k ih => funext list2 rest all left i out done; rw [zs3, G3]; (try simp only [ih, zg0, zg2, zg1]); try rfl
noncomputable def G4 {R : Type} (k0 : Nat) (hx5 : ((List (Int × Unit)) → Option R)) : Nat → (List U6) → Int → Int → (List (Int × Unit)) → (List (Bool × Unit)) → Option R
 | 0, _, _, _, _, _ => none
 | k + 1, list2, left, i, out, done => R4 (G4 k0 hx5 k) hx5 list2 left i out done
theorem zg4 {R : Type} (k0 : Nat) (K : Kont R) : ∀ k : Nat, L4 k0 k K = G4 k0 (fun out => K (.exit 8) [(5, .own 0)] [.arr [CT.int .i64] out]) k := by
 intro k
 induction k with
 | zero => funext list2 left i out done; rfl
 | succ k ih => funext list2 left i out done; rw [zs4, G4]; (try simp only [ih, zg0, zg2, zg1, zg3]); try rfl
noncomputable def FF (k0 : Nat) (amount : Int) (list : List U6) : Option ((List (Int × Unit)) × Unit) := T (G0 k0 (A0 (G1 k0 (A2  amount list) (A3 (G3 k0 (A4 (G4 k0 (A5  amount list) k0) amount list) k0) amount list) k0) amount list) k0) amount list
theorem zrun (k0 : Nat) (amount : Int) (list : List U6) : runFn Tryz.prog ztbl zcfg k0 56 ins_spec_l05Fill outs_spec_l05Fill [] (amount, list, ()) = FF k0 amount list := by
 rw [ztop, FF]; (try simp only [zg0, zg2, zg1, zg3, zg4, za0, za2, za3, za4, za5]); try rfl
noncomputable def _root_.Go.Rv.F_spec_l05Fill : Int × (List U6) × Unit → Option ((List (Int × Unit)) × Unit) := fun x => (fun (amount : Int) (list : List U6) => FF (300 + list.length) amount list) x.1 x.2.1
noncomputable abbrev _root_.Go.Rv.S_spec_l05Fill : Summ := ⟨ins_spec_l05Fill, outs_spec_l05Fill, F_spec_l05Fill, []⟩
theorem _root_.Go.Rv.ok_spec_l05Fill : SumOK Dr Tryz.prog 56 S_spec_l05Fill := runFn_ok (by kernel_rfl) (tblL_ok (.cons ok_spec_RatioCmp (.cons ok_spec_l02Times (.cons ok_spec_WideDiv (.cons ok_spec_WideMul .nil))))) (by kernel_rfl) fun x y h => ⟨zcfg, _, (zrun _ x.1 x.2.1).trans h⟩
end spec_l05Fill
abbrev ins_spec_l05All : List Par := [.v true ct4]
abbrev outs_spec_l05All : List (Bool × List CT) := [(false, [CT.sl [CT.int .i64]]), (false, [CT.sl [CT.int .i64]])]
namespace spec_l05All
/-! ### loop.example/g00095/spec.l05All (function 29) -/
noncomputable def ztbl : Tbl := tblL [(30, [], S_spec_l05Kids), (56, [], S_spec_l05Fill)]
noncomputable def zbody : Code := ((Tryz.prog.funcs[29]?).bind (·.body)).getD .skip
def zcfg : Nat → List Nat × List Nat := fun k => if k = 4 then ([1, 4, 5, 6], [4, 5]) else if k = 14 then ([1, 4, 5, 6, 9, 11, 12], [1, 4, 5, 6]) else ([], [])
noncomputable def R0 {R : Type} (ex0 : ((List (Int × Unit)) → (List (Int × Unit)) → Option R)) (lo1 : (Int → Int → Int → (List U5) → (List U5) → (List (Int × Unit)) → (List (Int × Unit)) → (List U7) → (List (Int × Unit)) → Option R)) (g f : Int) (f3 f4 : List U5) (groups members : List (Int × Unit)) : Option R := cond (decide (g < (f3.length : Int))) (cond (decide (g ≥ 0)) (if 0 ≤ g ∧ g < (f3.length : Int) then if 0 ≤ g ∧ g < (groups.length : Int) then (F_spec_l05Kids (f, f3, f4, (rd (0, 0, 0, 0, ()) f3 g).1, ())).bind fun y1 => (F_spec_l05Fill ((groups.getD g.toNat (0, ())).1, y1.2.1, ())).bind fun y2 => lo1 g 0 f f3 f4 groups members y1.1 y2.1 else none else none) ((F_spec_l05Kids (f, f3, f4, 0, ())).bind fun y3 => (F_spec_l05Fill (f, y3.2.1, ())).bind fun y4 => lo1 g 0 f f3 f4 groups members y3.1 y4.1)) (ex0 groups members)
noncomputable def R1 {R : Type} (nx1 : (Int → Int → Int → (List U5) → (List U5) → (List (Int × Unit)) → (List (Int × Unit)) → (List U7) → (List (Int × Unit)) → Option R)) (ex1 : (Int → Int → (List U5) → (List U5) → (List (Int × Unit)) → (List (Int × Unit)) → Option R)) (g i f : Int) (f3 f4 : List U5) (groups members : List (Int × Unit)) (kids : List U7) (parts : List (Int × Unit)) : Option R := cond (decide (i < (kids.length : Int))) (if 0 ≤ i ∧ i < (kids.length : Int) then cond (decide ((kids.getD i.toNat (0, 0, ())).1 ≥ 0)) (if 0 ≤ i ∧ i < (kids.length : Int) then if 0 ≤ i ∧ i < (parts.length : Int) then if 0 ≤ (kids.getD i.toNat (0, 0, ())).1 ∧ (kids.getD i.toNat (0, 0, ())).1 < (groups.length : Int) then nx1 g (w64 (i + 1)) f f3 f4 (groups.set (((kids.getD i.toNat (0, 0, ())).1).toNat) ((parts.getD i.toNat (0, ())).1, ())) members kids parts else none else none else none) (if 0 ≤ i ∧ i < (kids.length : Int) then if 0 ≤ i ∧ i < (parts.length : Int) then if 0 ≤ (kids.getD i.toNat (0, 0, ())).2.1 ∧ (kids.getD i.toNat (0, 0, ())).2.1 < (members.length : Int) then nx1 g (w64 (i + 1)) f f3 f4 groups (members.set (((kids.getD i.toNat (0, 0, ())).2.1).toNat) ((parts.getD i.toNat (0, ())).1, ())) kids parts else none else none else none) else none) (ex1 g f f3 f4 groups members)
noncomputable def A0  (f0 : Int) (f1 f2 : List U5) (groups members : List (Int × Unit)) : Option ((List (Int × Unit)) × (List (Int × Unit)) × Unit) := some (groups, members, ())
noncomputable def A1 {R : Type} (nx0 : (Int → Int → (List U5) → (List U5) → (List (Int × Unit)) → (List (Int × Unit)) → Option R)) (g f : Int) (f3 f4 : List U5) (groups members : List (Int × Unit)) : Option R := nx0 (w64 (g + 1)) f f3 f4 groups members
noncomputable def T (lo0 : (Int → Int → (List U5) → (List U5) → (List (Int × Unit)) → (List (Int × Unit)) → Option ((List (Int × Unit)) × (List (Int × Unit)) × Unit))) (f0 : Int) (f1 f2 : List U5) : Option ((List (Int × Unit)) × (List (Int × Unit)) × Unit) := if 0 ≤ (f1.length : Int) ∧ (8 : Int) * (f1.length : Int) ≤ 281474976710656 ∧ (f1.length : Int) ≤ 9223372036854775807 then if 0 ≤ (f2.length : Int) ∧ (8 : Int) * (f2.length : Int) ≤ 281474976710656 ∧ (f2.length : Int) ≤ 9223372036854775807 then lo0 (-1) f0 f1 f2 (List.replicate (((f1.length : Int) : Int)).toNat (0, ())) (List.replicate (((f2.length : Int) : Int)).toNat (0, ())) else none else none
noncomputable def zst0 {R : Type} (k0 : Nat) : Env → List Ob → Kont R → Option R := fun env ob K => runCode Tryz.prog ztbl 87 0 zcfg k0 (codeAt [1, 1, 1, 0, 1, 0, 0] zbody) env ob K
noncomputable def K0 {R : Type} (k0 : Nat) (K : Kont R) : Kont R := blockK 0 (seqK (fun env ob => runCode Tryz.prog ztbl 87 0 zcfg k0 (codeAt [1, 1, 1, 1] zbody) env ob (K)) (K))
noncomputable def zst1 {R : Type} (k0 : Nat) : Env → List Ob → Kont R → Option R := fun env ob K => runCode Tryz.prog ztbl 87 0 zcfg k0 (codeAt [1, 1, 1, 0, 1, 0, 0, 1, 0, 0, 1, 1, 1, 1, 1, 1, 0, 0] zbody) env ob K
noncomputable def K1 {R : Type} (k0 : Nat) (K : Kont R) : Kont R := blockK 2 (blockK 1 (seqK (fun env ob => runCode Tryz.prog ztbl 87 0 zcfg k0 (codeAt [1, 1, 1, 0, 1, 0, 0, 1, 1] zbody) env ob (K)) (K)))
noncomputable def L0 {R : Type} (k0 k : Nat) (K : Kont R) (g f : Int) (f3 f4 : List U5) (groups members : List (Int × Unit)) : Option R := iter 0 [1, 4, 5, 6] [4, 5] (zst0 k0) k [(1, .ptr 0 0 0 0), (4, .own 1), (5, .own 2), (6, .int .i64 g)] [.box [.int .i64 f, .sl ct2 f3, .sl ct2 f4], .arr [CT.int .i64] groups, .arr [CT.int .i64] members] K
noncomputable def L1 {R : Type} (k0 k : Nat) (K : Kont R) (g i f : Int) (f3 f4 : List U5) (groups members : List (Int × Unit)) (kids : List U7) (parts : List (Int × Unit)) : Option R := iter 0 [1, 4, 5, 6, 9, 11, 12] [1, 4, 5, 6] (zst1 k0) k [(1, .ptr 0 0 0 0), (4, .own 1), (5, .own 2), (6, .int .i64 g), (9, .own 3), (11, .own 4), (12, .int .i64 i)] [.box [.int .i64 f, .sl ct2 f3, .sl ct2 f4], .arr [CT.int .i64] groups, .arr [CT.int .i64] members, .arr ct6 kids, .arr [CT.int .i64] parts] K
theorem zs0 {R : Type} (k0 k : Nat) (K : Kont R) (g f : Int) (f3 f4 : List U5) (groups members : List (Int × Unit)) : L0 k0 (k + 1) K g f f3 f4 groups members = R0 (fun groups members => K (.exit 0) [(4, .own 0), (5, .own 1)] [.arr [CT.int .i64] groups, .arr [CT.int .i64] members]) (L1 k0 k0 (K1 k0 (loopK 0 [1, 4, 5, 6] [4, 5] (fun env ob => iter 0 [1, 4, 5, 6] [4, 5] (zst0 k0) k env ob K) K))) g f f3 f4 groups members := by kernel_rfl
theorem zs1 {R : Type} (k0 k : Nat) (K : Kont R) (g i f : Int) (f3 f4 : List U5) (groups members : List (Int × Unit)) (kids : List U7) (parts : List (Int × Unit)) : L1 k0 (k + 1) K g i f f3 f4 groups members kids parts = R1 (L1 k0 k K) (fun g f f3 f4 groups members => K (.exit 2) [(1, .ptr 0 0 0 0), (4, .own 1), (5, .own 2), (6, .int .i64 g)] [.box [.int .i64 f, .sl ct2 f3, .sl ct2 f4], .arr [CT.int .i64] groups, .arr [CT.int .i64] members]) g i f f3 f4 groups members kids parts := by kernel_rfl
theorem za0 (k0 : Nat) (f0 : Int) (f1 f2 : List U5) (groups members : List (Int × Unit)) : K0 (R := ((List (Int × Unit)) × (List (Int × Unit)) × Unit)) k0 (finK Tryz.prog [.tmp 2, .tmp 3] ins_spec_l05All outs_spec_l05All (f0, f1, f2, ())) (.exit 0) [(4, .own 0), (5, .own 1)] [.arr [CT.int .i64] groups, .arr [CT.int .i64] members] = A0  f0 f1 f2 groups members := by kernel_rfl
theorem za1 {R : Type} (k0 k : Nat) (K : Kont R) (g f : Int) (f3 f4 : List U5) (groups members : List (Int × Unit)) : K1 k0 (loopK 0 [1, 4, 5, 6] [4, 5] (fun env ob => iter 0 [1, 4, 5, 6] [4, 5] (zst0 k0) k env ob K) K) (.exit 2) [(1, .ptr 0 0 0 0), (4, .own 1), (5, .own 2), (6, .int .i64 g)] [.box [.int .i64 f, .sl ct2 f3, .sl ct2 f4], .arr [CT.int .i64] groups, .arr [CT.int .i64] members] = A1 (L0 k0 k K) g f f3 f4 groups members := by kernel_rfl
theorem ztop (k0 : Nat) (f0 : Int) (f1 f2 : List U5) : runFn Tryz.prog ztbl zcfg k0 29 ins_spec_l05All outs_spec_l05All [] (f0, f1, f2, ()) = T (L0 (R := ((List (Int × Unit)) × (List (Int × Unit)) × Unit)) k0 k0 (K0 (R := ((List (Int × Unit)) × (List (Int × Unit)) × Unit)) k0 ((finK Tryz.prog [.tmp 2, .tmp 3] ins_spec_l05All outs_spec_l05All (f0, f1, f2, ()))))) f0 f1 f2 := by kernel_rfl
noncomputable def G1 {R : Type} (k0 : Nat) (hx1 : (Int → Int → (List U5) → (List U5) → (List (Int × Unit)) → (List (Int × Unit)) → Option R)) : Nat → Int → Int → Int → (List U5) → (List U5) → (List (Int × Unit)) → (List (Int × Unit)) → (List U7) → (List (Int × Unit)) → Option R
 | 0, _, _, _, _, _, _, _, _, _ => none
 | k + 1, g, i, f, f3, f4, groups, members, kids, parts => R1 (G1 k0 hx1 k) hx1 g i f f3 f4 groups members kids parts
theorem zg1 {R : Type} (k0 : Nat) (K : Kont R) : ∀ k : Nat, L1 k0 k K = G1 k0 (fun g f f3 f4 groups members => K (.exit 2) [(1, .ptr 0 0 0 0), (4, .own 1), (5, .own 2), (6, .int .i64 g)] [.box [.int .i64 f, .sl ct2 f3, .sl ct2 f4], .arr [CT.int .i64] groups, .arr [CT.int .i64] members]) k := by
 intro k
 induction k with
 | zero => funext g i f f3 f4 groups members kids parts; rfl
 | succ k ih => funext g i f f3 f4 groups members kids parts; rw [zs1, G1]; (try simp only [ih]); try rfl
noncomputable def G0 {R : Type} (k0 : Nat) (hx0 : ((List (Int × Unit)) → (List (Int × Unit)) → Option R)) : Nat → Int → Int → (List U5) → (List U5) → (List (Int × Unit)) → (List (Int × Unit)) → Option R
 | 0, _, _, _, _, _, _ => none
 | k + 1, g, f, f3, f4, groups, members => R0 hx0 (G1 k0 (A1 (G0 k0 hx0 k)) k0) g f f3 f4 groups members
theorem zg0 {R : Type} (k0 : Nat) (K : Kont R) : ∀ k : Nat, L0 k0 k K = G0 k0 (fun groups members => K (.exit 0) [(4, .own 0), (5, .own 1)] [.arr [CT.int .i64] groups, .arr [CT.int .i64] members]) k := by
 intro k
 induction k with
 | zero => funext g f f3 f4 groups members; rfl
 | succ k ih => funext g f f3 f4 groups members; rw [zs0, G0]; (try simp only [ih, zg1, za1]); try rfl
noncomputable def FF (k0 : Nat) (f0 : Int) (f1 f2 : List U5) : Option ((List (Int × Unit)) × (List (Int × Unit)) × Unit) := T (G0 k0 (A0  f0 f1 f2) k0) f0 f1 f2
theorem zrun (k0 : Nat) (f0 : Int) (f1 f2 : List U5) : runFn Tryz.prog ztbl zcfg k0 29 ins_spec_l05All outs_spec_l05All [] (f0, f1, f2, ()) = FF k0 f0 f1 f2 := by
 rw [ztop, FF]; (try simp only [zg1, zg0, za0]); try rfl
noncomputable def _root_.Go.Rv.F_spec_l05All : U1 → Option ((List (Int × Unit)) × (List (Int × Unit)) × Unit) := fun x => (fun (f0 : Int) (f1 f2 : List U5) => FF (300 + f1.length + f2.length) f0 f1 f2) x.1 x.2.1 x.2.2.1
noncomputable abbrev _root_.Go.Rv.S_spec_l05All : Summ := ⟨ins_spec_l05All, outs_spec_l05All, F_spec_l05All, []⟩
theorem _root_.Go.Rv.ok_spec_l05All : SumOK Dr Tryz.prog 29 S_spec_l05All := runFn_ok (by kernel_rfl) (tblL_ok (.cons ok_spec_l05Kids (.cons ok_spec_l05Fill .nil))) (by kernel_rfl) fun x y h => ⟨zcfg, _, (zrun _ x.1 x.2.1 x.2.2.1).trans h⟩
end spec_l05All
abbrev ins_spec_FarmShares : List Par := [.v true ct4]
abbrev outs_spec_FarmShares : List (Bool × List CT) := [(false, [CT.sl ct6])]
namespace spec_FarmShares
/-! ### loop.example/g00095/spec.FarmShares (function 42) -/
noncomputable def ztbl : Tbl := tblL [(26, [], S_spec_FarmRight), (29, [], S_spec_l05All)]
noncomputable def zbody : Code := ((Tryz.prog.funcs[42]?).bind (·.body)).getD .skip
def zcfg : Nat → List Nat × List Nat := fun k => if k = 6 then ([1, 3, 5, 6], [3]) else ([], [])
noncomputable def R0 {R : Type} (nx0 : (Int → Int → (List U5) → (List U5) → (List U7) → (List (Int × Unit)) → Option R)) (ex0 : ((List U7) → Option R)) (i f : Int) (f3 f4 : List U5) (out : List U7) (members : List (Int × Unit)) : Option R := cond (decide (i < (f4.length : Int))) (if 0 ≤ i ∧ i < (f4.length : Int) then if 0 ≤ i ∧ i < (members.length : Int) then if out.length + [((rd (0, 0, 0, 0, ()) f4 i).1, (members.getD i.toNat (0, ())).1, ())].length ≤ maxRow then nx0 (w64 (i + 1)) f f3 f4 (out ++ [((rd (0, 0, 0, 0, ()) f4 i).1, (members.getD i.toNat (0, ())).1, ())]) members else none else none else none) (ex0 out)
noncomputable def A0  (f0 : Int) (f1 f2 : List U5) (out : List U7) : Option ((List U7) × Unit) := some (out, ())
noncomputable def T (lo0 : (Int → Int → (List U5) → (List U5) → (List U7) → (List (Int × Unit)) → Option ((List U7) × Unit))) (f0 : Int) (f1 f2 : List U5) : Option ((List U7) × Unit) := (F_spec_FarmRight (f0, f1, f2, ())).bind fun y1 => cond (!y1.1) (some (([] : List U7), ())) ((F_spec_l05All (f0, f1, f2, ())).bind fun y2 => lo0 0 f0 f1 f2 ([] : List U7) y2.2.1)
noncomputable def zst0 {R : Type} (k0 : Nat) : Env → List Ob → Kont R → Option R := fun env ob K => runCode Tryz.prog ztbl 39 0 zcfg k0 (codeAt [1, 1, 1, 1, 0, 1, 0, 0] zbody) env ob K
noncomputable def K0 {R : Type} (k0 : Nat) (K : Kont R) : Kont R := blockK 0 (seqK (fun env ob => runCode Tryz.prog ztbl 39 0 zcfg k0 (codeAt [1, 1, 1, 1, 1] zbody) env ob (K)) (K))
noncomputable def L0 {R : Type} (k0 k : Nat) (K : Kont R) (i f : Int) (f3 f4 : List U5) (out : List U7) (members : List (Int × Unit)) : Option R := iter 0 [1, 3, 5, 6] [3] (zst0 k0) k [(1, .ptr 0 0 0 0), (3, .own 1), (5, .own 2), (6, .int .i64 i)] [.box [.int .i64 f, .sl ct2 f3, .sl ct2 f4], .arr ct6 out, .arr [CT.int .i64] members] K
theorem zs0 {R : Type} (k0 k : Nat) (K : Kont R) (i f : Int) (f3 f4 : List U5) (out : List U7) (members : List (Int × Unit)) : L0 k0 (k + 1) K i f f3 f4 out members = R0 (L0 k0 k K) (fun out => K (.exit 0) [(3, .own 0)] [.arr ct6 out]) i f f3 f4 out members := by kernel_rfl
theorem za0 (k0 : Nat) (f0 : Int) (f1 f2 : List U5) (out : List U7) : K0 (R := ((List U7) × Unit)) k0 (finK Tryz.prog [.tmp 2] ins_spec_FarmShares outs_spec_FarmShares (f0, f1, f2, ())) (.exit 0) [(3, .own 0)] [.arr ct6 out] = A0  f0 f1 f2 out := by kernel_rfl
theorem ztop (k0 : Nat) (f0 : Int) (f1 f2 : List U5) : runFn Tryz.prog ztbl zcfg k0 42 ins_spec_FarmShares outs_spec_FarmShares [] (f0, f1, f2, ()) = T (L0 (R := ((List U7) × Unit)) k0 k0 (K0 (R := ((List U7) × Unit)) k0 ((finK Tryz.prog [.tmp 2] ins_spec_FarmShares outs_spec_FarmShares (f0, f1, f2, ()))))) f0 f1 f2 := by kernel_rfl
noncomputable def G0 {R : Type} (k0 : Nat) (hx0 : ((List U7) → Option R)) : Nat → Int → Int → (List U5) → (List U5) → (List U7) → (List (Int × Unit)) → Option R
 | 0, _, _, _, _, _, _ => none
 | k + 1, i, f, f3, f4, out, members => R0 (G0 k0 hx0 k) hx0 i f f3 f4 out members
theorem zg0 {R : Type} (k0 : Nat) (K : Kont R) : ∀ k : Nat, L0 k0 k K = G0 k0 (fun out => K (.exit 0) [(3, .own 0)] [.arr ct6 out]) k := by
 intro k
 induction k with
 | zero => funext i f f3 f4 out members; rfl
 | succ k ih => funext i f f3 f4 out members; rw [zs0, G0]; (try simp only [ih]); try rfl
noncomputable def FF (k0 : Nat) (f0 : Int) (f1 f2 : List U5) : Option ((List U7) × Unit) := T (G0 k0 (A0  f0 f1 f2) k0) f0 f1 f2
theorem zrun (k0 : Nat) (f0 : Int) (f1 f2 : List U5) : runFn Tryz.prog ztbl zcfg k0 42 ins_spec_FarmShares outs_spec_FarmShares [] (f0, f1, f2, ()) = FF k0 f0 f1 f2 := by
 rw [ztop, FF]; (try simp only [zg0, za0]); try rfl
noncomputable def _root_.Go.Rv.F_spec_FarmShares : U1 → Option ((List U7) × Unit) := fun x => (fun (f0 : Int) (f1 f2 : List U5) => FF (300 + f1.length + f2.length) f0 f1 f2) x.1 x.2.1 x.2.2.1
noncomputable abbrev _root_.Go.Rv.S_spec_FarmShares : Summ := ⟨ins_spec_FarmShares, outs_spec_FarmShares, F_spec_FarmShares, []⟩
theorem _root_.Go.Rv.ok_spec_FarmShares : SumOK Dr Tryz.prog 42 S_spec_FarmShares := runFn_ok (by kernel_rfl) (tblL_ok (.cons ok_spec_FarmRight (.cons ok_spec_l05All .nil))) (by kernel_rfl) fun x y h => ⟨zcfg, _, (zrun _ x.1 x.2.1 x.2.2.1).trans h⟩
end spec_FarmShares
abbrev ins_spec_ReportRows : List Par := [.v true ct3]
abbrev outs_spec_ReportRows : List (Bool × List CT) := [(false, [CT.sl ct5])]
namespace spec_ReportRows
/-! ### loop.example/g00095/spec.ReportRows (function 17) -/
noncomputable def ztbl : Tbl := tblL [(16, [], S_spec_ServerRight), (42, [], S_spec_FarmShares)]
noncomputable def zbody : Code := ((Tryz.prog.funcs[17]?).bind (·.body)).getD .skip
def zcfg : Nat → List Nat × List Nat := fun k => if k = 6 then ([1, 3, 4, 5], [3]) else ([], [])
noncomputable def R0 {R : Type} (nx0 : (Int → Int → Int → Int → Int → (List U5) → (List U5) → (List U6) → (List U3) → (List U7) → Option R)) (ex0 : ((List U3) → Option R)) (i s s7 s8 s9 : Int) (s10 s11 : List U5) (s12 : List U6) (out : List U3) (parts : List U7) : Option R := cond (decide (i < (s12.length : Int))) (if 0 ≤ i ∧ i < (s11.length : Int) then if 0 ≤ i ∧ i < (parts.length : Int) then if 0 ≤ i ∧ i < (s12.length : Int) then if 0 ≤ i ∧ i < (s12.length : Int) then if out.length + [((rd (0, 0, 0, 0, ()) s11 i).1, (rd (0, 0, 0, 0, ()) s11 i).2.1, (rd (0, 0, 0, 0, ()) s11 i).2.2.1, (parts.getD i.toNat (0, 0, ())).2.1, (rd (0, 0, 0, ()) s12 i).2.1, (w64 ((rd (0, 0, 0, ()) s12 i).2.2.1 - s8)), ())].length ≤ maxRow then nx0 (w64 (i + 1)) s s7 s8 s9 s10 s11 s12 (out ++ [((rd (0, 0, 0, 0, ()) s11 i).1, (rd (0, 0, 0, 0, ()) s11 i).2.1, (rd (0, 0, 0, 0, ()) s11 i).2.2.1, (parts.getD i.toNat (0, 0, ())).2.1, (rd (0, 0, 0, ()) s12 i).2.1, (w64 ((rd (0, 0, 0, ()) s12 i).2.2.1 - s8)), ())]) parts else none else none else none else none else none) (ex0 out)
noncomputable def A0  (s0 s1 s2 s3 : Int) (s4 s5 : List U5) (s6 : List U6) (out : List U3) : Option ((List U3) × Unit) := some (out, ())
noncomputable def T (lo0 : (Int → Int → Int → Int → Int → (List U5) → (List U5) → (List U6) → (List U3) → (List U7) → Option ((List U3) × Unit))) (s0 s1 s2 s3 : Int) (s4 s5 : List U5) (s6 : List U6) : Option ((List U3) × Unit) := (F_spec_ServerRight (s0, s1, s2, s3, s4, s5, s6, ())).bind fun y1 => cond (!y1.1) (some (([] : List U3), ())) ((F_spec_FarmShares (s3, s4, s5, ())).bind fun y2 => lo0 0 s0 s1 s2 s3 s4 s5 s6 ([] : List U3) y2.1)
noncomputable def zst0 {R : Type} (k0 : Nat) : Env → List Ob → Kont R → Option R := fun env ob K => runCode Tryz.prog ztbl 59 0 zcfg k0 (codeAt [1, 1, 1, 1, 0, 1, 0, 0] zbody) env ob K
noncomputable def K0 {R : Type} (k0 : Nat) (K : Kont R) : Kont R := blockK 0 (seqK (fun env ob => runCode Tryz.prog ztbl 59 0 zcfg k0 (codeAt [1, 1, 1, 1, 1] zbody) env ob (K)) (K))
noncomputable def L0 {R : Type} (k0 k : Nat) (K : Kont R) (i s s7 s8 s9 : Int) (s10 s11 : List U5) (s12 : List U6) (out : List U3) (parts : List U7) : Option R := iter 0 [1, 3, 4, 5] [3] (zst0 k0) k [(1, .ptr 0 0 0 0), (3, .own 1), (4, .own 2), (5, .int .i64 i)] [.box [.int .i64 s, .int .i64 s7, .int .i64 s8, .int .i64 s9, .sl ct2 s10, .sl ct2 s11, .sl ct0 s12], .arr ct5 out, .arr ct6 parts] K
theorem zs0 {R : Type} (k0 k : Nat) (K : Kont R) (i s s7 s8 s9 : Int) (s10 s11 : List U5) (s12 : List U6) (out : List U3) (parts : List U7) : L0 k0 (k + 1) K i s s7 s8 s9 s10 s11 s12 out parts = R0 (L0 k0 k K) (fun out => K (.exit 0) [(3, .own 0)] [.arr ct5 out]) i s s7 s8 s9 s10 s11 s12 out parts := by kernel_rfl
theorem za0 (k0 : Nat) (s0 s1 s2 s3 : Int) (s4 s5 : List U5) (s6 : List U6) (out : List U3) : K0 (R := ((List U3) × Unit)) k0 (finK Tryz.prog [.tmp 2] ins_spec_ReportRows outs_spec_ReportRows (s0, s1, s2, s3, s4, s5, s6, ())) (.exit 0) [(3, .own 0)] [.arr ct5 out] = A0  s0 s1 s2 s3 s4 s5 s6 out := by kernel_rfl
theorem ztop (k0 : Nat) (s0 s1 s2 s3 : Int) (s4 s5 : List U5) (s6 : List U6) : runFn Tryz.prog ztbl zcfg k0 17 ins_spec_ReportRows outs_spec_ReportRows [] (s0, s1, s2, s3, s4, s5, s6, ()) = T (L0 (R := ((List U3) × Unit)) k0 k0 (K0 (R := ((List U3) × Unit)) k0 ((finK Tryz.prog [.tmp 2] ins_spec_ReportRows outs_spec_ReportRows (s0, s1, s2, s3, s4, s5, s6, ()))))) s0 s1 s2 s3 s4 s5 s6 := by kernel_rfl
noncomputable def G0 {R : Type} (k0 : Nat) (hx0 : ((List U3) → Option R)) : Nat → Int → Int → Int → Int → Int → (List U5) → (List U5) → (List U6) → (List U3) → (List U7) → Option R
 | 0, _, _, _, _, _, _, _, _, _, _ => none
 | k + 1, i, s, s7, s8, s9, s10, s11, s12, out, parts => R0 (G0 k0 hx0 k) hx0 i s s7 s8 s9 s10 s11 s12 out parts
theorem zg0 {R : Type} (k0 : Nat) (K : Kont R) : ∀ k : Nat, L0 k0 k K = G0 k0 (fun out => K (.exit 0) [(3, .own 0)] [.arr ct5 out]) k := by
 intro k
 induction k with
 | zero => funext i s s7 s8 s9 s10 s11 s12 out parts; rfl
 | succ k ih => funext i s s7 s8 s9 s10 s11 s12 out parts; rw [zs0, G0]; (try simp only [ih]); try rfl
noncomputable def FF (k0 : Nat) (s0 s1 s2 s3 : Int) (s4 s5 : List U5) (s6 : List U6) : Option ((List U3) × Unit) := T (G0 k0 (A0  s0 s1 s2 s3 s4 s5 s6) k0) s0 s1 s2 s3 s4 s5 s6
theorem zrun (k0 : Nat) (s0 s1 s2 s3 : Int) (s4 s5 : List U5) (s6 : List U6) : runFn Tryz.prog ztbl zcfg k0 17 ins_spec_ReportRows outs_spec_ReportRows [] (s0, s1, s2, s3, s4, s5, s6, ()) = FF k0 s0 s1 s2 s3 s4 s5 s6 := by
 rw [ztop, FF]; (try simp only [zg0, za0]); try rfl
noncomputable def _root_.Go.Rv.F_spec_ReportRows : U0 → Option ((List U3) × Unit) := fun x => (fun (s0 s1 s2 s3 : Int) (s4 s5 : List U5) (s6 : List U6) => FF (300 + s4.length + s5.length + s6.length) s0 s1 s2 s3 s4 s5 s6) x.1 x.2.1 x.2.2.1 x.2.2.2.1 x.2.2.2.2.1 x.2.2.2.2.2.1 x.2.2.2.2.2.2.1
noncomputable abbrev _root_.Go.Rv.S_spec_ReportRows : Summ := ⟨ins_spec_ReportRows, outs_spec_ReportRows, F_spec_ReportRows, []⟩
theorem _root_.Go.Rv.ok_spec_ReportRows : SumOK Dr Tryz.prog 17 S_spec_ReportRows := runFn_ok (by kernel_rfl) (tblL_ok (.cons ok_spec_ServerRight (.cons ok_spec_FarmShares .nil))) (by kernel_rfl) fun x y h => ⟨zcfg, _, (zrun _ x.1 x.2.1 x.2.2.1 x.2.2.2.1 x.2.2.2.2.1 x.2.2.2.2.2.1 x.2.2.2.2.2.2.1).trans h⟩
end spec_ReportRows
abbrev ins_spec_l01Dec : List Par := [.v false [CT.int .i64]]
abbrev outs_spec_l01Dec : List (Bool × List CT) := [(false, [CT.str])]
namespace spec_l01Dec
/-! ### loop.example/g00095/spec.l01Dec (function 18) -/
noncomputable def ztbl : Tbl := tblL []
noncomputable def zbody : Code := ((Tryz.prog.funcs[18]?).bind (·.body)).getD .skip
def zcfg : Nat → List Nat × List Nat := fun k => if k = 5 then ([0, 3, 4], [3, 4]) else ([], [])
noncomputable def R0 {R : Type} (nx0 : (Int → Bool → ByteArray → Option R)) (ex0 : (Bool → ByteArray → Option R)) (n2 : Int) (neg : Bool) (out : ByteArray) : Option R := cond (n2 != 0) (if 10 = 0 then none else cond (decide ((Int.tmod n2 10) < 0)) (if (bytesOf [((IntKind.u8.wrap ((w64 (48 + (w64 (0 - (Int.tmod n2 10))))))), ())]).size + out.size ≤ 9223372036854775807 then if 10 = 0 then none else nx0 (w64 (Int.tdiv n2 10)) neg ((bytesOf [((IntKind.u8.wrap ((w64 (48 + (w64 (0 - (Int.tmod n2 10))))))), ())]) ++ out) else none) (if (bytesOf [((IntKind.u8.wrap ((w64 (48 + (Int.tmod n2 10))))), ())]).size + out.size ≤ 9223372036854775807 then if 10 = 0 then none else nx0 (w64 (Int.tdiv n2 10)) neg ((bytesOf [((IntKind.u8.wrap ((w64 (48 + (Int.tmod n2 10))))), ())]) ++ out) else none)) (ex0 neg out)
noncomputable def A0  (n : Int) (neg : Bool) (out : ByteArray) : Option (ByteArray × Unit) := cond neg (if (strLit [45]).size + out.size ≤ 9223372036854775807 then some (((strLit [45]) ++ out), ()) else none) (some (out, ()))
noncomputable def T (lo0 : (Int → Bool → ByteArray → Option (ByteArray × Unit))) (n : Int) : Option (ByteArray × Unit) := cond (n == 0) (some ((strLit [48]), ())) (lo0 n (decide (n < 0)) (strLit []))
noncomputable def zst0 {R : Type} (k0 : Nat) : Env → List Ob → Kont R → Option R := fun env ob K => runCode Tryz.prog ztbl 31 0 zcfg k0 (codeAt [1, 1, 1, 1, 0, 0, 0] zbody) env ob K
noncomputable def K0 {R : Type} (k0 : Nat) (K : Kont R) : Kont R := blockK 0 (seqK (fun env ob => runCode Tryz.prog ztbl 31 0 zcfg k0 (codeAt [1, 1, 1, 1, 1] zbody) env ob (K)) (K))
noncomputable def L0 {R : Type} (k0 k : Nat) (K : Kont R) (n2 : Int) (neg : Bool) (out : ByteArray) : Option R := iter 0 [0, 3, 4] [3, 4] (zst0 k0) k [(0, .int .i64 n2), (3, .bool neg), (4, .str out)] [] K
theorem zs0 {R : Type} (k0 k : Nat) (K : Kont R) (n2 : Int) (neg : Bool) (out : ByteArray) : L0 k0 (k + 1) K n2 neg out = R0 (L0 k0 k K) (fun neg out => K (.exit 0) [(3, .bool neg), (4, .str out)] []) n2 neg out := by kernel_rfl
theorem za0 (k0 : Nat) (n : Int) (neg : Bool) (out : ByteArray) : K0 (R := (ByteArray × Unit)) k0 (finK Tryz.prog [.tmp 2] ins_spec_l01Dec outs_spec_l01Dec (n, ())) (.exit 0) [(3, .bool neg), (4, .str out)] [] = A0  n neg out := by kernel_rfl
theorem ztop (k0 : Nat) (n : Int) : runFn Tryz.prog ztbl zcfg k0 18 ins_spec_l01Dec outs_spec_l01Dec [] (n, ()) = T (L0 (R := (ByteArray × Unit)) k0 k0 (K0 (R := (ByteArray × Unit)) k0 ((finK Tryz.prog [.tmp 2] ins_spec_l01Dec outs_spec_l01Dec (n, ()))))) n := by kernel_rfl
noncomputable def G0 {R : Type} (k0 : Nat) (hx0 : (Bool → ByteArray → Option R)) : Nat → Int → Bool → ByteArray → Option R
 | 0, _, _, _ => none
 | k + 1, n2, neg, out => R0 (G0 k0 hx0 k) hx0 n2 neg out
theorem zg0 {R : Type} (k0 : Nat) (K : Kont R) : ∀ k : Nat, L0 k0 k K = G0 k0 (fun neg out => K (.exit 0) [(3, .bool neg), (4, .str out)] []) k := by
 intro k
 induction k with
 | zero => funext n2 neg out; rfl
 | succ k ih => funext n2 neg out; rw [zs0, G0]; (try simp only [ih]); try rfl
noncomputable def FF (k0 : Nat) (n : Int) : Option (ByteArray × Unit) := T (G0 k0 (A0  n) k0) n
theorem zrun (k0 : Nat) (n : Int) : runFn Tryz.prog ztbl zcfg k0 18 ins_spec_l01Dec outs_spec_l01Dec [] (n, ()) = FF k0 n := by
 rw [ztop, FF]; (try simp only [zg0, za0]); try rfl
noncomputable def _root_.Go.Rv.F_spec_l01Dec : Int × Unit → Option (ByteArray × Unit) := fun x => (fun (n : Int) => FF (300) n) x.1
noncomputable abbrev _root_.Go.Rv.S_spec_l01Dec : Summ := ⟨ins_spec_l01Dec, outs_spec_l01Dec, F_spec_l01Dec, []⟩
theorem _root_.Go.Rv.ok_spec_l01Dec : SumOK Dr Tryz.prog 18 S_spec_l01Dec := runFn_ok (by kernel_rfl) (tblL_ok .nil) (by kernel_rfl) fun x y h => ⟨zcfg, _, (zrun _ x.1).trans h⟩
end spec_l01Dec
abbrev ins_spec_l01Max : List Par := [.v false [CT.int .i64], .v false [CT.int .i64]]
abbrev outs_spec_l01Max : List (Bool × List CT) := [(false, [CT.int .i64])]
namespace spec_l01Max
/-! ### loop.example/g00095/spec.l01Max (function 43) -/
noncomputable def ztbl : Tbl := tblL []
noncomputable def zbody : Code := ((Tryz.prog.funcs[43]?).bind (·.body)).getD .skip
def zcfg : Nat → List Nat × List Nat := fun k => ([], [])
noncomputable def T  (a b : Int) : Option (Int × Unit) := cond (decide (a > b)) (some (a, ())) (some (b, ()))
theorem ztop (k0 : Nat) (a b : Int) : runFn Tryz.prog ztbl zcfg k0 43 ins_spec_l01Max outs_spec_l01Max [] (a, b, ()) = T  a b := by kernel_rfl
noncomputable def _root_.Go.Rv.F_spec_l01Max : U7 → Option (Int × Unit) := fun x => T x.1 x.2.1
noncomputable abbrev _root_.Go.Rv.S_spec_l01Max : Summ := ⟨ins_spec_l01Max, outs_spec_l01Max, F_spec_l01Max, []⟩
theorem _root_.Go.Rv.ok_spec_l01Max : SumOK Dr Tryz.prog 43 S_spec_l01Max := runFn_ok (by kernel_rfl) (tblL_ok .nil) (by kernel_rfl) fun x y h => ⟨zcfg, 0, (ztop 0 x.1 x.2.1).trans h⟩
end spec_l01Max
abbrev ins_spec_LeaseOthers : List Par := [.v false [CT.sl ct0], .v false [CT.int .i64], .v false [CT.int .i64]]
abbrev outs_spec_LeaseOthers : List (Bool × List CT) := [(false, [CT.int .i64])]
namespace spec_LeaseOthers
/-! ### loop.example/g00095/spec.LeaseOthers (function 81) -/
noncomputable def ztbl : Tbl := tblL [(41, [], S_spec_LeasesRight)]
noncomputable def zbody : Code := ((Tryz.prog.funcs[81]?).bind (·.body)).getD .skip
def zcfg : Nat → List Nat × List Nat := fun k => if k = 5 then ([0, 1, 2, 7, 8], [7]) else ([], [])
noncomputable def R0 {R : Type} (nx0 : ((List U6) → Int → Int → Int → Int → Option R)) (ex0 : (Int → Option R)) (list2 : List U6) (now2 id2 sum i : Int) : Option R := cond (decide (i < (list2.length : Int))) (if 0 ≤ i ∧ i < (list2.length : Int) then cond (decide ((rd (0, 0, 0, ()) list2 i).2.2.1 > now2)) (if 0 ≤ i ∧ i < (list2.length : Int) then cond ((rd (0, 0, 0, ()) list2 i).1 != id2) (if 0 ≤ i ∧ i < (list2.length : Int) then nx0 list2 now2 id2 (w64 (sum + (rd (0, 0, 0, ()) list2 i).2.1)) (w64 (i + 1)) else none) (nx0 list2 now2 id2 sum (w64 (i + 1))) else none) (nx0 list2 now2 id2 sum (w64 (i + 1))) else none) (ex0 sum)
noncomputable def A0  (list : List U6) (now id : Int) (sum : Int) : Option (Int × Unit) := some (sum, ())
noncomputable def T (lo0 : ((List U6) → Int → Int → Int → Int → Option (Int × Unit))) (list : List U6) (now id : Int) : Option (Int × Unit) := (F_spec_LeasesRight (list, ())).bind fun y1 => cond (!y1.1) (some (0, ())) (lo0 list now id 0 0)
noncomputable def zst0 {R : Type} (k0 : Nat) : Env → List Ob → Kont R → Option R := fun env ob K => runCode Tryz.prog ztbl 43 0 zcfg k0 (codeAt [1, 1, 1, 0, 1, 0, 0] zbody) env ob K
noncomputable def K0 {R : Type} (k0 : Nat) (K : Kont R) : Kont R := blockK 0 (seqK (fun env ob => runCode Tryz.prog ztbl 43 0 zcfg k0 (codeAt [1, 1, 1, 1] zbody) env ob (K)) (K))
noncomputable def L0 {R : Type} (k0 k : Nat) (K : Kont R) (list2 : List U6) (now2 id2 sum i : Int) : Option R := iter 0 [0, 1, 2, 7, 8] [7] (zst0 k0) k [(0, .sl ct0 list2), (1, .int .i64 now2), (2, .int .i64 id2), (7, .int .i64 sum), (8, .int .i64 i)] [] K
theorem zs0 {R : Type} (k0 k : Nat) (K : Kont R) (list2 : List U6) (now2 id2 sum i : Int) : L0 k0 (k + 1) K list2 now2 id2 sum i = R0 (L0 k0 k K) (fun sum => K (.exit 0) [(7, .int .i64 sum)] []) list2 now2 id2 sum i := by kernel_rfl
theorem za0 (k0 : Nat) (list : List U6) (now id : Int) (sum : Int) : K0 (R := (Int × Unit)) k0 (finK Tryz.prog [.tmp 6] ins_spec_LeaseOthers outs_spec_LeaseOthers (list, now, id, ())) (.exit 0) [(7, .int .i64 sum)] [] = A0  list now id sum := by kernel_rfl
theorem ztop (k0 : Nat) (list : List U6) (now id : Int) : runFn Tryz.prog ztbl zcfg k0 81 ins_spec_LeaseOthers outs_spec_LeaseOthers [] (list, now, id, ()) = T (L0 (R := (Int × Unit)) k0 k0 (K0 (R := (Int × Unit)) k0 ((finK Tryz.prog [.tmp 6] ins_spec_LeaseOthers outs_spec_LeaseOthers (list, now, id, ()))))) list now id := by kernel_rfl
noncomputable def G0 {R : Type} (k0 : Nat) (hx0 : (Int → Option R)) : Nat → (List U6) → Int → Int → Int → Int → Option R
 | 0, _, _, _, _, _ => none
 | k + 1, list2, now2, id2, sum, i => R0 (G0 k0 hx0 k) hx0 list2 now2 id2 sum i
theorem zg0 {R : Type} (k0 : Nat) (K : Kont R) : ∀ k : Nat, L0 k0 k K = G0 k0 (fun sum => K (.exit 0) [(7, .int .i64 sum)] []) k := by
 intro k
 induction k with
 | zero => funext list2 now2 id2 sum i; rfl
 | succ k ih => funext list2 now2 id2 sum i; rw [zs0, G0]; (try simp only [ih]); try rfl
noncomputable def FF (k0 : Nat) (list : List U6) (now id : Int) : Option (Int × Unit) := T (G0 k0 (A0  list now id) k0) list now id
theorem zrun (k0 : Nat) (list : List U6) (now id : Int) : runFn Tryz.prog ztbl zcfg k0 81 ins_spec_LeaseOthers outs_spec_LeaseOthers [] (list, now, id, ()) = FF k0 list now id := by
 rw [ztop, FF]; (try simp only [zg0, za0]); try rfl
noncomputable def _root_.Go.Rv.F_spec_LeaseOthers : (List U6) × U7 → Option (Int × Unit) := fun x => (fun (list : List U6) (now id : Int) => FF (300 + list.length) list now id) x.1 x.2.1 x.2.2.1
noncomputable abbrev _root_.Go.Rv.S_spec_LeaseOthers : Summ := ⟨ins_spec_LeaseOthers, outs_spec_LeaseOthers, F_spec_LeaseOthers, []⟩
theorem _root_.Go.Rv.ok_spec_LeaseOthers : SumOK Dr Tryz.prog 81 S_spec_LeaseOthers := runFn_ok (by kernel_rfl) (tblL_ok (.cons ok_spec_LeasesRight .nil)) (by kernel_rfl) fun x y h => ⟨zcfg, _, (zrun _ x.1 x.2.1 x.2.2.1).trans h⟩
end spec_LeaseOthers
abbrev ins_spec_LeaseSum : List Par := [.v false [CT.sl ct0], .v false [CT.int .i64]]
abbrev outs_spec_LeaseSum : List (Bool × List CT) := [(false, [CT.int .i64])]
namespace spec_LeaseSum
/-! ### loop.example/g00095/spec.LeaseSum (function 44) -/
noncomputable def ztbl : Tbl := tblL [(81, [], S_spec_LeaseOthers)]
noncomputable def zbody : Code := ((Tryz.prog.funcs[44]?).bind (·.body)).getD .skip
def zcfg : Nat → List Nat × List Nat := fun k => ([], [])
noncomputable def T  (list : List U6) (now : Int) : Option (Int × Unit) := (F_spec_LeaseOthers (list, now, 0, ())).bind fun y1 => some (y1.1, ())
theorem ztop (k0 : Nat) (list : List U6) (now : Int) : runFn Tryz.prog ztbl zcfg k0 44 ins_spec_LeaseSum outs_spec_LeaseSum [] (list, now, ()) = T  list now := by kernel_rfl
noncomputable def _root_.Go.Rv.F_spec_LeaseSum : (List U6) × Int × Unit → Option (Int × Unit) := fun x => T x.1 x.2.1
noncomputable abbrev _root_.Go.Rv.S_spec_LeaseSum : Summ := ⟨ins_spec_LeaseSum, outs_spec_LeaseSum, F_spec_LeaseSum, []⟩
theorem _root_.Go.Rv.ok_spec_LeaseSum : SumOK Dr Tryz.prog 44 S_spec_LeaseSum := runFn_ok (by kernel_rfl) (tblL_ok (.cons ok_spec_LeaseOthers .nil)) (by kernel_rfl) fun x y h => ⟨zcfg, 0, (ztop 0 x.1 x.2.1).trans h⟩
end spec_LeaseSum
abbrev ins_spec_ServerFree : List Par := [.v true ct3]
abbrev outs_spec_ServerFree : List (Bool × List CT) := [(false, [CT.int .i64])]
namespace spec_ServerFree
/-! ### loop.example/g00095/spec.ServerFree (function 19) -/
noncomputable def ztbl : Tbl := tblL [(16, [], S_spec_ServerRight), (43, [], S_spec_l01Max), (44, [], S_spec_LeaseSum)]
noncomputable def zbody : Code := ((Tryz.prog.funcs[19]?).bind (·.body)).getD .skip
def zcfg : Nat → List Nat × List Nat := fun k => ([], [])
noncomputable def T  (s0 s1 s2 s3 : Int) (s4 s5 : List U5) (s6 : List U6) : Option (Int × Unit) := (F_spec_ServerRight (s0, s1, s2, s3, s4, s5, s6, ())).bind fun y1 => cond (!y1.1) (some (0, ())) ((F_spec_LeaseSum (s6, s2, ())).bind fun y2 => (F_spec_l01Max (0, (w64 (s3 - y2.1)), ())).bind fun y3 => some (y3.1, ()))
theorem ztop (k0 : Nat) (s0 s1 s2 s3 : Int) (s4 s5 : List U5) (s6 : List U6) : runFn Tryz.prog ztbl zcfg k0 19 ins_spec_ServerFree outs_spec_ServerFree [] (s0, s1, s2, s3, s4, s5, s6, ()) = T  s0 s1 s2 s3 s4 s5 s6 := by kernel_rfl
noncomputable def _root_.Go.Rv.F_spec_ServerFree : U0 → Option (Int × Unit) := fun x => T x.1 x.2.1 x.2.2.1 x.2.2.2.1 x.2.2.2.2.1 x.2.2.2.2.2.1 x.2.2.2.2.2.2.1
noncomputable abbrev _root_.Go.Rv.S_spec_ServerFree : Summ := ⟨ins_spec_ServerFree, outs_spec_ServerFree, F_spec_ServerFree, []⟩
theorem _root_.Go.Rv.ok_spec_ServerFree : SumOK Dr Tryz.prog 19 S_spec_ServerFree := runFn_ok (by kernel_rfl) (tblL_ok (.cons ok_spec_ServerRight (.cons ok_spec_l01Max (.cons ok_spec_LeaseSum .nil)))) (by kernel_rfl) fun x y h => ⟨zcfg, 0, (ztop 0 x.1 x.2.1 x.2.2.1 x.2.2.2.1 x.2.2.2.2.1 x.2.2.2.2.2.1 x.2.2.2.2.2.2.1).trans h⟩
end spec_ServerFree
end Go.Rv
