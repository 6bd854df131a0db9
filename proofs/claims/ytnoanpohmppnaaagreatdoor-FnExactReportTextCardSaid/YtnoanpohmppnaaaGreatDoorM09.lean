/- What functions come to on pure values (printed by a program of ours). -/
import Derived.Test.YtnoanpohmppnaaaGreatDoorM08
set_option linter.unusedVariables false
set_option linter.unusedSimpArgs false
set_option linter.unusedSectionVars false
set_option maxRecDepth 100000
namespace Go.Rv
open Go.Proofs
variable {Dr : Kn}
abbrev ins_impl_Farm_pour : List Par := [.v true ct4, .v false [CT.int .i64], .v false [CT.int .i64], .w false [CT.sl ct6], .w false [CT.sl ct6]]
abbrev outs_impl_Farm_pour : List (Bool × List CT) := []
namespace impl_Farm_pour
/-! ### (loop.example/g00095/impl.Farm).pour (function 95) -/
noncomputable def ztbl : Tbl := tblL [(74, [], S_impl_Farm_kids), (103, [], S_impl_fill)]
noncomputable def zbody : Code := ((Tryz.prog.funcs[95]?).bind (·.body)).getD .skip
def zcfg : Nat → List Nat × List Nat := fun k => if k = 4 then ([3, 4, 11, 12, 13, 29, 30, 31], [4, 11, 12, 13]) else if k = 9 then ([4, 11, 13, 45, 46, 47], []) else ([], [])
noncomputable def R0 {R : Type} (nx0 : (Int → Int → (List U7) → (List U7) → (List (Int × Unit)) → (List (Int × Unit)) → (List (Int × Unit)) → Option R)) (ex0 : ((List U7) → (List U7) → (List (Int × Unit)) → (List (Int × Unit)) → (List (Int × Unit)) → Option R)) (t30x t31x : Int) (groups2 members2 : List U7) (own others amounts : List (Int × Unit)) : Option R := cond (decide (t31x < t30x)) (if 0 ≤ t31x ∧ t31x < (own.length : Int) then if 0 ≤ t31x ∧ t31x < (amounts.length : Int) then if 0 ≤ (own.getD t31x.toNat (0, ())).1 ∧ (own.getD t31x.toNat (0, ())).1 < (groups2.length : Int) then nx0 t30x (w64 (t31x + 1)) (groups2.set (((own.getD t31x.toNat (0, ())).1).toNat) ((groups2.getD (((own.getD t31x.toNat (0, ())).1).toNat) (0, 0, ())).1, (amounts.getD t31x.toNat (0, ())).1, ())) members2 own others amounts else none else none else none) (ex0 groups2 members2 own others amounts)
noncomputable def R1 {R : Type} (nx1 : (Int → Int → (List U7) → (List U7) → (List (Int × Unit)) → (List (Int × Unit)) → (List (Int × Unit)) → Option R)) (ex1 : ((List U7) → (List U7) → Option R)) (t46x t47x : Int) (o0 members2 : List U7) (own amounts t45x : List (Int × Unit)) : Option R := cond (decide (t47x < t46x)) (if 0 ≤ t47x ∧ t47x < (t45x.length : Int) then if 0 ≤ (w64 ((own.length : Int) + t47x)) ∧ (w64 ((own.length : Int) + t47x)) < (amounts.length : Int) then if 0 ≤ (t45x.getD t47x.toNat (0, ())).1 ∧ (t45x.getD t47x.toNat (0, ())).1 < (members2.length : Int) then nx1 t46x (w64 (t47x + 1)) o0 (members2.set (((t45x.getD t47x.toNat (0, ())).1).toNat) ((members2.getD (((t45x.getD t47x.toNat (0, ())).1).toNat) (0, 0, ())).1, (amounts.getD (((w64 ((own.length : Int) + t47x))).toNat) (0, ())).1, ())) own amounts t45x else none else none else none) (ex1 o0 members2)
noncomputable def A0 (lo1 : (Int → Int → (List U7) → (List U7) → (List (Int × Unit)) → (List (Int × Unit)) → (List (Int × Unit)) → Option ((List U7) × (List U7) × Unit))) (f0 : Int) (f1 f2 : List U5) (id amount : Int) (groups members : List U7) (o0 members2 : List U7) (own others amounts : List (Int × Unit)) : Option ((List U7) × (List U7) × Unit) := lo1 (others.length : Int) 0 o0 members2 own amounts others
noncomputable def A1  (f0 : Int) (f1 f2 : List U5) (id amount : Int) (groups members : List U7) (o0 o1 : List U7) : Option ((List U7) × (List U7) × Unit) := some (o0, o1, ())
noncomputable def T (lo0 : (Int → Int → (List U7) → (List U7) → (List (Int × Unit)) → (List (Int × Unit)) → (List (Int × Unit)) → Option ((List U7) × (List U7) × Unit))) (f0 : Int) (f1 f2 : List U5) (id amount : Int) (groups members : List U7) : Option ((List U7) × (List U7) × Unit) := (F_impl_Farm_kids (f0, f1, f2, id, ())).bind fun y1 => (F_impl_fill (amount, y1.1, ())).bind fun y2 => lo0 (y1.2.1.length : Int) 0 groups members y1.2.1 y1.2.2.1 y2.1
noncomputable def zst0 {R : Type} (k0 : Nat) : Env → List Ob → Kont R → Option R := fun env ob K => runCode Tryz.prog ztbl 64 2 zcfg k0 (codeAt [1, 1, 1, 0, 1, 0, 0] zbody) env ob K
noncomputable def K0 {R : Type} (k0 : Nat) (K : Kont R) : Kont R := blockK 0 (seqK (fun env ob => runCode Tryz.prog ztbl 64 2 zcfg k0 (codeAt [1, 1, 1, 1] zbody) env ob (K)) (K))
noncomputable def zst1 {R : Type} (k0 : Nat) : Env → List Ob → Kont R → Option R := fun env ob K => runCode Tryz.prog ztbl 64 2 zcfg k0 (codeAt [1, 1, 1, 1, 1, 0, 0] zbody) env ob K
noncomputable def K1 {R : Type} (k0 : Nat) (K : Kont R) : Kont R := blockK 2 (K)
noncomputable def L0 {R : Type} (k0 k : Nat) (K : Kont R) (t30x t31x : Int) (groups2 members2 : List U7) (own others amounts : List (Int × Unit)) : Option R := iter 2 [3, 4, 11, 12, 13, 29, 30, 31] [4, 11, 12, 13] (zst0 k0) k [(3, .own 0), (4, .own 1), (11, .own 2), (12, .own 3), (13, .own 4), (29, .own 2), (30, .int .i64 t30x), (31, .int .i64 t31x)] [.arr ct6 groups2, .arr ct6 members2, .arr [CT.int .i64] own, .arr [CT.int .i64] others, .arr [CT.int .i64] amounts] K
noncomputable def L1 {R : Type} (k0 k : Nat) (K : Kont R) (t46x t47x : Int) (o0 members2 : List U7) (own amounts t45x : List (Int × Unit)) : Option R := iter 2 [4, 11, 13, 45, 46, 47] [] (zst1 k0) k [(4, .own 1), (11, .own 2), (13, .own 3), (45, .own 4), (46, .int .i64 t46x), (47, .int .i64 t47x)] [.arr ct6 o0, .arr ct6 members2, .arr [CT.int .i64] own, .arr [CT.int .i64] amounts, .arr [CT.int .i64] t45x] K
theorem zs0 {R : Type} (k0 k : Nat) (K : Kont R) (t30x t31x : Int) (groups2 members2 : List U7) (own others amounts : List (Int × Unit)) : L0 k0 (k + 1) K t30x t31x groups2 members2 own others amounts = R0 (L0 k0 k K) (fun o0 members2 own others amounts => K (.exit 0) [(4, .own 1), (11, .own 2), (12, .own 3), (13, .own 4)] [.arr ct6 o0, .arr ct6 members2, .arr [CT.int .i64] own, .arr [CT.int .i64] others, .arr [CT.int .i64] amounts]) t30x t31x groups2 members2 own others amounts := by kernel_rfl
theorem zs1 {R : Type} (k0 k : Nat) (K : Kont R) (t46x t47x : Int) (o0 members2 : List U7) (own amounts t45x : List (Int × Unit)) : L1 k0 (k + 1) K t46x t47x o0 members2 own amounts t45x = R1 (L1 k0 k K) (fun o0 o1 => K (.exit 2) [] [.arr ct6 o0, .arr ct6 o1]) t46x t47x o0 members2 own amounts t45x := by kernel_rfl
theorem za0 (k0 : Nat) (f0 : Int) (f1 f2 : List U5) (id amount : Int) (groups members : List U7) (o0 members2 : List U7) (own others amounts : List (Int × Unit)) : K0 (R := ((List U7) × (List U7) × Unit)) k0 (finK Tryz.prog [] ins_impl_Farm_pour outs_impl_Farm_pour (f0, f1, f2, id, amount, groups, members, ())) (.exit 0) [(4, .own 1), (11, .own 2), (12, .own 3), (13, .own 4)] [.arr ct6 o0, .arr ct6 members2, .arr [CT.int .i64] own, .arr [CT.int .i64] others, .arr [CT.int .i64] amounts] = A0 (L1 (R := ((List U7) × (List U7) × Unit)) k0 k0 (K1 (R := ((List U7) × (List U7) × Unit)) k0 ((finK Tryz.prog [] ins_impl_Farm_pour outs_impl_Farm_pour (f0, f1, f2, id, amount, groups, members, ()))))) f0 f1 f2 id amount groups members o0 members2 own others amounts := by kernel_rfl
theorem za1 (k0 : Nat) (f0 : Int) (f1 f2 : List U5) (id amount : Int) (groups members : List U7) (o0 o1 : List U7) : K1 (R := ((List U7) × (List U7) × Unit)) k0 (finK Tryz.prog [] ins_impl_Farm_pour outs_impl_Farm_pour (f0, f1, f2, id, amount, groups, members, ())) (.exit 2) [] [.arr ct6 o0, .arr ct6 o1] = A1  f0 f1 f2 id amount groups members o0 o1 := by kernel_rfl
theorem ztop (k0 : Nat) (f0 : Int) (f1 f2 : List U5) (id amount : Int) (groups members : List U7) : runFn Tryz.prog ztbl zcfg k0 95 ins_impl_Farm_pour outs_impl_Farm_pour [] (f0, f1, f2, id, amount, groups, members, ()) = T (L0 (R := ((List U7) × (List U7) × Unit)) k0 k0 (K0 (R := ((List U7) × (List U7) × Unit)) k0 ((finK Tryz.prog [] ins_impl_Farm_pour outs_impl_Farm_pour (f0, f1, f2, id, amount, groups, members, ()))))) f0 f1 f2 id amount groups members := by kernel_rfl
noncomputable def G0 {R : Type} (k0 : Nat) (hx0 : ((List U7) → (List U7) → (List (Int × Unit)) → (List (Int × Unit)) → (List (Int × Unit)) → Option R)) : Nat → Int → Int → (List U7) → (List U7) → (List (Int × Unit)) → (List (Int × Unit)) → (List (Int × Unit)) → Option R
 | 0, _, _, _, _, _, _, _ => none
 | k + 1, t30x, t31x, groups2, members2, own, others, amounts => R0 (G0 k0 hx0 k) hx0 t30x t31x groups2 members2 own others amounts
theorem zg0 {R : Type} (k0 : Nat) (K : Kont R) : ∀ k : Nat, L0 k0 k K = G0 k0 (fun o0 members2 own others amounts => K (.exit 0) [(4, .own 1), (11, .own 2), (12, .own 3), (13, .own 4)] [.arr ct6 o0, .arr ct6 members2, .arr [CT.int .i64] own, .arr [CT.int .i64] others, .arr [CT.int .i64] amounts]) k := by
 intro k
 induction k with
 | zero => funext t30x t31x groups2 members2 own others amounts; rfl
 | succ k ih => funext t30x t31x groups2 members2 own others amounts; rw [zs0, G0]; (try simp only [ih]); try rfl
noncomputable def G1 {R : Type} (k0 : Nat) (hx1 : ((List U7) → (List U7) → Option R)) : Nat → Int → Int → (List U7) → (List U7) → (List (Int × Unit)) → (List (Int × Unit)) → (List (Int × Unit)) → Option R
 | 0, _, _, _, _, _, _, _ => none
 | k + 1, t46x, t47x, o0, members2, own, amounts, t45x => R1 (G1 k0 hx1 k) hx1 t46x t47x o0 members2 own amounts t45x
theorem zg1 {R : Type} (k0 : Nat) (K : Kont R) : ∀ k : Nat, L1 k0 k K = G1 k0 (fun o0 o1 => K (.exit 2) [] [.arr ct6 o0, .arr ct6 o1]) k := by
 intro k
 induction k with
 | zero => funext t46x t47x o0 members2 own amounts t45x; rfl
 | succ k ih => funext t46x t47x o0 members2 own amounts t45x; rw [zs1, G1]; (try simp only [ih, zg0]); try rfl
noncomputable def FF (k0 : Nat) (f0 : Int) (f1 f2 : List U5) (id amount : Int) (groups members : List U7) : Option ((List U7) × (List U7) × Unit) := T (G0 k0 (A0 (G1 k0 (A1  f0 f1 f2 id amount groups members) k0) f0 f1 f2 id amount groups members) k0) f0 f1 f2 id amount groups members
theorem zrun (k0 : Nat) (f0 : Int) (f1 f2 : List U5) (id amount : Int) (groups members : List U7) : runFn Tryz.prog ztbl zcfg k0 95 ins_impl_Farm_pour outs_impl_Farm_pour [] (f0, f1, f2, id, amount, groups, members, ()) = FF k0 f0 f1 f2 id amount groups members := by
 rw [ztop, FF]; (try simp only [zg0, zg1, za0, za1]); try rfl
noncomputable def _root_.Go.Rv.F_impl_Farm_pour : Int × (List U5) × (List U5) × Int × Int × (List U7) × (List U7) × Unit → Option ((List U7) × (List U7) × Unit) := fun x => (fun (f0 : Int) (f1 f2 : List U5) (id amount : Int) (groups members : List U7) => FF (300 + f1.length + f2.length + groups.length + members.length) f0 f1 f2 id amount groups members) x.1 x.2.1 x.2.2.1 x.2.2.2.1 x.2.2.2.2.1 x.2.2.2.2.2.1 x.2.2.2.2.2.2.1
noncomputable abbrev _root_.Go.Rv.S_impl_Farm_pour : Summ := ⟨ins_impl_Farm_pour, outs_impl_Farm_pour, F_impl_Farm_pour, []⟩
theorem _root_.Go.Rv.ok_impl_Farm_pour : SumOK KN Tryz.prog 95 S_impl_Farm_pour := runFn_ok (by kernel_rfl) (tblL_ok (.cons ok_impl_Farm_kids (.cons ok_impl_fill .nil))) (by kernel_rfl) fun x y h => ⟨zcfg, _, (zrun _ x.1 x.2.1 x.2.2.1 x.2.2.2.1 x.2.2.2.2.1 x.2.2.2.2.2.1 x.2.2.2.2.2.2.1).trans h⟩
end impl_Farm_pour
abbrev ins_impl_Farm_shares : List Par := [.v true ct4]
abbrev outs_impl_Farm_shares : List (Bool × List CT) := [(false, [CT.sl ct6]), (false, [CT.sl ct6])]
namespace impl_Farm_shares
/-! ### (loop.example/g00095/impl.Farm).shares (function 71) -/
noncomputable def ztbl : Tbl := tblL [(95, [], S_impl_Farm_pour)]
noncomputable def zbody : Code := ((Tryz.prog.funcs[71]?).bind (·.body)).getD .skip
def zcfg : Nat → List Nat × List Nat := fun k => if k = 3 then ([1, 4, 5, 15, 16, 17], [1, 4, 5]) else if k = 8 then ([1, 4, 5, 29, 30, 31], [1, 4, 5]) else if k = 14 then ([1, 4, 5, 49, 50, 51], [4, 5]) else ([], [])
noncomputable def R0 {R : Type} (nx0 : ((List U5) → Int → Int → Int → (List U5) → (List U5) → (List U7) → (List U7) → Option R)) (ex0 : (Int → (List U5) → (List U5) → (List U7) → (List U7) → Option R)) (t15x : List U5) (t16x t17x f : Int) (f3 f4 : List U5) (groups members : List U7) : Option R := cond (decide (t17x < t16x)) (if 0 ≤ t17x ∧ t17x < (t15x.length : Int) then if groups.length + [((rd (0, 0, 0, 0, ()) t15x t17x).1, 0, ())].length ≤ maxRow then nx0 t15x t16x (w64 (t17x + 1)) f f3 f4 (groups ++ [((rd (0, 0, 0, 0, ()) t15x t17x).1, 0, ())]) members else none else none) (ex0 f f3 f4 groups members)
noncomputable def R1 {R : Type} (nx1 : ((List U5) → Int → Int → Int → (List U5) → (List U5) → (List U7) → (List U7) → Option R)) (ex1 : (Int → (List U5) → (List U5) → (List U7) → (List U7) → Option R)) (t29x : List U5) (t30x t31x f : Int) (f3 f4 : List U5) (groups members : List U7) : Option R := cond (decide (t31x < t30x)) (if 0 ≤ t31x ∧ t31x < (t29x.length : Int) then if members.length + [((rd (0, 0, 0, 0, ()) t29x t31x).1, 0, ())].length ≤ maxRow then nx1 t29x t30x (w64 (t31x + 1)) f f3 f4 groups (members ++ [((rd (0, 0, 0, 0, ()) t29x t31x).1, 0, ())]) else none else none) (ex1 f f3 f4 groups members)
noncomputable def R2 {R : Type} (nx2 : ((List U5) → Int → Int → Int → (List U5) → (List U5) → (List U7) → (List U7) → Option R)) (ex2 : ((List U7) → (List U7) → Option R)) (t49x : List U5) (t50x t51x f : Int) (f3 f4 : List U5) (groups members : List U7) : Option R := cond (decide (t51x < t50x)) (if 0 ≤ t51x ∧ t51x < (t49x.length : Int) then if 0 ≤ t51x ∧ t51x < (groups.length : Int) then (F_impl_Farm_pour (f, f3, f4, (rd (0, 0, 0, 0, ()) t49x t51x).1, (groups.getD t51x.toNat (0, 0, ())).2.1, groups, members, ())).bind fun y1 => nx2 t49x t50x (w64 (t51x + 1)) f f3 f4 y1.1 y1.2.1 else none else none) (ex2 groups members)
noncomputable def A0 (lo1 : ((List U5) → Int → Int → Int → (List U5) → (List U5) → (List U7) → (List U7) → Option ((List U7) × (List U7) × Unit))) (f0 : Int) (f1 f2 : List U5) (f : Int) (f3 f4 : List U5) (groups members : List U7) : Option ((List U7) × (List U7) × Unit) := lo1 f4 (f4.length : Int) 0 f f3 f4 groups members
noncomputable def A1 (lo2 : ((List U5) → Int → Int → Int → (List U5) → (List U5) → (List U7) → (List U7) → Option ((List U7) × (List U7) × Unit))) (f0 : Int) (f1 f2 : List U5) (f : Int) (f3 f4 : List U5) (groups members : List U7) : Option ((List U7) × (List U7) × Unit) := (F_impl_Farm_pour (f, f3, f4, 0, f, groups, members, ())).bind fun y1 => lo2 f3 (f3.length : Int) 0 f f3 f4 y1.1 y1.2.1
noncomputable def A2  (f0 : Int) (f1 f2 : List U5) (groups members : List U7) : Option ((List U7) × (List U7) × Unit) := some (groups, members, ())
noncomputable def T (lo0 : ((List U5) → Int → Int → Int → (List U5) → (List U5) → (List U7) → (List U7) → Option ((List U7) × (List U7) × Unit))) (f0 : Int) (f1 f2 : List U5) : Option ((List U7) × (List U7) × Unit) := lo0 f1 (f1.length : Int) 0 f0 f1 f2 ([] : List U7) ([] : List U7)
noncomputable def zst0 {R : Type} (k0 : Nat) : Env → List Ob → Kont R → Option R := fun env ob K => runCode Tryz.prog ztbl 70 0 zcfg k0 (codeAt [1, 1, 0, 1, 0, 0] zbody) env ob K
noncomputable def K0 {R : Type} (k0 : Nat) (K : Kont R) : Kont R := blockK 0 (seqK (fun env ob => runCode Tryz.prog ztbl 70 0 zcfg k0 (codeAt [1, 1, 1] zbody) env ob (K)) (K))
noncomputable def zst1 {R : Type} (k0 : Nat) : Env → List Ob → Kont R → Option R := fun env ob K => runCode Tryz.prog ztbl 70 0 zcfg k0 (codeAt [1, 1, 1, 0, 1, 0, 0] zbody) env ob K
noncomputable def K1 {R : Type} (k0 : Nat) (K : Kont R) : Kont R := blockK 2 (seqK (fun env ob => runCode Tryz.prog ztbl 70 0 zcfg k0 (codeAt [1, 1, 1, 1] zbody) env ob (K)) (K))
noncomputable def zst2 {R : Type} (k0 : Nat) : Env → List Ob → Kont R → Option R := fun env ob K => runCode Tryz.prog ztbl 70 0 zcfg k0 (codeAt [1, 1, 1, 1, 1, 0, 1, 0, 0] zbody) env ob K
noncomputable def K2 {R : Type} (k0 : Nat) (K : Kont R) : Kont R := blockK 4 (seqK (fun env ob => runCode Tryz.prog ztbl 70 0 zcfg k0 (codeAt [1, 1, 1, 1, 1, 1] zbody) env ob (K)) (K))
noncomputable def L0 {R : Type} (k0 k : Nat) (K : Kont R) (t15x : List U5) (t16x t17x f : Int) (f3 f4 : List U5) (groups members : List U7) : Option R := iter 0 [1, 4, 5, 15, 16, 17] [1, 4, 5] (zst0 k0) k [(1, .ptr 0 0 0 0), (4, .own 1), (5, .own 2), (15, .sl ct2 t15x), (16, .int .i64 t16x), (17, .int .i64 t17x)] [.box [.int .i64 f, .sl ct2 f3, .sl ct2 f4], .arr ct6 groups, .arr ct6 members] K
noncomputable def L1 {R : Type} (k0 k : Nat) (K : Kont R) (t29x : List U5) (t30x t31x f : Int) (f3 f4 : List U5) (groups members : List U7) : Option R := iter 0 [1, 4, 5, 29, 30, 31] [1, 4, 5] (zst1 k0) k [(1, .ptr 0 0 0 0), (4, .own 1), (5, .own 2), (29, .sl ct2 t29x), (30, .int .i64 t30x), (31, .int .i64 t31x)] [.box [.int .i64 f, .sl ct2 f3, .sl ct2 f4], .arr ct6 groups, .arr ct6 members] K
noncomputable def L2 {R : Type} (k0 k : Nat) (K : Kont R) (t49x : List U5) (t50x t51x f : Int) (f3 f4 : List U5) (groups members : List U7) : Option R := iter 0 [1, 4, 5, 49, 50, 51] [4, 5] (zst2 k0) k [(1, .ptr 0 0 0 0), (4, .own 1), (5, .own 2), (49, .sl ct2 t49x), (50, .int .i64 t50x), (51, .int .i64 t51x)] [.box [.int .i64 f, .sl ct2 f3, .sl ct2 f4], .arr ct6 groups, .arr ct6 members] K
theorem zs0 {R : Type} (k0 k : Nat) (K : Kont R) (t15x : List U5) (t16x t17x f : Int) (f3 f4 : List U5) (groups members : List U7) : L0 k0 (k + 1) K t15x t16x t17x f f3 f4 groups members = R0 (L0 k0 k K) (fun f f3 f4 groups members => K (.exit 0) [(1, .ptr 0 0 0 0), (4, .own 1), (5, .own 2)] [.box [.int .i64 f, .sl ct2 f3, .sl ct2 f4], .arr ct6 groups, .arr ct6 members]) t15x t16x t17x f f3 f4 groups members := by kernel_rfl
theorem zs1 {R : Type} (k0 k : Nat) (K : Kont R) (t29x : List U5) (t30x t31x f : Int) (f3 f4 : List U5) (groups members : List U7) : L1 k0 (k + 1) K t29x t30x t31x f f3 f4 groups members = R1 (L1 k0 k K) (fun f f3 f4 groups members => K (.exit 2) [(1, .ptr 0 0 0 0), (4, .own 1), (5, .own 2)] [.box [.int .i64 f, .sl ct2 f3, .sl ct2 f4], .arr ct6 groups, .arr ct6 members]) t29x t30x t31x f f3 f4 groups members := by kernel_rfl
theorem zs2 {R : Type} (k0 k : Nat) (K : Kont R) (t49x : List U5) (t50x t51x f : Int) (f3 f4 : List U5) (groups members : List U7) : L2 k0 (k + 1) K t49x t50x t51x f f3 f4 groups members = R2 (L2 k0 k K) (fun groups members => K (.exit 4) [(4, .own 0), (5, .own 1)] [.arr ct6 groups, .arr ct6 members]) t49x t50x t51x f f3 f4 groups members := by kernel_rfl
theorem za0 (k0 : Nat) (f0 : Int) (f1 f2 : List U5) (f : Int) (f3 f4 : List U5) (groups members : List U7) : K0 (R := ((List U7) × (List U7) × Unit)) k0 (finK Tryz.prog [.tmp 2, .tmp 3] ins_impl_Farm_shares outs_impl_Farm_shares (f0, f1, f2, ())) (.exit 0) [(1, .ptr 0 0 0 0), (4, .own 1), (5, .own 2)] [.box [.int .i64 f, .sl ct2 f3, .sl ct2 f4], .arr ct6 groups, .arr ct6 members] = A0 (L1 (R := ((List U7) × (List U7) × Unit)) k0 k0 (K1 (R := ((List U7) × (List U7) × Unit)) k0 ((finK Tryz.prog [.tmp 2, .tmp 3] ins_impl_Farm_shares outs_impl_Farm_shares (f0, f1, f2, ()))))) f0 f1 f2 f f3 f4 groups members := by kernel_rfl
theorem za1 (k0 : Nat) (f0 : Int) (f1 f2 : List U5) (f : Int) (f3 f4 : List U5) (groups members : List U7) : K1 (R := ((List U7) × (List U7) × Unit)) k0 (finK Tryz.prog [.tmp 2, .tmp 3] ins_impl_Farm_shares outs_impl_Farm_shares (f0, f1, f2, ())) (.exit 2) [(1, .ptr 0 0 0 0), (4, .own 1), (5, .own 2)] [.box [.int .i64 f, .sl ct2 f3, .sl ct2 f4], .arr ct6 groups, .arr ct6 members] = A1 (L2 (R := ((List U7) × (List U7) × Unit)) k0 k0 (K2 (R := ((List U7) × (List U7) × Unit)) k0 ((finK Tryz.prog [.tmp 2, .tmp 3] ins_impl_Farm_shares outs_impl_Farm_shares (f0, f1, f2, ()))))) f0 f1 f2 f f3 f4 groups members := by kernel_rfl
theorem za2 (k0 : Nat) (f0 : Int) (f1 f2 : List U5) (groups members : List U7) : K2 (R := ((List U7) × (List U7) × Unit)) k0 (finK Tryz.prog [.tmp 2, .tmp 3] ins_impl_Farm_shares outs_impl_Farm_shares (f0, f1, f2, ())) (.exit 4) [(4, .own 0), (5, .own 1)] [.arr ct6 groups, .arr ct6 members] = A2  f0 f1 f2 groups members := by kernel_rfl
theorem ztop (k0 : Nat) (f0 : Int) (f1 f2 : List U5) : runFn Tryz.prog ztbl zcfg k0 71 ins_impl_Farm_shares outs_impl_Farm_shares [] (f0, f1, f2, ()) = T (L0 (R := ((List U7) × (List U7) × Unit)) k0 k0 (K0 (R := ((List U7) × (List U7) × Unit)) k0 ((finK Tryz.prog [.tmp 2, .tmp 3] ins_impl_Farm_shares outs_impl_Farm_shares (f0, f1, f2, ()))))) f0 f1 f2 := by kernel_rfl
noncomputable def G0 {R : Type} (k0 : Nat) (hx0 : (Int → (List U5) → (List U5) → (List U7) → (List U7) → Option R)) : Nat → (List U5) → Int → Int → Int → (List U5) → (List U5) → (List U7) → (List U7) → Option R
 | 0, _, _, _, _, _, _, _, _ => none
 | k + 1, t15x, t16x, t17x, f, f3, f4, groups, members => R0 (G0 k0 hx0 k) hx0 t15x t16x t17x f f3 f4 groups members
theorem zg0 {R : Type} (k0 : Nat) (K : Kont R) : ∀ k : Nat, L0 k0 k K = G0 k0 (fun f f3 f4 groups members => K (.exit 0) [(1, .ptr 0 0 0 0), (4, .own 1), (5, .own 2)] [.box [.int .i64 f, .sl ct2 f3, .sl ct2 f4], .arr ct6 groups, .arr ct6 members]) k := by
 intro k
 induction k with
 | zero => funext t15x t16x t17x f f3 f4 groups members; rfl
 | succ k ih => funext t15x t16x t17x f f3 f4 groups members; rw [zs0, G0]; (try simp only [ih]); try rfl
noncomputable def G1 {R : Type} (k0 : Nat) (hx1 : (Int → (List U5) → (List U5) → (List U7) → (List U7) → Option R)) : Nat → (List U5) → Int → Int → Int → (List U5) → (List U5) → (List U7) → (List U7) → Option R
 | 0, _, _, _, _, _, _, _, _ => none
 | k + 1, t29x, t30x, t31x, f, f3, f4, groups, members => R1 (G1 k0 hx1 k) hx1 t29x t30x t31x f f3 f4 groups members
theorem zg1 {R : Type} (k0 : Nat) (K : Kont R) : ∀ k : Nat, L1 k0 k K = G1 k0 (fun f f3 f4 groups members => K (.exit 2) [(1, .ptr 0 0 0 0), (4, .own 1), (5, .own 2)] [.box [.int .i64 f, .sl ct2 f3, .sl ct2 f4], .arr ct6 groups, .arr ct6 members]) k := by
 intro k
 induction k with
 | zero => funext t29x t30x t31x f f3 f4 groups members; rfl
 | succ k ih => funext t29x t30x t31x f f3 f4 groups members; rw [zs1, G1]; (try simp only [ih, zg0]); try rfl
noncomputable def G2 {R : Type} (k0 : Nat) (hx2 : ((List U7) → (List U7) → Option R)) : Nat → (List U5) → Int → Int → Int → (List U5) → (List U5) → (List U7) → (List U7) → Option R
 | 0, _, _, _, _, _, _, _, _ => none
 | k + 1, t49x, t50x, t51x, f, f3, f4, groups, members => R2 (G2 k0 hx2 k) hx2 t49x t50x t51x f f3 f4 groups members
theorem zg2 {R : Type} (k0 : Nat) (K : Kont R) : ∀ k : Nat, L2 k0 k K = G2 k0 (fun groups members => K (.exit 4) [(4, .own 0), (5, .own 1)] [.arr ct6 groups, .arr ct6 members]) k := by
 intro k
 induction k with
 | zero => funext t49x t50x t51x f f3 f4 groups members; rfl
 | succ k ih => funext t49x t50x t51x f f3 f4 groups members; rw [zs2, G2]; (try simp only [ih, zg0, zg1]); try rfl
noncomputable def FF (k0 : Nat) (f0 : Int) (f1 f2 : List U5) : Option ((List U7) × (List U7) × Unit) := T (G0 k0 (A0 (G1 k0 (A1 (G2 k0 (A2  f0 f1 f2) k0) f0 f1 f2) k0) f0 f1 f2) k0) f0 f1 f2
theorem zrun (k0 : Nat) (f0 : Int) (f1 f2 : List U5) : runFn Tryz.prog ztbl zcfg k0 71 ins_impl_Farm_shares outs_impl_Farm_shares [] (f0, f1, f2, ()) = FF k0 f0 f1 f2 := by
 rw [ztop, FF]; (try simp only [zg0, zg1, zg2, za0, za1, za2]); try rfl
noncomputable def _root_.Go.Rv.F_impl_Farm_shares : U1 → Option ((List U7) × (List U7) × Unit) := fun x => (fun (f0 : Int) (f1 f2 : List U5) => FF (300 + f1.length + f2.length) f0 f1 f2) x.1 x.2.1 x.2.2.1
noncomputable abbrev _root_.Go.Rv.S_impl_Farm_shares : Summ := ⟨ins_impl_Farm_shares, outs_impl_Farm_shares, F_impl_Farm_shares, []⟩
theorem _root_.Go.Rv.ok_impl_Farm_shares : SumOK KN Tryz.prog 71 S_impl_Farm_shares := runFn_ok (by kernel_rfl) (tblL_ok (.cons ok_impl_Farm_pour .nil)) (by kernel_rfl) fun x y h => ⟨zcfg, _, (zrun _ x.1 x.2.1 x.2.2.1).trans h⟩
end impl_Farm_shares
abbrev ins_impl_Server_rows : List Par := [.v true ct3]
abbrev outs_impl_Server_rows : List (Bool × List CT) := [(false, [CT.sl ct5])]
namespace impl_Server_rows
/-! ### (loop.example/g00095/impl.Server).rows (function 48) -/
noncomputable def ztbl : Tbl := tblL [(71, [], S_impl_Farm_shares)]
noncomputable def zbody : Code := ((Tryz.prog.funcs[48]?).bind (·.body)).getD .skip
def zcfg : Nat → List Nat × List Nat := fun k => if k = 4 then ([1, 4, 5, 17, 18, 19], [5]) else ([], [])
noncomputable def R0 {R : Type} (nx0 : ((List U5) → Int → Int → Int → Int → Int → Int → (List U5) → (List U5) → (List U6) → (List U7) → (List U3) → Option R)) (ex0 : ((List U3) → Option R)) (t17x : List U5) (t18x t19x s s7 s8 s9 : Int) (s10 s11 : List U5) (s12 : List U6) (shares : List U7) (out : List U3) : Option R := cond (decide (t19x < t18x)) (if 0 ≤ t19x ∧ t19x < (t17x.length : Int) then if 0 ≤ t19x ∧ t19x < (shares.length : Int) then if 0 ≤ t19x ∧ t19x < (s12.length : Int) then if 0 ≤ t19x ∧ t19x < (s12.length : Int) then if out.length + [((rd (0, 0, 0, 0, ()) t17x t19x).1, (rd (0, 0, 0, 0, ()) t17x t19x).2.1, (rd (0, 0, 0, 0, ()) t17x t19x).2.2.1, (shares.getD t19x.toNat (0, 0, ())).2.1, (rd (0, 0, 0, ()) s12 t19x).2.1, (w64 ((rd (0, 0, 0, ()) s12 t19x).2.2.1 - s8)), ())].length ≤ maxRow then nx0 t17x t18x (w64 (t19x + 1)) s s7 s8 s9 s10 s11 s12 shares (out ++ [((rd (0, 0, 0, 0, ()) t17x t19x).1, (rd (0, 0, 0, 0, ()) t17x t19x).2.1, (rd (0, 0, 0, 0, ()) t17x t19x).2.2.1, (shares.getD t19x.toNat (0, 0, ())).2.1, (rd (0, 0, 0, ()) s12 t19x).2.1, (w64 ((rd (0, 0, 0, ()) s12 t19x).2.2.1 - s8)), ())]) else none else none else none else none else none) (ex0 out)
noncomputable def A0  (s0 s1 s2 s3 : Int) (s4 s5 : List U5) (s6 : List U6) (out : List U3) : Option ((List U3) × Unit) := some (out, ())
noncomputable def T (lo0 : ((List U5) → Int → Int → Int → Int → Int → Int → (List U5) → (List U5) → (List U6) → (List U7) → (List U3) → Option ((List U3) × Unit))) (s0 s1 s2 s3 : Int) (s4 s5 : List U5) (s6 : List U6) : Option ((List U3) × Unit) := (F_impl_Farm_shares (s3, s4, s5, ())).bind fun y1 => lo0 s5 (s5.length : Int) 0 s0 s1 s2 s3 s4 s5 s6 y1.2.1 ([] : List U3)
noncomputable def zst0 {R : Type} (k0 : Nat) : Env → List Ob → Kont R → Option R := fun env ob K => runCode Tryz.prog ztbl 56 0 zcfg k0 (codeAt [1, 1, 1, 0, 1, 0, 0] zbody) env ob K
noncomputable def K0 {R : Type} (k0 : Nat) (K : Kont R) : Kont R := blockK 0 (seqK (fun env ob => runCode Tryz.prog ztbl 56 0 zcfg k0 (codeAt [1, 1, 1, 1] zbody) env ob (K)) (K))
noncomputable def L0 {R : Type} (k0 k : Nat) (K : Kont R) (t17x : List U5) (t18x t19x s s7 s8 s9 : Int) (s10 s11 : List U5) (s12 : List U6) (shares : List U7) (out : List U3) : Option R := iter 0 [1, 4, 5, 17, 18, 19] [5] (zst0 k0) k [(1, .ptr 0 0 0 0), (4, .own 1), (5, .own 2), (17, .sl ct2 t17x), (18, .int .i64 t18x), (19, .int .i64 t19x)] [.box [.int .i64 s, .int .i64 s7, .int .i64 s8, .int .i64 s9, .sl ct2 s10, .sl ct2 s11, .sl ct0 s12], .arr ct6 shares, .arr ct5 out] K
theorem zs0 {R : Type} (k0 k : Nat) (K : Kont R) (t17x : List U5) (t18x t19x s s7 s8 s9 : Int) (s10 s11 : List U5) (s12 : List U6) (shares : List U7) (out : List U3) : L0 k0 (k + 1) K t17x t18x t19x s s7 s8 s9 s10 s11 s12 shares out = R0 (L0 k0 k K) (fun out => K (.exit 0) [(5, .own 0)] [.arr ct5 out]) t17x t18x t19x s s7 s8 s9 s10 s11 s12 shares out := by kernel_rfl
theorem za0 (k0 : Nat) (s0 s1 s2 s3 : Int) (s4 s5 : List U5) (s6 : List U6) (out : List U3) : K0 (R := ((List U3) × Unit)) k0 (finK Tryz.prog [.tmp 2] ins_impl_Server_rows outs_impl_Server_rows (s0, s1, s2, s3, s4, s5, s6, ())) (.exit 0) [(5, .own 0)] [.arr ct5 out] = A0  s0 s1 s2 s3 s4 s5 s6 out := by kernel_rfl
theorem ztop (k0 : Nat) (s0 s1 s2 s3 : Int) (s4 s5 : List U5) (s6 : List U6) : runFn Tryz.prog ztbl zcfg k0 48 ins_impl_Server_rows outs_impl_Server_rows [] (s0, s1, s2, s3, s4, s5, s6, ()) = T (L0 (R := ((List U3) × Unit)) k0 k0 (K0 (R := ((List U3) × Unit)) k0 ((finK Tryz.prog [.tmp 2] ins_impl_Server_rows outs_impl_Server_rows (s0, s1, s2, s3, s4, s5, s6, ()))))) s0 s1 s2 s3 s4 s5 s6 := by kernel_rfl
noncomputable def G0 {R : Type} (k0 : Nat) (hx0 : ((List U3) → Option R)) : Nat → (List U5) → Int → Int → Int → Int → Int → Int → (List U5) → (List U5) → (List U6) → (List U7) → (List U3) → Option R
 | 0, _, _, _, _, _, _, _, _, _, _, _, _ => none
 | k + 1, t17x, t18x, t19x, s, s7, s8, s9, s10, s11, s12, shares, out => R0 (G0 k0 hx0 k) hx0 t17x t18x t19x s s7 s8 s9 s10 s11 s12 shares out
theorem zg0 {R : Type} (k0 : Nat) (K : Kont R) : ∀ k : Nat, L0 k0 k K = G0 k0 (fun out => K (.exit 0) [(5, .own 0)] [.arr ct5 out]) k := by
 intro k
 induction k with
 | zero => funext t17x t18x t19x s s7 s8 s9 s10 s11 s12 shares out; rfl
 | succ k ih => funext t17x t18x t19x s s7 s8 s9 s10 s11 s12 shares out; rw [zs0, G0]; (try simp only [ih]); try rfl
noncomputable def FF (k0 : Nat) (s0 s1 s2 s3 : Int) (s4 s5 : List U5) (s6 : List U6) : Option ((List U3) × Unit) := T (G0 k0 (A0  s0 s1 s2 s3 s4 s5 s6) k0) s0 s1 s2 s3 s4 s5 s6
theorem zrun (k0 : Nat) (s0 s1 s2 s3 : Int) (s4 s5 : List U5) (s6 : List U6) : runFn Tryz.prog ztbl zcfg k0 48 ins_impl_Server_rows outs_impl_Server_rows [] (s0, s1, s2, s3, s4, s5, s6, ()) = FF k0 s0 s1 s2 s3 s4 s5 s6 := by
 rw [ztop, FF]; (try simp only [zg0, za0]); try rfl
noncomputable def _root_.Go.Rv.F_impl_Server_rows : U0 → Option ((List U3) × Unit) := fun x => (fun (s0 s1 s2 s3 : Int) (s4 s5 : List U5) (s6 : List U6) => FF (300 + s4.length + s5.length + s6.length) s0 s1 s2 s3 s4 s5 s6) x.1 x.2.1 x.2.2.1 x.2.2.2.1 x.2.2.2.2.1 x.2.2.2.2.2.1 x.2.2.2.2.2.2.1
noncomputable abbrev _root_.Go.Rv.S_impl_Server_rows : Summ := ⟨ins_impl_Server_rows, outs_impl_Server_rows, F_impl_Server_rows, []⟩
theorem _root_.Go.Rv.ok_impl_Server_rows : SumOK KN Tryz.prog 48 S_impl_Server_rows := runFn_ok (by kernel_rfl) (tblL_ok (.cons ok_impl_Farm_shares .nil)) (by kernel_rfl) fun x y h => ⟨zcfg, _, (zrun _ x.1 x.2.1 x.2.2.1 x.2.2.2.1 x.2.2.2.2.1 x.2.2.2.2.2.1 x.2.2.2.2.2.2.1).trans h⟩
end impl_Server_rows
abbrev ins_impl_dec : List Par := [.v false [CT.int .i64]]
abbrev outs_impl_dec : List (Bool × List CT) := [(false, [CT.str])]
namespace impl_dec
/-! ### loop.example/g00095/impl.dec (function 50) -/
noncomputable def ztbl : Tbl := tblL [(83, [], ⟨ins_strconv_FormatInt, outs_strconv_FormatInt, F_strconv_FormatInt, []⟩)]
noncomputable def zbody : Code := ((Tryz.prog.funcs[50]?).bind (·.body)).getD .skip
def zcfg : Nat → List Nat × List Nat := fun k => ([], [])
noncomputable def T  (n : Int) : Option (ByteArray × Unit) := (F_strconv_FormatInt (n, 10, ())).bind fun y1 => some (y1.1, ())
theorem ztop (k0 : Nat) (n : Int) : runFn Tryz.prog ztbl zcfg k0 50 ins_impl_dec outs_impl_dec [] (n, ()) = T  n := by kernel_rfl
noncomputable def _root_.Go.Rv.F_impl_dec : Int × Unit → Option (ByteArray × Unit) := fun x => T x.1
noncomputable abbrev _root_.Go.Rv.S_impl_dec : Summ := ⟨ins_impl_dec, outs_impl_dec, F_impl_dec, []⟩
theorem _root_.Go.Rv.ok_impl_dec : SumOK KN Tryz.prog 50 S_impl_dec := runFn_ok (by kernel_rfl) (tblL_ok (.cons ok_strconv_FormatInt .nil)) (by kernel_rfl) fun x y h => ⟨zcfg, 0, (ztop 0 x.1).trans h⟩
end impl_dec
abbrev ins_impl_spaced : List Par := [.v false [CT.sl [CT.int .i64]]]
abbrev outs_impl_spaced : List (Bool × List CT) := [(false, [CT.str])]
namespace impl_spaced
/-! ### loop.example/g00095/impl.spaced (function 49) -/
noncomputable def ztbl : Tbl := tblL [(50, [], S_impl_dec)]
noncomputable def zbody : Code := ((Tryz.prog.funcs[49]?).bind (·.body)).getD .skip
def zcfg : Nat → List Nat × List Nat := fun k => if k = 3 then ([3, 6, 7, 8], [3]) else ([], [])
noncomputable def R0 {R : Type} (nx0 : (ByteArray → (List (Int × Unit)) → Int → Int → Option R)) (ex0 : (ByteArray → Option R)) (out : ByteArray) (t6x : List (Int × Unit)) (t7x t8x : Int) : Option R := cond (decide (t8x < t7x)) (if 0 ≤ t8x ∧ t8x < (t6x.length : Int) then cond (decide (t8x > 0)) (if out.size + (strLit [32]).size ≤ 9223372036854775807 then (F_impl_dec ((rd (0, ()) t6x t8x).1, ())).bind fun y1 => if (out ++ (strLit [32])).size + y1.1.size ≤ 9223372036854775807 then nx0 ((out ++ (strLit [32])) ++ y1.1) t6x t7x (w64 (t8x + 1)) else none else none) ((F_impl_dec ((rd (0, ()) t6x t8x).1, ())).bind fun y2 => if out.size + y2.1.size ≤ 9223372036854775807 then nx0 (out ++ y2.1) t6x t7x (w64 (t8x + 1)) else none) else none) (ex0 out)
noncomputable def A0  (list : List (Int × Unit)) (out : ByteArray) : Option (ByteArray × Unit) := some (out, ())
noncomputable def T (lo0 : (ByteArray → (List (Int × Unit)) → Int → Int → Option (ByteArray × Unit))) (list : List (Int × Unit)) : Option (ByteArray × Unit) := lo0 (strLit []) list (list.length : Int) 0
noncomputable def zst0 {R : Type} (k0 : Nat) : Env → List Ob → Kont R → Option R := fun env ob K => runCode Tryz.prog ztbl 23 0 zcfg k0 (codeAt [1, 1, 0, 1, 0, 0] zbody) env ob K
noncomputable def K0 {R : Type} (k0 : Nat) (K : Kont R) : Kont R := blockK 0 (seqK (fun env ob => runCode Tryz.prog ztbl 23 0 zcfg k0 (codeAt [1, 1, 1] zbody) env ob (K)) (K))
noncomputable def L0 {R : Type} (k0 k : Nat) (K : Kont R) (out : ByteArray) (t6x : List (Int × Unit)) (t7x t8x : Int) : Option R := iter 0 [3, 6, 7, 8] [3] (zst0 k0) k [(3, .str out), (6, .sl [CT.int .i64] t6x), (7, .int .i64 t7x), (8, .int .i64 t8x)] [] K
theorem zs0 {R : Type} (k0 k : Nat) (K : Kont R) (out : ByteArray) (t6x : List (Int × Unit)) (t7x t8x : Int) : L0 k0 (k + 1) K out t6x t7x t8x = R0 (L0 k0 k K) (fun out => K (.exit 0) [(3, .str out)] []) out t6x t7x t8x := by kernel_rfl
theorem za0 (k0 : Nat) (list : List (Int × Unit)) (out : ByteArray) : K0 (R := (ByteArray × Unit)) k0 (finK Tryz.prog [.tmp 2] ins_impl_spaced outs_impl_spaced (list, ())) (.exit 0) [(3, .str out)] [] = A0  list out := by kernel_rfl
theorem ztop (k0 : Nat) (list : List (Int × Unit)) : runFn Tryz.prog ztbl zcfg k0 49 ins_impl_spaced outs_impl_spaced [] (list, ()) = T (L0 (R := (ByteArray × Unit)) k0 k0 (K0 (R := (ByteArray × Unit)) k0 ((finK Tryz.prog [.tmp 2] ins_impl_spaced outs_impl_spaced (list, ()))))) list := by kernel_rfl
noncomputable def G0 {R : Type} (k0 : Nat) (hx0 : (ByteArray → Option R)) : Nat → ByteArray → (List (Int × Unit)) → Int → Int → Option R
 | 0, _, _, _, _ => none
 | k + 1, out, t6x, t7x, t8x => R0 (G0 k0 hx0 k) hx0 out t6x t7x t8x
theorem zg0 {R : Type} (k0 : Nat) (K : Kont R) : ∀ k : Nat, L0 k0 k K = G0 k0 (fun out => K (.exit 0) [(3, .str out)] []) k := by
 intro k
 induction k with
 | zero => funext out t6x t7x t8x; rfl
 | succ k ih => funext out t6x t7x t8x; rw [zs0, G0]; (try simp only [ih]); try rfl
noncomputable def FF (k0 : Nat) (list : List (Int × Unit)) : Option (ByteArray × Unit) := T (G0 k0 (A0  list) k0) list
theorem zrun (k0 : Nat) (list : List (Int × Unit)) : runFn Tryz.prog ztbl zcfg k0 49 ins_impl_spaced outs_impl_spaced [] (list, ()) = FF k0 list := by
 rw [ztop, FF]; (try simp only [zg0, za0]); try rfl
noncomputable def _root_.Go.Rv.F_impl_spaced : (List (Int × Unit)) × Unit → Option (ByteArray × Unit) := fun x => (fun (list : List (Int × Unit)) => FF (300 + list.length) list) x.1
noncomputable abbrev _root_.Go.Rv.S_impl_spaced : Summ := ⟨ins_impl_spaced, outs_impl_spaced, F_impl_spaced, []⟩
theorem _root_.Go.Rv.ok_impl_spaced : SumOK KN Tryz.prog 49 S_impl_spaced := runFn_ok (by kernel_rfl) (tblL_ok (.cons ok_impl_dec .nil)) (by kernel_rfl) fun x y h => ⟨zcfg, _, (zrun _ x.1).trans h⟩
end impl_spaced
abbrev ins_impl_leased : List Par := [.v false [CT.sl ct0], .v false [CT.int .i64], .v false [CT.int .i64]]
abbrev outs_impl_leased : List (Bool × List CT) := [(false, [CT.int .i64])]
namespace impl_leased
/-! ### loop.example/g00095/impl.leased (function 84) -/
noncomputable def ztbl : Tbl := tblL []
noncomputable def zbody : Code := ((Tryz.prog.funcs[84]?).bind (·.body)).getD .skip
def zcfg : Nat → List Nat × List Nat := fun k => if k = 3 then ([1, 2, 7, 10, 11, 12], [7]) else ([], [])
noncomputable def R0 {R : Type} (nx0 : (Int → Int → Int → (List U6) → Int → Int → Option R)) (ex0 : (Int → Option R)) (now2 id2 sum : Int) (t10x : List U6) (t11x t12x : Int) : Option R := cond (decide (t12x < t11x)) (if 0 ≤ t12x ∧ t12x < (t10x.length : Int) then cond (decide ((rd (0, 0, 0, ()) t10x t12x).2.2.1 > now2)) (cond ((rd (0, 0, 0, ()) t10x t12x).1 != id2) (nx0 now2 id2 (w64 (sum + (rd (0, 0, 0, ()) t10x t12x).2.1)) t10x t11x (w64 (t12x + 1))) (nx0 now2 id2 sum t10x t11x (w64 (t12x + 1)))) (nx0 now2 id2 sum t10x t11x (w64 (t12x + 1))) else none) (ex0 sum)
noncomputable def A0  (list : List U6) (now id : Int) (sum : Int) : Option (Int × Unit) := some (sum, ())
noncomputable def T (lo0 : (Int → Int → Int → (List U6) → Int → Int → Option (Int × Unit))) (list : List U6) (now id : Int) : Option (Int × Unit) := lo0 now id 0 list (list.length : Int) 0
noncomputable def zst0 {R : Type} (k0 : Nat) : Env → List Ob → Kont R → Option R := fun env ob K => runCode Tryz.prog ztbl 32 0 zcfg k0 (codeAt [1, 1, 0, 1, 0, 0] zbody) env ob K
noncomputable def K0 {R : Type} (k0 : Nat) (K : Kont R) : Kont R := blockK 0 (seqK (fun env ob => runCode Tryz.prog ztbl 32 0 zcfg k0 (codeAt [1, 1, 1] zbody) env ob (K)) (K))
noncomputable def L0 {R : Type} (k0 k : Nat) (K : Kont R) (now2 id2 sum : Int) (t10x : List U6) (t11x t12x : Int) : Option R := iter 0 [1, 2, 7, 10, 11, 12] [7] (zst0 k0) k [(1, .int .i64 now2), (2, .int .i64 id2), (7, .int .i64 sum), (10, .sl ct0 t10x), (11, .int .i64 t11x), (12, .int .i64 t12x)] [] K
theorem zs0 {R : Type} (k0 k : Nat) (K : Kont R) (now2 id2 sum : Int) (t10x : List U6) (t11x t12x : Int) : L0 k0 (k + 1) K now2 id2 sum t10x t11x t12x = R0 (L0 k0 k K) (fun sum => K (.exit 0) [(7, .int .i64 sum)] []) now2 id2 sum t10x t11x t12x := by kernel_rfl
theorem za0 (k0 : Nat) (list : List U6) (now id : Int) (sum : Int) : K0 (R := (Int × Unit)) k0 (finK Tryz.prog [.tmp 6] ins_impl_leased outs_impl_leased (list, now, id, ())) (.exit 0) [(7, .int .i64 sum)] [] = A0  list now id sum := by kernel_rfl
theorem ztop (k0 : Nat) (list : List U6) (now id : Int) : runFn Tryz.prog ztbl zcfg k0 84 ins_impl_leased outs_impl_leased [] (list, now, id, ()) = T (L0 (R := (Int × Unit)) k0 k0 (K0 (R := (Int × Unit)) k0 ((finK Tryz.prog [.tmp 6] ins_impl_leased outs_impl_leased (list, now, id, ()))))) list now id := by kernel_rfl
noncomputable def G0 {R : Type} (k0 : Nat) (hx0 : (Int → Option R)) : Nat → Int → Int → Int → (List U6) → Int → Int → Option R
 | 0, _, _, _, _, _, _ => none
 | k + 1, now2, id2, sum, t10x, t11x, t12x => R0 (G0 k0 hx0 k) hx0 now2 id2 sum t10x t11x t12x
theorem zg0 {R : Type} (k0 : Nat) (K : Kont R) : ∀ k : Nat, L0 k0 k K = G0 k0 (fun sum => K (.exit 0) [(7, .int .i64 sum)] []) k := by
 intro k
 induction k with
 | zero => funext now2 id2 sum t10x t11x t12x; rfl
 | succ k ih => funext now2 id2 sum t10x t11x t12x; rw [zs0, G0]; (try simp only [ih]); try rfl
noncomputable def FF (k0 : Nat) (list : List U6) (now id : Int) : Option (Int × Unit) := T (G0 k0 (A0  list now id) k0) list now id
theorem zrun (k0 : Nat) (list : List U6) (now id : Int) : runFn Tryz.prog ztbl zcfg k0 84 ins_impl_leased outs_impl_leased [] (list, now, id, ()) = FF k0 list now id := by
 rw [ztop, FF]; (try simp only [zg0, za0]); try rfl
noncomputable def _root_.Go.Rv.F_impl_leased : (List U6) × U7 → Option (Int × Unit) := fun x => (fun (list : List U6) (now id : Int) => FF (300 + list.length) list now id) x.1 x.2.1 x.2.2.1
noncomputable abbrev _root_.Go.Rv.S_impl_leased : Summ := ⟨ins_impl_leased, outs_impl_leased, F_impl_leased, []⟩
theorem _root_.Go.Rv.ok_impl_leased : SumOK Dr Tryz.prog 84 S_impl_leased := runFn_ok (by kernel_rfl) (tblL_ok .nil) (by kernel_rfl) fun x y h => ⟨zcfg, _, (zrun _ x.1 x.2.1 x.2.2.1).trans h⟩
end impl_leased
abbrev ins_impl_Server_free : List Par := [.v true ct3]
abbrev outs_impl_Server_free : List (Bool × List CT) := [(false, [CT.int .i64])]
namespace impl_Server_free
/-! ### (loop.example/g00095/impl.Server).free (function 51) -/
noncomputable def ztbl : Tbl := tblL [(84, [], S_impl_leased)]
noncomputable def zbody : Code := ((Tryz.prog.funcs[51]?).bind (·.body)).getD .skip
def zcfg : Nat → List Nat × List Nat := fun k => ([], [])
noncomputable def T  (s0 s1 s2 s3 : Int) (s4 s5 : List U5) (s6 : List U6) : Option (Int × Unit) := (F_impl_leased (s6, s2, 0, ())).bind fun y1 => some ((mx (w64 (s3 - y1.1)) 0), ())
theorem ztop (k0 : Nat) (s0 s1 s2 s3 : Int) (s4 s5 : List U5) (s6 : List U6) : runFn Tryz.prog ztbl zcfg k0 51 ins_impl_Server_free outs_impl_Server_free [] (s0, s1, s2, s3, s4, s5, s6, ()) = T  s0 s1 s2 s3 s4 s5 s6 := by kernel_rfl
noncomputable def _root_.Go.Rv.F_impl_Server_free : U0 → Option (Int × Unit) := fun x => T x.1 x.2.1 x.2.2.1 x.2.2.2.1 x.2.2.2.2.1 x.2.2.2.2.2.1 x.2.2.2.2.2.2.1
noncomputable abbrev _root_.Go.Rv.S_impl_Server_free : Summ := ⟨ins_impl_Server_free, outs_impl_Server_free, F_impl_Server_free, []⟩
theorem _root_.Go.Rv.ok_impl_Server_free : SumOK Dr Tryz.prog 51 S_impl_Server_free := runFn_ok (by kernel_rfl) (tblL_ok (.cons ok_impl_leased .nil)) (by kernel_rfl) fun x y h => ⟨zcfg, 0, (ztop 0 x.1 x.2.1 x.2.2.1 x.2.2.2.1 x.2.2.2.2.1 x.2.2.2.2.2.1 x.2.2.2.2.2.2.1).trans h⟩
end impl_Server_free
abbrev ins_impl_Server_report : List Par := [.v true ct3]
abbrev outs_impl_Server_report : List (Bool × List CT) := [(false, [CT.str])]
namespace impl_Server_report
/-! ### (loop.example/g00095/impl.Server).report (function 22) -/
noncomputable def ztbl : Tbl := tblL [(48, [], S_impl_Server_rows), (49, [], S_impl_spaced), (50, [], S_impl_dec), (51, [], S_impl_Server_free)]
noncomputable def zbody : Code := ((Tryz.prog.funcs[22]?).bind (·.body)).getD .skip
def zcfg : Nat → List Nat × List Nat := fun k => if k = 3 then ([1, 3, 7, 8, 9], [1, 3]) else ([], [])
noncomputable def R0 {R : Type} (nx0 : (ByteArray → Int → Int → Int → Int → Int → Int → (List U5) → (List U5) → (List U6) → (List U3) → Option R)) (ex0 : (ByteArray → Int → Int → Int → Int → (List U5) → (List U5) → (List U6) → Option R)) (out : ByteArray) (t8x t9x s s7 s8 s9 : Int) (s10 s11 : List U5) (s12 : List U6) (t7x : List U3) : Option R := cond (decide (t9x < t8x)) (if 0 ≤ t9x ∧ t9x < (t7x.length : Int) then (F_impl_spaced ([((t7x.getD t9x.toNat (0, 0, 0, 0, 0, 0, ())).1, ()), ((t7x.getD t9x.toNat (0, 0, 0, 0, 0, 0, ())).2.1, ()), ((t7x.getD t9x.toNat (0, 0, 0, 0, 0, 0, ())).2.2.1, ()), ((t7x.getD t9x.toNat (0, 0, 0, 0, 0, 0, ())).2.2.2.1, ()), ((t7x.getD t9x.toNat (0, 0, 0, 0, 0, 0, ())).2.2.2.2.1, ()), ((t7x.getD t9x.toNat (0, 0, 0, 0, 0, 0, ())).2.2.2.2.2.1, ())], ())).bind fun y1 => if y1.1.size + (strLit [10]).size ≤ 9223372036854775807 then if out.size + (y1.1 ++ (strLit [10])).size ≤ 9223372036854775807 then nx0 (out ++ (y1.1 ++ (strLit [10]))) t8x (w64 (t9x + 1)) s s7 s8 s9 s10 s11 s12 t7x else none else none else none) (ex0 out s s7 s8 s9 s10 s11 s12)
noncomputable def A0  (s0 s1 s2 s3 : Int) (s4 s5 : List U5) (s6 : List U6) (out : ByteArray) (s s7 s8 s9 : Int) (s10 s11 : List U5) (s12 : List U6) : Option (ByteArray × Unit) := if out.size + (strLit [102, 114, 101, 101, 32]).size ≤ 9223372036854775807 then (F_impl_Server_free (s, s7, s8, s9, s10, s11, s12, ())).bind fun y1 => (F_impl_dec (y1.1, ())).bind fun y2 => if (out ++ (strLit [102, 114, 101, 101, 32])).size + y2.1.size ≤ 9223372036854775807 then if ((out ++ (strLit [102, 114, 101, 101, 32])) ++ y2.1).size + (strLit [32, 111, 102, 32]).size ≤ 9223372036854775807 then (F_impl_dec (s9, ())).bind fun y3 => if (((out ++ (strLit [102, 114, 101, 101, 32])) ++ y2.1) ++ (strLit [32, 111, 102, 32])).size + y3.1.size ≤ 9223372036854775807 then if ((((out ++ (strLit [102, 114, 101, 101, 32])) ++ y2.1) ++ (strLit [32, 111, 102, 32])) ++ y3.1).size + (strLit [10]).size ≤ 9223372036854775807 then some ((((((out ++ (strLit [102, 114, 101, 101, 32])) ++ y2.1) ++ (strLit [32, 111, 102, 32])) ++ y3.1) ++ (strLit [10])), ()) else none else none else none else none else none
noncomputable def T (lo0 : (ByteArray → Int → Int → Int → Int → Int → Int → (List U5) → (List U5) → (List U6) → (List U3) → Option (ByteArray × Unit))) (s0 s1 s2 s3 : Int) (s4 s5 : List U5) (s6 : List U6) : Option (ByteArray × Unit) := (F_impl_Server_rows (s0, s1, s2, s3, s4, s5, s6, ())).bind fun y1 => lo0 (strLit []) (y1.1.length : Int) 0 s0 s1 s2 s3 s4 s5 s6 y1.1
noncomputable def zst0 {R : Type} (k0 : Nat) : Env → List Ob → Kont R → Option R := fun env ob K => runCode Tryz.prog ztbl 44 0 zcfg k0 (codeAt [1, 1, 0, 1, 0, 0] zbody) env ob K
noncomputable def K0 {R : Type} (k0 : Nat) (K : Kont R) : Kont R := blockK 0 (seqK (fun env ob => runCode Tryz.prog ztbl 44 0 zcfg k0 (codeAt [1, 1, 1] zbody) env ob (K)) (K))
noncomputable def L0 {R : Type} (k0 k : Nat) (K : Kont R) (out : ByteArray) (t8x t9x s s7 s8 s9 : Int) (s10 s11 : List U5) (s12 : List U6) (t7x : List U3) : Option R := iter 0 [1, 3, 7, 8, 9] [1, 3] (zst0 k0) k [(1, .ptr 0 0 0 0), (3, .str out), (7, .own 1), (8, .int .i64 t8x), (9, .int .i64 t9x)] [.box [.int .i64 s, .int .i64 s7, .int .i64 s8, .int .i64 s9, .sl ct2 s10, .sl ct2 s11, .sl ct0 s12], .arr ct5 t7x] K
theorem zs0 {R : Type} (k0 k : Nat) (K : Kont R) (out : ByteArray) (t8x t9x s s7 s8 s9 : Int) (s10 s11 : List U5) (s12 : List U6) (t7x : List U3) : L0 k0 (k + 1) K out t8x t9x s s7 s8 s9 s10 s11 s12 t7x = R0 (L0 k0 k K) (fun out s s7 s8 s9 s10 s11 s12 => K (.exit 0) [(1, .ptr 0 0 0 0), (3, .str out)] [.box [.int .i64 s, .int .i64 s7, .int .i64 s8, .int .i64 s9, .sl ct2 s10, .sl ct2 s11, .sl ct0 s12]]) out t8x t9x s s7 s8 s9 s10 s11 s12 t7x := by kernel_rfl
theorem za0 (k0 : Nat) (s0 s1 s2 s3 : Int) (s4 s5 : List U5) (s6 : List U6) (out : ByteArray) (s s7 s8 s9 : Int) (s10 s11 : List U5) (s12 : List U6) : K0 (R := (ByteArray × Unit)) k0 (finK Tryz.prog [.tmp 2] ins_impl_Server_report outs_impl_Server_report (s0, s1, s2, s3, s4, s5, s6, ())) (.exit 0) [(1, .ptr 0 0 0 0), (3, .str out)] [.box [.int .i64 s, .int .i64 s7, .int .i64 s8, .int .i64 s9, .sl ct2 s10, .sl ct2 s11, .sl ct0 s12]] = A0  s0 s1 s2 s3 s4 s5 s6 out s s7 s8 s9 s10 s11 s12 := by kernel_rfl
theorem ztop (k0 : Nat) (s0 s1 s2 s3 : Int) (s4 s5 : List U5) (s6 : List U6) : runFn Tryz.prog ztbl zcfg k0 22 ins_impl_Server_report outs_impl_Server_report [] (s0, s1, s2, s3, s4, s5, s6, ()) = T (L0 (R := (ByteArray × Unit)) k0 k0 (K0 (R := (ByteArray × Unit)) k0 ((finK Tryz.prog [.tmp 2] ins_impl_Server_report outs_impl_Server_report (s0, s1, s2, s3, s4, s5, s6, ()))))) s0 s1 s2 s3 s4 s5 s6 := by kernel_rfl
noncomputable def G0 {R : Type} (k0 : Nat) (hx0 : (ByteArray → Int → Int → Int → Int → (List U5) → (List U5) → (List U6) → Option R)) : Nat → ByteArray → Int → Int → Int → Int → Int → Int → (List U5) → (List U5) → (List U6) → (List U3) → Option R
 | 0, _, _, _, _, _, _, _, _, _, _, _ => none
 | k + 1, out, t8x, t9x, s, s7, s8, s9, s10, s11, s12, t7x => R0 (G0 k0 hx0 k) hx0 out t8x t9x s s7 s8 s9 s10 s11 s12 t7x
theorem zg0 {R : Type} (k0 : Nat) (K : Kont R) : ∀ k : Nat, L0 k0 k K = G0 k0 (fun out s s7 s8 s9 s10 s11 s12 => K (.exit 0) [(1, .ptr 0 0 0 0), (3, .str out)] [.box [.int .i64 s, .int .i64 s7, .int .i64 s8, .int .i64 s9, .sl ct2 s10, .sl ct2 s11, .sl ct0 s12]]) k := by
 intro k
 induction k with
 | zero => funext out t8x t9x s s7 s8 s9 s10 s11 s12 t7x; rfl
 | succ k ih => funext out t8x t9x s s7 s8 s9 s10 s11 s12 t7x; rw [zs0, G0]; (try simp only [ih]); try rfl
noncomputable def FF (k0 : Nat) (s0 s1 s2 s3 : Int) (s4 s5 : List U5) (s6 : List U6) : Option (ByteArray × Unit) := T (G0 k0 (A0  s0 s1 s2 s3 s4 s5 s6) k0) s0 s1 s2 s3 s4 s5 s6
theorem zrun (k0 : Nat) (s0 s1 s2 s3 : Int) (s4 s5 : List U5) (s6 : List U6) : runFn Tryz.prog ztbl zcfg k0 22 ins_impl_Server_report outs_impl_Server_report [] (s0, s1, s2, s3, s4, s5, s6, ()) = FF k0 s0 s1 s2 s3 s4 s5 s6 := by
 rw [ztop, FF]; (try simp only [zg0, za0]); try rfl
noncomputable def _root_.Go.Rv.F_impl_Server_report : U0 → Option (ByteArray × Unit) := fun x => (fun (s0 s1 s2 s3 : Int) (s4 s5 : List U5) (s6 : List U6) => FF (300 + s4.length + s5.length + s6.length) s0 s1 s2 s3 s4 s5 s6) x.1 x.2.1 x.2.2.1 x.2.2.2.1 x.2.2.2.2.1 x.2.2.2.2.2.1 x.2.2.2.2.2.2.1
noncomputable abbrev _root_.Go.Rv.S_impl_Server_report : Summ := ⟨ins_impl_Server_report, outs_impl_Server_report, F_impl_Server_report, []⟩
theorem _root_.Go.Rv.ok_impl_Server_report : SumOK KN Tryz.prog 22 S_impl_Server_report := runFn_ok (by kernel_rfl) (tblL_ok (.cons ok_impl_Server_rows (.cons ok_impl_spaced (.cons ok_impl_dec (.cons ok_impl_Server_free .nil))))) (by kernel_rfl) fun x y h => ⟨zcfg, _, (zrun _ x.1 x.2.1 x.2.2.1 x.2.2.2.1 x.2.2.2.2.1 x.2.2.2.2.2.1 x.2.2.2.2.2.2.1).trans h⟩
end impl_Server_report
abbrev ins_impl_ReportText : List Par := [.v true ct3]
abbrev outs_impl_ReportText : List (Bool × List CT) := [(false, [CT.str])]
namespace impl_ReportText
/-! ### loop.example/g00095/impl.ReportText (function 8) -/
noncomputable def ztbl : Tbl := tblL [(21, [], S_impl_ServerRight), (22, [], S_impl_Server_report)]
noncomputable def zbody : Code := ((Tryz.prog.funcs[8]?).bind (·.body)).getD .skip
def zcfg : Nat → List Nat × List Nat := fun k => ([], [])
noncomputable def T  (s0 s1 s2 s3 : Int) (s4 s5 : List U5) (s6 : List U6) : Option (ByteArray × Unit) := (F_impl_ServerRight (s0, s1, s2, s3, s4, s5, s6, ())).bind fun y1 => cond (!y1.1) (some ((strLit []), ())) ((F_impl_Server_report (s0, s1, s2, s3, s4, s5, s6, ())).bind fun y2 => some (y2.1, ()))
theorem ztop (k0 : Nat) (s0 s1 s2 s3 : Int) (s4 s5 : List U5) (s6 : List U6) : runFn Tryz.prog ztbl zcfg k0 8 ins_impl_ReportText outs_impl_ReportText [] (s0, s1, s2, s3, s4, s5, s6, ()) = T  s0 s1 s2 s3 s4 s5 s6 := by kernel_rfl
noncomputable def _root_.Go.Rv.F_impl_ReportText : U0 → Option (ByteArray × Unit) := fun x => T x.1 x.2.1 x.2.2.1 x.2.2.2.1 x.2.2.2.2.1 x.2.2.2.2.2.1 x.2.2.2.2.2.2.1
noncomputable abbrev _root_.Go.Rv.S_impl_ReportText : Summ := ⟨ins_impl_ReportText, outs_impl_ReportText, F_impl_ReportText, []⟩
theorem _root_.Go.Rv.ok_impl_ReportText : SumOK KN Tryz.prog 8 S_impl_ReportText := runFn_ok (by kernel_rfl) (tblL_ok (.cons ok_impl_ServerRight (.cons ok_impl_Server_report .nil))) (by kernel_rfl) fun x y h => ⟨zcfg, 0, (ztop 0 x.1 x.2.1 x.2.2.1 x.2.2.2.1 x.2.2.2.2.1 x.2.2.2.2.2.1 x.2.2.2.2.2.2.1).trans h⟩
end impl_ReportText
abbrev ins_laws_eqGroup : List Par := [.v true ct2, .v true ct2]
abbrev outs_laws_eqGroup : List (Bool × List CT) := [(false, [CT.bool])]
namespace laws_eqGroup
/-! ### loop.example/g00095/laws.eqGroup (function 78) -/
noncomputable def ztbl : Tbl := tblL []
noncomputable def zbody : Code := ((Tryz.prog.funcs[78]?).bind (·.body)).getD .skip
def zcfg : Nat → List Nat × List Nat := fun k => ([], [])
noncomputable def T  (a0 a1 a2 a3 b0 b1 b2 b3 : Int) : Option (Bool × Unit) := cond (a0 != b0) (some (false, ())) (cond (a1 != b1) (some (false, ())) (cond (a2 != b2) (some (false, ())) (cond (a3 != b3) (some (false, ())) (some (true, ())))))
theorem ztop (k0 : Nat) (a0 a1 a2 a3 b0 b1 b2 b3 : Int) : runFn Tryz.prog ztbl zcfg k0 78 ins_laws_eqGroup outs_laws_eqGroup [] (a0, a1, a2, a3, b0, b1, b2, b3, ()) = T  a0 a1 a2 a3 b0 b1 b2 b3 := by kernel_rfl
noncomputable def _root_.Go.Rv.F_laws_eqGroup : Int × Int × U3 → Option (Bool × Unit) := fun x => T x.1 x.2.1 x.2.2.1 x.2.2.2.1 x.2.2.2.2.1 x.2.2.2.2.2.1 x.2.2.2.2.2.2.1 x.2.2.2.2.2.2.2.1
noncomputable abbrev _root_.Go.Rv.S_laws_eqGroup : Summ := ⟨ins_laws_eqGroup, outs_laws_eqGroup, F_laws_eqGroup, []⟩
theorem _root_.Go.Rv.ok_laws_eqGroup : SumOK Dr Tryz.prog 78 S_laws_eqGroup := runFn_ok (by kernel_rfl) (tblL_ok .nil) (by kernel_rfl) fun x y h => ⟨zcfg, 0, (ztop 0 x.1 x.2.1 x.2.2.1 x.2.2.2.1 x.2.2.2.2.1 x.2.2.2.2.2.1 x.2.2.2.2.2.2.1 x.2.2.2.2.2.2.2.1).trans h⟩
end laws_eqGroup
abbrev ins_laws_eqGroupS : List Par := [.v false [CT.sl ct2], .v false [CT.sl ct2]]
abbrev outs_laws_eqGroupS : List (Bool × List CT) := [(false, [CT.bool])]
namespace laws_eqGroupS
/-! ### loop.example/g00095/laws.eqGroupS (function 38) -/
noncomputable def ztbl : Tbl := tblL [(78, [], S_laws_eqGroup)]
noncomputable def zbody : Code := ((Tryz.prog.funcs[38]?).bind (·.body)).getD .skip
def zcfg : Nat → List Nat × List Nat := fun k => if k = 4 then ([0, 1, 5], [4]) else ([], [])
noncomputable def R0 {R : Type} (nx0 : ((List U5) → (List U5) → Int → Option R)) (ex0 : (Bool → Option R)) (ex1 : (Unit → Option R)) (a2 b2 : List U5) (i : Int) : Option R := cond (decide (i < (a2.length : Int))) (if 0 ≤ i ∧ i < (a2.length : Int) then if 0 ≤ i ∧ i < (b2.length : Int) then (F_laws_eqGroup ((rd (0, 0, 0, 0, ()) a2 i).1, (rd (0, 0, 0, 0, ()) a2 i).2.1, (rd (0, 0, 0, 0, ()) a2 i).2.2.1, (rd (0, 0, 0, 0, ()) a2 i).2.2.2.1, (rd (0, 0, 0, 0, ()) b2 i).1, (rd (0, 0, 0, 0, ()) b2 i).2.1, (rd (0, 0, 0, 0, ()) b2 i).2.2.1, (rd (0, 0, 0, 0, ()) b2 i).2.2.2.1, ())).bind fun y1 => cond (!y1.1) (ex0 false) (nx0 a2 b2 (w64 (i + 1))) else none else none) (ex1 ())
noncomputable def A0  (a b : List U5) (t4x : Bool) : Option (Bool × Unit) := some (t4x, ())
noncomputable def A1  (a b : List U5) (_u : Unit) : Option (Bool × Unit) := some (true, ())
noncomputable def T (lo0 : ((List U5) → (List U5) → Int → Option (Bool × Unit))) (a b : List U5) : Option (Bool × Unit) := cond ((a.length : Int) != (b.length : Int)) (some (false, ())) (lo0 a b 0)
noncomputable def zst0 {R : Type} (k0 : Nat) : Env → List Ob → Kont R → Option R := fun env ob K => runCode Tryz.prog ztbl 27 0 zcfg k0 (codeAt [1, 1, 0, 1, 0, 0] zbody) env ob K
noncomputable def K0 {R : Type} (k0 : Nat) (K : Kont R) : Kont R := blockK 0 (seqK (fun env ob => runCode Tryz.prog ztbl 27 0 zcfg k0 (codeAt [1, 1, 1] zbody) env ob (K)) (K))
noncomputable def L0 {R : Type} (k0 k : Nat) (K : Kont R) (a2 b2 : List U5) (i : Int) : Option R := iter 0 [0, 1, 5] [4] (zst0 k0) k [(0, .sl ct2 a2), (1, .sl ct2 b2), (5, .int .i64 i)] [] K
theorem zs0 {R : Type} (k0 k : Nat) (K : Kont R) (a2 b2 : List U5) (i : Int) : L0 k0 (k + 1) K a2 b2 i = R0 (L0 k0 k K) (fun t4x => K .ret [(4, .bool t4x)] []) (fun _ => K (.exit 0) [(4, .undef)] []) a2 b2 i := by kernel_rfl
theorem za0 (k0 : Nat) (a b : List U5) (t4x : Bool) : K0 (R := (Bool × Unit)) k0 (finK Tryz.prog [.tmp 4] ins_laws_eqGroupS outs_laws_eqGroupS (a, b, ())) .ret [(4, .bool t4x)] [] = A0  a b t4x := by kernel_rfl
theorem za1 (k0 : Nat) (a b : List U5)  : K0 (R := (Bool × Unit)) k0 (finK Tryz.prog [.tmp 4] ins_laws_eqGroupS outs_laws_eqGroupS (a, b, ())) (.exit 0) [(4, .undef)] [] = A1  a b () := by kernel_rfl
theorem ztop (k0 : Nat) (a b : List U5) : runFn Tryz.prog ztbl zcfg k0 38 ins_laws_eqGroupS outs_laws_eqGroupS [] (a, b, ()) = T (L0 (R := (Bool × Unit)) k0 k0 (K0 (R := (Bool × Unit)) k0 ((finK Tryz.prog [.tmp 4] ins_laws_eqGroupS outs_laws_eqGroupS (a, b, ()))))) a b := by kernel_rfl
noncomputable def G0 {R : Type} (k0 : Nat) (hx0 : (Bool → Option R)) (hx1 : (Unit → Option R)) : Nat → (List U5) → (List U5) → Int → Option R
 | 0, _, _, _ => none
 | k + 1, a2, b2, i => R0 (G0 k0 hx0 hx1 k) hx0 hx1 a2 b2 i
theorem zg0 {R : Type} (k0 : Nat) (K : Kont R) : ∀ k : Nat, L0 k0 k K = G0 k0 (fun t4x => K .ret [(4, .bool t4x)] []) (fun _ => K (.exit 0) [(4, .undef)] []) k := by
 intro k
 induction k with
 | zero => funext a2 b2 i; rfl
 | succ k ih => funext a2 b2 i; rw [zs0, G0]; (try simp only [ih]); try rfl
noncomputable def FF (k0 : Nat) (a b : List U5) : Option (Bool × Unit) := T (G0 k0 (A0  a b) (A1  a b) k0) a b
theorem zrun (k0 : Nat) (a b : List U5) : runFn Tryz.prog ztbl zcfg k0 38 ins_laws_eqGroupS outs_laws_eqGroupS [] (a, b, ()) = FF k0 a b := by
 rw [ztop, FF]; (try simp only [zg0, za0, za1]); try rfl
noncomputable def _root_.Go.Rv.F_laws_eqGroupS : (List U5) × (List U5) × Unit → Option (Bool × Unit) := fun x => (fun (a b : List U5) => FF (300 + a.length + b.length) a b) x.1 x.2.1
noncomputable abbrev _root_.Go.Rv.S_laws_eqGroupS : Summ := ⟨ins_laws_eqGroupS, outs_laws_eqGroupS, F_laws_eqGroupS, []⟩
theorem _root_.Go.Rv.ok_laws_eqGroupS : SumOK Dr Tryz.prog 38 S_laws_eqGroupS := runFn_ok (by kernel_rfl) (tblL_ok (.cons ok_laws_eqGroup .nil)) (by kernel_rfl) fun x y h => ⟨zcfg, _, (zrun _ x.1 x.2.1).trans h⟩
end laws_eqGroupS
abbrev ins_laws_eqMember : List Par := [.v true ct2, .v true ct2]
abbrev outs_laws_eqMember : List (Bool × List CT) := [(false, [CT.bool])]
namespace laws_eqMember
/-! ### loop.example/g00095/laws.eqMember (function 79) -/
noncomputable def ztbl : Tbl := tblL []
noncomputable def zbody : Code := ((Tryz.prog.funcs[79]?).bind (·.body)).getD .skip
def zcfg : Nat → List Nat × List Nat := fun k => ([], [])
noncomputable def T  (a0 a1 a2 a3 b0 b1 b2 b3 : Int) : Option (Bool × Unit) := cond (a0 != b0) (some (false, ())) (cond (a1 != b1) (some (false, ())) (cond (a2 != b2) (some (false, ())) (cond (a3 != b3) (some (false, ())) (some (true, ())))))
theorem ztop (k0 : Nat) (a0 a1 a2 a3 b0 b1 b2 b3 : Int) : runFn Tryz.prog ztbl zcfg k0 79 ins_laws_eqMember outs_laws_eqMember [] (a0, a1, a2, a3, b0, b1, b2, b3, ()) = T  a0 a1 a2 a3 b0 b1 b2 b3 := by kernel_rfl
noncomputable def _root_.Go.Rv.F_laws_eqMember : Int × Int × U3 → Option (Bool × Unit) := fun x => T x.1 x.2.1 x.2.2.1 x.2.2.2.1 x.2.2.2.2.1 x.2.2.2.2.2.1 x.2.2.2.2.2.2.1 x.2.2.2.2.2.2.2.1
noncomputable abbrev _root_.Go.Rv.S_laws_eqMember : Summ := ⟨ins_laws_eqMember, outs_laws_eqMember, F_laws_eqMember, []⟩
theorem _root_.Go.Rv.ok_laws_eqMember : SumOK Dr Tryz.prog 79 S_laws_eqMember := runFn_ok (by kernel_rfl) (tblL_ok .nil) (by kernel_rfl) fun x y h => ⟨zcfg, 0, (ztop 0 x.1 x.2.1 x.2.2.1 x.2.2.2.1 x.2.2.2.2.1 x.2.2.2.2.2.1 x.2.2.2.2.2.2.1 x.2.2.2.2.2.2.2.1).trans h⟩
end laws_eqMember
abbrev ins_laws_eqMemberS : List Par := [.v false [CT.sl ct2], .v false [CT.sl ct2]]
abbrev outs_laws_eqMemberS : List (Bool × List CT) := [(false, [CT.bool])]
namespace laws_eqMemberS
/-! ### loop.example/g00095/laws.eqMemberS (function 39) -/
noncomputable def ztbl : Tbl := tblL [(79, [], S_laws_eqMember)]
noncomputable def zbody : Code := ((Tryz.prog.funcs[39]?).bind (·.body)).getD .skip
def zcfg : Nat → List Nat × List Nat := fun k => if k = 4 then ([0, 1, 5], [4]) else ([], [])
noncomputable def R0 {R : Type} (nx0 : ((List U5) → (List U5) → Int → Option R)) (ex0 : (Bool → Option R)) (ex1 : (Unit → Option R)) (a2 b2 : List U5) (i : Int) : Option R := cond (decide (i < (a2.length : Int))) (if 0 ≤ i ∧ i < (a2.length : Int) then if 0 ≤ i ∧ i < (b2.length : Int) then (F_laws_eqMember ((rd (0, 0, 0, 0, ()) a2 i).1, (rd (0, 0, 0, 0, ()) a2 i).2.1, (rd (0, 0, 0, 0, ()) a2 i).2.2.1, (rd (0, 0, 0, 0, ()) a2 i).2.2.2.1, (rd (0, 0, 0, 0, ()) b2 i).1, (rd (0, 0, 0, 0, ()) b2 i).2.1, (rd (0, 0, 0, 0, ()) b2 i).2.2.1, (rd (0, 0, 0, 0, ()) b2 i).2.2.2.1, ())).bind fun y1 => cond (!y1.1) (ex0 false) (nx0 a2 b2 (w64 (i + 1))) else none else none) (ex1 ())
noncomputable def A0  (a b : List U5) (t4x : Bool) : Option (Bool × Unit) := some (t4x, ())
noncomputable def A1  (a b : List U5) (_u : Unit) : Option (Bool × Unit) := some (true, ())
noncomputable def T (lo0 : ((List U5) → (List U5) → Int → Option (Bool × Unit))) (a b : List U5) : Option (Bool × Unit) := cond ((a.length : Int) != (b.length : Int)) (some (false, ())) (lo0 a b 0)
noncomputable def zst0 {R : Type} (k0 : Nat) : Env → List Ob → Kont R → Option R := fun env ob K => runCode Tryz.prog ztbl 27 0 zcfg k0 (codeAt [1, 1, 0, 1, 0, 0] zbody) env ob K
noncomputable def K0 {R : Type} (k0 : Nat) (K : Kont R) : Kont R := blockK 0 (seqK (fun env ob => runCode Tryz.prog ztbl 27 0 zcfg k0 (codeAt [1, 1, 1] zbody) env ob (K)) (K))
noncomputable def L0 {R : Type} (k0 k : Nat) (K : Kont R) (a2 b2 : List U5) (i : Int) : Option R := iter 0 [0, 1, 5] [4] (zst0 k0) k [(0, .sl ct2 a2), (1, .sl ct2 b2), (5, .int .i64 i)] [] K
theorem zs0 {R : Type} (k0 k : Nat) (K : Kont R) (a2 b2 : List U5) (i : Int) : L0 k0 (k + 1) K a2 b2 i = R0 (L0 k0 k K) (fun t4x => K .ret [(4, .bool t4x)] []) (fun _ => K (.exit 0) [(4, .undef)] []) a2 b2 i := by kernel_rfl
theorem za0 (k0 : Nat) (a b : List U5) (t4x : Bool) : K0 (R := (Bool × Unit)) k0 (finK Tryz.prog [.tmp 4] ins_laws_eqMemberS outs_laws_eqMemberS (a, b, ())) .ret [(4, .bool t4x)] [] = A0  a b t4x := by kernel_rfl
theorem za1 (k0 : Nat) (a b : List U5)  : K0 (R := (Bool × Unit)) k0 (finK Tryz.prog [.tmp 4] ins_laws_eqMemberS outs_laws_eqMemberS (a, b, ())) (.exit 0) [(4, .undef)] [] = A1  a b () := by kernel_rfl
theorem ztop (k0 : Nat) (a b : List U5) : runFn Tryz.prog ztbl zcfg k0 39 ins_laws_eqMemberS outs_laws_eqMemberS [] (a, b, ()) = T (L0 (R := (Bool × Unit)) k0 k0 (K0 (R := (Bool × Unit)) k0 ((finK Tryz.prog [.tmp 4] ins_laws_eqMemberS outs_laws_eqMemberS (a, b, ()))))) a b := by kernel_rfl
noncomputable def G0 {R : Type} (k0 : Nat) (hx0 : (Bool → Option R)) (hx1 : (Unit → Option R)) : Nat → (List U5) → (List U5) → Int → Option R
 | 0, _, _, _ => none
 | k + 1, a2, b2, i => R0 (G0 k0 hx0 hx1 k) hx0 hx1 a2 b2 i
theorem zg0 {R : Type} (k0 : Nat) (K : Kont R) : ∀ k : Nat, L0 k0 k K = G0 k0 (fun t4x => K .ret [(4, .bool t4x)] []) (fun _ => K (.exit 0) [(4, .undef)] []) k := by
 intro k
 induction k with
 | zero => funext a2 b2 i; rfl
 | succ k ih => funext a2 b2 i; rw [zs0, G0]; (try simp only [ih]); try rfl
noncomputable def FF (k0 : Nat) (a b : List U5) : Option (Bool × Unit) := T (G0 k0 (A0  a b) (A1  a b) k0) a b
theorem zrun (k0 : Nat) (a b : List U5) : runFn Tryz.prog ztbl zcfg k0 39 ins_laws_eqMemberS outs_laws_eqMemberS [] (a, b, ()) = FF k0 a b := by
 rw [ztop, FF]; (try simp only [zg0, za0, za1]); try rfl
noncomputable def _root_.Go.Rv.F_laws_eqMemberS : (List U5) × (List U5) × Unit → Option (Bool × Unit) := fun x => (fun (a b : List U5) => FF (300 + a.length + b.length) a b) x.1 x.2.1
noncomputable abbrev _root_.Go.Rv.S_laws_eqMemberS : Summ := ⟨ins_laws_eqMemberS, outs_laws_eqMemberS, F_laws_eqMemberS, []⟩
theorem _root_.Go.Rv.ok_laws_eqMemberS : SumOK Dr Tryz.prog 39 S_laws_eqMemberS := runFn_ok (by kernel_rfl) (tblL_ok (.cons ok_laws_eqMember .nil)) (by kernel_rfl) fun x y h => ⟨zcfg, _, (zrun _ x.1 x.2.1).trans h⟩
end laws_eqMemberS
abbrev ins_laws_eqFarm : List Par := [.v true ct4, .v true ct4]
abbrev outs_laws_eqFarm : List (Bool × List CT) := [(false, [CT.bool])]
namespace laws_eqFarm
/-! ### loop.example/g00095/laws.eqFarm (function 14) -/
noncomputable def ztbl : Tbl := tblL [(38, [], S_laws_eqGroupS), (39, [], S_laws_eqMemberS)]
noncomputable def zbody : Code := ((Tryz.prog.funcs[14]?).bind (·.body)).getD .skip
def zcfg : Nat → List Nat × List Nat := fun k => ([], [])
noncomputable def T  (a0 : Int) (a1 a2 : List U5) (b0 : Int) (b1 b2 : List U5) : Option (Bool × Unit) := cond (a0 != b0) (some (false, ())) ((F_laws_eqGroupS (a1, b1, ())).bind fun y1 => cond (!y1.1) (some (false, ())) ((F_laws_eqMemberS (a2, b2, ())).bind fun y2 => cond (!y2.1) (some (false, ())) (some (true, ()))))
theorem ztop (k0 : Nat) (a0 : Int) (a1 a2 : List U5) (b0 : Int) (b1 b2 : List U5) : runFn Tryz.prog ztbl zcfg k0 14 ins_laws_eqFarm outs_laws_eqFarm [] (a0, a1, a2, b0, b1, b2, ()) = T  a0 a1 a2 b0 b1 b2 := by kernel_rfl
noncomputable def _root_.Go.Rv.F_laws_eqFarm : Int × (List U5) × (List U5) × U1 → Option (Bool × Unit) := fun x => T x.1 x.2.1 x.2.2.1 x.2.2.2.1 x.2.2.2.2.1 x.2.2.2.2.2.1
noncomputable abbrev _root_.Go.Rv.S_laws_eqFarm : Summ := ⟨ins_laws_eqFarm, outs_laws_eqFarm, F_laws_eqFarm, []⟩
theorem _root_.Go.Rv.ok_laws_eqFarm : SumOK Dr Tryz.prog 14 S_laws_eqFarm := runFn_ok (by kernel_rfl) (tblL_ok (.cons ok_laws_eqGroupS (.cons ok_laws_eqMemberS .nil))) (by kernel_rfl) fun x y h => ⟨zcfg, 0, (ztop 0 x.1 x.2.1 x.2.2.1 x.2.2.2.1 x.2.2.2.2.1 x.2.2.2.2.2.1).trans h⟩
end laws_eqFarm
abbrev ins_laws_eqLease : List Par := [.v true ct0, .v true ct0]
abbrev outs_laws_eqLease : List (Bool × List CT) := [(false, [CT.bool])]
namespace laws_eqLease
/-! ### loop.example/g00095/laws.eqLease (function 52) -/
noncomputable def ztbl : Tbl := tblL []
noncomputable def zbody : Code := ((Tryz.prog.funcs[52]?).bind (·.body)).getD .skip
def zcfg : Nat → List Nat × List Nat := fun k => ([], [])
noncomputable def T  (a0 a1 a2 b0 b1 b2 : Int) : Option (Bool × Unit) := cond (a0 != b0) (some (false, ())) (cond (a1 != b1) (some (false, ())) (cond (a2 != b2) (some (false, ())) (some (true, ()))))
theorem ztop (k0 : Nat) (a0 a1 a2 b0 b1 b2 : Int) : runFn Tryz.prog ztbl zcfg k0 52 ins_laws_eqLease outs_laws_eqLease [] (a0, a1, a2, b0, b1, b2, ()) = T  a0 a1 a2 b0 b1 b2 := by kernel_rfl
noncomputable def _root_.Go.Rv.F_laws_eqLease : U3 → Option (Bool × Unit) := fun x => T x.1 x.2.1 x.2.2.1 x.2.2.2.1 x.2.2.2.2.1 x.2.2.2.2.2.1
noncomputable abbrev _root_.Go.Rv.S_laws_eqLease : Summ := ⟨ins_laws_eqLease, outs_laws_eqLease, F_laws_eqLease, []⟩
theorem _root_.Go.Rv.ok_laws_eqLease : SumOK Dr Tryz.prog 52 S_laws_eqLease := runFn_ok (by kernel_rfl) (tblL_ok .nil) (by kernel_rfl) fun x y h => ⟨zcfg, 0, (ztop 0 x.1 x.2.1 x.2.2.1 x.2.2.2.1 x.2.2.2.2.1 x.2.2.2.2.2.1).trans h⟩
end laws_eqLease
abbrev ins_laws_eqLeaseS : List Par := [.v false [CT.sl ct0], .v false [CT.sl ct0]]
abbrev outs_laws_eqLeaseS : List (Bool × List CT) := [(false, [CT.bool])]
namespace laws_eqLeaseS
/-! ### loop.example/g00095/laws.eqLeaseS (function 23) -/
noncomputable def ztbl : Tbl := tblL [(52, [], S_laws_eqLease)]
noncomputable def zbody : Code := ((Tryz.prog.funcs[23]?).bind (·.body)).getD .skip
def zcfg : Nat → List Nat × List Nat := fun k => if k = 4 then ([0, 1, 5], [4]) else ([], [])
noncomputable def R0 {R : Type} (nx0 : ((List U6) → (List U6) → Int → Option R)) (ex0 : (Bool → Option R)) (ex1 : (Unit → Option R)) (a2 b2 : List U6) (i : Int) : Option R := cond (decide (i < (a2.length : Int))) (if 0 ≤ i ∧ i < (a2.length : Int) then if 0 ≤ i ∧ i < (b2.length : Int) then (F_laws_eqLease ((rd (0, 0, 0, ()) a2 i).1, (rd (0, 0, 0, ()) a2 i).2.1, (rd (0, 0, 0, ()) a2 i).2.2.1, (rd (0, 0, 0, ()) b2 i).1, (rd (0, 0, 0, ()) b2 i).2.1, (rd (0, 0, 0, ()) b2 i).2.2.1, ())).bind fun y1 => cond (!y1.1) (ex0 false) (nx0 a2 b2 (w64 (i + 1))) else none else none) (ex1 ())
noncomputable def A0  (a b : List U6) (t4x : Bool) : Option (Bool × Unit) := some (t4x, ())
noncomputable def A1  (a b : List U6) (_u : Unit) : Option (Bool × Unit) := some (true, ())
noncomputable def T (lo0 : ((List U6) → (List U6) → Int → Option (Bool × Unit))) (a b : List U6) : Option (Bool × Unit) := cond ((a.length : Int) != (b.length : Int)) (some (false, ())) (lo0 a b 0)
noncomputable def zst0 {R : Type} (k0 : Nat) : Env → List Ob → Kont R → Option R := fun env ob K => runCode Tryz.prog ztbl 27 0 zcfg k0 (codeAt [1, 1, 0, 1, 0, 0] zbody) env ob K
noncomputable def K0 {R : Type} (k0 : Nat) (K : Kont R) : Kont R := blockK 0 (seqK (fun env ob => runCode Tryz.prog ztbl 27 0 zcfg k0 (codeAt [1, 1, 1] zbody) env ob (K)) (K))
noncomputable def L0 {R : Type} (k0 k : Nat) (K : Kont R) (a2 b2 : List U6) (i : Int) : Option R := iter 0 [0, 1, 5] [4] (zst0 k0) k [(0, .sl ct0 a2), (1, .sl ct0 b2), (5, .int .i64 i)] [] K
theorem zs0 {R : Type} (k0 k : Nat) (K : Kont R) (a2 b2 : List U6) (i : Int) : L0 k0 (k + 1) K a2 b2 i = R0 (L0 k0 k K) (fun t4x => K .ret [(4, .bool t4x)] []) (fun _ => K (.exit 0) [(4, .undef)] []) a2 b2 i := by kernel_rfl
theorem za0 (k0 : Nat) (a b : List U6) (t4x : Bool) : K0 (R := (Bool × Unit)) k0 (finK Tryz.prog [.tmp 4] ins_laws_eqLeaseS outs_laws_eqLeaseS (a, b, ())) .ret [(4, .bool t4x)] [] = A0  a b t4x := by kernel_rfl
theorem za1 (k0 : Nat) (a b : List U6)  : K0 (R := (Bool × Unit)) k0 (finK Tryz.prog [.tmp 4] ins_laws_eqLeaseS outs_laws_eqLeaseS (a, b, ())) (.exit 0) [(4, .undef)] [] = A1  a b () := by kernel_rfl
theorem ztop (k0 : Nat) (a b : List U6) : runFn Tryz.prog ztbl zcfg k0 23 ins_laws_eqLeaseS outs_laws_eqLeaseS [] (a, b, ()) = T (L0 (R := (Bool × Unit)) k0 k0 (K0 (R := (Bool × Unit)) k0 ((finK Tryz.prog [.tmp 4] ins_laws_eqLeaseS outs_laws_eqLeaseS (a, b, ()))))) a b := by kernel_rfl
noncomputable def G0 {R : Type} (k0 : Nat) (hx0 : (Bool → Option R)) (hx1 : (Unit → Option R)) : Nat → (List U6) → (List U6) → Int → Option R
 | 0, _, _, _ => none
 | k + 1, a2, b2, i => R0 (G0 k0 hx0 hx1 k) hx0 hx1 a2 b2 i
theorem zg0 {R : Type} (k0 : Nat) (K : Kont R) : ∀ k : Nat, L0 k0 k K = G0 k0 (fun t4x => K .ret [(4, .bool t4x)] []) (fun _ => K (.exit 0) [(4, .undef)] []) k := by
 intro k
 induction k with
 | zero => funext a2 b2 i; rfl
 | succ k ih => funext a2 b2 i; rw [zs0, G0]; (try simp only [ih]); try rfl
noncomputable def FF (k0 : Nat) (a b : List U6) : Option (Bool × Unit) := T (G0 k0 (A0  a b) (A1  a b) k0) a b
theorem zrun (k0 : Nat) (a b : List U6) : runFn Tryz.prog ztbl zcfg k0 23 ins_laws_eqLeaseS outs_laws_eqLeaseS [] (a, b, ()) = FF k0 a b := by
 rw [ztop, FF]; (try simp only [zg0, za0, za1]); try rfl
noncomputable def _root_.Go.Rv.F_laws_eqLeaseS : (List U6) × (List U6) × Unit → Option (Bool × Unit) := fun x => (fun (a b : List U6) => FF (300 + a.length + b.length) a b) x.1 x.2.1
noncomputable abbrev _root_.Go.Rv.S_laws_eqLeaseS : Summ := ⟨ins_laws_eqLeaseS, outs_laws_eqLeaseS, F_laws_eqLeaseS, []⟩
theorem _root_.Go.Rv.ok_laws_eqLeaseS : SumOK Dr Tryz.prog 23 S_laws_eqLeaseS := runFn_ok (by kernel_rfl) (tblL_ok (.cons ok_laws_eqLease .nil)) (by kernel_rfl) fun x y h => ⟨zcfg, _, (zrun _ x.1 x.2.1).trans h⟩
end laws_eqLeaseS
abbrev ins_laws_eqServer : List Par := [.v true ct3, .v true ct3]
abbrev outs_laws_eqServer : List (Bool × List CT) := [(false, [CT.bool])]
namespace laws_eqServer
/-! ### loop.example/g00095/laws.eqServer (function 9) -/
noncomputable def ztbl : Tbl := tblL [(14, [], S_laws_eqFarm), (23, [], S_laws_eqLeaseS)]
noncomputable def zbody : Code := ((Tryz.prog.funcs[9]?).bind (·.body)).getD .skip
def zcfg : Nat → List Nat × List Nat := fun k => ([], [])
noncomputable def T  (a0 a1 a2 a3 : Int) (a4 a5 : List U5) (a6 : List U6) (b0 b1 b2 b3 : Int) (b4 b5 : List U5) (b6 : List U6) : Option (Bool × Unit) := cond (a0 != b0) (some (false, ())) (cond (a1 != b1) (some (false, ())) (cond (a2 != b2) (some (false, ())) ((F_laws_eqFarm (a3, a4, a5, b3, b4, b5, ())).bind fun y1 => cond (!y1.1) (some (false, ())) ((F_laws_eqLeaseS (a6, b6, ())).bind fun y2 => cond (!y2.1) (some (false, ())) (some (true, ()))))))
theorem ztop (k0 : Nat) (a0 a1 a2 a3 : Int) (a4 a5 : List U5) (a6 : List U6) (b0 b1 b2 b3 : Int) (b4 b5 : List U5) (b6 : List U6) : runFn Tryz.prog ztbl zcfg k0 9 ins_laws_eqServer outs_laws_eqServer [] (a0, a1, a2, a3, a4, a5, a6, b0, b1, b2, b3, b4, b5, b6, ()) = T  a0 a1 a2 a3 a4 a5 a6 b0 b1 b2 b3 b4 b5 b6 := by kernel_rfl
noncomputable def _root_.Go.Rv.F_laws_eqServer : Int × Int × Int × Int × (List U5) × (List U5) × (List U6) × U0 → Option (Bool × Unit) := fun x => T x.1 x.2.1 x.2.2.1 x.2.2.2.1 x.2.2.2.2.1 x.2.2.2.2.2.1 x.2.2.2.2.2.2.1 x.2.2.2.2.2.2.2.1 x.2.2.2.2.2.2.2.2.1 x.2.2.2.2.2.2.2.2.2.1 x.2.2.2.2.2.2.2.2.2.2.1 x.2.2.2.2.2.2.2.2.2.2.2.1 x.2.2.2.2.2.2.2.2.2.2.2.2.1 x.2.2.2.2.2.2.2.2.2.2.2.2.2.1
noncomputable abbrev _root_.Go.Rv.S_laws_eqServer : Summ := ⟨ins_laws_eqServer, outs_laws_eqServer, F_laws_eqServer, []⟩
theorem _root_.Go.Rv.ok_laws_eqServer : SumOK Dr Tryz.prog 9 S_laws_eqServer := runFn_ok (by kernel_rfl) (tblL_ok (.cons ok_laws_eqFarm (.cons ok_laws_eqLeaseS .nil))) (by kernel_rfl) fun x y h => ⟨zcfg, 0, (ztop 0 x.1 x.2.1 x.2.2.1 x.2.2.2.1 x.2.2.2.2.1 x.2.2.2.2.2.1 x.2.2.2.2.2.2.1 x.2.2.2.2.2.2.2.1 x.2.2.2.2.2.2.2.2.1 x.2.2.2.2.2.2.2.2.2.1 x.2.2.2.2.2.2.2.2.2.2.1 x.2.2.2.2.2.2.2.2.2.2.2.1 x.2.2.2.2.2.2.2.2.2.2.2.2.1 x.2.2.2.2.2.2.2.2.2.2.2.2.2.1).trans h⟩
end laws_eqServer
abbrev ins_laws_FnExactReportText : List Par := [.v true ct3]
abbrev outs_laws_FnExactReportText : List (Bool × List CT) := [(false, [CT.bool])]
namespace laws_FnExactReportText
/-! ### loop.example/g00095/laws.FnExactReportText (function 3) -/
noncomputable def ztbl : Tbl := tblL [(5, [], S_laws_szServer), (6, [], S_spec_ReportText), (7, [], S_laws_toServer), (8, [], S_impl_ReportText), (9, [], S_laws_eqServer)]
noncomputable def zbody : Code := ((Tryz.prog.funcs[3]?).bind (·.body)).getD .skip
def zcfg : Nat → List Nat × List Nat := fun k => ([], [])
noncomputable def T  (aS0 aS1 aS2 aS3 : Int) (aS4 aS5 : List U5) (aS6 : List U6) : Option (Bool × Unit) := (F_laws_szServer (aS0, aS1, aS2, aS3, aS4, aS5, aS6, 1048576, ())).bind fun y1 => cond (decide (y1.1 < 0)) (some (true, ())) ((F_laws_toServer (aS0, aS1, aS2, aS3, aS4, aS5, aS6, ())).bind fun y2 => (F_spec_ReportText (y2.1, y2.2.1, y2.2.2.1, y2.2.2.2.1, y2.2.2.2.2.1, y2.2.2.2.2.2.1, y2.2.2.2.2.2.2.1, ())).bind fun y3 => (F_laws_toServer (aS0, aS1, aS2, aS3, aS4, aS5, aS6, ())).bind fun y4 => (F_impl_ReportText (y4.1, y4.2.1, y4.2.2.1, y4.2.2.2.1, y4.2.2.2.2.1, y4.2.2.2.2.2.1, y4.2.2.2.2.2.2.1, ())).bind fun y5 => cond (!seq y5.1 y3.1) (some (false, ())) ((F_laws_toServer (aS0, aS1, aS2, aS3, aS4, aS5, aS6, ())).bind fun y6 => (F_laws_eqServer (y4.1, y4.2.1, y4.2.2.1, y4.2.2.2.1, y4.2.2.2.2.1, y4.2.2.2.2.2.1, y4.2.2.2.2.2.2.1, y6.1, y6.2.1, y6.2.2.1, y6.2.2.2.1, y6.2.2.2.2.1, y6.2.2.2.2.2.1, y6.2.2.2.2.2.2.1, ())).bind fun y7 => cond (!y7.1) (some (false, ())) (some (true, ()))))
theorem ztop (k0 : Nat) (aS0 aS1 aS2 aS3 : Int) (aS4 aS5 : List U5) (aS6 : List U6) : runFn Tryz.prog ztbl zcfg k0 3 ins_laws_FnExactReportText outs_laws_FnExactReportText [] (aS0, aS1, aS2, aS3, aS4, aS5, aS6, ()) = T  aS0 aS1 aS2 aS3 aS4 aS5 aS6 := by kernel_rfl
noncomputable def _root_.Go.Rv.F_laws_FnExactReportText : U0 → Option (Bool × Unit) := fun x => T x.1 x.2.1 x.2.2.1 x.2.2.2.1 x.2.2.2.2.1 x.2.2.2.2.2.1 x.2.2.2.2.2.2.1
noncomputable abbrev _root_.Go.Rv.S_laws_FnExactReportText : Summ := ⟨ins_laws_FnExactReportText, outs_laws_FnExactReportText, F_laws_FnExactReportText, []⟩
theorem _root_.Go.Rv.ok_laws_FnExactReportText : SumOK KN Tryz.prog 3 S_laws_FnExactReportText := runFn_ok (by kernel_rfl) (tblL_ok (.cons ok_laws_szServer (.cons ok_spec_ReportText (.cons ok_laws_toServer (.cons ok_impl_ReportText (.cons ok_laws_eqServer .nil)))))) (by kernel_rfl) fun x y h => ⟨zcfg, 0, (ztop 0 x.1 x.2.1 x.2.2.1 x.2.2.2.1 x.2.2.2.2.1 x.2.2.2.2.2.1 x.2.2.2.2.2.2.1).trans h⟩
end laws_FnExactReportText

end Go.Rv
