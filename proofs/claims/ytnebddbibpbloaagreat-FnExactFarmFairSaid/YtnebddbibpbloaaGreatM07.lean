/- What functions come to on pure values (printed by a program of ours). -/
import Derived.Test.YtnebddbibpbloaaGreatM06
set_option linter.unusedVariables false
set_option linter.unusedSimpArgs false
set_option linter.unusedSectionVars false
set_option maxRecDepth 100000
namespace Go.Rv
open Go.Proofs
variable {Dr : Prop}
abbrev ins_impl_Farm_shares : List Par := [.v true ct3]
abbrev outs_impl_Farm_shares : List (Bool × List CT) := [(false, [CT.sl ct4]), (false, [CT.sl ct4])]
namespace impl_Farm_shares
/-! ### (loop.example/g00095/impl.Farm).shares (function 28) -/
noncomputable def ztbl : Tbl := fun g fs => if g = 43 ∧ fs = [] then some ⟨ins_impl_Farm_pour, outs_impl_Farm_pour, F_impl_Farm_pour, []⟩ else none
noncomputable def zbody : Code := ((Tryz.prog.funcs[28]?).bind (·.body)).getD .skip
def zcfg : Nat → List Nat × List Nat := fun k => if k = 3 then ([1, 4, 5, 15, 16, 17], [1, 4, 5]) else if k = 8 then ([1, 4, 5, 29, 30, 31], [1, 4, 5]) else if k = 14 then ([1, 4, 5, 49, 50, 51], [4, 5]) else ([], [])
noncomputable def R0 {R : Type} (nx0 : ((List (Int × Int × Int × Int × Unit)) → Int → Int → Int → (List (Int × Int × Int × Int × Unit)) → (List (Int × Int × Int × Int × Unit)) → (List (Int × Int × Unit)) → (List (Int × Int × Unit)) → Option R)) (ex0 : (Int → (List (Int × Int × Int × Int × Unit)) → (List (Int × Int × Int × Int × Unit)) → (List (Int × Int × Unit)) → (List (Int × Int × Unit)) → Option R)) (t15x : List (Int × Int × Int × Int × Unit)) (t16x t17x f : Int) (f3 f4 : List (Int × Int × Int × Int × Unit)) (groups members : List (Int × Int × Unit)) : Option R := cond (decide (t17x < t16x)) (if 0 ≤ t17x ∧ t17x < (t15x.length : Int) then if groups.length + [((rd (0, 0, 0, 0, ()) t15x t17x).1, 0, ())].length ≤ maxRow then nx0 t15x t16x (w64 (t17x + 1)) f f3 f4 (groups ++ [((rd (0, 0, 0, 0, ()) t15x t17x).1, 0, ())]) members else none else none) (ex0 f f3 f4 groups members)
noncomputable def R1 {R : Type} (nx1 : ((List (Int × Int × Int × Int × Unit)) → Int → Int → Int → (List (Int × Int × Int × Int × Unit)) → (List (Int × Int × Int × Int × Unit)) → (List (Int × Int × Unit)) → (List (Int × Int × Unit)) → Option R)) (ex1 : (Int → (List (Int × Int × Int × Int × Unit)) → (List (Int × Int × Int × Int × Unit)) → (List (Int × Int × Unit)) → (List (Int × Int × Unit)) → Option R)) (t29x : List (Int × Int × Int × Int × Unit)) (t30x t31x f : Int) (f3 f4 : List (Int × Int × Int × Int × Unit)) (groups members : List (Int × Int × Unit)) : Option R := cond (decide (t31x < t30x)) (if 0 ≤ t31x ∧ t31x < (t29x.length : Int) then if members.length + [((rd (0, 0, 0, 0, ()) t29x t31x).1, 0, ())].length ≤ maxRow then nx1 t29x t30x (w64 (t31x + 1)) f f3 f4 groups (members ++ [((rd (0, 0, 0, 0, ()) t29x t31x).1, 0, ())]) else none else none) (ex1 f f3 f4 groups members)
noncomputable def R2 {R : Type} (nx2 : ((List (Int × Int × Int × Int × Unit)) → Int → Int → Int → (List (Int × Int × Int × Int × Unit)) → (List (Int × Int × Int × Int × Unit)) → (List (Int × Int × Unit)) → (List (Int × Int × Unit)) → Option R)) (ex2 : ((List (Int × Int × Unit)) → (List (Int × Int × Unit)) → Option R)) (t49x : List (Int × Int × Int × Int × Unit)) (t50x t51x f : Int) (f3 f4 : List (Int × Int × Int × Int × Unit)) (groups members : List (Int × Int × Unit)) : Option R := cond (decide (t51x < t50x)) (if 0 ≤ t51x ∧ t51x < (t49x.length : Int) then if 0 ≤ t51x ∧ t51x < (groups.length : Int) then (F_impl_Farm_pour (f, f3, f4, (rd (0, 0, 0, 0, ()) t49x t51x).1, (groups.getD t51x.toNat (0, 0, ())).2.1, groups, members, ())).bind fun y1 => nx2 t49x t50x (w64 (t51x + 1)) f f3 f4 y1.1 y1.2.1 else none else none) (ex2 groups members)
noncomputable def A0 (lo1 : ((List (Int × Int × Int × Int × Unit)) → Int → Int → Int → (List (Int × Int × Int × Int × Unit)) → (List (Int × Int × Int × Int × Unit)) → (List (Int × Int × Unit)) → (List (Int × Int × Unit)) → Option ((List (Int × Int × Unit)) × (List (Int × Int × Unit)) × Unit))) (f0 : Int) (f1 f2 : List (Int × Int × Int × Int × Unit)) (f : Int) (f3 f4 : List (Int × Int × Int × Int × Unit)) (groups members : List (Int × Int × Unit)) : Option ((List (Int × Int × Unit)) × (List (Int × Int × Unit)) × Unit) := lo1 f4 (f4.length : Int) 0 f f3 f4 groups members
noncomputable def A1 (lo2 : ((List (Int × Int × Int × Int × Unit)) → Int → Int → Int → (List (Int × Int × Int × Int × Unit)) → (List (Int × Int × Int × Int × Unit)) → (List (Int × Int × Unit)) → (List (Int × Int × Unit)) → Option ((List (Int × Int × Unit)) × (List (Int × Int × Unit)) × Unit))) (f0 : Int) (f1 f2 : List (Int × Int × Int × Int × Unit)) (f : Int) (f3 f4 : List (Int × Int × Int × Int × Unit)) (groups members : List (Int × Int × Unit)) : Option ((List (Int × Int × Unit)) × (List (Int × Int × Unit)) × Unit) := (F_impl_Farm_pour (f, f3, f4, 0, f, groups, members, ())).bind fun y1 => lo2 f3 (f3.length : Int) 0 f f3 f4 y1.1 y1.2.1
noncomputable def A2  (f0 : Int) (f1 f2 : List (Int × Int × Int × Int × Unit)) (groups members : List (Int × Int × Unit)) : Option ((List (Int × Int × Unit)) × (List (Int × Int × Unit)) × Unit) := some (groups, members, ())
noncomputable def T (lo0 : ((List (Int × Int × Int × Int × Unit)) → Int → Int → Int → (List (Int × Int × Int × Int × Unit)) → (List (Int × Int × Int × Int × Unit)) → (List (Int × Int × Unit)) → (List (Int × Int × Unit)) → Option ((List (Int × Int × Unit)) × (List (Int × Int × Unit)) × Unit))) (f0 : Int) (f1 f2 : List (Int × Int × Int × Int × Unit)) : Option ((List (Int × Int × Unit)) × (List (Int × Int × Unit)) × Unit) := lo0 f1 (f1.length : Int) 0 f0 f1 f2 ([] : List (Int × Int × Unit)) ([] : List (Int × Int × Unit))
noncomputable def zst0 {R : Type} (k0 : Nat) : Env → List Ob → Kont R → Option R := fun env ob K => runCode Tryz.prog ztbl 70 0 zcfg k0 (codeAt [1, 1, 0, 1, 0, 0] zbody) env ob K
noncomputable def K0 {R : Type} (k0 : Nat) (K : Kont R) : Kont R := blockK 0 (seqK (fun env ob => runCode Tryz.prog ztbl 70 0 zcfg k0 (codeAt [1, 1, 1] zbody) env ob (K)) (K))
noncomputable def zst1 {R : Type} (k0 : Nat) : Env → List Ob → Kont R → Option R := fun env ob K => runCode Tryz.prog ztbl 70 0 zcfg k0 (codeAt [1, 1, 1, 0, 1, 0, 0] zbody) env ob K
noncomputable def K1 {R : Type} (k0 : Nat) (K : Kont R) : Kont R := blockK 2 (seqK (fun env ob => runCode Tryz.prog ztbl 70 0 zcfg k0 (codeAt [1, 1, 1, 1] zbody) env ob (K)) (K))
noncomputable def zst2 {R : Type} (k0 : Nat) : Env → List Ob → Kont R → Option R := fun env ob K => runCode Tryz.prog ztbl 70 0 zcfg k0 (codeAt [1, 1, 1, 1, 1, 0, 1, 0, 0] zbody) env ob K
noncomputable def K2 {R : Type} (k0 : Nat) (K : Kont R) : Kont R := blockK 4 (seqK (fun env ob => runCode Tryz.prog ztbl 70 0 zcfg k0 (codeAt [1, 1, 1, 1, 1, 1] zbody) env ob (K)) (K))
noncomputable def L0 {R : Type} (k0 k : Nat) (K : Kont R) (t15x : List (Int × Int × Int × Int × Unit)) (t16x t17x f : Int) (f3 f4 : List (Int × Int × Int × Int × Unit)) (groups members : List (Int × Int × Unit)) : Option R := iter 0 [1, 4, 5, 15, 16, 17] [1, 4, 5] (zst0 k0) k [(1, .ptr 0 0 0 0), (4, .own 1), (5, .own 2), (15, .sl ct2 t15x), (16, .int .i64 t16x), (17, .int .i64 t17x)] [.box [.int .i64 f, .sl ct2 f3, .sl ct2 f4], .arr ct4 groups, .arr ct4 members] K
noncomputable def L1 {R : Type} (k0 k : Nat) (K : Kont R) (t29x : List (Int × Int × Int × Int × Unit)) (t30x t31x f : Int) (f3 f4 : List (Int × Int × Int × Int × Unit)) (groups members : List (Int × Int × Unit)) : Option R := iter 0 [1, 4, 5, 29, 30, 31] [1, 4, 5] (zst1 k0) k [(1, .ptr 0 0 0 0), (4, .own 1), (5, .own 2), (29, .sl ct2 t29x), (30, .int .i64 t30x), (31, .int .i64 t31x)] [.box [.int .i64 f, .sl ct2 f3, .sl ct2 f4], .arr ct4 groups, .arr ct4 members] K
noncomputable def L2 {R : Type} (k0 k : Nat) (K : Kont R) (t49x : List (Int × Int × Int × Int × Unit)) (t50x t51x f : Int) (f3 f4 : List (Int × Int × Int × Int × Unit)) (groups members : List (Int × Int × Unit)) : Option R := iter 0 [1, 4, 5, 49, 50, 51] [4, 5] (zst2 k0) k [(1, .ptr 0 0 0 0), (4, .own 1), (5, .own 2), (49, .sl ct2 t49x), (50, .int .i64 t50x), (51, .int .i64 t51x)] [.box [.int .i64 f, .sl ct2 f3, .sl ct2 f4], .arr ct4 groups, .arr ct4 members] K
theorem zs0 {R : Type} (k0 k : Nat) (K : Kont R) (t15x : List (Int × Int × Int × Int × Unit)) (t16x t17x f : Int) (f3 f4 : List (Int × Int × Int × Int × Unit)) (groups members : List (Int × Int × Unit)) : L0 k0 (k + 1) K t15x t16x t17x f f3 f4 groups members = R0 (L0 k0 k K) (fun f f3 f4 groups members => K (.exit 0) [(1, .ptr 0 0 0 0), (4, .own 1), (5, .own 2)] [.box [.int .i64 f, .sl ct2 f3, .sl ct2 f4], .arr ct4 groups, .arr ct4 members]) t15x t16x t17x f f3 f4 groups members := by kernel_rfl
theorem zs1 {R : Type} (k0 k : Nat) (K : Kont R) (t29x : List (Int × Int × Int × Int × Unit)) (t30x t31x f : Int) (f3 f4 : List (Int × Int × Int × Int × Unit)) (groups members : List (Int × Int × Unit)) : L1 k0 (k + 1) K t29x t30x t31x f f3 f4 groups members = R1 (L1 k0 k K) (fun f f3 f4 groups members => K (.exit 2) [(1, .ptr 0 0 0 0), (4, .own 1), (5, .own 2)] [.box [.int .i64 f, .sl ct2 f3, .sl ct2 f4], .arr ct4 groups, .arr ct4 members]) t29x t30x t31x f f3 f4 groups members := by kernel_rfl
theorem zs2 {R : Type} (k0 k : Nat) (K : Kont R) (t49x : List (Int × Int × Int × Int × Unit)) (t50x t51x f : Int) (f3 f4 : List (Int × Int × Int × Int × Unit)) (groups members : List (Int × Int × Unit)) : L2 k0 (k + 1) K t49x t50x t51x f f3 f4 groups members = R2 (L2 k0 k K) (fun groups members => K (.exit 4) [(4, .own 0), (5, .own 1)] [.arr ct4 groups, .arr ct4 members]) t49x t50x t51x f f3 f4 groups members := by kernel_rfl
theorem za0 (k0 : Nat) (f0 : Int) (f1 f2 : List (Int × Int × Int × Int × Unit)) (f : Int) (f3 f4 : List (Int × Int × Int × Int × Unit)) (groups members : List (Int × Int × Unit)) : K0 (R := ((List (Int × Int × Unit)) × (List (Int × Int × Unit)) × Unit)) k0 (finK Tryz.prog [.tmp 2, .tmp 3] ins_impl_Farm_shares outs_impl_Farm_shares (f0, f1, f2, ())) (.exit 0) [(1, .ptr 0 0 0 0), (4, .own 1), (5, .own 2)] [.box [.int .i64 f, .sl ct2 f3, .sl ct2 f4], .arr ct4 groups, .arr ct4 members] = A0 (L1 (R := ((List (Int × Int × Unit)) × (List (Int × Int × Unit)) × Unit)) k0 k0 (K1 (R := ((List (Int × Int × Unit)) × (List (Int × Int × Unit)) × Unit)) k0 ((finK Tryz.prog [.tmp 2, .tmp 3] ins_impl_Farm_shares outs_impl_Farm_shares (f0, f1, f2, ()))))) f0 f1 f2 f f3 f4 groups members := by kernel_rfl
theorem za1 (k0 : Nat) (f0 : Int) (f1 f2 : List (Int × Int × Int × Int × Unit)) (f : Int) (f3 f4 : List (Int × Int × Int × Int × Unit)) (groups members : List (Int × Int × Unit)) : K1 (R := ((List (Int × Int × Unit)) × (List (Int × Int × Unit)) × Unit)) k0 (finK Tryz.prog [.tmp 2, .tmp 3] ins_impl_Farm_shares outs_impl_Farm_shares (f0, f1, f2, ())) (.exit 2) [(1, .ptr 0 0 0 0), (4, .own 1), (5, .own 2)] [.box [.int .i64 f, .sl ct2 f3, .sl ct2 f4], .arr ct4 groups, .arr ct4 members] = A1 (L2 (R := ((List (Int × Int × Unit)) × (List (Int × Int × Unit)) × Unit)) k0 k0 (K2 (R := ((List (Int × Int × Unit)) × (List (Int × Int × Unit)) × Unit)) k0 ((finK Tryz.prog [.tmp 2, .tmp 3] ins_impl_Farm_shares outs_impl_Farm_shares (f0, f1, f2, ()))))) f0 f1 f2 f f3 f4 groups members := by kernel_rfl
theorem za2 (k0 : Nat) (f0 : Int) (f1 f2 : List (Int × Int × Int × Int × Unit)) (groups members : List (Int × Int × Unit)) : K2 (R := ((List (Int × Int × Unit)) × (List (Int × Int × Unit)) × Unit)) k0 (finK Tryz.prog [.tmp 2, .tmp 3] ins_impl_Farm_shares outs_impl_Farm_shares (f0, f1, f2, ())) (.exit 4) [(4, .own 0), (5, .own 1)] [.arr ct4 groups, .arr ct4 members] = A2  f0 f1 f2 groups members := by kernel_rfl
theorem ztop (k0 : Nat) (f0 : Int) (f1 f2 : List (Int × Int × Int × Int × Unit)) : runFn Tryz.prog ztbl zcfg k0 28 ins_impl_Farm_shares outs_impl_Farm_shares [] (f0, f1, f2, ()) = T (L0 (R := ((List (Int × Int × Unit)) × (List (Int × Int × Unit)) × Unit)) k0 k0 (K0 (R := ((List (Int × Int × Unit)) × (List (Int × Int × Unit)) × Unit)) k0 ((finK Tryz.prog [.tmp 2, .tmp 3] ins_impl_Farm_shares outs_impl_Farm_shares (f0, f1, f2, ()))))) f0 f1 f2 := by kernel_rfl
noncomputable def G0 {R : Type} (k0 : Nat) (hx0 : (Int → (List (Int × Int × Int × Int × Unit)) → (List (Int × Int × Int × Int × Unit)) → (List (Int × Int × Unit)) → (List (Int × Int × Unit)) → Option R)) : Nat → (List (Int × Int × Int × Int × Unit)) → Int → Int → Int → (List (Int × Int × Int × Int × Unit)) → (List (Int × Int × Int × Int × Unit)) → (List (Int × Int × Unit)) → (List (Int × Int × Unit)) → Option R
  | 0, _, _, _, _, _, _, _, _ => none
  | k + 1, t15x, t16x, t17x, f, f3, f4, groups, members => R0 (G0 k0 hx0 k) hx0 t15x t16x t17x f f3 f4 groups members
theorem zg0 {R : Type} (k0 : Nat) (K : Kont R) : ∀ k : Nat, L0 k0 k K = G0 k0 (fun f f3 f4 groups members => K (.exit 0) [(1, .ptr 0 0 0 0), (4, .own 1), (5, .own 2)] [.box [.int .i64 f, .sl ct2 f3, .sl ct2 f4], .arr ct4 groups, .arr ct4 members]) k := by
  intro k
  induction k with
  | zero => funext t15x t16x t17x f f3 f4 groups members; rfl
  | succ k ih => funext t15x t16x t17x f f3 f4 groups members; rw [zs0, G0]; (try simp only [ih]); try rfl
noncomputable def G1 {R : Type} (k0 : Nat) (hx1 : (Int → (List (Int × Int × Int × Int × Unit)) → (List (Int × Int × Int × Int × Unit)) → (List (Int × Int × Unit)) → (List (Int × Int × Unit)) → Option R)) : Nat → (List (Int × Int × Int × Int × Unit)) → Int → Int → Int → (List (Int × Int × Int × Int × Unit)) → (List (Int × Int × Int × Int × Unit)) → (List (Int × Int × Unit)) → (List (Int × Int × Unit)) → Option R
  | 0, _, _, _, _, _, _, _, _ => none
  | k + 1, t29x, t30x, t31x, f, f3, f4, groups, members => R1 (G1 k0 hx1 k) hx1 t29x t30x t31x f f3 f4 groups members
theorem zg1 {R : Type} (k0 : Nat) (K : Kont R) : ∀ k : Nat, L1 k0 k K = G1 k0 (fun f f3 f4 groups members => K (.exit 2) [(1, .ptr 0 0 0 0), (4, .own 1), (5, .own 2)] [.box [.int .i64 f, .sl ct2 f3, .sl ct2 f4], .arr ct4 groups, .arr ct4 members]) k := by
  intro k
  induction k with
  | zero => funext t29x t30x t31x f f3 f4 groups members; rfl
  | succ k ih => funext t29x t30x t31x f f3 f4 groups members; rw [zs1, G1]; (try simp only [ih, zg0]); try rfl
noncomputable def G2 {R : Type} (k0 : Nat) (hx2 : ((List (Int × Int × Unit)) → (List (Int × Int × Unit)) → Option R)) : Nat → (List (Int × Int × Int × Int × Unit)) → Int → Int → Int → (List (Int × Int × Int × Int × Unit)) → (List (Int × Int × Int × Int × Unit)) → (List (Int × Int × Unit)) → (List (Int × Int × Unit)) → Option R
  | 0, _, _, _, _, _, _, _, _ => none
  | k + 1, t49x, t50x, t51x, f, f3, f4, groups, members => R2 (G2 k0 hx2 k) hx2 t49x t50x t51x f f3 f4 groups members
theorem zg2 {R : Type} (k0 : Nat) (K : Kont R) : ∀ k : Nat, L2 k0 k K = G2 k0 (fun groups members => K (.exit 4) [(4, .own 0), (5, .own 1)] [.arr ct4 groups, .arr ct4 members]) k := by
  intro k
  induction k with
  | zero => funext t49x t50x t51x f f3 f4 groups members; rfl
  | succ k ih => funext t49x t50x t51x f f3 f4 groups members; rw [zs2, G2]; (try simp only [ih, zg0, zg1]); try rfl
noncomputable def FF (k0 : Nat) (f0 : Int) (f1 f2 : List (Int × Int × Int × Int × Unit)) : Option ((List (Int × Int × Unit)) × (List (Int × Int × Unit)) × Unit) := T (G0 k0 (A0 (G1 k0 (A1 (G2 k0 (A2  f0 f1 f2) k0) f0 f1 f2) k0) f0 f1 f2) k0) f0 f1 f2
theorem zrun (k0 : Nat) (f0 : Int) (f1 f2 : List (Int × Int × Int × Int × Unit)) : runFn Tryz.prog ztbl zcfg k0 28 ins_impl_Farm_shares outs_impl_Farm_shares [] (f0, f1, f2, ()) = FF k0 f0 f1 f2 := by
  rw [ztop, FF]; (try simp only [zg0, zg1, zg2, za0, za1, za2]); try rfl
noncomputable def _root_.Go.Rv.F_impl_Farm_shares : Int × (List (Int × Int × Int × Int × Unit)) × (List (Int × Int × Int × Int × Unit)) × Unit → Option ((List (Int × Int × Unit)) × (List (Int × Int × Unit)) × Unit) := fun x => (fun (f0 : Int) (f1 f2 : List (Int × Int × Int × Int × Unit)) => FF (300 + f1.length + f2.length) f0 f1 f2) x.1 x.2.1 x.2.2.1
theorem ztblOK : ∀ g fs S, ztbl g fs = some S → SumOK False Tryz.prog g S := by
  intro g fs S h
  unfold ztbl at h
  split at h
  · rename_i hc; obtain ⟨rfl, rfl⟩ := hc; have := Option.some.inj h; subst this; exact ok_impl_Farm_pour
  cases h
theorem _root_.Go.Rv.ok_impl_Farm_shares : SumOK False Tryz.prog 28 ⟨ins_impl_Farm_shares, outs_impl_Farm_shares, F_impl_Farm_shares, []⟩ := runFn_ok (by kernel_rfl) ztblOK (by kernel_rfl) fun x y h => ⟨zcfg, _, (zrun _ x.1 x.2.1 x.2.2.1).trans h⟩
end impl_Farm_shares
abbrev ins_impl_FarmShares : List Par := [.v true ct3]
abbrev outs_impl_FarmShares : List (Bool × List CT) := [(false, [CT.sl ct4])]
namespace impl_FarmShares
/-! ### loop.example/g00095/impl.FarmShares (function 9) -/
noncomputable def ztbl : Tbl := fun g fs => if g = 27 ∧ fs = [] then some ⟨ins_impl_FarmRight, outs_impl_FarmRight, F_impl_FarmRight, []⟩ else if g = 28 ∧ fs = [] then some ⟨ins_impl_Farm_shares, outs_impl_Farm_shares, F_impl_Farm_shares, []⟩ else none
noncomputable def zbody : Code := ((Tryz.prog.funcs[9]?).bind (·.body)).getD .skip
def zcfg : Nat → List Nat × List Nat := fun k => ([], [])
noncomputable def T  (f0 : Int) (f1 f2 : List (Int × Int × Int × Int × Unit)) : Option ((List (Int × Int × Unit)) × Unit) := (F_impl_FarmRight (f0, f1, f2, ())).bind fun y1 => cond (!y1.1) (some ([], ())) ((F_impl_Farm_shares (f0, f1, f2, ())).bind fun y2 => some (y2.2.1, ()))
theorem ztop (k0 : Nat) (f0 : Int) (f1 f2 : List (Int × Int × Int × Int × Unit)) : runFn Tryz.prog ztbl zcfg k0 9 ins_impl_FarmShares outs_impl_FarmShares [] (f0, f1, f2, ()) = T  f0 f1 f2 := by kernel_rfl
noncomputable def _root_.Go.Rv.F_impl_FarmShares : Int × (List (Int × Int × Int × Int × Unit)) × (List (Int × Int × Int × Int × Unit)) × Unit → Option ((List (Int × Int × Unit)) × Unit) := fun x => T x.1 x.2.1 x.2.2.1
theorem ztblOK : ∀ g fs S, ztbl g fs = some S → SumOK False Tryz.prog g S := by
  intro g fs S h
  unfold ztbl at h
  split at h
  · rename_i hc; obtain ⟨rfl, rfl⟩ := hc; have := Option.some.inj h; subst this; exact ok_impl_FarmRight
  split at h
  · rename_i hc; obtain ⟨rfl, rfl⟩ := hc; have := Option.some.inj h; subst this; exact ok_impl_Farm_shares
  cases h
theorem _root_.Go.Rv.ok_impl_FarmShares : SumOK False Tryz.prog 9 ⟨ins_impl_FarmShares, outs_impl_FarmShares, F_impl_FarmShares, []⟩ := runFn_ok (by kernel_rfl) ztblOK (by kernel_rfl) fun x y h => ⟨zcfg, 0, (ztop 0 x.1 x.2.1 x.2.2.1).trans h⟩
end impl_FarmShares
abbrev ins_laws_eqPart : List Par := [.v true ct4, .v true ct4]
abbrev outs_laws_eqPart : List (Bool × List CT) := [(false, [CT.bool])]
namespace laws_eqPart
/-! ### loop.example/g00095/laws.eqPart (function 29) -/
noncomputable def ztbl : Tbl := fun g fs => none
noncomputable def zbody : Code := ((Tryz.prog.funcs[29]?).bind (·.body)).getD .skip
def zcfg : Nat → List Nat × List Nat := fun k => ([], [])
noncomputable def T  (a0 a1 b0 b1 : Int) : Option (Bool × Unit) := cond (a0 != b0) (some (false, ())) (cond (a1 != b1) (some (false, ())) (some (true, ())))
theorem ztop (k0 : Nat) (a0 a1 b0 b1 : Int) : runFn Tryz.prog ztbl zcfg k0 29 ins_laws_eqPart outs_laws_eqPart [] (a0, a1, b0, b1, ()) = T  a0 a1 b0 b1 := by kernel_rfl
noncomputable def _root_.Go.Rv.F_laws_eqPart : Int × Int × Int × Int × Unit → Option (Bool × Unit) := fun x => T x.1 x.2.1 x.2.2.1 x.2.2.2.1
theorem ztblOK : ∀ g fs S, ztbl g fs = some S → SumOK Dr Tryz.prog g S := by
  intro g fs S h
  unfold ztbl at h
  cases h
theorem _root_.Go.Rv.ok_laws_eqPart : SumOK Dr Tryz.prog 29 ⟨ins_laws_eqPart, outs_laws_eqPart, F_laws_eqPart, []⟩ := runFn_ok (by kernel_rfl) ztblOK (by kernel_rfl) fun x y h => ⟨zcfg, 0, (ztop 0 x.1 x.2.1 x.2.2.1 x.2.2.2.1).trans h⟩
end laws_eqPart
abbrev ins_laws_eqPartS : List Par := [.v false [CT.sl ct4], .v false [CT.sl ct4]]
abbrev outs_laws_eqPartS : List (Bool × List CT) := [(false, [CT.bool])]
namespace laws_eqPartS
/-! ### loop.example/g00095/laws.eqPartS (function 10) -/
noncomputable def ztbl : Tbl := fun g fs => if g = 29 ∧ fs = [] then some ⟨ins_laws_eqPart, outs_laws_eqPart, F_laws_eqPart, []⟩ else none
noncomputable def zbody : Code := ((Tryz.prog.funcs[10]?).bind (·.body)).getD .skip
def zcfg : Nat → List Nat × List Nat := fun k => if k = 4 then ([0, 1, 5], [4]) else ([], [])
noncomputable def R0 {R : Type} (nx0 : ((List (Int × Int × Unit)) → (List (Int × Int × Unit)) → Int → Option R)) (ex0 : (Bool → Option R)) (ex1 : (Unit → Option R)) (a2 b2 : List (Int × Int × Unit)) (i : Int) : Option R := cond (decide (i < (a2.length : Int))) (if 0 ≤ i ∧ i < (a2.length : Int) then if 0 ≤ i ∧ i < (b2.length : Int) then (F_laws_eqPart ((rd (0, 0, ()) a2 i).1, (rd (0, 0, ()) a2 i).2.1, (rd (0, 0, ()) b2 i).1, (rd (0, 0, ()) b2 i).2.1, ())).bind fun y1 => cond (!y1.1) (ex0 false) (nx0 a2 b2 (w64 (i + 1))) else none else none) (ex1 ())
noncomputable def A0  (a b : List (Int × Int × Unit)) (t4x : Bool) : Option (Bool × Unit) := some (t4x, ())
noncomputable def A1  (a b : List (Int × Int × Unit)) (_u : Unit) : Option (Bool × Unit) := some (true, ())
noncomputable def T (lo0 : ((List (Int × Int × Unit)) → (List (Int × Int × Unit)) → Int → Option (Bool × Unit))) (a b : List (Int × Int × Unit)) : Option (Bool × Unit) := cond ((a.length : Int) != (b.length : Int)) (some (false, ())) (lo0 a b 0)
noncomputable def zst0 {R : Type} (k0 : Nat) : Env → List Ob → Kont R → Option R := fun env ob K => runCode Tryz.prog ztbl 27 0 zcfg k0 (codeAt [1, 1, 0, 1, 0, 0] zbody) env ob K
noncomputable def K0 {R : Type} (k0 : Nat) (K : Kont R) : Kont R := blockK 0 (seqK (fun env ob => runCode Tryz.prog ztbl 27 0 zcfg k0 (codeAt [1, 1, 1] zbody) env ob (K)) (K))
noncomputable def L0 {R : Type} (k0 k : Nat) (K : Kont R) (a2 b2 : List (Int × Int × Unit)) (i : Int) : Option R := iter 0 [0, 1, 5] [4] (zst0 k0) k [(0, .sl ct4 a2), (1, .sl ct4 b2), (5, .int .i64 i)] [] K
theorem zs0 {R : Type} (k0 k : Nat) (K : Kont R) (a2 b2 : List (Int × Int × Unit)) (i : Int) : L0 k0 (k + 1) K a2 b2 i = R0 (L0 k0 k K) (fun t4x => K .ret [(4, .bool t4x)] []) (fun _ => K (.exit 0) [(4, .undef)] []) a2 b2 i := by kernel_rfl
theorem za0 (k0 : Nat) (a b : List (Int × Int × Unit)) (t4x : Bool) : K0 (R := (Bool × Unit)) k0 (finK Tryz.prog [.tmp 4] ins_laws_eqPartS outs_laws_eqPartS (a, b, ())) .ret [(4, .bool t4x)] [] = A0  a b t4x := by kernel_rfl
theorem za1 (k0 : Nat) (a b : List (Int × Int × Unit))  : K0 (R := (Bool × Unit)) k0 (finK Tryz.prog [.tmp 4] ins_laws_eqPartS outs_laws_eqPartS (a, b, ())) (.exit 0) [(4, .undef)] [] = A1  a b () := by kernel_rfl
theorem ztop (k0 : Nat) (a b : List (Int × Int × Unit)) : runFn Tryz.prog ztbl zcfg k0 10 ins_laws_eqPartS outs_laws_eqPartS [] (a, b, ()) = T (L0 (R := (Bool × Unit)) k0 k0 (K0 (R := (Bool × Unit)) k0 ((finK Tryz.prog [.tmp 4] ins_laws_eqPartS outs_laws_eqPartS (a, b, ()))))) a b := by kernel_rfl
noncomputable def G0 {R : Type} (k0 : Nat) (hx0 : (Bool → Option R)) (hx1 : (Unit → Option R)) : Nat → (List (Int × Int × Unit)) → (List (Int × Int × Unit)) → Int → Option R
  | 0, _, _, _ => none
  | k + 1, a2, b2, i => R0 (G0 k0 hx0 hx1 k) hx0 hx1 a2 b2 i
theorem zg0 {R : Type} (k0 : Nat) (K : Kont R) : ∀ k : Nat, L0 k0 k K = G0 k0 (fun t4x => K .ret [(4, .bool t4x)] []) (fun _ => K (.exit 0) [(4, .undef)] []) k := by
  intro k
  induction k with
  | zero => funext a2 b2 i; rfl
  | succ k ih => funext a2 b2 i; rw [zs0, G0]; (try simp only [ih]); try rfl
noncomputable def FF (k0 : Nat) (a b : List (Int × Int × Unit)) : Option (Bool × Unit) := T (G0 k0 (A0  a b) (A1  a b) k0) a b
theorem zrun (k0 : Nat) (a b : List (Int × Int × Unit)) : runFn Tryz.prog ztbl zcfg k0 10 ins_laws_eqPartS outs_laws_eqPartS [] (a, b, ()) = FF k0 a b := by
  rw [ztop, FF]; (try simp only [zg0, za0, za1]); try rfl
noncomputable def _root_.Go.Rv.F_laws_eqPartS : (List (Int × Int × Unit)) × (List (Int × Int × Unit)) × Unit → Option (Bool × Unit) := fun x => (fun (a b : List (Int × Int × Unit)) => FF (300 + a.length + b.length) a b) x.1 x.2.1
theorem ztblOK : ∀ g fs S, ztbl g fs = some S → SumOK Dr Tryz.prog g S := by
  intro g fs S h
  unfold ztbl at h
  split at h
  · rename_i hc; obtain ⟨rfl, rfl⟩ := hc; have := Option.some.inj h; subst this; exact ok_laws_eqPart
  cases h
theorem _root_.Go.Rv.ok_laws_eqPartS : SumOK Dr Tryz.prog 10 ⟨ins_laws_eqPartS, outs_laws_eqPartS, F_laws_eqPartS, []⟩ := runFn_ok (by kernel_rfl) ztblOK (by kernel_rfl) fun x y h => ⟨zcfg, _, (zrun _ x.1 x.2.1).trans h⟩
end laws_eqPartS
abbrev ins_laws_eqGroup : List Par := [.v true ct2, .v true ct2]
abbrev outs_laws_eqGroup : List (Bool × List CT) := [(false, [CT.bool])]
namespace laws_eqGroup
/-! ### loop.example/g00095/laws.eqGroup (function 53) -/
noncomputable def ztbl : Tbl := fun g fs => none
noncomputable def zbody : Code := ((Tryz.prog.funcs[53]?).bind (·.body)).getD .skip
def zcfg : Nat → List Nat × List Nat := fun k => ([], [])
noncomputable def T  (a0 a1 a2 a3 b0 b1 b2 b3 : Int) : Option (Bool × Unit) := cond (a0 != b0) (some (false, ())) (cond (a1 != b1) (some (false, ())) (cond (a2 != b2) (some (false, ())) (cond (a3 != b3) (some (false, ())) (some (true, ())))))
theorem ztop (k0 : Nat) (a0 a1 a2 a3 b0 b1 b2 b3 : Int) : runFn Tryz.prog ztbl zcfg k0 53 ins_laws_eqGroup outs_laws_eqGroup [] (a0, a1, a2, a3, b0, b1, b2, b3, ()) = T  a0 a1 a2 a3 b0 b1 b2 b3 := by kernel_rfl
noncomputable def _root_.Go.Rv.F_laws_eqGroup : Int × Int × Int × Int × Int × Int × Int × Int × Unit → Option (Bool × Unit) := fun x => T x.1 x.2.1 x.2.2.1 x.2.2.2.1 x.2.2.2.2.1 x.2.2.2.2.2.1 x.2.2.2.2.2.2.1 x.2.2.2.2.2.2.2.1
theorem ztblOK : ∀ g fs S, ztbl g fs = some S → SumOK Dr Tryz.prog g S := by
  intro g fs S h
  unfold ztbl at h
  cases h
theorem _root_.Go.Rv.ok_laws_eqGroup : SumOK Dr Tryz.prog 53 ⟨ins_laws_eqGroup, outs_laws_eqGroup, F_laws_eqGroup, []⟩ := runFn_ok (by kernel_rfl) ztblOK (by kernel_rfl) fun x y h => ⟨zcfg, 0, (ztop 0 x.1 x.2.1 x.2.2.1 x.2.2.2.1 x.2.2.2.2.1 x.2.2.2.2.2.1 x.2.2.2.2.2.2.1 x.2.2.2.2.2.2.2.1).trans h⟩
end laws_eqGroup
abbrev ins_laws_eqGroupS : List Par := [.v false [CT.sl ct2], .v false [CT.sl ct2]]
abbrev outs_laws_eqGroupS : List (Bool × List CT) := [(false, [CT.bool])]
namespace laws_eqGroupS
/-! ### loop.example/g00095/laws.eqGroupS (function 30) -/
noncomputable def ztbl : Tbl := fun g fs => if g = 53 ∧ fs = [] then some ⟨ins_laws_eqGroup, outs_laws_eqGroup, F_laws_eqGroup, []⟩ else none
noncomputable def zbody : Code := ((Tryz.prog.funcs[30]?).bind (·.body)).getD .skip
def zcfg : Nat → List Nat × List Nat := fun k => if k = 4 then ([0, 1, 5], [4]) else ([], [])
noncomputable def R0 {R : Type} (nx0 : ((List (Int × Int × Int × Int × Unit)) → (List (Int × Int × Int × Int × Unit)) → Int → Option R)) (ex0 : (Bool → Option R)) (ex1 : (Unit → Option R)) (a2 b2 : List (Int × Int × Int × Int × Unit)) (i : Int) : Option R := cond (decide (i < (a2.length : Int))) (if 0 ≤ i ∧ i < (a2.length : Int) then if 0 ≤ i ∧ i < (b2.length : Int) then (F_laws_eqGroup ((rd (0, 0, 0, 0, ()) a2 i).1, (rd (0, 0, 0, 0, ()) a2 i).2.1, (rd (0, 0, 0, 0, ()) a2 i).2.2.1, (rd (0, 0, 0, 0, ()) a2 i).2.2.2.1, (rd (0, 0, 0, 0, ()) b2 i).1, (rd (0, 0, 0, 0, ()) b2 i).2.1, (rd (0, 0, 0, 0, ()) b2 i).2.2.1, (rd (0, 0, 0, 0, ()) b2 i).2.2.2.1, ())).bind fun y1 => cond (!y1.1) (ex0 false) (nx0 a2 b2 (w64 (i + 1))) else none else none) (ex1 ())
noncomputable def A0  (a b : List (Int × Int × Int × Int × Unit)) (t4x : Bool) : Option (Bool × Unit) := some (t4x, ())
noncomputable def A1  (a b : List (Int × Int × Int × Int × Unit)) (_u : Unit) : Option (Bool × Unit) := some (true, ())
noncomputable def T (lo0 : ((List (Int × Int × Int × Int × Unit)) → (List (Int × Int × Int × Int × Unit)) → Int → Option (Bool × Unit))) (a b : List (Int × Int × Int × Int × Unit)) : Option (Bool × Unit) := cond ((a.length : Int) != (b.length : Int)) (some (false, ())) (lo0 a b 0)
noncomputable def zst0 {R : Type} (k0 : Nat) : Env → List Ob → Kont R → Option R := fun env ob K => runCode Tryz.prog ztbl 27 0 zcfg k0 (codeAt [1, 1, 0, 1, 0, 0] zbody) env ob K
noncomputable def K0 {R : Type} (k0 : Nat) (K : Kont R) : Kont R := blockK 0 (seqK (fun env ob => runCode Tryz.prog ztbl 27 0 zcfg k0 (codeAt [1, 1, 1] zbody) env ob (K)) (K))
noncomputable def L0 {R : Type} (k0 k : Nat) (K : Kont R) (a2 b2 : List (Int × Int × Int × Int × Unit)) (i : Int) : Option R := iter 0 [0, 1, 5] [4] (zst0 k0) k [(0, .sl ct2 a2), (1, .sl ct2 b2), (5, .int .i64 i)] [] K
theorem zs0 {R : Type} (k0 k : Nat) (K : Kont R) (a2 b2 : List (Int × Int × Int × Int × Unit)) (i : Int) : L0 k0 (k + 1) K a2 b2 i = R0 (L0 k0 k K) (fun t4x => K .ret [(4, .bool t4x)] []) (fun _ => K (.exit 0) [(4, .undef)] []) a2 b2 i := by kernel_rfl
theorem za0 (k0 : Nat) (a b : List (Int × Int × Int × Int × Unit)) (t4x : Bool) : K0 (R := (Bool × Unit)) k0 (finK Tryz.prog [.tmp 4] ins_laws_eqGroupS outs_laws_eqGroupS (a, b, ())) .ret [(4, .bool t4x)] [] = A0  a b t4x := by kernel_rfl
theorem za1 (k0 : Nat) (a b : List (Int × Int × Int × Int × Unit))  : K0 (R := (Bool × Unit)) k0 (finK Tryz.prog [.tmp 4] ins_laws_eqGroupS outs_laws_eqGroupS (a, b, ())) (.exit 0) [(4, .undef)] [] = A1  a b () := by kernel_rfl
theorem ztop (k0 : Nat) (a b : List (Int × Int × Int × Int × Unit)) : runFn Tryz.prog ztbl zcfg k0 30 ins_laws_eqGroupS outs_laws_eqGroupS [] (a, b, ()) = T (L0 (R := (Bool × Unit)) k0 k0 (K0 (R := (Bool × Unit)) k0 ((finK Tryz.prog [.tmp 4] ins_laws_eqGroupS outs_laws_eqGroupS (a, b, ()))))) a b := by kernel_rfl
noncomputable def G0 {R : Type} (k0 : Nat) (hx0 : (Bool → Option R)) (hx1 : (Unit → Option R)) : Nat → (List (Int × Int × Int × Int × Unit)) → (List (Int × Int × Int × Int × Unit)) → Int → Option R
  | 0, _, _, _ => none
  | k + 1, a2, b2, i => R0 (G0 k0 hx0 hx1 k) hx0 hx1 a2 b2 i
theorem zg0 {R : Type} (k0 : Nat) (K : Kont R) : ∀ k : Nat, L0 k0 k K = G0 k0 (fun t4x => K .ret [(4, .bool t4x)] []) (fun _ => K (.exit 0) [(4, .undef)] []) k := by
  intro k
  induction k with
  | zero => funext a2 b2 i; rfl
  | succ k ih => funext a2 b2 i; rw [zs0, G0]; (try simp only [ih]); try rfl
noncomputable def FF (k0 : Nat) (a b : List (Int × Int × Int × Int × Unit)) : Option (Bool × Unit) := T (G0 k0 (A0  a b) (A1  a b) k0) a b
theorem zrun (k0 : Nat) (a b : List (Int × Int × Int × Int × Unit)) : runFn Tryz.prog ztbl zcfg k0 30 ins_laws_eqGroupS outs_laws_eqGroupS [] (a, b, ()) = FF k0 a b := by
  rw [ztop, FF]; (try simp only [zg0, za0, za1]); try rfl
noncomputable def _root_.Go.Rv.F_laws_eqGroupS : (List (Int × Int × Int × Int × Unit)) × (List (Int × Int × Int × Int × Unit)) × Unit → Option (Bool × Unit) := fun x => (fun (a b : List (Int × Int × Int × Int × Unit)) => FF (300 + a.length + b.length) a b) x.1 x.2.1
theorem ztblOK : ∀ g fs S, ztbl g fs = some S → SumOK Dr Tryz.prog g S := by
  intro g fs S h
  unfold ztbl at h
  split at h
  · rename_i hc; obtain ⟨rfl, rfl⟩ := hc; have := Option.some.inj h; subst this; exact ok_laws_eqGroup
  cases h
theorem _root_.Go.Rv.ok_laws_eqGroupS : SumOK Dr Tryz.prog 30 ⟨ins_laws_eqGroupS, outs_laws_eqGroupS, F_laws_eqGroupS, []⟩ := runFn_ok (by kernel_rfl) ztblOK (by kernel_rfl) fun x y h => ⟨zcfg, _, (zrun _ x.1 x.2.1).trans h⟩
end laws_eqGroupS
abbrev ins_laws_eqMember : List Par := [.v true ct2, .v true ct2]
abbrev outs_laws_eqMember : List (Bool × List CT) := [(false, [CT.bool])]
namespace laws_eqMember
/-! ### loop.example/g00095/laws.eqMember (function 54) -/
noncomputable def ztbl : Tbl := fun g fs => none
noncomputable def zbody : Code := ((Tryz.prog.funcs[54]?).bind (·.body)).getD .skip
def zcfg : Nat → List Nat × List Nat := fun k => ([], [])
noncomputable def T  (a0 a1 a2 a3 b0 b1 b2 b3 : Int) : Option (Bool × Unit) := cond (a0 != b0) (some (false, ())) (cond (a1 != b1) (some (false, ())) (cond (a2 != b2) (some (false, ())) (cond (a3 != b3) (some (false, ())) (some (true, ())))))
theorem ztop (k0 : Nat) (a0 a1 a2 a3 b0 b1 b2 b3 : Int) : runFn Tryz.prog ztbl zcfg k0 54 ins_laws_eqMember outs_laws_eqMember [] (a0, a1, a2, a3, b0, b1, b2, b3, ()) = T  a0 a1 a2 a3 b0 b1 b2 b3 := by kernel_rfl
noncomputable def _root_.Go.Rv.F_laws_eqMember : Int × Int × Int × Int × Int × Int × Int × Int × Unit → Option (Bool × Unit) := fun x => T x.1 x.2.1 x.2.2.1 x.2.2.2.1 x.2.2.2.2.1 x.2.2.2.2.2.1 x.2.2.2.2.2.2.1 x.2.2.2.2.2.2.2.1
theorem ztblOK : ∀ g fs S, ztbl g fs = some S → SumOK Dr Tryz.prog g S := by
  intro g fs S h
  unfold ztbl at h
  cases h
theorem _root_.Go.Rv.ok_laws_eqMember : SumOK Dr Tryz.prog 54 ⟨ins_laws_eqMember, outs_laws_eqMember, F_laws_eqMember, []⟩ := runFn_ok (by kernel_rfl) ztblOK (by kernel_rfl) fun x y h => ⟨zcfg, 0, (ztop 0 x.1 x.2.1 x.2.2.1 x.2.2.2.1 x.2.2.2.2.1 x.2.2.2.2.2.1 x.2.2.2.2.2.2.1 x.2.2.2.2.2.2.2.1).trans h⟩
end laws_eqMember
abbrev ins_laws_eqMemberS : List Par := [.v false [CT.sl ct2], .v false [CT.sl ct2]]
abbrev outs_laws_eqMemberS : List (Bool × List CT) := [(false, [CT.bool])]
namespace laws_eqMemberS
/-! ### loop.example/g00095/laws.eqMemberS (function 31) -/
noncomputable def ztbl : Tbl := fun g fs => if g = 54 ∧ fs = [] then some ⟨ins_laws_eqMember, outs_laws_eqMember, F_laws_eqMember, []⟩ else none
noncomputable def zbody : Code := ((Tryz.prog.funcs[31]?).bind (·.body)).getD .skip
def zcfg : Nat → List Nat × List Nat := fun k => if k = 4 then ([0, 1, 5], [4]) else ([], [])
noncomputable def R0 {R : Type} (nx0 : ((List (Int × Int × Int × Int × Unit)) → (List (Int × Int × Int × Int × Unit)) → Int → Option R)) (ex0 : (Bool → Option R)) (ex1 : (Unit → Option R)) (a2 b2 : List (Int × Int × Int × Int × Unit)) (i : Int) : Option R := cond (decide (i < (a2.length : Int))) (if 0 ≤ i ∧ i < (a2.length : Int) then if 0 ≤ i ∧ i < (b2.length : Int) then (F_laws_eqMember ((rd (0, 0, 0, 0, ()) a2 i).1, (rd (0, 0, 0, 0, ()) a2 i).2.1, (rd (0, 0, 0, 0, ()) a2 i).2.2.1, (rd (0, 0, 0, 0, ()) a2 i).2.2.2.1, (rd (0, 0, 0, 0, ()) b2 i).1, (rd (0, 0, 0, 0, ()) b2 i).2.1, (rd (0, 0, 0, 0, ()) b2 i).2.2.1, (rd (0, 0, 0, 0, ()) b2 i).2.2.2.1, ())).bind fun y1 => cond (!y1.1) (ex0 false) (nx0 a2 b2 (w64 (i + 1))) else none else none) (ex1 ())
noncomputable def A0  (a b : List (Int × Int × Int × Int × Unit)) (t4x : Bool) : Option (Bool × Unit) := some (t4x, ())
noncomputable def A1  (a b : List (Int × Int × Int × Int × Unit)) (_u : Unit) : Option (Bool × Unit) := some (true, ())
noncomputable def T (lo0 : ((List (Int × Int × Int × Int × Unit)) → (List (Int × Int × Int × Int × Unit)) → Int → Option (Bool × Unit))) (a b : List (Int × Int × Int × Int × Unit)) : Option (Bool × Unit) := cond ((a.length : Int) != (b.length : Int)) (some (false, ())) (lo0 a b 0)
noncomputable def zst0 {R : Type} (k0 : Nat) : Env → List Ob → Kont R → Option R := fun env ob K => runCode Tryz.prog ztbl 27 0 zcfg k0 (codeAt [1, 1, 0, 1, 0, 0] zbody) env ob K
noncomputable def K0 {R : Type} (k0 : Nat) (K : Kont R) : Kont R := blockK 0 (seqK (fun env ob => runCode Tryz.prog ztbl 27 0 zcfg k0 (codeAt [1, 1, 1] zbody) env ob (K)) (K))
noncomputable def L0 {R : Type} (k0 k : Nat) (K : Kont R) (a2 b2 : List (Int × Int × Int × Int × Unit)) (i : Int) : Option R := iter 0 [0, 1, 5] [4] (zst0 k0) k [(0, .sl ct2 a2), (1, .sl ct2 b2), (5, .int .i64 i)] [] K
theorem zs0 {R : Type} (k0 k : Nat) (K : Kont R) (a2 b2 : List (Int × Int × Int × Int × Unit)) (i : Int) : L0 k0 (k + 1) K a2 b2 i = R0 (L0 k0 k K) (fun t4x => K .ret [(4, .bool t4x)] []) (fun _ => K (.exit 0) [(4, .undef)] []) a2 b2 i := by kernel_rfl
theorem za0 (k0 : Nat) (a b : List (Int × Int × Int × Int × Unit)) (t4x : Bool) : K0 (R := (Bool × Unit)) k0 (finK Tryz.prog [.tmp 4] ins_laws_eqMemberS outs_laws_eqMemberS (a, b, ())) .ret [(4, .bool t4x)] [] = A0  a b t4x := by kernel_rfl
theorem za1 (k0 : Nat) (a b : List (Int × Int × Int × Int × Unit))  : K0 (R := (Bool × Unit)) k0 (finK Tryz.prog [.tmp 4] ins_laws_eqMemberS outs_laws_eqMemberS (a, b, ())) (.exit 0) [(4, .undef)] [] = A1  a b () := by kernel_rfl
theorem ztop (k0 : Nat) (a b : List (Int × Int × Int × Int × Unit)) : runFn Tryz.prog ztbl zcfg k0 31 ins_laws_eqMemberS outs_laws_eqMemberS [] (a, b, ()) = T (L0 (R := (Bool × Unit)) k0 k0 (K0 (R := (Bool × Unit)) k0 ((finK Tryz.prog [.tmp 4] ins_laws_eqMemberS outs_laws_eqMemberS (a, b, ()))))) a b := by kernel_rfl
noncomputable def G0 {R : Type} (k0 : Nat) (hx0 : (Bool → Option R)) (hx1 : (Unit → Option R)) : Nat → (List (Int × Int × Int × Int × Unit)) → (List (Int × Int × Int × Int × Unit)) → Int → Option R
  | 0, _, _, _ => none
  | k + 1, a2, b2, i => R0 (G0 k0 hx0 hx1 k) hx0 hx1 a2 b2 i
theorem zg0 {R : Type} (k0 : Nat) (K : Kont R) : ∀ k : Nat, L0 k0 k K = G0 k0 (fun t4x => K .ret [(4, .bool t4x)] []) (fun _ => K (.exit 0) [(4, .undef)] []) k := by
  intro k
  induction k with
  | zero => funext a2 b2 i; rfl
  | succ k ih => funext a2 b2 i; rw [zs0, G0]; (try simp only [ih]); try rfl
noncomputable def FF (k0 : Nat) (a b : List (Int × Int × Int × Int × Unit)) : Option (Bool × Unit) := T (G0 k0 (A0  a b) (A1  a b) k0) a b
theorem zrun (k0 : Nat) (a b : List (Int × Int × Int × Int × Unit)) : runFn Tryz.prog ztbl zcfg k0 31 ins_laws_eqMemberS outs_laws_eqMemberS [] (a, b, ()) = FF k0 a b := by
  rw [ztop, FF]; (try simp only [zg0, za0, za1]); try rfl
noncomputable def _root_.Go.Rv.F_laws_eqMemberS : (List (Int × Int × Int × Int × Unit)) × (List (Int × Int × Int × Int × Unit)) × Unit → Option (Bool × Unit) := fun x => (fun (a b : List (Int × Int × Int × Int × Unit)) => FF (300 + a.length + b.length) a b) x.1 x.2.1
theorem ztblOK : ∀ g fs S, ztbl g fs = some S → SumOK Dr Tryz.prog g S := by
  intro g fs S h
  unfold ztbl at h
  split at h
  · rename_i hc; obtain ⟨rfl, rfl⟩ := hc; have := Option.some.inj h; subst this; exact ok_laws_eqMember
  cases h
theorem _root_.Go.Rv.ok_laws_eqMemberS : SumOK Dr Tryz.prog 31 ⟨ins_laws_eqMemberS, outs_laws_eqMemberS, F_laws_eqMemberS, []⟩ := runFn_ok (by kernel_rfl) ztblOK (by kernel_rfl) fun x y h => ⟨zcfg, _, (zrun _ x.1 x.2.1).trans h⟩
end laws_eqMemberS
abbrev ins_laws_eqFarm : List Par := [.v true ct3, .v true ct3]
abbrev outs_laws_eqFarm : List (Bool × List CT) := [(false, [CT.bool])]
namespace laws_eqFarm
/-! ### loop.example/g00095/laws.eqFarm (function 11) -/
noncomputable def ztbl : Tbl := fun g fs => if g = 30 ∧ fs = [] then some ⟨ins_laws_eqGroupS, outs_laws_eqGroupS, F_laws_eqGroupS, []⟩ else if g = 31 ∧ fs = [] then some ⟨ins_laws_eqMemberS, outs_laws_eqMemberS, F_laws_eqMemberS, []⟩ else none
noncomputable def zbody : Code := ((Tryz.prog.funcs[11]?).bind (·.body)).getD .skip
def zcfg : Nat → List Nat × List Nat := fun k => ([], [])
noncomputable def T  (a0 : Int) (a1 a2 : List (Int × Int × Int × Int × Unit)) (b0 : Int) (b1 b2 : List (Int × Int × Int × Int × Unit)) : Option (Bool × Unit) := cond (a0 != b0) (some (false, ())) ((F_laws_eqGroupS (a1, b1, ())).bind fun y1 => cond (!y1.1) (some (false, ())) ((F_laws_eqMemberS (a2, b2, ())).bind fun y2 => cond (!y2.1) (some (false, ())) (some (true, ()))))
theorem ztop (k0 : Nat) (a0 : Int) (a1 a2 : List (Int × Int × Int × Int × Unit)) (b0 : Int) (b1 b2 : List (Int × Int × Int × Int × Unit)) : runFn Tryz.prog ztbl zcfg k0 11 ins_laws_eqFarm outs_laws_eqFarm [] (a0, a1, a2, b0, b1, b2, ()) = T  a0 a1 a2 b0 b1 b2 := by kernel_rfl
noncomputable def _root_.Go.Rv.F_laws_eqFarm : Int × (List (Int × Int × Int × Int × Unit)) × (List (Int × Int × Int × Int × Unit)) × Int × (List (Int × Int × Int × Int × Unit)) × (List (Int × Int × Int × Int × Unit)) × Unit → Option (Bool × Unit) := fun x => T x.1 x.2.1 x.2.2.1 x.2.2.2.1 x.2.2.2.2.1 x.2.2.2.2.2.1
theorem ztblOK : ∀ g fs S, ztbl g fs = some S → SumOK Dr Tryz.prog g S := by
  intro g fs S h
  unfold ztbl at h
  split at h
  · rename_i hc; obtain ⟨rfl, rfl⟩ := hc; have := Option.some.inj h; subst this; exact ok_laws_eqGroupS
  split at h
  · rename_i hc; obtain ⟨rfl, rfl⟩ := hc; have := Option.some.inj h; subst this; exact ok_laws_eqMemberS
  cases h
theorem _root_.Go.Rv.ok_laws_eqFarm : SumOK Dr Tryz.prog 11 ⟨ins_laws_eqFarm, outs_laws_eqFarm, F_laws_eqFarm, []⟩ := runFn_ok (by kernel_rfl) ztblOK (by kernel_rfl) fun x y h => ⟨zcfg, 0, (ztop 0 x.1 x.2.1 x.2.2.1 x.2.2.2.1 x.2.2.2.2.1 x.2.2.2.2.2.1).trans h⟩
end laws_eqFarm
abbrev ins_laws_markGroupS : List Par := [.w false [CT.sl ct2], .v false [CT.int .i64]]
abbrev outs_laws_markGroupS : List (Bool × List CT) := [(false, [CT.int .i64])]
namespace laws_markGroupS
/-! ### loop.example/g00095/laws.markGroupS (function 32) -/
noncomputable def ztbl : Tbl := fun g fs => none
noncomputable def zbody : Code := ((Tryz.prog.funcs[32]?).bind (·.body)).getD .skip
def zcfg : Nat → List Nat × List Nat := fun k => if k = 2 then ([0, 1, 5], [1]) else ([], [])
noncomputable def R0 {R : Type} (nx0 : (Int → Int → (List (Int × Int × Int × Int × Unit)) → Option R)) (ex0 : (Int → (List (Int × Int × Int × Int × Unit)) → Option R)) (kx i : Int) (a2 : List (Int × Int × Int × Int × Unit)) : Option R := cond (decide (i < (a2.length : Int))) (if 0 ≤ i ∧ i < (a2.length : Int) then if 0 ≤ i ∧ i < ((a2.set i.toNat (kx, (a2.getD i.toNat (0, 0, 0, 0, ())).2.1, (a2.getD i.toNat (0, 0, 0, 0, ())).2.2.1, (a2.getD i.toNat (0, 0, 0, 0, ())).2.2.2.1, ())).length : Int) then if 0 ≤ i ∧ i < (((a2.set i.toNat (kx, (a2.getD i.toNat (0, 0, 0, 0, ())).2.1, (a2.getD i.toNat (0, 0, 0, 0, ())).2.2.1, (a2.getD i.toNat (0, 0, 0, 0, ())).2.2.2.1, ())).set i.toNat (((a2.set i.toNat (kx, (a2.getD i.toNat (0, 0, 0, 0, ())).2.1, (a2.getD i.toNat (0, 0, 0, 0, ())).2.2.1, (a2.getD i.toNat (0, 0, 0, 0, ())).2.2.2.1, ())).getD i.toNat (0, 0, 0, 0, ())).1, (w64 (kx + 1)), ((a2.set i.toNat (kx, (a2.getD i.toNat (0, 0, 0, 0, ())).2.1, (a2.getD i.toNat (0, 0, 0, 0, ())).2.2.1, (a2.getD i.toNat (0, 0, 0, 0, ())).2.2.2.1, ())).getD i.toNat (0, 0, 0, 0, ())).2.2.1, ((a2.set i.toNat (kx, (a2.getD i.toNat (0, 0, 0, 0, ())).2.1, (a2.getD i.toNat (0, 0, 0, 0, ())).2.2.1, (a2.getD i.toNat (0, 0, 0, 0, ())).2.2.2.1, ())).getD i.toNat (0, 0, 0, 0, ())).2.2.2.1, ())).length : Int) then if 0 ≤ i ∧ i < ((((a2.set i.toNat (kx, (a2.getD i.toNat (0, 0, 0, 0, ())).2.1, (a2.getD i.toNat (0, 0, 0, 0, ())).2.2.1, (a2.getD i.toNat (0, 0, 0, 0, ())).2.2.2.1, ())).set i.toNat (((a2.set i.toNat (kx, (a2.getD i.toNat (0, 0, 0, 0, ())).2.1, (a2.getD i.toNat (0, 0, 0, 0, ())).2.2.1, (a2.getD i.toNat (0, 0, 0, 0, ())).2.2.2.1, ())).getD i.toNat (0, 0, 0, 0, ())).1, (w64 (kx + 1)), ((a2.set i.toNat (kx, (a2.getD i.toNat (0, 0, 0, 0, ())).2.1, (a2.getD i.toNat (0, 0, 0, 0, ())).2.2.1, (a2.getD i.toNat (0, 0, 0, 0, ())).2.2.2.1, ())).getD i.toNat (0, 0, 0, 0, ())).2.2.1, ((a2.set i.toNat (kx, (a2.getD i.toNat (0, 0, 0, 0, ())).2.1, (a2.getD i.toNat (0, 0, 0, 0, ())).2.2.1, (a2.getD i.toNat (0, 0, 0, 0, ())).2.2.2.1, ())).getD i.toNat (0, 0, 0, 0, ())).2.2.2.1, ())).set i.toNat ((((a2.set i.toNat (kx, (a2.getD i.toNat (0, 0, 0, 0, ())).2.1, (a2.getD i.toNat (0, 0, 0, 0, ())).2.2.1, (a2.getD i.toNat (0, 0, 0, 0, ())).2.2.2.1, ())).set i.toNat (((a2.set i.toNat (kx, (a2.getD i.toNat (0, 0, 0, 0, ())).2.1, (a2.getD i.toNat (0, 0, 0, 0, ())).2.2.1, (a2.getD i.toNat (0, 0, 0, 0, ())).2.2.2.1, ())).getD i.toNat (0, 0, 0, 0, ())).1, (w64 (kx + 1)), ((a2.set i.toNat (kx, (a2.getD i.toNat (0, 0, 0, 0, ())).2.1, (a2.getD i.toNat (0, 0, 0, 0, ())).2.2.1, (a2.getD i.toNat (0, 0, 0, 0, ())).2.2.2.1, ())).getD i.toNat (0, 0, 0, 0, ())).2.2.1, ((a2.set i.toNat (kx, (a2.getD i.toNat (0, 0, 0, 0, ())).2.1, (a2.getD i.toNat (0, 0, 0, 0, ())).2.2.1, (a2.getD i.toNat (0, 0, 0, 0, ())).2.2.2.1, ())).getD i.toNat (0, 0, 0, 0, ())).2.2.2.1, ())).getD i.toNat (0, 0, 0, 0, ())).1, (((a2.set i.toNat (kx, (a2.getD i.toNat (0, 0, 0, 0, ())).2.1, (a2.getD i.toNat (0, 0, 0, 0, ())).2.2.1, (a2.getD i.toNat (0, 0, 0, 0, ())).2.2.2.1, ())).set i.toNat (((a2.set i.toNat (kx, (a2.getD i.toNat (0, 0, 0, 0, ())).2.1, (a2.getD i.toNat (0, 0, 0, 0, ())).2.2.1, (a2.getD i.toNat (0, 0, 0, 0, ())).2.2.2.1, ())).getD i.toNat (0, 0, 0, 0, ())).1, (w64 (kx + 1)), ((a2.set i.toNat (kx, (a2.getD i.toNat (0, 0, 0, 0, ())).2.1, (a2.getD i.toNat (0, 0, 0, 0, ())).2.2.1, (a2.getD i.toNat (0, 0, 0, 0, ())).2.2.2.1, ())).getD i.toNat (0, 0, 0, 0, ())).2.2.1, ((a2.set i.toNat (kx, (a2.getD i.toNat (0, 0, 0, 0, ())).2.1, (a2.getD i.toNat (0, 0, 0, 0, ())).2.2.1, (a2.getD i.toNat (0, 0, 0, 0, ())).2.2.2.1, ())).getD i.toNat (0, 0, 0, 0, ())).2.2.2.1, ())).getD i.toNat (0, 0, 0, 0, ())).2.1, (w64 ((w64 (kx + 1)) + 1)), (((a2.set i.toNat (kx, (a2.getD i.toNat (0, 0, 0, 0, ())).2.1, (a2.getD i.toNat (0, 0, 0, 0, ())).2.2.1, (a2.getD i.toNat (0, 0, 0, 0, ())).2.2.2.1, ())).set i.toNat (((a2.set i.toNat (kx, (a2.getD i.toNat (0, 0, 0, 0, ())).2.1, (a2.getD i.toNat (0, 0, 0, 0, ())).2.2.1, (a2.getD i.toNat (0, 0, 0, 0, ())).2.2.2.1, ())).getD i.toNat (0, 0, 0, 0, ())).1, (w64 (kx + 1)), ((a2.set i.toNat (kx, (a2.getD i.toNat (0, 0, 0, 0, ())).2.1, (a2.getD i.toNat (0, 0, 0, 0, ())).2.2.1, (a2.getD i.toNat (0, 0, 0, 0, ())).2.2.2.1, ())).getD i.toNat (0, 0, 0, 0, ())).2.2.1, ((a2.set i.toNat (kx, (a2.getD i.toNat (0, 0, 0, 0, ())).2.1, (a2.getD i.toNat (0, 0, 0, 0, ())).2.2.1, (a2.getD i.toNat (0, 0, 0, 0, ())).2.2.2.1, ())).getD i.toNat (0, 0, 0, 0, ())).2.2.2.1, ())).getD i.toNat (0, 0, 0, 0, ())).2.2.2.1, ())).length : Int) then nx0 (w64 ((w64 ((w64 ((w64 (kx + 1)) + 1)) + 1)) + 1)) (w64 (i + 1)) ((((a2.set i.toNat (kx, (a2.getD i.toNat (0, 0, 0, 0, ())).2.1, (a2.getD i.toNat (0, 0, 0, 0, ())).2.2.1, (a2.getD i.toNat (0, 0, 0, 0, ())).2.2.2.1, ())).set i.toNat (((a2.set i.toNat (kx, (a2.getD i.toNat (0, 0, 0, 0, ())).2.1, (a2.getD i.toNat (0, 0, 0, 0, ())).2.2.1, (a2.getD i.toNat (0, 0, 0, 0, ())).2.2.2.1, ())).getD i.toNat (0, 0, 0, 0, ())).1, (w64 (kx + 1)), ((a2.set i.toNat (kx, (a2.getD i.toNat (0, 0, 0, 0, ())).2.1, (a2.getD i.toNat (0, 0, 0, 0, ())).2.2.1, (a2.getD i.toNat (0, 0, 0, 0, ())).2.2.2.1, ())).getD i.toNat (0, 0, 0, 0, ())).2.2.1, ((a2.set i.toNat (kx, (a2.getD i.toNat (0, 0, 0, 0, ())).2.1, (a2.getD i.toNat (0, 0, 0, 0, ())).2.2.1, (a2.getD i.toNat (0, 0, 0, 0, ())).2.2.2.1, ())).getD i.toNat (0, 0, 0, 0, ())).2.2.2.1, ())).set i.toNat ((((a2.set i.toNat (kx, (a2.getD i.toNat (0, 0, 0, 0, ())).2.1, (a2.getD i.toNat (0, 0, 0, 0, ())).2.2.1, (a2.getD i.toNat (0, 0, 0, 0, ())).2.2.2.1, ())).set i.toNat (((a2.set i.toNat (kx, (a2.getD i.toNat (0, 0, 0, 0, ())).2.1, (a2.getD i.toNat (0, 0, 0, 0, ())).2.2.1, (a2.getD i.toNat (0, 0, 0, 0, ())).2.2.2.1, ())).getD i.toNat (0, 0, 0, 0, ())).1, (w64 (kx + 1)), ((a2.set i.toNat (kx, (a2.getD i.toNat (0, 0, 0, 0, ())).2.1, (a2.getD i.toNat (0, 0, 0, 0, ())).2.2.1, (a2.getD i.toNat (0, 0, 0, 0, ())).2.2.2.1, ())).getD i.toNat (0, 0, 0, 0, ())).2.2.1, ((a2.set i.toNat (kx, (a2.getD i.toNat (0, 0, 0, 0, ())).2.1, (a2.getD i.toNat (0, 0, 0, 0, ())).2.2.1, (a2.getD i.toNat (0, 0, 0, 0, ())).2.2.2.1, ())).getD i.toNat (0, 0, 0, 0, ())).2.2.2.1, ())).getD i.toNat (0, 0, 0, 0, ())).1, (((a2.set i.toNat (kx, (a2.getD i.toNat (0, 0, 0, 0, ())).2.1, (a2.getD i.toNat (0, 0, 0, 0, ())).2.2.1, (a2.getD i.toNat (0, 0, 0, 0, ())).2.2.2.1, ())).set i.toNat (((a2.set i.toNat (kx, (a2.getD i.toNat (0, 0, 0, 0, ())).2.1, (a2.getD i.toNat (0, 0, 0, 0, ())).2.2.1, (a2.getD i.toNat (0, 0, 0, 0, ())).2.2.2.1, ())).getD i.toNat (0, 0, 0, 0, ())).1, (w64 (kx + 1)), ((a2.set i.toNat (kx, (a2.getD i.toNat (0, 0, 0, 0, ())).2.1, (a2.getD i.toNat (0, 0, 0, 0, ())).2.2.1, (a2.getD i.toNat (0, 0, 0, 0, ())).2.2.2.1, ())).getD i.toNat (0, 0, 0, 0, ())).2.2.1, ((a2.set i.toNat (kx, (a2.getD i.toNat (0, 0, 0, 0, ())).2.1, (a2.getD i.toNat (0, 0, 0, 0, ())).2.2.1, (a2.getD i.toNat (0, 0, 0, 0, ())).2.2.2.1, ())).getD i.toNat (0, 0, 0, 0, ())).2.2.2.1, ())).getD i.toNat (0, 0, 0, 0, ())).2.1, (w64 ((w64 (kx + 1)) + 1)), (((a2.set i.toNat (kx, (a2.getD i.toNat (0, 0, 0, 0, ())).2.1, (a2.getD i.toNat (0, 0, 0, 0, ())).2.2.1, (a2.getD i.toNat (0, 0, 0, 0, ())).2.2.2.1, ())).set i.toNat (((a2.set i.toNat (kx, (a2.getD i.toNat (0, 0, 0, 0, ())).2.1, (a2.getD i.toNat (0, 0, 0, 0, ())).2.2.1, (a2.getD i.toNat (0, 0, 0, 0, ())).2.2.2.1, ())).getD i.toNat (0, 0, 0, 0, ())).1, (w64 (kx + 1)), ((a2.set i.toNat (kx, (a2.getD i.toNat (0, 0, 0, 0, ())).2.1, (a2.getD i.toNat (0, 0, 0, 0, ())).2.2.1, (a2.getD i.toNat (0, 0, 0, 0, ())).2.2.2.1, ())).getD i.toNat (0, 0, 0, 0, ())).2.2.1, ((a2.set i.toNat (kx, (a2.getD i.toNat (0, 0, 0, 0, ())).2.1, (a2.getD i.toNat (0, 0, 0, 0, ())).2.2.1, (a2.getD i.toNat (0, 0, 0, 0, ())).2.2.2.1, ())).getD i.toNat (0, 0, 0, 0, ())).2.2.2.1, ())).getD i.toNat (0, 0, 0, 0, ())).2.2.2.1, ())).set i.toNat (((((a2.set i.toNat (kx, (a2.getD i.toNat (0, 0, 0, 0, ())).2.1, (a2.getD i.toNat (0, 0, 0, 0, ())).2.2.1, (a2.getD i.toNat (0, 0, 0, 0, ())).2.2.2.1, ())).set i.toNat (((a2.set i.toNat (kx, (a2.getD i.toNat (0, 0, 0, 0, ())).2.1, (a2.getD i.toNat (0, 0, 0, 0, ())).2.2.1, (a2.getD i.toNat (0, 0, 0, 0, ())).2.2.2.1, ())).getD i.toNat (0, 0, 0, 0, ())).1, (w64 (kx + 1)), ((a2.set i.toNat (kx, (a2.getD i.toNat (0, 0, 0, 0, ())).2.1, (a2.getD i.toNat (0, 0, 0, 0, ())).2.2.1, (a2.getD i.toNat (0, 0, 0, 0, ())).2.2.2.1, ())).getD i.toNat (0, 0, 0, 0, ())).2.2.1, ((a2.set i.toNat (kx, (a2.getD i.toNat (0, 0, 0, 0, ())).2.1, (a2.getD i.toNat (0, 0, 0, 0, ())).2.2.1, (a2.getD i.toNat (0, 0, 0, 0, ())).2.2.2.1, ())).getD i.toNat (0, 0, 0, 0, ())).2.2.2.1, ())).set i.toNat ((((a2.set i.toNat (kx, (a2.getD i.toNat (0, 0, 0, 0, ())).2.1, (a2.getD i.toNat (0, 0, 0, 0, ())).2.2.1, (a2.getD i.toNat (0, 0, 0, 0, ())).2.2.2.1, ())).set i.toNat (((a2.set i.toNat (kx, (a2.getD i.toNat (0, 0, 0, 0, ())).2.1, (a2.getD i.toNat (0, 0, 0, 0, ())).2.2.1, (a2.getD i.toNat (0, 0, 0, 0, ())).2.2.2.1, ())).getD i.toNat (0, 0, 0, 0, ())).1, (w64 (kx + 1)), ((a2.set i.toNat (kx, (a2.getD i.toNat (0, 0, 0, 0, ())).2.1, (a2.getD i.toNat (0, 0, 0, 0, ())).2.2.1, (a2.getD i.toNat (0, 0, 0, 0, ())).2.2.2.1, ())).getD i.toNat (0, 0, 0, 0, ())).2.2.1, ((a2.set i.toNat (kx, (a2.getD i.toNat (0, 0, 0, 0, ())).2.1, (a2.getD i.toNat (0, 0, 0, 0, ())).2.2.1, (a2.getD i.toNat (0, 0, 0, 0, ())).2.2.2.1, ())).getD i.toNat (0, 0, 0, 0, ())).2.2.2.1, ())).getD i.toNat (0, 0, 0, 0, ())).1, (((a2.set i.toNat (kx, (a2.getD i.toNat (0, 0, 0, 0, ())).2.1, (a2.getD i.toNat (0, 0, 0, 0, ())).2.2.1, (a2.getD i.toNat (0, 0, 0, 0, ())).2.2.2.1, ())).set i.toNat (((a2.set i.toNat (kx, (a2.getD i.toNat (0, 0, 0, 0, ())).2.1, (a2.getD i.toNat (0, 0, 0, 0, ())).2.2.1, (a2.getD i.toNat (0, 0, 0, 0, ())).2.2.2.1, ())).getD i.toNat (0, 0, 0, 0, ())).1, (w64 (kx + 1)), ((a2.set i.toNat (kx, (a2.getD i.toNat (0, 0, 0, 0, ())).2.1, (a2.getD i.toNat (0, 0, 0, 0, ())).2.2.1, (a2.getD i.toNat (0, 0, 0, 0, ())).2.2.2.1, ())).getD i.toNat (0, 0, 0, 0, ())).2.2.1, ((a2.set i.toNat (kx, (a2.getD i.toNat (0, 0, 0, 0, ())).2.1, (a2.getD i.toNat (0, 0, 0, 0, ())).2.2.1, (a2.getD i.toNat (0, 0, 0, 0, ())).2.2.2.1, ())).getD i.toNat (0, 0, 0, 0, ())).2.2.2.1, ())).getD i.toNat (0, 0, 0, 0, ())).2.1, (w64 ((w64 (kx + 1)) + 1)), (((a2.set i.toNat (kx, (a2.getD i.toNat (0, 0, 0, 0, ())).2.1, (a2.getD i.toNat (0, 0, 0, 0, ())).2.2.1, (a2.getD i.toNat (0, 0, 0, 0, ())).2.2.2.1, ())).set i.toNat (((a2.set i.toNat (kx, (a2.getD i.toNat (0, 0, 0, 0, ())).2.1, (a2.getD i.toNat (0, 0, 0, 0, ())).2.2.1, (a2.getD i.toNat (0, 0, 0, 0, ())).2.2.2.1, ())).getD i.toNat (0, 0, 0, 0, ())).1, (w64 (kx + 1)), ((a2.set i.toNat (kx, (a2.getD i.toNat (0, 0, 0, 0, ())).2.1, (a2.getD i.toNat (0, 0, 0, 0, ())).2.2.1, (a2.getD i.toNat (0, 0, 0, 0, ())).2.2.2.1, ())).getD i.toNat (0, 0, 0, 0, ())).2.2.1, ((a2.set i.toNat (kx, (a2.getD i.toNat (0, 0, 0, 0, ())).2.1, (a2.getD i.toNat (0, 0, 0, 0, ())).2.2.1, (a2.getD i.toNat (0, 0, 0, 0, ())).2.2.2.1, ())).getD i.toNat (0, 0, 0, 0, ())).2.2.2.1, ())).getD i.toNat (0, 0, 0, 0, ())).2.2.2.1, ())).getD i.toNat (0, 0, 0, 0, ())).1, ((((a2.set i.toNat (kx, (a2.getD i.toNat (0, 0, 0, 0, ())).2.1, (a2.getD i.toNat (0, 0, 0, 0, ())).2.2.1, (a2.getD i.toNat (0, 0, 0, 0, ())).2.2.2.1, ())).set i.toNat (((a2.set i.toNat (kx, (a2.getD i.toNat (0, 0, 0, 0, ())).2.1, (a2.getD i.toNat (0, 0, 0, 0, ())).2.2.1, (a2.getD i.toNat (0, 0, 0, 0, ())).2.2.2.1, ())).getD i.toNat (0, 0, 0, 0, ())).1, (w64 (kx + 1)), ((a2.set i.toNat (kx, (a2.getD i.toNat (0, 0, 0, 0, ())).2.1, (a2.getD i.toNat (0, 0, 0, 0, ())).2.2.1, (a2.getD i.toNat (0, 0, 0, 0, ())).2.2.2.1, ())).getD i.toNat (0, 0, 0, 0, ())).2.2.1, ((a2.set i.toNat (kx, (a2.getD i.toNat (0, 0, 0, 0, ())).2.1, (a2.getD i.toNat (0, 0, 0, 0, ())).2.2.1, (a2.getD i.toNat (0, 0, 0, 0, ())).2.2.2.1, ())).getD i.toNat (0, 0, 0, 0, ())).2.2.2.1, ())).set i.toNat ((((a2.set i.toNat (kx, (a2.getD i.toNat (0, 0, 0, 0, ())).2.1, (a2.getD i.toNat (0, 0, 0, 0, ())).2.2.1, (a2.getD i.toNat (0, 0, 0, 0, ())).2.2.2.1, ())).set i.toNat (((a2.set i.toNat (kx, (a2.getD i.toNat (0, 0, 0, 0, ())).2.1, (a2.getD i.toNat (0, 0, 0, 0, ())).2.2.1, (a2.getD i.toNat (0, 0, 0, 0, ())).2.2.2.1, ())).getD i.toNat (0, 0, 0, 0, ())).1, (w64 (kx + 1)), ((a2.set i.toNat (kx, (a2.getD i.toNat (0, 0, 0, 0, ())).2.1, (a2.getD i.toNat (0, 0, 0, 0, ())).2.2.1, (a2.getD i.toNat (0, 0, 0, 0, ())).2.2.2.1, ())).getD i.toNat (0, 0, 0, 0, ())).2.2.1, ((a2.set i.toNat (kx, (a2.getD i.toNat (0, 0, 0, 0, ())).2.1, (a2.getD i.toNat (0, 0, 0, 0, ())).2.2.1, (a2.getD i.toNat (0, 0, 0, 0, ())).2.2.2.1, ())).getD i.toNat (0, 0, 0, 0, ())).2.2.2.1, ())).getD i.toNat (0, 0, 0, 0, ())).1, (((a2.set i.toNat (kx, (a2.getD i.toNat (0, 0, 0, 0, ())).2.1, (a2.getD i.toNat (0, 0, 0, 0, ())).2.2.1, (a2.getD i.toNat (0, 0, 0, 0, ())).2.2.2.1, ())).set i.toNat (((a2.set i.toNat (kx, (a2.getD i.toNat (0, 0, 0, 0, ())).2.1, (a2.getD i.toNat (0, 0, 0, 0, ())).2.2.1, (a2.getD i.toNat (0, 0, 0, 0, ())).2.2.2.1, ())).getD i.toNat (0, 0, 0, 0, ())).1, (w64 (kx + 1)), ((a2.set i.toNat (kx, (a2.getD i.toNat (0, 0, 0, 0, ())).2.1, (a2.getD i.toNat (0, 0, 0, 0, ())).2.2.1, (a2.getD i.toNat (0, 0, 0, 0, ())).2.2.2.1, ())).getD i.toNat (0, 0, 0, 0, ())).2.2.1, ((a2.set i.toNat (kx, (a2.getD i.toNat (0, 0, 0, 0, ())).2.1, (a2.getD i.toNat (0, 0, 0, 0, ())).2.2.1, (a2.getD i.toNat (0, 0, 0, 0, ())).2.2.2.1, ())).getD i.toNat (0, 0, 0, 0, ())).2.2.2.1, ())).getD i.toNat (0, 0, 0, 0, ())).2.1, (w64 ((w64 (kx + 1)) + 1)), (((a2.set i.toNat (kx, (a2.getD i.toNat (0, 0, 0, 0, ())).2.1, (a2.getD i.toNat (0, 0, 0, 0, ())).2.2.1, (a2.getD i.toNat (0, 0, 0, 0, ())).2.2.2.1, ())).set i.toNat (((a2.set i.toNat (kx, (a2.getD i.toNat (0, 0, 0, 0, ())).2.1, (a2.getD i.toNat (0, 0, 0, 0, ())).2.2.1, (a2.getD i.toNat (0, 0, 0, 0, ())).2.2.2.1, ())).getD i.toNat (0, 0, 0, 0, ())).1, (w64 (kx + 1)), ((a2.set i.toNat (kx, (a2.getD i.toNat (0, 0, 0, 0, ())).2.1, (a2.getD i.toNat (0, 0, 0, 0, ())).2.2.1, (a2.getD i.toNat (0, 0, 0, 0, ())).2.2.2.1, ())).getD i.toNat (0, 0, 0, 0, ())).2.2.1, ((a2.set i.toNat (kx, (a2.getD i.toNat (0, 0, 0, 0, ())).2.1, (a2.getD i.toNat (0, 0, 0, 0, ())).2.2.1, (a2.getD i.toNat (0, 0, 0, 0, ())).2.2.2.1, ())).getD i.toNat (0, 0, 0, 0, ())).2.2.2.1, ())).getD i.toNat (0, 0, 0, 0, ())).2.2.2.1, ())).getD i.toNat (0, 0, 0, 0, ())).2.1, ((((a2.set i.toNat (kx, (a2.getD i.toNat (0, 0, 0, 0, ())).2.1, (a2.getD i.toNat (0, 0, 0, 0, ())).2.2.1, (a2.getD i.toNat (0, 0, 0, 0, ())).2.2.2.1, ())).set i.toNat (((a2.set i.toNat (kx, (a2.getD i.toNat (0, 0, 0, 0, ())).2.1, (a2.getD i.toNat (0, 0, 0, 0, ())).2.2.1, (a2.getD i.toNat (0, 0, 0, 0, ())).2.2.2.1, ())).getD i.toNat (0, 0, 0, 0, ())).1, (w64 (kx + 1)), ((a2.set i.toNat (kx, (a2.getD i.toNat (0, 0, 0, 0, ())).2.1, (a2.getD i.toNat (0, 0, 0, 0, ())).2.2.1, (a2.getD i.toNat (0, 0, 0, 0, ())).2.2.2.1, ())).getD i.toNat (0, 0, 0, 0, ())).2.2.1, ((a2.set i.toNat (kx, (a2.getD i.toNat (0, 0, 0, 0, ())).2.1, (a2.getD i.toNat (0, 0, 0, 0, ())).2.2.1, (a2.getD i.toNat (0, 0, 0, 0, ())).2.2.2.1, ())).getD i.toNat (0, 0, 0, 0, ())).2.2.2.1, ())).set i.toNat ((((a2.set i.toNat (kx, (a2.getD i.toNat (0, 0, 0, 0, ())).2.1, (a2.getD i.toNat (0, 0, 0, 0, ())).2.2.1, (a2.getD i.toNat (0, 0, 0, 0, ())).2.2.2.1, ())).set i.toNat (((a2.set i.toNat (kx, (a2.getD i.toNat (0, 0, 0, 0, ())).2.1, (a2.getD i.toNat (0, 0, 0, 0, ())).2.2.1, (a2.getD i.toNat (0, 0, 0, 0, ())).2.2.2.1, ())).getD i.toNat (0, 0, 0, 0, ())).1, (w64 (kx + 1)), ((a2.set i.toNat (kx, (a2.getD i.toNat (0, 0, 0, 0, ())).2.1, (a2.getD i.toNat (0, 0, 0, 0, ())).2.2.1, (a2.getD i.toNat (0, 0, 0, 0, ())).2.2.2.1, ())).getD i.toNat (0, 0, 0, 0, ())).2.2.1, ((a2.set i.toNat (kx, (a2.getD i.toNat (0, 0, 0, 0, ())).2.1, (a2.getD i.toNat (0, 0, 0, 0, ())).2.2.1, (a2.getD i.toNat (0, 0, 0, 0, ())).2.2.2.1, ())).getD i.toNat (0, 0, 0, 0, ())).2.2.2.1, ())).getD i.toNat (0, 0, 0, 0, ())).1, (((a2.set i.toNat (kx, (a2.getD i.toNat (0, 0, 0, 0, ())).2.1, (a2.getD i.toNat (0, 0, 0, 0, ())).2.2.1, (a2.getD i.toNat (0, 0, 0, 0, ())).2.2.2.1, ())).set i.toNat (((a2.set i.toNat (kx, (a2.getD i.toNat (0, 0, 0, 0, ())).2.1, (a2.getD i.toNat (0, 0, 0, 0, ())).2.2.1, (a2.getD i.toNat (0, 0, 0, 0, ())).2.2.2.1, ())).getD i.toNat (0, 0, 0, 0, ())).1, (w64 (kx + 1)), ((a2.set i.toNat (kx, (a2.getD i.toNat (0, 0, 0, 0, ())).2.1, (a2.getD i.toNat (0, 0, 0, 0, ())).2.2.1, (a2.getD i.toNat (0, 0, 0, 0, ())).2.2.2.1, ())).getD i.toNat (0, 0, 0, 0, ())).2.2.1, ((a2.set i.toNat (kx, (a2.getD i.toNat (0, 0, 0, 0, ())).2.1, (a2.getD i.toNat (0, 0, 0, 0, ())).2.2.1, (a2.getD i.toNat (0, 0, 0, 0, ())).2.2.2.1, ())).getD i.toNat (0, 0, 0, 0, ())).2.2.2.1, ())).getD i.toNat (0, 0, 0, 0, ())).2.1, (w64 ((w64 (kx + 1)) + 1)), (((a2.set i.toNat (kx, (a2.getD i.toNat (0, 0, 0, 0, ())).2.1, (a2.getD i.toNat (0, 0, 0, 0, ())).2.2.1, (a2.getD i.toNat (0, 0, 0, 0, ())).2.2.2.1, ())).set i.toNat (((a2.set i.toNat (kx, (a2.getD i.toNat (0, 0, 0, 0, ())).2.1, (a2.getD i.toNat (0, 0, 0, 0, ())).2.2.1, (a2.getD i.toNat (0, 0, 0, 0, ())).2.2.2.1, ())).getD i.toNat (0, 0, 0, 0, ())).1, (w64 (kx + 1)), ((a2.set i.toNat (kx, (a2.getD i.toNat (0, 0, 0, 0, ())).2.1, (a2.getD i.toNat (0, 0, 0, 0, ())).2.2.1, (a2.getD i.toNat (0, 0, 0, 0, ())).2.2.2.1, ())).getD i.toNat (0, 0, 0, 0, ())).2.2.1, ((a2.set i.toNat (kx, (a2.getD i.toNat (0, 0, 0, 0, ())).2.1, (a2.getD i.toNat (0, 0, 0, 0, ())).2.2.1, (a2.getD i.toNat (0, 0, 0, 0, ())).2.2.2.1, ())).getD i.toNat (0, 0, 0, 0, ())).2.2.2.1, ())).getD i.toNat (0, 0, 0, 0, ())).2.2.2.1, ())).getD i.toNat (0, 0, 0, 0, ())).2.2.1, (w64 ((w64 ((w64 (kx + 1)) + 1)) + 1)), ())) else none else none else none else none) (ex0 kx a2)
noncomputable def A0  (a : List (Int × Int × Int × Int × Unit)) (ak : Int) (kx : Int) (o0 : List (Int × Int × Int × Int × Unit)) : Option (Int × (List (Int × Int × Int × Int × Unit)) × Unit) := some (kx, o0, ())
noncomputable def T (lo0 : (Int → Int → (List (Int × Int × Int × Int × Unit)) → Option (Int × (List (Int × Int × Int × Int × Unit)) × Unit))) (a : List (Int × Int × Int × Int × Unit)) (ak : Int) : Option (Int × (List (Int × Int × Int × Int × Unit)) × Unit) := lo0 ak 0 a
noncomputable def zst0 {R : Type} (k0 : Nat) : Env → List Ob → Kont R → Option R := fun env ob K => runCode Tryz.prog ztbl 41 1 zcfg k0 (codeAt [1, 0, 1, 0, 0] zbody) env ob K
noncomputable def K0 {R : Type} (k0 : Nat) (K : Kont R) : Kont R := blockK 0 (seqK (fun env ob => runCode Tryz.prog ztbl 41 1 zcfg k0 (codeAt [1, 1] zbody) env ob (K)) (K))
noncomputable def L0 {R : Type} (k0 k : Nat) (K : Kont R) (kx i : Int) (a2 : List (Int × Int × Int × Int × Unit)) : Option R := iter 1 [0, 1, 5] [1] (zst0 k0) k [(0, .own 0), (1, .int .i64 kx), (5, .int .i64 i)] [.arr ct2 a2] K
theorem zs0 {R : Type} (k0 k : Nat) (K : Kont R) (kx i : Int) (a2 : List (Int × Int × Int × Int × Unit)) : L0 k0 (k + 1) K kx i a2 = R0 (L0 k0 k K) (fun kx o0 => K (.exit 0) [(1, .int .i64 kx)] [.arr ct2 o0]) kx i a2 := by kernel_rfl
theorem za0 (k0 : Nat) (a : List (Int × Int × Int × Int × Unit)) (ak : Int) (kx : Int) (o0 : List (Int × Int × Int × Int × Unit)) : K0 (R := (Int × (List (Int × Int × Int × Int × Unit)) × Unit)) k0 (finK Tryz.prog [.tmp 4] ins_laws_markGroupS outs_laws_markGroupS (a, ak, ())) (.exit 0) [(1, .int .i64 kx)] [.arr ct2 o0] = A0  a ak kx o0 := by kernel_rfl
theorem ztop (k0 : Nat) (a : List (Int × Int × Int × Int × Unit)) (ak : Int) : runFn Tryz.prog ztbl zcfg k0 32 ins_laws_markGroupS outs_laws_markGroupS [] (a, ak, ()) = T (L0 (R := (Int × (List (Int × Int × Int × Int × Unit)) × Unit)) k0 k0 (K0 (R := (Int × (List (Int × Int × Int × Int × Unit)) × Unit)) k0 ((finK Tryz.prog [.tmp 4] ins_laws_markGroupS outs_laws_markGroupS (a, ak, ()))))) a ak := by kernel_rfl
noncomputable def G0 {R : Type} (k0 : Nat) (hx0 : (Int → (List (Int × Int × Int × Int × Unit)) → Option R)) : Nat → Int → Int → (List (Int × Int × Int × Int × Unit)) → Option R
  | 0, _, _, _ => none
  | k + 1, kx, i, a2 => R0 (G0 k0 hx0 k) hx0 kx i a2
theorem zg0 {R : Type} (k0 : Nat) (K : Kont R) : ∀ k : Nat, L0 k0 k K = G0 k0 (fun kx o0 => K (.exit 0) [(1, .int .i64 kx)] [.arr ct2 o0]) k := by
  intro k
  induction k with
  | zero => funext kx i a2; rfl
  | succ k ih => funext kx i a2; rw [zs0, G0]; (try simp only [ih]); try rfl
noncomputable def FF (k0 : Nat) (a : List (Int × Int × Int × Int × Unit)) (ak : Int) : Option (Int × (List (Int × Int × Int × Int × Unit)) × Unit) := T (G0 k0 (A0  a ak) k0) a ak
theorem zrun (k0 : Nat) (a : List (Int × Int × Int × Int × Unit)) (ak : Int) : runFn Tryz.prog ztbl zcfg k0 32 ins_laws_markGroupS outs_laws_markGroupS [] (a, ak, ()) = FF k0 a ak := by
  rw [ztop, FF]; (try simp only [zg0, za0]); try rfl
noncomputable def _root_.Go.Rv.F_laws_markGroupS : (List (Int × Int × Int × Int × Unit)) × Int × Unit → Option (Int × (List (Int × Int × Int × Int × Unit)) × Unit) := fun x => (fun (a : List (Int × Int × Int × Int × Unit)) (ak : Int) => FF (300 + a.length) a ak) x.1 x.2.1
theorem ztblOK : ∀ g fs S, ztbl g fs = some S → SumOK Dr Tryz.prog g S := by
  intro g fs S h
  unfold ztbl at h
  cases h
theorem _root_.Go.Rv.ok_laws_markGroupS : SumOK Dr Tryz.prog 32 ⟨ins_laws_markGroupS, outs_laws_markGroupS, F_laws_markGroupS, []⟩ := runFn_ok (by kernel_rfl) ztblOK (by kernel_rfl) fun x y h => ⟨zcfg, _, (zrun _ x.1 x.2.1).trans h⟩
end laws_markGroupS
abbrev ins_laws_markMemberS : List Par := [.w false [CT.sl ct2], .v false [CT.int .i64]]
abbrev outs_laws_markMemberS : List (Bool × List CT) := [(false, [CT.int .i64])]
namespace laws_markMemberS
/-! ### loop.example/g00095/laws.markMemberS (function 33) -/
noncomputable def ztbl : Tbl := fun g fs => none
noncomputable def zbody : Code := ((Tryz.prog.funcs[33]?).bind (·.body)).getD .skip
def zcfg : Nat → List Nat × List Nat := fun k => if k = 2 then ([0, 1, 5], [1]) else ([], [])
noncomputable def R0 {R : Type} (nx0 : (Int → Int → (List (Int × Int × Int × Int × Unit)) → Option R)) (ex0 : (Int → (List (Int × Int × Int × Int × Unit)) → Option R)) (kx i : Int) (a2 : List (Int × Int × Int × Int × Unit)) : Option R := cond (decide (i < (a2.length : Int))) (if 0 ≤ i ∧ i < (a2.length : Int) then if 0 ≤ i ∧ i < ((a2.set i.toNat (kx, (a2.getD i.toNat (0, 0, 0, 0, ())).2.1, (a2.getD i.toNat (0, 0, 0, 0, ())).2.2.1, (a2.getD i.toNat (0, 0, 0, 0, ())).2.2.2.1, ())).length : Int) then if 0 ≤ i ∧ i < (((a2.set i.toNat (kx, (a2.getD i.toNat (0, 0, 0, 0, ())).2.1, (a2.getD i.toNat (0, 0, 0, 0, ())).2.2.1, (a2.getD i.toNat (0, 0, 0, 0, ())).2.2.2.1, ())).set i.toNat (((a2.set i.toNat (kx, (a2.getD i.toNat (0, 0, 0, 0, ())).2.1, (a2.getD i.toNat (0, 0, 0, 0, ())).2.2.1, (a2.getD i.toNat (0, 0, 0, 0, ())).2.2.2.1, ())).getD i.toNat (0, 0, 0, 0, ())).1, (w64 (kx + 1)), ((a2.set i.toNat (kx, (a2.getD i.toNat (0, 0, 0, 0, ())).2.1, (a2.getD i.toNat (0, 0, 0, 0, ())).2.2.1, (a2.getD i.toNat (0, 0, 0, 0, ())).2.2.2.1, ())).getD i.toNat (0, 0, 0, 0, ())).2.2.1, ((a2.set i.toNat (kx, (a2.getD i.toNat (0, 0, 0, 0, ())).2.1, (a2.getD i.toNat (0, 0, 0, 0, ())).2.2.1, (a2.getD i.toNat (0, 0, 0, 0, ())).2.2.2.1, ())).getD i.toNat (0, 0, 0, 0, ())).2.2.2.1, ())).length : Int) then if 0 ≤ i ∧ i < ((((a2.set i.toNat (kx, (a2.getD i.toNat (0, 0, 0, 0, ())).2.1, (a2.getD i.toNat (0, 0, 0, 0, ())).2.2.1, (a2.getD i.toNat (0, 0, 0, 0, ())).2.2.2.1, ())).set i.toNat (((a2.set i.toNat (kx, (a2.getD i.toNat (0, 0, 0, 0, ())).2.1, (a2.getD i.toNat (0, 0, 0, 0, ())).2.2.1, (a2.getD i.toNat (0, 0, 0, 0, ())).2.2.2.1, ())).getD i.toNat (0, 0, 0, 0, ())).1, (w64 (kx + 1)), ((a2.set i.toNat (kx, (a2.getD i.toNat (0, 0, 0, 0, ())).2.1, (a2.getD i.toNat (0, 0, 0, 0, ())).2.2.1, (a2.getD i.toNat (0, 0, 0, 0, ())).2.2.2.1, ())).getD i.toNat (0, 0, 0, 0, ())).2.2.1, ((a2.set i.toNat (kx, (a2.getD i.toNat (0, 0, 0, 0, ())).2.1, (a2.getD i.toNat (0, 0, 0, 0, ())).2.2.1, (a2.getD i.toNat (0, 0, 0, 0, ())).2.2.2.1, ())).getD i.toNat (0, 0, 0, 0, ())).2.2.2.1, ())).set i.toNat ((((a2.set i.toNat (kx, (a2.getD i.toNat (0, 0, 0, 0, ())).2.1, (a2.getD i.toNat (0, 0, 0, 0, ())).2.2.1, (a2.getD i.toNat (0, 0, 0, 0, ())).2.2.2.1, ())).set i.toNat (((a2.set i.toNat (kx, (a2.getD i.toNat (0, 0, 0, 0, ())).2.1, (a2.getD i.toNat (0, 0, 0, 0, ())).2.2.1, (a2.getD i.toNat (0, 0, 0, 0, ())).2.2.2.1, ())).getD i.toNat (0, 0, 0, 0, ())).1, (w64 (kx + 1)), ((a2.set i.toNat (kx, (a2.getD i.toNat (0, 0, 0, 0, ())).2.1, (a2.getD i.toNat (0, 0, 0, 0, ())).2.2.1, (a2.getD i.toNat (0, 0, 0, 0, ())).2.2.2.1, ())).getD i.toNat (0, 0, 0, 0, ())).2.2.1, ((a2.set i.toNat (kx, (a2.getD i.toNat (0, 0, 0, 0, ())).2.1, (a2.getD i.toNat (0, 0, 0, 0, ())).2.2.1, (a2.getD i.toNat (0, 0, 0, 0, ())).2.2.2.1, ())).getD i.toNat (0, 0, 0, 0, ())).2.2.2.1, ())).getD i.toNat (0, 0, 0, 0, ())).1, (((a2.set i.toNat (kx, (a2.getD i.toNat (0, 0, 0, 0, ())).2.1, (a2.getD i.toNat (0, 0, 0, 0, ())).2.2.1, (a2.getD i.toNat (0, 0, 0, 0, ())).2.2.2.1, ())).set i.toNat (((a2.set i.toNat (kx, (a2.getD i.toNat (0, 0, 0, 0, ())).2.1, (a2.getD i.toNat (0, 0, 0, 0, ())).2.2.1, (a2.getD i.toNat (0, 0, 0, 0, ())).2.2.2.1, ())).getD i.toNat (0, 0, 0, 0, ())).1, (w64 (kx + 1)), ((a2.set i.toNat (kx, (a2.getD i.toNat (0, 0, 0, 0, ())).2.1, (a2.getD i.toNat (0, 0, 0, 0, ())).2.2.1, (a2.getD i.toNat (0, 0, 0, 0, ())).2.2.2.1, ())).getD i.toNat (0, 0, 0, 0, ())).2.2.1, ((a2.set i.toNat (kx, (a2.getD i.toNat (0, 0, 0, 0, ())).2.1, (a2.getD i.toNat (0, 0, 0, 0, ())).2.2.1, (a2.getD i.toNat (0, 0, 0, 0, ())).2.2.2.1, ())).getD i.toNat (0, 0, 0, 0, ())).2.2.2.1, ())).getD i.toNat (0, 0, 0, 0, ())).2.1, (w64 ((w64 (kx + 1)) + 1)), (((a2.set i.toNat (kx, (a2.getD i.toNat (0, 0, 0, 0, ())).2.1, (a2.getD i.toNat (0, 0, 0, 0, ())).2.2.1, (a2.getD i.toNat (0, 0, 0, 0, ())).2.2.2.1, ())).set i.toNat (((a2.set i.toNat (kx, (a2.getD i.toNat (0, 0, 0, 0, ())).2.1, (a2.getD i.toNat (0, 0, 0, 0, ())).2.2.1, (a2.getD i.toNat (0, 0, 0, 0, ())).2.2.2.1, ())).getD i.toNat (0, 0, 0, 0, ())).1, (w64 (kx + 1)), ((a2.set i.toNat (kx, (a2.getD i.toNat (0, 0, 0, 0, ())).2.1, (a2.getD i.toNat (0, 0, 0, 0, ())).2.2.1, (a2.getD i.toNat (0, 0, 0, 0, ())).2.2.2.1, ())).getD i.toNat (0, 0, 0, 0, ())).2.2.1, ((a2.set i.toNat (kx, (a2.getD i.toNat (0, 0, 0, 0, ())).2.1, (a2.getD i.toNat (0, 0, 0, 0, ())).2.2.1, (a2.getD i.toNat (0, 0, 0, 0, ())).2.2.2.1, ())).getD i.toNat (0, 0, 0, 0, ())).2.2.2.1, ())).getD i.toNat (0, 0, 0, 0, ())).2.2.2.1, ())).length : Int) then nx0 (w64 ((w64 ((w64 ((w64 (kx + 1)) + 1)) + 1)) + 1)) (w64 (i + 1)) ((((a2.set i.toNat (kx, (a2.getD i.toNat (0, 0, 0, 0, ())).2.1, (a2.getD i.toNat (0, 0, 0, 0, ())).2.2.1, (a2.getD i.toNat (0, 0, 0, 0, ())).2.2.2.1, ())).set i.toNat (((a2.set i.toNat (kx, (a2.getD i.toNat (0, 0, 0, 0, ())).2.1, (a2.getD i.toNat (0, 0, 0, 0, ())).2.2.1, (a2.getD i.toNat (0, 0, 0, 0, ())).2.2.2.1, ())).getD i.toNat (0, 0, 0, 0, ())).1, (w64 (kx + 1)), ((a2.set i.toNat (kx, (a2.getD i.toNat (0, 0, 0, 0, ())).2.1, (a2.getD i.toNat (0, 0, 0, 0, ())).2.2.1, (a2.getD i.toNat (0, 0, 0, 0, ())).2.2.2.1, ())).getD i.toNat (0, 0, 0, 0, ())).2.2.1, ((a2.set i.toNat (kx, (a2.getD i.toNat (0, 0, 0, 0, ())).2.1, (a2.getD i.toNat (0, 0, 0, 0, ())).2.2.1, (a2.getD i.toNat (0, 0, 0, 0, ())).2.2.2.1, ())).getD i.toNat (0, 0, 0, 0, ())).2.2.2.1, ())).set i.toNat ((((a2.set i.toNat (kx, (a2.getD i.toNat (0, 0, 0, 0, ())).2.1, (a2.getD i.toNat (0, 0, 0, 0, ())).2.2.1, (a2.getD i.toNat (0, 0, 0, 0, ())).2.2.2.1, ())).set i.toNat (((a2.set i.toNat (kx, (a2.getD i.toNat (0, 0, 0, 0, ())).2.1, (a2.getD i.toNat (0, 0, 0, 0, ())).2.2.1, (a2.getD i.toNat (0, 0, 0, 0, ())).2.2.2.1, ())).getD i.toNat (0, 0, 0, 0, ())).1, (w64 (kx + 1)), ((a2.set i.toNat (kx, (a2.getD i.toNat (0, 0, 0, 0, ())).2.1, (a2.getD i.toNat (0, 0, 0, 0, ())).2.2.1, (a2.getD i.toNat (0, 0, 0, 0, ())).2.2.2.1, ())).getD i.toNat (0, 0, 0, 0, ())).2.2.1, ((a2.set i.toNat (kx, (a2.getD i.toNat (0, 0, 0, 0, ())).2.1, (a2.getD i.toNat (0, 0, 0, 0, ())).2.2.1, (a2.getD i.toNat (0, 0, 0, 0, ())).2.2.2.1, ())).getD i.toNat (0, 0, 0, 0, ())).2.2.2.1, ())).getD i.toNat (0, 0, 0, 0, ())).1, (((a2.set i.toNat (kx, (a2.getD i.toNat (0, 0, 0, 0, ())).2.1, (a2.getD i.toNat (0, 0, 0, 0, ())).2.2.1, (a2.getD i.toNat (0, 0, 0, 0, ())).2.2.2.1, ())).set i.toNat (((a2.set i.toNat (kx, (a2.getD i.toNat (0, 0, 0, 0, ())).2.1, (a2.getD i.toNat (0, 0, 0, 0, ())).2.2.1, (a2.getD i.toNat (0, 0, 0, 0, ())).2.2.2.1, ())).getD i.toNat (0, 0, 0, 0, ())).1, (w64 (kx + 1)), ((a2.set i.toNat (kx, (a2.getD i.toNat (0, 0, 0, 0, ())).2.1, (a2.getD i.toNat (0, 0, 0, 0, ())).2.2.1, (a2.getD i.toNat (0, 0, 0, 0, ())).2.2.2.1, ())).getD i.toNat (0, 0, 0, 0, ())).2.2.1, ((a2.set i.toNat (kx, (a2.getD i.toNat (0, 0, 0, 0, ())).2.1, (a2.getD i.toNat (0, 0, 0, 0, ())).2.2.1, (a2.getD i.toNat (0, 0, 0, 0, ())).2.2.2.1, ())).getD i.toNat (0, 0, 0, 0, ())).2.2.2.1, ())).getD i.toNat (0, 0, 0, 0, ())).2.1, (w64 ((w64 (kx + 1)) + 1)), (((a2.set i.toNat (kx, (a2.getD i.toNat (0, 0, 0, 0, ())).2.1, (a2.getD i.toNat (0, 0, 0, 0, ())).2.2.1, (a2.getD i.toNat (0, 0, 0, 0, ())).2.2.2.1, ())).set i.toNat (((a2.set i.toNat (kx, (a2.getD i.toNat (0, 0, 0, 0, ())).2.1, (a2.getD i.toNat (0, 0, 0, 0, ())).2.2.1, (a2.getD i.toNat (0, 0, 0, 0, ())).2.2.2.1, ())).getD i.toNat (0, 0, 0, 0, ())).1, (w64 (kx + 1)), ((a2.set i.toNat (kx, (a2.getD i.toNat (0, 0, 0, 0, ())).2.1, (a2.getD i.toNat (0, 0, 0, 0, ())).2.2.1, (a2.getD i.toNat (0, 0, 0, 0, ())).2.2.2.1, ())).getD i.toNat (0, 0, 0, 0, ())).2.2.1, ((a2.set i.toNat (kx, (a2.getD i.toNat (0, 0, 0, 0, ())).2.1, (a2.getD i.toNat (0, 0, 0, 0, ())).2.2.1, (a2.getD i.toNat (0, 0, 0, 0, ())).2.2.2.1, ())).getD i.toNat (0, 0, 0, 0, ())).2.2.2.1, ())).getD i.toNat (0, 0, 0, 0, ())).2.2.2.1, ())).set i.toNat (((((a2.set i.toNat (kx, (a2.getD i.toNat (0, 0, 0, 0, ())).2.1, (a2.getD i.toNat (0, 0, 0, 0, ())).2.2.1, (a2.getD i.toNat (0, 0, 0, 0, ())).2.2.2.1, ())).set i.toNat (((a2.set i.toNat (kx, (a2.getD i.toNat (0, 0, 0, 0, ())).2.1, (a2.getD i.toNat (0, 0, 0, 0, ())).2.2.1, (a2.getD i.toNat (0, 0, 0, 0, ())).2.2.2.1, ())).getD i.toNat (0, 0, 0, 0, ())).1, (w64 (kx + 1)), ((a2.set i.toNat (kx, (a2.getD i.toNat (0, 0, 0, 0, ())).2.1, (a2.getD i.toNat (0, 0, 0, 0, ())).2.2.1, (a2.getD i.toNat (0, 0, 0, 0, ())).2.2.2.1, ())).getD i.toNat (0, 0, 0, 0, ())).2.2.1, ((a2.set i.toNat (kx, (a2.getD i.toNat (0, 0, 0, 0, ())).2.1, (a2.getD i.toNat (0, 0, 0, 0, ())).2.2.1, (a2.getD i.toNat (0, 0, 0, 0, ())).2.2.2.1, ())).getD i.toNat (0, 0, 0, 0, ())).2.2.2.1, ())).set i.toNat ((((a2.set i.toNat (kx, (a2.getD i.toNat (0, 0, 0, 0, ())).2.1, (a2.getD i.toNat (0, 0, 0, 0, ())).2.2.1, (a2.getD i.toNat (0, 0, 0, 0, ())).2.2.2.1, ())).set i.toNat (((a2.set i.toNat (kx, (a2.getD i.toNat (0, 0, 0, 0, ())).2.1, (a2.getD i.toNat (0, 0, 0, 0, ())).2.2.1, (a2.getD i.toNat (0, 0, 0, 0, ())).2.2.2.1, ())).getD i.toNat (0, 0, 0, 0, ())).1, (w64 (kx + 1)), ((a2.set i.toNat (kx, (a2.getD i.toNat (0, 0, 0, 0, ())).2.1, (a2.getD i.toNat (0, 0, 0, 0, ())).2.2.1, (a2.getD i.toNat (0, 0, 0, 0, ())).2.2.2.1, ())).getD i.toNat (0, 0, 0, 0, ())).2.2.1, ((a2.set i.toNat (kx, (a2.getD i.toNat (0, 0, 0, 0, ())).2.1, (a2.getD i.toNat (0, 0, 0, 0, ())).2.2.1, (a2.getD i.toNat (0, 0, 0, 0, ())).2.2.2.1, ())).getD i.toNat (0, 0, 0, 0, ())).2.2.2.1, ())).getD i.toNat (0, 0, 0, 0, ())).1, (((a2.set i.toNat (kx, (a2.getD i.toNat (0, 0, 0, 0, ())).2.1, (a2.getD i.toNat (0, 0, 0, 0, ())).2.2.1, (a2.getD i.toNat (0, 0, 0, 0, ())).2.2.2.1, ())).set i.toNat (((a2.set i.toNat (kx, (a2.getD i.toNat (0, 0, 0, 0, ())).2.1, (a2.getD i.toNat (0, 0, 0, 0, ())).2.2.1, (a2.getD i.toNat (0, 0, 0, 0, ())).2.2.2.1, ())).getD i.toNat (0, 0, 0, 0, ())).1, (w64 (kx + 1)), ((a2.set i.toNat (kx, (a2.getD i.toNat (0, 0, 0, 0, ())).2.1, (a2.getD i.toNat (0, 0, 0, 0, ())).2.2.1, (a2.getD i.toNat (0, 0, 0, 0, ())).2.2.2.1, ())).getD i.toNat (0, 0, 0, 0, ())).2.2.1, ((a2.set i.toNat (kx, (a2.getD i.toNat (0, 0, 0, 0, ())).2.1, (a2.getD i.toNat (0, 0, 0, 0, ())).2.2.1, (a2.getD i.toNat (0, 0, 0, 0, ())).2.2.2.1, ())).getD i.toNat (0, 0, 0, 0, ())).2.2.2.1, ())).getD i.toNat (0, 0, 0, 0, ())).2.1, (w64 ((w64 (kx + 1)) + 1)), (((a2.set i.toNat (kx, (a2.getD i.toNat (0, 0, 0, 0, ())).2.1, (a2.getD i.toNat (0, 0, 0, 0, ())).2.2.1, (a2.getD i.toNat (0, 0, 0, 0, ())).2.2.2.1, ())).set i.toNat (((a2.set i.toNat (kx, (a2.getD i.toNat (0, 0, 0, 0, ())).2.1, (a2.getD i.toNat (0, 0, 0, 0, ())).2.2.1, (a2.getD i.toNat (0, 0, 0, 0, ())).2.2.2.1, ())).getD i.toNat (0, 0, 0, 0, ())).1, (w64 (kx + 1)), ((a2.set i.toNat (kx, (a2.getD i.toNat (0, 0, 0, 0, ())).2.1, (a2.getD i.toNat (0, 0, 0, 0, ())).2.2.1, (a2.getD i.toNat (0, 0, 0, 0, ())).2.2.2.1, ())).getD i.toNat (0, 0, 0, 0, ())).2.2.1, ((a2.set i.toNat (kx, (a2.getD i.toNat (0, 0, 0, 0, ())).2.1, (a2.getD i.toNat (0, 0, 0, 0, ())).2.2.1, (a2.getD i.toNat (0, 0, 0, 0, ())).2.2.2.1, ())).getD i.toNat (0, 0, 0, 0, ())).2.2.2.1, ())).getD i.toNat (0, 0, 0, 0, ())).2.2.2.1, ())).getD i.toNat (0, 0, 0, 0, ())).1, ((((a2.set i.toNat (kx, (a2.getD i.toNat (0, 0, 0, 0, ())).2.1, (a2.getD i.toNat (0, 0, 0, 0, ())).2.2.1, (a2.getD i.toNat (0, 0, 0, 0, ())).2.2.2.1, ())).set i.toNat (((a2.set i.toNat (kx, (a2.getD i.toNat (0, 0, 0, 0, ())).2.1, (a2.getD i.toNat (0, 0, 0, 0, ())).2.2.1, (a2.getD i.toNat (0, 0, 0, 0, ())).2.2.2.1, ())).getD i.toNat (0, 0, 0, 0, ())).1, (w64 (kx + 1)), ((a2.set i.toNat (kx, (a2.getD i.toNat (0, 0, 0, 0, ())).2.1, (a2.getD i.toNat (0, 0, 0, 0, ())).2.2.1, (a2.getD i.toNat (0, 0, 0, 0, ())).2.2.2.1, ())).getD i.toNat (0, 0, 0, 0, ())).2.2.1, ((a2.set i.toNat (kx, (a2.getD i.toNat (0, 0, 0, 0, ())).2.1, (a2.getD i.toNat (0, 0, 0, 0, ())).2.2.1, (a2.getD i.toNat (0, 0, 0, 0, ())).2.2.2.1, ())).getD i.toNat (0, 0, 0, 0, ())).2.2.2.1, ())).set i.toNat ((((a2.set i.toNat (kx, (a2.getD i.toNat (0, 0, 0, 0, ())).2.1, (a2.getD i.toNat (0, 0, 0, 0, ())).2.2.1, (a2.getD i.toNat (0, 0, 0, 0, ())).2.2.2.1, ())).set i.toNat (((a2.set i.toNat (kx, (a2.getD i.toNat (0, 0, 0, 0, ())).2.1, (a2.getD i.toNat (0, 0, 0, 0, ())).2.2.1, (a2.getD i.toNat (0, 0, 0, 0, ())).2.2.2.1, ())).getD i.toNat (0, 0, 0, 0, ())).1, (w64 (kx + 1)), ((a2.set i.toNat (kx, (a2.getD i.toNat (0, 0, 0, 0, ())).2.1, (a2.getD i.toNat (0, 0, 0, 0, ())).2.2.1, (a2.getD i.toNat (0, 0, 0, 0, ())).2.2.2.1, ())).getD i.toNat (0, 0, 0, 0, ())).2.2.1, ((a2.set i.toNat (kx, (a2.getD i.toNat (0, 0, 0, 0, ())).2.1, (a2.getD i.toNat (0, 0, 0, 0, ())).2.2.1, (a2.getD i.toNat (0, 0, 0, 0, ())).2.2.2.1, ())).getD i.toNat (0, 0, 0, 0, ())).2.2.2.1, ())).getD i.toNat (0, 0, 0, 0, ())).1, (((a2.set i.toNat (kx, (a2.getD i.toNat (0, 0, 0, 0, ())).2.1, (a2.getD i.toNat (0, 0, 0, 0, ())).2.2.1, (a2.getD i.toNat (0, 0, 0, 0, ())).2.2.2.1, ())).set i.toNat (((a2.set i.toNat (kx, (a2.getD i.toNat (0, 0, 0, 0, ())).2.1, (a2.getD i.toNat (0, 0, 0, 0, ())).2.2.1, (a2.getD i.toNat (0, 0, 0, 0, ())).2.2.2.1, ())).getD i.toNat (0, 0, 0, 0, ())).1, (w64 (kx + 1)), ((a2.set i.toNat (kx, (a2.getD i.toNat (0, 0, 0, 0, ())).2.1, (a2.getD i.toNat (0, 0, 0, 0, ())).2.2.1, (a2.getD i.toNat (0, 0, 0, 0, ())).2.2.2.1, ())).getD i.toNat (0, 0, 0, 0, ())).2.2.1, ((a2.set i.toNat (kx, (a2.getD i.toNat (0, 0, 0, 0, ())).2.1, (a2.getD i.toNat (0, 0, 0, 0, ())).2.2.1, (a2.getD i.toNat (0, 0, 0, 0, ())).2.2.2.1, ())).getD i.toNat (0, 0, 0, 0, ())).2.2.2.1, ())).getD i.toNat (0, 0, 0, 0, ())).2.1, (w64 ((w64 (kx + 1)) + 1)), (((a2.set i.toNat (kx, (a2.getD i.toNat (0, 0, 0, 0, ())).2.1, (a2.getD i.toNat (0, 0, 0, 0, ())).2.2.1, (a2.getD i.toNat (0, 0, 0, 0, ())).2.2.2.1, ())).set i.toNat (((a2.set i.toNat (kx, (a2.getD i.toNat (0, 0, 0, 0, ())).2.1, (a2.getD i.toNat (0, 0, 0, 0, ())).2.2.1, (a2.getD i.toNat (0, 0, 0, 0, ())).2.2.2.1, ())).getD i.toNat (0, 0, 0, 0, ())).1, (w64 (kx + 1)), ((a2.set i.toNat (kx, (a2.getD i.toNat (0, 0, 0, 0, ())).2.1, (a2.getD i.toNat (0, 0, 0, 0, ())).2.2.1, (a2.getD i.toNat (0, 0, 0, 0, ())).2.2.2.1, ())).getD i.toNat (0, 0, 0, 0, ())).2.2.1, ((a2.set i.toNat (kx, (a2.getD i.toNat (0, 0, 0, 0, ())).2.1, (a2.getD i.toNat (0, 0, 0, 0, ())).2.2.1, (a2.getD i.toNat (0, 0, 0, 0, ())).2.2.2.1, ())).getD i.toNat (0, 0, 0, 0, ())).2.2.2.1, ())).getD i.toNat (0, 0, 0, 0, ())).2.2.2.1, ())).getD i.toNat (0, 0, 0, 0, ())).2.1, ((((a2.set i.toNat (kx, (a2.getD i.toNat (0, 0, 0, 0, ())).2.1, (a2.getD i.toNat (0, 0, 0, 0, ())).2.2.1, (a2.getD i.toNat (0, 0, 0, 0, ())).2.2.2.1, ())).set i.toNat (((a2.set i.toNat (kx, (a2.getD i.toNat (0, 0, 0, 0, ())).2.1, (a2.getD i.toNat (0, 0, 0, 0, ())).2.2.1, (a2.getD i.toNat (0, 0, 0, 0, ())).2.2.2.1, ())).getD i.toNat (0, 0, 0, 0, ())).1, (w64 (kx + 1)), ((a2.set i.toNat (kx, (a2.getD i.toNat (0, 0, 0, 0, ())).2.1, (a2.getD i.toNat (0, 0, 0, 0, ())).2.2.1, (a2.getD i.toNat (0, 0, 0, 0, ())).2.2.2.1, ())).getD i.toNat (0, 0, 0, 0, ())).2.2.1, ((a2.set i.toNat (kx, (a2.getD i.toNat (0, 0, 0, 0, ())).2.1, (a2.getD i.toNat (0, 0, 0, 0, ())).2.2.1, (a2.getD i.toNat (0, 0, 0, 0, ())).2.2.2.1, ())).getD i.toNat (0, 0, 0, 0, ())).2.2.2.1, ())).set i.toNat ((((a2.set i.toNat (kx, (a2.getD i.toNat (0, 0, 0, 0, ())).2.1, (a2.getD i.toNat (0, 0, 0, 0, ())).2.2.1, (a2.getD i.toNat (0, 0, 0, 0, ())).2.2.2.1, ())).set i.toNat (((a2.set i.toNat (kx, (a2.getD i.toNat (0, 0, 0, 0, ())).2.1, (a2.getD i.toNat (0, 0, 0, 0, ())).2.2.1, (a2.getD i.toNat (0, 0, 0, 0, ())).2.2.2.1, ())).getD i.toNat (0, 0, 0, 0, ())).1, (w64 (kx + 1)), ((a2.set i.toNat (kx, (a2.getD i.toNat (0, 0, 0, 0, ())).2.1, (a2.getD i.toNat (0, 0, 0, 0, ())).2.2.1, (a2.getD i.toNat (0, 0, 0, 0, ())).2.2.2.1, ())).getD i.toNat (0, 0, 0, 0, ())).2.2.1, ((a2.set i.toNat (kx, (a2.getD i.toNat (0, 0, 0, 0, ())).2.1, (a2.getD i.toNat (0, 0, 0, 0, ())).2.2.1, (a2.getD i.toNat (0, 0, 0, 0, ())).2.2.2.1, ())).getD i.toNat (0, 0, 0, 0, ())).2.2.2.1, ())).getD i.toNat (0, 0, 0, 0, ())).1, (((a2.set i.toNat (kx, (a2.getD i.toNat (0, 0, 0, 0, ())).2.1, (a2.getD i.toNat (0, 0, 0, 0, ())).2.2.1, (a2.getD i.toNat (0, 0, 0, 0, ())).2.2.2.1, ())).set i.toNat (((a2.set i.toNat (kx, (a2.getD i.toNat (0, 0, 0, 0, ())).2.1, (a2.getD i.toNat (0, 0, 0, 0, ())).2.2.1, (a2.getD i.toNat (0, 0, 0, 0, ())).2.2.2.1, ())).getD i.toNat (0, 0, 0, 0, ())).1, (w64 (kx + 1)), ((a2.set i.toNat (kx, (a2.getD i.toNat (0, 0, 0, 0, ())).2.1, (a2.getD i.toNat (0, 0, 0, 0, ())).2.2.1, (a2.getD i.toNat (0, 0, 0, 0, ())).2.2.2.1, ())).getD i.toNat (0, 0, 0, 0, ())).2.2.1, ((a2.set i.toNat (kx, (a2.getD i.toNat (0, 0, 0, 0, ())).2.1, (a2.getD i.toNat (0, 0, 0, 0, ())).2.2.1, (a2.getD i.toNat (0, 0, 0, 0, ())).2.2.2.1, ())).getD i.toNat (0, 0, 0, 0, ())).2.2.2.1, ())).getD i.toNat (0, 0, 0, 0, ())).2.1, (w64 ((w64 (kx + 1)) + 1)), (((a2.set i.toNat (kx, (a2.getD i.toNat (0, 0, 0, 0, ())).2.1, (a2.getD i.toNat (0, 0, 0, 0, ())).2.2.1, (a2.getD i.toNat (0, 0, 0, 0, ())).2.2.2.1, ())).set i.toNat (((a2.set i.toNat (kx, (a2.getD i.toNat (0, 0, 0, 0, ())).2.1, (a2.getD i.toNat (0, 0, 0, 0, ())).2.2.1, (a2.getD i.toNat (0, 0, 0, 0, ())).2.2.2.1, ())).getD i.toNat (0, 0, 0, 0, ())).1, (w64 (kx + 1)), ((a2.set i.toNat (kx, (a2.getD i.toNat (0, 0, 0, 0, ())).2.1, (a2.getD i.toNat (0, 0, 0, 0, ())).2.2.1, (a2.getD i.toNat (0, 0, 0, 0, ())).2.2.2.1, ())).getD i.toNat (0, 0, 0, 0, ())).2.2.1, ((a2.set i.toNat (kx, (a2.getD i.toNat (0, 0, 0, 0, ())).2.1, (a2.getD i.toNat (0, 0, 0, 0, ())).2.2.1, (a2.getD i.toNat (0, 0, 0, 0, ())).2.2.2.1, ())).getD i.toNat (0, 0, 0, 0, ())).2.2.2.1, ())).getD i.toNat (0, 0, 0, 0, ())).2.2.2.1, ())).getD i.toNat (0, 0, 0, 0, ())).2.2.1, (w64 ((w64 ((w64 (kx + 1)) + 1)) + 1)), ())) else none else none else none else none) (ex0 kx a2)
noncomputable def A0  (a : List (Int × Int × Int × Int × Unit)) (ak : Int) (kx : Int) (o0 : List (Int × Int × Int × Int × Unit)) : Option (Int × (List (Int × Int × Int × Int × Unit)) × Unit) := some (kx, o0, ())
noncomputable def T (lo0 : (Int → Int → (List (Int × Int × Int × Int × Unit)) → Option (Int × (List (Int × Int × Int × Int × Unit)) × Unit))) (a : List (Int × Int × Int × Int × Unit)) (ak : Int) : Option (Int × (List (Int × Int × Int × Int × Unit)) × Unit) := lo0 ak 0 a
noncomputable def zst0 {R : Type} (k0 : Nat) : Env → List Ob → Kont R → Option R := fun env ob K => runCode Tryz.prog ztbl 41 1 zcfg k0 (codeAt [1, 0, 1, 0, 0] zbody) env ob K
noncomputable def K0 {R : Type} (k0 : Nat) (K : Kont R) : Kont R := blockK 0 (seqK (fun env ob => runCode Tryz.prog ztbl 41 1 zcfg k0 (codeAt [1, 1] zbody) env ob (K)) (K))
noncomputable def L0 {R : Type} (k0 k : Nat) (K : Kont R) (kx i : Int) (a2 : List (Int × Int × Int × Int × Unit)) : Option R := iter 1 [0, 1, 5] [1] (zst0 k0) k [(0, .own 0), (1, .int .i64 kx), (5, .int .i64 i)] [.arr ct2 a2] K
theorem zs0 {R : Type} (k0 k : Nat) (K : Kont R) (kx i : Int) (a2 : List (Int × Int × Int × Int × Unit)) : L0 k0 (k + 1) K kx i a2 = R0 (L0 k0 k K) (fun kx o0 => K (.exit 0) [(1, .int .i64 kx)] [.arr ct2 o0]) kx i a2 := by kernel_rfl
theorem za0 (k0 : Nat) (a : List (Int × Int × Int × Int × Unit)) (ak : Int) (kx : Int) (o0 : List (Int × Int × Int × Int × Unit)) : K0 (R := (Int × (List (Int × Int × Int × Int × Unit)) × Unit)) k0 (finK Tryz.prog [.tmp 4] ins_laws_markMemberS outs_laws_markMemberS (a, ak, ())) (.exit 0) [(1, .int .i64 kx)] [.arr ct2 o0] = A0  a ak kx o0 := by kernel_rfl
theorem ztop (k0 : Nat) (a : List (Int × Int × Int × Int × Unit)) (ak : Int) : runFn Tryz.prog ztbl zcfg k0 33 ins_laws_markMemberS outs_laws_markMemberS [] (a, ak, ()) = T (L0 (R := (Int × (List (Int × Int × Int × Int × Unit)) × Unit)) k0 k0 (K0 (R := (Int × (List (Int × Int × Int × Int × Unit)) × Unit)) k0 ((finK Tryz.prog [.tmp 4] ins_laws_markMemberS outs_laws_markMemberS (a, ak, ()))))) a ak := by kernel_rfl
noncomputable def G0 {R : Type} (k0 : Nat) (hx0 : (Int → (List (Int × Int × Int × Int × Unit)) → Option R)) : Nat → Int → Int → (List (Int × Int × Int × Int × Unit)) → Option R
  | 0, _, _, _ => none
  | k + 1, kx, i, a2 => R0 (G0 k0 hx0 k) hx0 kx i a2
theorem zg0 {R : Type} (k0 : Nat) (K : Kont R) : ∀ k : Nat, L0 k0 k K = G0 k0 (fun kx o0 => K (.exit 0) [(1, .int .i64 kx)] [.arr ct2 o0]) k := by
  intro k
  induction k with
  | zero => funext kx i a2; rfl
  | succ k ih => funext kx i a2; rw [zs0, G0]; (try simp only [ih]); try rfl
noncomputable def FF (k0 : Nat) (a : List (Int × Int × Int × Int × Unit)) (ak : Int) : Option (Int × (List (Int × Int × Int × Int × Unit)) × Unit) := T (G0 k0 (A0  a ak) k0) a ak
theorem zrun (k0 : Nat) (a : List (Int × Int × Int × Int × Unit)) (ak : Int) : runFn Tryz.prog ztbl zcfg k0 33 ins_laws_markMemberS outs_laws_markMemberS [] (a, ak, ()) = FF k0 a ak := by
  rw [ztop, FF]; (try simp only [zg0, za0]); try rfl
noncomputable def _root_.Go.Rv.F_laws_markMemberS : (List (Int × Int × Int × Int × Unit)) × Int × Unit → Option (Int × (List (Int × Int × Int × Int × Unit)) × Unit) := fun x => (fun (a : List (Int × Int × Int × Int × Unit)) (ak : Int) => FF (300 + a.length) a ak) x.1 x.2.1
theorem ztblOK : ∀ g fs S, ztbl g fs = some S → SumOK Dr Tryz.prog g S := by
  intro g fs S h
  unfold ztbl at h
  cases h
theorem _root_.Go.Rv.ok_laws_markMemberS : SumOK Dr Tryz.prog 33 ⟨ins_laws_markMemberS, outs_laws_markMemberS, F_laws_markMemberS, []⟩ := runFn_ok (by kernel_rfl) ztblOK (by kernel_rfl) fun x y h => ⟨zcfg, _, (zrun _ x.1 x.2.1).trans h⟩
end laws_markMemberS
abbrev ins_laws_markFarm : List Par := [.w true ct3, .v false [CT.int .i64]]
abbrev outs_laws_markFarm : List (Bool × List CT) := [(false, [CT.int .i64])]
namespace laws_markFarm
/-! ### loop.example/g00095/laws.markFarm (function 12) -/
noncomputable def ztbl : Tbl := fun g fs => if g = 32 ∧ fs = [] then some ⟨ins_laws_markGroupS, outs_laws_markGroupS, F_laws_markGroupS, []⟩ else if g = 33 ∧ fs = [] then some ⟨ins_laws_markMemberS, outs_laws_markMemberS, F_laws_markMemberS, []⟩ else none
noncomputable def zbody : Code := ((Tryz.prog.funcs[12]?).bind (·.body)).getD .skip
def zcfg : Nat → List Nat × List Nat := fun k => ([], [])
noncomputable def T  (a0 : Int) (a1 a2 : List (Int × Int × Int × Int × Unit)) (ak : Int) : Option (Int × Int × (List (Int × Int × Int × Int × Unit)) × (List (Int × Int × Int × Int × Unit)) × Unit) := (F_laws_markGroupS (a1, ak, ())).bind fun y1 => (F_laws_markMemberS (a2, y1.1, ())).bind fun y2 => some (y2.1, a0, y1.2.1, y2.2.1, ())
theorem ztop (k0 : Nat) (a0 : Int) (a1 a2 : List (Int × Int × Int × Int × Unit)) (ak : Int) : runFn Tryz.prog ztbl zcfg k0 12 ins_laws_markFarm outs_laws_markFarm [] (a0, a1, a2, ak, ()) = T  a0 a1 a2 ak := by kernel_rfl
noncomputable def _root_.Go.Rv.F_laws_markFarm : Int × (List (Int × Int × Int × Int × Unit)) × (List (Int × Int × Int × Int × Unit)) × Int × Unit → Option (Int × Int × (List (Int × Int × Int × Int × Unit)) × (List (Int × Int × Int × Int × Unit)) × Unit) := fun x => T x.1 x.2.1 x.2.2.1 x.2.2.2.1
theorem ztblOK : ∀ g fs S, ztbl g fs = some S → SumOK Dr Tryz.prog g S := by
  intro g fs S h
  unfold ztbl at h
  split at h
  · rename_i hc; obtain ⟨rfl, rfl⟩ := hc; have := Option.some.inj h; subst this; exact ok_laws_markGroupS
  split at h
  · rename_i hc; obtain ⟨rfl, rfl⟩ := hc; have := Option.some.inj h; subst this; exact ok_laws_markMemberS
  cases h
theorem _root_.Go.Rv.ok_laws_markFarm : SumOK Dr Tryz.prog 12 ⟨ins_laws_markFarm, outs_laws_markFarm, F_laws_markFarm, []⟩ := runFn_ok (by kernel_rfl) ztblOK (by kernel_rfl) fun x y h => ⟨zcfg, 0, (ztop 0 x.1 x.2.1 x.2.2.1 x.2.2.2.1).trans h⟩
end laws_markFarm
abbrev ins_laws_markPartS : List Par := [.w false [CT.sl ct4], .v false [CT.int .i64]]
abbrev outs_laws_markPartS : List (Bool × List CT) := [(false, [CT.int .i64])]
namespace laws_markPartS
/-! ### loop.example/g00095/laws.markPartS (function 13) -/
noncomputable def ztbl : Tbl := fun g fs => none
noncomputable def zbody : Code := ((Tryz.prog.funcs[13]?).bind (·.body)).getD .skip
def zcfg : Nat → List Nat × List Nat := fun k => if k = 2 then ([0, 1, 5], [1]) else ([], [])
noncomputable def R0 {R : Type} (nx0 : (Int → Int → (List (Int × Int × Unit)) → Option R)) (ex0 : (Int → (List (Int × Int × Unit)) → Option R)) (kx i : Int) (a2 : List (Int × Int × Unit)) : Option R := cond (decide (i < (a2.length : Int))) (if 0 ≤ i ∧ i < (a2.length : Int) then if 0 ≤ i ∧ i < ((a2.set i.toNat (kx, (a2.getD i.toNat (0, 0, ())).2.1, ())).length : Int) then nx0 (w64 ((w64 (kx + 1)) + 1)) (w64 (i + 1)) ((a2.set i.toNat (kx, (a2.getD i.toNat (0, 0, ())).2.1, ())).set i.toNat (((a2.set i.toNat (kx, (a2.getD i.toNat (0, 0, ())).2.1, ())).getD i.toNat (0, 0, ())).1, (w64 (kx + 1)), ())) else none else none) (ex0 kx a2)
noncomputable def A0  (a : List (Int × Int × Unit)) (ak : Int) (kx : Int) (o0 : List (Int × Int × Unit)) : Option (Int × (List (Int × Int × Unit)) × Unit) := some (kx, o0, ())
noncomputable def T (lo0 : (Int → Int → (List (Int × Int × Unit)) → Option (Int × (List (Int × Int × Unit)) × Unit))) (a : List (Int × Int × Unit)) (ak : Int) : Option (Int × (List (Int × Int × Unit)) × Unit) := lo0 ak 0 a
noncomputable def zst0 {R : Type} (k0 : Nat) : Env → List Ob → Kont R → Option R := fun env ob K => runCode Tryz.prog ztbl 27 1 zcfg k0 (codeAt [1, 0, 1, 0, 0] zbody) env ob K
noncomputable def K0 {R : Type} (k0 : Nat) (K : Kont R) : Kont R := blockK 0 (seqK (fun env ob => runCode Tryz.prog ztbl 27 1 zcfg k0 (codeAt [1, 1] zbody) env ob (K)) (K))
noncomputable def L0 {R : Type} (k0 k : Nat) (K : Kont R) (kx i : Int) (a2 : List (Int × Int × Unit)) : Option R := iter 1 [0, 1, 5] [1] (zst0 k0) k [(0, .own 0), (1, .int .i64 kx), (5, .int .i64 i)] [.arr ct4 a2] K
theorem zs0 {R : Type} (k0 k : Nat) (K : Kont R) (kx i : Int) (a2 : List (Int × Int × Unit)) : L0 k0 (k + 1) K kx i a2 = R0 (L0 k0 k K) (fun kx o0 => K (.exit 0) [(1, .int .i64 kx)] [.arr ct4 o0]) kx i a2 := by kernel_rfl
theorem za0 (k0 : Nat) (a : List (Int × Int × Unit)) (ak : Int) (kx : Int) (o0 : List (Int × Int × Unit)) : K0 (R := (Int × (List (Int × Int × Unit)) × Unit)) k0 (finK Tryz.prog [.tmp 4] ins_laws_markPartS outs_laws_markPartS (a, ak, ())) (.exit 0) [(1, .int .i64 kx)] [.arr ct4 o0] = A0  a ak kx o0 := by kernel_rfl
theorem ztop (k0 : Nat) (a : List (Int × Int × Unit)) (ak : Int) : runFn Tryz.prog ztbl zcfg k0 13 ins_laws_markPartS outs_laws_markPartS [] (a, ak, ()) = T (L0 (R := (Int × (List (Int × Int × Unit)) × Unit)) k0 k0 (K0 (R := (Int × (List (Int × Int × Unit)) × Unit)) k0 ((finK Tryz.prog [.tmp 4] ins_laws_markPartS outs_laws_markPartS (a, ak, ()))))) a ak := by kernel_rfl
noncomputable def G0 {R : Type} (k0 : Nat) (hx0 : (Int → (List (Int × Int × Unit)) → Option R)) : Nat → Int → Int → (List (Int × Int × Unit)) → Option R
  | 0, _, _, _ => none
  | k + 1, kx, i, a2 => R0 (G0 k0 hx0 k) hx0 kx i a2
theorem zg0 {R : Type} (k0 : Nat) (K : Kont R) : ∀ k : Nat, L0 k0 k K = G0 k0 (fun kx o0 => K (.exit 0) [(1, .int .i64 kx)] [.arr ct4 o0]) k := by
  intro k
  induction k with
  | zero => funext kx i a2; rfl
  | succ k ih => funext kx i a2; rw [zs0, G0]; (try simp only [ih]); try rfl
noncomputable def FF (k0 : Nat) (a : List (Int × Int × Unit)) (ak : Int) : Option (Int × (List (Int × Int × Unit)) × Unit) := T (G0 k0 (A0  a ak) k0) a ak
theorem zrun (k0 : Nat) (a : List (Int × Int × Unit)) (ak : Int) : runFn Tryz.prog ztbl zcfg k0 13 ins_laws_markPartS outs_laws_markPartS [] (a, ak, ()) = FF k0 a ak := by
  rw [ztop, FF]; (try simp only [zg0, za0]); try rfl
noncomputable def _root_.Go.Rv.F_laws_markPartS : (List (Int × Int × Unit)) × Int × Unit → Option (Int × (List (Int × Int × Unit)) × Unit) := fun x => (fun (a : List (Int × Int × Unit)) (ak : Int) => FF (300 + a.length) a ak) x.1 x.2.1
theorem ztblOK : ∀ g fs S, ztbl g fs = some S → SumOK Dr Tryz.prog g S := by
  intro g fs S h
  unfold ztbl at h
  cases h
theorem _root_.Go.Rv.ok_laws_markPartS : SumOK Dr Tryz.prog 13 ⟨ins_laws_markPartS, outs_laws_markPartS, F_laws_markPartS, []⟩ := runFn_ok (by kernel_rfl) ztblOK (by kernel_rfl) fun x y h => ⟨zcfg, _, (zrun _ x.1 x.2.1).trans h⟩
end laws_markPartS
abbrev ins_laws_heldPartS : List Par := [.v false [CT.sl ct4], .v false [CT.int .i64]]
abbrev outs_laws_heldPartS : List (Bool × List CT) := [(false, [CT.int .i64])]
namespace laws_heldPartS
/-! ### loop.example/g00095/laws.heldPartS (function 14) -/
noncomputable def ztbl : Tbl := fun g fs => none
noncomputable def zbody : Code := ((Tryz.prog.funcs[14]?).bind (·.body)).getD .skip
def zcfg : Nat → List Nat × List Nat := fun k => if k = 2 then ([0, 1, 5], [1, 4]) else ([], [])
noncomputable def R0 {R : Type} (nx0 : ((List (Int × Int × Unit)) → Int → Int → Option R)) (ex0 : (Int → Int → Option R)) (ex1 : (Int → Option R)) (a2 : List (Int × Int × Unit)) (kx i : Int) : Option R := cond (decide (i < (a2.length : Int))) (if 0 ≤ i ∧ i < (a2.length : Int) then cond ((rd (0, 0, ()) a2 i).1 != kx) (ex0 kx (-1)) (if 0 ≤ i ∧ i < (a2.length : Int) then cond ((rd (0, 0, ()) a2 i).2.1 != (w64 (kx + 1))) (ex0 (w64 (kx + 1)) (-1)) (nx0 a2 (w64 ((w64 (kx + 1)) + 1)) (w64 (i + 1))) else none) else none) (ex1 kx)
noncomputable def A0  (a : List (Int × Int × Unit)) (ak : Int) (kx t4x : Int) : Option (Int × Unit) := some (t4x, ())
noncomputable def A1  (a : List (Int × Int × Unit)) (ak : Int) (kx : Int) : Option (Int × Unit) := some (kx, ())
noncomputable def T (lo0 : ((List (Int × Int × Unit)) → Int → Int → Option (Int × Unit))) (a : List (Int × Int × Unit)) (ak : Int) : Option (Int × Unit) := lo0 a ak 0
noncomputable def zst0 {R : Type} (k0 : Nat) : Env → List Ob → Kont R → Option R := fun env ob K => runCode Tryz.prog ztbl 31 0 zcfg k0 (codeAt [1, 0, 1, 0, 0] zbody) env ob K
noncomputable def K0 {R : Type} (k0 : Nat) (K : Kont R) : Kont R := blockK 0 (seqK (fun env ob => runCode Tryz.prog ztbl 31 0 zcfg k0 (codeAt [1, 1] zbody) env ob (K)) (K))
noncomputable def L0 {R : Type} (k0 k : Nat) (K : Kont R) (a2 : List (Int × Int × Unit)) (kx i : Int) : Option R := iter 0 [0, 1, 5] [1, 4] (zst0 k0) k [(0, .sl ct4 a2), (1, .int .i64 kx), (5, .int .i64 i)] [] K
theorem zs0 {R : Type} (k0 k : Nat) (K : Kont R) (a2 : List (Int × Int × Unit)) (kx i : Int) : L0 k0 (k + 1) K a2 kx i = R0 (L0 k0 k K) (fun kx t4x => K .ret [(1, .int .i64 kx), (4, .int .i64 t4x)] []) (fun kx => K (.exit 0) [(1, .int .i64 kx), (4, .undef)] []) a2 kx i := by kernel_rfl
theorem za0 (k0 : Nat) (a : List (Int × Int × Unit)) (ak : Int) (kx t4x : Int) : K0 (R := (Int × Unit)) k0 (finK Tryz.prog [.tmp 4] ins_laws_heldPartS outs_laws_heldPartS (a, ak, ())) .ret [(1, .int .i64 kx), (4, .int .i64 t4x)] [] = A0  a ak kx t4x := by kernel_rfl
theorem za1 (k0 : Nat) (a : List (Int × Int × Unit)) (ak : Int) (kx : Int) : K0 (R := (Int × Unit)) k0 (finK Tryz.prog [.tmp 4] ins_laws_heldPartS outs_laws_heldPartS (a, ak, ())) (.exit 0) [(1, .int .i64 kx), (4, .undef)] [] = A1  a ak kx := by kernel_rfl
theorem ztop (k0 : Nat) (a : List (Int × Int × Unit)) (ak : Int) : runFn Tryz.prog ztbl zcfg k0 14 ins_laws_heldPartS outs_laws_heldPartS [] (a, ak, ()) = T (L0 (R := (Int × Unit)) k0 k0 (K0 (R := (Int × Unit)) k0 ((finK Tryz.prog [.tmp 4] ins_laws_heldPartS outs_laws_heldPartS (a, ak, ()))))) a ak := by kernel_rfl
noncomputable def G0 {R : Type} (k0 : Nat) (hx0 : (Int → Int → Option R)) (hx1 : (Int → Option R)) : Nat → (List (Int × Int × Unit)) → Int → Int → Option R
  | 0, _, _, _ => none
  | k + 1, a2, kx, i => R0 (G0 k0 hx0 hx1 k) hx0 hx1 a2 kx i
theorem zg0 {R : Type} (k0 : Nat) (K : Kont R) : ∀ k : Nat, L0 k0 k K = G0 k0 (fun kx t4x => K .ret [(1, .int .i64 kx), (4, .int .i64 t4x)] []) (fun kx => K (.exit 0) [(1, .int .i64 kx), (4, .undef)] []) k := by
  intro k
  induction k with
  | zero => funext a2 kx i; rfl
  | succ k ih => funext a2 kx i; rw [zs0, G0]; (try simp only [ih]); try rfl
noncomputable def FF (k0 : Nat) (a : List (Int × Int × Unit)) (ak : Int) : Option (Int × Unit) := T (G0 k0 (A0  a ak) (A1  a ak) k0) a ak
theorem zrun (k0 : Nat) (a : List (Int × Int × Unit)) (ak : Int) : runFn Tryz.prog ztbl zcfg k0 14 ins_laws_heldPartS outs_laws_heldPartS [] (a, ak, ()) = FF k0 a ak := by
  rw [ztop, FF]; (try simp only [zg0, za0, za1]); try rfl
noncomputable def _root_.Go.Rv.F_laws_heldPartS : (List (Int × Int × Unit)) × Int × Unit → Option (Int × Unit) := fun x => (fun (a : List (Int × Int × Unit)) (ak : Int) => FF (300 + a.length) a ak) x.1 x.2.1
theorem ztblOK : ∀ g fs S, ztbl g fs = some S → SumOK Dr Tryz.prog g S := by
  intro g fs S h
  unfold ztbl at h
  cases h
theorem _root_.Go.Rv.ok_laws_heldPartS : SumOK Dr Tryz.prog 14 ⟨ins_laws_heldPartS, outs_laws_heldPartS, F_laws_heldPartS, []⟩ := runFn_ok (by kernel_rfl) ztblOK (by kernel_rfl) fun x y h => ⟨zcfg, _, (zrun _ x.1 x.2.1).trans h⟩
end laws_heldPartS
abbrev ins_laws_FnExactFarmShares : List Par := [.v true ct3]
abbrev outs_laws_FnExactFarmShares : List (Bool × List CT) := [(false, [CT.bool])]
namespace laws_FnExactFarmShares
/-! ### loop.example/g00095/laws.FnExactFarmShares (function 3) -/
noncomputable def ztbl : Tbl := fun g fs => if g = 6 ∧ fs = [] then some ⟨ins_laws_szFarm, outs_laws_szFarm, F_laws_szFarm, []⟩ else if g = 7 ∧ fs = [] then some ⟨ins_spec_FarmShares, outs_spec_FarmShares, F_spec_FarmShares, []⟩ else if g = 8 ∧ fs = [] then some ⟨ins_laws_toFarm, outs_laws_toFarm, F_laws_toFarm, []⟩ else if g = 9 ∧ fs = [] then some ⟨ins_impl_FarmShares, outs_impl_FarmShares, F_impl_FarmShares, []⟩ else if g = 10 ∧ fs = [] then some ⟨ins_laws_eqPartS, outs_laws_eqPartS, F_laws_eqPartS, []⟩ else if g = 11 ∧ fs = [] then some ⟨ins_laws_eqFarm, outs_laws_eqFarm, F_laws_eqFarm, []⟩ else if g = 12 ∧ fs = [] then some ⟨ins_laws_markFarm, outs_laws_markFarm, F_laws_markFarm, []⟩ else if g = 13 ∧ fs = [] then some ⟨ins_laws_markPartS, outs_laws_markPartS, F_laws_markPartS, []⟩ else if g = 14 ∧ fs = [] then some ⟨ins_laws_heldPartS, outs_laws_heldPartS, F_laws_heldPartS, []⟩ else none
noncomputable def zbody : Code := ((Tryz.prog.funcs[3]?).bind (·.body)).getD .skip
def zcfg : Nat → List Nat × List Nat := fun k => ([], [])
noncomputable def T  (aF0 : Int) (aF1 aF2 : List (Int × Int × Int × Int × Unit)) : Option (Bool × Unit) := (F_laws_szFarm (aF0, aF1, aF2, 1048576, ())).bind fun y1 => cond (decide (y1.1 < 0)) (some (true, ())) ((F_laws_toFarm (aF0, aF1, aF2, ())).bind fun y2 => (F_spec_FarmShares (y2.1, y2.2.1, y2.2.2.1, ())).bind fun y3 => (F_laws_toFarm (aF0, aF1, aF2, ())).bind fun y4 => (F_impl_FarmShares (y4.1, y4.2.1, y4.2.2.1, ())).bind fun y5 => (F_laws_eqPartS (y5.1, y3.1, ())).bind fun y6 => cond (!y6.1) (some (false, ())) ((F_laws_toFarm (aF0, aF1, aF2, ())).bind fun y7 => (F_laws_eqFarm (y4.1, y4.2.1, y4.2.2.1, y7.1, y7.2.1, y7.2.2.1, ())).bind fun y8 => cond (!y8.1) (some (false, ())) ((F_laws_markFarm (y4.1, y4.2.1, y4.2.2.1, 1, ())).bind fun y9 => cond (decide (y9.1 < 0)) (some (false, ())) ((F_laws_eqPartS (y5.1, y3.1, ())).bind fun y10 => cond (!y10.1) (some (false, ())) ((F_laws_markPartS (y5.1, 1, ())).bind fun y11 => (F_laws_heldPartS (y11.2.1, 1, ())).bind fun y12 => cond (decide (y12.1 < 0)) (some (false, ())) (cond (y12.1 != y11.1) (some (false, ())) ((F_laws_toFarm (aF0, aF1, aF2, ())).bind fun y13 => (F_impl_FarmShares (y13.1, y13.2.1, y13.2.2.1, ())).bind fun y14 => (F_laws_eqPartS (y14.1, y3.1, ())).bind fun y15 => cond (!y15.1) (some (false, ())) ((F_laws_heldPartS (y11.2.1, 1, ())).bind fun y16 => cond (decide (y16.1 < 0)) (some (false, ())) (cond (y16.1 != y11.1) (some (false, ())) (some (true, ())))))))))))
theorem ztop (k0 : Nat) (aF0 : Int) (aF1 aF2 : List (Int × Int × Int × Int × Unit)) : runFn Tryz.prog ztbl zcfg k0 3 ins_laws_FnExactFarmShares outs_laws_FnExactFarmShares [] (aF0, aF1, aF2, ()) = T  aF0 aF1 aF2 := by kernel_rfl
noncomputable def _root_.Go.Rv.F_laws_FnExactFarmShares : Int × (List (Int × Int × Int × Int × Unit)) × (List (Int × Int × Int × Int × Unit)) × Unit → Option (Bool × Unit) := fun x => T x.1 x.2.1 x.2.2.1
theorem ztblOK : ∀ g fs S, ztbl g fs = some S → SumOK False Tryz.prog g S := by
  intro g fs S h
  unfold ztbl at h
  split at h
  · rename_i hc; obtain ⟨rfl, rfl⟩ := hc; have := Option.some.inj h; subst this; exact ok_laws_szFarm
  split at h
  · rename_i hc; obtain ⟨rfl, rfl⟩ := hc; have := Option.some.inj h; subst this; exact ok_spec_FarmShares
  split at h
  · rename_i hc; obtain ⟨rfl, rfl⟩ := hc; have := Option.some.inj h; subst this; exact ok_laws_toFarm
  split at h
  · rename_i hc; obtain ⟨rfl, rfl⟩ := hc; have := Option.some.inj h; subst this; exact ok_impl_FarmShares
  split at h
  · rename_i hc; obtain ⟨rfl, rfl⟩ := hc; have := Option.some.inj h; subst this; exact ok_laws_eqPartS
  split at h
  · rename_i hc; obtain ⟨rfl, rfl⟩ := hc; have := Option.some.inj h; subst this; exact ok_laws_eqFarm
  split at h
  · rename_i hc; obtain ⟨rfl, rfl⟩ := hc; have := Option.some.inj h; subst this; exact ok_laws_markFarm
  split at h
  · rename_i hc; obtain ⟨rfl, rfl⟩ := hc; have := Option.some.inj h; subst this; exact ok_laws_markPartS
  split at h
  · rename_i hc; obtain ⟨rfl, rfl⟩ := hc; have := Option.some.inj h; subst this; exact ok_laws_heldPartS
  cases h
theorem _root_.Go.Rv.ok_laws_FnExactFarmShares : SumOK False Tryz.prog 3 ⟨ins_laws_FnExactFarmShares, outs_laws_FnExactFarmShares, F_laws_FnExactFarmShares, []⟩ := runFn_ok (by kernel_rfl) ztblOK (by kernel_rfl) fun x y h => ⟨zcfg, 0, (ztop 0 x.1 x.2.1 x.2.2.1).trans h⟩
end laws_FnExactFarmShares
abbrev ins_spec_FarmGroups : List Par := [.v true ct3]
abbrev outs_spec_FarmGroups : List (Bool × List CT) := [(false, [CT.sl ct4])]
namespace spec_FarmGroups
/-! ### loop.example/g00095/spec.FarmGroups (function 15) -/
noncomputable def ztbl : Tbl := fun g fs => if g = 23 ∧ fs = [] then some ⟨ins_spec_FarmRight, outs_spec_FarmRight, F_spec_FarmRight, []⟩ else if g = 24 ∧ fs = [] then some ⟨ins_spec_l05All, outs_spec_l05All, F_spec_l05All, []⟩ else none
noncomputable def zbody : Code := ((Tryz.prog.funcs[15]?).bind (·.body)).getD .skip
def zcfg : Nat → List Nat × List Nat := fun k => if k = 6 then ([1, 3, 4, 6], [3]) else ([], [])
noncomputable def R0 {R : Type} (nx0 : (Int → Int → (List (Int × Int × Int × Int × Unit)) → (List (Int × Int × Int × Int × Unit)) → (List (Int × Int × Unit)) → (List (Int × Unit)) → Option R)) (ex0 : ((List (Int × Int × Unit)) → Option R)) (i f : Int) (f3 f4 : List (Int × Int × Int × Int × Unit)) (out : List (Int × Int × Unit)) (groups : List (Int × Unit)) : Option R := cond (decide (i < (f3.length : Int))) (if 0 ≤ i ∧ i < (f3.length : Int) then if 0 ≤ i ∧ i < (groups.length : Int) then if out.length + [((rd (0, 0, 0, 0, ()) f3 i).1, (groups.getD i.toNat (0, ())).1, ())].length ≤ maxRow then nx0 (w64 (i + 1)) f f3 f4 (out ++ [((rd (0, 0, 0, 0, ()) f3 i).1, (groups.getD i.toNat (0, ())).1, ())]) groups else none else none else none) (ex0 out)
noncomputable def A0  (f0 : Int) (f1 f2 : List (Int × Int × Int × Int × Unit)) (out : List (Int × Int × Unit)) : Option ((List (Int × Int × Unit)) × Unit) := some (out, ())
noncomputable def T (lo0 : (Int → Int → (List (Int × Int × Int × Int × Unit)) → (List (Int × Int × Int × Int × Unit)) → (List (Int × Int × Unit)) → (List (Int × Unit)) → Option ((List (Int × Int × Unit)) × Unit))) (f0 : Int) (f1 f2 : List (Int × Int × Int × Int × Unit)) : Option ((List (Int × Int × Unit)) × Unit) := (F_spec_FarmRight (f0, f1, f2, ())).bind fun y1 => cond (!y1.1) (some (([] : List (Int × Int × Unit)), ())) ((F_spec_l05All (f0, f1, f2, ())).bind fun y2 => lo0 0 f0 f1 f2 ([] : List (Int × Int × Unit)) y2.1)
noncomputable def zst0 {R : Type} (k0 : Nat) : Env → List Ob → Kont R → Option R := fun env ob K => runCode Tryz.prog ztbl 39 0 zcfg k0 (codeAt [1, 1, 1, 1, 0, 1, 0, 0] zbody) env ob K
noncomputable def K0 {R : Type} (k0 : Nat) (K : Kont R) : Kont R := blockK 0 (seqK (fun env ob => runCode Tryz.prog ztbl 39 0 zcfg k0 (codeAt [1, 1, 1, 1, 1] zbody) env ob (K)) (K))
noncomputable def L0 {R : Type} (k0 k : Nat) (K : Kont R) (i f : Int) (f3 f4 : List (Int × Int × Int × Int × Unit)) (out : List (Int × Int × Unit)) (groups : List (Int × Unit)) : Option R := iter 0 [1, 3, 4, 6] [3] (zst0 k0) k [(1, .ptr 0 0 0 0), (3, .own 1), (4, .own 2), (6, .int .i64 i)] [.box [.int .i64 f, .sl ct2 f3, .sl ct2 f4], .arr ct4 out, .arr [CT.int .i64] groups] K
theorem zs0 {R : Type} (k0 k : Nat) (K : Kont R) (i f : Int) (f3 f4 : List (Int × Int × Int × Int × Unit)) (out : List (Int × Int × Unit)) (groups : List (Int × Unit)) : L0 k0 (k + 1) K i f f3 f4 out groups = R0 (L0 k0 k K) (fun out => K (.exit 0) [(3, .own 0)] [.arr ct4 out]) i f f3 f4 out groups := by kernel_rfl
theorem za0 (k0 : Nat) (f0 : Int) (f1 f2 : List (Int × Int × Int × Int × Unit)) (out : List (Int × Int × Unit)) : K0 (R := ((List (Int × Int × Unit)) × Unit)) k0 (finK Tryz.prog [.tmp 2] ins_spec_FarmGroups outs_spec_FarmGroups (f0, f1, f2, ())) (.exit 0) [(3, .own 0)] [.arr ct4 out] = A0  f0 f1 f2 out := by kernel_rfl
theorem ztop (k0 : Nat) (f0 : Int) (f1 f2 : List (Int × Int × Int × Int × Unit)) : runFn Tryz.prog ztbl zcfg k0 15 ins_spec_FarmGroups outs_spec_FarmGroups [] (f0, f1, f2, ()) = T (L0 (R := ((List (Int × Int × Unit)) × Unit)) k0 k0 (K0 (R := ((List (Int × Int × Unit)) × Unit)) k0 ((finK Tryz.prog [.tmp 2] ins_spec_FarmGroups outs_spec_FarmGroups (f0, f1, f2, ()))))) f0 f1 f2 := by kernel_rfl
noncomputable def G0 {R : Type} (k0 : Nat) (hx0 : ((List (Int × Int × Unit)) → Option R)) : Nat → Int → Int → (List (Int × Int × Int × Int × Unit)) → (List (Int × Int × Int × Int × Unit)) → (List (Int × Int × Unit)) → (List (Int × Unit)) → Option R
  | 0, _, _, _, _, _, _ => none
  | k + 1, i, f, f3, f4, out, groups => R0 (G0 k0 hx0 k) hx0 i f f3 f4 out groups
theorem zg0 {R : Type} (k0 : Nat) (K : Kont R) : ∀ k : Nat, L0 k0 k K = G0 k0 (fun out => K (.exit 0) [(3, .own 0)] [.arr ct4 out]) k := by
  intro k
  induction k with
  | zero => funext i f f3 f4 out groups; rfl
  | succ k ih => funext i f f3 f4 out groups; rw [zs0, G0]; (try simp only [ih]); try rfl
noncomputable def FF (k0 : Nat) (f0 : Int) (f1 f2 : List (Int × Int × Int × Int × Unit)) : Option ((List (Int × Int × Unit)) × Unit) := T (G0 k0 (A0  f0 f1 f2) k0) f0 f1 f2
theorem zrun (k0 : Nat) (f0 : Int) (f1 f2 : List (Int × Int × Int × Int × Unit)) : runFn Tryz.prog ztbl zcfg k0 15 ins_spec_FarmGroups outs_spec_FarmGroups [] (f0, f1, f2, ()) = FF k0 f0 f1 f2 := by
  rw [ztop, FF]; (try simp only [zg0, za0]); try rfl
noncomputable def _root_.Go.Rv.F_spec_FarmGroups : Int × (List (Int × Int × Int × Int × Unit)) × (List (Int × Int × Int × Int × Unit)) × Unit → Option ((List (Int × Int × Unit)) × Unit) := fun x => (fun (f0 : Int) (f1 f2 : List (Int × Int × Int × Int × Unit)) => FF (300 + f1.length + f2.length) f0 f1 f2) x.1 x.2.1 x.2.2.1
theorem ztblOK : ∀ g fs S, ztbl g fs = some S → SumOK Dr Tryz.prog g S := by
  intro g fs S h
  unfold ztbl at h
  split at h
  · rename_i hc; obtain ⟨rfl, rfl⟩ := hc; have := Option.some.inj h; subst this; exact ok_spec_FarmRight
  split at h
  · rename_i hc; obtain ⟨rfl, rfl⟩ := hc; have := Option.some.inj h; subst this; exact ok_spec_l05All
  cases h
theorem _root_.Go.Rv.ok_spec_FarmGroups : SumOK Dr Tryz.prog 15 ⟨ins_spec_FarmGroups, outs_spec_FarmGroups, F_spec_FarmGroups, []⟩ := runFn_ok (by kernel_rfl) ztblOK (by kernel_rfl) fun x y h => ⟨zcfg, _, (zrun _ x.1 x.2.1 x.2.2.1).trans h⟩
end spec_FarmGroups
abbrev ins_impl_FarmGroups : List Par := [.v true ct3]
abbrev outs_impl_FarmGroups : List (Bool × List CT) := [(false, [CT.sl ct4])]
namespace impl_FarmGroups
/-! ### loop.example/g00095/impl.FarmGroups (function 16) -/
noncomputable def ztbl : Tbl := fun g fs => if g = 27 ∧ fs = [] then some ⟨ins_impl_FarmRight, outs_impl_FarmRight, F_impl_FarmRight, []⟩ else if g = 28 ∧ fs = [] then some ⟨ins_impl_Farm_shares, outs_impl_Farm_shares, F_impl_Farm_shares, []⟩ else none
noncomputable def zbody : Code := ((Tryz.prog.funcs[16]?).bind (·.body)).getD .skip
def zcfg : Nat → List Nat × List Nat := fun k => ([], [])
noncomputable def T  (f0 : Int) (f1 f2 : List (Int × Int × Int × Int × Unit)) : Option ((List (Int × Int × Unit)) × Unit) := (F_impl_FarmRight (f0, f1, f2, ())).bind fun y1 => cond (!y1.1) (some ([], ())) ((F_impl_Farm_shares (f0, f1, f2, ())).bind fun y2 => some (y2.1, ()))
theorem ztop (k0 : Nat) (f0 : Int) (f1 f2 : List (Int × Int × Int × Int × Unit)) : runFn Tryz.prog ztbl zcfg k0 16 ins_impl_FarmGroups outs_impl_FarmGroups [] (f0, f1, f2, ()) = T  f0 f1 f2 := by kernel_rfl
noncomputable def _root_.Go.Rv.F_impl_FarmGroups : Int × (List (Int × Int × Int × Int × Unit)) × (List (Int × Int × Int × Int × Unit)) × Unit → Option ((List (Int × Int × Unit)) × Unit) := fun x => T x.1 x.2.1 x.2.2.1
theorem ztblOK : ∀ g fs S, ztbl g fs = some S → SumOK False Tryz.prog g S := by
  intro g fs S h
  unfold ztbl at h
  split at h
  · rename_i hc; obtain ⟨rfl, rfl⟩ := hc; have := Option.some.inj h; subst this; exact ok_impl_FarmRight
  split at h
  · rename_i hc; obtain ⟨rfl, rfl⟩ := hc; have := Option.some.inj h; subst this; exact ok_impl_Farm_shares
  cases h
theorem _root_.Go.Rv.ok_impl_FarmGroups : SumOK False Tryz.prog 16 ⟨ins_impl_FarmGroups, outs_impl_FarmGroups, F_impl_FarmGroups, []⟩ := runFn_ok (by kernel_rfl) ztblOK (by kernel_rfl) fun x y h => ⟨zcfg, 0, (ztop 0 x.1 x.2.1 x.2.2.1).trans h⟩
end impl_FarmGroups
abbrev ins_laws_FnExactFarmGroups : List Par := [.v true ct3]
abbrev outs_laws_FnExactFarmGroups : List (Bool × List CT) := [(false, [CT.bool])]
namespace laws_FnExactFarmGroups
/-! ### loop.example/g00095/laws.FnExactFarmGroups (function 4) -/
noncomputable def ztbl : Tbl := fun g fs => if g = 6 ∧ fs = [] then some ⟨ins_laws_szFarm, outs_laws_szFarm, F_laws_szFarm, []⟩ else if g = 8 ∧ fs = [] then some ⟨ins_laws_toFarm, outs_laws_toFarm, F_laws_toFarm, []⟩ else if g = 10 ∧ fs = [] then some ⟨ins_laws_eqPartS, outs_laws_eqPartS, F_laws_eqPartS, []⟩ else if g = 11 ∧ fs = [] then some ⟨ins_laws_eqFarm, outs_laws_eqFarm, F_laws_eqFarm, []⟩ else if g = 12 ∧ fs = [] then some ⟨ins_laws_markFarm, outs_laws_markFarm, F_laws_markFarm, []⟩ else if g = 13 ∧ fs = [] then some ⟨ins_laws_markPartS, outs_laws_markPartS, F_laws_markPartS, []⟩ else if g = 14 ∧ fs = [] then some ⟨ins_laws_heldPartS, outs_laws_heldPartS, F_laws_heldPartS, []⟩ else if g = 15 ∧ fs = [] then some ⟨ins_spec_FarmGroups, outs_spec_FarmGroups, F_spec_FarmGroups, []⟩ else if g = 16 ∧ fs = [] then some ⟨ins_impl_FarmGroups, outs_impl_FarmGroups, F_impl_FarmGroups, []⟩ else none
noncomputable def zbody : Code := ((Tryz.prog.funcs[4]?).bind (·.body)).getD .skip
def zcfg : Nat → List Nat × List Nat := fun k => ([], [])
noncomputable def T  (aF0 : Int) (aF1 aF2 : List (Int × Int × Int × Int × Unit)) : Option (Bool × Unit) := (F_laws_szFarm (aF0, aF1, aF2, 1048576, ())).bind fun y1 => cond (decide (y1.1 < 0)) (some (true, ())) ((F_laws_toFarm (aF0, aF1, aF2, ())).bind fun y2 => (F_spec_FarmGroups (y2.1, y2.2.1, y2.2.2.1, ())).bind fun y3 => (F_laws_toFarm (aF0, aF1, aF2, ())).bind fun y4 => (F_impl_FarmGroups (y4.1, y4.2.1, y4.2.2.1, ())).bind fun y5 => (F_laws_eqPartS (y5.1, y3.1, ())).bind fun y6 => cond (!y6.1) (some (false, ())) ((F_laws_toFarm (aF0, aF1, aF2, ())).bind fun y7 => (F_laws_eqFarm (y4.1, y4.2.1, y4.2.2.1, y7.1, y7.2.1, y7.2.2.1, ())).bind fun y8 => cond (!y8.1) (some (false, ())) ((F_laws_markFarm (y4.1, y4.2.1, y4.2.2.1, 1, ())).bind fun y9 => cond (decide (y9.1 < 0)) (some (false, ())) ((F_laws_eqPartS (y5.1, y3.1, ())).bind fun y10 => cond (!y10.1) (some (false, ())) ((F_laws_markPartS (y5.1, 1, ())).bind fun y11 => (F_laws_heldPartS (y11.2.1, 1, ())).bind fun y12 => cond (decide (y12.1 < 0)) (some (false, ())) (cond (y12.1 != y11.1) (some (false, ())) ((F_laws_toFarm (aF0, aF1, aF2, ())).bind fun y13 => (F_impl_FarmGroups (y13.1, y13.2.1, y13.2.2.1, ())).bind fun y14 => (F_laws_eqPartS (y14.1, y3.1, ())).bind fun y15 => cond (!y15.1) (some (false, ())) ((F_laws_heldPartS (y11.2.1, 1, ())).bind fun y16 => cond (decide (y16.1 < 0)) (some (false, ())) (cond (y16.1 != y11.1) (some (false, ())) (some (true, ())))))))))))
theorem ztop (k0 : Nat) (aF0 : Int) (aF1 aF2 : List (Int × Int × Int × Int × Unit)) : runFn Tryz.prog ztbl zcfg k0 4 ins_laws_FnExactFarmGroups outs_laws_FnExactFarmGroups [] (aF0, aF1, aF2, ()) = T  aF0 aF1 aF2 := by kernel_rfl
noncomputable def _root_.Go.Rv.F_laws_FnExactFarmGroups : Int × (List (Int × Int × Int × Int × Unit)) × (List (Int × Int × Int × Int × Unit)) × Unit → Option (Bool × Unit) := fun x => T x.1 x.2.1 x.2.2.1
theorem ztblOK : ∀ g fs S, ztbl g fs = some S → SumOK False Tryz.prog g S := by
  intro g fs S h
  unfold ztbl at h
  split at h
  · rename_i hc; obtain ⟨rfl, rfl⟩ := hc; have := Option.some.inj h; subst this; exact ok_laws_szFarm
  split at h
  · rename_i hc; obtain ⟨rfl, rfl⟩ := hc; have := Option.some.inj h; subst this; exact ok_laws_toFarm
  split at h
  · rename_i hc; obtain ⟨rfl, rfl⟩ := hc; have := Option.some.inj h; subst this; exact ok_laws_eqPartS
  split at h
  · rename_i hc; obtain ⟨rfl, rfl⟩ := hc; have := Option.some.inj h; subst this; exact ok_laws_eqFarm
  split at h
  · rename_i hc; obtain ⟨rfl, rfl⟩ := hc; have := Option.some.inj h; subst this; exact ok_laws_markFarm
  split at h
  · rename_i hc; obtain ⟨rfl, rfl⟩ := hc; have := Option.some.inj h; subst this; exact ok_laws_markPartS
  split at h
  · rename_i hc; obtain ⟨rfl, rfl⟩ := hc; have := Option.some.inj h; subst this; exact ok_laws_heldPartS
  split at h
  · rename_i hc; obtain ⟨rfl, rfl⟩ := hc; have := Option.some.inj h; subst this; exact ok_spec_FarmGroups
  split at h
  · rename_i hc; obtain ⟨rfl, rfl⟩ := hc; have := Option.some.inj h; subst this; exact ok_impl_FarmGroups
  cases h
theorem _root_.Go.Rv.ok_laws_FnExactFarmGroups : SumOK False Tryz.prog 4 ⟨ins_laws_FnExactFarmGroups, outs_laws_FnExactFarmGroups, F_laws_FnExactFarmGroups, []⟩ := runFn_ok (by kernel_rfl) ztblOK (by kernel_rfl) fun x y h => ⟨zcfg, 0, (ztop 0 x.1 x.2.1 x.2.2.1).trans h⟩
end laws_FnExactFarmGroups
abbrev ins_laws_szPartS : List Par := [.v false [CT.sl ct4], .v false [CT.int .i64]]
abbrev outs_laws_szPartS : List (Bool × List CT) := [(false, [CT.int .i64])]
namespace laws_szPartS
/-! ### loop.example/g00095/laws.szPartS (function 17) -/
noncomputable def ztbl : Tbl := fun g fs => none
noncomputable def zbody : Code := ((Tryz.prog.funcs[17]?).bind (·.body)).getD .skip
def zcfg : Nat → List Nat × List Nat := fun k => ([], [])
noncomputable def T  (a : List (Int × Int × Unit)) (left : Int) : Option (Int × Unit) := cond (decide ((w64 (left - (a.length : Int))) < 0)) (some ((-1), ())) (some ((w64 (left - (a.length : Int))), ()))
theorem ztop (k0 : Nat) (a : List (Int × Int × Unit)) (left : Int) : runFn Tryz.prog ztbl zcfg k0 17 ins_laws_szPartS outs_laws_szPartS [] (a, left, ()) = T  a left := by kernel_rfl
noncomputable def _root_.Go.Rv.F_laws_szPartS : (List (Int × Int × Unit)) × Int × Unit → Option (Int × Unit) := fun x => T x.1 x.2.1
theorem ztblOK : ∀ g fs S, ztbl g fs = some S → SumOK Dr Tryz.prog g S := by
  intro g fs S h
  unfold ztbl at h
  cases h
theorem _root_.Go.Rv.ok_laws_szPartS : SumOK Dr Tryz.prog 17 ⟨ins_laws_szPartS, outs_laws_szPartS, F_laws_szPartS, []⟩ := runFn_ok (by kernel_rfl) ztblOK (by kernel_rfl) fun x y h => ⟨zcfg, 0, (ztop 0 x.1 x.2.1).trans h⟩
end laws_szPartS
abbrev ins_spec_l03Amount : List Par := [.v false [CT.int .i64]]
abbrev outs_spec_l03Amount : List (Bool × List CT) := [(false, [CT.bool])]
namespace spec_l03Amount
/-! ### loop.example/g00095/spec.l03Amount (function 35) -/
noncomputable def ztbl : Tbl := fun g fs => none
noncomputable def zbody : Code := ((Tryz.prog.funcs[35]?).bind (·.body)).getD .skip
def zcfg : Nat → List Nat × List Nat := fun k => ([], [])
noncomputable def T  (n : Int) : Option (Bool × Unit) := cond (decide (n ≥ 0)) (some ((decide (n ≤ 67553994410557440)), ())) (some (false, ()))
theorem ztop (k0 : Nat) (n : Int) : runFn Tryz.prog ztbl zcfg k0 35 ins_spec_l03Amount outs_spec_l03Amount [] (n, ()) = T  n := by kernel_rfl
noncomputable def _root_.Go.Rv.F_spec_l03Amount : Int × Unit → Option (Bool × Unit) := fun x => T x.1
theorem ztblOK : ∀ g fs S, ztbl g fs = some S → SumOK Dr Tryz.prog g S := by
  intro g fs S h
  unfold ztbl at h
  cases h
theorem _root_.Go.Rv.ok_spec_l03Amount : SumOK Dr Tryz.prog 35 ⟨ins_spec_l03Amount, outs_spec_l03Amount, F_spec_l03Amount, []⟩ := runFn_ok (by kernel_rfl) ztblOK (by kernel_rfl) fun x y h => ⟨zcfg, 0, (ztop 0 x.1).trans h⟩
end spec_l03Amount
abbrev ins_spec_FarmFair : List Par := [.v true ct3, .v false [CT.int .i64], .v false [CT.sl ct4], .v false [CT.sl ct4]]
abbrev outs_spec_FarmFair : List (Bool × List CT) := [(false, [CT.bool])]
namespace spec_FarmFair
/-! ### loop.example/g00095/spec.FarmFair (function 18) -/
noncomputable def ztbl : Tbl := fun g fs => if g = 23 ∧ fs = [] then some ⟨ins_spec_FarmRight, outs_spec_FarmRight, F_spec_FarmRight, []⟩ else if g = 34 ∧ fs = [] then some ⟨ins_spec_l05Group, outs_spec_l05Group, F_spec_l05Group, []⟩ else if g = 35 ∧ fs = [] then some ⟨ins_spec_l03Amount, outs_spec_l03Amount, F_spec_l03Amount, []⟩ else if g = 36 ∧ fs = [] then some ⟨ins_spec_l05Kids, outs_spec_l05Kids, F_spec_l05Kids, []⟩ else if g = 37 ∧ fs = [] then some ⟨ins_spec_l05Fill, outs_spec_l05Fill, F_spec_l05Fill, []⟩ else none
noncomputable def zbody : Code := ((Tryz.prog.funcs[18]?).bind (·.body)).getD .skip
def zcfg : Nat → List Nat × List Nat := fun k => if k = 4 then ([1, 2, 3, 4, 9], [1, 2, 3, 4, 8]) else if k = 9 then ([1, 2, 3, 4, 10], [1, 2, 3, 4, 8]) else if k = 21 then ([2, 3, 12, 14, 15], [8]) else ([], [])
noncomputable def R0 {R : Type} (nx0 : (Int → (List (Int × Int × Unit)) → (List (Int × Int × Unit)) → Int → Int → (List (Int × Int × Int × Int × Unit)) → (List (Int × Int × Int × Int × Unit)) → Option R)) (ex0 : (Int → (List (Int × Int × Unit)) → (List (Int × Int × Unit)) → Bool → Int → (List (Int × Int × Int × Int × Unit)) → (List (Int × Int × Int × Int × Unit)) → Option R)) (ex1 : (Int → (List (Int × Int × Unit)) → (List (Int × Int × Unit)) → Int → (List (Int × Int × Int × Int × Unit)) → (List (Int × Int × Int × Int × Unit)) → Option R)) (group2 : Int) (groups2 members2 : List (Int × Int × Unit)) (i f : Int) (f3 f4 : List (Int × Int × Int × Int × Unit)) : Option R := cond (decide (i < (groups2.length : Int))) (if 0 ≤ i ∧ i < (groups2.length : Int) then if 0 ≤ i ∧ i < (f3.length : Int) then cond ((rd (0, 0, ()) groups2 i).1 != (rd (0, 0, 0, 0, ()) f3 i).1) (ex0 group2 groups2 members2 false f f3 f4) (nx0 group2 groups2 members2 (w64 (i + 1)) f f3 f4) else none else none) (ex1 group2 groups2 members2 f f3 f4)
noncomputable def R1 {R : Type} (nx1 : (Int → (List (Int × Int × Unit)) → (List (Int × Int × Unit)) → Int → Int → (List (Int × Int × Int × Int × Unit)) → (List (Int × Int × Int × Int × Unit)) → Option R)) (ex2 : (Int → (List (Int × Int × Unit)) → (List (Int × Int × Unit)) → Bool → Int → (List (Int × Int × Int × Int × Unit)) → (List (Int × Int × Int × Int × Unit)) → Option R)) (ex3 : (Int → (List (Int × Int × Unit)) → (List (Int × Int × Unit)) → Int → (List (Int × Int × Int × Int × Unit)) → (List (Int × Int × Int × Int × Unit)) → Option R)) (group2 : Int) (groups2 members2 : List (Int × Int × Unit)) (i f : Int) (f3 f4 : List (Int × Int × Int × Int × Unit)) : Option R := cond (decide (i < (members2.length : Int))) (if 0 ≤ i ∧ i < (members2.length : Int) then if 0 ≤ i ∧ i < (f4.length : Int) then cond ((rd (0, 0, ()) members2 i).1 != (rd (0, 0, 0, 0, ()) f4 i).1) (ex2 group2 groups2 members2 false f f3 f4) (nx1 group2 groups2 members2 (w64 (i + 1)) f f3 f4) else none else none) (ex3 group2 groups2 members2 f f3 f4)
noncomputable def R2 {R : Type} (nx2 : ((List (Int × Int × Unit)) → (List (Int × Int × Unit)) → Int → (List (Int × Int × Unit)) → (List (Int × Unit)) → Option R)) (ex4 : (Bool → Option R)) (ex5 : (Unit → Option R)) (groups2 members2 : List (Int × Int × Unit)) (i : Int) (kids : List (Int × Int × Unit)) (parts : List (Int × Unit)) : Option R := cond (decide (i < (kids.length : Int))) (if 0 ≤ i ∧ i < (kids.length : Int) then cond (decide ((kids.getD i.toNat (0, 0, ())).1 ≥ 0)) (if 0 ≤ i ∧ i < (kids.length : Int) then if 0 ≤ (kids.getD i.toNat (0, 0, ())).1 ∧ (kids.getD i.toNat (0, 0, ())).1 < (groups2.length : Int) then if 0 ≤ i ∧ i < (parts.length : Int) then cond ((rd (0, 0, ()) groups2 ((kids.getD i.toNat (0, 0, ())).1)).2.1 != (parts.getD i.toNat (0, ())).1) (ex4 false) (if 0 ≤ i ∧ i < (kids.length : Int) then cond (decide ((kids.getD i.toNat (0, 0, ())).2.1 ≥ 0)) (if 0 ≤ i ∧ i < (kids.length : Int) then if 0 ≤ (kids.getD i.toNat (0, 0, ())).2.1 ∧ (kids.getD i.toNat (0, 0, ())).2.1 < (members2.length : Int) then if 0 ≤ i ∧ i < (parts.length : Int) then cond ((rd (0, 0, ()) members2 ((kids.getD i.toNat (0, 0, ())).2.1)).2.1 != (parts.getD i.toNat (0, ())).1) (ex4 false) (nx2 groups2 members2 (w64 (i + 1)) kids parts) else none else none else none) (nx2 groups2 members2 (w64 (i + 1)) kids parts) else none) else none else none else none) (if 0 ≤ i ∧ i < (kids.length : Int) then cond (decide ((kids.getD i.toNat (0, 0, ())).2.1 ≥ 0)) (if 0 ≤ i ∧ i < (kids.length : Int) then if 0 ≤ (kids.getD i.toNat (0, 0, ())).2.1 ∧ (kids.getD i.toNat (0, 0, ())).2.1 < (members2.length : Int) then if 0 ≤ i ∧ i < (parts.length : Int) then cond ((rd (0, 0, ()) members2 ((kids.getD i.toNat (0, 0, ())).2.1)).2.1 != (parts.getD i.toNat (0, ())).1) (ex4 false) (nx2 groups2 members2 (w64 (i + 1)) kids parts) else none else none else none) (nx2 groups2 members2 (w64 (i + 1)) kids parts) else none) else none) (ex5 ())
noncomputable def A0  (f0 : Int) (f1 f2 : List (Int × Int × Int × Int × Unit)) (group : Int) (groups members : List (Int × Int × Unit)) (group2 : Int) (groups2 members2 : List (Int × Int × Unit)) (t8x : Bool) (f : Int) (f3 f4 : List (Int × Int × Int × Int × Unit)) : Option (Bool × Unit) := some (t8x, ())
noncomputable def A1 (lo1 : (Int → (List (Int × Int × Unit)) → (List (Int × Int × Unit)) → Int → Int → (List (Int × Int × Int × Int × Unit)) → (List (Int × Int × Int × Int × Unit)) → Option (Bool × Unit))) (f0 : Int) (f1 f2 : List (Int × Int × Int × Int × Unit)) (group : Int) (groups members : List (Int × Int × Unit)) (group2 : Int) (groups2 members2 : List (Int × Int × Unit)) (f : Int) (f3 f4 : List (Int × Int × Int × Int × Unit)) : Option (Bool × Unit) := lo1 group2 groups2 members2 0 f f3 f4
noncomputable def A2  (f0 : Int) (f1 f2 : List (Int × Int × Int × Int × Unit)) (group : Int) (groups members : List (Int × Int × Unit)) (group2 : Int) (groups2 members2 : List (Int × Int × Unit)) (t8x : Bool) (f : Int) (f3 f4 : List (Int × Int × Int × Int × Unit)) : Option (Bool × Unit) := some (t8x, ())
noncomputable def A3 (lo2 : ((List (Int × Int × Unit)) → (List (Int × Int × Unit)) → Int → (List (Int × Int × Unit)) → (List (Int × Unit)) → Option (Bool × Unit))) (f0 : Int) (f1 f2 : List (Int × Int × Int × Int × Unit)) (group : Int) (groups members : List (Int × Int × Unit)) (group2 : Int) (groups2 members2 : List (Int × Int × Unit)) (f : Int) (f3 f4 : List (Int × Int × Int × Int × Unit)) : Option (Bool × Unit) := cond (group2 != 0) ((F_spec_l05Group (f, f3, f4, group2, ())).bind fun y1 => if 0 ≤ y1.1 ∧ y1.1 < (groups2.length : Int) then (F_spec_l03Amount ((rd (0, 0, ()) groups2 y1.1).2.1, ())).bind fun y2 => cond (!y2.1) (some (false, ())) ((F_spec_l05Kids (f, f3, f4, group2, ())).bind fun y3 => (F_spec_l05Fill ((rd (0, 0, ()) groups2 y1.1).2.1, y3.2.1, ())).bind fun y4 => lo2 groups2 members2 0 y3.1 y4.1) else none) ((F_spec_l03Amount (f, ())).bind fun y5 => cond (!y5.1) (some (false, ())) ((F_spec_l05Kids (f, f3, f4, group2, ())).bind fun y6 => (F_spec_l05Fill (f, y6.2.1, ())).bind fun y7 => lo2 groups2 members2 0 y6.1 y7.1))
noncomputable def A4  (f0 : Int) (f1 f2 : List (Int × Int × Int × Int × Unit)) (group : Int) (groups members : List (Int × Int × Unit)) (t8x : Bool) : Option (Bool × Unit) := some (t8x, ())
noncomputable def A5  (f0 : Int) (f1 f2 : List (Int × Int × Int × Int × Unit)) (group : Int) (groups members : List (Int × Int × Unit)) (_u : Unit) : Option (Bool × Unit) := some (true, ())
noncomputable def T (lo0 : (Int → (List (Int × Int × Unit)) → (List (Int × Int × Unit)) → Int → Int → (List (Int × Int × Int × Int × Unit)) → (List (Int × Int × Int × Int × Unit)) → Option (Bool × Unit))) (f0 : Int) (f1 f2 : List (Int × Int × Int × Int × Unit)) (group : Int) (groups members : List (Int × Int × Unit)) : Option (Bool × Unit) := cond (decide ((groups.length : Int) > 400)) (some (false, ())) (cond (decide ((members.length : Int) > 400)) (some (false, ())) ((F_spec_FarmRight (f0, f1, f2, ())).bind fun y1 => cond (!y1.1) (some (false, ())) (cond ((groups.length : Int) != (f1.length : Int)) (some (false, ())) (cond ((members.length : Int) != (f2.length : Int)) (some (false, ())) (cond (group != 0) ((F_spec_l05Group (f0, f1, f2, group, ())).bind fun y2 => cond (decide (y2.1 < 0)) (some (false, ())) (lo0 group groups members 0 f0 f1 f2)) (lo0 group groups members 0 f0 f1 f2))))))
noncomputable def zst0 {R : Type} (k0 : Nat) : Env → List Ob → Kont R → Option R := fun env ob K => runCode Tryz.prog ztbl 166 0 zcfg k0 (codeAt [1, 1, 0, 1, 0, 0] zbody) env ob K
noncomputable def K0 {R : Type} (k0 : Nat) (K : Kont R) : Kont R := blockK 0 (seqK (fun env ob => runCode Tryz.prog ztbl 166 0 zcfg k0 (codeAt [1, 1, 1] zbody) env ob (K)) (K))
noncomputable def zst1 {R : Type} (k0 : Nat) : Env → List Ob → Kont R → Option R := fun env ob K => runCode Tryz.prog ztbl 166 0 zcfg k0 (codeAt [1, 1, 1, 0, 1, 0, 0] zbody) env ob K
noncomputable def K1 {R : Type} (k0 : Nat) (K : Kont R) : Kont R := blockK 2 (seqK (fun env ob => runCode Tryz.prog ztbl 166 0 zcfg k0 (codeAt [1, 1, 1, 1] zbody) env ob (K)) (K))
noncomputable def zst2 {R : Type} (k0 : Nat) : Env → List Ob → Kont R → Option R := fun env ob K => runCode Tryz.prog ztbl 166 0 zcfg k0 (codeAt [1, 1, 1, 1, 1, 1, 1, 1, 1, 0, 1, 0, 0] zbody) env ob K
noncomputable def K2 {R : Type} (k0 : Nat) (K : Kont R) : Kont R := blockK 4 (seqK (fun env ob => runCode Tryz.prog ztbl 166 0 zcfg k0 (codeAt [1, 1, 1, 1, 1, 1, 1, 1, 1, 1] zbody) env ob (K)) (K))
noncomputable def L0 {R : Type} (k0 k : Nat) (K : Kont R) (group2 : Int) (groups2 members2 : List (Int × Int × Unit)) (i f : Int) (f3 f4 : List (Int × Int × Int × Int × Unit)) : Option R := iter 0 [1, 2, 3, 4, 9] [1, 2, 3, 4, 8] (zst0 k0) k [(1, .int .i64 group2), (2, .sl ct4 groups2), (3, .sl ct4 members2), (4, .ptr 0 0 0 0), (9, .int .i64 i)] [.box [.int .i64 f, .sl ct2 f3, .sl ct2 f4]] K
noncomputable def L1 {R : Type} (k0 k : Nat) (K : Kont R) (group2 : Int) (groups2 members2 : List (Int × Int × Unit)) (i f : Int) (f3 f4 : List (Int × Int × Int × Int × Unit)) : Option R := iter 0 [1, 2, 3, 4, 10] [1, 2, 3, 4, 8] (zst1 k0) k [(1, .int .i64 group2), (2, .sl ct4 groups2), (3, .sl ct4 members2), (4, .ptr 0 0 0 0), (10, .int .i64 i)] [.box [.int .i64 f, .sl ct2 f3, .sl ct2 f4]] K
noncomputable def L2 {R : Type} (k0 k : Nat) (K : Kont R) (groups2 members2 : List (Int × Int × Unit)) (i : Int) (kids : List (Int × Int × Unit)) (parts : List (Int × Unit)) : Option R := iter 0 [2, 3, 12, 14, 15] [8] (zst2 k0) k [(2, .sl ct4 groups2), (3, .sl ct4 members2), (12, .own 0), (14, .own 1), (15, .int .i64 i)] [.arr ct4 kids, .arr [CT.int .i64] parts] K
theorem zs0 {R : Type} (k0 k : Nat) (K : Kont R) (group2 : Int) (groups2 members2 : List (Int × Int × Unit)) (i f : Int) (f3 f4 : List (Int × Int × Int × Int × Unit)) : L0 k0 (k + 1) K group2 groups2 members2 i f f3 f4 = R0 (L0 k0 k K) (fun group2 groups2 members2 t8x f f3 f4 => K .ret [(1, .int .i64 group2), (2, .sl ct4 groups2), (3, .sl ct4 members2), (4, .ptr 0 0 0 0), (8, .bool t8x)] [.box [.int .i64 f, .sl ct2 f3, .sl ct2 f4]]) (fun group2 groups2 members2 f f3 f4 => K (.exit 0) [(1, .int .i64 group2), (2, .sl ct4 groups2), (3, .sl ct4 members2), (4, .ptr 0 0 0 0), (8, .undef)] [.box [.int .i64 f, .sl ct2 f3, .sl ct2 f4]]) group2 groups2 members2 i f f3 f4 := by kernel_rfl
theorem zs1 {R : Type} (k0 k : Nat) (K : Kont R) (group2 : Int) (groups2 members2 : List (Int × Int × Unit)) (i f : Int) (f3 f4 : List (Int × Int × Int × Int × Unit)) : L1 k0 (k + 1) K group2 groups2 members2 i f f3 f4 = R1 (L1 k0 k K) (fun group2 groups2 members2 t8x f f3 f4 => K .ret [(1, .int .i64 group2), (2, .sl ct4 groups2), (3, .sl ct4 members2), (4, .ptr 0 0 0 0), (8, .bool t8x)] [.box [.int .i64 f, .sl ct2 f3, .sl ct2 f4]]) (fun group2 groups2 members2 f f3 f4 => K (.exit 2) [(1, .int .i64 group2), (2, .sl ct4 groups2), (3, .sl ct4 members2), (4, .ptr 0 0 0 0), (8, .undef)] [.box [.int .i64 f, .sl ct2 f3, .sl ct2 f4]]) group2 groups2 members2 i f f3 f4 := by kernel_rfl
theorem zs2 {R : Type} (k0 k : Nat) (K : Kont R) (groups2 members2 : List (Int × Int × Unit)) (i : Int) (kids : List (Int × Int × Unit)) (parts : List (Int × Unit)) : L2 k0 (k + 1) K groups2 members2 i kids parts = R2 (L2 k0 k K) (fun t8x => K .ret [(8, .bool t8x)] []) (fun _ => K (.exit 4) [(8, .undef)] []) groups2 members2 i kids parts := by kernel_rfl
theorem za0 (k0 : Nat) (f0 : Int) (f1 f2 : List (Int × Int × Int × Int × Unit)) (group : Int) (groups members : List (Int × Int × Unit)) (group2 : Int) (groups2 members2 : List (Int × Int × Unit)) (t8x : Bool) (f : Int) (f3 f4 : List (Int × Int × Int × Int × Unit)) : K0 (R := (Bool × Unit)) k0 (finK Tryz.prog [.tmp 8] ins_spec_FarmFair outs_spec_FarmFair (f0, f1, f2, group, groups, members, ())) .ret [(1, .int .i64 group2), (2, .sl ct4 groups2), (3, .sl ct4 members2), (4, .ptr 0 0 0 0), (8, .bool t8x)] [.box [.int .i64 f, .sl ct2 f3, .sl ct2 f4]] = A0  f0 f1 f2 group groups members group2 groups2 members2 t8x f f3 f4 := by kernel_rfl
theorem za1 (k0 : Nat) (f0 : Int) (f1 f2 : List (Int × Int × Int × Int × Unit)) (group : Int) (groups members : List (Int × Int × Unit)) (group2 : Int) (groups2 members2 : List (Int × Int × Unit)) (f : Int) (f3 f4 : List (Int × Int × Int × Int × Unit)) : K0 (R := (Bool × Unit)) k0 (finK Tryz.prog [.tmp 8] ins_spec_FarmFair outs_spec_FarmFair (f0, f1, f2, group, groups, members, ())) (.exit 0) [(1, .int .i64 group2), (2, .sl ct4 groups2), (3, .sl ct4 members2), (4, .ptr 0 0 0 0), (8, .undef)] [.box [.int .i64 f, .sl ct2 f3, .sl ct2 f4]] = A1 (L1 (R := (Bool × Unit)) k0 k0 (K1 (R := (Bool × Unit)) k0 ((finK Tryz.prog [.tmp 8] ins_spec_FarmFair outs_spec_FarmFair (f0, f1, f2, group, groups, members, ()))))) f0 f1 f2 group groups members group2 groups2 members2 f f3 f4 := by kernel_rfl
theorem za2 (k0 : Nat) (f0 : Int) (f1 f2 : List (Int × Int × Int × Int × Unit)) (group : Int) (groups members : List (Int × Int × Unit)) (group2 : Int) (groups2 members2 : List (Int × Int × Unit)) (t8x : Bool) (f : Int) (f3 f4 : List (Int × Int × Int × Int × Unit)) : K1 (R := (Bool × Unit)) k0 (finK Tryz.prog [.tmp 8] ins_spec_FarmFair outs_spec_FarmFair (f0, f1, f2, group, groups, members, ())) .ret [(1, .int .i64 group2), (2, .sl ct4 groups2), (3, .sl ct4 members2), (4, .ptr 0 0 0 0), (8, .bool t8x)] [.box [.int .i64 f, .sl ct2 f3, .sl ct2 f4]] = A2  f0 f1 f2 group groups members group2 groups2 members2 t8x f f3 f4 := by kernel_rfl
theorem za3 (k0 : Nat) (f0 : Int) (f1 f2 : List (Int × Int × Int × Int × Unit)) (group : Int) (groups members : List (Int × Int × Unit)) (group2 : Int) (groups2 members2 : List (Int × Int × Unit)) (f : Int) (f3 f4 : List (Int × Int × Int × Int × Unit)) : K1 (R := (Bool × Unit)) k0 (finK Tryz.prog [.tmp 8] ins_spec_FarmFair outs_spec_FarmFair (f0, f1, f2, group, groups, members, ())) (.exit 2) [(1, .int .i64 group2), (2, .sl ct4 groups2), (3, .sl ct4 members2), (4, .ptr 0 0 0 0), (8, .undef)] [.box [.int .i64 f, .sl ct2 f3, .sl ct2 f4]] = A3 (L2 (R := (Bool × Unit)) k0 k0 (K2 (R := (Bool × Unit)) k0 ((finK Tryz.prog [.tmp 8] ins_spec_FarmFair outs_spec_FarmFair (f0, f1, f2, group, groups, members, ()))))) f0 f1 f2 group groups members group2 groups2 members2 f f3 f4 := by kernel_rfl
theorem za4 (k0 : Nat) (f0 : Int) (f1 f2 : List (Int × Int × Int × Int × Unit)) (group : Int) (groups members : List (Int × Int × Unit)) (t8x : Bool) : K2 (R := (Bool × Unit)) k0 (finK Tryz.prog [.tmp 8] ins_spec_FarmFair outs_spec_FarmFair (f0, f1, f2, group, groups, members, ())) .ret [(8, .bool t8x)] [] = A4  f0 f1 f2 group groups members t8x := by kernel_rfl
theorem za5 (k0 : Nat) (f0 : Int) (f1 f2 : List (Int × Int × Int × Int × Unit)) (group : Int) (groups members : List (Int × Int × Unit))  : K2 (R := (Bool × Unit)) k0 (finK Tryz.prog [.tmp 8] ins_spec_FarmFair outs_spec_FarmFair (f0, f1, f2, group, groups, members, ())) (.exit 4) [(8, .undef)] [] = A5  f0 f1 f2 group groups members () := by kernel_rfl
theorem ztop (k0 : Nat) (f0 : Int) (f1 f2 : List (Int × Int × Int × Int × Unit)) (group : Int) (groups members : List (Int × Int × Unit)) : runFn Tryz.prog ztbl zcfg k0 18 ins_spec_FarmFair outs_spec_FarmFair [] (f0, f1, f2, group, groups, members, ()) = T (L0 (R := (Bool × Unit)) k0 k0 (K0 (R := (Bool × Unit)) k0 ((finK Tryz.prog [.tmp 8] ins_spec_FarmFair outs_spec_FarmFair (f0, f1, f2, group, groups, members, ()))))) f0 f1 f2 group groups members := by kernel_rfl
noncomputable def G0 {R : Type} (k0 : Nat) (hx0 : (Int → (List (Int × Int × Unit)) → (List (Int × Int × Unit)) → Bool → Int → (List (Int × Int × Int × Int × Unit)) → (List (Int × Int × Int × Int × Unit)) → Option R)) (hx1 : (Int → (List (Int × Int × Unit)) → (List (Int × Int × Unit)) → Int → (List (Int × Int × Int × Int × Unit)) → (List (Int × Int × Int × Int × Unit)) → Option R)) : Nat → Int → (List (Int × Int × Unit)) → (List (Int × Int × Unit)) → Int → Int → (List (Int × Int × Int × Int × Unit)) → (List (Int × Int × Int × Int × Unit)) → Option R
  | 0, _, _, _, _, _, _, _ => none
  | k + 1, group2, groups2, members2, i, f, f3, f4 => R0 (G0 k0 hx0 hx1 k) hx0 hx1 group2 groups2 members2 i f f3 f4
theorem zg0 {R : Type} (k0 : Nat) (K : Kont R) : ∀ k : Nat, L0 k0 k K = G0 k0 (fun group2 groups2 members2 t8x f f3 f4 => K .ret [(1, .int .i64 group2), (2, .sl ct4 groups2), (3, .sl ct4 members2), (4, .ptr 0 0 0 0), (8, .bool t8x)] [.box [.int .i64 f, .sl ct2 f3, .sl ct2 f4]]) (fun group2 groups2 members2 f f3 f4 => K (.exit 0) [(1, .int .i64 group2), (2, .sl ct4 groups2), (3, .sl ct4 members2), (4, .ptr 0 0 0 0), (8, .undef)] [.box [.int .i64 f, .sl ct2 f3, .sl ct2 f4]]) k := by
  intro k
  induction k with
  | zero => funext group2 groups2 members2 i f f3 f4; rfl
  | succ k ih => funext group2 groups2 members2 i f f3 f4; rw [zs0, G0]; (try simp only [ih]); try rfl
noncomputable def G1 {R : Type} (k0 : Nat) (hx2 : (Int → (List (Int × Int × Unit)) → (List (Int × Int × Unit)) → Bool → Int → (List (Int × Int × Int × Int × Unit)) → (List (Int × Int × Int × Int × Unit)) → Option R)) (hx3 : (Int → (List (Int × Int × Unit)) → (List (Int × Int × Unit)) → Int → (List (Int × Int × Int × Int × Unit)) → (List (Int × Int × Int × Int × Unit)) → Option R)) : Nat → Int → (List (Int × Int × Unit)) → (List (Int × Int × Unit)) → Int → Int → (List (Int × Int × Int × Int × Unit)) → (List (Int × Int × Int × Int × Unit)) → Option R
  | 0, _, _, _, _, _, _, _ => none
  | k + 1, group2, groups2, members2, i, f, f3, f4 => R1 (G1 k0 hx2 hx3 k) hx2 hx3 group2 groups2 members2 i f f3 f4
theorem zg1 {R : Type} (k0 : Nat) (K : Kont R) : ∀ k : Nat, L1 k0 k K = G1 k0 (fun group2 groups2 members2 t8x f f3 f4 => K .ret [(1, .int .i64 group2), (2, .sl ct4 groups2), (3, .sl ct4 members2), (4, .ptr 0 0 0 0), (8, .bool t8x)] [.box [.int .i64 f, .sl ct2 f3, .sl ct2 f4]]) (fun group2 groups2 members2 f f3 f4 => K (.exit 2) [(1, .int .i64 group2), (2, .sl ct4 groups2), (3, .sl ct4 members2), (4, .ptr 0 0 0 0), (8, .undef)] [.box [.int .i64 f, .sl ct2 f3, .sl ct2 f4]]) k := by
  intro k
  induction k with
  | zero => funext group2 groups2 members2 i f f3 f4; rfl
  | succ k ih => funext group2 groups2 members2 i f f3 f4; rw [zs1, G1]; (try simp only [ih, zg0]); try rfl
noncomputable def G2 {R : Type} (k0 : Nat) (hx4 : (Bool → Option R)) (hx5 : (Unit → Option R)) : Nat → (List (Int × Int × Unit)) → (List (Int × Int × Unit)) → Int → (List (Int × Int × Unit)) → (List (Int × Unit)) → Option R
  | 0, _, _, _, _, _ => none
  | k + 1, groups2, members2, i, kids, parts => R2 (G2 k0 hx4 hx5 k) hx4 hx5 groups2 members2 i kids parts
theorem zg2 {R : Type} (k0 : Nat) (K : Kont R) : ∀ k : Nat, L2 k0 k K = G2 k0 (fun t8x => K .ret [(8, .bool t8x)] []) (fun _ => K (.exit 4) [(8, .undef)] []) k := by
  intro k
  induction k with
  | zero => funext groups2 members2 i kids parts; rfl
  | succ k ih => funext groups2 members2 i kids parts; rw [zs2, G2]; (try simp only [ih, zg0, zg1]); try rfl
noncomputable def FF (k0 : Nat) (f0 : Int) (f1 f2 : List (Int × Int × Int × Int × Unit)) (group : Int) (groups members : List (Int × Int × Unit)) : Option (Bool × Unit) := T (G0 k0 (A0  f0 f1 f2 group groups members) (A1 (G1 k0 (A2  f0 f1 f2 group groups members) (A3 (G2 k0 (A4  f0 f1 f2 group groups members) (A5  f0 f1 f2 group groups members) k0) f0 f1 f2 group groups members) k0) f0 f1 f2 group groups members) k0) f0 f1 f2 group groups members
theorem zrun (k0 : Nat) (f0 : Int) (f1 f2 : List (Int × Int × Int × Int × Unit)) (group : Int) (groups members : List (Int × Int × Unit)) : runFn Tryz.prog ztbl zcfg k0 18 ins_spec_FarmFair outs_spec_FarmFair [] (f0, f1, f2, group, groups, members, ()) = FF k0 f0 f1 f2 group groups members := by
  rw [ztop, FF]; (try simp only [zg0, zg1, zg2, za0, za1, za2, za3, za4, za5]); try rfl
noncomputable def _root_.Go.Rv.F_spec_FarmFair : Int × (List (Int × Int × Int × Int × Unit)) × (List (Int × Int × Int × Int × Unit)) × Int × (List (Int × Int × Unit)) × (List (Int × Int × Unit)) × Unit → Option (Bool × Unit) := fun x => (fun (f0 : Int) (f1 f2 : List (Int × Int × Int × Int × Unit)) (group : Int) (groups members : List (Int × Int × Unit)) => FF (300 + f1.length + f2.length + groups.length + members.length) f0 f1 f2 group groups members) x.1 x.2.1 x.2.2.1 x.2.2.2.1 x.2.2.2.2.1 x.2.2.2.2.2.1
theorem ztblOK : ∀ g fs S, ztbl g fs = some S → SumOK Dr Tryz.prog g S := by
  intro g fs S h
  unfold ztbl at h
  split at h
  · rename_i hc; obtain ⟨rfl, rfl⟩ := hc; have := Option.some.inj h; subst this; exact ok_spec_FarmRight
  split at h
  · rename_i hc; obtain ⟨rfl, rfl⟩ := hc; have := Option.some.inj h; subst this; exact ok_spec_l05Group
  split at h
  · rename_i hc; obtain ⟨rfl, rfl⟩ := hc; have := Option.some.inj h; subst this; exact ok_spec_l03Amount
  split at h
  · rename_i hc; obtain ⟨rfl, rfl⟩ := hc; have := Option.some.inj h; subst this; exact ok_spec_l05Kids
  split at h
  · rename_i hc; obtain ⟨rfl, rfl⟩ := hc; have := Option.some.inj h; subst this; exact ok_spec_l05Fill
  cases h
theorem _root_.Go.Rv.ok_spec_FarmFair : SumOK Dr Tryz.prog 18 ⟨ins_spec_FarmFair, outs_spec_FarmFair, F_spec_FarmFair, []⟩ := runFn_ok (by kernel_rfl) ztblOK (by kernel_rfl) fun x y h => ⟨zcfg, _, (zrun _ x.1 x.2.1 x.2.2.1 x.2.2.2.1 x.2.2.2.2.1 x.2.2.2.2.2.1).trans h⟩
end spec_FarmFair
abbrev ins_laws_toPart : List Par := [.v true ct4]
abbrev outs_laws_toPart : List (Bool × List CT) := [(true, ct4)]
namespace laws_toPart
/-! ### loop.example/g00095/laws.toPart (function 38) -/
noncomputable def ztbl : Tbl := fun g fs => none
noncomputable def zbody : Code := ((Tryz.prog.funcs[38]?).bind (·.body)).getD .skip
def zcfg : Nat → List Nat × List Nat := fun k => ([], [])
noncomputable def T  (a0 a1 : Int) : Option (Int × Int × Unit) := some (a0, a1, ())
theorem ztop (k0 : Nat) (a0 a1 : Int) : runFn Tryz.prog ztbl zcfg k0 38 ins_laws_toPart outs_laws_toPart [] (a0, a1, ()) = T  a0 a1 := by kernel_rfl
noncomputable def _root_.Go.Rv.F_laws_toPart : Int × Int × Unit → Option (Int × Int × Unit) := fun x => T x.1 x.2.1
theorem ztblOK : ∀ g fs S, ztbl g fs = some S → SumOK Dr Tryz.prog g S := by
  intro g fs S h
  unfold ztbl at h
  cases h
theorem _root_.Go.Rv.ok_laws_toPart : SumOK Dr Tryz.prog 38 ⟨ins_laws_toPart, outs_laws_toPart, F_laws_toPart, []⟩ := runFn_ok (by kernel_rfl) ztblOK (by kernel_rfl) fun x y h => ⟨zcfg, 0, (ztop 0 x.1 x.2.1).trans h⟩
end laws_toPart
abbrev ins_laws_toPartS : List Par := [.v false [CT.sl ct4]]
abbrev outs_laws_toPartS : List (Bool × List CT) := [(false, [CT.sl ct4])]
namespace laws_toPartS
/-! ### loop.example/g00095/laws.toPartS (function 19) -/
noncomputable def ztbl : Tbl := fun g fs => if g = 38 ∧ fs = [] then some ⟨ins_laws_toPart, outs_laws_toPart, F_laws_toPart, []⟩ else none
noncomputable def zbody : Code := ((Tryz.prog.funcs[19]?).bind (·.body)).getD .skip
def zcfg : Nat → List Nat × List Nat := fun k => if k = 3 then ([0, 3, 4], [3]) else ([], [])
noncomputable def R0 {R : Type} (nx0 : ((List (Int × Int × Unit)) → Int → (List (Int × Int × Unit)) → Option R)) (ex0 : ((List (Int × Int × Unit)) → Option R)) (a2 : List (Int × Int × Unit)) (i : Int) (out : List (Int × Int × Unit)) : Option R := cond (decide (i < (a2.length : Int))) (if 0 ≤ i ∧ i < (a2.length : Int) then (F_laws_toPart ((rd (0, 0, ()) a2 i).1, (rd (0, 0, ()) a2 i).2.1, ())).bind fun y1 => if 0 ≤ i ∧ i < (out.length : Int) then nx0 a2 (w64 (i + 1)) (out.set i.toNat (y1.1, y1.2.1, ())) else none else none) (ex0 out)
noncomputable def A0  (a : List (Int × Int × Unit)) (out : List (Int × Int × Unit)) : Option ((List (Int × Int × Unit)) × Unit) := some (out, ())
noncomputable def T (lo0 : ((List (Int × Int × Unit)) → Int → (List (Int × Int × Unit)) → Option ((List (Int × Int × Unit)) × Unit))) (a : List (Int × Int × Unit)) : Option ((List (Int × Int × Unit)) × Unit) := if 0 ≤ (a.length : Int) ∧ (16 : Int) * (a.length : Int) ≤ 281474976710656 ∧ (a.length : Int) ≤ 9223372036854775807 then lo0 a 0 (List.replicate (((a.length : Int) : Int)).toNat (0, 0, ())) else none
noncomputable def zst0 {R : Type} (k0 : Nat) : Env → List Ob → Kont R → Option R := fun env ob K => runCode Tryz.prog ztbl 23 0 zcfg k0 (codeAt [1, 1, 0, 1, 0, 0] zbody) env ob K
noncomputable def K0 {R : Type} (k0 : Nat) (K : Kont R) : Kont R := blockK 0 (seqK (fun env ob => runCode Tryz.prog ztbl 23 0 zcfg k0 (codeAt [1, 1, 1] zbody) env ob (K)) (K))
noncomputable def L0 {R : Type} (k0 k : Nat) (K : Kont R) (a2 : List (Int × Int × Unit)) (i : Int) (out : List (Int × Int × Unit)) : Option R := iter 0 [0, 3, 4] [3] (zst0 k0) k [(0, .sl ct4 a2), (3, .own 0), (4, .int .i64 i)] [.arr ct4 out] K
theorem zs0 {R : Type} (k0 k : Nat) (K : Kont R) (a2 : List (Int × Int × Unit)) (i : Int) (out : List (Int × Int × Unit)) : L0 k0 (k + 1) K a2 i out = R0 (L0 k0 k K) (fun out => K (.exit 0) [(3, .own 0)] [.arr ct4 out]) a2 i out := by kernel_rfl
theorem za0 (k0 : Nat) (a : List (Int × Int × Unit)) (out : List (Int × Int × Unit)) : K0 (R := ((List (Int × Int × Unit)) × Unit)) k0 (finK Tryz.prog [.tmp 2] ins_laws_toPartS outs_laws_toPartS (a, ())) (.exit 0) [(3, .own 0)] [.arr ct4 out] = A0  a out := by kernel_rfl
theorem ztop (k0 : Nat) (a : List (Int × Int × Unit)) : runFn Tryz.prog ztbl zcfg k0 19 ins_laws_toPartS outs_laws_toPartS [] (a, ()) = T (L0 (R := ((List (Int × Int × Unit)) × Unit)) k0 k0 (K0 (R := ((List (Int × Int × Unit)) × Unit)) k0 ((finK Tryz.prog [.tmp 2] ins_laws_toPartS outs_laws_toPartS (a, ()))))) a := by kernel_rfl
noncomputable def G0 {R : Type} (k0 : Nat) (hx0 : ((List (Int × Int × Unit)) → Option R)) : Nat → (List (Int × Int × Unit)) → Int → (List (Int × Int × Unit)) → Option R
  | 0, _, _, _ => none
  | k + 1, a2, i, out => R0 (G0 k0 hx0 k) hx0 a2 i out
theorem zg0 {R : Type} (k0 : Nat) (K : Kont R) : ∀ k : Nat, L0 k0 k K = G0 k0 (fun out => K (.exit 0) [(3, .own 0)] [.arr ct4 out]) k := by
  intro k
  induction k with
  | zero => funext a2 i out; rfl
  | succ k ih => funext a2 i out; rw [zs0, G0]; (try simp only [ih]); try rfl
noncomputable def FF (k0 : Nat) (a : List (Int × Int × Unit)) : Option ((List (Int × Int × Unit)) × Unit) := T (G0 k0 (A0  a) k0) a
theorem zrun (k0 : Nat) (a : List (Int × Int × Unit)) : runFn Tryz.prog ztbl zcfg k0 19 ins_laws_toPartS outs_laws_toPartS [] (a, ()) = FF k0 a := by
  rw [ztop, FF]; (try simp only [zg0, za0]); try rfl
noncomputable def _root_.Go.Rv.F_laws_toPartS : (List (Int × Int × Unit)) × Unit → Option ((List (Int × Int × Unit)) × Unit) := fun x => (fun (a : List (Int × Int × Unit)) => FF (300 + a.length) a) x.1
theorem ztblOK : ∀ g fs S, ztbl g fs = some S → SumOK Dr Tryz.prog g S := by
  intro g fs S h
  unfold ztbl at h
  split at h
  · rename_i hc; obtain ⟨rfl, rfl⟩ := hc; have := Option.some.inj h; subst this; exact ok_laws_toPart
  cases h
theorem _root_.Go.Rv.ok_laws_toPartS : SumOK Dr Tryz.prog 19 ⟨ins_laws_toPartS, outs_laws_toPartS, F_laws_toPartS, []⟩ := runFn_ok (by kernel_rfl) ztblOK (by kernel_rfl) fun x y h => ⟨zcfg, _, (zrun _ x.1).trans h⟩
end laws_toPartS
abbrev ins_impl_isAmount : List Par := [.v false [CT.int .i64]]
abbrev outs_impl_isAmount : List (Bool × List CT) := [(false, [CT.bool])]
namespace impl_isAmount
/-! ### loop.example/g00095/impl.isAmount (function 41) -/
noncomputable def ztbl : Tbl := fun g fs => if g = 63 ∧ fs = [] then some ⟨ins_impl_in, outs_impl_in, F_impl_in, []⟩ else none
noncomputable def zbody : Code := ((Tryz.prog.funcs[41]?).bind (·.body)).getD .skip
def zcfg : Nat → List Nat × List Nat := fun k => ([], [])
noncomputable def T  (n : Int) : Option (Bool × Unit) := (F_impl_in (n, 0, 67553994410557440, ())).bind fun y1 => some (y1.1, ())
theorem ztop (k0 : Nat) (n : Int) : runFn Tryz.prog ztbl zcfg k0 41 ins_impl_isAmount outs_impl_isAmount [] (n, ()) = T  n := by kernel_rfl
noncomputable def _root_.Go.Rv.F_impl_isAmount : Int × Unit → Option (Bool × Unit) := fun x => T x.1
theorem ztblOK : ∀ g fs S, ztbl g fs = some S → SumOK Dr Tryz.prog g S := by
  intro g fs S h
  unfold ztbl at h
  split at h
  · rename_i hc; obtain ⟨rfl, rfl⟩ := hc; have := Option.some.inj h; subst this; exact ok_impl_in
  cases h
theorem _root_.Go.Rv.ok_impl_isAmount : SumOK Dr Tryz.prog 41 ⟨ins_impl_isAmount, outs_impl_isAmount, F_impl_isAmount, []⟩ := runFn_ok (by kernel_rfl) ztblOK (by kernel_rfl) fun x y h => ⟨zcfg, 0, (ztop 0 x.1).trans h⟩
end impl_isAmount
abbrev ins_slices_Clone_impl_Part_impl_Part : List Par := [.v false [CT.sl ct4]]
abbrev outs_slices_Clone_impl_Part_impl_Part : List (Bool × List CT) := [(false, [CT.sl ct4])]
namespace slices_Clone_impl_Part_impl_Part
/-! ### slices.Clone[[]loop.example/g00095/impl.Part,loop.example/g00095/impl.Part] (function 42) -/
noncomputable def ztbl : Tbl := fun g fs => none
noncomputable def zbody : Code := ((Tryz.prog.funcs[42]?).bind (·.body)).getD .skip
def zcfg : Nat → List Nat × List Nat := fun k => ([], [])
noncomputable def T  (s : List (Int × Int × Unit)) : Option ((List (Int × Int × Unit)) × Unit) := if s.length = 0 then (@ite _ (some ([], ()) = if ([] : List (Int × Int × Unit)).length + s.length ≤ maxRow then some ((([] : List (Int × Int × Unit)) ++ s), ()) else none) (Classical.propDecidable _) (if ([] : List (Int × Int × Unit)).length + s.length ≤ maxRow then some ((([] : List (Int × Int × Unit)) ++ s), ()) else none) none) else if ([] : List (Int × Int × Unit)).length + s.length ≤ maxRow then some ((([] : List (Int × Int × Unit)) ++ s), ()) else none
theorem ztop (k0 : Nat) (s : List (Int × Int × Unit)) : runFn Tryz.prog ztbl zcfg k0 42 ins_slices_Clone_impl_Part_impl_Part outs_slices_Clone_impl_Part_impl_Part [] (s, ()) = T  s := by kernel_rfl
noncomputable def _root_.Go.Rv.F_slices_Clone_impl_Part_impl_Part : (List (Int × Int × Unit)) × Unit → Option ((List (Int × Int × Unit)) × Unit) := fun x => T x.1
theorem ztblOK : ∀ g fs S, ztbl g fs = some S → SumOK Dr Tryz.prog g S := by
  intro g fs S h
  unfold ztbl at h
  cases h
theorem _root_.Go.Rv.ok_slices_Clone_impl_Part_impl_Part : SumOK Dr Tryz.prog 42 ⟨ins_slices_Clone_impl_Part_impl_Part, outs_slices_Clone_impl_Part_impl_Part, F_slices_Clone_impl_Part_impl_Part, []⟩ := runFn_ok (by kernel_rfl) ztblOK (by kernel_rfl) fun x y h => ⟨zcfg, 0, (ztop 0 x.1).trans h⟩
end slices_Clone_impl_Part_impl_Part
abbrev ins_slices_Equal_impl_Part_impl_Part : List Par := [.v false [CT.sl ct4], .v false [CT.sl ct4]]
abbrev outs_slices_Equal_impl_Part_impl_Part : List (Bool × List CT) := [(false, [CT.bool])]
namespace slices_Equal_impl_Part_impl_Part
/-! ### slices.Equal[[]loop.example/g00095/impl.Part,loop.example/g00095/impl.Part] (function 44) -/
noncomputable def ztbl : Tbl := fun g fs => none
noncomputable def zbody : Code := ((Tryz.prog.funcs[44]?).bind (·.body)).getD .skip
def zcfg : Nat → List Nat × List Nat := fun k => if k = 4 then ([0, 1, 12, 13], [4]) else ([], [])
noncomputable def R0 {R : Type} (nx0 : ((List (Int × Int × Unit)) → (List (Int × Int × Unit)) → Int → Int → Option R)) (ex0 : (Bool → Option R)) (ex1 : (Unit → Option R)) (s12 s22 : List (Int × Int × Unit)) (t12x t13x : Int) : Option R := cond (decide (t13x < t12x)) (if 0 ≤ t13x ∧ t13x < (s12.length : Int) then if 0 ≤ t13x ∧ t13x < (s22.length : Int) then cond (!(((rd (0, 0, ()) s12 t13x).1 == (rd (0, 0, ()) s22 t13x).1) && (((rd (0, 0, ()) s12 t13x).2.1 == (rd (0, 0, ()) s22 t13x).2.1) && true))) (ex0 false) (nx0 s12 s22 t12x (w64 (t13x + 1))) else none else none) (ex1 ())
noncomputable def A0  (s1 s2 : List (Int × Int × Unit)) (t4x : Bool) : Option (Bool × Unit) := some (t4x, ())
noncomputable def A1  (s1 s2 : List (Int × Int × Unit)) (_u : Unit) : Option (Bool × Unit) := some (true, ())
noncomputable def T (lo0 : ((List (Int × Int × Unit)) → (List (Int × Int × Unit)) → Int → Int → Option (Bool × Unit))) (s1 s2 : List (Int × Int × Unit)) : Option (Bool × Unit) := cond ((s1.length : Int) != (s2.length : Int)) (some (false, ())) (lo0 s1 s2 (s1.length : Int) 0)
noncomputable def zst0 {R : Type} (k0 : Nat) : Env → List Ob → Kont R → Option R := fun env ob K => runCode Tryz.prog ztbl 26 0 zcfg k0 (codeAt [1, 1, 0, 1, 0, 0] zbody) env ob K
noncomputable def K0 {R : Type} (k0 : Nat) (K : Kont R) : Kont R := blockK 0 (seqK (fun env ob => runCode Tryz.prog ztbl 26 0 zcfg k0 (codeAt [1, 1, 1] zbody) env ob (K)) (K))
noncomputable def L0 {R : Type} (k0 k : Nat) (K : Kont R) (s12 s22 : List (Int × Int × Unit)) (t12x t13x : Int) : Option R := iter 0 [0, 1, 12, 13] [4] (zst0 k0) k [(0, .sl ct4 s12), (1, .sl ct4 s22), (12, .int .i64 t12x), (13, .int .i64 t13x)] [] K
theorem zs0 {R : Type} (k0 k : Nat) (K : Kont R) (s12 s22 : List (Int × Int × Unit)) (t12x t13x : Int) : L0 k0 (k + 1) K s12 s22 t12x t13x = R0 (L0 k0 k K) (fun t4x => K .ret [(4, .bool t4x)] []) (fun _ => K (.exit 0) [(4, .undef)] []) s12 s22 t12x t13x := by kernel_rfl
theorem za0 (k0 : Nat) (s1 s2 : List (Int × Int × Unit)) (t4x : Bool) : K0 (R := (Bool × Unit)) k0 (finK Tryz.prog [.tmp 4] ins_slices_Equal_impl_Part_impl_Part outs_slices_Equal_impl_Part_impl_Part (s1, s2, ())) .ret [(4, .bool t4x)] [] = A0  s1 s2 t4x := by kernel_rfl
theorem za1 (k0 : Nat) (s1 s2 : List (Int × Int × Unit))  : K0 (R := (Bool × Unit)) k0 (finK Tryz.prog [.tmp 4] ins_slices_Equal_impl_Part_impl_Part outs_slices_Equal_impl_Part_impl_Part (s1, s2, ())) (.exit 0) [(4, .undef)] [] = A1  s1 s2 () := by kernel_rfl
theorem ztop (k0 : Nat) (s1 s2 : List (Int × Int × Unit)) : runFn Tryz.prog ztbl zcfg k0 44 ins_slices_Equal_impl_Part_impl_Part outs_slices_Equal_impl_Part_impl_Part [] (s1, s2, ()) = T (L0 (R := (Bool × Unit)) k0 k0 (K0 (R := (Bool × Unit)) k0 ((finK Tryz.prog [.tmp 4] ins_slices_Equal_impl_Part_impl_Part outs_slices_Equal_impl_Part_impl_Part (s1, s2, ()))))) s1 s2 := by kernel_rfl
noncomputable def G0 {R : Type} (k0 : Nat) (hx0 : (Bool → Option R)) (hx1 : (Unit → Option R)) : Nat → (List (Int × Int × Unit)) → (List (Int × Int × Unit)) → Int → Int → Option R
  | 0, _, _, _, _ => none
  | k + 1, s12, s22, t12x, t13x => R0 (G0 k0 hx0 hx1 k) hx0 hx1 s12 s22 t12x t13x
theorem zg0 {R : Type} (k0 : Nat) (K : Kont R) : ∀ k : Nat, L0 k0 k K = G0 k0 (fun t4x => K .ret [(4, .bool t4x)] []) (fun _ => K (.exit 0) [(4, .undef)] []) k := by
  intro k
  induction k with
  | zero => funext s12 s22 t12x t13x; rfl
  | succ k ih => funext s12 s22 t12x t13x; rw [zs0, G0]; (try simp only [ih]); try rfl
noncomputable def FF (k0 : Nat) (s1 s2 : List (Int × Int × Unit)) : Option (Bool × Unit) := T (G0 k0 (A0  s1 s2) (A1  s1 s2) k0) s1 s2
theorem zrun (k0 : Nat) (s1 s2 : List (Int × Int × Unit)) : runFn Tryz.prog ztbl zcfg k0 44 ins_slices_Equal_impl_Part_impl_Part outs_slices_Equal_impl_Part_impl_Part [] (s1, s2, ()) = FF k0 s1 s2 := by
  rw [ztop, FF]; (try simp only [zg0, za0, za1]); try rfl
noncomputable def _root_.Go.Rv.F_slices_Equal_impl_Part_impl_Part : (List (Int × Int × Unit)) × (List (Int × Int × Unit)) × Unit → Option (Bool × Unit) := fun x => (fun (s1 s2 : List (Int × Int × Unit)) => FF (300 + s1.length + s2.length) s1 s2) x.1 x.2.1
theorem ztblOK : ∀ g fs S, ztbl g fs = some S → SumOK Dr Tryz.prog g S := by
  intro g fs S h
  unfold ztbl at h
  cases h
theorem _root_.Go.Rv.ok_slices_Equal_impl_Part_impl_Part : SumOK Dr Tryz.prog 44 ⟨ins_slices_Equal_impl_Part_impl_Part, outs_slices_Equal_impl_Part_impl_Part, F_slices_Equal_impl_Part_impl_Part, []⟩ := runFn_ok (by kernel_rfl) ztblOK (by kernel_rfl) fun x y h => ⟨zcfg, _, (zrun _ x.1 x.2.1).trans h⟩
end slices_Equal_impl_Part_impl_Part
end Go.Rv
