/- What functions come to on pure values (printed by a program of ours). -/
import Derived.Test.YtipgjgcpfppeeaaGreatM04
set_option linter.unusedVariables false
set_option linter.unusedSimpArgs false
set_option linter.unusedSectionVars false
set_option maxRecDepth 100000
namespace Go.Rv
open Go.Proofs
variable {Dr : Kn}
abbrev ins_laws_szGroupS : List Par := [.v false [CT.sl ct2], .v false [CT.int .i64]]
abbrev outs_laws_szGroupS : List (Bool × List CT) := [(false, [CT.int .i64])]
namespace laws_szGroupS
/-! ### loop.example/g00095/laws.szGroupS (function 26) -/
noncomputable def ztbl : Tbl := fun g fs => none
noncomputable def zbody : Code := ((Tryz.prog.funcs[26]?).bind (·.body)).getD .skip
def zcfg : Nat → List Nat × List Nat := fun k => ([], [])
noncomputable def T  (a : List (Int × Int × Int × Int × Unit)) (left : Int) : Option (Int × Unit) := cond (decide ((w64 (left - (a.length : Int))) < 0)) (some ((-1), ())) (some ((w64 (left - (a.length : Int))), ()))
theorem ztop (k0 : Nat) (a : List (Int × Int × Int × Int × Unit)) (left : Int) : runFn Tryz.prog ztbl zcfg k0 26 ins_laws_szGroupS outs_laws_szGroupS [] (a, left, ()) = T  a left := by kernel_rfl
noncomputable def _root_.Go.Rv.F_laws_szGroupS : (List (Int × Int × Int × Int × Unit)) × Int × Unit → Option (Int × Unit) := fun x => T x.1 x.2.1
theorem ztblOK : ∀ g fs S, ztbl g fs = some S → SumOK Dr Tryz.prog g S := by
  intro g fs S h
  unfold ztbl at h
  cases h
theorem _root_.Go.Rv.ok_laws_szGroupS : SumOK Dr Tryz.prog 26 ⟨ins_laws_szGroupS, outs_laws_szGroupS, F_laws_szGroupS, []⟩ := runFn_ok (by kernel_rfl) ztblOK (by kernel_rfl) fun x y h => ⟨zcfg, 0, (ztop 0 x.1 x.2.1).trans h⟩
end laws_szGroupS
abbrev ins_laws_szMemberS : List Par := [.v false [CT.sl ct2], .v false [CT.int .i64]]
abbrev outs_laws_szMemberS : List (Bool × List CT) := [(false, [CT.int .i64])]
namespace laws_szMemberS
/-! ### loop.example/g00095/laws.szMemberS (function 27) -/
noncomputable def ztbl : Tbl := fun g fs => none
noncomputable def zbody : Code := ((Tryz.prog.funcs[27]?).bind (·.body)).getD .skip
def zcfg : Nat → List Nat × List Nat := fun k => ([], [])
noncomputable def T  (a : List (Int × Int × Int × Int × Unit)) (left : Int) : Option (Int × Unit) := cond (decide ((w64 (left - (a.length : Int))) < 0)) (some ((-1), ())) (some ((w64 (left - (a.length : Int))), ()))
theorem ztop (k0 : Nat) (a : List (Int × Int × Int × Int × Unit)) (left : Int) : runFn Tryz.prog ztbl zcfg k0 27 ins_laws_szMemberS outs_laws_szMemberS [] (a, left, ()) = T  a left := by kernel_rfl
noncomputable def _root_.Go.Rv.F_laws_szMemberS : (List (Int × Int × Int × Int × Unit)) × Int × Unit → Option (Int × Unit) := fun x => T x.1 x.2.1
theorem ztblOK : ∀ g fs S, ztbl g fs = some S → SumOK Dr Tryz.prog g S := by
  intro g fs S h
  unfold ztbl at h
  cases h
theorem _root_.Go.Rv.ok_laws_szMemberS : SumOK Dr Tryz.prog 27 ⟨ins_laws_szMemberS, outs_laws_szMemberS, F_laws_szMemberS, []⟩ := runFn_ok (by kernel_rfl) ztblOK (by kernel_rfl) fun x y h => ⟨zcfg, 0, (ztop 0 x.1 x.2.1).trans h⟩
end laws_szMemberS
abbrev ins_laws_szFarm : List Par := [.v true ct4, .v false [CT.int .i64]]
abbrev outs_laws_szFarm : List (Bool × List CT) := [(false, [CT.int .i64])]
namespace laws_szFarm
/-! ### loop.example/g00095/laws.szFarm (function 13) -/
noncomputable def ztbl : Tbl := fun g fs => if g = 26 ∧ fs = [] then some ⟨ins_laws_szGroupS, outs_laws_szGroupS, F_laws_szGroupS, []⟩ else if g = 27 ∧ fs = [] then some ⟨ins_laws_szMemberS, outs_laws_szMemberS, F_laws_szMemberS, []⟩ else none
noncomputable def zbody : Code := ((Tryz.prog.funcs[13]?).bind (·.body)).getD .skip
def zcfg : Nat → List Nat × List Nat := fun k => ([], [])
noncomputable def T  (a0 : Int) (a1 a2 : List (Int × Int × Int × Int × Unit)) (left : Int) : Option (Int × Unit) := (F_laws_szGroupS (a1, left, ())).bind fun y1 => cond (decide (y1.1 < 0)) (some ((-1), ())) ((F_laws_szMemberS (a2, y1.1, ())).bind fun y2 => cond (decide (y2.1 < 0)) (some ((-1), ())) (some (y2.1, ())))
theorem ztop (k0 : Nat) (a0 : Int) (a1 a2 : List (Int × Int × Int × Int × Unit)) (left : Int) : runFn Tryz.prog ztbl zcfg k0 13 ins_laws_szFarm outs_laws_szFarm [] (a0, a1, a2, left, ()) = T  a0 a1 a2 left := by kernel_rfl
noncomputable def _root_.Go.Rv.F_laws_szFarm : Int × (List (Int × Int × Int × Int × Unit)) × (List (Int × Int × Int × Int × Unit)) × Int × Unit → Option (Int × Unit) := fun x => T x.1 x.2.1 x.2.2.1 x.2.2.2.1
theorem ztblOK : ∀ g fs S, ztbl g fs = some S → SumOK Dr Tryz.prog g S := by
  intro g fs S h
  unfold ztbl at h
  split at h
  · rename_i hc; obtain ⟨rfl, rfl⟩ := hc; have := Option.some.inj h; subst this; exact ok_laws_szGroupS
  split at h
  · rename_i hc; obtain ⟨rfl, rfl⟩ := hc; have := Option.some.inj h; subst this; exact ok_laws_szMemberS
  cases h
theorem _root_.Go.Rv.ok_laws_szFarm : SumOK Dr Tryz.prog 13 ⟨ins_laws_szFarm, outs_laws_szFarm, F_laws_szFarm, []⟩ := runFn_ok (by kernel_rfl) ztblOK (by kernel_rfl) fun x y h => ⟨zcfg, 0, (ztop 0 x.1 x.2.1 x.2.2.1 x.2.2.2.1).trans h⟩
end laws_szFarm
abbrev ins_laws_szLeaseS : List Par := [.v false [CT.sl ct0], .v false [CT.int .i64]]
abbrev outs_laws_szLeaseS : List (Bool × List CT) := [(false, [CT.int .i64])]
namespace laws_szLeaseS
/-! ### loop.example/g00095/laws.szLeaseS (function 14) -/
noncomputable def ztbl : Tbl := fun g fs => none
noncomputable def zbody : Code := ((Tryz.prog.funcs[14]?).bind (·.body)).getD .skip
def zcfg : Nat → List Nat × List Nat := fun k => ([], [])
noncomputable def T  (a : List (Int × Int × Int × Unit)) (left : Int) : Option (Int × Unit) := cond (decide ((w64 (left - (a.length : Int))) < 0)) (some ((-1), ())) (some ((w64 (left - (a.length : Int))), ()))
theorem ztop (k0 : Nat) (a : List (Int × Int × Int × Unit)) (left : Int) : runFn Tryz.prog ztbl zcfg k0 14 ins_laws_szLeaseS outs_laws_szLeaseS [] (a, left, ()) = T  a left := by kernel_rfl
noncomputable def _root_.Go.Rv.F_laws_szLeaseS : (List (Int × Int × Int × Unit)) × Int × Unit → Option (Int × Unit) := fun x => T x.1 x.2.1
theorem ztblOK : ∀ g fs S, ztbl g fs = some S → SumOK Dr Tryz.prog g S := by
  intro g fs S h
  unfold ztbl at h
  cases h
theorem _root_.Go.Rv.ok_laws_szLeaseS : SumOK Dr Tryz.prog 14 ⟨ins_laws_szLeaseS, outs_laws_szLeaseS, F_laws_szLeaseS, []⟩ := runFn_ok (by kernel_rfl) ztblOK (by kernel_rfl) fun x y h => ⟨zcfg, 0, (ztop 0 x.1 x.2.1).trans h⟩
end laws_szLeaseS
abbrev ins_laws_szServer : List Par := [.v true ct3, .v false [CT.int .i64]]
abbrev outs_laws_szServer : List (Bool × List CT) := [(false, [CT.int .i64])]
namespace laws_szServer
/-! ### loop.example/g00095/laws.szServer (function 4) -/
noncomputable def ztbl : Tbl := fun g fs => if g = 13 ∧ fs = [] then some ⟨ins_laws_szFarm, outs_laws_szFarm, F_laws_szFarm, []⟩ else if g = 14 ∧ fs = [] then some ⟨ins_laws_szLeaseS, outs_laws_szLeaseS, F_laws_szLeaseS, []⟩ else none
noncomputable def zbody : Code := ((Tryz.prog.funcs[4]?).bind (·.body)).getD .skip
def zcfg : Nat → List Nat × List Nat := fun k => ([], [])
noncomputable def T  (a0 a1 a2 a3 : Int) (a4 a5 : List (Int × Int × Int × Int × Unit)) (a6 : List (Int × Int × Int × Unit)) (left : Int) : Option (Int × Unit) := (F_laws_szFarm (a3, a4, a5, left, ())).bind fun y1 => cond (decide (y1.1 < 0)) (some ((-1), ())) ((F_laws_szLeaseS (a6, y1.1, ())).bind fun y2 => cond (decide (y2.1 < 0)) (some ((-1), ())) (some (y2.1, ())))
theorem ztop (k0 : Nat) (a0 a1 a2 a3 : Int) (a4 a5 : List (Int × Int × Int × Int × Unit)) (a6 : List (Int × Int × Int × Unit)) (left : Int) : runFn Tryz.prog ztbl zcfg k0 4 ins_laws_szServer outs_laws_szServer [] (a0, a1, a2, a3, a4, a5, a6, left, ()) = T  a0 a1 a2 a3 a4 a5 a6 left := by kernel_rfl
noncomputable def _root_.Go.Rv.F_laws_szServer : Int × Int × Int × Int × (List (Int × Int × Int × Int × Unit)) × (List (Int × Int × Int × Int × Unit)) × (List (Int × Int × Int × Unit)) × Int × Unit → Option (Int × Unit) := fun x => T x.1 x.2.1 x.2.2.1 x.2.2.2.1 x.2.2.2.2.1 x.2.2.2.2.2.1 x.2.2.2.2.2.2.1 x.2.2.2.2.2.2.2.1
theorem ztblOK : ∀ g fs S, ztbl g fs = some S → SumOK Dr Tryz.prog g S := by
  intro g fs S h
  unfold ztbl at h
  split at h
  · rename_i hc; obtain ⟨rfl, rfl⟩ := hc; have := Option.some.inj h; subst this; exact ok_laws_szFarm
  split at h
  · rename_i hc; obtain ⟨rfl, rfl⟩ := hc; have := Option.some.inj h; subst this; exact ok_laws_szLeaseS
  cases h
theorem _root_.Go.Rv.ok_laws_szServer : SumOK Dr Tryz.prog 4 ⟨ins_laws_szServer, outs_laws_szServer, F_laws_szServer, []⟩ := runFn_ok (by kernel_rfl) ztblOK (by kernel_rfl) fun x y h => ⟨zcfg, 0, (ztop 0 x.1 x.2.1 x.2.2.1 x.2.2.2.1 x.2.2.2.2.1 x.2.2.2.2.2.1 x.2.2.2.2.2.2.1 x.2.2.2.2.2.2.2.1).trans h⟩
end laws_szServer
abbrev ins_spec_l10Length : List Par := [.v false [CT.int .i64]]
abbrev outs_spec_l10Length : List (Bool × List CT) := [(false, [CT.bool])]
namespace spec_l10Length
/-! ### loop.example/g00095/spec.l10Length (function 28) -/
noncomputable def ztbl : Tbl := fun g fs => none
noncomputable def zbody : Code := ((Tryz.prog.funcs[28]?).bind (·.body)).getD .skip
def zcfg : Nat → List Nat × List Nat := fun k => ([], [])
noncomputable def T  (n : Int) : Option (Bool × Unit) := cond (decide (n ≥ 1)) (some ((decide (n ≤ 1000)), ())) (some (false, ()))
theorem ztop (k0 : Nat) (n : Int) : runFn Tryz.prog ztbl zcfg k0 28 ins_spec_l10Length outs_spec_l10Length [] (n, ()) = T  n := by kernel_rfl
noncomputable def _root_.Go.Rv.F_spec_l10Length : Int × Unit → Option (Bool × Unit) := fun x => T x.1
theorem ztblOK : ∀ g fs S, ztbl g fs = some S → SumOK Dr Tryz.prog g S := by
  intro g fs S h
  unfold ztbl at h
  cases h
theorem _root_.Go.Rv.ok_spec_l10Length : SumOK Dr Tryz.prog 28 ⟨ins_spec_l10Length, outs_spec_l10Length, F_spec_l10Length, []⟩ := runFn_ok (by kernel_rfl) ztblOK (by kernel_rfl) fun x y h => ⟨zcfg, 0, (ztop 0 x.1).trans h⟩
end spec_l10Length
abbrev ins_spec_l02Want : List Par := [.v false [CT.int .i64]]
abbrev outs_spec_l02Want : List (Bool × List CT) := [(false, [CT.bool])]
namespace spec_l02Want
/-! ### loop.example/g00095/spec.l02Want (function 44) -/
noncomputable def ztbl : Tbl := fun g fs => none
noncomputable def zbody : Code := ((Tryz.prog.funcs[44]?).bind (·.body)).getD .skip
def zcfg : Nat → List Nat × List Nat := fun k => ([], [])
noncomputable def T  (n : Int) : Option (Bool × Unit) := cond (decide (n ≥ 0)) (some ((decide (n ≤ 1125899906842624)), ())) (some (false, ()))
theorem ztop (k0 : Nat) (n : Int) : runFn Tryz.prog ztbl zcfg k0 44 ins_spec_l02Want outs_spec_l02Want [] (n, ()) = T  n := by kernel_rfl
noncomputable def _root_.Go.Rv.F_spec_l02Want : Int × Unit → Option (Bool × Unit) := fun x => T x.1
theorem ztblOK : ∀ g fs S, ztbl g fs = some S → SumOK Dr Tryz.prog g S := by
  intro g fs S h
  unfold ztbl at h
  cases h
theorem _root_.Go.Rv.ok_spec_l02Want : SumOK Dr Tryz.prog 44 ⟨ins_spec_l02Want, outs_spec_l02Want, F_spec_l02Want, []⟩ := runFn_ok (by kernel_rfl) ztblOK (by kernel_rfl) fun x y h => ⟨zcfg, 0, (ztop 0 x.1).trans h⟩
end spec_l02Want
abbrev ins_spec_l02Id : List Par := [.v false [CT.int .i64]]
abbrev outs_spec_l02Id : List (Bool × List CT) := [(false, [CT.bool])]
namespace spec_l02Id
/-! ### loop.example/g00095/spec.l02Id (function 45) -/
noncomputable def ztbl : Tbl := fun g fs => none
noncomputable def zbody : Code := ((Tryz.prog.funcs[45]?).bind (·.body)).getD .skip
def zcfg : Nat → List Nat × List Nat := fun k => ([], [])
noncomputable def T  (n : Int) : Option (Bool × Unit) := cond (decide (n ≥ 1)) (some ((decide (n ≤ 1000000)), ())) (some (false, ()))
theorem ztop (k0 : Nat) (n : Int) : runFn Tryz.prog ztbl zcfg k0 45 ins_spec_l02Id outs_spec_l02Id [] (n, ()) = T  n := by kernel_rfl
noncomputable def _root_.Go.Rv.F_spec_l02Id : Int × Unit → Option (Bool × Unit) := fun x => T x.1
theorem ztblOK : ∀ g fs S, ztbl g fs = some S → SumOK Dr Tryz.prog g S := by
  intro g fs S h
  unfold ztbl at h
  cases h
theorem _root_.Go.Rv.ok_spec_l02Id : SumOK Dr Tryz.prog 45 ⟨ins_spec_l02Id, outs_spec_l02Id, F_spec_l02Id, []⟩ := runFn_ok (by kernel_rfl) ztblOK (by kernel_rfl) fun x y h => ⟨zcfg, 0, (ztop 0 x.1).trans h⟩
end spec_l02Id
abbrev ins_spec_l05Group : List Par := [.v true ct4, .v false [CT.int .i64]]
abbrev outs_spec_l05Group : List (Bool × List CT) := [(false, [CT.int .i64])]
namespace spec_l05Group
/-! ### loop.example/g00095/spec.l05Group (function 46) -/
noncomputable def ztbl : Tbl := fun g fs => none
noncomputable def zbody : Code := ((Tryz.prog.funcs[46]?).bind (·.body)).getD .skip
def zcfg : Nat → List Nat × List Nat := fun k => if k = 2 then ([1, 2, 5], [4]) else ([], [])
noncomputable def R0 {R : Type} (nx0 : (Int → Int → Int → (List (Int × Int × Int × Int × Unit)) → (List (Int × Int × Int × Int × Unit)) → Option R)) (ex0 : (Int → Option R)) (ex1 : (Unit → Option R)) (id2 i f : Int) (f3 f4 : List (Int × Int × Int × Int × Unit)) : Option R := cond (decide (i < (f3.length : Int))) (if 0 ≤ i ∧ i < (f3.length : Int) then cond ((rd (0, 0, 0, 0, ()) f3 i).1 == id2) (ex0 i) (nx0 id2 (w64 (i + 1)) f f3 f4) else none) (ex1 ())
noncomputable def A0  (f0 : Int) (f1 f2 : List (Int × Int × Int × Int × Unit)) (id : Int) (t4x : Int) : Option (Int × Unit) := some (t4x, ())
noncomputable def A1  (f0 : Int) (f1 f2 : List (Int × Int × Int × Int × Unit)) (id : Int) (_u : Unit) : Option (Int × Unit) := some ((-1), ())
noncomputable def T (lo0 : (Int → Int → Int → (List (Int × Int × Int × Int × Unit)) → (List (Int × Int × Int × Int × Unit)) → Option (Int × Unit))) (f0 : Int) (f1 f2 : List (Int × Int × Int × Int × Unit)) (id : Int) : Option (Int × Unit) := lo0 id 0 f0 f1 f2
noncomputable def zst0 {R : Type} (k0 : Nat) : Env → List Ob → Kont R → Option R := fun env ob K => runCode Tryz.prog ztbl 22 0 zcfg k0 (codeAt [1, 0, 1, 0, 0] zbody) env ob K
noncomputable def K0 {R : Type} (k0 : Nat) (K : Kont R) : Kont R := blockK 0 (seqK (fun env ob => runCode Tryz.prog ztbl 22 0 zcfg k0 (codeAt [1, 1] zbody) env ob (K)) (K))
noncomputable def L0 {R : Type} (k0 k : Nat) (K : Kont R) (id2 i f : Int) (f3 f4 : List (Int × Int × Int × Int × Unit)) : Option R := iter 0 [1, 2, 5] [4] (zst0 k0) k [(1, .int .i64 id2), (2, .ptr 0 0 0 0), (5, .int .i64 i)] [.box [.int .i64 f, .sl ct2 f3, .sl ct2 f4]] K
theorem zs0 {R : Type} (k0 k : Nat) (K : Kont R) (id2 i f : Int) (f3 f4 : List (Int × Int × Int × Int × Unit)) : L0 k0 (k + 1) K id2 i f f3 f4 = R0 (L0 k0 k K) (fun t4x => K .ret [(4, .int .i64 t4x)] []) (fun _ => K (.exit 0) [(4, .undef)] []) id2 i f f3 f4 := by kernel_rfl
theorem za0 (k0 : Nat) (f0 : Int) (f1 f2 : List (Int × Int × Int × Int × Unit)) (id : Int) (t4x : Int) : K0 (R := (Int × Unit)) k0 (finK Tryz.prog [.tmp 4] ins_spec_l05Group outs_spec_l05Group (f0, f1, f2, id, ())) .ret [(4, .int .i64 t4x)] [] = A0  f0 f1 f2 id t4x := by kernel_rfl
theorem za1 (k0 : Nat) (f0 : Int) (f1 f2 : List (Int × Int × Int × Int × Unit)) (id : Int)  : K0 (R := (Int × Unit)) k0 (finK Tryz.prog [.tmp 4] ins_spec_l05Group outs_spec_l05Group (f0, f1, f2, id, ())) (.exit 0) [(4, .undef)] [] = A1  f0 f1 f2 id () := by kernel_rfl
theorem ztop (k0 : Nat) (f0 : Int) (f1 f2 : List (Int × Int × Int × Int × Unit)) (id : Int) : runFn Tryz.prog ztbl zcfg k0 46 ins_spec_l05Group outs_spec_l05Group [] (f0, f1, f2, id, ()) = T (L0 (R := (Int × Unit)) k0 k0 (K0 (R := (Int × Unit)) k0 ((finK Tryz.prog [.tmp 4] ins_spec_l05Group outs_spec_l05Group (f0, f1, f2, id, ()))))) f0 f1 f2 id := by kernel_rfl
noncomputable def G0 {R : Type} (k0 : Nat) (hx0 : (Int → Option R)) (hx1 : (Unit → Option R)) : Nat → Int → Int → Int → (List (Int × Int × Int × Int × Unit)) → (List (Int × Int × Int × Int × Unit)) → Option R
  | 0, _, _, _, _, _ => none
  | k + 1, id2, i, f, f3, f4 => R0 (G0 k0 hx0 hx1 k) hx0 hx1 id2 i f f3 f4
theorem zg0 {R : Type} (k0 : Nat) (K : Kont R) : ∀ k : Nat, L0 k0 k K = G0 k0 (fun t4x => K .ret [(4, .int .i64 t4x)] []) (fun _ => K (.exit 0) [(4, .undef)] []) k := by
  intro k
  induction k with
  | zero => funext id2 i f f3 f4; rfl
  | succ k ih => funext id2 i f f3 f4; rw [zs0, G0]; (try simp only [ih]); try rfl
noncomputable def FF (k0 : Nat) (f0 : Int) (f1 f2 : List (Int × Int × Int × Int × Unit)) (id : Int) : Option (Int × Unit) := T (G0 k0 (A0  f0 f1 f2 id) (A1  f0 f1 f2 id) k0) f0 f1 f2 id
theorem zrun (k0 : Nat) (f0 : Int) (f1 f2 : List (Int × Int × Int × Int × Unit)) (id : Int) : runFn Tryz.prog ztbl zcfg k0 46 ins_spec_l05Group outs_spec_l05Group [] (f0, f1, f2, id, ()) = FF k0 f0 f1 f2 id := by
  rw [ztop, FF]; (try simp only [zg0, za0, za1]); try rfl
noncomputable def _root_.Go.Rv.F_spec_l05Group : Int × (List (Int × Int × Int × Int × Unit)) × (List (Int × Int × Int × Int × Unit)) × Int × Unit → Option (Int × Unit) := fun x => (fun (f0 : Int) (f1 f2 : List (Int × Int × Int × Int × Unit)) (id : Int) => FF (300 + f1.length + f2.length) f0 f1 f2 id) x.1 x.2.1 x.2.2.1 x.2.2.2.1
theorem ztblOK : ∀ g fs S, ztbl g fs = some S → SumOK Dr Tryz.prog g S := by
  intro g fs S h
  unfold ztbl at h
  cases h
theorem _root_.Go.Rv.ok_spec_l05Group : SumOK Dr Tryz.prog 46 ⟨ins_spec_l05Group, outs_spec_l05Group, F_spec_l05Group, []⟩ := runFn_ok (by kernel_rfl) ztblOK (by kernel_rfl) fun x y h => ⟨zcfg, _, (zrun _ x.1 x.2.1 x.2.2.1 x.2.2.2.1).trans h⟩
end spec_l05Group
abbrev ins_spec_l02Weight : List Par := [.v false [CT.int .i64]]
abbrev outs_spec_l02Weight : List (Bool × List CT) := [(false, [CT.bool])]
namespace spec_l02Weight
/-! ### loop.example/g00095/spec.l02Weight (function 47) -/
noncomputable def ztbl : Tbl := fun g fs => none
noncomputable def zbody : Code := ((Tryz.prog.funcs[47]?).bind (·.body)).getD .skip
def zcfg : Nat → List Nat × List Nat := fun k => ([], [])
noncomputable def T  (n : Int) : Option (Bool × Unit) := cond (decide (n ≥ 1)) (some ((decide (n ≤ 1073741824)), ())) (some (false, ()))
theorem ztop (k0 : Nat) (n : Int) : runFn Tryz.prog ztbl zcfg k0 47 ins_spec_l02Weight outs_spec_l02Weight [] (n, ()) = T  n := by kernel_rfl
noncomputable def _root_.Go.Rv.F_spec_l02Weight : Int × Unit → Option (Bool × Unit) := fun x => T x.1
theorem ztblOK : ∀ g fs S, ztbl g fs = some S → SumOK Dr Tryz.prog g S := by
  intro g fs S h
  unfold ztbl at h
  cases h
theorem _root_.Go.Rv.ok_spec_l02Weight : SumOK Dr Tryz.prog 47 ⟨ins_spec_l02Weight, outs_spec_l02Weight, F_spec_l02Weight, []⟩ := runFn_ok (by kernel_rfl) ztblOK (by kernel_rfl) fun x y h => ⟨zcfg, 0, (ztop 0 x.1).trans h⟩
end spec_l02Weight
abbrev ins_spec_FarmRight : List Par := [.v true ct4]
abbrev outs_spec_FarmRight : List (Bool × List CT) := [(false, [CT.bool])]
namespace spec_FarmRight
/-! ### loop.example/g00095/spec.FarmRight (function 29) -/
noncomputable def ztbl : Tbl := fun g fs => if g = 44 ∧ fs = [] then some ⟨ins_spec_l02Want, outs_spec_l02Want, F_spec_l02Want, []⟩ else if g = 45 ∧ fs = [] then some ⟨ins_spec_l02Id, outs_spec_l02Id, F_spec_l02Id, []⟩ else if g = 46 ∧ fs = [] then some ⟨ins_spec_l05Group, outs_spec_l05Group, F_spec_l05Group, []⟩ else if g = 47 ∧ fs = [] then some ⟨ins_spec_l02Weight, outs_spec_l02Weight, F_spec_l02Weight, []⟩ else none
noncomputable def zbody : Code := ((Tryz.prog.funcs[29]?).bind (·.body)).getD .skip
def zcfg : Nat → List Nat × List Nat := fun k => if k = 4 then ([1, 3], [1, 2]) else if k = 10 then ([1, 5], [2]) else ([], [])
noncomputable def R0 {R : Type} (nx0 : (Int → Int → (List (Int × Int × Int × Int × Unit)) → (List (Int × Int × Int × Int × Unit)) → Option R)) (ex0 : (Bool → Int → (List (Int × Int × Int × Int × Unit)) → (List (Int × Int × Int × Int × Unit)) → Option R)) (ex1 : (Int → (List (Int × Int × Int × Int × Unit)) → (List (Int × Int × Int × Int × Unit)) → Option R)) (i f : Int) (f3 f4 : List (Int × Int × Int × Int × Unit)) : Option R := cond (decide (i < (f3.length : Int))) (if 0 ≤ i ∧ i < (f3.length : Int) then (F_spec_l02Id ((rd (0, 0, 0, 0, ()) f3 i).1, ())).bind fun y1 => cond (!y1.1) (ex0 false f f3 f4) (cond (decide (i > 0)) (if 0 ≤ (w64 (i - 1)) ∧ (w64 (i - 1)) < (f3.length : Int) then cond (decide ((rd (0, 0, 0, 0, ()) f3 i).1 ≤ (rd (0, 0, 0, 0, ()) f3 (w64 (i - 1))).1)) (ex0 false f f3 f4) (cond ((rd (0, 0, 0, 0, ()) f3 i).2.1 != 0) ((F_spec_l05Group (f, f3, f4, (rd (0, 0, 0, 0, ()) f3 i).2.1, ())).bind fun y2 => cond (decide (y2.1 < 0)) (ex0 false f f3 f4) (cond (decide ((rd (0, 0, 0, 0, ()) f3 i).2.1 ≥ (rd (0, 0, 0, 0, ()) f3 i).1)) (ex0 false f f3 f4) ((F_spec_l02Want ((rd (0, 0, 0, 0, ()) f3 i).2.2.1, ())).bind fun y3 => cond (!y3.1) (ex0 false f f3 f4) ((F_spec_l02Weight ((rd (0, 0, 0, 0, ()) f3 i).2.2.2.1, ())).bind fun y4 => cond (!y4.1) (ex0 false f f3 f4) (nx0 (w64 (i + 1)) f f3 f4))))) ((F_spec_l02Want ((rd (0, 0, 0, 0, ()) f3 i).2.2.1, ())).bind fun y5 => cond (!y5.1) (ex0 false f f3 f4) ((F_spec_l02Weight ((rd (0, 0, 0, 0, ()) f3 i).2.2.2.1, ())).bind fun y6 => cond (!y6.1) (ex0 false f f3 f4) (nx0 (w64 (i + 1)) f f3 f4)))) else none) (cond ((rd (0, 0, 0, 0, ()) f3 i).2.1 != 0) ((F_spec_l05Group (f, f3, f4, (rd (0, 0, 0, 0, ()) f3 i).2.1, ())).bind fun y7 => cond (decide (y7.1 < 0)) (ex0 false f f3 f4) (cond (decide ((rd (0, 0, 0, 0, ()) f3 i).2.1 ≥ (rd (0, 0, 0, 0, ()) f3 i).1)) (ex0 false f f3 f4) ((F_spec_l02Want ((rd (0, 0, 0, 0, ()) f3 i).2.2.1, ())).bind fun y8 => cond (!y8.1) (ex0 false f f3 f4) ((F_spec_l02Weight ((rd (0, 0, 0, 0, ()) f3 i).2.2.2.1, ())).bind fun y9 => cond (!y9.1) (ex0 false f f3 f4) (nx0 (w64 (i + 1)) f f3 f4))))) ((F_spec_l02Want ((rd (0, 0, 0, 0, ()) f3 i).2.2.1, ())).bind fun y10 => cond (!y10.1) (ex0 false f f3 f4) ((F_spec_l02Weight ((rd (0, 0, 0, 0, ()) f3 i).2.2.2.1, ())).bind fun y11 => cond (!y11.1) (ex0 false f f3 f4) (nx0 (w64 (i + 1)) f f3 f4))))) else none) (ex1 f f3 f4)
noncomputable def R1 {R : Type} (nx1 : (Int → Int → (List (Int × Int × Int × Int × Unit)) → (List (Int × Int × Int × Int × Unit)) → Option R)) (ex2 : (Bool → Option R)) (ex3 : (Unit → Option R)) (i f : Int) (f3 f4 : List (Int × Int × Int × Int × Unit)) : Option R := cond (decide (i < (f4.length : Int))) (if 0 ≤ i ∧ i < (f4.length : Int) then (F_spec_l02Id ((rd (0, 0, 0, 0, ()) f4 i).1, ())).bind fun y1 => cond (!y1.1) (ex2 false) (cond (decide (i > 0)) (if 0 ≤ (w64 (i - 1)) ∧ (w64 (i - 1)) < (f4.length : Int) then cond (decide ((rd (0, 0, 0, 0, ()) f4 i).1 ≤ (rd (0, 0, 0, 0, ()) f4 (w64 (i - 1))).1)) (ex2 false) (cond ((rd (0, 0, 0, 0, ()) f4 i).2.1 != 0) ((F_spec_l05Group (f, f3, f4, (rd (0, 0, 0, 0, ()) f4 i).2.1, ())).bind fun y2 => cond (decide (y2.1 < 0)) (ex2 false) ((F_spec_l02Want ((rd (0, 0, 0, 0, ()) f4 i).2.2.1, ())).bind fun y3 => cond (!y3.1) (ex2 false) ((F_spec_l02Weight ((rd (0, 0, 0, 0, ()) f4 i).2.2.2.1, ())).bind fun y4 => cond (!y4.1) (ex2 false) (nx1 (w64 (i + 1)) f f3 f4)))) ((F_spec_l02Want ((rd (0, 0, 0, 0, ()) f4 i).2.2.1, ())).bind fun y5 => cond (!y5.1) (ex2 false) ((F_spec_l02Weight ((rd (0, 0, 0, 0, ()) f4 i).2.2.2.1, ())).bind fun y6 => cond (!y6.1) (ex2 false) (nx1 (w64 (i + 1)) f f3 f4)))) else none) (cond ((rd (0, 0, 0, 0, ()) f4 i).2.1 != 0) ((F_spec_l05Group (f, f3, f4, (rd (0, 0, 0, 0, ()) f4 i).2.1, ())).bind fun y7 => cond (decide (y7.1 < 0)) (ex2 false) ((F_spec_l02Want ((rd (0, 0, 0, 0, ()) f4 i).2.2.1, ())).bind fun y8 => cond (!y8.1) (ex2 false) ((F_spec_l02Weight ((rd (0, 0, 0, 0, ()) f4 i).2.2.2.1, ())).bind fun y9 => cond (!y9.1) (ex2 false) (nx1 (w64 (i + 1)) f f3 f4)))) ((F_spec_l02Want ((rd (0, 0, 0, 0, ()) f4 i).2.2.1, ())).bind fun y10 => cond (!y10.1) (ex2 false) ((F_spec_l02Weight ((rd (0, 0, 0, 0, ()) f4 i).2.2.2.1, ())).bind fun y11 => cond (!y11.1) (ex2 false) (nx1 (w64 (i + 1)) f f3 f4))))) else none) (ex3 ())
noncomputable def A0  (f0 : Int) (f1 f2 : List (Int × Int × Int × Int × Unit)) (t2x : Bool) (f : Int) (f3 f4 : List (Int × Int × Int × Int × Unit)) : Option (Bool × Unit) := some (t2x, ())
noncomputable def A1 (lo1 : (Int → Int → (List (Int × Int × Int × Int × Unit)) → (List (Int × Int × Int × Int × Unit)) → Option (Bool × Unit))) (f0 : Int) (f1 f2 : List (Int × Int × Int × Int × Unit)) (f : Int) (f3 f4 : List (Int × Int × Int × Int × Unit)) : Option (Bool × Unit) := lo1 0 f f3 f4
noncomputable def A2  (f0 : Int) (f1 f2 : List (Int × Int × Int × Int × Unit)) (t2x : Bool) : Option (Bool × Unit) := some (t2x, ())
noncomputable def A3  (f0 : Int) (f1 f2 : List (Int × Int × Int × Int × Unit)) (_u : Unit) : Option (Bool × Unit) := some (true, ())
noncomputable def T (lo0 : (Int → Int → (List (Int × Int × Int × Int × Unit)) → (List (Int × Int × Int × Int × Unit)) → Option (Bool × Unit))) (f0 : Int) (f1 f2 : List (Int × Int × Int × Int × Unit)) : Option (Bool × Unit) := (F_spec_l02Want (f0, ())).bind fun y1 => cond (!y1.1) (some (false, ())) (cond (decide ((f1.length : Int) > 30)) (some (false, ())) (cond (decide ((f2.length : Int) > 60)) (some (false, ())) (lo0 0 f0 f1 f2)))
noncomputable def zst0 {R : Type} (k0 : Nat) : Env → List Ob → Kont R → Option R := fun env ob K => runCode Tryz.prog ztbl 142 0 zcfg k0 (codeAt [1, 1, 0, 1, 0, 0] zbody) env ob K
noncomputable def K0 {R : Type} (k0 : Nat) (K : Kont R) : Kont R := blockK 0 (seqK (fun env ob => runCode Tryz.prog ztbl 142 0 zcfg k0 (codeAt [1, 1, 1] zbody) env ob (K)) (K))
noncomputable def zst1 {R : Type} (k0 : Nat) : Env → List Ob → Kont R → Option R := fun env ob K => runCode Tryz.prog ztbl 142 0 zcfg k0 (codeAt [1, 1, 1, 0, 1, 0, 0] zbody) env ob K
noncomputable def K1 {R : Type} (k0 : Nat) (K : Kont R) : Kont R := blockK 2 (seqK (fun env ob => runCode Tryz.prog ztbl 142 0 zcfg k0 (codeAt [1, 1, 1, 1] zbody) env ob (K)) (K))
noncomputable def L0 {R : Type} (k0 k : Nat) (K : Kont R) (i f : Int) (f3 f4 : List (Int × Int × Int × Int × Unit)) : Option R := iter 0 [1, 3] [1, 2] (zst0 k0) k [(1, .ptr 0 0 0 0), (3, .int .i64 i)] [.box [.int .i64 f, .sl ct2 f3, .sl ct2 f4]] K
noncomputable def L1 {R : Type} (k0 k : Nat) (K : Kont R) (i f : Int) (f3 f4 : List (Int × Int × Int × Int × Unit)) : Option R := iter 0 [1, 5] [2] (zst1 k0) k [(1, .ptr 0 0 0 0), (5, .int .i64 i)] [.box [.int .i64 f, .sl ct2 f3, .sl ct2 f4]] K
theorem zs0 {R : Type} (k0 k : Nat) (K : Kont R) (i f : Int) (f3 f4 : List (Int × Int × Int × Int × Unit)) : L0 k0 (k + 1) K i f f3 f4 = R0 (L0 k0 k K) (fun t2x f f3 f4 => K .ret [(1, .ptr 0 0 0 0), (2, .bool t2x)] [.box [.int .i64 f, .sl ct2 f3, .sl ct2 f4]]) (fun f f3 f4 => K (.exit 0) [(1, .ptr 0 0 0 0), (2, .undef)] [.box [.int .i64 f, .sl ct2 f3, .sl ct2 f4]]) i f f3 f4 := by kernel_rfl
theorem zs1 {R : Type} (k0 k : Nat) (K : Kont R) (i f : Int) (f3 f4 : List (Int × Int × Int × Int × Unit)) : L1 k0 (k + 1) K i f f3 f4 = R1 (L1 k0 k K) (fun t2x => K .ret [(2, .bool t2x)] []) (fun _ => K (.exit 2) [(2, .undef)] []) i f f3 f4 := by kernel_rfl
theorem za0 (k0 : Nat) (f0 : Int) (f1 f2 : List (Int × Int × Int × Int × Unit)) (t2x : Bool) (f : Int) (f3 f4 : List (Int × Int × Int × Int × Unit)) : K0 (R := (Bool × Unit)) k0 (finK Tryz.prog [.tmp 2] ins_spec_FarmRight outs_spec_FarmRight (f0, f1, f2, ())) .ret [(1, .ptr 0 0 0 0), (2, .bool t2x)] [.box [.int .i64 f, .sl ct2 f3, .sl ct2 f4]] = A0  f0 f1 f2 t2x f f3 f4 := by kernel_rfl
theorem za1 (k0 : Nat) (f0 : Int) (f1 f2 : List (Int × Int × Int × Int × Unit)) (f : Int) (f3 f4 : List (Int × Int × Int × Int × Unit)) : K0 (R := (Bool × Unit)) k0 (finK Tryz.prog [.tmp 2] ins_spec_FarmRight outs_spec_FarmRight (f0, f1, f2, ())) (.exit 0) [(1, .ptr 0 0 0 0), (2, .undef)] [.box [.int .i64 f, .sl ct2 f3, .sl ct2 f4]] = A1 (L1 (R := (Bool × Unit)) k0 k0 (K1 (R := (Bool × Unit)) k0 ((finK Tryz.prog [.tmp 2] ins_spec_FarmRight outs_spec_FarmRight (f0, f1, f2, ()))))) f0 f1 f2 f f3 f4 := by kernel_rfl
theorem za2 (k0 : Nat) (f0 : Int) (f1 f2 : List (Int × Int × Int × Int × Unit)) (t2x : Bool) : K1 (R := (Bool × Unit)) k0 (finK Tryz.prog [.tmp 2] ins_spec_FarmRight outs_spec_FarmRight (f0, f1, f2, ())) .ret [(2, .bool t2x)] [] = A2  f0 f1 f2 t2x := by kernel_rfl
theorem za3 (k0 : Nat) (f0 : Int) (f1 f2 : List (Int × Int × Int × Int × Unit))  : K1 (R := (Bool × Unit)) k0 (finK Tryz.prog [.tmp 2] ins_spec_FarmRight outs_spec_FarmRight (f0, f1, f2, ())) (.exit 2) [(2, .undef)] [] = A3  f0 f1 f2 () := by kernel_rfl
theorem ztop (k0 : Nat) (f0 : Int) (f1 f2 : List (Int × Int × Int × Int × Unit)) : runFn Tryz.prog ztbl zcfg k0 29 ins_spec_FarmRight outs_spec_FarmRight [] (f0, f1, f2, ()) = T (L0 (R := (Bool × Unit)) k0 k0 (K0 (R := (Bool × Unit)) k0 ((finK Tryz.prog [.tmp 2] ins_spec_FarmRight outs_spec_FarmRight (f0, f1, f2, ()))))) f0 f1 f2 := by kernel_rfl
noncomputable def G0 {R : Type} (k0 : Nat) (hx0 : (Bool → Int → (List (Int × Int × Int × Int × Unit)) → (List (Int × Int × Int × Int × Unit)) → Option R)) (hx1 : (Int → (List (Int × Int × Int × Int × Unit)) → (List (Int × Int × Int × Int × Unit)) → Option R)) : Nat → Int → Int → (List (Int × Int × Int × Int × Unit)) → (List (Int × Int × Int × Int × Unit)) → Option R
  | 0, _, _, _, _ => none
  | k + 1, i, f, f3, f4 => R0 (G0 k0 hx0 hx1 k) hx0 hx1 i f f3 f4
theorem zg0 {R : Type} (k0 : Nat) (K : Kont R) : ∀ k : Nat, L0 k0 k K = G0 k0 (fun t2x f f3 f4 => K .ret [(1, .ptr 0 0 0 0), (2, .bool t2x)] [.box [.int .i64 f, .sl ct2 f3, .sl ct2 f4]]) (fun f f3 f4 => K (.exit 0) [(1, .ptr 0 0 0 0), (2, .undef)] [.box [.int .i64 f, .sl ct2 f3, .sl ct2 f4]]) k := by
  intro k
  induction k with
  | zero => funext i f f3 f4; rfl
  | succ k ih => funext i f f3 f4; rw [zs0, G0]; (try simp only [ih]); try rfl
noncomputable def G1 {R : Type} (k0 : Nat) (hx2 : (Bool → Option R)) (hx3 : (Unit → Option R)) : Nat → Int → Int → (List (Int × Int × Int × Int × Unit)) → (List (Int × Int × Int × Int × Unit)) → Option R
  | 0, _, _, _, _ => none
  | k + 1, i, f, f3, f4 => R1 (G1 k0 hx2 hx3 k) hx2 hx3 i f f3 f4
theorem zg1 {R : Type} (k0 : Nat) (K : Kont R) : ∀ k : Nat, L1 k0 k K = G1 k0 (fun t2x => K .ret [(2, .bool t2x)] []) (fun _ => K (.exit 2) [(2, .undef)] []) k := by
  intro k
  induction k with
  | zero => funext i f f3 f4; rfl
  | succ k ih => funext i f f3 f4; rw [zs1, G1]; (try simp only [ih, zg0]); try rfl
noncomputable def FF (k0 : Nat) (f0 : Int) (f1 f2 : List (Int × Int × Int × Int × Unit)) : Option (Bool × Unit) := T (G0 k0 (A0  f0 f1 f2) (A1 (G1 k0 (A2  f0 f1 f2) (A3  f0 f1 f2) k0) f0 f1 f2) k0) f0 f1 f2
theorem zrun (k0 : Nat) (f0 : Int) (f1 f2 : List (Int × Int × Int × Int × Unit)) : runFn Tryz.prog ztbl zcfg k0 29 ins_spec_FarmRight outs_spec_FarmRight [] (f0, f1, f2, ()) = FF k0 f0 f1 f2 := by
  rw [ztop, FF]; (try simp only [zg0, zg1, za0, za1, za2, za3]); try rfl
noncomputable def _root_.Go.Rv.F_spec_FarmRight : Int × (List (Int × Int × Int × Int × Unit)) × (List (Int × Int × Int × Int × Unit)) × Unit → Option (Bool × Unit) := fun x => (fun (f0 : Int) (f1 f2 : List (Int × Int × Int × Int × Unit)) => FF (300 + f1.length + f2.length) f0 f1 f2) x.1 x.2.1 x.2.2.1
theorem ztblOK : ∀ g fs S, ztbl g fs = some S → SumOK Dr Tryz.prog g S := by
  intro g fs S h
  unfold ztbl at h
  split at h
  · rename_i hc; obtain ⟨rfl, rfl⟩ := hc; have := Option.some.inj h; subst this; exact ok_spec_l02Want
  split at h
  · rename_i hc; obtain ⟨rfl, rfl⟩ := hc; have := Option.some.inj h; subst this; exact ok_spec_l02Id
  split at h
  · rename_i hc; obtain ⟨rfl, rfl⟩ := hc; have := Option.some.inj h; subst this; exact ok_spec_l05Group
  split at h
  · rename_i hc; obtain ⟨rfl, rfl⟩ := hc; have := Option.some.inj h; subst this; exact ok_spec_l02Weight
  cases h
theorem _root_.Go.Rv.ok_spec_FarmRight : SumOK Dr Tryz.prog 29 ⟨ins_spec_FarmRight, outs_spec_FarmRight, F_spec_FarmRight, []⟩ := runFn_ok (by kernel_rfl) ztblOK (by kernel_rfl) fun x y h => ⟨zcfg, _, (zrun _ x.1 x.2.1 x.2.2.1).trans h⟩
end spec_FarmRight
abbrev ins_spec_l07Time : List Par := [.v false [CT.int .i64]]
abbrev outs_spec_l07Time : List (Bool × List CT) := [(false, [CT.bool])]
namespace spec_l07Time
/-! ### loop.example/g00095/spec.l07Time (function 61) -/
noncomputable def ztbl : Tbl := fun g fs => none
noncomputable def zbody : Code := ((Tryz.prog.funcs[61]?).bind (·.body)).getD .skip
def zcfg : Nat → List Nat × List Nat := fun k => ([], [])
noncomputable def T  (n : Int) : Option (Bool × Unit) := cond (decide (n ≥ 0)) (some ((decide (n ≤ 1000000)), ())) (some (false, ()))
theorem ztop (k0 : Nat) (n : Int) : runFn Tryz.prog ztbl zcfg k0 61 ins_spec_l07Time outs_spec_l07Time [] (n, ()) = T  n := by kernel_rfl
noncomputable def _root_.Go.Rv.F_spec_l07Time : Int × Unit → Option (Bool × Unit) := fun x => T x.1
theorem ztblOK : ∀ g fs S, ztbl g fs = some S → SumOK Dr Tryz.prog g S := by
  intro g fs S h
  unfold ztbl at h
  cases h
theorem _root_.Go.Rv.ok_spec_l07Time : SumOK Dr Tryz.prog 61 ⟨ins_spec_l07Time, outs_spec_l07Time, F_spec_l07Time, []⟩ := runFn_ok (by kernel_rfl) ztblOK (by kernel_rfl) fun x y h => ⟨zcfg, 0, (ztop 0 x.1).trans h⟩
end spec_l07Time
abbrev ins_spec_l07Lease : List Par := [.v true ct0]
abbrev outs_spec_l07Lease : List (Bool × List CT) := [(false, [CT.bool])]
namespace spec_l07Lease
/-! ### loop.example/g00095/spec.l07Lease (function 48) -/
noncomputable def ztbl : Tbl := fun g fs => if g = 44 ∧ fs = [] then some ⟨ins_spec_l02Want, outs_spec_l02Want, F_spec_l02Want, []⟩ else if g = 45 ∧ fs = [] then some ⟨ins_spec_l02Id, outs_spec_l02Id, F_spec_l02Id, []⟩ else if g = 61 ∧ fs = [] then some ⟨ins_spec_l07Time, outs_spec_l07Time, F_spec_l07Time, []⟩ else none
noncomputable def zbody : Code := ((Tryz.prog.funcs[48]?).bind (·.body)).getD .skip
def zcfg : Nat → List Nat × List Nat := fun k => ([], [])
noncomputable def T  (l0 l1 l2 : Int) : Option (Bool × Unit) := (F_spec_l02Id (l0, ())).bind fun y1 => cond y1.1 ((F_spec_l02Want (l1, ())).bind fun y2 => cond y2.1 ((F_spec_l07Time (l2, ())).bind fun y3 => some (y3.1, ())) (some (false, ()))) (some (false, ()))
theorem ztop (k0 : Nat) (l0 l1 l2 : Int) : runFn Tryz.prog ztbl zcfg k0 48 ins_spec_l07Lease outs_spec_l07Lease [] (l0, l1, l2, ()) = T  l0 l1 l2 := by kernel_rfl
noncomputable def _root_.Go.Rv.F_spec_l07Lease : Int × Int × Int × Unit → Option (Bool × Unit) := fun x => T x.1 x.2.1 x.2.2.1
theorem ztblOK : ∀ g fs S, ztbl g fs = some S → SumOK Dr Tryz.prog g S := by
  intro g fs S h
  unfold ztbl at h
  split at h
  · rename_i hc; obtain ⟨rfl, rfl⟩ := hc; have := Option.some.inj h; subst this; exact ok_spec_l02Want
  split at h
  · rename_i hc; obtain ⟨rfl, rfl⟩ := hc; have := Option.some.inj h; subst this; exact ok_spec_l02Id
  split at h
  · rename_i hc; obtain ⟨rfl, rfl⟩ := hc; have := Option.some.inj h; subst this; exact ok_spec_l07Time
  cases h
theorem _root_.Go.Rv.ok_spec_l07Lease : SumOK Dr Tryz.prog 48 ⟨ins_spec_l07Lease, outs_spec_l07Lease, F_spec_l07Lease, []⟩ := runFn_ok (by kernel_rfl) ztblOK (by kernel_rfl) fun x y h => ⟨zcfg, 0, (ztop 0 x.1 x.2.1 x.2.2.1).trans h⟩
end spec_l07Lease
abbrev ins_spec_LeasesRight : List Par := [.v false [CT.sl ct0]]
abbrev outs_spec_LeasesRight : List (Bool × List CT) := [(false, [CT.bool])]
namespace spec_LeasesRight
/-! ### loop.example/g00095/spec.LeasesRight (function 30) -/
noncomputable def ztbl : Tbl := fun g fs => if g = 48 ∧ fs = [] then some ⟨ins_spec_l07Lease, outs_spec_l07Lease, F_spec_l07Lease, []⟩ else none
noncomputable def zbody : Code := ((Tryz.prog.funcs[30]?).bind (·.body)).getD .skip
def zcfg : Nat → List Nat × List Nat := fun k => if k = 4 then ([0, 3], [2]) else ([], [])
noncomputable def R0 {R : Type} (nx0 : ((List (Int × Int × Int × Unit)) → Int → Option R)) (ex0 : (Bool → Option R)) (ex1 : (Unit → Option R)) (list2 : List (Int × Int × Int × Unit)) (i : Int) : Option R := cond (decide (i < (list2.length : Int))) (if 0 ≤ i ∧ i < (list2.length : Int) then (F_spec_l07Lease ((rd (0, 0, 0, ()) list2 i).1, (rd (0, 0, 0, ()) list2 i).2.1, (rd (0, 0, 0, ()) list2 i).2.2.1, ())).bind fun y1 => cond (!y1.1) (ex0 false) (cond (decide (i > 0)) (if 0 ≤ i ∧ i < (list2.length : Int) then if 0 ≤ (w64 (i - 1)) ∧ (w64 (i - 1)) < (list2.length : Int) then cond (decide ((rd (0, 0, 0, ()) list2 i).1 ≤ (rd (0, 0, 0, ()) list2 (w64 (i - 1))).1)) (ex0 false) (nx0 list2 (w64 (i + 1))) else none else none) (nx0 list2 (w64 (i + 1)))) else none) (ex1 ())
noncomputable def A0  (list : List (Int × Int × Int × Unit)) (t2x : Bool) : Option (Bool × Unit) := some (t2x, ())
noncomputable def A1  (list : List (Int × Int × Int × Unit)) (_u : Unit) : Option (Bool × Unit) := some (true, ())
noncomputable def T (lo0 : ((List (Int × Int × Int × Unit)) → Int → Option (Bool × Unit))) (list : List (Int × Int × Int × Unit)) : Option (Bool × Unit) := cond (decide ((list.length : Int) > 60)) (some (false, ())) (lo0 list 0)
noncomputable def zst0 {R : Type} (k0 : Nat) : Env → List Ob → Kont R → Option R := fun env ob K => runCode Tryz.prog ztbl 37 0 zcfg k0 (codeAt [1, 1, 0, 1, 0, 0] zbody) env ob K
noncomputable def K0 {R : Type} (k0 : Nat) (K : Kont R) : Kont R := blockK 0 (seqK (fun env ob => runCode Tryz.prog ztbl 37 0 zcfg k0 (codeAt [1, 1, 1] zbody) env ob (K)) (K))
noncomputable def L0 {R : Type} (k0 k : Nat) (K : Kont R) (list2 : List (Int × Int × Int × Unit)) (i : Int) : Option R := iter 0 [0, 3] [2] (zst0 k0) k [(0, .sl ct0 list2), (3, .int .i64 i)] [] K
theorem zs0 {R : Type} (k0 k : Nat) (K : Kont R) (list2 : List (Int × Int × Int × Unit)) (i : Int) : L0 k0 (k + 1) K list2 i = R0 (L0 k0 k K) (fun t2x => K .ret [(2, .bool t2x)] []) (fun _ => K (.exit 0) [(2, .undef)] []) list2 i := by kernel_rfl
theorem za0 (k0 : Nat) (list : List (Int × Int × Int × Unit)) (t2x : Bool) : K0 (R := (Bool × Unit)) k0 (finK Tryz.prog [.tmp 2] ins_spec_LeasesRight outs_spec_LeasesRight (list, ())) .ret [(2, .bool t2x)] [] = A0  list t2x := by kernel_rfl
theorem za1 (k0 : Nat) (list : List (Int × Int × Int × Unit))  : K0 (R := (Bool × Unit)) k0 (finK Tryz.prog [.tmp 2] ins_spec_LeasesRight outs_spec_LeasesRight (list, ())) (.exit 0) [(2, .undef)] [] = A1  list () := by kernel_rfl
theorem ztop (k0 : Nat) (list : List (Int × Int × Int × Unit)) : runFn Tryz.prog ztbl zcfg k0 30 ins_spec_LeasesRight outs_spec_LeasesRight [] (list, ()) = T (L0 (R := (Bool × Unit)) k0 k0 (K0 (R := (Bool × Unit)) k0 ((finK Tryz.prog [.tmp 2] ins_spec_LeasesRight outs_spec_LeasesRight (list, ()))))) list := by kernel_rfl
noncomputable def G0 {R : Type} (k0 : Nat) (hx0 : (Bool → Option R)) (hx1 : (Unit → Option R)) : Nat → (List (Int × Int × Int × Unit)) → Int → Option R
  | 0, _, _ => none
  | k + 1, list2, i => R0 (G0 k0 hx0 hx1 k) hx0 hx1 list2 i
theorem zg0 {R : Type} (k0 : Nat) (K : Kont R) : ∀ k : Nat, L0 k0 k K = G0 k0 (fun t2x => K .ret [(2, .bool t2x)] []) (fun _ => K (.exit 0) [(2, .undef)] []) k := by
  intro k
  induction k with
  | zero => funext list2 i; rfl
  | succ k ih => funext list2 i; rw [zs0, G0]; (try simp only [ih]); try rfl
noncomputable def FF (k0 : Nat) (list : List (Int × Int × Int × Unit)) : Option (Bool × Unit) := T (G0 k0 (A0  list) (A1  list) k0) list
theorem zrun (k0 : Nat) (list : List (Int × Int × Int × Unit)) : runFn Tryz.prog ztbl zcfg k0 30 ins_spec_LeasesRight outs_spec_LeasesRight [] (list, ()) = FF k0 list := by
  rw [ztop, FF]; (try simp only [zg0, za0, za1]); try rfl
noncomputable def _root_.Go.Rv.F_spec_LeasesRight : (List (Int × Int × Int × Unit)) × Unit → Option (Bool × Unit) := fun x => (fun (list : List (Int × Int × Int × Unit)) => FF (300 + list.length) list) x.1
theorem ztblOK : ∀ g fs S, ztbl g fs = some S → SumOK Dr Tryz.prog g S := by
  intro g fs S h
  unfold ztbl at h
  split at h
  · rename_i hc; obtain ⟨rfl, rfl⟩ := hc; have := Option.some.inj h; subst this; exact ok_spec_l07Lease
  cases h
theorem _root_.Go.Rv.ok_spec_LeasesRight : SumOK Dr Tryz.prog 30 ⟨ins_spec_LeasesRight, outs_spec_LeasesRight, F_spec_LeasesRight, []⟩ := runFn_ok (by kernel_rfl) ztblOK (by kernel_rfl) fun x y h => ⟨zcfg, _, (zrun _ x.1).trans h⟩
end spec_LeasesRight
abbrev ins_spec_ServerRight : List Par := [.v true ct3]
abbrev outs_spec_ServerRight : List (Bool × List CT) := [(false, [CT.bool])]
namespace spec_ServerRight
/-! ### loop.example/g00095/spec.ServerRight (function 15) -/
noncomputable def ztbl : Tbl := fun g fs => if g = 28 ∧ fs = [] then some ⟨ins_spec_l10Length, outs_spec_l10Length, F_spec_l10Length, []⟩ else if g = 29 ∧ fs = [] then some ⟨ins_spec_FarmRight, outs_spec_FarmRight, F_spec_FarmRight, []⟩ else if g = 30 ∧ fs = [] then some ⟨ins_spec_LeasesRight, outs_spec_LeasesRight, F_spec_LeasesRight, []⟩ else none
noncomputable def zbody : Code := ((Tryz.prog.funcs[15]?).bind (·.body)).getD .skip
def zcfg : Nat → List Nat × List Nat := fun k => if k = 4 then ([1, 3], [2]) else ([], [])
noncomputable def R0 {R : Type} (nx0 : (Int → Int → Int → Int → Int → (List (Int × Int × Int × Int × Unit)) → (List (Int × Int × Int × Int × Unit)) → (List (Int × Int × Int × Unit)) → Option R)) (ex0 : (Bool → Option R)) (ex1 : (Unit → Option R)) (i s s7 s8 s9 : Int) (s10 s11 : List (Int × Int × Int × Int × Unit)) (s12 : List (Int × Int × Int × Unit)) : Option R := cond (decide (i < (s12.length : Int))) (if 0 ≤ i ∧ i < (s12.length : Int) then if 0 ≤ i ∧ i < (s11.length : Int) then cond ((rd (0, 0, 0, ()) s12 i).1 != (rd (0, 0, 0, 0, ()) s11 i).1) (ex0 false) (if 0 ≤ i ∧ i < (s12.length : Int) then cond (decide ((rd (0, 0, 0, ()) s12 i).2.2.1 ≤ s8)) (ex0 false) (if 0 ≤ i ∧ i < (s12.length : Int) then cond (decide ((rd (0, 0, 0, ()) s12 i).2.2.1 > (w64 (s8 + s)))) (ex0 false) (nx0 (w64 (i + 1)) s s7 s8 s9 s10 s11 s12) else none) else none) else none else none) (ex1 ())
noncomputable def A0  (s0 s1 s2 s3 : Int) (s4 s5 : List (Int × Int × Int × Int × Unit)) (s6 : List (Int × Int × Int × Unit)) (t2x : Bool) : Option (Bool × Unit) := some (t2x, ())
noncomputable def A1  (s0 s1 s2 s3 : Int) (s4 s5 : List (Int × Int × Int × Int × Unit)) (s6 : List (Int × Int × Int × Unit)) (_u : Unit) : Option (Bool × Unit) := some (true, ())
noncomputable def T (lo0 : (Int → Int → Int → Int → Int → (List (Int × Int × Int × Int × Unit)) → (List (Int × Int × Int × Int × Unit)) → (List (Int × Int × Int × Unit)) → Option (Bool × Unit))) (s0 s1 s2 s3 : Int) (s4 s5 : List (Int × Int × Int × Int × Unit)) (s6 : List (Int × Int × Int × Unit)) : Option (Bool × Unit) := (F_spec_l10Length (s0, ())).bind fun y1 => cond (!y1.1) (some (false, ())) (cond (decide (s1 < 0)) (some (false, ())) (cond (decide (s1 > s2)) (some (false, ())) (cond (decide (s2 > 999000)) (some (false, ())) ((F_spec_FarmRight (s3, s4, s5, ())).bind fun y2 => cond (!y2.1) (some (false, ())) ((F_spec_LeasesRight (s6, ())).bind fun y3 => cond (!y3.1) (some (false, ())) (cond ((s6.length : Int) != (s5.length : Int)) (some (false, ())) (lo0 0 s0 s1 s2 s3 s4 s5 s6)))))))
noncomputable def zst0 {R : Type} (k0 : Nat) : Env → List Ob → Kont R → Option R := fun env ob K => runCode Tryz.prog ztbl 93 0 zcfg k0 (codeAt [1, 1, 0, 1, 0, 0] zbody) env ob K
noncomputable def K0 {R : Type} (k0 : Nat) (K : Kont R) : Kont R := blockK 0 (seqK (fun env ob => runCode Tryz.prog ztbl 93 0 zcfg k0 (codeAt [1, 1, 1] zbody) env ob (K)) (K))
noncomputable def L0 {R : Type} (k0 k : Nat) (K : Kont R) (i s s7 s8 s9 : Int) (s10 s11 : List (Int × Int × Int × Int × Unit)) (s12 : List (Int × Int × Int × Unit)) : Option R := iter 0 [1, 3] [2] (zst0 k0) k [(1, .ptr 0 0 0 0), (3, .int .i64 i)] [.box [.int .i64 s, .int .i64 s7, .int .i64 s8, .int .i64 s9, .sl ct2 s10, .sl ct2 s11, .sl ct0 s12]] K
theorem zs0 {R : Type} (k0 k : Nat) (K : Kont R) (i s s7 s8 s9 : Int) (s10 s11 : List (Int × Int × Int × Int × Unit)) (s12 : List (Int × Int × Int × Unit)) : L0 k0 (k + 1) K i s s7 s8 s9 s10 s11 s12 = R0 (L0 k0 k K) (fun t2x => K .ret [(2, .bool t2x)] []) (fun _ => K (.exit 0) [(2, .undef)] []) i s s7 s8 s9 s10 s11 s12 := by kernel_rfl
theorem za0 (k0 : Nat) (s0 s1 s2 s3 : Int) (s4 s5 : List (Int × Int × Int × Int × Unit)) (s6 : List (Int × Int × Int × Unit)) (t2x : Bool) : K0 (R := (Bool × Unit)) k0 (finK Tryz.prog [.tmp 2] ins_spec_ServerRight outs_spec_ServerRight (s0, s1, s2, s3, s4, s5, s6, ())) .ret [(2, .bool t2x)] [] = A0  s0 s1 s2 s3 s4 s5 s6 t2x := by kernel_rfl
theorem za1 (k0 : Nat) (s0 s1 s2 s3 : Int) (s4 s5 : List (Int × Int × Int × Int × Unit)) (s6 : List (Int × Int × Int × Unit))  : K0 (R := (Bool × Unit)) k0 (finK Tryz.prog [.tmp 2] ins_spec_ServerRight outs_spec_ServerRight (s0, s1, s2, s3, s4, s5, s6, ())) (.exit 0) [(2, .undef)] [] = A1  s0 s1 s2 s3 s4 s5 s6 () := by kernel_rfl
theorem ztop (k0 : Nat) (s0 s1 s2 s3 : Int) (s4 s5 : List (Int × Int × Int × Int × Unit)) (s6 : List (Int × Int × Int × Unit)) : runFn Tryz.prog ztbl zcfg k0 15 ins_spec_ServerRight outs_spec_ServerRight [] (s0, s1, s2, s3, s4, s5, s6, ()) = T (L0 (R := (Bool × Unit)) k0 k0 (K0 (R := (Bool × Unit)) k0 ((finK Tryz.prog [.tmp 2] ins_spec_ServerRight outs_spec_ServerRight (s0, s1, s2, s3, s4, s5, s6, ()))))) s0 s1 s2 s3 s4 s5 s6 := by kernel_rfl
noncomputable def G0 {R : Type} (k0 : Nat) (hx0 : (Bool → Option R)) (hx1 : (Unit → Option R)) : Nat → Int → Int → Int → Int → Int → (List (Int × Int × Int × Int × Unit)) → (List (Int × Int × Int × Int × Unit)) → (List (Int × Int × Int × Unit)) → Option R
  | 0, _, _, _, _, _, _, _, _ => none
  | k + 1, i, s, s7, s8, s9, s10, s11, s12 => R0 (G0 k0 hx0 hx1 k) hx0 hx1 i s s7 s8 s9 s10 s11 s12
theorem zg0 {R : Type} (k0 : Nat) (K : Kont R) : ∀ k : Nat, L0 k0 k K = G0 k0 (fun t2x => K .ret [(2, .bool t2x)] []) (fun _ => K (.exit 0) [(2, .undef)] []) k := by
  intro k
  induction k with
  | zero => funext i s s7 s8 s9 s10 s11 s12; rfl
  | succ k ih => funext i s s7 s8 s9 s10 s11 s12; rw [zs0, G0]; (try simp only [ih]); try rfl
noncomputable def FF (k0 : Nat) (s0 s1 s2 s3 : Int) (s4 s5 : List (Int × Int × Int × Int × Unit)) (s6 : List (Int × Int × Int × Unit)) : Option (Bool × Unit) := T (G0 k0 (A0  s0 s1 s2 s3 s4 s5 s6) (A1  s0 s1 s2 s3 s4 s5 s6) k0) s0 s1 s2 s3 s4 s5 s6
theorem zrun (k0 : Nat) (s0 s1 s2 s3 : Int) (s4 s5 : List (Int × Int × Int × Int × Unit)) (s6 : List (Int × Int × Int × Unit)) : runFn Tryz.prog ztbl zcfg k0 15 ins_spec_ServerRight outs_spec_ServerRight [] (s0, s1, s2, s3, s4, s5, s6, ()) = FF k0 s0 s1 s2 s3 s4 s5 s6 := by
  rw [ztop, FF]; (try simp only [zg0, za0, za1]); try rfl
noncomputable def _root_.Go.Rv.F_spec_ServerRight : Int × Int × Int × Int × (List (Int × Int × Int × Int × Unit)) × (List (Int × Int × Int × Int × Unit)) × (List (Int × Int × Int × Unit)) × Unit → Option (Bool × Unit) := fun x => (fun (s0 s1 s2 s3 : Int) (s4 s5 : List (Int × Int × Int × Int × Unit)) (s6 : List (Int × Int × Int × Unit)) => FF (300 + s4.length + s5.length + s6.length) s0 s1 s2 s3 s4 s5 s6) x.1 x.2.1 x.2.2.1 x.2.2.2.1 x.2.2.2.2.1 x.2.2.2.2.2.1 x.2.2.2.2.2.2.1
theorem ztblOK : ∀ g fs S, ztbl g fs = some S → SumOK Dr Tryz.prog g S := by
  intro g fs S h
  unfold ztbl at h
  split at h
  · rename_i hc; obtain ⟨rfl, rfl⟩ := hc; have := Option.some.inj h; subst this; exact ok_spec_l10Length
  split at h
  · rename_i hc; obtain ⟨rfl, rfl⟩ := hc; have := Option.some.inj h; subst this; exact ok_spec_FarmRight
  split at h
  · rename_i hc; obtain ⟨rfl, rfl⟩ := hc; have := Option.some.inj h; subst this; exact ok_spec_LeasesRight
  cases h
theorem _root_.Go.Rv.ok_spec_ServerRight : SumOK Dr Tryz.prog 15 ⟨ins_spec_ServerRight, outs_spec_ServerRight, F_spec_ServerRight, []⟩ := runFn_ok (by kernel_rfl) ztblOK (by kernel_rfl) fun x y h => ⟨zcfg, _, (zrun _ x.1 x.2.1 x.2.2.1 x.2.2.2.1 x.2.2.2.2.1 x.2.2.2.2.2.1 x.2.2.2.2.2.2.1).trans h⟩
end spec_ServerRight
abbrev ins_spec_l01Min : List Par := [.v false [CT.int .i64], .v false [CT.int .i64]]
abbrev outs_spec_l01Min : List (Bool × List CT) := [(false, [CT.int .i64])]
namespace spec_l01Min
/-! ### loop.example/g00095/spec.l01Min (function 71) -/
noncomputable def ztbl : Tbl := fun g fs => none
noncomputable def zbody : Code := ((Tryz.prog.funcs[71]?).bind (·.body)).getD .skip
def zcfg : Nat → List Nat × List Nat := fun k => ([], [])
noncomputable def T  (a b : Int) : Option (Int × Unit) := cond (decide (a < b)) (some (a, ())) (some (b, ()))
theorem ztop (k0 : Nat) (a b : Int) : runFn Tryz.prog ztbl zcfg k0 71 ins_spec_l01Min outs_spec_l01Min [] (a, b, ()) = T  a b := by kernel_rfl
noncomputable def _root_.Go.Rv.F_spec_l01Min : Int × Int × Unit → Option (Int × Unit) := fun x => T x.1 x.2.1
theorem ztblOK : ∀ g fs S, ztbl g fs = some S → SumOK Dr Tryz.prog g S := by
  intro g fs S h
  unfold ztbl at h
  cases h
theorem _root_.Go.Rv.ok_spec_l01Min : SumOK Dr Tryz.prog 71 ⟨ins_spec_l01Min, outs_spec_l01Min, F_spec_l01Min, []⟩ := runFn_ok (by kernel_rfl) ztblOK (by kernel_rfl) fun x y h => ⟨zcfg, 0, (ztop 0 x.1 x.2.1).trans h⟩
end spec_l01Min
abbrev ins_spec_l05Wants : List Par := [.v true ct4]
abbrev outs_spec_l05Wants : List (Bool × List CT) := [(false, [CT.sl [CT.int .i64]])]
namespace spec_l05Wants
/-! ### loop.example/g00095/spec.l05Wants (function 62) -/
noncomputable def ztbl : Tbl := fun g fs => if g = 71 ∧ fs = [] then some ⟨ins_spec_l01Min, outs_spec_l01Min, F_spec_l01Min, []⟩ else none
noncomputable def zbody : Code := ((Tryz.prog.funcs[62]?).bind (·.body)).getD .skip
def zcfg : Nat → List Nat × List Nat := fun k => if k = 3 then ([1, 3, 4], [3]) else if k = 7 then ([1, 3, 4, 5, 6], [1, 3, 4, 5]) else if k = 12 then ([1, 3, 4, 5, 7], [1, 3, 4, 5]) else ([], [])
noncomputable def R0 {R : Type} (ex0 : ((List (Int × Unit)) → Option R)) (lo1 : (Int → Int → Int → Int → (List (Int × Int × Int × Int × Unit)) → (List (Int × Int × Int × Int × Unit)) → (List (Int × Unit)) → Option R)) (i f : Int) (f3 f4 : List (Int × Int × Int × Int × Unit)) (out : List (Int × Unit)) : Option R := cond (decide (i ≥ 0)) (lo1 i 0 (w64 (i + 1)) f f3 f4 out) (ex0 out)
noncomputable def R1 {R : Type} (nx1 : (Int → Int → Int → Int → (List (Int × Int × Int × Int × Unit)) → (List (Int × Int × Int × Int × Unit)) → (List (Int × Unit)) → Option R)) (ex1 : (Int → Int → Int → (List (Int × Int × Int × Int × Unit)) → (List (Int × Int × Int × Int × Unit)) → (List (Int × Unit)) → Option R)) (i sum kx f : Int) (f3 f4 : List (Int × Int × Int × Int × Unit)) (out : List (Int × Unit)) : Option R := cond (decide (kx < (f3.length : Int))) (if 0 ≤ kx ∧ kx < (f3.length : Int) then if 0 ≤ i ∧ i < (f3.length : Int) then cond ((rd (0, 0, 0, 0, ()) f3 kx).2.1 == (rd (0, 0, 0, 0, ()) f3 i).1) (if 0 ≤ kx ∧ kx < (out.length : Int) then nx1 i (w64 (sum + (out.getD kx.toNat (0, ())).1)) (w64 (kx + 1)) f f3 f4 out else none) (nx1 i sum (w64 (kx + 1)) f f3 f4 out) else none else none) (ex1 i sum f f3 f4 out)
noncomputable def R2 {R : Type} (nx2 : (Int → Int → Int → Int → (List (Int × Int × Int × Int × Unit)) → (List (Int × Int × Int × Int × Unit)) → (List (Int × Unit)) → Option R)) (ex2 : (Int → Int → Int → (List (Int × Int × Int × Int × Unit)) → (List (Int × Int × Int × Int × Unit)) → (List (Int × Unit)) → Option R)) (i sum kx f : Int) (f3 f4 : List (Int × Int × Int × Int × Unit)) (out : List (Int × Unit)) : Option R := cond (decide (kx < (f4.length : Int))) (if 0 ≤ kx ∧ kx < (f4.length : Int) then if 0 ≤ i ∧ i < (f3.length : Int) then cond ((rd (0, 0, 0, 0, ()) f4 kx).2.1 == (rd (0, 0, 0, 0, ()) f3 i).1) (if 0 ≤ kx ∧ kx < (f4.length : Int) then nx2 i (w64 (sum + (rd (0, 0, 0, 0, ()) f4 kx).2.2.1)) (w64 (kx + 1)) f f3 f4 out else none) (nx2 i sum (w64 (kx + 1)) f f3 f4 out) else none else none) (ex2 i sum f f3 f4 out)
noncomputable def A0  (f0 : Int) (f1 f2 : List (Int × Int × Int × Int × Unit)) (out : List (Int × Unit)) : Option ((List (Int × Unit)) × Unit) := some (out, ())
noncomputable def A1 {R : Type} (lo2 : (Int → Int → Int → Int → (List (Int × Int × Int × Int × Unit)) → (List (Int × Int × Int × Int × Unit)) → (List (Int × Unit)) → Option R)) (i sum f : Int) (f3 f4 : List (Int × Int × Int × Int × Unit)) (out : List (Int × Unit)) : Option R := lo2 i sum 0 f f3 f4 out
noncomputable def A2 {R : Type} (nx0 : (Int → Int → (List (Int × Int × Int × Int × Unit)) → (List (Int × Int × Int × Int × Unit)) → (List (Int × Unit)) → Option R)) (i sum f : Int) (f3 f4 : List (Int × Int × Int × Int × Unit)) (out : List (Int × Unit)) : Option R := if 0 ≤ i ∧ i < (f3.length : Int) then (F_spec_l01Min (sum, (rd (0, 0, 0, 0, ()) f3 i).2.2.1, ())).bind fun y1 => if 0 ≤ i ∧ i < (out.length : Int) then nx0 (w64 (i - 1)) f f3 f4 (out.set i.toNat (y1.1, ())) else none else none
noncomputable def T (lo0 : (Int → Int → (List (Int × Int × Int × Int × Unit)) → (List (Int × Int × Int × Int × Unit)) → (List (Int × Unit)) → Option ((List (Int × Unit)) × Unit))) (f0 : Int) (f1 f2 : List (Int × Int × Int × Int × Unit)) : Option ((List (Int × Unit)) × Unit) := if 0 ≤ (f1.length : Int) ∧ (8 : Int) * (f1.length : Int) ≤ 281474976710656 ∧ (f1.length : Int) ≤ 9223372036854775807 then lo0 (w64 ((f1.length : Int) - 1)) f0 f1 f2 (List.replicate (((f1.length : Int) : Int)).toNat (0, ())) else none
noncomputable def zst0 {R : Type} (k0 : Nat) : Env → List Ob → Kont R → Option R := fun env ob K => runCode Tryz.prog ztbl 88 0 zcfg k0 (codeAt [1, 1, 0, 1, 0, 0] zbody) env ob K
noncomputable def K0 {R : Type} (k0 : Nat) (K : Kont R) : Kont R := blockK 0 (seqK (fun env ob => runCode Tryz.prog ztbl 88 0 zcfg k0 (codeAt [1, 1, 1] zbody) env ob (K)) (K))
noncomputable def zst1 {R : Type} (k0 : Nat) : Env → List Ob → Kont R → Option R := fun env ob K => runCode Tryz.prog ztbl 88 0 zcfg k0 (codeAt [1, 1, 0, 1, 0, 0, 1, 0, 0, 1, 0, 1, 0, 0] zbody) env ob K
noncomputable def K1 {R : Type} (k0 : Nat) (K : Kont R) : Kont R := blockK 2 (seqK (fun env ob => runCode Tryz.prog ztbl 88 0 zcfg k0 (codeAt [1, 1, 0, 1, 0, 0, 1, 0, 0, 1, 1] zbody) env ob (blockK 1 (seqK (fun env ob => runCode Tryz.prog ztbl 88 0 zcfg k0 (codeAt [1, 1, 0, 1, 0, 0, 1, 1] zbody) env ob (K)) (K)))) (blockK 1 (seqK (fun env ob => runCode Tryz.prog ztbl 88 0 zcfg k0 (codeAt [1, 1, 0, 1, 0, 0, 1, 1] zbody) env ob (K)) (K))))
noncomputable def zst2 {R : Type} (k0 : Nat) : Env → List Ob → Kont R → Option R := fun env ob K => runCode Tryz.prog ztbl 88 0 zcfg k0 (codeAt [1, 1, 0, 1, 0, 0, 1, 0, 0, 1, 1, 0, 1, 0, 0] zbody) env ob K
noncomputable def K2 {R : Type} (k0 : Nat) (K : Kont R) : Kont R := blockK 4 (seqK (fun env ob => runCode Tryz.prog ztbl 88 0 zcfg k0 (codeAt [1, 1, 0, 1, 0, 0, 1, 0, 0, 1, 1, 1] zbody) env ob (blockK 1 (seqK (fun env ob => runCode Tryz.prog ztbl 88 0 zcfg k0 (codeAt [1, 1, 0, 1, 0, 0, 1, 1] zbody) env ob (K)) (K)))) (blockK 1 (seqK (fun env ob => runCode Tryz.prog ztbl 88 0 zcfg k0 (codeAt [1, 1, 0, 1, 0, 0, 1, 1] zbody) env ob (K)) (K))))
noncomputable def L0 {R : Type} (k0 k : Nat) (K : Kont R) (i f : Int) (f3 f4 : List (Int × Int × Int × Int × Unit)) (out : List (Int × Unit)) : Option R := iter 0 [1, 3, 4] [3] (zst0 k0) k [(1, .ptr 0 0 0 0), (3, .own 1), (4, .int .i64 i)] [.box [.int .i64 f, .sl ct2 f3, .sl ct2 f4], .arr [CT.int .i64] out] K
noncomputable def L1 {R : Type} (k0 k : Nat) (K : Kont R) (i sum kx f : Int) (f3 f4 : List (Int × Int × Int × Int × Unit)) (out : List (Int × Unit)) : Option R := iter 0 [1, 3, 4, 5, 6] [1, 3, 4, 5] (zst1 k0) k [(1, .ptr 0 0 0 0), (3, .own 1), (4, .int .i64 i), (5, .int .i64 sum), (6, .int .i64 kx)] [.box [.int .i64 f, .sl ct2 f3, .sl ct2 f4], .arr [CT.int .i64] out] K
noncomputable def L2 {R : Type} (k0 k : Nat) (K : Kont R) (i sum kx f : Int) (f3 f4 : List (Int × Int × Int × Int × Unit)) (out : List (Int × Unit)) : Option R := iter 0 [1, 3, 4, 5, 7] [1, 3, 4, 5] (zst2 k0) k [(1, .ptr 0 0 0 0), (3, .own 1), (4, .int .i64 i), (5, .int .i64 sum), (7, .int .i64 kx)] [.box [.int .i64 f, .sl ct2 f3, .sl ct2 f4], .arr [CT.int .i64] out] K
theorem zs0 {R : Type} (k0 k : Nat) (K : Kont R) (i f : Int) (f3 f4 : List (Int × Int × Int × Int × Unit)) (out : List (Int × Unit)) : L0 k0 (k + 1) K i f f3 f4 out = R0 (fun out => K (.exit 0) [(3, .own 0)] [.arr [CT.int .i64] out]) (L1 k0 k0 (K1 k0 (loopK 0 [1, 3, 4] [3] (fun env ob => iter 0 [1, 3, 4] [3] (zst0 k0) k env ob K) K))) i f f3 f4 out := by kernel_rfl
theorem zs1 {R : Type} (k0 k : Nat) (K : Kont R) (i sum kx f : Int) (f3 f4 : List (Int × Int × Int × Int × Unit)) (out : List (Int × Unit)) : L1 k0 (k + 1) K i sum kx f f3 f4 out = R1 (L1 k0 k K) (fun i sum f f3 f4 out => K (.exit 2) [(1, .ptr 0 0 0 0), (3, .own 1), (4, .int .i64 i), (5, .int .i64 sum)] [.box [.int .i64 f, .sl ct2 f3, .sl ct2 f4], .arr [CT.int .i64] out]) i sum kx f f3 f4 out := by kernel_rfl
theorem zs2 {R : Type} (k0 k : Nat) (K : Kont R) (i sum kx f : Int) (f3 f4 : List (Int × Int × Int × Int × Unit)) (out : List (Int × Unit)) : L2 k0 (k + 1) K i sum kx f f3 f4 out = R2 (L2 k0 k K) (fun i sum f f3 f4 out => K (.exit 4) [(1, .ptr 0 0 0 0), (3, .own 1), (4, .int .i64 i), (5, .int .i64 sum)] [.box [.int .i64 f, .sl ct2 f3, .sl ct2 f4], .arr [CT.int .i64] out]) i sum kx f f3 f4 out := by kernel_rfl
theorem za0 (k0 : Nat) (f0 : Int) (f1 f2 : List (Int × Int × Int × Int × Unit)) (out : List (Int × Unit)) : K0 (R := ((List (Int × Unit)) × Unit)) k0 (finK Tryz.prog [.tmp 2] ins_spec_l05Wants outs_spec_l05Wants (f0, f1, f2, ())) (.exit 0) [(3, .own 0)] [.arr [CT.int .i64] out] = A0  f0 f1 f2 out := by kernel_rfl
theorem za1 {R : Type} (k0 k : Nat) (K : Kont R) (i sum f : Int) (f3 f4 : List (Int × Int × Int × Int × Unit)) (out : List (Int × Unit)) : K1 k0 (loopK 0 [1, 3, 4] [3] (fun env ob => iter 0 [1, 3, 4] [3] (zst0 k0) k env ob K) K) (.exit 2) [(1, .ptr 0 0 0 0), (3, .own 1), (4, .int .i64 i), (5, .int .i64 sum)] [.box [.int .i64 f, .sl ct2 f3, .sl ct2 f4], .arr [CT.int .i64] out] = A1 (L2 k0 k0 (K2 k0 (loopK 0 [1, 3, 4] [3] (fun env ob => iter 0 [1, 3, 4] [3] (zst0 k0) k env ob K) K))) i sum f f3 f4 out := by kernel_rfl
theorem za2 {R : Type} (k0 k : Nat) (K : Kont R) (i sum f : Int) (f3 f4 : List (Int × Int × Int × Int × Unit)) (out : List (Int × Unit)) : K2 k0 (loopK 0 [1, 3, 4] [3] (fun env ob => iter 0 [1, 3, 4] [3] (zst0 k0) k env ob K) K) (.exit 4) [(1, .ptr 0 0 0 0), (3, .own 1), (4, .int .i64 i), (5, .int .i64 sum)] [.box [.int .i64 f, .sl ct2 f3, .sl ct2 f4], .arr [CT.int .i64] out] = A2 (L0 k0 k K) i sum f f3 f4 out := by kernel_rfl
theorem ztop (k0 : Nat) (f0 : Int) (f1 f2 : List (Int × Int × Int × Int × Unit)) : runFn Tryz.prog ztbl zcfg k0 62 ins_spec_l05Wants outs_spec_l05Wants [] (f0, f1, f2, ()) = T (L0 (R := ((List (Int × Unit)) × Unit)) k0 k0 (K0 (R := ((List (Int × Unit)) × Unit)) k0 ((finK Tryz.prog [.tmp 2] ins_spec_l05Wants outs_spec_l05Wants (f0, f1, f2, ()))))) f0 f1 f2 := by kernel_rfl
noncomputable def G1 {R : Type} (k0 : Nat) (hx1 : (Int → Int → Int → (List (Int × Int × Int × Int × Unit)) → (List (Int × Int × Int × Int × Unit)) → (List (Int × Unit)) → Option R)) : Nat → Int → Int → Int → Int → (List (Int × Int × Int × Int × Unit)) → (List (Int × Int × Int × Int × Unit)) → (List (Int × Unit)) → Option R
  | 0, _, _, _, _, _, _, _ => none
  | k + 1, i, sum, kx, f, f3, f4, out => R1 (G1 k0 hx1 k) hx1 i sum kx f f3 f4 out
theorem zg1 {R : Type} (k0 : Nat) (K : Kont R) : ∀ k : Nat, L1 k0 k K = G1 k0 (fun i sum f f3 f4 out => K (.exit 2) [(1, .ptr 0 0 0 0), (3, .own 1), (4, .int .i64 i), (5, .int .i64 sum)] [.box [.int .i64 f, .sl ct2 f3, .sl ct2 f4], .arr [CT.int .i64] out]) k := by
  intro k
  induction k with
  | zero => funext i sum kx f f3 f4 out; rfl
  | succ k ih => funext i sum kx f f3 f4 out; rw [zs1, G1]; (try simp only [ih]); try rfl
noncomputable def G2 {R : Type} (k0 : Nat) (hx2 : (Int → Int → Int → (List (Int × Int × Int × Int × Unit)) → (List (Int × Int × Int × Int × Unit)) → (List (Int × Unit)) → Option R)) : Nat → Int → Int → Int → Int → (List (Int × Int × Int × Int × Unit)) → (List (Int × Int × Int × Int × Unit)) → (List (Int × Unit)) → Option R
  | 0, _, _, _, _, _, _, _ => none
  | k + 1, i, sum, kx, f, f3, f4, out => R2 (G2 k0 hx2 k) hx2 i sum kx f f3 f4 out
theorem zg2 {R : Type} (k0 : Nat) (K : Kont R) : ∀ k : Nat, L2 k0 k K = G2 k0 (fun i sum f f3 f4 out => K (.exit 4) [(1, .ptr 0 0 0 0), (3, .own 1), (4, .int .i64 i), (5, .int .i64 sum)] [.box [.int .i64 f, .sl ct2 f3, .sl ct2 f4], .arr [CT.int .i64] out]) k := by
  intro k
  induction k with
  | zero => funext i sum kx f f3 f4 out; rfl
  | succ k ih => funext i sum kx f f3 f4 out; rw [zs2, G2]; (try simp only [ih, zg1]); try rfl
noncomputable def G0 {R : Type} (k0 : Nat) (hx0 : ((List (Int × Unit)) → Option R)) : Nat → Int → Int → (List (Int × Int × Int × Int × Unit)) → (List (Int × Int × Int × Int × Unit)) → (List (Int × Unit)) → Option R
  | 0, _, _, _, _, _ => none
  | k + 1, i, f, f3, f4, out => R0 hx0 (G1 k0 (A1 (G2 k0 (A2 (G0 k0 hx0 k)) k0)) k0) i f f3 f4 out
theorem zg0 {R : Type} (k0 : Nat) (K : Kont R) : ∀ k : Nat, L0 k0 k K = G0 k0 (fun out => K (.exit 0) [(3, .own 0)] [.arr [CT.int .i64] out]) k := by
  intro k
  induction k with
  | zero => funext i f f3 f4 out; rfl
  | succ k ih => funext i f f3 f4 out; rw [zs0, G0]; (try simp only [ih, zg1, zg2, za1, za2]); try rfl
noncomputable def FF (k0 : Nat) (f0 : Int) (f1 f2 : List (Int × Int × Int × Int × Unit)) : Option ((List (Int × Unit)) × Unit) := T (G0 k0 (A0  f0 f1 f2) k0) f0 f1 f2
theorem zrun (k0 : Nat) (f0 : Int) (f1 f2 : List (Int × Int × Int × Int × Unit)) : runFn Tryz.prog ztbl zcfg k0 62 ins_spec_l05Wants outs_spec_l05Wants [] (f0, f1, f2, ()) = FF k0 f0 f1 f2 := by
  rw [ztop, FF]; (try simp only [zg1, zg2, zg0, za0]); try rfl
noncomputable def _root_.Go.Rv.F_spec_l05Wants : Int × (List (Int × Int × Int × Int × Unit)) × (List (Int × Int × Int × Int × Unit)) × Unit → Option ((List (Int × Unit)) × Unit) := fun x => (fun (f0 : Int) (f1 f2 : List (Int × Int × Int × Int × Unit)) => FF (300 + f1.length + f2.length) f0 f1 f2) x.1 x.2.1 x.2.2.1
theorem ztblOK : ∀ g fs S, ztbl g fs = some S → SumOK Dr Tryz.prog g S := by
  intro g fs S h
  unfold ztbl at h
  split at h
  · rename_i hc; obtain ⟨rfl, rfl⟩ := hc; have := Option.some.inj h; subst this; exact ok_spec_l01Min
  cases h
theorem _root_.Go.Rv.ok_spec_l05Wants : SumOK Dr Tryz.prog 62 ⟨ins_spec_l05Wants, outs_spec_l05Wants, F_spec_l05Wants, []⟩ := runFn_ok (by kernel_rfl) ztblOK (by kernel_rfl) fun x y h => ⟨zcfg, _, (zrun _ x.1 x.2.1 x.2.2.1).trans h⟩
end spec_l05Wants
abbrev ins_spec_l05Kids : List Par := [.v true ct4, .v false [CT.int .i64]]
abbrev outs_spec_l05Kids : List (Bool × List CT) := [(false, [CT.sl ct6]), (false, [CT.sl ct0])]
namespace spec_l05Kids
/-! ### loop.example/g00095/spec.l05Kids (function 49) -/
noncomputable def ztbl : Tbl := fun g fs => if g = 62 ∧ fs = [] then some ⟨ins_spec_l05Wants, outs_spec_l05Wants, F_spec_l05Wants, []⟩ else none
noncomputable def zbody : Code := ((Tryz.prog.funcs[49]?).bind (·.body)).getD .skip
def zcfg : Nat → List Nat × List Nat := fun k => if k = 5 then ([1, 2, 6, 7, 8, 9], [1, 2, 7, 8]) else if k = 11 then ([1, 2, 7, 8, 10], [7, 8]) else ([], [])
noncomputable def R0 {R : Type} (nx0 : (Int → Int → Int → (List (Int × Int × Int × Int × Unit)) → (List (Int × Int × Int × Int × Unit)) → (List (Int × Unit)) → (List (Int × Int × Unit)) → (List (Int × Int × Int × Unit)) → Option R)) (ex0 : (Int → Int → (List (Int × Int × Int × Int × Unit)) → (List (Int × Int × Int × Int × Unit)) → (List (Int × Int × Unit)) → (List (Int × Int × Int × Unit)) → Option R)) (group2 i f : Int) (f3 f4 : List (Int × Int × Int × Int × Unit)) (wants : List (Int × Unit)) (kids : List (Int × Int × Unit)) (items : List (Int × Int × Int × Unit)) : Option R := cond (decide (i < (f3.length : Int))) (if 0 ≤ i ∧ i < (f3.length : Int) then cond ((rd (0, 0, 0, 0, ()) f3 i).2.1 == group2) (if kids.length + [(i, (-1), ())].length ≤ maxRow then if 0 ≤ i ∧ i < (wants.length : Int) then if 0 ≤ i ∧ i < (f3.length : Int) then if items.length + ([(((kids ++ [(i, (-1), ())]).length : Int), (wants.getD i.toNat (0, ())).1, (rd (0, 0, 0, 0, ()) f3 i).2.2.2.1, ())]).length ≤ maxRow then nx0 group2 (w64 (i + 1)) f f3 f4 wants (kids ++ [(i, (-1), ())]) (items ++ [(((kids ++ [(i, (-1), ())]).length : Int), (wants.getD i.toNat (0, ())).1, (rd (0, 0, 0, 0, ()) f3 i).2.2.2.1, ())]) else none else none else none else none) (nx0 group2 (w64 (i + 1)) f f3 f4 wants kids items) else none) (ex0 group2 f f3 f4 kids items)
noncomputable def R1 {R : Type} (nx1 : (Int → Int → Int → (List (Int × Int × Int × Int × Unit)) → (List (Int × Int × Int × Int × Unit)) → (List (Int × Int × Unit)) → (List (Int × Int × Int × Unit)) → Option R)) (ex1 : ((List (Int × Int × Unit)) → (List (Int × Int × Int × Unit)) → Option R)) (group2 i f : Int) (f3 f4 : List (Int × Int × Int × Int × Unit)) (kids : List (Int × Int × Unit)) (items : List (Int × Int × Int × Unit)) : Option R := cond (decide (i < (f4.length : Int))) (if 0 ≤ i ∧ i < (f4.length : Int) then cond ((rd (0, 0, 0, 0, ()) f4 i).2.1 == group2) (if kids.length + [((-1), i, ())].length ≤ maxRow then if 0 ≤ i ∧ i < (f4.length : Int) then if 0 ≤ i ∧ i < (f4.length : Int) then if items.length + ([(((kids ++ [((-1), i, ())]).length : Int), (rd (0, 0, 0, 0, ()) f4 i).2.2.1, (rd (0, 0, 0, 0, ()) f4 i).2.2.2.1, ())]).length ≤ maxRow then nx1 group2 (w64 (i + 1)) f f3 f4 (kids ++ [((-1), i, ())]) (items ++ [(((kids ++ [((-1), i, ())]).length : Int), (rd (0, 0, 0, 0, ()) f4 i).2.2.1, (rd (0, 0, 0, 0, ()) f4 i).2.2.2.1, ())]) else none else none else none else none) (nx1 group2 (w64 (i + 1)) f f3 f4 kids items) else none) (ex1 kids items)
noncomputable def A0 (lo1 : (Int → Int → Int → (List (Int × Int × Int × Int × Unit)) → (List (Int × Int × Int × Int × Unit)) → (List (Int × Int × Unit)) → (List (Int × Int × Int × Unit)) → Option ((List (Int × Int × Unit)) × (List (Int × Int × Int × Unit)) × Unit))) (f0 : Int) (f1 f2 : List (Int × Int × Int × Int × Unit)) (group : Int) (group2 f : Int) (f3 f4 : List (Int × Int × Int × Int × Unit)) (kids : List (Int × Int × Unit)) (items : List (Int × Int × Int × Unit)) : Option ((List (Int × Int × Unit)) × (List (Int × Int × Int × Unit)) × Unit) := lo1 group2 0 f f3 f4 kids items
noncomputable def A1  (f0 : Int) (f1 f2 : List (Int × Int × Int × Int × Unit)) (group : Int) (kids : List (Int × Int × Unit)) (items : List (Int × Int × Int × Unit)) : Option ((List (Int × Int × Unit)) × (List (Int × Int × Int × Unit)) × Unit) := some (kids, items, ())
noncomputable def T (lo0 : (Int → Int → Int → (List (Int × Int × Int × Int × Unit)) → (List (Int × Int × Int × Int × Unit)) → (List (Int × Unit)) → (List (Int × Int × Unit)) → (List (Int × Int × Int × Unit)) → Option ((List (Int × Int × Unit)) × (List (Int × Int × Int × Unit)) × Unit))) (f0 : Int) (f1 f2 : List (Int × Int × Int × Int × Unit)) (group : Int) : Option ((List (Int × Int × Unit)) × (List (Int × Int × Int × Unit)) × Unit) := (F_spec_l05Wants (f0, f1, f2, ())).bind fun y1 => lo0 group 0 f0 f1 f2 y1.1 ([] : List (Int × Int × Unit)) ([] : List (Int × Int × Int × Unit))
noncomputable def zst0 {R : Type} (k0 : Nat) : Env → List Ob → Kont R → Option R := fun env ob K => runCode Tryz.prog ztbl 91 0 zcfg k0 (codeAt [1, 1, 1, 1, 0, 1, 0, 0] zbody) env ob K
noncomputable def K0 {R : Type} (k0 : Nat) (K : Kont R) : Kont R := blockK 0 (seqK (fun env ob => runCode Tryz.prog ztbl 91 0 zcfg k0 (codeAt [1, 1, 1, 1, 1] zbody) env ob (K)) (K))
noncomputable def zst1 {R : Type} (k0 : Nat) : Env → List Ob → Kont R → Option R := fun env ob K => runCode Tryz.prog ztbl 91 0 zcfg k0 (codeAt [1, 1, 1, 1, 1, 0, 1, 0, 0] zbody) env ob K
noncomputable def K1 {R : Type} (k0 : Nat) (K : Kont R) : Kont R := blockK 2 (seqK (fun env ob => runCode Tryz.prog ztbl 91 0 zcfg k0 (codeAt [1, 1, 1, 1, 1, 1] zbody) env ob (K)) (K))
noncomputable def L0 {R : Type} (k0 k : Nat) (K : Kont R) (group2 i f : Int) (f3 f4 : List (Int × Int × Int × Int × Unit)) (wants : List (Int × Unit)) (kids : List (Int × Int × Unit)) (items : List (Int × Int × Int × Unit)) : Option R := iter 0 [1, 2, 6, 7, 8, 9] [1, 2, 7, 8] (zst0 k0) k [(1, .int .i64 group2), (2, .ptr 0 0 0 0), (6, .own 1), (7, .own 2), (8, .own 3), (9, .int .i64 i)] [.box [.int .i64 f, .sl ct2 f3, .sl ct2 f4], .arr [CT.int .i64] wants, .arr ct6 kids, .arr ct0 items] K
noncomputable def L1 {R : Type} (k0 k : Nat) (K : Kont R) (group2 i f : Int) (f3 f4 : List (Int × Int × Int × Int × Unit)) (kids : List (Int × Int × Unit)) (items : List (Int × Int × Int × Unit)) : Option R := iter 0 [1, 2, 7, 8, 10] [7, 8] (zst1 k0) k [(1, .int .i64 group2), (2, .ptr 0 0 0 0), (7, .own 1), (8, .own 2), (10, .int .i64 i)] [.box [.int .i64 f, .sl ct2 f3, .sl ct2 f4], .arr ct6 kids, .arr ct0 items] K
theorem zs0 {R : Type} (k0 k : Nat) (K : Kont R) (group2 i f : Int) (f3 f4 : List (Int × Int × Int × Int × Unit)) (wants : List (Int × Unit)) (kids : List (Int × Int × Unit)) (items : List (Int × Int × Int × Unit)) : L0 k0 (k + 1) K group2 i f f3 f4 wants kids items = R0 (L0 k0 k K) (fun group2 f f3 f4 kids items => K (.exit 0) [(1, .int .i64 group2), (2, .ptr 0 0 0 0), (7, .own 1), (8, .own 2)] [.box [.int .i64 f, .sl ct2 f3, .sl ct2 f4], .arr ct6 kids, .arr ct0 items]) group2 i f f3 f4 wants kids items := by kernel_rfl
theorem zs1 {R : Type} (k0 k : Nat) (K : Kont R) (group2 i f : Int) (f3 f4 : List (Int × Int × Int × Int × Unit)) (kids : List (Int × Int × Unit)) (items : List (Int × Int × Int × Unit)) : L1 k0 (k + 1) K group2 i f f3 f4 kids items = R1 (L1 k0 k K) (fun kids items => K (.exit 2) [(7, .own 0), (8, .own 1)] [.arr ct6 kids, .arr ct0 items]) group2 i f f3 f4 kids items := by kernel_rfl
theorem za0 (k0 : Nat) (f0 : Int) (f1 f2 : List (Int × Int × Int × Int × Unit)) (group : Int) (group2 f : Int) (f3 f4 : List (Int × Int × Int × Int × Unit)) (kids : List (Int × Int × Unit)) (items : List (Int × Int × Int × Unit)) : K0 (R := ((List (Int × Int × Unit)) × (List (Int × Int × Int × Unit)) × Unit)) k0 (finK Tryz.prog [.tmp 4, .tmp 5] ins_spec_l05Kids outs_spec_l05Kids (f0, f1, f2, group, ())) (.exit 0) [(1, .int .i64 group2), (2, .ptr 0 0 0 0), (7, .own 1), (8, .own 2)] [.box [.int .i64 f, .sl ct2 f3, .sl ct2 f4], .arr ct6 kids, .arr ct0 items] = A0 (L1 (R := ((List (Int × Int × Unit)) × (List (Int × Int × Int × Unit)) × Unit)) k0 k0 (K1 (R := ((List (Int × Int × Unit)) × (List (Int × Int × Int × Unit)) × Unit)) k0 ((finK Tryz.prog [.tmp 4, .tmp 5] ins_spec_l05Kids outs_spec_l05Kids (f0, f1, f2, group, ()))))) f0 f1 f2 group group2 f f3 f4 kids items := by kernel_rfl
theorem za1 (k0 : Nat) (f0 : Int) (f1 f2 : List (Int × Int × Int × Int × Unit)) (group : Int) (kids : List (Int × Int × Unit)) (items : List (Int × Int × Int × Unit)) : K1 (R := ((List (Int × Int × Unit)) × (List (Int × Int × Int × Unit)) × Unit)) k0 (finK Tryz.prog [.tmp 4, .tmp 5] ins_spec_l05Kids outs_spec_l05Kids (f0, f1, f2, group, ())) (.exit 2) [(7, .own 0), (8, .own 1)] [.arr ct6 kids, .arr ct0 items] = A1  f0 f1 f2 group kids items := by kernel_rfl
theorem ztop (k0 : Nat) (f0 : Int) (f1 f2 : List (Int × Int × Int × Int × Unit)) (group : Int) : runFn Tryz.prog ztbl zcfg k0 49 ins_spec_l05Kids outs_spec_l05Kids [] (f0, f1, f2, group, ()) = T (L0 (R := ((List (Int × Int × Unit)) × (List (Int × Int × Int × Unit)) × Unit)) k0 k0 (K0 (R := ((List (Int × Int × Unit)) × (List (Int × Int × Int × Unit)) × Unit)) k0 ((finK Tryz.prog [.tmp 4, .tmp 5] ins_spec_l05Kids outs_spec_l05Kids (f0, f1, f2, group, ()))))) f0 f1 f2 group := by kernel_rfl
noncomputable def G0 {R : Type} (k0 : Nat) (hx0 : (Int → Int → (List (Int × Int × Int × Int × Unit)) → (List (Int × Int × Int × Int × Unit)) → (List (Int × Int × Unit)) → (List (Int × Int × Int × Unit)) → Option R)) : Nat → Int → Int → Int → (List (Int × Int × Int × Int × Unit)) → (List (Int × Int × Int × Int × Unit)) → (List (Int × Unit)) → (List (Int × Int × Unit)) → (List (Int × Int × Int × Unit)) → Option R
  | 0, _, _, _, _, _, _, _, _ => none
  | k + 1, group2, i, f, f3, f4, wants, kids, items => R0 (G0 k0 hx0 k) hx0 group2 i f f3 f4 wants kids items
theorem zg0 {R : Type} (k0 : Nat) (K : Kont R) : ∀ k : Nat, L0 k0 k K = G0 k0 (fun group2 f f3 f4 kids items => K (.exit 0) [(1, .int .i64 group2), (2, .ptr 0 0 0 0), (7, .own 1), (8, .own 2)] [.box [.int .i64 f, .sl ct2 f3, .sl ct2 f4], .arr ct6 kids, .arr ct0 items]) k := by
  intro k
  induction k with
  | zero => funext group2 i f f3 f4 wants kids items; rfl
  | succ k ih => funext group2 i f f3 f4 wants kids items; rw [zs0, G0]; (try simp only [ih]); try rfl
noncomputable def G1 {R : Type} (k0 : Nat) (hx1 : ((List (Int × Int × Unit)) → (List (Int × Int × Int × Unit)) → Option R)) : Nat → Int → Int → Int → (List (Int × Int × Int × Int × Unit)) → (List (Int × Int × Int × Int × Unit)) → (List (Int × Int × Unit)) → (List (Int × Int × Int × Unit)) → Option R
  | 0, _, _, _, _, _, _, _ => none
  | k + 1, group2, i, f, f3, f4, kids, items => R1 (G1 k0 hx1 k) hx1 group2 i f f3 f4 kids items
theorem zg1 {R : Type} (k0 : Nat) (K : Kont R) : ∀ k : Nat, L1 k0 k K = G1 k0 (fun kids items => K (.exit 2) [(7, .own 0), (8, .own 1)] [.arr ct6 kids, .arr ct0 items]) k := by
  intro k
  induction k with
  | zero => funext group2 i f f3 f4 kids items; rfl
  | succ k ih => funext group2 i f f3 f4 kids items; rw [zs1, G1]; (try simp only [ih, zg0]); try rfl
noncomputable def FF (k0 : Nat) (f0 : Int) (f1 f2 : List (Int × Int × Int × Int × Unit)) (group : Int) : Option ((List (Int × Int × Unit)) × (List (Int × Int × Int × Unit)) × Unit) := T (G0 k0 (A0 (G1 k0 (A1  f0 f1 f2 group) k0) f0 f1 f2 group) k0) f0 f1 f2 group
theorem zrun (k0 : Nat) (f0 : Int) (f1 f2 : List (Int × Int × Int × Int × Unit)) (group : Int) : runFn Tryz.prog ztbl zcfg k0 49 ins_spec_l05Kids outs_spec_l05Kids [] (f0, f1, f2, group, ()) = FF k0 f0 f1 f2 group := by
  rw [ztop, FF]; (try simp only [zg0, zg1, za0, za1]); try rfl
noncomputable def _root_.Go.Rv.F_spec_l05Kids : Int × (List (Int × Int × Int × Int × Unit)) × (List (Int × Int × Int × Int × Unit)) × Int × Unit → Option ((List (Int × Int × Unit)) × (List (Int × Int × Int × Unit)) × Unit) := fun x => (fun (f0 : Int) (f1 f2 : List (Int × Int × Int × Int × Unit)) (group : Int) => FF (300 + f1.length + f2.length) f0 f1 f2 group) x.1 x.2.1 x.2.2.1 x.2.2.2.1
theorem ztblOK : ∀ g fs S, ztbl g fs = some S → SumOK Dr Tryz.prog g S := by
  intro g fs S h
  unfold ztbl at h
  split at h
  · rename_i hc; obtain ⟨rfl, rfl⟩ := hc; have := Option.some.inj h; subst this; exact ok_spec_l05Wants
  cases h
theorem _root_.Go.Rv.ok_spec_l05Kids : SumOK Dr Tryz.prog 49 ⟨ins_spec_l05Kids, outs_spec_l05Kids, F_spec_l05Kids, []⟩ := runFn_ok (by kernel_rfl) ztblOK (by kernel_rfl) fun x y h => ⟨zcfg, _, (zrun _ x.1 x.2.1 x.2.2.1 x.2.2.2.1).trans h⟩
end spec_l05Kids
abbrev ins_spec_WideAdd : List Par := [.v true ct1, .v true ct1]
abbrev outs_spec_WideAdd : List (Bool × List CT) := [(true, ct7)]
namespace spec_WideAdd
/-! ### loop.example/g00095/spec.WideAdd (function 74) -/
noncomputable def ztbl : Tbl := fun g fs => none
noncomputable def zbody : Code := ((Tryz.prog.funcs[74]?).bind (·.body)).getD .skip
def zcfg : Nat → List Nat × List Nat := fun k => ([], [])
noncomputable def T  (a0 a1 b0 b1 : Int) : Option (Int × Int × Bool × Int × Unit) := cond (decide ((IntKind.u64.wrap (a1 + b1)) < a1)) (cond (decide ((IntKind.u64.wrap (a0 + b0)) < a0)) (some ((IntKind.u64.wrap ((IntKind.u64.wrap (a0 + b0)) + 1)), (IntKind.u64.wrap (a1 + b1)), true, 0, ())) (some ((IntKind.u64.wrap ((IntKind.u64.wrap (a0 + b0)) + 1)), (IntKind.u64.wrap (a1 + b1)), (decide ((IntKind.u64.wrap ((IntKind.u64.wrap (a0 + b0)) + 1)) < (IntKind.u64.wrap (a0 + b0)))), 0, ()))) (cond (decide ((IntKind.u64.wrap (a0 + b0)) < a0)) (some ((IntKind.u64.wrap ((IntKind.u64.wrap (a0 + b0)) + 0)), (IntKind.u64.wrap (a1 + b1)), true, 0, ())) (some ((IntKind.u64.wrap ((IntKind.u64.wrap (a0 + b0)) + 0)), (IntKind.u64.wrap (a1 + b1)), (decide ((IntKind.u64.wrap ((IntKind.u64.wrap (a0 + b0)) + 0)) < (IntKind.u64.wrap (a0 + b0)))), 0, ())))
theorem ztop (k0 : Nat) (a0 a1 b0 b1 : Int) : runFn Tryz.prog ztbl zcfg k0 74 ins_spec_WideAdd outs_spec_WideAdd [] (a0, a1, b0, b1, ()) = T  a0 a1 b0 b1 := by kernel_rfl
noncomputable def _root_.Go.Rv.F_spec_WideAdd : Int × Int × Int × Int × Unit → Option (Int × Int × Bool × Int × Unit) := fun x => T x.1 x.2.1 x.2.2.1 x.2.2.2.1
theorem ztblOK : ∀ g fs S, ztbl g fs = some S → SumOK Dr Tryz.prog g S := by
  intro g fs S h
  unfold ztbl at h
  cases h
theorem _root_.Go.Rv.ok_spec_WideAdd : SumOK Dr Tryz.prog 74 ⟨ins_spec_WideAdd, outs_spec_WideAdd, F_spec_WideAdd, []⟩ := runFn_ok (by kernel_rfl) ztblOK (by kernel_rfl) fun x y h => ⟨zcfg, 0, (ztop 0 x.1 x.2.1 x.2.2.1 x.2.2.2.1).trans h⟩
end spec_WideAdd
abbrev ins_spec_WideShl : List Par := [.v true ct1, .v false [CT.int .i64]]
abbrev outs_spec_WideShl : List (Bool × List CT) := [(true, ct1)]
namespace spec_WideShl
/-! ### loop.example/g00095/spec.WideShl (function 77) -/
noncomputable def ztbl : Tbl := fun g fs => if g = 74 ∧ fs = [] then some ⟨ins_spec_WideAdd, outs_spec_WideAdd, F_spec_WideAdd, []⟩ else none
noncomputable def zbody : Code := ((Tryz.prog.funcs[77]?).bind (·.body)).getD .skip
def zcfg : Nat → List Nat × List Nat := fun k => if k = 3 then ([1, 2, 4], [2, 4]) else ([], [])
noncomputable def R0 {R : Type} (nx0 : (Int → Int → Int → Int → Int → Option R)) (ex0 : (Int → Int → Int → Int → Option R)) (n2 a a2 t4x t4x2 : Int) : Option R := cond (decide (n2 > 0)) ((F_spec_WideAdd (a, a2, a, a2, ())).bind fun y1 => nx0 (w64 (n2 - 1)) y1.1 y1.2.1 t4x t4x2) (ex0 a a2 t4x t4x2)
noncomputable def A0  (a0 a1 n : Int) (a a2 t4x t4x2 : Int) : Option (Int × Int × Unit) := some (a, a2, ())
noncomputable def T (lo0 : (Int → Int → Int → Int → Int → Option (Int × Int × Unit))) (a0 a1 n : Int) : Option (Int × Int × Unit) := cond (decide (n < 0)) (some (0, 0, ())) (cond (decide (n > 127)) (some (0, 0, ())) (lo0 n a0 a1 0 0))
noncomputable def zst0 {R : Type} (k0 : Nat) : Env → List Ob → Kont R → Option R := fun env ob K => runCode Tryz.prog ztbl 21 0 zcfg k0 (codeAt [1, 1, 0, 0, 0] zbody) env ob K
noncomputable def K0 {R : Type} (k0 : Nat) (K : Kont R) : Kont R := blockK 0 (seqK (fun env ob => runCode Tryz.prog ztbl 21 0 zcfg k0 (codeAt [1, 1, 1] zbody) env ob (K)) (K))
noncomputable def L0 {R : Type} (k0 k : Nat) (K : Kont R) (n2 a a2 t4x t4x2 : Int) : Option R := iter 0 [1, 2, 4] [2, 4] (zst0 k0) k [(1, .int .i64 n2), (2, .ptr 0 0 0 0), (4, .ptr 1 0 0 0)] [.box [.int .u64 a, .int .u64 a2], .box [.int .u64 t4x, .int .u64 t4x2]] K
theorem zs0 {R : Type} (k0 k : Nat) (K : Kont R) (n2 a a2 t4x t4x2 : Int) : L0 k0 (k + 1) K n2 a a2 t4x t4x2 = R0 (L0 k0 k K) (fun a a2 t4x t4x2 => K (.exit 0) [(2, .ptr 0 0 0 0), (4, .ptr 1 0 0 0)] [.box [.int .u64 a, .int .u64 a2], .box [.int .u64 t4x, .int .u64 t4x2]]) n2 a a2 t4x t4x2 := by kernel_rfl
theorem za0 (k0 : Nat) (a0 a1 n : Int) (a a2 t4x t4x2 : Int) : K0 (R := (Int × Int × Unit)) k0 (finK Tryz.prog [.cell 4 113] ins_spec_WideShl outs_spec_WideShl (a0, a1, n, ())) (.exit 0) [(2, .ptr 0 0 0 0), (4, .ptr 1 0 0 0)] [.box [.int .u64 a, .int .u64 a2], .box [.int .u64 t4x, .int .u64 t4x2]] = A0  a0 a1 n a a2 t4x t4x2 := by kernel_rfl
theorem ztop (k0 : Nat) (a0 a1 n : Int) : runFn Tryz.prog ztbl zcfg k0 77 ins_spec_WideShl outs_spec_WideShl [] (a0, a1, n, ()) = T (L0 (R := (Int × Int × Unit)) k0 k0 (K0 (R := (Int × Int × Unit)) k0 ((finK Tryz.prog [.cell 4 113] ins_spec_WideShl outs_spec_WideShl (a0, a1, n, ()))))) a0 a1 n := by kernel_rfl
noncomputable def G0 {R : Type} (k0 : Nat) (hx0 : (Int → Int → Int → Int → Option R)) : Nat → Int → Int → Int → Int → Int → Option R
  | 0, _, _, _, _, _ => none
  | k + 1, n2, a, a2, t4x, t4x2 => R0 (G0 k0 hx0 k) hx0 n2 a a2 t4x t4x2
theorem zg0 {R : Type} (k0 : Nat) (K : Kont R) : ∀ k : Nat, L0 k0 k K = G0 k0 (fun a a2 t4x t4x2 => K (.exit 0) [(2, .ptr 0 0 0 0), (4, .ptr 1 0 0 0)] [.box [.int .u64 a, .int .u64 a2], .box [.int .u64 t4x, .int .u64 t4x2]]) k := by
  intro k
  induction k with
  | zero => funext n2 a a2 t4x t4x2; rfl
  | succ k ih => funext n2 a a2 t4x t4x2; rw [zs0, G0]; (try simp only [ih]); try rfl
noncomputable def FF (k0 : Nat) (a0 a1 n : Int) : Option (Int × Int × Unit) := T (G0 k0 (A0  a0 a1 n) k0) a0 a1 n
theorem zrun (k0 : Nat) (a0 a1 n : Int) : runFn Tryz.prog ztbl zcfg k0 77 ins_spec_WideShl outs_spec_WideShl [] (a0, a1, n, ()) = FF k0 a0 a1 n := by
  rw [ztop, FF]; (try simp only [zg0, za0]); try rfl
noncomputable def _root_.Go.Rv.F_spec_WideShl : Int × Int × Int × Unit → Option (Int × Int × Unit) := fun x => (fun (a0 a1 n : Int) => FF (300) a0 a1 n) x.1 x.2.1 x.2.2.1
theorem ztblOK : ∀ g fs S, ztbl g fs = some S → SumOK Dr Tryz.prog g S := by
  intro g fs S h
  unfold ztbl at h
  split at h
  · rename_i hc; obtain ⟨rfl, rfl⟩ := hc; have := Option.some.inj h; subst this; exact ok_spec_WideAdd
  cases h
theorem _root_.Go.Rv.ok_spec_WideShl : SumOK Dr Tryz.prog 77 ⟨ins_spec_WideShl, outs_spec_WideShl, F_spec_WideShl, []⟩ := runFn_ok (by kernel_rfl) ztblOK (by kernel_rfl) fun x y h => ⟨zcfg, _, (zrun _ x.1 x.2.1 x.2.2.1).trans h⟩
end spec_WideShl
abbrev ins_spec_WideMul : List Par := [.v false [CT.int .u64], .v false [CT.int .u64]]
abbrev outs_spec_WideMul : List (Bool × List CT) := [(true, ct1)]
namespace spec_WideMul
/-! ### loop.example/g00095/spec.WideMul (function 66) -/
noncomputable def ztbl : Tbl := fun g fs => if g = 74 ∧ fs = [] then some ⟨ins_spec_WideAdd, outs_spec_WideAdd, F_spec_WideAdd, []⟩ else if g = 77 ∧ fs = [] then some ⟨ins_spec_WideShl, outs_spec_WideShl, F_spec_WideShl, []⟩ else none
noncomputable def zbody : Code := ((Tryz.prog.funcs[66]?).bind (·.body)).getD .skip
def zcfg : Nat → List Nat × List Nat := fun k => if k = 3 then ([0, 1, 4, 5, 6], [4, 5]) else ([], [])
noncomputable def R0 {R : Type} (nx0 : (Int → Int → Int → Int → Int → Int → Int → Option R)) (ex0 : (Int → Int → Int → Int → Option R)) (a2 b2 kx t4x t4x2 sum sum2 : Int) : Option R := cond (decide (kx < 64)) (if (IntKind.u64.wrap (kx)) < 0 then none else cond ((IntKind.u64.wrap (((BitVec.ofInt 64 (Int.fdiv b2 (2 ^ (min (((IntKind.u64.wrap (kx)) : Int)).toNat 64)))) &&& (BitVec.ofInt 64 1)).toNat)) == 1) ((F_spec_WideShl (0, a2, kx, ())).bind fun y1 => (F_spec_WideAdd (sum, sum2, y1.1, y1.2.1, ())).bind fun y2 => nx0 a2 b2 (w64 (kx + 1)) t4x t4x2 y2.1 y2.2.1) (nx0 a2 b2 (w64 (kx + 1)) t4x t4x2 sum sum2)) (ex0 t4x t4x2 sum sum2)
noncomputable def A0  (a b : Int) (t4x t4x2 sum sum2 : Int) : Option (Int × Int × Unit) := some (sum, sum2, ())
noncomputable def T (lo0 : (Int → Int → Int → Int → Int → Int → Int → Option (Int × Int × Unit))) (a b : Int) : Option (Int × Int × Unit) := lo0 a b 0 0 0 0 0
noncomputable def zst0 {R : Type} (k0 : Nat) : Env → List Ob → Kont R → Option R := fun env ob K => runCode Tryz.prog ztbl 26 0 zcfg k0 (codeAt [1, 1, 0, 1, 0, 0] zbody) env ob K
noncomputable def K0 {R : Type} (k0 : Nat) (K : Kont R) : Kont R := blockK 0 (seqK (fun env ob => runCode Tryz.prog ztbl 26 0 zcfg k0 (codeAt [1, 1, 1] zbody) env ob (K)) (K))
noncomputable def L0 {R : Type} (k0 k : Nat) (K : Kont R) (a2 b2 kx t4x t4x2 sum sum2 : Int) : Option R := iter 0 [0, 1, 4, 5, 6] [4, 5] (zst0 k0) k [(0, .int .u64 a2), (1, .int .u64 b2), (4, .ptr 0 0 0 0), (5, .ptr 1 0 0 0), (6, .int .i64 kx)] [.box [.int .u64 t4x, .int .u64 t4x2], .box [.int .u64 sum, .int .u64 sum2]] K
theorem zs0 {R : Type} (k0 k : Nat) (K : Kont R) (a2 b2 kx t4x t4x2 sum sum2 : Int) : L0 k0 (k + 1) K a2 b2 kx t4x t4x2 sum sum2 = R0 (L0 k0 k K) (fun t4x t4x2 sum sum2 => K (.exit 0) [(4, .ptr 0 0 0 0), (5, .ptr 1 0 0 0)] [.box [.int .u64 t4x, .int .u64 t4x2], .box [.int .u64 sum, .int .u64 sum2]]) a2 b2 kx t4x t4x2 sum sum2 := by kernel_rfl
theorem za0 (k0 : Nat) (a b : Int) (t4x t4x2 sum sum2 : Int) : K0 (R := (Int × Int × Unit)) k0 (finK Tryz.prog [.cell 4 113] ins_spec_WideMul outs_spec_WideMul (a, b, ())) (.exit 0) [(4, .ptr 0 0 0 0), (5, .ptr 1 0 0 0)] [.box [.int .u64 t4x, .int .u64 t4x2], .box [.int .u64 sum, .int .u64 sum2]] = A0  a b t4x t4x2 sum sum2 := by kernel_rfl
theorem ztop (k0 : Nat) (a b : Int) : runFn Tryz.prog ztbl zcfg k0 66 ins_spec_WideMul outs_spec_WideMul [] (a, b, ()) = T (L0 (R := (Int × Int × Unit)) k0 k0 (K0 (R := (Int × Int × Unit)) k0 ((finK Tryz.prog [.cell 4 113] ins_spec_WideMul outs_spec_WideMul (a, b, ()))))) a b := by kernel_rfl
noncomputable def G0 {R : Type} (k0 : Nat) (hx0 : (Int → Int → Int → Int → Option R)) : Nat → Int → Int → Int → Int → Int → Int → Int → Option R
  | 0, _, _, _, _, _, _, _ => none
  | k + 1, a2, b2, kx, t4x, t4x2, sum, sum2 => R0 (G0 k0 hx0 k) hx0 a2 b2 kx t4x t4x2 sum sum2
theorem zg0 {R : Type} (k0 : Nat) (K : Kont R) : ∀ k : Nat, L0 k0 k K = G0 k0 (fun t4x t4x2 sum sum2 => K (.exit 0) [(4, .ptr 0 0 0 0), (5, .ptr 1 0 0 0)] [.box [.int .u64 t4x, .int .u64 t4x2], .box [.int .u64 sum, .int .u64 sum2]]) k := by
  intro k
  induction k with
  | zero => funext a2 b2 kx t4x t4x2 sum sum2; rfl
  | succ k ih => funext a2 b2 kx t4x t4x2 sum sum2; rw [zs0, G0]; (try simp only [ih]); try rfl
noncomputable def FF (k0 : Nat) (a b : Int) : Option (Int × Int × Unit) := T (G0 k0 (A0  a b) k0) a b
theorem zrun (k0 : Nat) (a b : Int) : runFn Tryz.prog ztbl zcfg k0 66 ins_spec_WideMul outs_spec_WideMul [] (a, b, ()) = FF k0 a b := by
  rw [ztop, FF]; (try simp only [zg0, za0]); try rfl
noncomputable def _root_.Go.Rv.F_spec_WideMul : Int × Int × Unit → Option (Int × Int × Unit) := fun x => (fun (a b : Int) => FF (300) a b) x.1 x.2.1
theorem ztblOK : ∀ g fs S, ztbl g fs = some S → SumOK Dr Tryz.prog g S := by
  intro g fs S h
  unfold ztbl at h
  split at h
  · rename_i hc; obtain ⟨rfl, rfl⟩ := hc; have := Option.some.inj h; subst this; exact ok_spec_WideAdd
  split at h
  · rename_i hc; obtain ⟨rfl, rfl⟩ := hc; have := Option.some.inj h; subst this; exact ok_spec_WideShl
  cases h
theorem _root_.Go.Rv.ok_spec_WideMul : SumOK Dr Tryz.prog 66 ⟨ins_spec_WideMul, outs_spec_WideMul, F_spec_WideMul, []⟩ := runFn_ok (by kernel_rfl) ztblOK (by kernel_rfl) fun x y h => ⟨zcfg, _, (zrun _ x.1 x.2.1).trans h⟩
end spec_WideMul
abbrev ins_spec_WideCmp : List Par := [.v true ct1, .v true ct1]
abbrev outs_spec_WideCmp : List (Bool × List CT) := [(false, [CT.int .i64])]
namespace spec_WideCmp
/-! ### loop.example/g00095/spec.WideCmp (function 73) -/
noncomputable def ztbl : Tbl := fun g fs => none
noncomputable def zbody : Code := ((Tryz.prog.funcs[73]?).bind (·.body)).getD .skip
def zcfg : Nat → List Nat × List Nat := fun k => ([], [])
noncomputable def T  (a0 a1 b0 b1 : Int) : Option (Int × Unit) := cond (a0 != b0) (cond (decide (a0 < b0)) (some ((-1), ())) (some (1, ()))) (cond (decide (a1 < b1)) (some ((-1), ())) (cond (decide (a1 > b1)) (some (1, ())) (some (0, ()))))
theorem ztop (k0 : Nat) (a0 a1 b0 b1 : Int) : runFn Tryz.prog ztbl zcfg k0 73 ins_spec_WideCmp outs_spec_WideCmp [] (a0, a1, b0, b1, ()) = T  a0 a1 b0 b1 := by kernel_rfl
noncomputable def _root_.Go.Rv.F_spec_WideCmp : Int × Int × Int × Int × Unit → Option (Int × Unit) := fun x => T x.1 x.2.1 x.2.2.1 x.2.2.2.1
theorem ztblOK : ∀ g fs S, ztbl g fs = some S → SumOK Dr Tryz.prog g S := by
  intro g fs S h
  unfold ztbl at h
  cases h
theorem _root_.Go.Rv.ok_spec_WideCmp : SumOK Dr Tryz.prog 73 ⟨ins_spec_WideCmp, outs_spec_WideCmp, F_spec_WideCmp, []⟩ := runFn_ok (by kernel_rfl) ztblOK (by kernel_rfl) fun x y h => ⟨zcfg, 0, (ztop 0 x.1 x.2.1 x.2.2.1 x.2.2.2.1).trans h⟩
end spec_WideCmp
abbrev ins_spec_l02Times : List Par := [.v false [CT.int .i64], .v false [CT.int .i64], .v false [CT.int .i64], .v false [CT.int .i64]]
abbrev outs_spec_l02Times : List (Bool × List CT) := [(false, [CT.int .i64])]
namespace spec_l02Times
/-! ### loop.example/g00095/spec.l02Times (function 64) -/
noncomputable def ztbl : Tbl := fun g fs => if g = 66 ∧ fs = [] then some ⟨ins_spec_WideMul, outs_spec_WideMul, F_spec_WideMul, []⟩ else if g = 73 ∧ fs = [] then some ⟨ins_spec_WideCmp, outs_spec_WideCmp, F_spec_WideCmp, []⟩ else none
noncomputable def zbody : Code := ((Tryz.prog.funcs[64]?).bind (·.body)).getD .skip
def zcfg : Nat → List Nat × List Nat := fun k => ([], [])
noncomputable def T  (a b c d : Int) : Option (Int × Unit) := (F_spec_WideMul ((IntKind.u64.wrap (a)), (IntKind.u64.wrap (b)), ())).bind fun y1 => (F_spec_WideMul ((IntKind.u64.wrap (c)), (IntKind.u64.wrap (d)), ())).bind fun y2 => (F_spec_WideCmp (y1.1, y1.2.1, y2.1, y2.2.1, ())).bind fun y3 => some (y3.1, ())
theorem ztop (k0 : Nat) (a b c d : Int) : runFn Tryz.prog ztbl zcfg k0 64 ins_spec_l02Times outs_spec_l02Times [] (a, b, c, d, ()) = T  a b c d := by kernel_rfl
noncomputable def _root_.Go.Rv.F_spec_l02Times : Int × Int × Int × Int × Unit → Option (Int × Unit) := fun x => T x.1 x.2.1 x.2.2.1 x.2.2.2.1
theorem ztblOK : ∀ g fs S, ztbl g fs = some S → SumOK Dr Tryz.prog g S := by
  intro g fs S h
  unfold ztbl at h
  split at h
  · rename_i hc; obtain ⟨rfl, rfl⟩ := hc; have := Option.some.inj h; subst this; exact ok_spec_WideMul
  split at h
  · rename_i hc; obtain ⟨rfl, rfl⟩ := hc; have := Option.some.inj h; subst this; exact ok_spec_WideCmp
  cases h
theorem _root_.Go.Rv.ok_spec_l02Times : SumOK Dr Tryz.prog 64 ⟨ins_spec_l02Times, outs_spec_l02Times, F_spec_l02Times, []⟩ := runFn_ok (by kernel_rfl) ztblOK (by kernel_rfl) fun x y h => ⟨zcfg, 0, (ztop 0 x.1 x.2.1 x.2.2.1 x.2.2.2.1).trans h⟩
end spec_l02Times
abbrev ins_spec_ItemRight : List Par := [.v true ct0]
abbrev outs_spec_ItemRight : List (Bool × List CT) := [(false, [CT.bool])]
namespace spec_ItemRight
/-! ### loop.example/g00095/spec.ItemRight (function 72) -/
noncomputable def ztbl : Tbl := fun g fs => if g = 44 ∧ fs = [] then some ⟨ins_spec_l02Want, outs_spec_l02Want, F_spec_l02Want, []⟩ else if g = 45 ∧ fs = [] then some ⟨ins_spec_l02Id, outs_spec_l02Id, F_spec_l02Id, []⟩ else if g = 47 ∧ fs = [] then some ⟨ins_spec_l02Weight, outs_spec_l02Weight, F_spec_l02Weight, []⟩ else none
noncomputable def zbody : Code := ((Tryz.prog.funcs[72]?).bind (·.body)).getD .skip
def zcfg : Nat → List Nat × List Nat := fun k => ([], [])
noncomputable def T  (a0 a1 a2 : Int) : Option (Bool × Unit) := (F_spec_l02Id (a0, ())).bind fun y1 => cond y1.1 ((F_spec_l02Want (a1, ())).bind fun y2 => cond y2.1 ((F_spec_l02Weight (a2, ())).bind fun y3 => some (y3.1, ())) (some (false, ()))) (some (false, ()))
theorem ztop (k0 : Nat) (a0 a1 a2 : Int) : runFn Tryz.prog ztbl zcfg k0 72 ins_spec_ItemRight outs_spec_ItemRight [] (a0, a1, a2, ()) = T  a0 a1 a2 := by kernel_rfl
noncomputable def _root_.Go.Rv.F_spec_ItemRight : Int × Int × Int × Unit → Option (Bool × Unit) := fun x => T x.1 x.2.1 x.2.2.1
theorem ztblOK : ∀ g fs S, ztbl g fs = some S → SumOK Dr Tryz.prog g S := by
  intro g fs S h
  unfold ztbl at h
  split at h
  · rename_i hc; obtain ⟨rfl, rfl⟩ := hc; have := Option.some.inj h; subst this; exact ok_spec_l02Want
  split at h
  · rename_i hc; obtain ⟨rfl, rfl⟩ := hc; have := Option.some.inj h; subst this; exact ok_spec_l02Id
  split at h
  · rename_i hc; obtain ⟨rfl, rfl⟩ := hc; have := Option.some.inj h; subst this; exact ok_spec_l02Weight
  cases h
theorem _root_.Go.Rv.ok_spec_ItemRight : SumOK Dr Tryz.prog 72 ⟨ins_spec_ItemRight, outs_spec_ItemRight, F_spec_ItemRight, []⟩ := runFn_ok (by kernel_rfl) ztblOK (by kernel_rfl) fun x y h => ⟨zcfg, 0, (ztop 0 x.1 x.2.1 x.2.2.1).trans h⟩
end spec_ItemRight
abbrev ins_spec_RatioCmp : List Par := [.v true ct0, .v true ct0]
abbrev outs_spec_RatioCmp : List (Bool × List CT) := [(false, [CT.int .i64])]
namespace spec_RatioCmp
/-! ### loop.example/g00095/spec.RatioCmp (function 63) -/
noncomputable def ztbl : Tbl := fun g fs => if g = 64 ∧ fs = [] then some ⟨ins_spec_l02Times, outs_spec_l02Times, F_spec_l02Times, []⟩ else if g = 72 ∧ fs = [] then some ⟨ins_spec_ItemRight, outs_spec_ItemRight, F_spec_ItemRight, []⟩ else none
noncomputable def zbody : Code := ((Tryz.prog.funcs[63]?).bind (·.body)).getD .skip
def zcfg : Nat → List Nat × List Nat := fun k => ([], [])
noncomputable def T  (a0 a1 a2 b0 b1 b2 : Int) : Option (Int × Unit) := (F_spec_ItemRight (a0, a1, a2, ())).bind fun y1 => cond (!y1.1) (some (0, ())) ((F_spec_ItemRight (b0, b1, b2, ())).bind fun y2 => cond (!y2.1) (some (0, ())) ((F_spec_l02Times (a1, b2, b1, a2, ())).bind fun y3 => cond (y3.1 != 0) (some (y3.1, ())) (cond (decide (a0 < b0)) (some ((-1), ())) (cond (decide (a0 > b0)) (some (1, ())) (some (0, ()))))))
theorem ztop (k0 : Nat) (a0 a1 a2 b0 b1 b2 : Int) : runFn Tryz.prog ztbl zcfg k0 63 ins_spec_RatioCmp outs_spec_RatioCmp [] (a0, a1, a2, b0, b1, b2, ()) = T  a0 a1 a2 b0 b1 b2 := by kernel_rfl
noncomputable def _root_.Go.Rv.F_spec_RatioCmp : Int × Int × Int × Int × Int × Int × Unit → Option (Int × Unit) := fun x => T x.1 x.2.1 x.2.2.1 x.2.2.2.1 x.2.2.2.2.1 x.2.2.2.2.2.1
theorem ztblOK : ∀ g fs S, ztbl g fs = some S → SumOK Dr Tryz.prog g S := by
  intro g fs S h
  unfold ztbl at h
  split at h
  · rename_i hc; obtain ⟨rfl, rfl⟩ := hc; have := Option.some.inj h; subst this; exact ok_spec_l02Times
  split at h
  · rename_i hc; obtain ⟨rfl, rfl⟩ := hc; have := Option.some.inj h; subst this; exact ok_spec_ItemRight
  cases h
theorem _root_.Go.Rv.ok_spec_RatioCmp : SumOK Dr Tryz.prog 63 ⟨ins_spec_RatioCmp, outs_spec_RatioCmp, F_spec_RatioCmp, []⟩ := runFn_ok (by kernel_rfl) ztblOK (by kernel_rfl) fun x y h => ⟨zcfg, 0, (ztop 0 x.1 x.2.1 x.2.2.1 x.2.2.2.1 x.2.2.2.2.1 x.2.2.2.2.2.1).trans h⟩
end spec_RatioCmp
abbrev ins_spec_WideShr : List Par := [.v true ct1, .v false [CT.int .i64]]
abbrev outs_spec_WideShr : List (Bool × List CT) := [(true, ct1)]
namespace spec_WideShr
/-! ### loop.example/g00095/spec.WideShr (function 87) -/
noncomputable def ztbl : Tbl := fun g fs => none
noncomputable def zbody : Code := ((Tryz.prog.funcs[87]?).bind (·.body)).getD .skip
def zcfg : Nat → List Nat × List Nat := fun k => if k = 3 then ([1, 2, 4], [2, 4]) else ([], [])
noncomputable def R0 {R : Type} (nx0 : (Int → Int → Int → Int → Int → Option R)) (ex0 : (Int → Int → Int → Int → Option R)) (n2 a a2 t4x t4x2 : Int) : Option R := cond (decide (n2 > 0)) (if 2 = 0 then none else if 2 = 0 then none else if 2 = 0 then none else nx0 (w64 (n2 - 1)) (IntKind.u64.wrap (Int.tdiv a 2)) (IntKind.u64.wrap ((IntKind.u64.wrap (Int.tdiv a2 2)) + (IntKind.u64.wrap ((Int.tmod a 2) * 9223372036854775808)))) t4x t4x2) (ex0 a a2 t4x t4x2)
noncomputable def A0  (a0 a1 n : Int) (a a2 t4x t4x2 : Int) : Option (Int × Int × Unit) := some (a, a2, ())
noncomputable def T (lo0 : (Int → Int → Int → Int → Int → Option (Int × Int × Unit))) (a0 a1 n : Int) : Option (Int × Int × Unit) := cond (decide (n < 0)) (some (0, 0, ())) (cond (decide (n > 127)) (some (0, 0, ())) (lo0 n a0 a1 0 0))
noncomputable def zst0 {R : Type} (k0 : Nat) : Env → List Ob → Kont R → Option R := fun env ob K => runCode Tryz.prog ztbl 29 0 zcfg k0 (codeAt [1, 1, 0, 0, 0] zbody) env ob K
noncomputable def K0 {R : Type} (k0 : Nat) (K : Kont R) : Kont R := blockK 0 (seqK (fun env ob => runCode Tryz.prog ztbl 29 0 zcfg k0 (codeAt [1, 1, 1] zbody) env ob (K)) (K))
noncomputable def L0 {R : Type} (k0 k : Nat) (K : Kont R) (n2 a a2 t4x t4x2 : Int) : Option R := iter 0 [1, 2, 4] [2, 4] (zst0 k0) k [(1, .int .i64 n2), (2, .ptr 0 0 0 0), (4, .ptr 1 0 0 0)] [.box [.int .u64 a, .int .u64 a2], .box [.int .u64 t4x, .int .u64 t4x2]] K
theorem zs0 {R : Type} (k0 k : Nat) (K : Kont R) (n2 a a2 t4x t4x2 : Int) : L0 k0 (k + 1) K n2 a a2 t4x t4x2 = R0 (L0 k0 k K) (fun a a2 t4x t4x2 => K (.exit 0) [(2, .ptr 0 0 0 0), (4, .ptr 1 0 0 0)] [.box [.int .u64 a, .int .u64 a2], .box [.int .u64 t4x, .int .u64 t4x2]]) n2 a a2 t4x t4x2 := by kernel_rfl
theorem za0 (k0 : Nat) (a0 a1 n : Int) (a a2 t4x t4x2 : Int) : K0 (R := (Int × Int × Unit)) k0 (finK Tryz.prog [.cell 4 113] ins_spec_WideShr outs_spec_WideShr (a0, a1, n, ())) (.exit 0) [(2, .ptr 0 0 0 0), (4, .ptr 1 0 0 0)] [.box [.int .u64 a, .int .u64 a2], .box [.int .u64 t4x, .int .u64 t4x2]] = A0  a0 a1 n a a2 t4x t4x2 := by kernel_rfl
theorem ztop (k0 : Nat) (a0 a1 n : Int) : runFn Tryz.prog ztbl zcfg k0 87 ins_spec_WideShr outs_spec_WideShr [] (a0, a1, n, ()) = T (L0 (R := (Int × Int × Unit)) k0 k0 (K0 (R := (Int × Int × Unit)) k0 ((finK Tryz.prog [.cell 4 113] ins_spec_WideShr outs_spec_WideShr (a0, a1, n, ()))))) a0 a1 n := by kernel_rfl
noncomputable def G0 {R : Type} (k0 : Nat) (hx0 : (Int → Int → Int → Int → Option R)) : Nat → Int → Int → Int → Int → Int → Option R
  | 0, _, _, _, _, _ => none
  | k + 1, n2, a, a2, t4x, t4x2 => R0 (G0 k0 hx0 k) hx0 n2 a a2 t4x t4x2
theorem zg0 {R : Type} (k0 : Nat) (K : Kont R) : ∀ k : Nat, L0 k0 k K = G0 k0 (fun a a2 t4x t4x2 => K (.exit 0) [(2, .ptr 0 0 0 0), (4, .ptr 1 0 0 0)] [.box [.int .u64 a, .int .u64 a2], .box [.int .u64 t4x, .int .u64 t4x2]]) k := by
  intro k
  induction k with
  | zero => funext n2 a a2 t4x t4x2; rfl
  | succ k ih => funext n2 a a2 t4x t4x2; rw [zs0, G0]; (try simp only [ih]); try rfl
noncomputable def FF (k0 : Nat) (a0 a1 n : Int) : Option (Int × Int × Unit) := T (G0 k0 (A0  a0 a1 n) k0) a0 a1 n
theorem zrun (k0 : Nat) (a0 a1 n : Int) : runFn Tryz.prog ztbl zcfg k0 87 ins_spec_WideShr outs_spec_WideShr [] (a0, a1, n, ()) = FF k0 a0 a1 n := by
  rw [ztop, FF]; (try simp only [zg0, za0]); try rfl
noncomputable def _root_.Go.Rv.F_spec_WideShr : Int × Int × Int × Unit → Option (Int × Int × Unit) := fun x => (fun (a0 a1 n : Int) => FF (300) a0 a1 n) x.1 x.2.1 x.2.2.1
theorem ztblOK : ∀ g fs S, ztbl g fs = some S → SumOK Dr Tryz.prog g S := by
  intro g fs S h
  unfold ztbl at h
  cases h
theorem _root_.Go.Rv.ok_spec_WideShr : SumOK Dr Tryz.prog 87 ⟨ins_spec_WideShr, outs_spec_WideShr, F_spec_WideShr, []⟩ := runFn_ok (by kernel_rfl) ztblOK (by kernel_rfl) fun x y h => ⟨zcfg, _, (zrun _ x.1 x.2.1 x.2.2.1).trans h⟩
end spec_WideShr
abbrev ins_spec_l01Bit : List Par := [.v true ct1, .v false [CT.int .i64]]
abbrev outs_spec_l01Bit : List (Bool × List CT) := [(false, [CT.int .u64])]
namespace spec_l01Bit
/-! ### loop.example/g00095/spec.l01Bit (function 75) -/
noncomputable def ztbl : Tbl := fun g fs => if g = 87 ∧ fs = [] then some ⟨ins_spec_WideShr, outs_spec_WideShr, F_spec_WideShr, []⟩ else none
noncomputable def zbody : Code := ((Tryz.prog.funcs[75]?).bind (·.body)).getD .skip
def zcfg : Nat → List Nat × List Nat := fun k => ([], [])
noncomputable def T  (a0 a1 ak : Int) : Option (Int × Unit) := (F_spec_WideShr (a0, a1, ak, ())).bind fun y1 => some ((IntKind.u64.wrap (((BitVec.ofInt 64 y1.2.1) &&& (BitVec.ofInt 64 1)).toNat)), ())
theorem ztop (k0 : Nat) (a0 a1 ak : Int) : runFn Tryz.prog ztbl zcfg k0 75 ins_spec_l01Bit outs_spec_l01Bit [] (a0, a1, ak, ()) = T  a0 a1 ak := by kernel_rfl
noncomputable def _root_.Go.Rv.F_spec_l01Bit : Int × Int × Int × Unit → Option (Int × Unit) := fun x => T x.1 x.2.1 x.2.2.1
theorem ztblOK : ∀ g fs S, ztbl g fs = some S → SumOK Dr Tryz.prog g S := by
  intro g fs S h
  unfold ztbl at h
  split at h
  · rename_i hc; obtain ⟨rfl, rfl⟩ := hc; have := Option.some.inj h; subst this; exact ok_spec_WideShr
  cases h
theorem _root_.Go.Rv.ok_spec_l01Bit : SumOK Dr Tryz.prog 75 ⟨ins_spec_l01Bit, outs_spec_l01Bit, F_spec_l01Bit, []⟩ := runFn_ok (by kernel_rfl) ztblOK (by kernel_rfl) fun x y h => ⟨zcfg, 0, (ztop 0 x.1 x.2.1 x.2.2.1).trans h⟩
end spec_l01Bit
abbrev ins_spec_WideSub : List Par := [.v true ct1, .v true ct1]
abbrev outs_spec_WideSub : List (Bool × List CT) := [(true, ct7)]
namespace spec_WideSub
/-! ### loop.example/g00095/spec.WideSub (function 76) -/
noncomputable def ztbl : Tbl := fun g fs => if g = 73 ∧ fs = [] then some ⟨ins_spec_WideCmp, outs_spec_WideCmp, F_spec_WideCmp, []⟩ else none
noncomputable def zbody : Code := ((Tryz.prog.funcs[76]?).bind (·.body)).getD .skip
def zcfg : Nat → List Nat × List Nat := fun k => ([], [])
noncomputable def T  (a0 a1 b0 b1 : Int) : Option (Int × Int × Bool × Int × Unit) := cond (decide (a1 < b1)) ((F_spec_WideCmp (a0, a1, b0, b1, ())).bind fun y1 => some ((IntKind.u64.wrap ((IntKind.u64.wrap (a0 - b0)) - 1)), (IntKind.u64.wrap (a1 - b1)), (decide (y1.1 < 0)), 0, ())) ((F_spec_WideCmp (a0, a1, b0, b1, ())).bind fun y2 => some ((IntKind.u64.wrap (a0 - b0)), (IntKind.u64.wrap (a1 - b1)), (decide (y2.1 < 0)), 0, ()))
theorem ztop (k0 : Nat) (a0 a1 b0 b1 : Int) : runFn Tryz.prog ztbl zcfg k0 76 ins_spec_WideSub outs_spec_WideSub [] (a0, a1, b0, b1, ()) = T  a0 a1 b0 b1 := by kernel_rfl
noncomputable def _root_.Go.Rv.F_spec_WideSub : Int × Int × Int × Int × Unit → Option (Int × Int × Bool × Int × Unit) := fun x => T x.1 x.2.1 x.2.2.1 x.2.2.2.1
theorem ztblOK : ∀ g fs S, ztbl g fs = some S → SumOK Dr Tryz.prog g S := by
  intro g fs S h
  unfold ztbl at h
  split at h
  · rename_i hc; obtain ⟨rfl, rfl⟩ := hc; have := Option.some.inj h; subst this; exact ok_spec_WideCmp
  cases h
theorem _root_.Go.Rv.ok_spec_WideSub : SumOK Dr Tryz.prog 76 ⟨ins_spec_WideSub, outs_spec_WideSub, F_spec_WideSub, []⟩ := runFn_ok (by kernel_rfl) ztblOK (by kernel_rfl) fun x y h => ⟨zcfg, 0, (ztop 0 x.1 x.2.1 x.2.2.1 x.2.2.2.1).trans h⟩
end spec_WideSub
abbrev ins_spec_WideDiv : List Par := [.v true ct1, .v false [CT.int .u64]]
abbrev outs_spec_WideDiv : List (Bool × List CT) := [(true, ct8)]
namespace spec_WideDiv
/-! ### loop.example/g00095/spec.WideDiv (function 65) -/
noncomputable def ztbl : Tbl := fun g fs => if g = 73 ∧ fs = [] then some ⟨ins_spec_WideCmp, outs_spec_WideCmp, F_spec_WideCmp, []⟩ else if g = 74 ∧ fs = [] then some ⟨ins_spec_WideAdd, outs_spec_WideAdd, F_spec_WideAdd, []⟩ else if g = 75 ∧ fs = [] then some ⟨ins_spec_l01Bit, outs_spec_l01Bit, F_spec_l01Bit, []⟩ else if g = 76 ∧ fs = [] then some ⟨ins_spec_WideSub, outs_spec_WideSub, F_spec_WideSub, []⟩ else none
noncomputable def zbody : Code := ((Tryz.prog.funcs[65]?).bind (·.body)).getD .skip
def zcfg : Nat → List Nat × List Nat := fun k => if k = 6 then ([1, 2, 4, 5, 6, 7], [4, 5, 6]) else ([], [])
noncomputable def R0 {R : Type} (nx0 : (Int → Int → Int → Int → Int → Int → Int → Int → Int → Int → Int → Int → Option R)) (ex0 : (Int → Int → Int → Int → Int → Int → Int → Int → Option R)) (d2 kx a a2 t4x t4x2 t4x3 out out2 out3 rem rem2 : Int) : Option R := cond (decide (kx ≥ 0)) ((F_spec_WideAdd (rem, rem2, rem, rem2, ())).bind fun y1 => (F_spec_l01Bit (a, a2, kx, ())).bind fun y2 => (F_spec_WideAdd (out, out2, out, out2, ())).bind fun y3 => (F_spec_WideCmp (y1.1, (IntKind.u64.wrap (y1.2.1 + y2.1)), 0, d2, ())).bind fun y4 => cond (decide (y4.1 ≥ 0)) ((F_spec_WideSub (y1.1, (IntKind.u64.wrap (y1.2.1 + y2.1)), 0, d2, ())).bind fun y5 => nx0 d2 (w64 (kx - 1)) a a2 t4x t4x2 t4x3 y3.1 (IntKind.u64.wrap (y3.2.1 + 1)) out3 y5.1 y5.2.1) (nx0 d2 (w64 (kx - 1)) a a2 t4x t4x2 t4x3 y3.1 y3.2.1 out3 y1.1 (IntKind.u64.wrap (y1.2.1 + y2.1)))) (ex0 t4x t4x2 t4x3 out out2 out3 rem rem2)
noncomputable def A0  (a0 a1 d : Int) (t4x t4x2 t4x3 out out2 out3 rem rem2 : Int) : Option (Int × Int × Int × Unit) := some (out, out2, rem2, ())
noncomputable def T (lo0 : (Int → Int → Int → Int → Int → Int → Int → Int → Int → Int → Int → Int → Option (Int × Int × Int × Unit))) (a0 a1 d : Int) : Option (Int × Int × Int × Unit) := cond (d == 0) (some (0, 0, 0, ())) (lo0 d 127 a0 a1 0 0 0 0 0 0 0 0)
noncomputable def zst0 {R : Type} (k0 : Nat) : Env → List Ob → Kont R → Option R := fun env ob K => runCode Tryz.prog ztbl 55 0 zcfg k0 (codeAt [1, 1, 1, 1, 0, 1, 0, 0] zbody) env ob K
noncomputable def K0 {R : Type} (k0 : Nat) (K : Kont R) : Kont R := blockK 0 (seqK (fun env ob => runCode Tryz.prog ztbl 55 0 zcfg k0 (codeAt [1, 1, 1, 1, 1] zbody) env ob (K)) (K))
noncomputable def L0 {R : Type} (k0 k : Nat) (K : Kont R) (d2 kx a a2 t4x t4x2 t4x3 out out2 out3 rem rem2 : Int) : Option R := iter 0 [1, 2, 4, 5, 6, 7] [4, 5, 6] (zst0 k0) k [(1, .int .u64 d2), (2, .ptr 0 0 0 0), (4, .ptr 1 0 0 0), (5, .ptr 2 0 0 0), (6, .ptr 3 0 0 0), (7, .int .i64 kx)] [.box [.int .u64 a, .int .u64 a2], .box [.int .u64 t4x, .int .u64 t4x2, .int .u64 t4x3], .box [.int .u64 out, .int .u64 out2, .int .u64 out3], .box [.int .u64 rem, .int .u64 rem2]] K
theorem zs0 {R : Type} (k0 k : Nat) (K : Kont R) (d2 kx a a2 t4x t4x2 t4x3 out out2 out3 rem rem2 : Int) : L0 k0 (k + 1) K d2 kx a a2 t4x t4x2 t4x3 out out2 out3 rem rem2 = R0 (L0 k0 k K) (fun t4x t4x2 t4x3 out out2 out3 rem rem2 => K (.exit 0) [(4, .ptr 0 0 0 0), (5, .ptr 1 0 0 0), (6, .ptr 2 0 0 0)] [.box [.int .u64 t4x, .int .u64 t4x2, .int .u64 t4x3], .box [.int .u64 out, .int .u64 out2, .int .u64 out3], .box [.int .u64 rem, .int .u64 rem2]]) d2 kx a a2 t4x t4x2 t4x3 out out2 out3 rem rem2 := by kernel_rfl
theorem za0 (k0 : Nat) (a0 a1 d : Int) (t4x t4x2 t4x3 out out2 out3 rem rem2 : Int) : K0 (R := (Int × Int × Int × Unit)) k0 (finK Tryz.prog [.cell 4 115] ins_spec_WideDiv outs_spec_WideDiv (a0, a1, d, ())) (.exit 0) [(4, .ptr 0 0 0 0), (5, .ptr 1 0 0 0), (6, .ptr 2 0 0 0)] [.box [.int .u64 t4x, .int .u64 t4x2, .int .u64 t4x3], .box [.int .u64 out, .int .u64 out2, .int .u64 out3], .box [.int .u64 rem, .int .u64 rem2]] = A0  a0 a1 d t4x t4x2 t4x3 out out2 out3 rem rem2 := by kernel_rfl
theorem ztop (k0 : Nat) (a0 a1 d : Int) : runFn Tryz.prog ztbl zcfg k0 65 ins_spec_WideDiv outs_spec_WideDiv [] (a0, a1, d, ()) = T (L0 (R := (Int × Int × Int × Unit)) k0 k0 (K0 (R := (Int × Int × Int × Unit)) k0 ((finK Tryz.prog [.cell 4 115] ins_spec_WideDiv outs_spec_WideDiv (a0, a1, d, ()))))) a0 a1 d := by kernel_rfl
noncomputable def G0 {R : Type} (k0 : Nat) (hx0 : (Int → Int → Int → Int → Int → Int → Int → Int → Option R)) : Nat → Int → Int → Int → Int → Int → Int → Int → Int → Int → Int → Int → Int → Option R
  | 0, _, _, _, _, _, _, _, _, _, _, _, _ => none
  | k + 1, d2, kx, a, a2, t4x, t4x2, t4x3, out, out2, out3, rem, rem2 => R0 (G0 k0 hx0 k) hx0 d2 kx a a2 t4x t4x2 t4x3 out out2 out3 rem rem2
theorem zg0 {R : Type} (k0 : Nat) (K : Kont R) : ∀ k : Nat, L0 k0 k K = G0 k0 (fun t4x t4x2 t4x3 out out2 out3 rem rem2 => K (.exit 0) [(4, .ptr 0 0 0 0), (5, .ptr 1 0 0 0), (6, .ptr 2 0 0 0)] [.box [.int .u64 t4x, .int .u64 t4x2, .int .u64 t4x3], .box [.int .u64 out, .int .u64 out2, .int .u64 out3], .box [.int .u64 rem, .int .u64 rem2]]) k := by
  intro k
  induction k with
  | zero => funext d2 kx a a2 t4x t4x2 t4x3 out out2 out3 rem rem2; rfl
  | succ k ih => funext d2 kx a a2 t4x t4x2 t4x3 out out2 out3 rem rem2; rw [zs0, G0]; (try simp only [ih]); try rfl
noncomputable def FF (k0 : Nat) (a0 a1 d : Int) : Option (Int × Int × Int × Unit) := T (G0 k0 (A0  a0 a1 d) k0) a0 a1 d
theorem zrun (k0 : Nat) (a0 a1 d : Int) : runFn Tryz.prog ztbl zcfg k0 65 ins_spec_WideDiv outs_spec_WideDiv [] (a0, a1, d, ()) = FF k0 a0 a1 d := by
  rw [ztop, FF]; (try simp only [zg0, za0]); try rfl
noncomputable def _root_.Go.Rv.F_spec_WideDiv : Int × Int × Int × Unit → Option (Int × Int × Int × Unit) := fun x => (fun (a0 a1 d : Int) => FF (300) a0 a1 d) x.1 x.2.1 x.2.2.1
theorem ztblOK : ∀ g fs S, ztbl g fs = some S → SumOK Dr Tryz.prog g S := by
  intro g fs S h
  unfold ztbl at h
  split at h
  · rename_i hc; obtain ⟨rfl, rfl⟩ := hc; have := Option.some.inj h; subst this; exact ok_spec_WideCmp
  split at h
  · rename_i hc; obtain ⟨rfl, rfl⟩ := hc; have := Option.some.inj h; subst this; exact ok_spec_WideAdd
  split at h
  · rename_i hc; obtain ⟨rfl, rfl⟩ := hc; have := Option.some.inj h; subst this; exact ok_spec_l01Bit
  split at h
  · rename_i hc; obtain ⟨rfl, rfl⟩ := hc; have := Option.some.inj h; subst this; exact ok_spec_WideSub
  cases h
theorem _root_.Go.Rv.ok_spec_WideDiv : SumOK Dr Tryz.prog 65 ⟨ins_spec_WideDiv, outs_spec_WideDiv, F_spec_WideDiv, []⟩ := runFn_ok (by kernel_rfl) ztblOK (by kernel_rfl) fun x y h => ⟨zcfg, _, (zrun _ x.1 x.2.1 x.2.2.1).trans h⟩
end spec_WideDiv
abbrev ins_spec_l05Fill : List Par := [.v false [CT.int .i64], .v false [CT.sl ct0]]
abbrev outs_spec_l05Fill : List (Bool × List CT) := [(false, [CT.sl [CT.int .i64]])]
namespace spec_l05Fill
/-! ### loop.example/g00095/spec.l05Fill (function 50) -/
noncomputable def ztbl : Tbl := fun g fs => if g = 63 ∧ fs = [] then some ⟨ins_spec_RatioCmp, outs_spec_RatioCmp, F_spec_RatioCmp, []⟩ else if g = 64 ∧ fs = [] then some ⟨ins_spec_l02Times, outs_spec_l02Times, F_spec_l02Times, []⟩ else if g = 65 ∧ fs = [] then some ⟨ins_spec_WideDiv, outs_spec_WideDiv, F_spec_WideDiv, []⟩ else if g = 66 ∧ fs = [] then some ⟨ins_spec_WideMul, outs_spec_WideMul, F_spec_WideMul, []⟩ else none
noncomputable def zbody : Code := ((Tryz.prog.funcs[50]?).bind (·.body)).getD .skip
def zcfg : Nat → List Nat × List Nat := fun k => if k = 6 then ([1, 5, 6, 7, 8, 9], [1, 5, 6, 7, 8]) else if k = 9 then ([1, 5, 6, 7, 8], [1, 4, 5, 6, 7, 8]) else if k = 11 then ([1, 5, 6, 7, 8, 10, 11], [1, 5, 6, 7, 8, 10]) else if k = 24 then ([1, 5, 6, 7, 8, 12, 13], [1, 5, 6, 12]) else if k = 30 then ([1, 5, 6, 12, 14], [5]) else ([], [])
noncomputable def R0 {R : Type} (nx0 : ((List (Int × Int × Int × Unit)) → Int → Int → Int → (List (Int × Unit)) → (List (Bool × Unit)) → Option R)) (ex0 : ((List (Int × Int × Int × Unit)) → Int → Int → (List (Int × Unit)) → (List (Bool × Unit)) → Option R)) (list2 : List (Int × Int × Int × Unit)) (rest all i : Int) (out : List (Int × Unit)) (done : List (Bool × Unit)) : Option R := cond (decide (i < (list2.length : Int))) (if 0 ≤ i ∧ i < (list2.length : Int) then nx0 list2 rest (w64 (all + (rd (0, 0, 0, ()) list2 i).2.2.1)) (w64 (i + 1)) out done else none) (ex0 list2 rest all out done)
noncomputable def R1 {R : Type} (lo2 : ((List (Int × Int × Int × Unit)) → Int → Int → Int → Int → (List (Int × Unit)) → (List (Bool × Unit)) → Option R)) (list2 : List (Int × Int × Int × Unit)) (rest all : Int) (out : List (Int × Unit)) (done : List (Bool × Unit)) : Option R := lo2 list2 rest all (-1) 0 out done
noncomputable def R2 {R : Type} (nx2 : ((List (Int × Int × Int × Unit)) → Int → Int → Int → Int → (List (Int × Unit)) → (List (Bool × Unit)) → Option R)) (ex1 : ((List (Int × Int × Int × Unit)) → Int → Int → Int → (List (Int × Unit)) → (List (Bool × Unit)) → Option R)) (list2 : List (Int × Int × Int × Unit)) (rest all next i : Int) (out : List (Int × Unit)) (done : List (Bool × Unit)) : Option R := cond (decide (i < (list2.length : Int))) (if 0 ≤ i ∧ i < (done.length : Int) then cond (!(done.getD i.toNat (false, ())).1) (cond (decide (next < 0)) (nx2 list2 rest all i (w64 (i + 1)) out done) (if 0 ≤ i ∧ i < (list2.length : Int) then if 0 ≤ next ∧ next < (list2.length : Int) then (F_spec_RatioCmp ((rd (0, 0, 0, ()) list2 i).1, (rd (0, 0, 0, ()) list2 i).2.1, (rd (0, 0, 0, ()) list2 i).2.2.1, (rd (0, 0, 0, ()) list2 next).1, (rd (0, 0, 0, ()) list2 next).2.1, (rd (0, 0, 0, ()) list2 next).2.2.1, ())).bind fun y1 => cond (decide (y1.1 < 0)) (nx2 list2 rest all i (w64 (i + 1)) out done) (nx2 list2 rest all next (w64 (i + 1)) out done) else none else none)) (nx2 list2 rest all next (w64 (i + 1)) out done) else none) (ex1 list2 rest all next out done)
noncomputable def R3 {R : Type} (nx3 : ((List (Int × Int × Int × Unit)) → Int → Int → Int → Int → (List (Int × Unit)) → (List (Bool × Unit)) → Option R)) (ex4 : ((List (Int × Int × Int × Unit)) → Int → (List (Int × Unit)) → (List (Bool × Unit)) → Option R)) (list2 : List (Int × Int × Int × Unit)) (rest all left i : Int) (out : List (Int × Unit)) (done : List (Bool × Unit)) : Option R := cond (decide (i < (list2.length : Int))) (if 0 ≤ i ∧ i < (done.length : Int) then cond (!(done.getD i.toNat (false, ())).1) (if 0 ≤ i ∧ i < (list2.length : Int) then (F_spec_WideMul ((IntKind.u64.wrap (rest)), (IntKind.u64.wrap ((rd (0, 0, 0, ()) list2 i).2.2.1)), ())).bind fun y1 => (F_spec_WideDiv (y1.1, y1.2.1, (IntKind.u64.wrap (all)), ())).bind fun y2 => if 0 ≤ i ∧ i < (out.length : Int) then if 0 ≤ i ∧ i < ((out.set i.toNat ((w64 (y2.2.1)), ())).length : Int) then nx3 list2 rest all (w64 (left - ((out.set i.toNat ((w64 (y2.2.1)), ())).getD i.toNat (0, ())).1)) (w64 (i + 1)) (out.set i.toNat ((w64 (y2.2.1)), ())) done else none else none else none) (nx3 list2 rest all left (w64 (i + 1)) out done) else none) (ex4 list2 left out done)
noncomputable def R4 {R : Type} (nx4 : ((List (Int × Int × Int × Unit)) → Int → Int → (List (Int × Unit)) → (List (Bool × Unit)) → Option R)) (ex5 : ((List (Int × Unit)) → Option R)) (list2 : List (Int × Int × Int × Unit)) (left i : Int) (out : List (Int × Unit)) (done : List (Bool × Unit)) : Option R := cond (decide (i < (list2.length : Int))) (cond (decide (left > 0)) (if 0 ≤ i ∧ i < (done.length : Int) then cond (!(done.getD i.toNat (false, ())).1) (if 0 ≤ i ∧ i < (out.length : Int) then if 0 ≤ i ∧ i < (out.length : Int) then nx4 list2 (w64 (left - 1)) (w64 (i + 1)) (out.set i.toNat ((w64 ((out.getD i.toNat (0, ())).1 + 1)), ())) done else none else none) (nx4 list2 left (w64 (i + 1)) out done) else none) (ex5 out)) (ex5 out)
noncomputable def A0 (lo1 : ((List (Int × Int × Int × Unit)) → Int → Int → (List (Int × Unit)) → (List (Bool × Unit)) → Option ((List (Int × Unit)) × Unit))) (amount : Int) (list : List (Int × Int × Int × Unit)) (list2 : List (Int × Int × Int × Unit)) (rest all : Int) (out : List (Int × Unit)) (done : List (Bool × Unit)) : Option ((List (Int × Unit)) × Unit) := lo1 list2 rest all out done
noncomputable def A1 {R : Type} (nx1 : ((List (Int × Int × Int × Unit)) → Int → Int → (List (Int × Unit)) → (List (Bool × Unit)) → Option R)) (ex2 : ((List (Int × Int × Int × Unit)) → Int → Int → (List (Int × Unit)) → (List (Bool × Unit)) → Option R)) (ex3 : ((List (Int × Int × Int × Unit)) → Int → Int → (List (Int × Unit)) → (List (Bool × Unit)) → Option R)) (list2 : List (Int × Int × Int × Unit)) (rest all next : Int) (out : List (Int × Unit)) (done : List (Bool × Unit)) : Option R := cond (decide (next < 0)) (ex2 list2 rest all out done) (if 0 ≤ next ∧ next < (list2.length : Int) then if 0 ≤ next ∧ next < (list2.length : Int) then (F_spec_l02Times ((rd (0, 0, 0, ()) list2 next).2.1, all, rest, (rd (0, 0, 0, ()) list2 next).2.2.1, ())).bind fun y1 => cond (decide (y1.1 > 0)) (ex3 list2 rest all out done) (if 0 ≤ next ∧ next < (done.length : Int) then if 0 ≤ next ∧ next < (list2.length : Int) then if 0 ≤ next ∧ next < (out.length : Int) then if 0 ≤ next ∧ next < (list2.length : Int) then if 0 ≤ next ∧ next < (list2.length : Int) then nx1 list2 (w64 (rest - (rd (0, 0, 0, ()) list2 next).2.1)) (w64 (all - (rd (0, 0, 0, ()) list2 next).2.2.1)) (out.set next.toNat ((rd (0, 0, 0, ()) list2 next).2.1, ())) (done.set next.toNat (true, ())) else none else none else none else none else none) else none else none)
noncomputable def A2  (amount : Int) (list : List (Int × Int × Int × Unit)) (list2 : List (Int × Int × Int × Unit)) (rest all : Int) (t4x : List (Int × Unit)) (done : List (Bool × Unit)) : Option ((List (Int × Unit)) × Unit) := some (t4x, ())
noncomputable def A3 (lo3 : ((List (Int × Int × Int × Unit)) → Int → Int → Int → Int → (List (Int × Unit)) → (List (Bool × Unit)) → Option ((List (Int × Unit)) × Unit))) (amount : Int) (list : List (Int × Int × Int × Unit)) (list2 : List (Int × Int × Int × Unit)) (rest all : Int) (out : List (Int × Unit)) (done : List (Bool × Unit)) : Option ((List (Int × Unit)) × Unit) := lo3 list2 rest all rest 0 out done
noncomputable def A4 (lo4 : ((List (Int × Int × Int × Unit)) → Int → Int → (List (Int × Unit)) → (List (Bool × Unit)) → Option ((List (Int × Unit)) × Unit))) (amount : Int) (list : List (Int × Int × Int × Unit)) (list2 : List (Int × Int × Int × Unit)) (left : Int) (out : List (Int × Unit)) (done : List (Bool × Unit)) : Option ((List (Int × Unit)) × Unit) := lo4 list2 left 0 out done
noncomputable def A5  (amount : Int) (list : List (Int × Int × Int × Unit)) (out : List (Int × Unit)) : Option ((List (Int × Unit)) × Unit) := some (out, ())
noncomputable def T (lo0 : ((List (Int × Int × Int × Unit)) → Int → Int → Int → (List (Int × Unit)) → (List (Bool × Unit)) → Option ((List (Int × Unit)) × Unit))) (amount : Int) (list : List (Int × Int × Int × Unit)) : Option ((List (Int × Unit)) × Unit) := if 0 ≤ (list.length : Int) ∧ (8 : Int) * (list.length : Int) ≤ 281474976710656 ∧ (list.length : Int) ≤ 9223372036854775807 then if 0 ≤ (list.length : Int) ∧ (1 : Int) * (list.length : Int) ≤ 281474976710656 ∧ (list.length : Int) ≤ 9223372036854775807 then lo0 list amount 0 0 (List.replicate (((list.length : Int) : Int)).toNat (0, ())) (List.replicate (((list.length : Int) : Int)).toNat (false, ())) else none else none
noncomputable def zst0 {R : Type} (k0 : Nat) : Env → List Ob → Kont R → Option R := fun env ob K => runCode Tryz.prog ztbl 167 0 zcfg k0 (codeAt [1, 1, 1, 1, 1, 0, 1, 0, 0] zbody) env ob K
noncomputable def K0 {R : Type} (k0 : Nat) (K : Kont R) : Kont R := blockK 0 (seqK (fun env ob => runCode Tryz.prog ztbl 167 0 zcfg k0 (codeAt [1, 1, 1, 1, 1, 1] zbody) env ob (K)) (K))
noncomputable def zst1 {R : Type} (k0 : Nat) : Env → List Ob → Kont R → Option R := fun env ob K => runCode Tryz.prog ztbl 167 0 zcfg k0 (codeAt [1, 1, 1, 1, 1, 1, 0, 0, 0] zbody) env ob K
noncomputable def K1 {R : Type} (k0 : Nat) (K : Kont R) : Kont R := blockK 2 (seqK (fun env ob => runCode Tryz.prog ztbl 167 0 zcfg k0 (codeAt [1, 1, 1, 1, 1, 1, 1] zbody) env ob (K)) (K))
noncomputable def zst2 {R : Type} (k0 : Nat) : Env → List Ob → Kont R → Option R := fun env ob K => runCode Tryz.prog ztbl 167 0 zcfg k0 (codeAt [1, 1, 1, 1, 1, 1, 0, 0, 0, 0, 1, 0, 1, 0, 0] zbody) env ob K
noncomputable def K2 {R : Type} (k0 : Nat) (K : Kont R) : Kont R := blockK 4 (seqK (fun env ob => runCode Tryz.prog ztbl 167 0 zcfg k0 (codeAt [1, 1, 1, 1, 1, 1, 0, 0, 0, 0, 1, 1] zbody) env ob (blockK 3 (K))) (blockK 3 (K)))
noncomputable def zst3 {R : Type} (k0 : Nat) : Env → List Ob → Kont R → Option R := fun env ob K => runCode Tryz.prog ztbl 167 0 zcfg k0 (codeAt [1, 1, 1, 1, 1, 1, 1, 1, 0, 1, 0, 0] zbody) env ob K
noncomputable def K3 {R : Type} (k0 : Nat) (K : Kont R) : Kont R := blockK 6 (seqK (fun env ob => runCode Tryz.prog ztbl 167 0 zcfg k0 (codeAt [1, 1, 1, 1, 1, 1, 1, 1, 1] zbody) env ob (K)) (K))
noncomputable def zst4 {R : Type} (k0 : Nat) : Env → List Ob → Kont R → Option R := fun env ob K => runCode Tryz.prog ztbl 167 0 zcfg k0 (codeAt [1, 1, 1, 1, 1, 1, 1, 1, 1, 0, 1, 0, 0] zbody) env ob K
noncomputable def K4 {R : Type} (k0 : Nat) (K : Kont R) : Kont R := blockK 8 (seqK (fun env ob => runCode Tryz.prog ztbl 167 0 zcfg k0 (codeAt [1, 1, 1, 1, 1, 1, 1, 1, 1, 1] zbody) env ob (K)) (K))
noncomputable def L0 {R : Type} (k0 k : Nat) (K : Kont R) (list2 : List (Int × Int × Int × Unit)) (rest all i : Int) (out : List (Int × Unit)) (done : List (Bool × Unit)) : Option R := iter 0 [1, 5, 6, 7, 8, 9] [1, 5, 6, 7, 8] (zst0 k0) k [(1, .sl ct0 list2), (5, .own 0), (6, .own 1), (7, .int .i64 rest), (8, .int .i64 all), (9, .int .i64 i)] [.arr [CT.int .i64] out, .arr [CT.bool] done] K
noncomputable def L1 {R : Type} (k0 k : Nat) (K : Kont R) (list2 : List (Int × Int × Int × Unit)) (rest all : Int) (out : List (Int × Unit)) (done : List (Bool × Unit)) : Option R := iter 0 [1, 5, 6, 7, 8] [1, 4, 5, 6, 7, 8] (zst1 k0) k [(1, .sl ct0 list2), (5, .own 0), (6, .own 1), (7, .int .i64 rest), (8, .int .i64 all)] [.arr [CT.int .i64] out, .arr [CT.bool] done] K
noncomputable def L2 {R : Type} (k0 k : Nat) (K : Kont R) (list2 : List (Int × Int × Int × Unit)) (rest all next i : Int) (out : List (Int × Unit)) (done : List (Bool × Unit)) : Option R := iter 0 [1, 5, 6, 7, 8, 10, 11] [1, 5, 6, 7, 8, 10] (zst2 k0) k [(1, .sl ct0 list2), (5, .own 0), (6, .own 1), (7, .int .i64 rest), (8, .int .i64 all), (10, .int .i64 next), (11, .int .i64 i)] [.arr [CT.int .i64] out, .arr [CT.bool] done] K
noncomputable def L3 {R : Type} (k0 k : Nat) (K : Kont R) (list2 : List (Int × Int × Int × Unit)) (rest all left i : Int) (out : List (Int × Unit)) (done : List (Bool × Unit)) : Option R := iter 0 [1, 5, 6, 7, 8, 12, 13] [1, 5, 6, 12] (zst3 k0) k [(1, .sl ct0 list2), (5, .own 0), (6, .own 1), (7, .int .i64 rest), (8, .int .i64 all), (12, .int .i64 left), (13, .int .i64 i)] [.arr [CT.int .i64] out, .arr [CT.bool] done] K
noncomputable def L4 {R : Type} (k0 k : Nat) (K : Kont R) (list2 : List (Int × Int × Int × Unit)) (left i : Int) (out : List (Int × Unit)) (done : List (Bool × Unit)) : Option R := iter 0 [1, 5, 6, 12, 14] [5] (zst4 k0) k [(1, .sl ct0 list2), (5, .own 0), (6, .own 1), (12, .int .i64 left), (14, .int .i64 i)] [.arr [CT.int .i64] out, .arr [CT.bool] done] K
theorem zs0 {R : Type} (k0 k : Nat) (K : Kont R) (list2 : List (Int × Int × Int × Unit)) (rest all i : Int) (out : List (Int × Unit)) (done : List (Bool × Unit)) : L0 k0 (k + 1) K list2 rest all i out done = R0 (L0 k0 k K) (fun list2 rest all out done => K (.exit 0) [(1, .sl ct0 list2), (5, .own 0), (6, .own 1), (7, .int .i64 rest), (8, .int .i64 all)] [.arr [CT.int .i64] out, .arr [CT.bool] done]) list2 rest all i out done := by kernel_rfl
theorem zs1 {R : Type} (k0 k : Nat) (K : Kont R) (list2 : List (Int × Int × Int × Unit)) (rest all : Int) (out : List (Int × Unit)) (done : List (Bool × Unit)) : L1 k0 (k + 1) K list2 rest all out done = R1 (L2 k0 k0 (K2 k0 (loopK 0 [1, 5, 6, 7, 8] [1, 4, 5, 6, 7, 8] (fun env ob => iter 0 [1, 5, 6, 7, 8] [1, 4, 5, 6, 7, 8] (zst1 k0) k env ob K) K))) list2 rest all out done := by kernel_rfl
theorem zs2 {R : Type} (k0 k : Nat) (K : Kont R) (list2 : List (Int × Int × Int × Unit)) (rest all next i : Int) (out : List (Int × Unit)) (done : List (Bool × Unit)) : L2 k0 (k + 1) K list2 rest all next i out done = R2 (L2 k0 k K) (fun list2 rest all next out done => K (.exit 4) [(1, .sl ct0 list2), (5, .own 0), (6, .own 1), (7, .int .i64 rest), (8, .int .i64 all), (10, .int .i64 next)] [.arr [CT.int .i64] out, .arr [CT.bool] done]) list2 rest all next i out done := by kernel_rfl
theorem zs3 {R : Type} (k0 k : Nat) (K : Kont R) (list2 : List (Int × Int × Int × Unit)) (rest all left i : Int) (out : List (Int × Unit)) (done : List (Bool × Unit)) : L3 k0 (k + 1) K list2 rest all left i out done = R3 (L3 k0 k K) (fun list2 left out done => K (.exit 6) [(1, .sl ct0 list2), (5, .own 0), (6, .own 1), (12, .int .i64 left)] [.arr [CT.int .i64] out, .arr [CT.bool] done]) list2 rest all left i out done := by kernel_rfl
theorem zs4 {R : Type} (k0 k : Nat) (K : Kont R) (list2 : List (Int × Int × Int × Unit)) (left i : Int) (out : List (Int × Unit)) (done : List (Bool × Unit)) : L4 k0 (k + 1) K list2 left i out done = R4 (L4 k0 k K) (fun out => K (.exit 8) [(5, .own 0)] [.arr [CT.int .i64] out]) list2 left i out done := by kernel_rfl
theorem za0 (k0 : Nat) (amount : Int) (list : List (Int × Int × Int × Unit)) (list2 : List (Int × Int × Int × Unit)) (rest all : Int) (out : List (Int × Unit)) (done : List (Bool × Unit)) : K0 (R := ((List (Int × Unit)) × Unit)) k0 (finK Tryz.prog [.tmp 4] ins_spec_l05Fill outs_spec_l05Fill (amount, list, ())) (.exit 0) [(1, .sl ct0 list2), (5, .own 0), (6, .own 1), (7, .int .i64 rest), (8, .int .i64 all)] [.arr [CT.int .i64] out, .arr [CT.bool] done] = A0 (L1 (R := ((List (Int × Unit)) × Unit)) k0 k0 (K1 (R := ((List (Int × Unit)) × Unit)) k0 ((finK Tryz.prog [.tmp 4] ins_spec_l05Fill outs_spec_l05Fill (amount, list, ()))))) amount list list2 rest all out done := by kernel_rfl
theorem za1 {R : Type} (k0 k : Nat) (K : Kont R) (list2 : List (Int × Int × Int × Unit)) (rest all next : Int) (out : List (Int × Unit)) (done : List (Bool × Unit)) : K2 k0 (loopK 0 [1, 5, 6, 7, 8] [1, 4, 5, 6, 7, 8] (fun env ob => iter 0 [1, 5, 6, 7, 8] [1, 4, 5, 6, 7, 8] (zst1 k0) k env ob K) K) (.exit 4) [(1, .sl ct0 list2), (5, .own 0), (6, .own 1), (7, .int .i64 rest), (8, .int .i64 all), (10, .int .i64 next)] [.arr [CT.int .i64] out, .arr [CT.bool] done] = A1 (L1 k0 k K) (fun list2 rest all t4x done => K .ret [(1, .sl ct0 list2), (4, .own 0), (5, .own 0), (6, .own 1), (7, .int .i64 rest), (8, .int .i64 all)] [.arr [CT.int .i64] t4x, .arr [CT.bool] done]) (fun list2 rest all out done => K (.exit 2) [(1, .sl ct0 list2), (4, .undef), (5, .own 0), (6, .own 1), (7, .int .i64 rest), (8, .int .i64 all)] [.arr [CT.int .i64] out, .arr [CT.bool] done]) list2 rest all next out done := by kernel_rfl
theorem za2 (k0 : Nat) (amount : Int) (list : List (Int × Int × Int × Unit)) (list2 : List (Int × Int × Int × Unit)) (rest all : Int) (t4x : List (Int × Unit)) (done : List (Bool × Unit)) : K1 (R := ((List (Int × Unit)) × Unit)) k0 (finK Tryz.prog [.tmp 4] ins_spec_l05Fill outs_spec_l05Fill (amount, list, ())) .ret [(1, .sl ct0 list2), (4, .own 0), (5, .own 0), (6, .own 1), (7, .int .i64 rest), (8, .int .i64 all)] [.arr [CT.int .i64] t4x, .arr [CT.bool] done] = A2  amount list list2 rest all t4x done := by kernel_rfl
theorem za3 (k0 : Nat) (amount : Int) (list : List (Int × Int × Int × Unit)) (list2 : List (Int × Int × Int × Unit)) (rest all : Int) (out : List (Int × Unit)) (done : List (Bool × Unit)) : K1 (R := ((List (Int × Unit)) × Unit)) k0 (finK Tryz.prog [.tmp 4] ins_spec_l05Fill outs_spec_l05Fill (amount, list, ())) (.exit 2) [(1, .sl ct0 list2), (4, .undef), (5, .own 0), (6, .own 1), (7, .int .i64 rest), (8, .int .i64 all)] [.arr [CT.int .i64] out, .arr [CT.bool] done] = A3 (L3 (R := ((List (Int × Unit)) × Unit)) k0 k0 (K3 (R := ((List (Int × Unit)) × Unit)) k0 ((finK Tryz.prog [.tmp 4] ins_spec_l05Fill outs_spec_l05Fill (amount, list, ()))))) amount list list2 rest all out done := by kernel_rfl
theorem za4 (k0 : Nat) (amount : Int) (list : List (Int × Int × Int × Unit)) (list2 : List (Int × Int × Int × Unit)) (left : Int) (out : List (Int × Unit)) (done : List (Bool × Unit)) : K3 (R := ((List (Int × Unit)) × Unit)) k0 (finK Tryz.prog [.tmp 4] ins_spec_l05Fill outs_spec_l05Fill (amount, list, ())) (.exit 6) [(1, .sl ct0 list2), (5, .own 0), (6, .own 1), (12, .int .i64 left)] [.arr [CT.int .i64] out, .arr [CT.bool] done] = A4 (L4 (R := ((List (Int × Unit)) × Unit)) k0 k0 (K4 (R := ((List (Int × Unit)) × Unit)) k0 ((finK Tryz.prog [.tmp 4] ins_spec_l05Fill outs_spec_l05Fill (amount, list, ()))))) amount list list2 left out done := by kernel_rfl
theorem za5 (k0 : Nat) (amount : Int) (list : List (Int × Int × Int × Unit)) (out : List (Int × Unit)) : K4 (R := ((List (Int × Unit)) × Unit)) k0 (finK Tryz.prog [.tmp 4] ins_spec_l05Fill outs_spec_l05Fill (amount, list, ())) (.exit 8) [(5, .own 0)] [.arr [CT.int .i64] out] = A5  amount list out := by kernel_rfl
theorem ztop (k0 : Nat) (amount : Int) (list : List (Int × Int × Int × Unit)) : runFn Tryz.prog ztbl zcfg k0 50 ins_spec_l05Fill outs_spec_l05Fill [] (amount, list, ()) = T (L0 (R := ((List (Int × Unit)) × Unit)) k0 k0 (K0 (R := ((List (Int × Unit)) × Unit)) k0 ((finK Tryz.prog [.tmp 4] ins_spec_l05Fill outs_spec_l05Fill (amount, list, ()))))) amount list := by kernel_rfl
noncomputable def G0 {R : Type} (k0 : Nat) (hx0 : ((List (Int × Int × Int × Unit)) → Int → Int → (List (Int × Unit)) → (List (Bool × Unit)) → Option R)) : Nat → (List (Int × Int × Int × Unit)) → Int → Int → Int → (List (Int × Unit)) → (List (Bool × Unit)) → Option R
  | 0, _, _, _, _, _, _ => none
  | k + 1, list2, rest, all, i, out, done => R0 (G0 k0 hx0 k) hx0 list2 rest all i out done
theorem zg0 {R : Type} (k0 : Nat) (K : Kont R) : ∀ k : Nat, L0 k0 k K = G0 k0 (fun list2 rest all out done => K (.exit 0) [(1, .sl ct0 list2), (5, .own 0), (6, .own 1), (7, .int .i64 rest), (8, .int .i64 all)] [.arr [CT.int .i64] out, .arr [CT.bool] done]) k := by
  intro k
  induction k with
  | zero => funext list2 rest all i out done; rfl
  | succ k ih => funext list2 rest all i out done; rw [zs0, G0]; (try simp only [ih]); try rfl
noncomputable def G2 {R : Type} (k0 : Nat) (hx1 : ((List (Int × Int × Int × Unit)) → Int → Int → Int → (List (Int × Unit)) → (List (Bool × Unit)) → Option R)) : Nat → (List (Int × Int × Int × Unit)) → Int → Int → Int → Int → (List (Int × Unit)) → (List (Bool × Unit)) → Option R
  | 0, _, _, _, _, _, _, _ => none
  | k + 1, list2, rest, all, next, i, out, done => R2 (G2 k0 hx1 k) hx1 list2 rest all next i out done
theorem zg2 {R : Type} (k0 : Nat) (K : Kont R) : ∀ k : Nat, L2 k0 k K = G2 k0 (fun list2 rest all next out done => K (.exit 4) [(1, .sl ct0 list2), (5, .own 0), (6, .own 1), (7, .int .i64 rest), (8, .int .i64 all), (10, .int .i64 next)] [.arr [CT.int .i64] out, .arr [CT.bool] done]) k := by
  intro k
  induction k with
  | zero => funext list2 rest all next i out done; rfl
  | succ k ih => funext list2 rest all next i out done; rw [zs2, G2]; (try simp only [ih, zg0]); try rfl
noncomputable def G1 {R : Type} (k0 : Nat) (hx2 : ((List (Int × Int × Int × Unit)) → Int → Int → (List (Int × Unit)) → (List (Bool × Unit)) → Option R)) (hx3 : ((List (Int × Int × Int × Unit)) → Int → Int → (List (Int × Unit)) → (List (Bool × Unit)) → Option R)) : Nat → (List (Int × Int × Int × Unit)) → Int → Int → (List (Int × Unit)) → (List (Bool × Unit)) → Option R
  | 0, _, _, _, _, _ => none
  | k + 1, list2, rest, all, out, done => R1 (G2 k0 (A1 (G1 k0 hx2 hx3 k) hx2 hx3) k0) list2 rest all out done
theorem zg1 {R : Type} (k0 : Nat) (K : Kont R) : ∀ k : Nat, L1 k0 k K = G1 k0 (fun list2 rest all t4x done => K .ret [(1, .sl ct0 list2), (4, .own 0), (5, .own 0), (6, .own 1), (7, .int .i64 rest), (8, .int .i64 all)] [.arr [CT.int .i64] t4x, .arr [CT.bool] done]) (fun list2 rest all out done => K (.exit 2) [(1, .sl ct0 list2), (4, .undef), (5, .own 0), (6, .own 1), (7, .int .i64 rest), (8, .int .i64 all)] [.arr [CT.int .i64] out, .arr [CT.bool] done]) k := by
  intro k
  induction k with
  | zero => funext list2 rest all out done; rfl
  | succ k ih => funext list2 rest all out done; rw [zs1, G1]; (try simp only [ih, zg0, zg2, za1]); try rfl
noncomputable def G3 {R : Type} (k0 : Nat) (hx4 : ((List (Int × Int × Int × Unit)) → Int → (List (Int × Unit)) → (List (Bool × Unit)) → Option R)) : Nat → (List (Int × Int × Int × Unit)) → Int → Int → Int → Int → (List (Int × Unit)) → (List (Bool × Unit)) → Option R
  | 0, _, _, _, _, _, _, _ => none
  | k + 1, list2, rest, all, left, i, out, done => R3 (G3 k0 hx4 k) hx4 list2 rest all left i out done
theorem zg3 {R : Type} (k0 : Nat) (K : Kont R) : ∀ k : Nat, L3 k0 k K = G3 k0 (fun list2 left out done => K (.exit 6) [(1, .sl ct0 list2), (5, .own 0), (6, .own 1), (12, .int .i64 left)] [.arr [CT.int .i64] out, .arr [CT.bool] done]) k := by
  intro k
  induction k with
  | zero => funext list2 rest all left i out done; rfl
  | succ k ih => funext list2 rest all left i out done; rw [zs3, G3]; (try simp only [ih, zg0, zg2, zg1]); try rfl
noncomputable def G4 {R : Type} (k0 : Nat) (hx5 : ((List (Int × Unit)) → Option R)) : Nat → (List (Int × Int × Int × Unit)) → Int → Int → (List (Int × Unit)) → (List (Bool × Unit)) → Option R
  | 0, _, _, _, _, _ => none
  | k + 1, list2, left, i, out, done => R4 (G4 k0 hx5 k) hx5 list2 left i out done
theorem zg4 {R : Type} (k0 : Nat) (K : Kont R) : ∀ k : Nat, L4 k0 k K = G4 k0 (fun out => K (.exit 8) [(5, .own 0)] [.arr [CT.int .i64] out]) k := by
  intro k
  induction k with
  | zero => funext list2 left i out done; rfl
  | succ k ih => funext list2 left i out done; rw [zs4, G4]; (try simp only [ih, zg0, zg2, zg1, zg3]); try rfl
noncomputable def FF (k0 : Nat) (amount : Int) (list : List (Int × Int × Int × Unit)) : Option ((List (Int × Unit)) × Unit) := T (G0 k0 (A0 (G1 k0 (A2  amount list) (A3 (G3 k0 (A4 (G4 k0 (A5  amount list) k0) amount list) k0) amount list) k0) amount list) k0) amount list
theorem zrun (k0 : Nat) (amount : Int) (list : List (Int × Int × Int × Unit)) : runFn Tryz.prog ztbl zcfg k0 50 ins_spec_l05Fill outs_spec_l05Fill [] (amount, list, ()) = FF k0 amount list := by
  rw [ztop, FF]; (try simp only [zg0, zg2, zg1, zg3, zg4, za0, za2, za3, za4, za5]); try rfl
noncomputable def _root_.Go.Rv.F_spec_l05Fill : Int × (List (Int × Int × Int × Unit)) × Unit → Option ((List (Int × Unit)) × Unit) := fun x => (fun (amount : Int) (list : List (Int × Int × Int × Unit)) => FF (300 + list.length) amount list) x.1 x.2.1
theorem ztblOK : ∀ g fs S, ztbl g fs = some S → SumOK Dr Tryz.prog g S := by
  intro g fs S h
  unfold ztbl at h
  split at h
  · rename_i hc; obtain ⟨rfl, rfl⟩ := hc; have := Option.some.inj h; subst this; exact ok_spec_RatioCmp
  split at h
  · rename_i hc; obtain ⟨rfl, rfl⟩ := hc; have := Option.some.inj h; subst this; exact ok_spec_l02Times
  split at h
  · rename_i hc; obtain ⟨rfl, rfl⟩ := hc; have := Option.some.inj h; subst this; exact ok_spec_WideDiv
  split at h
  · rename_i hc; obtain ⟨rfl, rfl⟩ := hc; have := Option.some.inj h; subst this; exact ok_spec_WideMul
  cases h
theorem _root_.Go.Rv.ok_spec_l05Fill : SumOK Dr Tryz.prog 50 ⟨ins_spec_l05Fill, outs_spec_l05Fill, F_spec_l05Fill, []⟩ := runFn_ok (by kernel_rfl) ztblOK (by kernel_rfl) fun x y h => ⟨zcfg, _, (zrun _ x.1 x.2.1).trans h⟩
end spec_l05Fill
abbrev ins_spec_l05All : List Par := [.v true ct4]
abbrev outs_spec_l05All : List (Bool × List CT) := [(false, [CT.sl [CT.int .i64]]), (false, [CT.sl [CT.int .i64]])]
namespace spec_l05All
/-! ### loop.example/g00095/spec.l05All (function 31) -/
noncomputable def ztbl : Tbl := fun g fs => if g = 49 ∧ fs = [] then some ⟨ins_spec_l05Kids, outs_spec_l05Kids, F_spec_l05Kids, []⟩ else if g = 50 ∧ fs = [] then some ⟨ins_spec_l05Fill, outs_spec_l05Fill, F_spec_l05Fill, []⟩ else none
noncomputable def zbody : Code := ((Tryz.prog.funcs[31]?).bind (·.body)).getD .skip
def zcfg : Nat → List Nat × List Nat := fun k => if k = 4 then ([1, 4, 5, 6], [4, 5]) else if k = 14 then ([1, 4, 5, 6, 9, 11, 12], [1, 4, 5, 6]) else ([], [])
noncomputable def R0 {R : Type} (ex0 : ((List (Int × Unit)) → (List (Int × Unit)) → Option R)) (lo1 : (Int → Int → Int → (List (Int × Int × Int × Int × Unit)) → (List (Int × Int × Int × Int × Unit)) → (List (Int × Unit)) → (List (Int × Unit)) → (List (Int × Int × Unit)) → (List (Int × Unit)) → Option R)) (g f : Int) (f3 f4 : List (Int × Int × Int × Int × Unit)) (groups members : List (Int × Unit)) : Option R := cond (decide (g < (f3.length : Int))) (cond (decide (g ≥ 0)) (if 0 ≤ g ∧ g < (f3.length : Int) then if 0 ≤ g ∧ g < (groups.length : Int) then (F_spec_l05Kids (f, f3, f4, (rd (0, 0, 0, 0, ()) f3 g).1, ())).bind fun y1 => (F_spec_l05Fill ((groups.getD g.toNat (0, ())).1, y1.2.1, ())).bind fun y2 => lo1 g 0 f f3 f4 groups members y1.1 y2.1 else none else none) ((F_spec_l05Kids (f, f3, f4, 0, ())).bind fun y3 => (F_spec_l05Fill (f, y3.2.1, ())).bind fun y4 => lo1 g 0 f f3 f4 groups members y3.1 y4.1)) (ex0 groups members)
noncomputable def R1 {R : Type} (nx1 : (Int → Int → Int → (List (Int × Int × Int × Int × Unit)) → (List (Int × Int × Int × Int × Unit)) → (List (Int × Unit)) → (List (Int × Unit)) → (List (Int × Int × Unit)) → (List (Int × Unit)) → Option R)) (ex1 : (Int → Int → (List (Int × Int × Int × Int × Unit)) → (List (Int × Int × Int × Int × Unit)) → (List (Int × Unit)) → (List (Int × Unit)) → Option R)) (g i f : Int) (f3 f4 : List (Int × Int × Int × Int × Unit)) (groups members : List (Int × Unit)) (kids : List (Int × Int × Unit)) (parts : List (Int × Unit)) : Option R := cond (decide (i < (kids.length : Int))) (if 0 ≤ i ∧ i < (kids.length : Int) then cond (decide ((kids.getD i.toNat (0, 0, ())).1 ≥ 0)) (if 0 ≤ i ∧ i < (kids.length : Int) then if 0 ≤ i ∧ i < (parts.length : Int) then if 0 ≤ (kids.getD i.toNat (0, 0, ())).1 ∧ (kids.getD i.toNat (0, 0, ())).1 < (groups.length : Int) then nx1 g (w64 (i + 1)) f f3 f4 (groups.set (((kids.getD i.toNat (0, 0, ())).1).toNat) ((parts.getD i.toNat (0, ())).1, ())) members kids parts else none else none else none) (if 0 ≤ i ∧ i < (kids.length : Int) then if 0 ≤ i ∧ i < (parts.length : Int) then if 0 ≤ (kids.getD i.toNat (0, 0, ())).2.1 ∧ (kids.getD i.toNat (0, 0, ())).2.1 < (members.length : Int) then nx1 g (w64 (i + 1)) f f3 f4 groups (members.set (((kids.getD i.toNat (0, 0, ())).2.1).toNat) ((parts.getD i.toNat (0, ())).1, ())) kids parts else none else none else none) else none) (ex1 g f f3 f4 groups members)
noncomputable def A0  (f0 : Int) (f1 f2 : List (Int × Int × Int × Int × Unit)) (groups members : List (Int × Unit)) : Option ((List (Int × Unit)) × (List (Int × Unit)) × Unit) := some (groups, members, ())
noncomputable def A1 {R : Type} (nx0 : (Int → Int → (List (Int × Int × Int × Int × Unit)) → (List (Int × Int × Int × Int × Unit)) → (List (Int × Unit)) → (List (Int × Unit)) → Option R)) (g f : Int) (f3 f4 : List (Int × Int × Int × Int × Unit)) (groups members : List (Int × Unit)) : Option R := nx0 (w64 (g + 1)) f f3 f4 groups members
noncomputable def T (lo0 : (Int → Int → (List (Int × Int × Int × Int × Unit)) → (List (Int × Int × Int × Int × Unit)) → (List (Int × Unit)) → (List (Int × Unit)) → Option ((List (Int × Unit)) × (List (Int × Unit)) × Unit))) (f0 : Int) (f1 f2 : List (Int × Int × Int × Int × Unit)) : Option ((List (Int × Unit)) × (List (Int × Unit)) × Unit) := if 0 ≤ (f1.length : Int) ∧ (8 : Int) * (f1.length : Int) ≤ 281474976710656 ∧ (f1.length : Int) ≤ 9223372036854775807 then if 0 ≤ (f2.length : Int) ∧ (8 : Int) * (f2.length : Int) ≤ 281474976710656 ∧ (f2.length : Int) ≤ 9223372036854775807 then lo0 (-1) f0 f1 f2 (List.replicate (((f1.length : Int) : Int)).toNat (0, ())) (List.replicate (((f2.length : Int) : Int)).toNat (0, ())) else none else none
noncomputable def zst0 {R : Type} (k0 : Nat) : Env → List Ob → Kont R → Option R := fun env ob K => runCode Tryz.prog ztbl 87 0 zcfg k0 (codeAt [1, 1, 1, 0, 1, 0, 0] zbody) env ob K
noncomputable def K0 {R : Type} (k0 : Nat) (K : Kont R) : Kont R := blockK 0 (seqK (fun env ob => runCode Tryz.prog ztbl 87 0 zcfg k0 (codeAt [1, 1, 1, 1] zbody) env ob (K)) (K))
noncomputable def zst1 {R : Type} (k0 : Nat) : Env → List Ob → Kont R → Option R := fun env ob K => runCode Tryz.prog ztbl 87 0 zcfg k0 (codeAt [1, 1, 1, 0, 1, 0, 0, 1, 0, 0, 1, 1, 1, 1, 1, 1, 0, 0] zbody) env ob K
noncomputable def K1 {R : Type} (k0 : Nat) (K : Kont R) : Kont R := blockK 2 (blockK 1 (seqK (fun env ob => runCode Tryz.prog ztbl 87 0 zcfg k0 (codeAt [1, 1, 1, 0, 1, 0, 0, 1, 1] zbody) env ob (K)) (K)))
noncomputable def L0 {R : Type} (k0 k : Nat) (K : Kont R) (g f : Int) (f3 f4 : List (Int × Int × Int × Int × Unit)) (groups members : List (Int × Unit)) : Option R := iter 0 [1, 4, 5, 6] [4, 5] (zst0 k0) k [(1, .ptr 0 0 0 0), (4, .own 1), (5, .own 2), (6, .int .i64 g)] [.box [.int .i64 f, .sl ct2 f3, .sl ct2 f4], .arr [CT.int .i64] groups, .arr [CT.int .i64] members] K
noncomputable def L1 {R : Type} (k0 k : Nat) (K : Kont R) (g i f : Int) (f3 f4 : List (Int × Int × Int × Int × Unit)) (groups members : List (Int × Unit)) (kids : List (Int × Int × Unit)) (parts : List (Int × Unit)) : Option R := iter 0 [1, 4, 5, 6, 9, 11, 12] [1, 4, 5, 6] (zst1 k0) k [(1, .ptr 0 0 0 0), (4, .own 1), (5, .own 2), (6, .int .i64 g), (9, .own 3), (11, .own 4), (12, .int .i64 i)] [.box [.int .i64 f, .sl ct2 f3, .sl ct2 f4], .arr [CT.int .i64] groups, .arr [CT.int .i64] members, .arr ct6 kids, .arr [CT.int .i64] parts] K
theorem zs0 {R : Type} (k0 k : Nat) (K : Kont R) (g f : Int) (f3 f4 : List (Int × Int × Int × Int × Unit)) (groups members : List (Int × Unit)) : L0 k0 (k + 1) K g f f3 f4 groups members = R0 (fun groups members => K (.exit 0) [(4, .own 0), (5, .own 1)] [.arr [CT.int .i64] groups, .arr [CT.int .i64] members]) (L1 k0 k0 (K1 k0 (loopK 0 [1, 4, 5, 6] [4, 5] (fun env ob => iter 0 [1, 4, 5, 6] [4, 5] (zst0 k0) k env ob K) K))) g f f3 f4 groups members := by kernel_rfl
theorem zs1 {R : Type} (k0 k : Nat) (K : Kont R) (g i f : Int) (f3 f4 : List (Int × Int × Int × Int × Unit)) (groups members : List (Int × Unit)) (kids : List (Int × Int × Unit)) (parts : List (Int × Unit)) : L1 k0 (k + 1) K g i f f3 f4 groups members kids parts = R1 (L1 k0 k K) (fun g f f3 f4 groups members => K (.exit 2) [(1, .ptr 0 0 0 0), (4, .own 1), (5, .own 2), (6, .int .i64 g)] [.box [.int .i64 f, .sl ct2 f3, .sl ct2 f4], .arr [CT.int .i64] groups, .arr [CT.int .i64] members]) g i f f3 f4 groups members kids parts := by kernel_rfl
theorem za0 (k0 : Nat) (f0 : Int) (f1 f2 : List (Int × Int × Int × Int × Unit)) (groups members : List (Int × Unit)) : K0 (R := ((List (Int × Unit)) × (List (Int × Unit)) × Unit)) k0 (finK Tryz.prog [.tmp 2, .tmp 3] ins_spec_l05All outs_spec_l05All (f0, f1, f2, ())) (.exit 0) [(4, .own 0), (5, .own 1)] [.arr [CT.int .i64] groups, .arr [CT.int .i64] members] = A0  f0 f1 f2 groups members := by kernel_rfl
theorem za1 {R : Type} (k0 k : Nat) (K : Kont R) (g f : Int) (f3 f4 : List (Int × Int × Int × Int × Unit)) (groups members : List (Int × Unit)) : K1 k0 (loopK 0 [1, 4, 5, 6] [4, 5] (fun env ob => iter 0 [1, 4, 5, 6] [4, 5] (zst0 k0) k env ob K) K) (.exit 2) [(1, .ptr 0 0 0 0), (4, .own 1), (5, .own 2), (6, .int .i64 g)] [.box [.int .i64 f, .sl ct2 f3, .sl ct2 f4], .arr [CT.int .i64] groups, .arr [CT.int .i64] members] = A1 (L0 k0 k K) g f f3 f4 groups members := by kernel_rfl
theorem ztop (k0 : Nat) (f0 : Int) (f1 f2 : List (Int × Int × Int × Int × Unit)) : runFn Tryz.prog ztbl zcfg k0 31 ins_spec_l05All outs_spec_l05All [] (f0, f1, f2, ()) = T (L0 (R := ((List (Int × Unit)) × (List (Int × Unit)) × Unit)) k0 k0 (K0 (R := ((List (Int × Unit)) × (List (Int × Unit)) × Unit)) k0 ((finK Tryz.prog [.tmp 2, .tmp 3] ins_spec_l05All outs_spec_l05All (f0, f1, f2, ()))))) f0 f1 f2 := by kernel_rfl
noncomputable def G1 {R : Type} (k0 : Nat) (hx1 : (Int → Int → (List (Int × Int × Int × Int × Unit)) → (List (Int × Int × Int × Int × Unit)) → (List (Int × Unit)) → (List (Int × Unit)) → Option R)) : Nat → Int → Int → Int → (List (Int × Int × Int × Int × Unit)) → (List (Int × Int × Int × Int × Unit)) → (List (Int × Unit)) → (List (Int × Unit)) → (List (Int × Int × Unit)) → (List (Int × Unit)) → Option R
  | 0, _, _, _, _, _, _, _, _, _ => none
  | k + 1, g, i, f, f3, f4, groups, members, kids, parts => R1 (G1 k0 hx1 k) hx1 g i f f3 f4 groups members kids parts
theorem zg1 {R : Type} (k0 : Nat) (K : Kont R) : ∀ k : Nat, L1 k0 k K = G1 k0 (fun g f f3 f4 groups members => K (.exit 2) [(1, .ptr 0 0 0 0), (4, .own 1), (5, .own 2), (6, .int .i64 g)] [.box [.int .i64 f, .sl ct2 f3, .sl ct2 f4], .arr [CT.int .i64] groups, .arr [CT.int .i64] members]) k := by
  intro k
  induction k with
  | zero => funext g i f f3 f4 groups members kids parts; rfl
  | succ k ih => funext g i f f3 f4 groups members kids parts; rw [zs1, G1]; (try simp only [ih]); try rfl
noncomputable def G0 {R : Type} (k0 : Nat) (hx0 : ((List (Int × Unit)) → (List (Int × Unit)) → Option R)) : Nat → Int → Int → (List (Int × Int × Int × Int × Unit)) → (List (Int × Int × Int × Int × Unit)) → (List (Int × Unit)) → (List (Int × Unit)) → Option R
  | 0, _, _, _, _, _, _ => none
  | k + 1, g, f, f3, f4, groups, members => R0 hx0 (G1 k0 (A1 (G0 k0 hx0 k)) k0) g f f3 f4 groups members
theorem zg0 {R : Type} (k0 : Nat) (K : Kont R) : ∀ k : Nat, L0 k0 k K = G0 k0 (fun groups members => K (.exit 0) [(4, .own 0), (5, .own 1)] [.arr [CT.int .i64] groups, .arr [CT.int .i64] members]) k := by
  intro k
  induction k with
  | zero => funext g f f3 f4 groups members; rfl
  | succ k ih => funext g f f3 f4 groups members; rw [zs0, G0]; (try simp only [ih, zg1, za1]); try rfl
noncomputable def FF (k0 : Nat) (f0 : Int) (f1 f2 : List (Int × Int × Int × Int × Unit)) : Option ((List (Int × Unit)) × (List (Int × Unit)) × Unit) := T (G0 k0 (A0  f0 f1 f2) k0) f0 f1 f2
theorem zrun (k0 : Nat) (f0 : Int) (f1 f2 : List (Int × Int × Int × Int × Unit)) : runFn Tryz.prog ztbl zcfg k0 31 ins_spec_l05All outs_spec_l05All [] (f0, f1, f2, ()) = FF k0 f0 f1 f2 := by
  rw [ztop, FF]; (try simp only [zg1, zg0, za0]); try rfl
noncomputable def _root_.Go.Rv.F_spec_l05All : Int × (List (Int × Int × Int × Int × Unit)) × (List (Int × Int × Int × Int × Unit)) × Unit → Option ((List (Int × Unit)) × (List (Int × Unit)) × Unit) := fun x => (fun (f0 : Int) (f1 f2 : List (Int × Int × Int × Int × Unit)) => FF (300 + f1.length + f2.length) f0 f1 f2) x.1 x.2.1 x.2.2.1
theorem ztblOK : ∀ g fs S, ztbl g fs = some S → SumOK Dr Tryz.prog g S := by
  intro g fs S h
  unfold ztbl at h
  split at h
  · rename_i hc; obtain ⟨rfl, rfl⟩ := hc; have := Option.some.inj h; subst this; exact ok_spec_l05Kids
  split at h
  · rename_i hc; obtain ⟨rfl, rfl⟩ := hc; have := Option.some.inj h; subst this; exact ok_spec_l05Fill
  cases h
theorem _root_.Go.Rv.ok_spec_l05All : SumOK Dr Tryz.prog 31 ⟨ins_spec_l05All, outs_spec_l05All, F_spec_l05All, []⟩ := runFn_ok (by kernel_rfl) ztblOK (by kernel_rfl) fun x y h => ⟨zcfg, _, (zrun _ x.1 x.2.1 x.2.2.1).trans h⟩
end spec_l05All
abbrev ins_spec_FarmShares : List Par := [.v true ct4]
abbrev outs_spec_FarmShares : List (Bool × List CT) := [(false, [CT.sl ct6])]
namespace spec_FarmShares
/-! ### loop.example/g00095/spec.FarmShares (function 16) -/
noncomputable def ztbl : Tbl := fun g fs => if g = 29 ∧ fs = [] then some ⟨ins_spec_FarmRight, outs_spec_FarmRight, F_spec_FarmRight, []⟩ else if g = 31 ∧ fs = [] then some ⟨ins_spec_l05All, outs_spec_l05All, F_spec_l05All, []⟩ else none
noncomputable def zbody : Code := ((Tryz.prog.funcs[16]?).bind (·.body)).getD .skip
def zcfg : Nat → List Nat × List Nat := fun k => if k = 6 then ([1, 3, 5, 6], [3]) else ([], [])
noncomputable def R0 {R : Type} (nx0 : (Int → Int → (List (Int × Int × Int × Int × Unit)) → (List (Int × Int × Int × Int × Unit)) → (List (Int × Int × Unit)) → (List (Int × Unit)) → Option R)) (ex0 : ((List (Int × Int × Unit)) → Option R)) (i f : Int) (f3 f4 : List (Int × Int × Int × Int × Unit)) (out : List (Int × Int × Unit)) (members : List (Int × Unit)) : Option R := cond (decide (i < (f4.length : Int))) (if 0 ≤ i ∧ i < (f4.length : Int) then if 0 ≤ i ∧ i < (members.length : Int) then if out.length + [((rd (0, 0, 0, 0, ()) f4 i).1, (members.getD i.toNat (0, ())).1, ())].length ≤ maxRow then nx0 (w64 (i + 1)) f f3 f4 (out ++ [((rd (0, 0, 0, 0, ()) f4 i).1, (members.getD i.toNat (0, ())).1, ())]) members else none else none else none) (ex0 out)
noncomputable def A0  (f0 : Int) (f1 f2 : List (Int × Int × Int × Int × Unit)) (out : List (Int × Int × Unit)) : Option ((List (Int × Int × Unit)) × Unit) := some (out, ())
noncomputable def T (lo0 : (Int → Int → (List (Int × Int × Int × Int × Unit)) → (List (Int × Int × Int × Int × Unit)) → (List (Int × Int × Unit)) → (List (Int × Unit)) → Option ((List (Int × Int × Unit)) × Unit))) (f0 : Int) (f1 f2 : List (Int × Int × Int × Int × Unit)) : Option ((List (Int × Int × Unit)) × Unit) := (F_spec_FarmRight (f0, f1, f2, ())).bind fun y1 => cond (!y1.1) (some (([] : List (Int × Int × Unit)), ())) ((F_spec_l05All (f0, f1, f2, ())).bind fun y2 => lo0 0 f0 f1 f2 ([] : List (Int × Int × Unit)) y2.2.1)
noncomputable def zst0 {R : Type} (k0 : Nat) : Env → List Ob → Kont R → Option R := fun env ob K => runCode Tryz.prog ztbl 39 0 zcfg k0 (codeAt [1, 1, 1, 1, 0, 1, 0, 0] zbody) env ob K
noncomputable def K0 {R : Type} (k0 : Nat) (K : Kont R) : Kont R := blockK 0 (seqK (fun env ob => runCode Tryz.prog ztbl 39 0 zcfg k0 (codeAt [1, 1, 1, 1, 1] zbody) env ob (K)) (K))
noncomputable def L0 {R : Type} (k0 k : Nat) (K : Kont R) (i f : Int) (f3 f4 : List (Int × Int × Int × Int × Unit)) (out : List (Int × Int × Unit)) (members : List (Int × Unit)) : Option R := iter 0 [1, 3, 5, 6] [3] (zst0 k0) k [(1, .ptr 0 0 0 0), (3, .own 1), (5, .own 2), (6, .int .i64 i)] [.box [.int .i64 f, .sl ct2 f3, .sl ct2 f4], .arr ct6 out, .arr [CT.int .i64] members] K
theorem zs0 {R : Type} (k0 k : Nat) (K : Kont R) (i f : Int) (f3 f4 : List (Int × Int × Int × Int × Unit)) (out : List (Int × Int × Unit)) (members : List (Int × Unit)) : L0 k0 (k + 1) K i f f3 f4 out members = R0 (L0 k0 k K) (fun out => K (.exit 0) [(3, .own 0)] [.arr ct6 out]) i f f3 f4 out members := by kernel_rfl
theorem za0 (k0 : Nat) (f0 : Int) (f1 f2 : List (Int × Int × Int × Int × Unit)) (out : List (Int × Int × Unit)) : K0 (R := ((List (Int × Int × Unit)) × Unit)) k0 (finK Tryz.prog [.tmp 2] ins_spec_FarmShares outs_spec_FarmShares (f0, f1, f2, ())) (.exit 0) [(3, .own 0)] [.arr ct6 out] = A0  f0 f1 f2 out := by kernel_rfl
theorem ztop (k0 : Nat) (f0 : Int) (f1 f2 : List (Int × Int × Int × Int × Unit)) : runFn Tryz.prog ztbl zcfg k0 16 ins_spec_FarmShares outs_spec_FarmShares [] (f0, f1, f2, ()) = T (L0 (R := ((List (Int × Int × Unit)) × Unit)) k0 k0 (K0 (R := ((List (Int × Int × Unit)) × Unit)) k0 ((finK Tryz.prog [.tmp 2] ins_spec_FarmShares outs_spec_FarmShares (f0, f1, f2, ()))))) f0 f1 f2 := by kernel_rfl
noncomputable def G0 {R : Type} (k0 : Nat) (hx0 : ((List (Int × Int × Unit)) → Option R)) : Nat → Int → Int → (List (Int × Int × Int × Int × Unit)) → (List (Int × Int × Int × Int × Unit)) → (List (Int × Int × Unit)) → (List (Int × Unit)) → Option R
  | 0, _, _, _, _, _, _ => none
  | k + 1, i, f, f3, f4, out, members => R0 (G0 k0 hx0 k) hx0 i f f3 f4 out members
theorem zg0 {R : Type} (k0 : Nat) (K : Kont R) : ∀ k : Nat, L0 k0 k K = G0 k0 (fun out => K (.exit 0) [(3, .own 0)] [.arr ct6 out]) k := by
  intro k
  induction k with
  | zero => funext i f f3 f4 out members; rfl
  | succ k ih => funext i f f3 f4 out members; rw [zs0, G0]; (try simp only [ih]); try rfl
noncomputable def FF (k0 : Nat) (f0 : Int) (f1 f2 : List (Int × Int × Int × Int × Unit)) : Option ((List (Int × Int × Unit)) × Unit) := T (G0 k0 (A0  f0 f1 f2) k0) f0 f1 f2
theorem zrun (k0 : Nat) (f0 : Int) (f1 f2 : List (Int × Int × Int × Int × Unit)) : runFn Tryz.prog ztbl zcfg k0 16 ins_spec_FarmShares outs_spec_FarmShares [] (f0, f1, f2, ()) = FF k0 f0 f1 f2 := by
  rw [ztop, FF]; (try simp only [zg0, za0]); try rfl
noncomputable def _root_.Go.Rv.F_spec_FarmShares : Int × (List (Int × Int × Int × Int × Unit)) × (List (Int × Int × Int × Int × Unit)) × Unit → Option ((List (Int × Int × Unit)) × Unit) := fun x => (fun (f0 : Int) (f1 f2 : List (Int × Int × Int × Int × Unit)) => FF (300 + f1.length + f2.length) f0 f1 f2) x.1 x.2.1 x.2.2.1
theorem ztblOK : ∀ g fs S, ztbl g fs = some S → SumOK Dr Tryz.prog g S := by
  intro g fs S h
  unfold ztbl at h
  split at h
  · rename_i hc; obtain ⟨rfl, rfl⟩ := hc; have := Option.some.inj h; subst this; exact ok_spec_FarmRight
  split at h
  · rename_i hc; obtain ⟨rfl, rfl⟩ := hc; have := Option.some.inj h; subst this; exact ok_spec_l05All
  cases h
theorem _root_.Go.Rv.ok_spec_FarmShares : SumOK Dr Tryz.prog 16 ⟨ins_spec_FarmShares, outs_spec_FarmShares, F_spec_FarmShares, []⟩ := runFn_ok (by kernel_rfl) ztblOK (by kernel_rfl) fun x y h => ⟨zcfg, _, (zrun _ x.1 x.2.1 x.2.2.1).trans h⟩
end spec_FarmShares
end Go.Rv
