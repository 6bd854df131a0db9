/- What functions come to on pure values (printed by a program of ours). -/
import Derived.Test.YtipgjgcpfppeeaaGreatM07
set_option linter.unusedVariables false
set_option linter.unusedSimpArgs false
set_option linter.unusedSectionVars false
set_option maxRecDepth 100000
namespace Go.Rv
open Go.Proofs
variable {Dr : Kn}
abbrev ins_laws_markFarm : List Par := [.w true ct4, .v false [CT.int .i64]]
abbrev outs_laws_markFarm : List (Bool × List CT) := [(false, [CT.int .i64])]
namespace laws_markFarm
/-! ### loop.example/g00095/laws.markFarm (function 24) -/
noncomputable def ztbl : Tbl := fun g fs => if g = 42 ∧ fs = [] then some ⟨ins_laws_markGroupS, outs_laws_markGroupS, F_laws_markGroupS, []⟩ else if g = 43 ∧ fs = [] then some ⟨ins_laws_markMemberS, outs_laws_markMemberS, F_laws_markMemberS, []⟩ else none
noncomputable def zbody : Code := ((Tryz.prog.funcs[24]?).bind (·.body)).getD .skip
def zcfg : Nat → List Nat × List Nat := fun k => ([], [])
noncomputable def T  (a0 : Int) (a1 a2 : List (Int × Int × Int × Int × Unit)) (ak : Int) : Option (Int × Int × (List (Int × Int × Int × Int × Unit)) × (List (Int × Int × Int × Int × Unit)) × Unit) := (F_laws_markGroupS (a1, ak, ())).bind fun y1 => (F_laws_markMemberS (a2, y1.1, ())).bind fun y2 => some (y2.1, a0, y1.2.1, y2.2.1, ())
theorem ztop (k0 : Nat) (a0 : Int) (a1 a2 : List (Int × Int × Int × Int × Unit)) (ak : Int) : runFn Tryz.prog ztbl zcfg k0 24 ins_laws_markFarm outs_laws_markFarm [] (a0, a1, a2, ak, ()) = T  a0 a1 a2 ak := by kernel_rfl
noncomputable def _root_.Go.Rv.F_laws_markFarm : Int × (List (Int × Int × Int × Int × Unit)) × (List (Int × Int × Int × Int × Unit)) × Int × Unit → Option (Int × Int × (List (Int × Int × Int × Int × Unit)) × (List (Int × Int × Int × Int × Unit)) × Unit) := fun x => T x.1 x.2.1 x.2.2.1 x.2.2.2.1
theorem ztblOK : ∀ g fs S, ztbl g fs = some S → SumOK Dr Tryz.prog g S := by
  intro g fs S h
  unfold ztbl at h
  split at h
  · rename_i hc; obtain ⟨rfl, rfl⟩ := hc; have := Option.some.inj h; subst this; exact ok_laws_markGroupS
  split at h
  · rename_i hc; obtain ⟨rfl, rfl⟩ := hc; have := Option.some.inj h; subst this; exact ok_laws_markMemberS
  cases h
theorem _root_.Go.Rv.ok_laws_markFarm : SumOK Dr Tryz.prog 24 ⟨ins_laws_markFarm, outs_laws_markFarm, F_laws_markFarm, []⟩ := runFn_ok (by kernel_rfl) ztblOK (by kernel_rfl) fun x y h => ⟨zcfg, 0, (ztop 0 x.1 x.2.1 x.2.2.1 x.2.2.2.1).trans h⟩
end laws_markFarm
abbrev ins_laws_markLeaseS : List Par := [.w false [CT.sl ct0], .v false [CT.int .i64]]
abbrev outs_laws_markLeaseS : List (Bool × List CT) := [(false, [CT.int .i64])]
namespace laws_markLeaseS
/-! ### loop.example/g00095/laws.markLeaseS (function 25) -/
noncomputable def ztbl : Tbl := fun g fs => none
noncomputable def zbody : Code := ((Tryz.prog.funcs[25]?).bind (·.body)).getD .skip
def zcfg : Nat → List Nat × List Nat := fun k => if k = 2 then ([0, 1, 5], [1]) else ([], [])
noncomputable def R0 {R : Type} (nx0 : (Int → Int → (List (Int × Int × Int × Unit)) → Option R)) (ex0 : (Int → (List (Int × Int × Int × Unit)) → Option R)) (kx i : Int) (a2 : List (Int × Int × Int × Unit)) : Option R := cond (decide (i < (a2.length : Int))) (if 0 ≤ i ∧ i < (a2.length : Int) then if 0 ≤ i ∧ i < ((a2.set i.toNat (kx, (a2.getD i.toNat (0, 0, 0, ())).2.1, (a2.getD i.toNat (0, 0, 0, ())).2.2.1, ())).length : Int) then if 0 ≤ i ∧ i < (((a2.set i.toNat (kx, (a2.getD i.toNat (0, 0, 0, ())).2.1, (a2.getD i.toNat (0, 0, 0, ())).2.2.1, ())).set i.toNat (((a2.set i.toNat (kx, (a2.getD i.toNat (0, 0, 0, ())).2.1, (a2.getD i.toNat (0, 0, 0, ())).2.2.1, ())).getD i.toNat (0, 0, 0, ())).1, (w64 (kx + 1)), ((a2.set i.toNat (kx, (a2.getD i.toNat (0, 0, 0, ())).2.1, (a2.getD i.toNat (0, 0, 0, ())).2.2.1, ())).getD i.toNat (0, 0, 0, ())).2.2.1, ())).length : Int) then nx0 (w64 ((w64 ((w64 (kx + 1)) + 1)) + 1)) (w64 (i + 1)) (((a2.set i.toNat (kx, (a2.getD i.toNat (0, 0, 0, ())).2.1, (a2.getD i.toNat (0, 0, 0, ())).2.2.1, ())).set i.toNat (((a2.set i.toNat (kx, (a2.getD i.toNat (0, 0, 0, ())).2.1, (a2.getD i.toNat (0, 0, 0, ())).2.2.1, ())).getD i.toNat (0, 0, 0, ())).1, (w64 (kx + 1)), ((a2.set i.toNat (kx, (a2.getD i.toNat (0, 0, 0, ())).2.1, (a2.getD i.toNat (0, 0, 0, ())).2.2.1, ())).getD i.toNat (0, 0, 0, ())).2.2.1, ())).set i.toNat ((((a2.set i.toNat (kx, (a2.getD i.toNat (0, 0, 0, ())).2.1, (a2.getD i.toNat (0, 0, 0, ())).2.2.1, ())).set i.toNat (((a2.set i.toNat (kx, (a2.getD i.toNat (0, 0, 0, ())).2.1, (a2.getD i.toNat (0, 0, 0, ())).2.2.1, ())).getD i.toNat (0, 0, 0, ())).1, (w64 (kx + 1)), ((a2.set i.toNat (kx, (a2.getD i.toNat (0, 0, 0, ())).2.1, (a2.getD i.toNat (0, 0, 0, ())).2.2.1, ())).getD i.toNat (0, 0, 0, ())).2.2.1, ())).getD i.toNat (0, 0, 0, ())).1, (((a2.set i.toNat (kx, (a2.getD i.toNat (0, 0, 0, ())).2.1, (a2.getD i.toNat (0, 0, 0, ())).2.2.1, ())).set i.toNat (((a2.set i.toNat (kx, (a2.getD i.toNat (0, 0, 0, ())).2.1, (a2.getD i.toNat (0, 0, 0, ())).2.2.1, ())).getD i.toNat (0, 0, 0, ())).1, (w64 (kx + 1)), ((a2.set i.toNat (kx, (a2.getD i.toNat (0, 0, 0, ())).2.1, (a2.getD i.toNat (0, 0, 0, ())).2.2.1, ())).getD i.toNat (0, 0, 0, ())).2.2.1, ())).getD i.toNat (0, 0, 0, ())).2.1, (w64 ((w64 (kx + 1)) + 1)), ())) else none else none else none) (ex0 kx a2)
noncomputable def A0  (a : List (Int × Int × Int × Unit)) (ak : Int) (kx : Int) (o0 : List (Int × Int × Int × Unit)) : Option (Int × (List (Int × Int × Int × Unit)) × Unit) := some (kx, o0, ())
noncomputable def T (lo0 : (Int → Int → (List (Int × Int × Int × Unit)) → Option (Int × (List (Int × Int × Int × Unit)) × Unit))) (a : List (Int × Int × Int × Unit)) (ak : Int) : Option (Int × (List (Int × Int × Int × Unit)) × Unit) := lo0 ak 0 a
noncomputable def zst0 {R : Type} (k0 : Nat) : Env → List Ob → Kont R → Option R := fun env ob K => runCode Tryz.prog ztbl 34 1 zcfg k0 (codeAt [1, 0, 1, 0, 0] zbody) env ob K
noncomputable def K0 {R : Type} (k0 : Nat) (K : Kont R) : Kont R := blockK 0 (seqK (fun env ob => runCode Tryz.prog ztbl 34 1 zcfg k0 (codeAt [1, 1] zbody) env ob (K)) (K))
noncomputable def L0 {R : Type} (k0 k : Nat) (K : Kont R) (kx i : Int) (a2 : List (Int × Int × Int × Unit)) : Option R := iter 1 [0, 1, 5] [1] (zst0 k0) k [(0, .own 0), (1, .int .i64 kx), (5, .int .i64 i)] [.arr ct0 a2] K
theorem zs0 {R : Type} (k0 k : Nat) (K : Kont R) (kx i : Int) (a2 : List (Int × Int × Int × Unit)) : L0 k0 (k + 1) K kx i a2 = R0 (L0 k0 k K) (fun kx o0 => K (.exit 0) [(1, .int .i64 kx)] [.arr ct0 o0]) kx i a2 := by kernel_rfl
theorem za0 (k0 : Nat) (a : List (Int × Int × Int × Unit)) (ak : Int) (kx : Int) (o0 : List (Int × Int × Int × Unit)) : K0 (R := (Int × (List (Int × Int × Int × Unit)) × Unit)) k0 (finK Tryz.prog [.tmp 4] ins_laws_markLeaseS outs_laws_markLeaseS (a, ak, ())) (.exit 0) [(1, .int .i64 kx)] [.arr ct0 o0] = A0  a ak kx o0 := by kernel_rfl
theorem ztop (k0 : Nat) (a : List (Int × Int × Int × Unit)) (ak : Int) : runFn Tryz.prog ztbl zcfg k0 25 ins_laws_markLeaseS outs_laws_markLeaseS [] (a, ak, ()) = T (L0 (R := (Int × (List (Int × Int × Int × Unit)) × Unit)) k0 k0 (K0 (R := (Int × (List (Int × Int × Int × Unit)) × Unit)) k0 ((finK Tryz.prog [.tmp 4] ins_laws_markLeaseS outs_laws_markLeaseS (a, ak, ()))))) a ak := by kernel_rfl
noncomputable def G0 {R : Type} (k0 : Nat) (hx0 : (Int → (List (Int × Int × Int × Unit)) → Option R)) : Nat → Int → Int → (List (Int × Int × Int × Unit)) → Option R
  | 0, _, _, _ => none
  | k + 1, kx, i, a2 => R0 (G0 k0 hx0 k) hx0 kx i a2
theorem zg0 {R : Type} (k0 : Nat) (K : Kont R) : ∀ k : Nat, L0 k0 k K = G0 k0 (fun kx o0 => K (.exit 0) [(1, .int .i64 kx)] [.arr ct0 o0]) k := by
  intro k
  induction k with
  | zero => funext kx i a2; rfl
  | succ k ih => funext kx i a2; rw [zs0, G0]; (try simp only [ih]); try rfl
noncomputable def FF (k0 : Nat) (a : List (Int × Int × Int × Unit)) (ak : Int) : Option (Int × (List (Int × Int × Int × Unit)) × Unit) := T (G0 k0 (A0  a ak) k0) a ak
theorem zrun (k0 : Nat) (a : List (Int × Int × Int × Unit)) (ak : Int) : runFn Tryz.prog ztbl zcfg k0 25 ins_laws_markLeaseS outs_laws_markLeaseS [] (a, ak, ()) = FF k0 a ak := by
  rw [ztop, FF]; (try simp only [zg0, za0]); try rfl
noncomputable def _root_.Go.Rv.F_laws_markLeaseS : (List (Int × Int × Int × Unit)) × Int × Unit → Option (Int × (List (Int × Int × Int × Unit)) × Unit) := fun x => (fun (a : List (Int × Int × Int × Unit)) (ak : Int) => FF (300 + a.length) a ak) x.1 x.2.1
theorem ztblOK : ∀ g fs S, ztbl g fs = some S → SumOK Dr Tryz.prog g S := by
  intro g fs S h
  unfold ztbl at h
  cases h
theorem _root_.Go.Rv.ok_laws_markLeaseS : SumOK Dr Tryz.prog 25 ⟨ins_laws_markLeaseS, outs_laws_markLeaseS, F_laws_markLeaseS, []⟩ := runFn_ok (by kernel_rfl) ztblOK (by kernel_rfl) fun x y h => ⟨zcfg, _, (zrun _ x.1 x.2.1).trans h⟩
end laws_markLeaseS
abbrev ins_laws_markServer : List Par := [.w true ct3, .v false [CT.int .i64]]
abbrev outs_laws_markServer : List (Bool × List CT) := [(false, [CT.int .i64])]
namespace laws_markServer
/-! ### loop.example/g00095/laws.markServer (function 10) -/
noncomputable def ztbl : Tbl := fun g fs => if g = 24 ∧ fs = [] then some ⟨ins_laws_markFarm, outs_laws_markFarm, F_laws_markFarm, []⟩ else if g = 25 ∧ fs = [] then some ⟨ins_laws_markLeaseS, outs_laws_markLeaseS, F_laws_markLeaseS, []⟩ else none
noncomputable def zbody : Code := ((Tryz.prog.funcs[10]?).bind (·.body)).getD .skip
def zcfg : Nat → List Nat × List Nat := fun k => ([], [])
noncomputable def T  (a0 a1 a2 a3 : Int) (a4 a5 : List (Int × Int × Int × Int × Unit)) (a6 : List (Int × Int × Int × Unit)) (ak : Int) : Option (Int × Int × Int × Int × Int × (List (Int × Int × Int × Int × Unit)) × (List (Int × Int × Int × Int × Unit)) × (List (Int × Int × Int × Unit)) × Unit) := (F_laws_markFarm (a3, a4, a5, ak, ())).bind fun y1 => (F_laws_markLeaseS (a6, y1.1, ())).bind fun y2 => some (y2.1, a0, a1, a2, a3, y1.2.2.1, y1.2.2.2.1, y2.2.1, ())
theorem ztop (k0 : Nat) (a0 a1 a2 a3 : Int) (a4 a5 : List (Int × Int × Int × Int × Unit)) (a6 : List (Int × Int × Int × Unit)) (ak : Int) : runFn Tryz.prog ztbl zcfg k0 10 ins_laws_markServer outs_laws_markServer [] (a0, a1, a2, a3, a4, a5, a6, ak, ()) = T  a0 a1 a2 a3 a4 a5 a6 ak := by kernel_rfl
noncomputable def _root_.Go.Rv.F_laws_markServer : Int × Int × Int × Int × (List (Int × Int × Int × Int × Unit)) × (List (Int × Int × Int × Int × Unit)) × (List (Int × Int × Int × Unit)) × Int × Unit → Option (Int × Int × Int × Int × Int × (List (Int × Int × Int × Int × Unit)) × (List (Int × Int × Int × Int × Unit)) × (List (Int × Int × Int × Unit)) × Unit) := fun x => T x.1 x.2.1 x.2.2.1 x.2.2.2.1 x.2.2.2.2.1 x.2.2.2.2.2.1 x.2.2.2.2.2.2.1 x.2.2.2.2.2.2.2.1
theorem ztblOK : ∀ g fs S, ztbl g fs = some S → SumOK Dr Tryz.prog g S := by
  intro g fs S h
  unfold ztbl at h
  split at h
  · rename_i hc; obtain ⟨rfl, rfl⟩ := hc; have := Option.some.inj h; subst this; exact ok_laws_markFarm
  split at h
  · rename_i hc; obtain ⟨rfl, rfl⟩ := hc; have := Option.some.inj h; subst this; exact ok_laws_markLeaseS
  cases h
theorem _root_.Go.Rv.ok_laws_markServer : SumOK Dr Tryz.prog 10 ⟨ins_laws_markServer, outs_laws_markServer, F_laws_markServer, []⟩ := runFn_ok (by kernel_rfl) ztblOK (by kernel_rfl) fun x y h => ⟨zcfg, 0, (ztop 0 x.1 x.2.1 x.2.2.1 x.2.2.2.1 x.2.2.2.2.1 x.2.2.2.2.2.1 x.2.2.2.2.2.2.1 x.2.2.2.2.2.2.2.1).trans h⟩
end laws_markServer
abbrev ins_laws_markRowS : List Par := [.w false [CT.sl ct5], .v false [CT.int .i64]]
abbrev outs_laws_markRowS : List (Bool × List CT) := [(false, [CT.int .i64])]
namespace laws_markRowS
/-! ### loop.example/g00095/laws.markRowS (function 11) -/
noncomputable def ztbl : Tbl := fun g fs => none
noncomputable def zbody : Code := ((Tryz.prog.funcs[11]?).bind (·.body)).getD .skip
def zcfg : Nat → List Nat × List Nat := fun k => if k = 2 then ([0, 1, 5], [1]) else ([], [])
noncomputable def R0 {R : Type} (nx0 : (Int → Int → (List (Int × Int × Int × Int × Int × Int × Unit)) → Option R)) (ex0 : (Int → (List (Int × Int × Int × Int × Int × Int × Unit)) → Option R)) (kx i : Int) (a2 : List (Int × Int × Int × Int × Int × Int × Unit)) : Option R := cond (decide (i < (a2.length : Int))) (if 0 ≤ i ∧ i < (a2.length : Int) then if 0 ≤ i ∧ i < ((a2.set i.toNat (ct5s0 (a2.getD i.toNat (0, 0, 0, 0, 0, 0, ())) kx)).length : Int) then if 0 ≤ i ∧ i < (((a2.set i.toNat (ct5s0 (a2.getD i.toNat (0, 0, 0, 0, 0, 0, ())) kx)).set i.toNat (ct5s1 ((a2.set i.toNat (ct5s0 (a2.getD i.toNat (0, 0, 0, 0, 0, 0, ())) kx)).getD i.toNat (0, 0, 0, 0, 0, 0, ())) (w64 (kx + 1)))).length : Int) then if 0 ≤ i ∧ i < ((((a2.set i.toNat (ct5s0 (a2.getD i.toNat (0, 0, 0, 0, 0, 0, ())) kx)).set i.toNat (ct5s1 ((a2.set i.toNat (ct5s0 (a2.getD i.toNat (0, 0, 0, 0, 0, 0, ())) kx)).getD i.toNat (0, 0, 0, 0, 0, 0, ())) (w64 (kx + 1)))).set i.toNat (ct5s2 (((a2.set i.toNat (ct5s0 (a2.getD i.toNat (0, 0, 0, 0, 0, 0, ())) kx)).set i.toNat (ct5s1 ((a2.set i.toNat (ct5s0 (a2.getD i.toNat (0, 0, 0, 0, 0, 0, ())) kx)).getD i.toNat (0, 0, 0, 0, 0, 0, ())) (w64 (kx + 1)))).getD i.toNat (0, 0, 0, 0, 0, 0, ())) (w64 ((w64 (kx + 1)) + 1)))).length : Int) then if 0 ≤ i ∧ i < (((((a2.set i.toNat (ct5s0 (a2.getD i.toNat (0, 0, 0, 0, 0, 0, ())) kx)).set i.toNat (ct5s1 ((a2.set i.toNat (ct5s0 (a2.getD i.toNat (0, 0, 0, 0, 0, 0, ())) kx)).getD i.toNat (0, 0, 0, 0, 0, 0, ())) (w64 (kx + 1)))).set i.toNat (ct5s2 (((a2.set i.toNat (ct5s0 (a2.getD i.toNat (0, 0, 0, 0, 0, 0, ())) kx)).set i.toNat (ct5s1 ((a2.set i.toNat (ct5s0 (a2.getD i.toNat (0, 0, 0, 0, 0, 0, ())) kx)).getD i.toNat (0, 0, 0, 0, 0, 0, ())) (w64 (kx + 1)))).getD i.toNat (0, 0, 0, 0, 0, 0, ())) (w64 ((w64 (kx + 1)) + 1)))).set i.toNat (ct5s3 ((((a2.set i.toNat (ct5s0 (a2.getD i.toNat (0, 0, 0, 0, 0, 0, ())) kx)).set i.toNat (ct5s1 ((a2.set i.toNat (ct5s0 (a2.getD i.toNat (0, 0, 0, 0, 0, 0, ())) kx)).getD i.toNat (0, 0, 0, 0, 0, 0, ())) (w64 (kx + 1)))).set i.toNat (ct5s2 (((a2.set i.toNat (ct5s0 (a2.getD i.toNat (0, 0, 0, 0, 0, 0, ())) kx)).set i.toNat (ct5s1 ((a2.set i.toNat (ct5s0 (a2.getD i.toNat (0, 0, 0, 0, 0, 0, ())) kx)).getD i.toNat (0, 0, 0, 0, 0, 0, ())) (w64 (kx + 1)))).getD i.toNat (0, 0, 0, 0, 0, 0, ())) (w64 ((w64 (kx + 1)) + 1)))).getD i.toNat (0, 0, 0, 0, 0, 0, ())) (w64 ((w64 ((w64 (kx + 1)) + 1)) + 1)))).length : Int) then if 0 ≤ i ∧ i < ((((((a2.set i.toNat (ct5s0 (a2.getD i.toNat (0, 0, 0, 0, 0, 0, ())) kx)).set i.toNat (ct5s1 ((a2.set i.toNat (ct5s0 (a2.getD i.toNat (0, 0, 0, 0, 0, 0, ())) kx)).getD i.toNat (0, 0, 0, 0, 0, 0, ())) (w64 (kx + 1)))).set i.toNat (ct5s2 (((a2.set i.toNat (ct5s0 (a2.getD i.toNat (0, 0, 0, 0, 0, 0, ())) kx)).set i.toNat (ct5s1 ((a2.set i.toNat (ct5s0 (a2.getD i.toNat (0, 0, 0, 0, 0, 0, ())) kx)).getD i.toNat (0, 0, 0, 0, 0, 0, ())) (w64 (kx + 1)))).getD i.toNat (0, 0, 0, 0, 0, 0, ())) (w64 ((w64 (kx + 1)) + 1)))).set i.toNat (ct5s3 ((((a2.set i.toNat (ct5s0 (a2.getD i.toNat (0, 0, 0, 0, 0, 0, ())) kx)).set i.toNat (ct5s1 ((a2.set i.toNat (ct5s0 (a2.getD i.toNat (0, 0, 0, 0, 0, 0, ())) kx)).getD i.toNat (0, 0, 0, 0, 0, 0, ())) (w64 (kx + 1)))).set i.toNat (ct5s2 (((a2.set i.toNat (ct5s0 (a2.getD i.toNat (0, 0, 0, 0, 0, 0, ())) kx)).set i.toNat (ct5s1 ((a2.set i.toNat (ct5s0 (a2.getD i.toNat (0, 0, 0, 0, 0, 0, ())) kx)).getD i.toNat (0, 0, 0, 0, 0, 0, ())) (w64 (kx + 1)))).getD i.toNat (0, 0, 0, 0, 0, 0, ())) (w64 ((w64 (kx + 1)) + 1)))).getD i.toNat (0, 0, 0, 0, 0, 0, ())) (w64 ((w64 ((w64 (kx + 1)) + 1)) + 1)))).set i.toNat (ct5s4 (((((a2.set i.toNat (ct5s0 (a2.getD i.toNat (0, 0, 0, 0, 0, 0, ())) kx)).set i.toNat (ct5s1 ((a2.set i.toNat (ct5s0 (a2.getD i.toNat (0, 0, 0, 0, 0, 0, ())) kx)).getD i.toNat (0, 0, 0, 0, 0, 0, ())) (w64 (kx + 1)))).set i.toNat (ct5s2 (((a2.set i.toNat (ct5s0 (a2.getD i.toNat (0, 0, 0, 0, 0, 0, ())) kx)).set i.toNat (ct5s1 ((a2.set i.toNat (ct5s0 (a2.getD i.toNat (0, 0, 0, 0, 0, 0, ())) kx)).getD i.toNat (0, 0, 0, 0, 0, 0, ())) (w64 (kx + 1)))).getD i.toNat (0, 0, 0, 0, 0, 0, ())) (w64 ((w64 (kx + 1)) + 1)))).set i.toNat (ct5s3 ((((a2.set i.toNat (ct5s0 (a2.getD i.toNat (0, 0, 0, 0, 0, 0, ())) kx)).set i.toNat (ct5s1 ((a2.set i.toNat (ct5s0 (a2.getD i.toNat (0, 0, 0, 0, 0, 0, ())) kx)).getD i.toNat (0, 0, 0, 0, 0, 0, ())) (w64 (kx + 1)))).set i.toNat (ct5s2 (((a2.set i.toNat (ct5s0 (a2.getD i.toNat (0, 0, 0, 0, 0, 0, ())) kx)).set i.toNat (ct5s1 ((a2.set i.toNat (ct5s0 (a2.getD i.toNat (0, 0, 0, 0, 0, 0, ())) kx)).getD i.toNat (0, 0, 0, 0, 0, 0, ())) (w64 (kx + 1)))).getD i.toNat (0, 0, 0, 0, 0, 0, ())) (w64 ((w64 (kx + 1)) + 1)))).getD i.toNat (0, 0, 0, 0, 0, 0, ())) (w64 ((w64 ((w64 (kx + 1)) + 1)) + 1)))).getD i.toNat (0, 0, 0, 0, 0, 0, ())) (w64 ((w64 ((w64 ((w64 (kx + 1)) + 1)) + 1)) + 1)))).length : Int) then nx0 (w64 ((w64 ((w64 ((w64 ((w64 ((w64 (kx + 1)) + 1)) + 1)) + 1)) + 1)) + 1)) (w64 (i + 1)) ((((((a2.set i.toNat (ct5s0 (a2.getD i.toNat (0, 0, 0, 0, 0, 0, ())) kx)).set i.toNat (ct5s1 ((a2.set i.toNat (ct5s0 (a2.getD i.toNat (0, 0, 0, 0, 0, 0, ())) kx)).getD i.toNat (0, 0, 0, 0, 0, 0, ())) (w64 (kx + 1)))).set i.toNat (ct5s2 (((a2.set i.toNat (ct5s0 (a2.getD i.toNat (0, 0, 0, 0, 0, 0, ())) kx)).set i.toNat (ct5s1 ((a2.set i.toNat (ct5s0 (a2.getD i.toNat (0, 0, 0, 0, 0, 0, ())) kx)).getD i.toNat (0, 0, 0, 0, 0, 0, ())) (w64 (kx + 1)))).getD i.toNat (0, 0, 0, 0, 0, 0, ())) (w64 ((w64 (kx + 1)) + 1)))).set i.toNat (ct5s3 ((((a2.set i.toNat (ct5s0 (a2.getD i.toNat (0, 0, 0, 0, 0, 0, ())) kx)).set i.toNat (ct5s1 ((a2.set i.toNat (ct5s0 (a2.getD i.toNat (0, 0, 0, 0, 0, 0, ())) kx)).getD i.toNat (0, 0, 0, 0, 0, 0, ())) (w64 (kx + 1)))).set i.toNat (ct5s2 (((a2.set i.toNat (ct5s0 (a2.getD i.toNat (0, 0, 0, 0, 0, 0, ())) kx)).set i.toNat (ct5s1 ((a2.set i.toNat (ct5s0 (a2.getD i.toNat (0, 0, 0, 0, 0, 0, ())) kx)).getD i.toNat (0, 0, 0, 0, 0, 0, ())) (w64 (kx + 1)))).getD i.toNat (0, 0, 0, 0, 0, 0, ())) (w64 ((w64 (kx + 1)) + 1)))).getD i.toNat (0, 0, 0, 0, 0, 0, ())) (w64 ((w64 ((w64 (kx + 1)) + 1)) + 1)))).set i.toNat (ct5s4 (((((a2.set i.toNat (ct5s0 (a2.getD i.toNat (0, 0, 0, 0, 0, 0, ())) kx)).set i.toNat (ct5s1 ((a2.set i.toNat (ct5s0 (a2.getD i.toNat (0, 0, 0, 0, 0, 0, ())) kx)).getD i.toNat (0, 0, 0, 0, 0, 0, ())) (w64 (kx + 1)))).set i.toNat (ct5s2 (((a2.set i.toNat (ct5s0 (a2.getD i.toNat (0, 0, 0, 0, 0, 0, ())) kx)).set i.toNat (ct5s1 ((a2.set i.toNat (ct5s0 (a2.getD i.toNat (0, 0, 0, 0, 0, 0, ())) kx)).getD i.toNat (0, 0, 0, 0, 0, 0, ())) (w64 (kx + 1)))).getD i.toNat (0, 0, 0, 0, 0, 0, ())) (w64 ((w64 (kx + 1)) + 1)))).set i.toNat (ct5s3 ((((a2.set i.toNat (ct5s0 (a2.getD i.toNat (0, 0, 0, 0, 0, 0, ())) kx)).set i.toNat (ct5s1 ((a2.set i.toNat (ct5s0 (a2.getD i.toNat (0, 0, 0, 0, 0, 0, ())) kx)).getD i.toNat (0, 0, 0, 0, 0, 0, ())) (w64 (kx + 1)))).set i.toNat (ct5s2 (((a2.set i.toNat (ct5s0 (a2.getD i.toNat (0, 0, 0, 0, 0, 0, ())) kx)).set i.toNat (ct5s1 ((a2.set i.toNat (ct5s0 (a2.getD i.toNat (0, 0, 0, 0, 0, 0, ())) kx)).getD i.toNat (0, 0, 0, 0, 0, 0, ())) (w64 (kx + 1)))).getD i.toNat (0, 0, 0, 0, 0, 0, ())) (w64 ((w64 (kx + 1)) + 1)))).getD i.toNat (0, 0, 0, 0, 0, 0, ())) (w64 ((w64 ((w64 (kx + 1)) + 1)) + 1)))).getD i.toNat (0, 0, 0, 0, 0, 0, ())) (w64 ((w64 ((w64 ((w64 (kx + 1)) + 1)) + 1)) + 1)))).set i.toNat (ct5s5 ((((((a2.set i.toNat (ct5s0 (a2.getD i.toNat (0, 0, 0, 0, 0, 0, ())) kx)).set i.toNat (ct5s1 ((a2.set i.toNat (ct5s0 (a2.getD i.toNat (0, 0, 0, 0, 0, 0, ())) kx)).getD i.toNat (0, 0, 0, 0, 0, 0, ())) (w64 (kx + 1)))).set i.toNat (ct5s2 (((a2.set i.toNat (ct5s0 (a2.getD i.toNat (0, 0, 0, 0, 0, 0, ())) kx)).set i.toNat (ct5s1 ((a2.set i.toNat (ct5s0 (a2.getD i.toNat (0, 0, 0, 0, 0, 0, ())) kx)).getD i.toNat (0, 0, 0, 0, 0, 0, ())) (w64 (kx + 1)))).getD i.toNat (0, 0, 0, 0, 0, 0, ())) (w64 ((w64 (kx + 1)) + 1)))).set i.toNat (ct5s3 ((((a2.set i.toNat (ct5s0 (a2.getD i.toNat (0, 0, 0, 0, 0, 0, ())) kx)).set i.toNat (ct5s1 ((a2.set i.toNat (ct5s0 (a2.getD i.toNat (0, 0, 0, 0, 0, 0, ())) kx)).getD i.toNat (0, 0, 0, 0, 0, 0, ())) (w64 (kx + 1)))).set i.toNat (ct5s2 (((a2.set i.toNat (ct5s0 (a2.getD i.toNat (0, 0, 0, 0, 0, 0, ())) kx)).set i.toNat (ct5s1 ((a2.set i.toNat (ct5s0 (a2.getD i.toNat (0, 0, 0, 0, 0, 0, ())) kx)).getD i.toNat (0, 0, 0, 0, 0, 0, ())) (w64 (kx + 1)))).getD i.toNat (0, 0, 0, 0, 0, 0, ())) (w64 ((w64 (kx + 1)) + 1)))).getD i.toNat (0, 0, 0, 0, 0, 0, ())) (w64 ((w64 ((w64 (kx + 1)) + 1)) + 1)))).set i.toNat (ct5s4 (((((a2.set i.toNat (ct5s0 (a2.getD i.toNat (0, 0, 0, 0, 0, 0, ())) kx)).set i.toNat (ct5s1 ((a2.set i.toNat (ct5s0 (a2.getD i.toNat (0, 0, 0, 0, 0, 0, ())) kx)).getD i.toNat (0, 0, 0, 0, 0, 0, ())) (w64 (kx + 1)))).set i.toNat (ct5s2 (((a2.set i.toNat (ct5s0 (a2.getD i.toNat (0, 0, 0, 0, 0, 0, ())) kx)).set i.toNat (ct5s1 ((a2.set i.toNat (ct5s0 (a2.getD i.toNat (0, 0, 0, 0, 0, 0, ())) kx)).getD i.toNat (0, 0, 0, 0, 0, 0, ())) (w64 (kx + 1)))).getD i.toNat (0, 0, 0, 0, 0, 0, ())) (w64 ((w64 (kx + 1)) + 1)))).set i.toNat (ct5s3 ((((a2.set i.toNat (ct5s0 (a2.getD i.toNat (0, 0, 0, 0, 0, 0, ())) kx)).set i.toNat (ct5s1 ((a2.set i.toNat (ct5s0 (a2.getD i.toNat (0, 0, 0, 0, 0, 0, ())) kx)).getD i.toNat (0, 0, 0, 0, 0, 0, ())) (w64 (kx + 1)))).set i.toNat (ct5s2 (((a2.set i.toNat (ct5s0 (a2.getD i.toNat (0, 0, 0, 0, 0, 0, ())) kx)).set i.toNat (ct5s1 ((a2.set i.toNat (ct5s0 (a2.getD i.toNat (0, 0, 0, 0, 0, 0, ())) kx)).getD i.toNat (0, 0, 0, 0, 0, 0, ())) (w64 (kx + 1)))).getD i.toNat (0, 0, 0, 0, 0, 0, ())) (w64 ((w64 (kx + 1)) + 1)))).getD i.toNat (0, 0, 0, 0, 0, 0, ())) (w64 ((w64 ((w64 (kx + 1)) + 1)) + 1)))).getD i.toNat (0, 0, 0, 0, 0, 0, ())) (w64 ((w64 ((w64 ((w64 (kx + 1)) + 1)) + 1)) + 1)))).getD i.toNat (0, 0, 0, 0, 0, 0, ())) (w64 ((w64 ((w64 ((w64 ((w64 (kx + 1)) + 1)) + 1)) + 1)) + 1)))) else none else none else none else none else none else none) (ex0 kx a2)
noncomputable def A0  (a : List (Int × Int × Int × Int × Int × Int × Unit)) (ak : Int) (kx : Int) (o0 : List (Int × Int × Int × Int × Int × Int × Unit)) : Option (Int × (List (Int × Int × Int × Int × Int × Int × Unit)) × Unit) := some (kx, o0, ())
noncomputable def T (lo0 : (Int → Int → (List (Int × Int × Int × Int × Int × Int × Unit)) → Option (Int × (List (Int × Int × Int × Int × Int × Int × Unit)) × Unit))) (a : List (Int × Int × Int × Int × Int × Int × Unit)) (ak : Int) : Option (Int × (List (Int × Int × Int × Int × Int × Int × Unit)) × Unit) := lo0 ak 0 a
noncomputable def zst0 {R : Type} (k0 : Nat) : Env → List Ob → Kont R → Option R := fun env ob K => runCode Tryz.prog ztbl 55 1 zcfg k0 (codeAt [1, 0, 1, 0, 0] zbody) env ob K
noncomputable def K0 {R : Type} (k0 : Nat) (K : Kont R) : Kont R := blockK 0 (seqK (fun env ob => runCode Tryz.prog ztbl 55 1 zcfg k0 (codeAt [1, 1] zbody) env ob (K)) (K))
noncomputable def L0 {R : Type} (k0 k : Nat) (K : Kont R) (kx i : Int) (a2 : List (Int × Int × Int × Int × Int × Int × Unit)) : Option R := iter 1 [0, 1, 5] [1] (zst0 k0) k [(0, .own 0), (1, .int .i64 kx), (5, .int .i64 i)] [.arr ct5 a2] K
theorem zs0 {R : Type} (k0 k : Nat) (K : Kont R) (kx i : Int) (a2 : List (Int × Int × Int × Int × Int × Int × Unit)) : L0 k0 (k + 1) K kx i a2 = R0 (L0 k0 k K) (fun kx o0 => K (.exit 0) [(1, .int .i64 kx)] [.arr ct5 o0]) kx i a2 := by kernel_rfl
theorem za0 (k0 : Nat) (a : List (Int × Int × Int × Int × Int × Int × Unit)) (ak : Int) (kx : Int) (o0 : List (Int × Int × Int × Int × Int × Int × Unit)) : K0 (R := (Int × (List (Int × Int × Int × Int × Int × Int × Unit)) × Unit)) k0 (finK Tryz.prog [.tmp 4] ins_laws_markRowS outs_laws_markRowS (a, ak, ())) (.exit 0) [(1, .int .i64 kx)] [.arr ct5 o0] = A0  a ak kx o0 := by kernel_rfl
theorem ztop (k0 : Nat) (a : List (Int × Int × Int × Int × Int × Int × Unit)) (ak : Int) : runFn Tryz.prog ztbl zcfg k0 11 ins_laws_markRowS outs_laws_markRowS [] (a, ak, ()) = T (L0 (R := (Int × (List (Int × Int × Int × Int × Int × Int × Unit)) × Unit)) k0 k0 (K0 (R := (Int × (List (Int × Int × Int × Int × Int × Int × Unit)) × Unit)) k0 ((finK Tryz.prog [.tmp 4] ins_laws_markRowS outs_laws_markRowS (a, ak, ()))))) a ak := by kernel_rfl
noncomputable def G0 {R : Type} (k0 : Nat) (hx0 : (Int → (List (Int × Int × Int × Int × Int × Int × Unit)) → Option R)) : Nat → Int → Int → (List (Int × Int × Int × Int × Int × Int × Unit)) → Option R
  | 0, _, _, _ => none
  | k + 1, kx, i, a2 => R0 (G0 k0 hx0 k) hx0 kx i a2
theorem zg0 {R : Type} (k0 : Nat) (K : Kont R) : ∀ k : Nat, L0 k0 k K = G0 k0 (fun kx o0 => K (.exit 0) [(1, .int .i64 kx)] [.arr ct5 o0]) k := by
  intro k
  induction k with
  | zero => funext kx i a2; rfl
  | succ k ih => funext kx i a2; rw [zs0, G0]; (try simp only [ih]); try rfl
noncomputable def FF (k0 : Nat) (a : List (Int × Int × Int × Int × Int × Int × Unit)) (ak : Int) : Option (Int × (List (Int × Int × Int × Int × Int × Int × Unit)) × Unit) := T (G0 k0 (A0  a ak) k0) a ak
theorem zrun (k0 : Nat) (a : List (Int × Int × Int × Int × Int × Int × Unit)) (ak : Int) : runFn Tryz.prog ztbl zcfg k0 11 ins_laws_markRowS outs_laws_markRowS [] (a, ak, ()) = FF k0 a ak := by
  rw [ztop, FF]; (try simp only [zg0, za0]); try rfl
noncomputable def _root_.Go.Rv.F_laws_markRowS : (List (Int × Int × Int × Int × Int × Int × Unit)) × Int × Unit → Option (Int × (List (Int × Int × Int × Int × Int × Int × Unit)) × Unit) := fun x => (fun (a : List (Int × Int × Int × Int × Int × Int × Unit)) (ak : Int) => FF (300 + a.length) a ak) x.1 x.2.1
theorem ztblOK : ∀ g fs S, ztbl g fs = some S → SumOK Dr Tryz.prog g S := by
  intro g fs S h
  unfold ztbl at h
  cases h
theorem _root_.Go.Rv.ok_laws_markRowS : SumOK Dr Tryz.prog 11 ⟨ins_laws_markRowS, outs_laws_markRowS, F_laws_markRowS, []⟩ := runFn_ok (by kernel_rfl) ztblOK (by kernel_rfl) fun x y h => ⟨zcfg, _, (zrun _ x.1 x.2.1).trans h⟩
end laws_markRowS
abbrev ins_laws_heldRowS : List Par := [.v false [CT.sl ct5], .v false [CT.int .i64]]
abbrev outs_laws_heldRowS : List (Bool × List CT) := [(false, [CT.int .i64])]
namespace laws_heldRowS
/-! ### loop.example/g00095/laws.heldRowS (function 12) -/
noncomputable def ztbl : Tbl := fun g fs => none
noncomputable def zbody : Code := ((Tryz.prog.funcs[12]?).bind (·.body)).getD .skip
def zcfg : Nat → List Nat × List Nat := fun k => if k = 2 then ([0, 1, 5], [1, 4]) else ([], [])
noncomputable def R0 {R : Type} (nx0 : ((List (Int × Int × Int × Int × Int × Int × Unit)) → Int → Int → Option R)) (ex0 : (Int → Int → Option R)) (ex1 : (Int → Option R)) (a2 : List (Int × Int × Int × Int × Int × Int × Unit)) (kx i : Int) : Option R := cond (decide (i < (a2.length : Int))) (if 0 ≤ i ∧ i < (a2.length : Int) then cond ((rd (0, 0, 0, 0, 0, 0, ()) a2 i).1 != kx) (ex0 kx (-1)) (if 0 ≤ i ∧ i < (a2.length : Int) then cond ((rd (0, 0, 0, 0, 0, 0, ()) a2 i).2.1 != (w64 (kx + 1))) (ex0 (w64 (kx + 1)) (-1)) (if 0 ≤ i ∧ i < (a2.length : Int) then cond ((rd (0, 0, 0, 0, 0, 0, ()) a2 i).2.2.1 != (w64 ((w64 (kx + 1)) + 1))) (ex0 (w64 ((w64 (kx + 1)) + 1)) (-1)) (if 0 ≤ i ∧ i < (a2.length : Int) then cond ((rd (0, 0, 0, 0, 0, 0, ()) a2 i).2.2.2.1 != (w64 ((w64 ((w64 (kx + 1)) + 1)) + 1))) (ex0 (w64 ((w64 ((w64 (kx + 1)) + 1)) + 1)) (-1)) (if 0 ≤ i ∧ i < (a2.length : Int) then cond ((rd (0, 0, 0, 0, 0, 0, ()) a2 i).2.2.2.2.1 != (w64 ((w64 ((w64 ((w64 (kx + 1)) + 1)) + 1)) + 1))) (ex0 (w64 ((w64 ((w64 ((w64 (kx + 1)) + 1)) + 1)) + 1)) (-1)) (if 0 ≤ i ∧ i < (a2.length : Int) then cond ((rd (0, 0, 0, 0, 0, 0, ()) a2 i).2.2.2.2.2.1 != (w64 ((w64 ((w64 ((w64 ((w64 (kx + 1)) + 1)) + 1)) + 1)) + 1))) (ex0 (w64 ((w64 ((w64 ((w64 ((w64 (kx + 1)) + 1)) + 1)) + 1)) + 1)) (-1)) (nx0 a2 (w64 ((w64 ((w64 ((w64 ((w64 ((w64 (kx + 1)) + 1)) + 1)) + 1)) + 1)) + 1)) (w64 (i + 1))) else none) else none) else none) else none) else none) else none) (ex1 kx)
noncomputable def A0  (a : List (Int × Int × Int × Int × Int × Int × Unit)) (ak : Int) (kx t4x : Int) : Option (Int × Unit) := some (t4x, ())
noncomputable def A1  (a : List (Int × Int × Int × Int × Int × Int × Unit)) (ak : Int) (kx : Int) : Option (Int × Unit) := some (kx, ())
noncomputable def T (lo0 : ((List (Int × Int × Int × Int × Int × Int × Unit)) → Int → Int → Option (Int × Unit))) (a : List (Int × Int × Int × Int × Int × Int × Unit)) (ak : Int) : Option (Int × Unit) := lo0 a ak 0
noncomputable def zst0 {R : Type} (k0 : Nat) : Env → List Ob → Kont R → Option R := fun env ob K => runCode Tryz.prog ztbl 67 0 zcfg k0 (codeAt [1, 0, 1, 0, 0] zbody) env ob K
noncomputable def K0 {R : Type} (k0 : Nat) (K : Kont R) : Kont R := blockK 0 (seqK (fun env ob => runCode Tryz.prog ztbl 67 0 zcfg k0 (codeAt [1, 1] zbody) env ob (K)) (K))
noncomputable def L0 {R : Type} (k0 k : Nat) (K : Kont R) (a2 : List (Int × Int × Int × Int × Int × Int × Unit)) (kx i : Int) : Option R := iter 0 [0, 1, 5] [1, 4] (zst0 k0) k [(0, .sl ct5 a2), (1, .int .i64 kx), (5, .int .i64 i)] [] K
theorem zs0 {R : Type} (k0 k : Nat) (K : Kont R) (a2 : List (Int × Int × Int × Int × Int × Int × Unit)) (kx i : Int) : L0 k0 (k + 1) K a2 kx i = R0 (L0 k0 k K) (fun kx t4x => K .ret [(1, .int .i64 kx), (4, .int .i64 t4x)] []) (fun kx => K (.exit 0) [(1, .int .i64 kx), (4, .undef)] []) a2 kx i := by kernel_rfl
theorem za0 (k0 : Nat) (a : List (Int × Int × Int × Int × Int × Int × Unit)) (ak : Int) (kx t4x : Int) : K0 (R := (Int × Unit)) k0 (finK Tryz.prog [.tmp 4] ins_laws_heldRowS outs_laws_heldRowS (a, ak, ())) .ret [(1, .int .i64 kx), (4, .int .i64 t4x)] [] = A0  a ak kx t4x := by kernel_rfl
theorem za1 (k0 : Nat) (a : List (Int × Int × Int × Int × Int × Int × Unit)) (ak : Int) (kx : Int) : K0 (R := (Int × Unit)) k0 (finK Tryz.prog [.tmp 4] ins_laws_heldRowS outs_laws_heldRowS (a, ak, ())) (.exit 0) [(1, .int .i64 kx), (4, .undef)] [] = A1  a ak kx := by kernel_rfl
theorem ztop (k0 : Nat) (a : List (Int × Int × Int × Int × Int × Int × Unit)) (ak : Int) : runFn Tryz.prog ztbl zcfg k0 12 ins_laws_heldRowS outs_laws_heldRowS [] (a, ak, ()) = T (L0 (R := (Int × Unit)) k0 k0 (K0 (R := (Int × Unit)) k0 ((finK Tryz.prog [.tmp 4] ins_laws_heldRowS outs_laws_heldRowS (a, ak, ()))))) a ak := by kernel_rfl
noncomputable def G0 {R : Type} (k0 : Nat) (hx0 : (Int → Int → Option R)) (hx1 : (Int → Option R)) : Nat → (List (Int × Int × Int × Int × Int × Int × Unit)) → Int → Int → Option R
  | 0, _, _, _ => none
  | k + 1, a2, kx, i => R0 (G0 k0 hx0 hx1 k) hx0 hx1 a2 kx i
theorem zg0 {R : Type} (k0 : Nat) (K : Kont R) : ∀ k : Nat, L0 k0 k K = G0 k0 (fun kx t4x => K .ret [(1, .int .i64 kx), (4, .int .i64 t4x)] []) (fun kx => K (.exit 0) [(1, .int .i64 kx), (4, .undef)] []) k := by
  intro k
  induction k with
  | zero => funext a2 kx i; rfl
  | succ k ih => funext a2 kx i; rw [zs0, G0]; (try simp only [ih]); try rfl
noncomputable def FF (k0 : Nat) (a : List (Int × Int × Int × Int × Int × Int × Unit)) (ak : Int) : Option (Int × Unit) := T (G0 k0 (A0  a ak) (A1  a ak) k0) a ak
theorem zrun (k0 : Nat) (a : List (Int × Int × Int × Int × Int × Int × Unit)) (ak : Int) : runFn Tryz.prog ztbl zcfg k0 12 ins_laws_heldRowS outs_laws_heldRowS [] (a, ak, ()) = FF k0 a ak := by
  rw [ztop, FF]; (try simp only [zg0, za0, za1]); try rfl
noncomputable def _root_.Go.Rv.F_laws_heldRowS : (List (Int × Int × Int × Int × Int × Int × Unit)) × Int × Unit → Option (Int × Unit) := fun x => (fun (a : List (Int × Int × Int × Int × Int × Int × Unit)) (ak : Int) => FF (300 + a.length) a ak) x.1 x.2.1
theorem ztblOK : ∀ g fs S, ztbl g fs = some S → SumOK Dr Tryz.prog g S := by
  intro g fs S h
  unfold ztbl at h
  cases h
theorem _root_.Go.Rv.ok_laws_heldRowS : SumOK Dr Tryz.prog 12 ⟨ins_laws_heldRowS, outs_laws_heldRowS, F_laws_heldRowS, []⟩ := runFn_ok (by kernel_rfl) ztblOK (by kernel_rfl) fun x y h => ⟨zcfg, _, (zrun _ x.1 x.2.1).trans h⟩
end laws_heldRowS
abbrev ins_laws_FnExactReportRows : List Par := [.v true ct3]
abbrev outs_laws_FnExactReportRows : List (Bool × List CT) := [(false, [CT.bool])]
namespace laws_FnExactReportRows
/-! ### loop.example/g00095/laws.FnExactReportRows (function 3) -/
noncomputable def ztbl : Tbl := fun g fs => if g = 4 ∧ fs = [] then some ⟨ins_laws_szServer, outs_laws_szServer, F_laws_szServer, []⟩ else if g = 5 ∧ fs = [] then some ⟨ins_spec_ReportRows, outs_spec_ReportRows, F_spec_ReportRows, []⟩ else if g = 6 ∧ fs = [] then some ⟨ins_laws_toServer, outs_laws_toServer, F_laws_toServer, []⟩ else if g = 7 ∧ fs = [] then some ⟨ins_impl_ReportRows, outs_impl_ReportRows, F_impl_ReportRows, []⟩ else if g = 8 ∧ fs = [] then some ⟨ins_laws_eqRowS, outs_laws_eqRowS, F_laws_eqRowS, []⟩ else if g = 9 ∧ fs = [] then some ⟨ins_laws_eqServer, outs_laws_eqServer, F_laws_eqServer, []⟩ else if g = 10 ∧ fs = [] then some ⟨ins_laws_markServer, outs_laws_markServer, F_laws_markServer, []⟩ else if g = 11 ∧ fs = [] then some ⟨ins_laws_markRowS, outs_laws_markRowS, F_laws_markRowS, []⟩ else if g = 12 ∧ fs = [] then some ⟨ins_laws_heldRowS, outs_laws_heldRowS, F_laws_heldRowS, []⟩ else none
noncomputable def zbody : Code := ((Tryz.prog.funcs[3]?).bind (·.body)).getD .skip
def zcfg : Nat → List Nat × List Nat := fun k => ([], [])
noncomputable def T  (aS0 aS1 aS2 aS3 : Int) (aS4 aS5 : List (Int × Int × Int × Int × Unit)) (aS6 : List (Int × Int × Int × Unit)) : Option (Bool × Unit) := (F_laws_szServer (aS0, aS1, aS2, aS3, aS4, aS5, aS6, 1048576, ())).bind fun y1 => cond (decide (y1.1 < 0)) (some (true, ())) ((F_laws_toServer (aS0, aS1, aS2, aS3, aS4, aS5, aS6, ())).bind fun y2 => (F_spec_ReportRows (y2.1, y2.2.1, y2.2.2.1, y2.2.2.2.1, y2.2.2.2.2.1, y2.2.2.2.2.2.1, y2.2.2.2.2.2.2.1, ())).bind fun y3 => (F_laws_toServer (aS0, aS1, aS2, aS3, aS4, aS5, aS6, ())).bind fun y4 => (F_impl_ReportRows (y4.1, y4.2.1, y4.2.2.1, y4.2.2.2.1, y4.2.2.2.2.1, y4.2.2.2.2.2.1, y4.2.2.2.2.2.2.1, ())).bind fun y5 => (F_laws_eqRowS (y5.1, y3.1, ())).bind fun y6 => cond (!y6.1) (some (false, ())) ((F_laws_toServer (aS0, aS1, aS2, aS3, aS4, aS5, aS6, ())).bind fun y7 => (F_laws_eqServer (y4.1, y4.2.1, y4.2.2.1, y4.2.2.2.1, y4.2.2.2.2.1, y4.2.2.2.2.2.1, y4.2.2.2.2.2.2.1, y7.1, y7.2.1, y7.2.2.1, y7.2.2.2.1, y7.2.2.2.2.1, y7.2.2.2.2.2.1, y7.2.2.2.2.2.2.1, ())).bind fun y8 => cond (!y8.1) (some (false, ())) ((F_laws_markServer (y4.1, y4.2.1, y4.2.2.1, y4.2.2.2.1, y4.2.2.2.2.1, y4.2.2.2.2.2.1, y4.2.2.2.2.2.2.1, 1, ())).bind fun y9 => cond (decide (y9.1 < 0)) (some (false, ())) ((F_laws_eqRowS (y5.1, y3.1, ())).bind fun y10 => cond (!y10.1) (some (false, ())) ((F_laws_markRowS (y5.1, 1, ())).bind fun y11 => (F_laws_heldRowS (y11.2.1, 1, ())).bind fun y12 => cond (decide (y12.1 < 0)) (some (false, ())) (cond (y12.1 != y11.1) (some (false, ())) ((F_laws_toServer (aS0, aS1, aS2, aS3, aS4, aS5, aS6, ())).bind fun y13 => (F_impl_ReportRows (y13.1, y13.2.1, y13.2.2.1, y13.2.2.2.1, y13.2.2.2.2.1, y13.2.2.2.2.2.1, y13.2.2.2.2.2.2.1, ())).bind fun y14 => (F_laws_eqRowS (y14.1, y3.1, ())).bind fun y15 => cond (!y15.1) (some (false, ())) ((F_laws_heldRowS (y11.2.1, 1, ())).bind fun y16 => cond (decide (y16.1 < 0)) (some (false, ())) (cond (y16.1 != y11.1) (some (false, ())) (some (true, ())))))))))))
theorem ztop (k0 : Nat) (aS0 aS1 aS2 aS3 : Int) (aS4 aS5 : List (Int × Int × Int × Int × Unit)) (aS6 : List (Int × Int × Int × Unit)) : runFn Tryz.prog ztbl zcfg k0 3 ins_laws_FnExactReportRows outs_laws_FnExactReportRows [] (aS0, aS1, aS2, aS3, aS4, aS5, aS6, ()) = T  aS0 aS1 aS2 aS3 aS4 aS5 aS6 := by kernel_rfl
noncomputable def _root_.Go.Rv.F_laws_FnExactReportRows : Int × Int × Int × Int × (List (Int × Int × Int × Int × Unit)) × (List (Int × Int × Int × Int × Unit)) × (List (Int × Int × Int × Unit)) × Unit → Option (Bool × Unit) := fun x => T x.1 x.2.1 x.2.2.1 x.2.2.2.1 x.2.2.2.2.1 x.2.2.2.2.2.1 x.2.2.2.2.2.2.1
theorem ztblOK : ∀ g fs S, ztbl g fs = some S → SumOK KN Tryz.prog g S := by
  intro g fs S h
  unfold ztbl at h
  split at h
  · rename_i hc; obtain ⟨rfl, rfl⟩ := hc; have := Option.some.inj h; subst this; exact ok_laws_szServer
  split at h
  · rename_i hc; obtain ⟨rfl, rfl⟩ := hc; have := Option.some.inj h; subst this; exact ok_spec_ReportRows
  split at h
  · rename_i hc; obtain ⟨rfl, rfl⟩ := hc; have := Option.some.inj h; subst this; exact ok_laws_toServer
  split at h
  · rename_i hc; obtain ⟨rfl, rfl⟩ := hc; have := Option.some.inj h; subst this; exact ok_impl_ReportRows
  split at h
  · rename_i hc; obtain ⟨rfl, rfl⟩ := hc; have := Option.some.inj h; subst this; exact ok_laws_eqRowS
  split at h
  · rename_i hc; obtain ⟨rfl, rfl⟩ := hc; have := Option.some.inj h; subst this; exact ok_laws_eqServer
  split at h
  · rename_i hc; obtain ⟨rfl, rfl⟩ := hc; have := Option.some.inj h; subst this; exact ok_laws_markServer
  split at h
  · rename_i hc; obtain ⟨rfl, rfl⟩ := hc; have := Option.some.inj h; subst this; exact ok_laws_markRowS
  split at h
  · rename_i hc; obtain ⟨rfl, rfl⟩ := hc; have := Option.some.inj h; subst this; exact ok_laws_heldRowS
  cases h
theorem _root_.Go.Rv.ok_laws_FnExactReportRows : SumOK KN Tryz.prog 3 ⟨ins_laws_FnExactReportRows, outs_laws_FnExactReportRows, F_laws_FnExactReportRows, []⟩ := runFn_ok (by kernel_rfl) ztblOK (by kernel_rfl) fun x y h => ⟨zcfg, 0, (ztop 0 x.1 x.2.1 x.2.2.1 x.2.2.2.1 x.2.2.2.2.1 x.2.2.2.2.2.1 x.2.2.2.2.2.2.1).trans h⟩
end laws_FnExactReportRows

end Go.Rv
