/- What functions come to on pure values (printed by a program of ours). -/
import Derived.Test.YtipgjgcpfppeeaaGreatM05
set_option linter.unusedVariables false
set_option linter.unusedSimpArgs false
set_option linter.unusedSectionVars false
set_option maxRecDepth 100000
namespace Go.Rv
open Go.Proofs
variable {Dr : Kn}
abbrev ins_spec_ReportRows : List Par := [.v true ct3]
abbrev outs_spec_ReportRows : List (Bool × List CT) := [(false, [CT.sl ct5])]
namespace spec_ReportRows
/-! ### loop.example/g00095/spec.ReportRows (function 5) -/
noncomputable def ztbl : Tbl := fun g fs => if g = 15 ∧ fs = [] then some ⟨ins_spec_ServerRight, outs_spec_ServerRight, F_spec_ServerRight, []⟩ else if g = 16 ∧ fs = [] then some ⟨ins_spec_FarmShares, outs_spec_FarmShares, F_spec_FarmShares, []⟩ else none
noncomputable def zbody : Code := ((Tryz.prog.funcs[5]?).bind (·.body)).getD .skip
def zcfg : Nat → List Nat × List Nat := fun k => if k = 6 then ([1, 3, 4, 5], [3]) else ([], [])
noncomputable def R0 {R : Type} (nx0 : (Int → Int → Int → Int → Int → (List (Int × Int × Int × Int × Unit)) → (List (Int × Int × Int × Int × Unit)) → (List (Int × Int × Int × Unit)) → (List (Int × Int × Int × Int × Int × Int × Unit)) → (List (Int × Int × Unit)) → Option R)) (ex0 : ((List (Int × Int × Int × Int × Int × Int × Unit)) → Option R)) (i s s7 s8 s9 : Int) (s10 s11 : List (Int × Int × Int × Int × Unit)) (s12 : List (Int × Int × Int × Unit)) (out : List (Int × Int × Int × Int × Int × Int × Unit)) (parts : List (Int × Int × Unit)) : Option R := cond (decide (i < (s12.length : Int))) (if 0 ≤ i ∧ i < (s11.length : Int) then if 0 ≤ i ∧ i < (parts.length : Int) then if 0 ≤ i ∧ i < (s12.length : Int) then if 0 ≤ i ∧ i < (s12.length : Int) then if out.length + [((rd (0, 0, 0, 0, ()) s11 i).1, (rd (0, 0, 0, 0, ()) s11 i).2.1, (rd (0, 0, 0, 0, ()) s11 i).2.2.1, (parts.getD i.toNat (0, 0, ())).2.1, (rd (0, 0, 0, ()) s12 i).2.1, (w64 ((rd (0, 0, 0, ()) s12 i).2.2.1 - s8)), ())].length ≤ maxRow then nx0 (w64 (i + 1)) s s7 s8 s9 s10 s11 s12 (out ++ [((rd (0, 0, 0, 0, ()) s11 i).1, (rd (0, 0, 0, 0, ()) s11 i).2.1, (rd (0, 0, 0, 0, ()) s11 i).2.2.1, (parts.getD i.toNat (0, 0, ())).2.1, (rd (0, 0, 0, ()) s12 i).2.1, (w64 ((rd (0, 0, 0, ()) s12 i).2.2.1 - s8)), ())]) parts else none else none else none else none else none) (ex0 out)
noncomputable def A0  (s0 s1 s2 s3 : Int) (s4 s5 : List (Int × Int × Int × Int × Unit)) (s6 : List (Int × Int × Int × Unit)) (out : List (Int × Int × Int × Int × Int × Int × Unit)) : Option ((List (Int × Int × Int × Int × Int × Int × Unit)) × Unit) := some (out, ())
noncomputable def T (lo0 : (Int → Int → Int → Int → Int → (List (Int × Int × Int × Int × Unit)) → (List (Int × Int × Int × Int × Unit)) → (List (Int × Int × Int × Unit)) → (List (Int × Int × Int × Int × Int × Int × Unit)) → (List (Int × Int × Unit)) → Option ((List (Int × Int × Int × Int × Int × Int × Unit)) × Unit))) (s0 s1 s2 s3 : Int) (s4 s5 : List (Int × Int × Int × Int × Unit)) (s6 : List (Int × Int × Int × Unit)) : Option ((List (Int × Int × Int × Int × Int × Int × Unit)) × Unit) := (F_spec_ServerRight (s0, s1, s2, s3, s4, s5, s6, ())).bind fun y1 => cond (!y1.1) (some (([] : List (Int × Int × Int × Int × Int × Int × Unit)), ())) ((F_spec_FarmShares (s3, s4, s5, ())).bind fun y2 => lo0 0 s0 s1 s2 s3 s4 s5 s6 ([] : List (Int × Int × Int × Int × Int × Int × Unit)) y2.1)
noncomputable def zst0 {R : Type} (k0 : Nat) : Env → List Ob → Kont R → Option R := fun env ob K => runCode Tryz.prog ztbl 59 0 zcfg k0 (codeAt [1, 1, 1, 1, 0, 1, 0, 0] zbody) env ob K
noncomputable def K0 {R : Type} (k0 : Nat) (K : Kont R) : Kont R := blockK 0 (seqK (fun env ob => runCode Tryz.prog ztbl 59 0 zcfg k0 (codeAt [1, 1, 1, 1, 1] zbody) env ob (K)) (K))
noncomputable def L0 {R : Type} (k0 k : Nat) (K : Kont R) (i s s7 s8 s9 : Int) (s10 s11 : List (Int × Int × Int × Int × Unit)) (s12 : List (Int × Int × Int × Unit)) (out : List (Int × Int × Int × Int × Int × Int × Unit)) (parts : List (Int × Int × Unit)) : Option R := iter 0 [1, 3, 4, 5] [3] (zst0 k0) k [(1, .ptr 0 0 0 0), (3, .own 1), (4, .own 2), (5, .int .i64 i)] [.box [.int .i64 s, .int .i64 s7, .int .i64 s8, .int .i64 s9, .sl ct2 s10, .sl ct2 s11, .sl ct0 s12], .arr ct5 out, .arr ct6 parts] K
theorem zs0 {R : Type} (k0 k : Nat) (K : Kont R) (i s s7 s8 s9 : Int) (s10 s11 : List (Int × Int × Int × Int × Unit)) (s12 : List (Int × Int × Int × Unit)) (out : List (Int × Int × Int × Int × Int × Int × Unit)) (parts : List (Int × Int × Unit)) : L0 k0 (k + 1) K i s s7 s8 s9 s10 s11 s12 out parts = R0 (L0 k0 k K) (fun out => K (.exit 0) [(3, .own 0)] [.arr ct5 out]) i s s7 s8 s9 s10 s11 s12 out parts := by kernel_rfl
theorem za0 (k0 : Nat) (s0 s1 s2 s3 : Int) (s4 s5 : List (Int × Int × Int × Int × Unit)) (s6 : List (Int × Int × Int × Unit)) (out : List (Int × Int × Int × Int × Int × Int × Unit)) : K0 (R := ((List (Int × Int × Int × Int × Int × Int × Unit)) × Unit)) k0 (finK Tryz.prog [.tmp 2] ins_spec_ReportRows outs_spec_ReportRows (s0, s1, s2, s3, s4, s5, s6, ())) (.exit 0) [(3, .own 0)] [.arr ct5 out] = A0  s0 s1 s2 s3 s4 s5 s6 out := by kernel_rfl
theorem ztop (k0 : Nat) (s0 s1 s2 s3 : Int) (s4 s5 : List (Int × Int × Int × Int × Unit)) (s6 : List (Int × Int × Int × Unit)) : runFn Tryz.prog ztbl zcfg k0 5 ins_spec_ReportRows outs_spec_ReportRows [] (s0, s1, s2, s3, s4, s5, s6, ()) = T (L0 (R := ((List (Int × Int × Int × Int × Int × Int × Unit)) × Unit)) k0 k0 (K0 (R := ((List (Int × Int × Int × Int × Int × Int × Unit)) × Unit)) k0 ((finK Tryz.prog [.tmp 2] ins_spec_ReportRows outs_spec_ReportRows (s0, s1, s2, s3, s4, s5, s6, ()))))) s0 s1 s2 s3 s4 s5 s6 := by kernel_rfl
noncomputable def G0 {R : Type} (k0 : Nat) (hx0 : ((List (Int × Int × Int × Int × Int × Int × Unit)) → Option R)) : Nat → Int → Int → Int → Int → Int → (List (Int × Int × Int × Int × Unit)) → (List (Int × Int × Int × Int × Unit)) → (List (Int × Int × Int × Unit)) → (List (Int × Int × Int × Int × Int × Int × Unit)) → (List (Int × Int × Unit)) → Option R
  | 0, _, _, _, _, _, _, _, _, _, _ => none
  | k + 1, i, s, s7, s8, s9, s10, s11, s12, out, parts => R0 (G0 k0 hx0 k) hx0 i s s7 s8 s9 s10 s11 s12 out parts
theorem zg0 {R : Type} (k0 : Nat) (K : Kont R) : ∀ k : Nat, L0 k0 k K = G0 k0 (fun out => K (.exit 0) [(3, .own 0)] [.arr ct5 out]) k := by
  intro k
  induction k with
  | zero => funext i s s7 s8 s9 s10 s11 s12 out parts; rfl
  | succ k ih => funext i s s7 s8 s9 s10 s11 s12 out parts; rw [zs0, G0]; (try simp only [ih]); try rfl
noncomputable def FF (k0 : Nat) (s0 s1 s2 s3 : Int) (s4 s5 : List (Int × Int × Int × Int × Unit)) (s6 : List (Int × Int × Int × Unit)) : Option ((List (Int × Int × Int × Int × Int × Int × Unit)) × Unit) := T (G0 k0 (A0  s0 s1 s2 s3 s4 s5 s6) k0) s0 s1 s2 s3 s4 s5 s6
theorem zrun (k0 : Nat) (s0 s1 s2 s3 : Int) (s4 s5 : List (Int × Int × Int × Int × Unit)) (s6 : List (Int × Int × Int × Unit)) : runFn Tryz.prog ztbl zcfg k0 5 ins_spec_ReportRows outs_spec_ReportRows [] (s0, s1, s2, s3, s4, s5, s6, ()) = FF k0 s0 s1 s2 s3 s4 s5 s6 := by
  rw [ztop, FF]; (try simp only [zg0, za0]); try rfl
noncomputable def _root_.Go.Rv.F_spec_ReportRows : Int × Int × Int × Int × (List (Int × Int × Int × Int × Unit)) × (List (Int × Int × Int × Int × Unit)) × (List (Int × Int × Int × Unit)) × Unit → Option ((List (Int × Int × Int × Int × Int × Int × Unit)) × Unit) := fun x => (fun (s0 s1 s2 s3 : Int) (s4 s5 : List (Int × Int × Int × Int × Unit)) (s6 : List (Int × Int × Int × Unit)) => FF (300 + s4.length + s5.length + s6.length) s0 s1 s2 s3 s4 s5 s6) x.1 x.2.1 x.2.2.1 x.2.2.2.1 x.2.2.2.2.1 x.2.2.2.2.2.1 x.2.2.2.2.2.2.1
theorem ztblOK : ∀ g fs S, ztbl g fs = some S → SumOK Dr Tryz.prog g S := by
  intro g fs S h
  unfold ztbl at h
  split at h
  · rename_i hc; obtain ⟨rfl, rfl⟩ := hc; have := Option.some.inj h; subst this; exact ok_spec_ServerRight
  split at h
  · rename_i hc; obtain ⟨rfl, rfl⟩ := hc; have := Option.some.inj h; subst this; exact ok_spec_FarmShares
  cases h
theorem _root_.Go.Rv.ok_spec_ReportRows : SumOK Dr Tryz.prog 5 ⟨ins_spec_ReportRows, outs_spec_ReportRows, F_spec_ReportRows, []⟩ := runFn_ok (by kernel_rfl) ztblOK (by kernel_rfl) fun x y h => ⟨zcfg, _, (zrun _ x.1 x.2.1 x.2.2.1 x.2.2.2.1 x.2.2.2.2.1 x.2.2.2.2.2.1 x.2.2.2.2.2.2.1).trans h⟩
end spec_ReportRows
abbrev ins_laws_toGroup : List Par := [.v true ct2]
abbrev outs_laws_toGroup : List (Bool × List CT) := [(true, ct2)]
namespace laws_toGroup
/-! ### loop.example/g00095/laws.toGroup (function 51) -/
noncomputable def ztbl : Tbl := fun g fs => none
noncomputable def zbody : Code := ((Tryz.prog.funcs[51]?).bind (·.body)).getD .skip
def zcfg : Nat → List Nat × List Nat := fun k => ([], [])
noncomputable def T  (a0 a1 a2 a3 : Int) : Option (Int × Int × Int × Int × Unit) := some (a0, a1, a2, a3, ())
theorem ztop (k0 : Nat) (a0 a1 a2 a3 : Int) : runFn Tryz.prog ztbl zcfg k0 51 ins_laws_toGroup outs_laws_toGroup [] (a0, a1, a2, a3, ()) = T  a0 a1 a2 a3 := by kernel_rfl
noncomputable def _root_.Go.Rv.F_laws_toGroup : Int × Int × Int × Int × Unit → Option (Int × Int × Int × Int × Unit) := fun x => T x.1 x.2.1 x.2.2.1 x.2.2.2.1
theorem ztblOK : ∀ g fs S, ztbl g fs = some S → SumOK Dr Tryz.prog g S := by
  intro g fs S h
  unfold ztbl at h
  cases h
theorem _root_.Go.Rv.ok_laws_toGroup : SumOK Dr Tryz.prog 51 ⟨ins_laws_toGroup, outs_laws_toGroup, F_laws_toGroup, []⟩ := runFn_ok (by kernel_rfl) ztblOK (by kernel_rfl) fun x y h => ⟨zcfg, 0, (ztop 0 x.1 x.2.1 x.2.2.1 x.2.2.2.1).trans h⟩
end laws_toGroup
abbrev ins_laws_toGroupS : List Par := [.v false [CT.sl ct2]]
abbrev outs_laws_toGroupS : List (Bool × List CT) := [(false, [CT.sl ct2])]
namespace laws_toGroupS
/-! ### loop.example/g00095/laws.toGroupS (function 32) -/
noncomputable def ztbl : Tbl := fun g fs => if g = 51 ∧ fs = [] then some ⟨ins_laws_toGroup, outs_laws_toGroup, F_laws_toGroup, []⟩ else none
noncomputable def zbody : Code := ((Tryz.prog.funcs[32]?).bind (·.body)).getD .skip
def zcfg : Nat → List Nat × List Nat := fun k => if k = 3 then ([0, 3, 4], [3]) else ([], [])
noncomputable def R0 {R : Type} (nx0 : ((List (Int × Int × Int × Int × Unit)) → Int → (List (Int × Int × Int × Int × Unit)) → Option R)) (ex0 : ((List (Int × Int × Int × Int × Unit)) → Option R)) (a2 : List (Int × Int × Int × Int × Unit)) (i : Int) (out : List (Int × Int × Int × Int × Unit)) : Option R := cond (decide (i < (a2.length : Int))) (if 0 ≤ i ∧ i < (a2.length : Int) then (F_laws_toGroup ((rd (0, 0, 0, 0, ()) a2 i).1, (rd (0, 0, 0, 0, ()) a2 i).2.1, (rd (0, 0, 0, 0, ()) a2 i).2.2.1, (rd (0, 0, 0, 0, ()) a2 i).2.2.2.1, ())).bind fun y1 => if 0 ≤ i ∧ i < (out.length : Int) then nx0 a2 (w64 (i + 1)) (out.set i.toNat (y1.1, y1.2.1, y1.2.2.1, y1.2.2.2.1, ())) else none else none) (ex0 out)
noncomputable def A0  (a : List (Int × Int × Int × Int × Unit)) (out : List (Int × Int × Int × Int × Unit)) : Option ((List (Int × Int × Int × Int × Unit)) × Unit) := some (out, ())
noncomputable def T (lo0 : ((List (Int × Int × Int × Int × Unit)) → Int → (List (Int × Int × Int × Int × Unit)) → Option ((List (Int × Int × Int × Int × Unit)) × Unit))) (a : List (Int × Int × Int × Int × Unit)) : Option ((List (Int × Int × Int × Int × Unit)) × Unit) := if 0 ≤ (a.length : Int) ∧ (32 : Int) * (a.length : Int) ≤ 281474976710656 ∧ (a.length : Int) ≤ 9223372036854775807 then lo0 a 0 (List.replicate (((a.length : Int) : Int)).toNat (0, 0, 0, 0, ())) else none
noncomputable def zst0 {R : Type} (k0 : Nat) : Env → List Ob → Kont R → Option R := fun env ob K => runCode Tryz.prog ztbl 23 0 zcfg k0 (codeAt [1, 1, 0, 1, 0, 0] zbody) env ob K
noncomputable def K0 {R : Type} (k0 : Nat) (K : Kont R) : Kont R := blockK 0 (seqK (fun env ob => runCode Tryz.prog ztbl 23 0 zcfg k0 (codeAt [1, 1, 1] zbody) env ob (K)) (K))
noncomputable def L0 {R : Type} (k0 k : Nat) (K : Kont R) (a2 : List (Int × Int × Int × Int × Unit)) (i : Int) (out : List (Int × Int × Int × Int × Unit)) : Option R := iter 0 [0, 3, 4] [3] (zst0 k0) k [(0, .sl ct2 a2), (3, .own 0), (4, .int .i64 i)] [.arr ct2 out] K
theorem zs0 {R : Type} (k0 k : Nat) (K : Kont R) (a2 : List (Int × Int × Int × Int × Unit)) (i : Int) (out : List (Int × Int × Int × Int × Unit)) : L0 k0 (k + 1) K a2 i out = R0 (L0 k0 k K) (fun out => K (.exit 0) [(3, .own 0)] [.arr ct2 out]) a2 i out := by kernel_rfl
theorem za0 (k0 : Nat) (a : List (Int × Int × Int × Int × Unit)) (out : List (Int × Int × Int × Int × Unit)) : K0 (R := ((List (Int × Int × Int × Int × Unit)) × Unit)) k0 (finK Tryz.prog [.tmp 2] ins_laws_toGroupS outs_laws_toGroupS (a, ())) (.exit 0) [(3, .own 0)] [.arr ct2 out] = A0  a out := by kernel_rfl
theorem ztop (k0 : Nat) (a : List (Int × Int × Int × Int × Unit)) : runFn Tryz.prog ztbl zcfg k0 32 ins_laws_toGroupS outs_laws_toGroupS [] (a, ()) = T (L0 (R := ((List (Int × Int × Int × Int × Unit)) × Unit)) k0 k0 (K0 (R := ((List (Int × Int × Int × Int × Unit)) × Unit)) k0 ((finK Tryz.prog [.tmp 2] ins_laws_toGroupS outs_laws_toGroupS (a, ()))))) a := by kernel_rfl
noncomputable def G0 {R : Type} (k0 : Nat) (hx0 : ((List (Int × Int × Int × Int × Unit)) → Option R)) : Nat → (List (Int × Int × Int × Int × Unit)) → Int → (List (Int × Int × Int × Int × Unit)) → Option R
  | 0, _, _, _ => none
  | k + 1, a2, i, out => R0 (G0 k0 hx0 k) hx0 a2 i out
theorem zg0 {R : Type} (k0 : Nat) (K : Kont R) : ∀ k : Nat, L0 k0 k K = G0 k0 (fun out => K (.exit 0) [(3, .own 0)] [.arr ct2 out]) k := by
  intro k
  induction k with
  | zero => funext a2 i out; rfl
  | succ k ih => funext a2 i out; rw [zs0, G0]; (try simp only [ih]); try rfl
noncomputable def FF (k0 : Nat) (a : List (Int × Int × Int × Int × Unit)) : Option ((List (Int × Int × Int × Int × Unit)) × Unit) := T (G0 k0 (A0  a) k0) a
theorem zrun (k0 : Nat) (a : List (Int × Int × Int × Int × Unit)) : runFn Tryz.prog ztbl zcfg k0 32 ins_laws_toGroupS outs_laws_toGroupS [] (a, ()) = FF k0 a := by
  rw [ztop, FF]; (try simp only [zg0, za0]); try rfl
noncomputable def _root_.Go.Rv.F_laws_toGroupS : (List (Int × Int × Int × Int × Unit)) × Unit → Option ((List (Int × Int × Int × Int × Unit)) × Unit) := fun x => (fun (a : List (Int × Int × Int × Int × Unit)) => FF (300 + a.length) a) x.1
theorem ztblOK : ∀ g fs S, ztbl g fs = some S → SumOK Dr Tryz.prog g S := by
  intro g fs S h
  unfold ztbl at h
  split at h
  · rename_i hc; obtain ⟨rfl, rfl⟩ := hc; have := Option.some.inj h; subst this; exact ok_laws_toGroup
  cases h
theorem _root_.Go.Rv.ok_laws_toGroupS : SumOK Dr Tryz.prog 32 ⟨ins_laws_toGroupS, outs_laws_toGroupS, F_laws_toGroupS, []⟩ := runFn_ok (by kernel_rfl) ztblOK (by kernel_rfl) fun x y h => ⟨zcfg, _, (zrun _ x.1).trans h⟩
end laws_toGroupS
abbrev ins_laws_toMember : List Par := [.v true ct2]
abbrev outs_laws_toMember : List (Bool × List CT) := [(true, ct2)]
namespace laws_toMember
/-! ### loop.example/g00095/laws.toMember (function 52) -/
noncomputable def ztbl : Tbl := fun g fs => none
noncomputable def zbody : Code := ((Tryz.prog.funcs[52]?).bind (·.body)).getD .skip
def zcfg : Nat → List Nat × List Nat := fun k => ([], [])
noncomputable def T  (a0 a1 a2 a3 : Int) : Option (Int × Int × Int × Int × Unit) := some (a0, a1, a2, a3, ())
theorem ztop (k0 : Nat) (a0 a1 a2 a3 : Int) : runFn Tryz.prog ztbl zcfg k0 52 ins_laws_toMember outs_laws_toMember [] (a0, a1, a2, a3, ()) = T  a0 a1 a2 a3 := by kernel_rfl
noncomputable def _root_.Go.Rv.F_laws_toMember : Int × Int × Int × Int × Unit → Option (Int × Int × Int × Int × Unit) := fun x => T x.1 x.2.1 x.2.2.1 x.2.2.2.1
theorem ztblOK : ∀ g fs S, ztbl g fs = some S → SumOK Dr Tryz.prog g S := by
  intro g fs S h
  unfold ztbl at h
  cases h
theorem _root_.Go.Rv.ok_laws_toMember : SumOK Dr Tryz.prog 52 ⟨ins_laws_toMember, outs_laws_toMember, F_laws_toMember, []⟩ := runFn_ok (by kernel_rfl) ztblOK (by kernel_rfl) fun x y h => ⟨zcfg, 0, (ztop 0 x.1 x.2.1 x.2.2.1 x.2.2.2.1).trans h⟩
end laws_toMember
abbrev ins_laws_toMemberS : List Par := [.v false [CT.sl ct2]]
abbrev outs_laws_toMemberS : List (Bool × List CT) := [(false, [CT.sl ct2])]
namespace laws_toMemberS
/-! ### loop.example/g00095/laws.toMemberS (function 33) -/
noncomputable def ztbl : Tbl := fun g fs => if g = 52 ∧ fs = [] then some ⟨ins_laws_toMember, outs_laws_toMember, F_laws_toMember, []⟩ else none
noncomputable def zbody : Code := ((Tryz.prog.funcs[33]?).bind (·.body)).getD .skip
def zcfg : Nat → List Nat × List Nat := fun k => if k = 3 then ([0, 3, 4], [3]) else ([], [])
noncomputable def R0 {R : Type} (nx0 : ((List (Int × Int × Int × Int × Unit)) → Int → (List (Int × Int × Int × Int × Unit)) → Option R)) (ex0 : ((List (Int × Int × Int × Int × Unit)) → Option R)) (a2 : List (Int × Int × Int × Int × Unit)) (i : Int) (out : List (Int × Int × Int × Int × Unit)) : Option R := cond (decide (i < (a2.length : Int))) (if 0 ≤ i ∧ i < (a2.length : Int) then (F_laws_toMember ((rd (0, 0, 0, 0, ()) a2 i).1, (rd (0, 0, 0, 0, ()) a2 i).2.1, (rd (0, 0, 0, 0, ()) a2 i).2.2.1, (rd (0, 0, 0, 0, ()) a2 i).2.2.2.1, ())).bind fun y1 => if 0 ≤ i ∧ i < (out.length : Int) then nx0 a2 (w64 (i + 1)) (out.set i.toNat (y1.1, y1.2.1, y1.2.2.1, y1.2.2.2.1, ())) else none else none) (ex0 out)
noncomputable def A0  (a : List (Int × Int × Int × Int × Unit)) (out : List (Int × Int × Int × Int × Unit)) : Option ((List (Int × Int × Int × Int × Unit)) × Unit) := some (out, ())
noncomputable def T (lo0 : ((List (Int × Int × Int × Int × Unit)) → Int → (List (Int × Int × Int × Int × Unit)) → Option ((List (Int × Int × Int × Int × Unit)) × Unit))) (a : List (Int × Int × Int × Int × Unit)) : Option ((List (Int × Int × Int × Int × Unit)) × Unit) := if 0 ≤ (a.length : Int) ∧ (32 : Int) * (a.length : Int) ≤ 281474976710656 ∧ (a.length : Int) ≤ 9223372036854775807 then lo0 a 0 (List.replicate (((a.length : Int) : Int)).toNat (0, 0, 0, 0, ())) else none
noncomputable def zst0 {R : Type} (k0 : Nat) : Env → List Ob → Kont R → Option R := fun env ob K => runCode Tryz.prog ztbl 23 0 zcfg k0 (codeAt [1, 1, 0, 1, 0, 0] zbody) env ob K
noncomputable def K0 {R : Type} (k0 : Nat) (K : Kont R) : Kont R := blockK 0 (seqK (fun env ob => runCode Tryz.prog ztbl 23 0 zcfg k0 (codeAt [1, 1, 1] zbody) env ob (K)) (K))
noncomputable def L0 {R : Type} (k0 k : Nat) (K : Kont R) (a2 : List (Int × Int × Int × Int × Unit)) (i : Int) (out : List (Int × Int × Int × Int × Unit)) : Option R := iter 0 [0, 3, 4] [3] (zst0 k0) k [(0, .sl ct2 a2), (3, .own 0), (4, .int .i64 i)] [.arr ct2 out] K
theorem zs0 {R : Type} (k0 k : Nat) (K : Kont R) (a2 : List (Int × Int × Int × Int × Unit)) (i : Int) (out : List (Int × Int × Int × Int × Unit)) : L0 k0 (k + 1) K a2 i out = R0 (L0 k0 k K) (fun out => K (.exit 0) [(3, .own 0)] [.arr ct2 out]) a2 i out := by kernel_rfl
theorem za0 (k0 : Nat) (a : List (Int × Int × Int × Int × Unit)) (out : List (Int × Int × Int × Int × Unit)) : K0 (R := ((List (Int × Int × Int × Int × Unit)) × Unit)) k0 (finK Tryz.prog [.tmp 2] ins_laws_toMemberS outs_laws_toMemberS (a, ())) (.exit 0) [(3, .own 0)] [.arr ct2 out] = A0  a out := by kernel_rfl
theorem ztop (k0 : Nat) (a : List (Int × Int × Int × Int × Unit)) : runFn Tryz.prog ztbl zcfg k0 33 ins_laws_toMemberS outs_laws_toMemberS [] (a, ()) = T (L0 (R := ((List (Int × Int × Int × Int × Unit)) × Unit)) k0 k0 (K0 (R := ((List (Int × Int × Int × Int × Unit)) × Unit)) k0 ((finK Tryz.prog [.tmp 2] ins_laws_toMemberS outs_laws_toMemberS (a, ()))))) a := by kernel_rfl
noncomputable def G0 {R : Type} (k0 : Nat) (hx0 : ((List (Int × Int × Int × Int × Unit)) → Option R)) : Nat → (List (Int × Int × Int × Int × Unit)) → Int → (List (Int × Int × Int × Int × Unit)) → Option R
  | 0, _, _, _ => none
  | k + 1, a2, i, out => R0 (G0 k0 hx0 k) hx0 a2 i out
theorem zg0 {R : Type} (k0 : Nat) (K : Kont R) : ∀ k : Nat, L0 k0 k K = G0 k0 (fun out => K (.exit 0) [(3, .own 0)] [.arr ct2 out]) k := by
  intro k
  induction k with
  | zero => funext a2 i out; rfl
  | succ k ih => funext a2 i out; rw [zs0, G0]; (try simp only [ih]); try rfl
noncomputable def FF (k0 : Nat) (a : List (Int × Int × Int × Int × Unit)) : Option ((List (Int × Int × Int × Int × Unit)) × Unit) := T (G0 k0 (A0  a) k0) a
theorem zrun (k0 : Nat) (a : List (Int × Int × Int × Int × Unit)) : runFn Tryz.prog ztbl zcfg k0 33 ins_laws_toMemberS outs_laws_toMemberS [] (a, ()) = FF k0 a := by
  rw [ztop, FF]; (try simp only [zg0, za0]); try rfl
noncomputable def _root_.Go.Rv.F_laws_toMemberS : (List (Int × Int × Int × Int × Unit)) × Unit → Option ((List (Int × Int × Int × Int × Unit)) × Unit) := fun x => (fun (a : List (Int × Int × Int × Int × Unit)) => FF (300 + a.length) a) x.1
theorem ztblOK : ∀ g fs S, ztbl g fs = some S → SumOK Dr Tryz.prog g S := by
  intro g fs S h
  unfold ztbl at h
  split at h
  · rename_i hc; obtain ⟨rfl, rfl⟩ := hc; have := Option.some.inj h; subst this; exact ok_laws_toMember
  cases h
theorem _root_.Go.Rv.ok_laws_toMemberS : SumOK Dr Tryz.prog 33 ⟨ins_laws_toMemberS, outs_laws_toMemberS, F_laws_toMemberS, []⟩ := runFn_ok (by kernel_rfl) ztblOK (by kernel_rfl) fun x y h => ⟨zcfg, _, (zrun _ x.1).trans h⟩
end laws_toMemberS
abbrev ins_laws_toFarm : List Par := [.v true ct4]
abbrev outs_laws_toFarm : List (Bool × List CT) := [(true, ct4)]
namespace laws_toFarm
/-! ### loop.example/g00095/laws.toFarm (function 17) -/
noncomputable def ztbl : Tbl := fun g fs => if g = 32 ∧ fs = [] then some ⟨ins_laws_toGroupS, outs_laws_toGroupS, F_laws_toGroupS, []⟩ else if g = 33 ∧ fs = [] then some ⟨ins_laws_toMemberS, outs_laws_toMemberS, F_laws_toMemberS, []⟩ else none
noncomputable def zbody : Code := ((Tryz.prog.funcs[17]?).bind (·.body)).getD .skip
def zcfg : Nat → List Nat × List Nat := fun k => ([], [])
noncomputable def T  (a0 : Int) (a1 a2 : List (Int × Int × Int × Int × Unit)) : Option (Int × (List (Int × Int × Int × Int × Unit)) × (List (Int × Int × Int × Int × Unit)) × Unit) := (F_laws_toGroupS (a1, ())).bind fun y1 => (F_laws_toMemberS (a2, ())).bind fun y2 => some (a0, y1.1, y2.1, ())
theorem ztop (k0 : Nat) (a0 : Int) (a1 a2 : List (Int × Int × Int × Int × Unit)) : runFn Tryz.prog ztbl zcfg k0 17 ins_laws_toFarm outs_laws_toFarm [] (a0, a1, a2, ()) = T  a0 a1 a2 := by kernel_rfl
noncomputable def _root_.Go.Rv.F_laws_toFarm : Int × (List (Int × Int × Int × Int × Unit)) × (List (Int × Int × Int × Int × Unit)) × Unit → Option (Int × (List (Int × Int × Int × Int × Unit)) × (List (Int × Int × Int × Int × Unit)) × Unit) := fun x => T x.1 x.2.1 x.2.2.1
theorem ztblOK : ∀ g fs S, ztbl g fs = some S → SumOK Dr Tryz.prog g S := by
  intro g fs S h
  unfold ztbl at h
  split at h
  · rename_i hc; obtain ⟨rfl, rfl⟩ := hc; have := Option.some.inj h; subst this; exact ok_laws_toGroupS
  split at h
  · rename_i hc; obtain ⟨rfl, rfl⟩ := hc; have := Option.some.inj h; subst this; exact ok_laws_toMemberS
  cases h
theorem _root_.Go.Rv.ok_laws_toFarm : SumOK Dr Tryz.prog 17 ⟨ins_laws_toFarm, outs_laws_toFarm, F_laws_toFarm, []⟩ := runFn_ok (by kernel_rfl) ztblOK (by kernel_rfl) fun x y h => ⟨zcfg, 0, (ztop 0 x.1 x.2.1 x.2.2.1).trans h⟩
end laws_toFarm
abbrev ins_laws_toLease : List Par := [.v true ct0]
abbrev outs_laws_toLease : List (Bool × List CT) := [(true, ct0)]
namespace laws_toLease
/-! ### loop.example/g00095/laws.toLease (function 34) -/
noncomputable def ztbl : Tbl := fun g fs => none
noncomputable def zbody : Code := ((Tryz.prog.funcs[34]?).bind (·.body)).getD .skip
def zcfg : Nat → List Nat × List Nat := fun k => ([], [])
noncomputable def T  (a0 a1 a2 : Int) : Option (Int × Int × Int × Unit) := some (a0, a1, a2, ())
theorem ztop (k0 : Nat) (a0 a1 a2 : Int) : runFn Tryz.prog ztbl zcfg k0 34 ins_laws_toLease outs_laws_toLease [] (a0, a1, a2, ()) = T  a0 a1 a2 := by kernel_rfl
noncomputable def _root_.Go.Rv.F_laws_toLease : Int × Int × Int × Unit → Option (Int × Int × Int × Unit) := fun x => T x.1 x.2.1 x.2.2.1
theorem ztblOK : ∀ g fs S, ztbl g fs = some S → SumOK Dr Tryz.prog g S := by
  intro g fs S h
  unfold ztbl at h
  cases h
theorem _root_.Go.Rv.ok_laws_toLease : SumOK Dr Tryz.prog 34 ⟨ins_laws_toLease, outs_laws_toLease, F_laws_toLease, []⟩ := runFn_ok (by kernel_rfl) ztblOK (by kernel_rfl) fun x y h => ⟨zcfg, 0, (ztop 0 x.1 x.2.1 x.2.2.1).trans h⟩
end laws_toLease
abbrev ins_laws_toLeaseS : List Par := [.v false [CT.sl ct0]]
abbrev outs_laws_toLeaseS : List (Bool × List CT) := [(false, [CT.sl ct0])]
namespace laws_toLeaseS
/-! ### loop.example/g00095/laws.toLeaseS (function 18) -/
noncomputable def ztbl : Tbl := fun g fs => if g = 34 ∧ fs = [] then some ⟨ins_laws_toLease, outs_laws_toLease, F_laws_toLease, []⟩ else none
noncomputable def zbody : Code := ((Tryz.prog.funcs[18]?).bind (·.body)).getD .skip
def zcfg : Nat → List Nat × List Nat := fun k => if k = 3 then ([0, 3, 4], [3]) else ([], [])
noncomputable def R0 {R : Type} (nx0 : ((List (Int × Int × Int × Unit)) → Int → (List (Int × Int × Int × Unit)) → Option R)) (ex0 : ((List (Int × Int × Int × Unit)) → Option R)) (a2 : List (Int × Int × Int × Unit)) (i : Int) (out : List (Int × Int × Int × Unit)) : Option R := cond (decide (i < (a2.length : Int))) (if 0 ≤ i ∧ i < (a2.length : Int) then (F_laws_toLease ((rd (0, 0, 0, ()) a2 i).1, (rd (0, 0, 0, ()) a2 i).2.1, (rd (0, 0, 0, ()) a2 i).2.2.1, ())).bind fun y1 => if 0 ≤ i ∧ i < (out.length : Int) then nx0 a2 (w64 (i + 1)) (out.set i.toNat (y1.1, y1.2.1, y1.2.2.1, ())) else none else none) (ex0 out)
noncomputable def A0  (a : List (Int × Int × Int × Unit)) (out : List (Int × Int × Int × Unit)) : Option ((List (Int × Int × Int × Unit)) × Unit) := some (out, ())
noncomputable def T (lo0 : ((List (Int × Int × Int × Unit)) → Int → (List (Int × Int × Int × Unit)) → Option ((List (Int × Int × Int × Unit)) × Unit))) (a : List (Int × Int × Int × Unit)) : Option ((List (Int × Int × Int × Unit)) × Unit) := if 0 ≤ (a.length : Int) ∧ (24 : Int) * (a.length : Int) ≤ 281474976710656 ∧ (a.length : Int) ≤ 9223372036854775807 then lo0 a 0 (List.replicate (((a.length : Int) : Int)).toNat (0, 0, 0, ())) else none
noncomputable def zst0 {R : Type} (k0 : Nat) : Env → List Ob → Kont R → Option R := fun env ob K => runCode Tryz.prog ztbl 23 0 zcfg k0 (codeAt [1, 1, 0, 1, 0, 0] zbody) env ob K
noncomputable def K0 {R : Type} (k0 : Nat) (K : Kont R) : Kont R := blockK 0 (seqK (fun env ob => runCode Tryz.prog ztbl 23 0 zcfg k0 (codeAt [1, 1, 1] zbody) env ob (K)) (K))
noncomputable def L0 {R : Type} (k0 k : Nat) (K : Kont R) (a2 : List (Int × Int × Int × Unit)) (i : Int) (out : List (Int × Int × Int × Unit)) : Option R := iter 0 [0, 3, 4] [3] (zst0 k0) k [(0, .sl ct0 a2), (3, .own 0), (4, .int .i64 i)] [.arr ct0 out] K
theorem zs0 {R : Type} (k0 k : Nat) (K : Kont R) (a2 : List (Int × Int × Int × Unit)) (i : Int) (out : List (Int × Int × Int × Unit)) : L0 k0 (k + 1) K a2 i out = R0 (L0 k0 k K) (fun out => K (.exit 0) [(3, .own 0)] [.arr ct0 out]) a2 i out := by kernel_rfl
theorem za0 (k0 : Nat) (a : List (Int × Int × Int × Unit)) (out : List (Int × Int × Int × Unit)) : K0 (R := ((List (Int × Int × Int × Unit)) × Unit)) k0 (finK Tryz.prog [.tmp 2] ins_laws_toLeaseS outs_laws_toLeaseS (a, ())) (.exit 0) [(3, .own 0)] [.arr ct0 out] = A0  a out := by kernel_rfl
theorem ztop (k0 : Nat) (a : List (Int × Int × Int × Unit)) : runFn Tryz.prog ztbl zcfg k0 18 ins_laws_toLeaseS outs_laws_toLeaseS [] (a, ()) = T (L0 (R := ((List (Int × Int × Int × Unit)) × Unit)) k0 k0 (K0 (R := ((List (Int × Int × Int × Unit)) × Unit)) k0 ((finK Tryz.prog [.tmp 2] ins_laws_toLeaseS outs_laws_toLeaseS (a, ()))))) a := by kernel_rfl
noncomputable def G0 {R : Type} (k0 : Nat) (hx0 : ((List (Int × Int × Int × Unit)) → Option R)) : Nat → (List (Int × Int × Int × Unit)) → Int → (List (Int × Int × Int × Unit)) → Option R
  | 0, _, _, _ => none
  | k + 1, a2, i, out => R0 (G0 k0 hx0 k) hx0 a2 i out
theorem zg0 {R : Type} (k0 : Nat) (K : Kont R) : ∀ k : Nat, L0 k0 k K = G0 k0 (fun out => K (.exit 0) [(3, .own 0)] [.arr ct0 out]) k := by
  intro k
  induction k with
  | zero => funext a2 i out; rfl
  | succ k ih => funext a2 i out; rw [zs0, G0]; (try simp only [ih]); try rfl
noncomputable def FF (k0 : Nat) (a : List (Int × Int × Int × Unit)) : Option ((List (Int × Int × Int × Unit)) × Unit) := T (G0 k0 (A0  a) k0) a
theorem zrun (k0 : Nat) (a : List (Int × Int × Int × Unit)) : runFn Tryz.prog ztbl zcfg k0 18 ins_laws_toLeaseS outs_laws_toLeaseS [] (a, ()) = FF k0 a := by
  rw [ztop, FF]; (try simp only [zg0, za0]); try rfl
noncomputable def _root_.Go.Rv.F_laws_toLeaseS : (List (Int × Int × Int × Unit)) × Unit → Option ((List (Int × Int × Int × Unit)) × Unit) := fun x => (fun (a : List (Int × Int × Int × Unit)) => FF (300 + a.length) a) x.1
theorem ztblOK : ∀ g fs S, ztbl g fs = some S → SumOK Dr Tryz.prog g S := by
  intro g fs S h
  unfold ztbl at h
  split at h
  · rename_i hc; obtain ⟨rfl, rfl⟩ := hc; have := Option.some.inj h; subst this; exact ok_laws_toLease
  cases h
theorem _root_.Go.Rv.ok_laws_toLeaseS : SumOK Dr Tryz.prog 18 ⟨ins_laws_toLeaseS, outs_laws_toLeaseS, F_laws_toLeaseS, []⟩ := runFn_ok (by kernel_rfl) ztblOK (by kernel_rfl) fun x y h => ⟨zcfg, _, (zrun _ x.1).trans h⟩
end laws_toLeaseS
abbrev ins_laws_toServer : List Par := [.v true ct3]
abbrev outs_laws_toServer : List (Bool × List CT) := [(true, ct3)]
namespace laws_toServer
/-! ### loop.example/g00095/laws.toServer (function 6) -/
noncomputable def ztbl : Tbl := fun g fs => if g = 17 ∧ fs = [] then some ⟨ins_laws_toFarm, outs_laws_toFarm, F_laws_toFarm, []⟩ else if g = 18 ∧ fs = [] then some ⟨ins_laws_toLeaseS, outs_laws_toLeaseS, F_laws_toLeaseS, []⟩ else none
noncomputable def zbody : Code := ((Tryz.prog.funcs[6]?).bind (·.body)).getD .skip
def zcfg : Nat → List Nat × List Nat := fun k => ([], [])
noncomputable def T  (a0 a1 a2 a3 : Int) (a4 a5 : List (Int × Int × Int × Int × Unit)) (a6 : List (Int × Int × Int × Unit)) : Option (Int × Int × Int × Int × (List (Int × Int × Int × Int × Unit)) × (List (Int × Int × Int × Int × Unit)) × (List (Int × Int × Int × Unit)) × Unit) := (F_laws_toFarm (a3, a4, a5, ())).bind fun y1 => (F_laws_toLeaseS (a6, ())).bind fun y2 => some (a0, a1, a2, y1.1, y1.2.1, y1.2.2.1, y2.1, ())
theorem ztop (k0 : Nat) (a0 a1 a2 a3 : Int) (a4 a5 : List (Int × Int × Int × Int × Unit)) (a6 : List (Int × Int × Int × Unit)) : runFn Tryz.prog ztbl zcfg k0 6 ins_laws_toServer outs_laws_toServer [] (a0, a1, a2, a3, a4, a5, a6, ()) = T  a0 a1 a2 a3 a4 a5 a6 := by kernel_rfl
noncomputable def _root_.Go.Rv.F_laws_toServer : Int × Int × Int × Int × (List (Int × Int × Int × Int × Unit)) × (List (Int × Int × Int × Int × Unit)) × (List (Int × Int × Int × Unit)) × Unit → Option (Int × Int × Int × Int × (List (Int × Int × Int × Int × Unit)) × (List (Int × Int × Int × Int × Unit)) × (List (Int × Int × Int × Unit)) × Unit) := fun x => T x.1 x.2.1 x.2.2.1 x.2.2.2.1 x.2.2.2.2.1 x.2.2.2.2.2.1 x.2.2.2.2.2.2.1
theorem ztblOK : ∀ g fs S, ztbl g fs = some S → SumOK Dr Tryz.prog g S := by
  intro g fs S h
  unfold ztbl at h
  split at h
  · rename_i hc; obtain ⟨rfl, rfl⟩ := hc; have := Option.some.inj h; subst this; exact ok_laws_toFarm
  split at h
  · rename_i hc; obtain ⟨rfl, rfl⟩ := hc; have := Option.some.inj h; subst this; exact ok_laws_toLeaseS
  cases h
theorem _root_.Go.Rv.ok_laws_toServer : SumOK Dr Tryz.prog 6 ⟨ins_laws_toServer, outs_laws_toServer, F_laws_toServer, []⟩ := runFn_ok (by kernel_rfl) ztblOK (by kernel_rfl) fun x y h => ⟨zcfg, 0, (ztop 0 x.1 x.2.1 x.2.2.1 x.2.2.2.1 x.2.2.2.2.1 x.2.2.2.2.2.1 x.2.2.2.2.2.2.1).trans h⟩
end laws_toServer
abbrev ins_impl_in : List Par := [.v false [CT.int .i64], .v false [CT.int .i64], .v false [CT.int .i64]]
abbrev outs_impl_in : List (Bool × List CT) := [(false, [CT.bool])]
namespace impl_in
/-! ### loop.example/g00095/impl.in (function 35) -/
noncomputable def ztbl : Tbl := fun g fs => none
noncomputable def zbody : Code := ((Tryz.prog.funcs[35]?).bind (·.body)).getD .skip
def zcfg : Nat → List Nat × List Nat := fun k => ([], [])
noncomputable def T  (n low high : Int) : Option (Bool × Unit) := cond (decide (low ≤ n)) (some ((decide (n ≤ high)), ())) (some (false, ()))
theorem ztop (k0 : Nat) (n low high : Int) : runFn Tryz.prog ztbl zcfg k0 35 ins_impl_in outs_impl_in [] (n, low, high, ()) = T  n low high := by kernel_rfl
noncomputable def _root_.Go.Rv.F_impl_in : Int × Int × Int × Unit → Option (Bool × Unit) := fun x => T x.1 x.2.1 x.2.2.1
theorem ztblOK : ∀ g fs S, ztbl g fs = some S → SumOK Dr Tryz.prog g S := by
  intro g fs S h
  unfold ztbl at h
  cases h
theorem _root_.Go.Rv.ok_impl_in : SumOK Dr Tryz.prog 35 ⟨ins_impl_in, outs_impl_in, F_impl_in, []⟩ := runFn_ok (by kernel_rfl) ztblOK (by kernel_rfl) fun x y h => ⟨zcfg, 0, (ztop 0 x.1 x.2.1 x.2.2.1).trans h⟩
end impl_in
abbrev ins_impl_isWant : List Par := [.v false [CT.int .i64]]
abbrev outs_impl_isWant : List (Bool × List CT) := [(false, [CT.bool])]
namespace impl_isWant
/-! ### loop.example/g00095/impl.isWant (function 53) -/
noncomputable def ztbl : Tbl := fun g fs => if g = 35 ∧ fs = [] then some ⟨ins_impl_in, outs_impl_in, F_impl_in, []⟩ else none
noncomputable def zbody : Code := ((Tryz.prog.funcs[53]?).bind (·.body)).getD .skip
def zcfg : Nat → List Nat × List Nat := fun k => ([], [])
noncomputable def T  (n : Int) : Option (Bool × Unit) := (F_impl_in (n, 0, 1125899906842624, ())).bind fun y1 => some (y1.1, ())
theorem ztop (k0 : Nat) (n : Int) : runFn Tryz.prog ztbl zcfg k0 53 ins_impl_isWant outs_impl_isWant [] (n, ()) = T  n := by kernel_rfl
noncomputable def _root_.Go.Rv.F_impl_isWant : Int × Unit → Option (Bool × Unit) := fun x => T x.1
theorem ztblOK : ∀ g fs S, ztbl g fs = some S → SumOK Dr Tryz.prog g S := by
  intro g fs S h
  unfold ztbl at h
  split at h
  · rename_i hc; obtain ⟨rfl, rfl⟩ := hc; have := Option.some.inj h; subst this; exact ok_impl_in
  cases h
theorem _root_.Go.Rv.ok_impl_isWant : SumOK Dr Tryz.prog 53 ⟨ins_impl_isWant, outs_impl_isWant, F_impl_isWant, []⟩ := runFn_ok (by kernel_rfl) ztblOK (by kernel_rfl) fun x y h => ⟨zcfg, 0, (ztop 0 x.1).trans h⟩
end impl_isWant
abbrev ins_impl_isId : List Par := [.v false [CT.int .i64]]
abbrev outs_impl_isId : List (Bool × List CT) := [(false, [CT.bool])]
namespace impl_isId
/-! ### loop.example/g00095/impl.isId (function 54) -/
noncomputable def ztbl : Tbl := fun g fs => if g = 35 ∧ fs = [] then some ⟨ins_impl_in, outs_impl_in, F_impl_in, []⟩ else none
noncomputable def zbody : Code := ((Tryz.prog.funcs[54]?).bind (·.body)).getD .skip
def zcfg : Nat → List Nat × List Nat := fun k => ([], [])
noncomputable def T  (n : Int) : Option (Bool × Unit) := (F_impl_in (n, 1, 1000000, ())).bind fun y1 => some (y1.1, ())
theorem ztop (k0 : Nat) (n : Int) : runFn Tryz.prog ztbl zcfg k0 54 ins_impl_isId outs_impl_isId [] (n, ()) = T  n := by kernel_rfl
noncomputable def _root_.Go.Rv.F_impl_isId : Int × Unit → Option (Bool × Unit) := fun x => T x.1
theorem ztblOK : ∀ g fs S, ztbl g fs = some S → SumOK Dr Tryz.prog g S := by
  intro g fs S h
  unfold ztbl at h
  split at h
  · rename_i hc; obtain ⟨rfl, rfl⟩ := hc; have := Option.some.inj h; subst this; exact ok_impl_in
  cases h
theorem _root_.Go.Rv.ok_impl_isId : SumOK Dr Tryz.prog 54 ⟨ins_impl_isId, outs_impl_isId, F_impl_isId, []⟩ := runFn_ok (by kernel_rfl) ztblOK (by kernel_rfl) fun x y h => ⟨zcfg, 0, (ztop 0 x.1).trans h⟩
end impl_isId
abbrev ins_impl_Farm_group_1 : List Par := [.v true ct2, .v false [CT.int .i64]]
abbrev outs_impl_Farm_group_1 : List (Bool × List CT) := [(false, [CT.int .i64])]
namespace impl_Farm_group_1
/-! ### (loop.example/g00095/impl.Farm).group$1 (function 79) -/
noncomputable def ztbl : Tbl := fun g fs => if g = 80 ∧ fs = [] then some ⟨ins_cmp_Compare_int64, outs_cmp_Compare_int64, F_cmp_Compare_int64, []⟩ else none
noncomputable def zbody : Code := ((Tryz.prog.funcs[79]?).bind (·.body)).getD .skip
def zcfg : Nat → List Nat × List Nat := fun k => ([], [])
noncomputable def T  (g0 g1 g2 g3 id : Int) : Option (Int × Unit) := (F_cmp_Compare_int64 (g0, id, ())).bind fun y1 => some (y1.1, ())
theorem ztop (k0 : Nat) (g0 g1 g2 g3 id : Int) : runFn Tryz.prog ztbl zcfg k0 79 ins_impl_Farm_group_1 outs_impl_Farm_group_1 [] (g0, g1, g2, g3, id, ()) = T  g0 g1 g2 g3 id := by kernel_rfl
noncomputable def _root_.Go.Rv.F_impl_Farm_group_1 : Int × Int × Int × Int × Int × Unit → Option (Int × Unit) := fun x => T x.1 x.2.1 x.2.2.1 x.2.2.2.1 x.2.2.2.2.1
theorem ztblOK : ∀ g fs S, ztbl g fs = some S → SumOK Dr Tryz.prog g S := by
  intro g fs S h
  unfold ztbl at h
  split at h
  · rename_i hc; obtain ⟨rfl, rfl⟩ := hc; have := Option.some.inj h; subst this; exact ok_cmp_Compare_int64
  cases h
theorem _root_.Go.Rv.ok_impl_Farm_group_1 : SumOK Dr Tryz.prog 79 ⟨ins_impl_Farm_group_1, outs_impl_Farm_group_1, F_impl_Farm_group_1, []⟩ := runFn_ok (by kernel_rfl) ztblOK (by kernel_rfl) fun x y h => ⟨zcfg, 0, (ztop 0 x.1 x.2.1 x.2.2.1 x.2.2.2.1 x.2.2.2.2.1).trans h⟩
end impl_Farm_group_1
abbrev ins_slices_BinarySearchFunc_impl_Group_impl_Group_int64_at_impl_Farm_group_1 : List Par := [.v false [CT.sl ct2], .v false [CT.int .i64], .cl 79 []]
abbrev outs_slices_BinarySearchFunc_impl_Group_impl_Group_int64_at_impl_Farm_group_1 : List (Bool × List CT) := [(false, [CT.int .i64]), (false, [CT.bool])]
namespace slices_BinarySearchFunc_impl_Group_impl_Group_int64_at_impl_Farm_group_1
/-! ### slices.BinarySearchFunc[[]loop.example/g00095/impl.Group,loop.example/g00095/impl.Group,int64] (function 78) -/
noncomputable def ztbl : Tbl := fun g fs => if g = 79 ∧ fs = [] then some ⟨ins_impl_Farm_group_1, outs_impl_Farm_group_1, F_impl_Farm_group_1, []⟩ else none
noncomputable def zbody : Code := ((Tryz.prog.funcs[78]?).bind (·.body)).getD .skip
def zcfg : Nat → List Nat × List Nat := fun k => if k = 3 then ([0, 1, 2, 8, 9, 10], [0, 1, 2, 8, 9]) else ([], [])
noncomputable def R0 {R : Type} (nx0 : ((List (Int × Int × Int × Int × Unit)) → Int → Int → Int → Int → Option R)) (ex0 : ((List (Int × Int × Int × Int × Unit)) → Int → Int → Int → Option R)) (x2 : List (Int × Int × Int × Int × Unit)) (target2 n i j : Int) : Option R := cond (decide (i < j)) (if 0 ≤ (w64 ((Int.fdiv (IntKind.u64.wrap ((w64 (i + j)))) (2 ^ 1)))) ∧ (w64 ((Int.fdiv (IntKind.u64.wrap ((w64 (i + j)))) (2 ^ 1)))) < (x2.length : Int) then (F_impl_Farm_group_1 ((rd (0, 0, 0, 0, ()) x2 (w64 ((Int.fdiv (IntKind.u64.wrap ((w64 (i + j)))) (2 ^ 1))))).1, (rd (0, 0, 0, 0, ()) x2 (w64 ((Int.fdiv (IntKind.u64.wrap ((w64 (i + j)))) (2 ^ 1))))).2.1, (rd (0, 0, 0, 0, ()) x2 (w64 ((Int.fdiv (IntKind.u64.wrap ((w64 (i + j)))) (2 ^ 1))))).2.2.1, (rd (0, 0, 0, 0, ()) x2 (w64 ((Int.fdiv (IntKind.u64.wrap ((w64 (i + j)))) (2 ^ 1))))).2.2.2.1, target2, ())).bind fun y1 => cond (decide (y1.1 < 0)) (nx0 x2 target2 n (w64 ((w64 ((Int.fdiv (IntKind.u64.wrap ((w64 (i + j)))) (2 ^ 1)))) + 1)) j) (nx0 x2 target2 n i (w64 ((Int.fdiv (IntKind.u64.wrap ((w64 (i + j)))) (2 ^ 1))))) else none) (ex0 x2 target2 n i)
noncomputable def A0  (x : List (Int × Int × Int × Int × Unit)) (target : Int) (x2 : List (Int × Int × Int × Int × Unit)) (target2 n i : Int) : Option (Int × Bool × Unit) := cond (decide (i < n)) (if 0 ≤ i ∧ i < (x2.length : Int) then (F_impl_Farm_group_1 ((rd (0, 0, 0, 0, ()) x2 i).1, (rd (0, 0, 0, 0, ()) x2 i).2.1, (rd (0, 0, 0, 0, ()) x2 i).2.2.1, (rd (0, 0, 0, 0, ()) x2 i).2.2.2.1, target2, ())).bind fun y1 => some (i, (y1.1 == 0), ()) else none) (some (i, false, ()))
noncomputable def T (lo0 : ((List (Int × Int × Int × Int × Unit)) → Int → Int → Int → Int → Option (Int × Bool × Unit))) (x : List (Int × Int × Int × Int × Unit)) (target : Int) : Option (Int × Bool × Unit) := lo0 x target (x.length : Int) 0 (x.length : Int)
noncomputable def zst0 {R : Type} (k0 : Nat) : Env → List Ob → Kont R → Option R := fun env ob K => runCode Tryz.prog ztbl 49 0 zcfg k0 (codeAt [1, 1, 1, 0, 0, 0] zbody) env ob K
noncomputable def K0 {R : Type} (k0 : Nat) (K : Kont R) : Kont R := blockK 0 (seqK (fun env ob => runCode Tryz.prog ztbl 49 0 zcfg k0 (codeAt [1, 1, 1, 1] zbody) env ob (K)) (K))
noncomputable def L0 {R : Type} (k0 k : Nat) (K : Kont R) (x2 : List (Int × Int × Int × Int × Unit)) (target2 n i j : Int) : Option R := iter 0 [0, 1, 2, 8, 9, 10] [0, 1, 2, 8, 9] (zst0 k0) k [(0, .sl ct2 x2), (1, .int .i64 target2), (2, .fn 79 []), (8, .int .i64 n), (9, .int .i64 i), (10, .int .i64 j)] [] K
theorem zs0 {R : Type} (k0 k : Nat) (K : Kont R) (x2 : List (Int × Int × Int × Int × Unit)) (target2 n i j : Int) : L0 k0 (k + 1) K x2 target2 n i j = R0 (L0 k0 k K) (fun x2 target2 n i => K (.exit 0) [(0, .sl ct2 x2), (1, .int .i64 target2), (2, .fn 79 []), (8, .int .i64 n), (9, .int .i64 i)] []) x2 target2 n i j := by kernel_rfl
theorem za0 (k0 : Nat) (x : List (Int × Int × Int × Int × Unit)) (target : Int) (x2 : List (Int × Int × Int × Int × Unit)) (target2 n i : Int) : K0 (R := (Int × Bool × Unit)) k0 (finK Tryz.prog [.tmp 6, .tmp 7] ins_slices_BinarySearchFunc_impl_Group_impl_Group_int64_at_impl_Farm_group_1 outs_slices_BinarySearchFunc_impl_Group_impl_Group_int64_at_impl_Farm_group_1 (x, target, ())) (.exit 0) [(0, .sl ct2 x2), (1, .int .i64 target2), (2, .fn 79 []), (8, .int .i64 n), (9, .int .i64 i)] [] = A0  x target x2 target2 n i := by kernel_rfl
theorem ztop (k0 : Nat) (x : List (Int × Int × Int × Int × Unit)) (target : Int) : runFn Tryz.prog ztbl zcfg k0 78 ins_slices_BinarySearchFunc_impl_Group_impl_Group_int64_at_impl_Farm_group_1 outs_slices_BinarySearchFunc_impl_Group_impl_Group_int64_at_impl_Farm_group_1 [] (x, target, ()) = T (L0 (R := (Int × Bool × Unit)) k0 k0 (K0 (R := (Int × Bool × Unit)) k0 ((finK Tryz.prog [.tmp 6, .tmp 7] ins_slices_BinarySearchFunc_impl_Group_impl_Group_int64_at_impl_Farm_group_1 outs_slices_BinarySearchFunc_impl_Group_impl_Group_int64_at_impl_Farm_group_1 (x, target, ()))))) x target := by kernel_rfl
noncomputable def G0 {R : Type} (k0 : Nat) (hx0 : ((List (Int × Int × Int × Int × Unit)) → Int → Int → Int → Option R)) : Nat → (List (Int × Int × Int × Int × Unit)) → Int → Int → Int → Int → Option R
  | 0, _, _, _, _, _ => none
  | k + 1, x2, target2, n, i, j => R0 (G0 k0 hx0 k) hx0 x2 target2 n i j
theorem zg0 {R : Type} (k0 : Nat) (K : Kont R) : ∀ k : Nat, L0 k0 k K = G0 k0 (fun x2 target2 n i => K (.exit 0) [(0, .sl ct2 x2), (1, .int .i64 target2), (2, .fn 79 []), (8, .int .i64 n), (9, .int .i64 i)] []) k := by
  intro k
  induction k with
  | zero => funext x2 target2 n i j; rfl
  | succ k ih => funext x2 target2 n i j; rw [zs0, G0]; (try simp only [ih]); try rfl
noncomputable def FF (k0 : Nat) (x : List (Int × Int × Int × Int × Unit)) (target : Int) : Option (Int × Bool × Unit) := T (G0 k0 (A0  x target) k0) x target
theorem zrun (k0 : Nat) (x : List (Int × Int × Int × Int × Unit)) (target : Int) : runFn Tryz.prog ztbl zcfg k0 78 ins_slices_BinarySearchFunc_impl_Group_impl_Group_int64_at_impl_Farm_group_1 outs_slices_BinarySearchFunc_impl_Group_impl_Group_int64_at_impl_Farm_group_1 [] (x, target, ()) = FF k0 x target := by
  rw [ztop, FF]; (try simp only [zg0, za0]); try rfl
noncomputable def _root_.Go.Rv.F_slices_BinarySearchFunc_impl_Group_impl_Group_int64_at_impl_Farm_group_1 : (List (Int × Int × Int × Int × Unit)) × Int × Unit → Option (Int × Bool × Unit) := fun x => (fun (x : List (Int × Int × Int × Int × Unit)) (target : Int) => FF (300 + x.length) x target) x.1 x.2.1
theorem ztblOK : ∀ g fs S, ztbl g fs = some S → SumOK Dr Tryz.prog g S := by
  intro g fs S h
  unfold ztbl at h
  split at h
  · rename_i hc; obtain ⟨rfl, rfl⟩ := hc; have := Option.some.inj h; subst this; exact ok_impl_Farm_group_1
  cases h
theorem _root_.Go.Rv.ok_slices_BinarySearchFunc_impl_Group_impl_Group_int64_at_impl_Farm_group_1 : SumOK Dr Tryz.prog 78 ⟨ins_slices_BinarySearchFunc_impl_Group_impl_Group_int64_at_impl_Farm_group_1, outs_slices_BinarySearchFunc_impl_Group_impl_Group_int64_at_impl_Farm_group_1, F_slices_BinarySearchFunc_impl_Group_impl_Group_int64_at_impl_Farm_group_1, []⟩ := runFn_ok (by kernel_rfl) ztblOK (by kernel_rfl) fun x y h => ⟨zcfg, _, (zrun _ x.1 x.2.1).trans h⟩
end slices_BinarySearchFunc_impl_Group_impl_Group_int64_at_impl_Farm_group_1
abbrev ins_impl_Farm_group : List Par := [.v true ct4, .v false [CT.int .i64]]
abbrev outs_impl_Farm_group : List (Bool × List CT) := [(false, [CT.int .i64]), (false, [CT.bool])]
namespace impl_Farm_group
/-! ### (loop.example/g00095/impl.Farm).group (function 67) -/
noncomputable def ztbl : Tbl := fun g fs => if g = 78 ∧ fs = [79] then some ⟨ins_slices_BinarySearchFunc_impl_Group_impl_Group_int64_at_impl_Farm_group_1, outs_slices_BinarySearchFunc_impl_Group_impl_Group_int64_at_impl_Farm_group_1, F_slices_BinarySearchFunc_impl_Group_impl_Group_int64_at_impl_Farm_group_1, []⟩ else none
noncomputable def zbody : Code := ((Tryz.prog.funcs[67]?).bind (·.body)).getD .skip
def zcfg : Nat → List Nat × List Nat := fun k => ([], [])
noncomputable def T  (f0 : Int) (f1 f2 : List (Int × Int × Int × Int × Unit)) (id : Int) : Option (Int × Bool × Unit) := (F_slices_BinarySearchFunc_impl_Group_impl_Group_int64_at_impl_Farm_group_1 (f1, id, ())).bind fun y1 => some (y1.1, y1.2.1, ())
theorem ztop (k0 : Nat) (f0 : Int) (f1 f2 : List (Int × Int × Int × Int × Unit)) (id : Int) : runFn Tryz.prog ztbl zcfg k0 67 ins_impl_Farm_group outs_impl_Farm_group [] (f0, f1, f2, id, ()) = T  f0 f1 f2 id := by kernel_rfl
noncomputable def _root_.Go.Rv.F_impl_Farm_group : Int × (List (Int × Int × Int × Int × Unit)) × (List (Int × Int × Int × Int × Unit)) × Int × Unit → Option (Int × Bool × Unit) := fun x => T x.1 x.2.1 x.2.2.1 x.2.2.2.1
theorem ztblOK : ∀ g fs S, ztbl g fs = some S → SumOK Dr Tryz.prog g S := by
  intro g fs S h
  unfold ztbl at h
  split at h
  · rename_i hc; obtain ⟨rfl, rfl⟩ := hc; have := Option.some.inj h; subst this; exact ok_slices_BinarySearchFunc_impl_Group_impl_Group_int64_at_impl_Farm_group_1
  cases h
theorem _root_.Go.Rv.ok_impl_Farm_group : SumOK Dr Tryz.prog 67 ⟨ins_impl_Farm_group, outs_impl_Farm_group, F_impl_Farm_group, []⟩ := runFn_ok (by kernel_rfl) ztblOK (by kernel_rfl) fun x y h => ⟨zcfg, 0, (ztop 0 x.1 x.2.1 x.2.2.1 x.2.2.2.1).trans h⟩
end impl_Farm_group
abbrev ins_impl_Farm_hasGroup : List Par := [.v true ct4, .v false [CT.int .i64]]
abbrev outs_impl_Farm_hasGroup : List (Bool × List CT) := [(false, [CT.bool])]
namespace impl_Farm_hasGroup
/-! ### (loop.example/g00095/impl.Farm).hasGroup (function 55) -/
noncomputable def ztbl : Tbl := fun g fs => if g = 67 ∧ fs = [] then some ⟨ins_impl_Farm_group, outs_impl_Farm_group, F_impl_Farm_group, []⟩ else none
noncomputable def zbody : Code := ((Tryz.prog.funcs[55]?).bind (·.body)).getD .skip
def zcfg : Nat → List Nat × List Nat := fun k => ([], [])
noncomputable def T  (f0 : Int) (f1 f2 : List (Int × Int × Int × Int × Unit)) (id : Int) : Option (Bool × Unit) := (F_impl_Farm_group (f0, f1, f2, id, ())).bind fun y1 => cond y1.2.1 (some (true, ())) (some ((id == 0), ()))
theorem ztop (k0 : Nat) (f0 : Int) (f1 f2 : List (Int × Int × Int × Int × Unit)) (id : Int) : runFn Tryz.prog ztbl zcfg k0 55 ins_impl_Farm_hasGroup outs_impl_Farm_hasGroup [] (f0, f1, f2, id, ()) = T  f0 f1 f2 id := by kernel_rfl
noncomputable def _root_.Go.Rv.F_impl_Farm_hasGroup : Int × (List (Int × Int × Int × Int × Unit)) × (List (Int × Int × Int × Int × Unit)) × Int × Unit → Option (Bool × Unit) := fun x => T x.1 x.2.1 x.2.2.1 x.2.2.2.1
theorem ztblOK : ∀ g fs S, ztbl g fs = some S → SumOK Dr Tryz.prog g S := by
  intro g fs S h
  unfold ztbl at h
  split at h
  · rename_i hc; obtain ⟨rfl, rfl⟩ := hc; have := Option.some.inj h; subst this; exact ok_impl_Farm_group
  cases h
theorem _root_.Go.Rv.ok_impl_Farm_hasGroup : SumOK Dr Tryz.prog 55 ⟨ins_impl_Farm_hasGroup, outs_impl_Farm_hasGroup, F_impl_Farm_hasGroup, []⟩ := runFn_ok (by kernel_rfl) ztblOK (by kernel_rfl) fun x y h => ⟨zcfg, 0, (ztop 0 x.1 x.2.1 x.2.2.1 x.2.2.2.1).trans h⟩
end impl_Farm_hasGroup
abbrev ins_impl_isWeight : List Par := [.v false [CT.int .i64]]
abbrev outs_impl_isWeight : List (Bool × List CT) := [(false, [CT.bool])]
namespace impl_isWeight
/-! ### loop.example/g00095/impl.isWeight (function 56) -/
noncomputable def ztbl : Tbl := fun g fs => if g = 35 ∧ fs = [] then some ⟨ins_impl_in, outs_impl_in, F_impl_in, []⟩ else none
noncomputable def zbody : Code := ((Tryz.prog.funcs[56]?).bind (·.body)).getD .skip
def zcfg : Nat → List Nat × List Nat := fun k => ([], [])
noncomputable def T  (n : Int) : Option (Bool × Unit) := (F_impl_in (n, 1, 1073741824, ())).bind fun y1 => some (y1.1, ())
theorem ztop (k0 : Nat) (n : Int) : runFn Tryz.prog ztbl zcfg k0 56 ins_impl_isWeight outs_impl_isWeight [] (n, ()) = T  n := by kernel_rfl
noncomputable def _root_.Go.Rv.F_impl_isWeight : Int × Unit → Option (Bool × Unit) := fun x => T x.1
theorem ztblOK : ∀ g fs S, ztbl g fs = some S → SumOK Dr Tryz.prog g S := by
  intro g fs S h
  unfold ztbl at h
  split at h
  · rename_i hc; obtain ⟨rfl, rfl⟩ := hc; have := Option.some.inj h; subst this; exact ok_impl_in
  cases h
theorem _root_.Go.Rv.ok_impl_isWeight : SumOK Dr Tryz.prog 56 ⟨ins_impl_isWeight, outs_impl_isWeight, F_impl_isWeight, []⟩ := runFn_ok (by kernel_rfl) ztblOK (by kernel_rfl) fun x y h => ⟨zcfg, 0, (ztop 0 x.1).trans h⟩
end impl_isWeight
abbrev ins_impl_FarmRight : List Par := [.v true ct4]
abbrev outs_impl_FarmRight : List (Bool × List CT) := [(false, [CT.bool])]
namespace impl_FarmRight
/-! ### loop.example/g00095/impl.FarmRight (function 36) -/
noncomputable def ztbl : Tbl := fun g fs => if g = 53 ∧ fs = [] then some ⟨ins_impl_isWant, outs_impl_isWant, F_impl_isWant, []⟩ else if g = 54 ∧ fs = [] then some ⟨ins_impl_isId, outs_impl_isId, F_impl_isId, []⟩ else if g = 55 ∧ fs = [] then some ⟨ins_impl_Farm_hasGroup, outs_impl_Farm_hasGroup, F_impl_Farm_hasGroup, []⟩ else if g = 56 ∧ fs = [] then some ⟨ins_impl_isWeight, outs_impl_isWeight, F_impl_isWeight, []⟩ else none
noncomputable def zbody : Code := ((Tryz.prog.funcs[36]?).bind (·.body)).getD .skip
def zcfg : Nat → List Nat × List Nat := fun k => if k = 4 then ([1, 25, 26, 27], [1, 2]) else if k = 11 then ([1, 78, 79, 80], [2]) else ([], [])
noncomputable def R0 {R : Type} (nx0 : ((List (Int × Int × Int × Int × Unit)) → Int → Int → Int → (List (Int × Int × Int × Int × Unit)) → (List (Int × Int × Int × Int × Unit)) → Option R)) (ex0 : (Bool → Int → (List (Int × Int × Int × Int × Unit)) → (List (Int × Int × Int × Int × Unit)) → Option R)) (ex1 : (Int → (List (Int × Int × Int × Int × Unit)) → (List (Int × Int × Int × Int × Unit)) → Option R)) (t25x : List (Int × Int × Int × Int × Unit)) (t26x t27x f : Int) (f3 f4 : List (Int × Int × Int × Int × Unit)) : Option R := cond (decide (t27x < t26x)) (if 0 ≤ t27x ∧ t27x < (t25x.length : Int) then if 0 ≤ t27x ∧ t27x ≤ (f3.length : Int) then (F_impl_isId ((rd (0, 0, 0, 0, ()) t25x t27x).1, ())).bind fun y1 => cond (!y1.1) (ex0 false f f3 f4) (cond (decide (t27x > 0)) (if 0 ≤ (w64 (t27x - 1)) ∧ (w64 (t27x - 1)) < (f3.length : Int) then cond (decide ((rd (0, 0, 0, 0, ()) f3 (w64 (t27x - 1))).1 ≥ (rd (0, 0, 0, 0, ()) t25x t27x).1)) (ex0 false f f3 f4) ((F_impl_Farm_hasGroup (0, (f3.take (t27x.toNat)), [], (rd (0, 0, 0, 0, ()) t25x t27x).2.1, ())).bind fun y2 => cond (!y2.1) (ex0 false f f3 f4) ((F_impl_isWant ((rd (0, 0, 0, 0, ()) t25x t27x).2.2.1, ())).bind fun y3 => cond (!y3.1) (ex0 false f f3 f4) ((F_impl_isWeight ((rd (0, 0, 0, 0, ()) t25x t27x).2.2.2.1, ())).bind fun y4 => cond (!y4.1) (ex0 false f f3 f4) (nx0 t25x t26x (w64 (t27x + 1)) f f3 f4)))) else none) ((F_impl_Farm_hasGroup (0, (f3.take (t27x.toNat)), [], (rd (0, 0, 0, 0, ()) t25x t27x).2.1, ())).bind fun y5 => cond (!y5.1) (ex0 false f f3 f4) ((F_impl_isWant ((rd (0, 0, 0, 0, ()) t25x t27x).2.2.1, ())).bind fun y6 => cond (!y6.1) (ex0 false f f3 f4) ((F_impl_isWeight ((rd (0, 0, 0, 0, ()) t25x t27x).2.2.2.1, ())).bind fun y7 => cond (!y7.1) (ex0 false f f3 f4) (nx0 t25x t26x (w64 (t27x + 1)) f f3 f4))))) else none else none) (ex1 f f3 f4)
noncomputable def R1 {R : Type} (nx1 : ((List (Int × Int × Int × Int × Unit)) → Int → Int → Int → (List (Int × Int × Int × Int × Unit)) → (List (Int × Int × Int × Int × Unit)) → Option R)) (ex2 : (Bool → Option R)) (ex3 : (Unit → Option R)) (t78x : List (Int × Int × Int × Int × Unit)) (t79x t80x f : Int) (f3 f4 : List (Int × Int × Int × Int × Unit)) : Option R := cond (decide (t80x < t79x)) (if 0 ≤ t80x ∧ t80x < (t78x.length : Int) then (F_impl_isId ((rd (0, 0, 0, 0, ()) t78x t80x).1, ())).bind fun y1 => cond (!y1.1) (ex2 false) (cond (decide (t80x > 0)) (if 0 ≤ (w64 (t80x - 1)) ∧ (w64 (t80x - 1)) < (f4.length : Int) then cond (decide ((rd (0, 0, 0, 0, ()) f4 (w64 (t80x - 1))).1 ≥ (rd (0, 0, 0, 0, ()) t78x t80x).1)) (ex2 false) ((F_impl_Farm_hasGroup (f, f3, f4, (rd (0, 0, 0, 0, ()) t78x t80x).2.1, ())).bind fun y2 => cond (!y2.1) (ex2 false) ((F_impl_isWant ((rd (0, 0, 0, 0, ()) t78x t80x).2.2.1, ())).bind fun y3 => cond (!y3.1) (ex2 false) ((F_impl_isWeight ((rd (0, 0, 0, 0, ()) t78x t80x).2.2.2.1, ())).bind fun y4 => cond (!y4.1) (ex2 false) (nx1 t78x t79x (w64 (t80x + 1)) f f3 f4)))) else none) ((F_impl_Farm_hasGroup (f, f3, f4, (rd (0, 0, 0, 0, ()) t78x t80x).2.1, ())).bind fun y5 => cond (!y5.1) (ex2 false) ((F_impl_isWant ((rd (0, 0, 0, 0, ()) t78x t80x).2.2.1, ())).bind fun y6 => cond (!y6.1) (ex2 false) ((F_impl_isWeight ((rd (0, 0, 0, 0, ()) t78x t80x).2.2.2.1, ())).bind fun y7 => cond (!y7.1) (ex2 false) (nx1 t78x t79x (w64 (t80x + 1)) f f3 f4))))) else none) (ex3 ())
noncomputable def A0  (f0 : Int) (f1 f2 : List (Int × Int × Int × Int × Unit)) (t2x : Bool) (f : Int) (f3 f4 : List (Int × Int × Int × Int × Unit)) : Option (Bool × Unit) := some (t2x, ())
noncomputable def A1 (lo1 : ((List (Int × Int × Int × Int × Unit)) → Int → Int → Int → (List (Int × Int × Int × Int × Unit)) → (List (Int × Int × Int × Int × Unit)) → Option (Bool × Unit))) (f0 : Int) (f1 f2 : List (Int × Int × Int × Int × Unit)) (f : Int) (f3 f4 : List (Int × Int × Int × Int × Unit)) : Option (Bool × Unit) := lo1 f4 (f4.length : Int) 0 f f3 f4
noncomputable def A2  (f0 : Int) (f1 f2 : List (Int × Int × Int × Int × Unit)) (t2x : Bool) : Option (Bool × Unit) := some (t2x, ())
noncomputable def A3  (f0 : Int) (f1 f2 : List (Int × Int × Int × Int × Unit)) (_u : Unit) : Option (Bool × Unit) := some (true, ())
noncomputable def T (lo0 : ((List (Int × Int × Int × Int × Unit)) → Int → Int → Int → (List (Int × Int × Int × Int × Unit)) → (List (Int × Int × Int × Int × Unit)) → Option (Bool × Unit))) (f0 : Int) (f1 f2 : List (Int × Int × Int × Int × Unit)) : Option (Bool × Unit) := (F_impl_isWant (f0, ())).bind fun y1 => cond (!y1.1) (some (false, ())) (cond (decide ((f1.length : Int) > 30)) (some (false, ())) (cond (decide ((f2.length : Int) > 60)) (some (false, ())) (lo0 f1 (f1.length : Int) 0 f0 f1 f2)))
noncomputable def zst0 {R : Type} (k0 : Nat) : Env → List Ob → Kont R → Option R := fun env ob K => runCode Tryz.prog ztbl 125 0 zcfg k0 (codeAt [1, 1, 0, 1, 0, 0] zbody) env ob K
noncomputable def K0 {R : Type} (k0 : Nat) (K : Kont R) : Kont R := blockK 0 (seqK (fun env ob => runCode Tryz.prog ztbl 125 0 zcfg k0 (codeAt [1, 1, 1] zbody) env ob (K)) (K))
noncomputable def zst1 {R : Type} (k0 : Nat) : Env → List Ob → Kont R → Option R := fun env ob K => runCode Tryz.prog ztbl 125 0 zcfg k0 (codeAt [1, 1, 1, 0, 1, 0, 0] zbody) env ob K
noncomputable def K1 {R : Type} (k0 : Nat) (K : Kont R) : Kont R := blockK 2 (seqK (fun env ob => runCode Tryz.prog ztbl 125 0 zcfg k0 (codeAt [1, 1, 1, 1] zbody) env ob (K)) (K))
noncomputable def L0 {R : Type} (k0 k : Nat) (K : Kont R) (t25x : List (Int × Int × Int × Int × Unit)) (t26x t27x f : Int) (f3 f4 : List (Int × Int × Int × Int × Unit)) : Option R := iter 0 [1, 25, 26, 27] [1, 2] (zst0 k0) k [(1, .ptr 0 0 0 0), (25, .sl ct2 t25x), (26, .int .i64 t26x), (27, .int .i64 t27x)] [.box [.int .i64 f, .sl ct2 f3, .sl ct2 f4]] K
noncomputable def L1 {R : Type} (k0 k : Nat) (K : Kont R) (t78x : List (Int × Int × Int × Int × Unit)) (t79x t80x f : Int) (f3 f4 : List (Int × Int × Int × Int × Unit)) : Option R := iter 0 [1, 78, 79, 80] [2] (zst1 k0) k [(1, .ptr 0 0 0 0), (78, .sl ct2 t78x), (79, .int .i64 t79x), (80, .int .i64 t80x)] [.box [.int .i64 f, .sl ct2 f3, .sl ct2 f4]] K
theorem zs0 {R : Type} (k0 k : Nat) (K : Kont R) (t25x : List (Int × Int × Int × Int × Unit)) (t26x t27x f : Int) (f3 f4 : List (Int × Int × Int × Int × Unit)) : L0 k0 (k + 1) K t25x t26x t27x f f3 f4 = R0 (L0 k0 k K) (fun t2x f f3 f4 => K .ret [(1, .ptr 0 0 0 0), (2, .bool t2x)] [.box [.int .i64 f, .sl ct2 f3, .sl ct2 f4]]) (fun f f3 f4 => K (.exit 0) [(1, .ptr 0 0 0 0), (2, .undef)] [.box [.int .i64 f, .sl ct2 f3, .sl ct2 f4]]) t25x t26x t27x f f3 f4 := by kernel_rfl
theorem zs1 {R : Type} (k0 k : Nat) (K : Kont R) (t78x : List (Int × Int × Int × Int × Unit)) (t79x t80x f : Int) (f3 f4 : List (Int × Int × Int × Int × Unit)) : L1 k0 (k + 1) K t78x t79x t80x f f3 f4 = R1 (L1 k0 k K) (fun t2x => K .ret [(2, .bool t2x)] []) (fun _ => K (.exit 2) [(2, .undef)] []) t78x t79x t80x f f3 f4 := by kernel_rfl
theorem za0 (k0 : Nat) (f0 : Int) (f1 f2 : List (Int × Int × Int × Int × Unit)) (t2x : Bool) (f : Int) (f3 f4 : List (Int × Int × Int × Int × Unit)) : K0 (R := (Bool × Unit)) k0 (finK Tryz.prog [.tmp 2] ins_impl_FarmRight outs_impl_FarmRight (f0, f1, f2, ())) .ret [(1, .ptr 0 0 0 0), (2, .bool t2x)] [.box [.int .i64 f, .sl ct2 f3, .sl ct2 f4]] = A0  f0 f1 f2 t2x f f3 f4 := by kernel_rfl
theorem za1 (k0 : Nat) (f0 : Int) (f1 f2 : List (Int × Int × Int × Int × Unit)) (f : Int) (f3 f4 : List (Int × Int × Int × Int × Unit)) : K0 (R := (Bool × Unit)) k0 (finK Tryz.prog [.tmp 2] ins_impl_FarmRight outs_impl_FarmRight (f0, f1, f2, ())) (.exit 0) [(1, .ptr 0 0 0 0), (2, .undef)] [.box [.int .i64 f, .sl ct2 f3, .sl ct2 f4]] = A1 (L1 (R := (Bool × Unit)) k0 k0 (K1 (R := (Bool × Unit)) k0 ((finK Tryz.prog [.tmp 2] ins_impl_FarmRight outs_impl_FarmRight (f0, f1, f2, ()))))) f0 f1 f2 f f3 f4 := by kernel_rfl
theorem za2 (k0 : Nat) (f0 : Int) (f1 f2 : List (Int × Int × Int × Int × Unit)) (t2x : Bool) : K1 (R := (Bool × Unit)) k0 (finK Tryz.prog [.tmp 2] ins_impl_FarmRight outs_impl_FarmRight (f0, f1, f2, ())) .ret [(2, .bool t2x)] [] = A2  f0 f1 f2 t2x := by kernel_rfl
theorem za3 (k0 : Nat) (f0 : Int) (f1 f2 : List (Int × Int × Int × Int × Unit))  : K1 (R := (Bool × Unit)) k0 (finK Tryz.prog [.tmp 2] ins_impl_FarmRight outs_impl_FarmRight (f0, f1, f2, ())) (.exit 2) [(2, .undef)] [] = A3  f0 f1 f2 () := by kernel_rfl
theorem ztop (k0 : Nat) (f0 : Int) (f1 f2 : List (Int × Int × Int × Int × Unit)) : runFn Tryz.prog ztbl zcfg k0 36 ins_impl_FarmRight outs_impl_FarmRight [] (f0, f1, f2, ()) = T (L0 (R := (Bool × Unit)) k0 k0 (K0 (R := (Bool × Unit)) k0 ((finK Tryz.prog [.tmp 2] ins_impl_FarmRight outs_impl_FarmRight (f0, f1, f2, ()))))) f0 f1 f2 := by kernel_rfl
noncomputable def G0 {R : Type} (k0 : Nat) (hx0 : (Bool → Int → (List (Int × Int × Int × Int × Unit)) → (List (Int × Int × Int × Int × Unit)) → Option R)) (hx1 : (Int → (List (Int × Int × Int × Int × Unit)) → (List (Int × Int × Int × Int × Unit)) → Option R)) : Nat → (List (Int × Int × Int × Int × Unit)) → Int → Int → Int → (List (Int × Int × Int × Int × Unit)) → (List (Int × Int × Int × Int × Unit)) → Option R
  | 0, _, _, _, _, _, _ => none
  | k + 1, t25x, t26x, t27x, f, f3, f4 => R0 (G0 k0 hx0 hx1 k) hx0 hx1 t25x t26x t27x f f3 f4
theorem zg0 {R : Type} (k0 : Nat) (K : Kont R) : ∀ k : Nat, L0 k0 k K = G0 k0 (fun t2x f f3 f4 => K .ret [(1, .ptr 0 0 0 0), (2, .bool t2x)] [.box [.int .i64 f, .sl ct2 f3, .sl ct2 f4]]) (fun f f3 f4 => K (.exit 0) [(1, .ptr 0 0 0 0), (2, .undef)] [.box [.int .i64 f, .sl ct2 f3, .sl ct2 f4]]) k := by
  intro k
  induction k with
  | zero => funext t25x t26x t27x f f3 f4; rfl
  | succ k ih => funext t25x t26x t27x f f3 f4; rw [zs0, G0]; (try simp only [ih]); try rfl
noncomputable def G1 {R : Type} (k0 : Nat) (hx2 : (Bool → Option R)) (hx3 : (Unit → Option R)) : Nat → (List (Int × Int × Int × Int × Unit)) → Int → Int → Int → (List (Int × Int × Int × Int × Unit)) → (List (Int × Int × Int × Int × Unit)) → Option R
  | 0, _, _, _, _, _, _ => none
  | k + 1, t78x, t79x, t80x, f, f3, f4 => R1 (G1 k0 hx2 hx3 k) hx2 hx3 t78x t79x t80x f f3 f4
theorem zg1 {R : Type} (k0 : Nat) (K : Kont R) : ∀ k : Nat, L1 k0 k K = G1 k0 (fun t2x => K .ret [(2, .bool t2x)] []) (fun _ => K (.exit 2) [(2, .undef)] []) k := by
  intro k
  induction k with
  | zero => funext t78x t79x t80x f f3 f4; rfl
  | succ k ih => funext t78x t79x t80x f f3 f4; rw [zs1, G1]; (try simp only [ih, zg0]); try rfl
noncomputable def FF (k0 : Nat) (f0 : Int) (f1 f2 : List (Int × Int × Int × Int × Unit)) : Option (Bool × Unit) := T (G0 k0 (A0  f0 f1 f2) (A1 (G1 k0 (A2  f0 f1 f2) (A3  f0 f1 f2) k0) f0 f1 f2) k0) f0 f1 f2
theorem zrun (k0 : Nat) (f0 : Int) (f1 f2 : List (Int × Int × Int × Int × Unit)) : runFn Tryz.prog ztbl zcfg k0 36 ins_impl_FarmRight outs_impl_FarmRight [] (f0, f1, f2, ()) = FF k0 f0 f1 f2 := by
  rw [ztop, FF]; (try simp only [zg0, zg1, za0, za1, za2, za3]); try rfl
noncomputable def _root_.Go.Rv.F_impl_FarmRight : Int × (List (Int × Int × Int × Int × Unit)) × (List (Int × Int × Int × Int × Unit)) × Unit → Option (Bool × Unit) := fun x => (fun (f0 : Int) (f1 f2 : List (Int × Int × Int × Int × Unit)) => FF (300 + f1.length + f2.length) f0 f1 f2) x.1 x.2.1 x.2.2.1
theorem ztblOK : ∀ g fs S, ztbl g fs = some S → SumOK Dr Tryz.prog g S := by
  intro g fs S h
  unfold ztbl at h
  split at h
  · rename_i hc; obtain ⟨rfl, rfl⟩ := hc; have := Option.some.inj h; subst this; exact ok_impl_isWant
  split at h
  · rename_i hc; obtain ⟨rfl, rfl⟩ := hc; have := Option.some.inj h; subst this; exact ok_impl_isId
  split at h
  · rename_i hc; obtain ⟨rfl, rfl⟩ := hc; have := Option.some.inj h; subst this; exact ok_impl_Farm_hasGroup
  split at h
  · rename_i hc; obtain ⟨rfl, rfl⟩ := hc; have := Option.some.inj h; subst this; exact ok_impl_isWeight
  cases h
theorem _root_.Go.Rv.ok_impl_FarmRight : SumOK Dr Tryz.prog 36 ⟨ins_impl_FarmRight, outs_impl_FarmRight, F_impl_FarmRight, []⟩ := runFn_ok (by kernel_rfl) ztblOK (by kernel_rfl) fun x y h => ⟨zcfg, _, (zrun _ x.1 x.2.1 x.2.2.1).trans h⟩
end impl_FarmRight
abbrev ins_impl_isTime : List Par := [.v false [CT.int .i64]]
abbrev outs_impl_isTime : List (Bool × List CT) := [(false, [CT.bool])]
namespace impl_isTime
/-! ### loop.example/g00095/impl.isTime (function 68) -/
noncomputable def ztbl : Tbl := fun g fs => if g = 35 ∧ fs = [] then some ⟨ins_impl_in, outs_impl_in, F_impl_in, []⟩ else none
noncomputable def zbody : Code := ((Tryz.prog.funcs[68]?).bind (·.body)).getD .skip
def zcfg : Nat → List Nat × List Nat := fun k => ([], [])
noncomputable def T  (n : Int) : Option (Bool × Unit) := (F_impl_in (n, 0, 1000000, ())).bind fun y1 => some (y1.1, ())
theorem ztop (k0 : Nat) (n : Int) : runFn Tryz.prog ztbl zcfg k0 68 ins_impl_isTime outs_impl_isTime [] (n, ()) = T  n := by kernel_rfl
noncomputable def _root_.Go.Rv.F_impl_isTime : Int × Unit → Option (Bool × Unit) := fun x => T x.1
theorem ztblOK : ∀ g fs S, ztbl g fs = some S → SumOK Dr Tryz.prog g S := by
  intro g fs S h
  unfold ztbl at h
  split at h
  · rename_i hc; obtain ⟨rfl, rfl⟩ := hc; have := Option.some.inj h; subst this; exact ok_impl_in
  cases h
theorem _root_.Go.Rv.ok_impl_isTime : SumOK Dr Tryz.prog 68 ⟨ins_impl_isTime, outs_impl_isTime, F_impl_isTime, []⟩ := runFn_ok (by kernel_rfl) ztblOK (by kernel_rfl) fun x y h => ⟨zcfg, 0, (ztop 0 x.1).trans h⟩
end impl_isTime
abbrev ins_impl_Lease_isRight : List Par := [.v true ct0]
abbrev outs_impl_Lease_isRight : List (Bool × List CT) := [(false, [CT.bool])]
namespace impl_Lease_isRight
/-! ### (loop.example/g00095/impl.Lease).isRight (function 57) -/
noncomputable def ztbl : Tbl := fun g fs => if g = 53 ∧ fs = [] then some ⟨ins_impl_isWant, outs_impl_isWant, F_impl_isWant, []⟩ else if g = 54 ∧ fs = [] then some ⟨ins_impl_isId, outs_impl_isId, F_impl_isId, []⟩ else if g = 68 ∧ fs = [] then some ⟨ins_impl_isTime, outs_impl_isTime, F_impl_isTime, []⟩ else none
noncomputable def zbody : Code := ((Tryz.prog.funcs[57]?).bind (·.body)).getD .skip
def zcfg : Nat → List Nat × List Nat := fun k => ([], [])
noncomputable def T  (l0 l1 l2 : Int) : Option (Bool × Unit) := (F_impl_isId (l0, ())).bind fun y1 => cond y1.1 ((F_impl_isWant (l1, ())).bind fun y2 => cond y2.1 ((F_impl_isTime (l2, ())).bind fun y3 => some (y3.1, ())) (some (false, ()))) (some (false, ()))
theorem ztop (k0 : Nat) (l0 l1 l2 : Int) : runFn Tryz.prog ztbl zcfg k0 57 ins_impl_Lease_isRight outs_impl_Lease_isRight [] (l0, l1, l2, ()) = T  l0 l1 l2 := by kernel_rfl
noncomputable def _root_.Go.Rv.F_impl_Lease_isRight : Int × Int × Int × Unit → Option (Bool × Unit) := fun x => T x.1 x.2.1 x.2.2.1
theorem ztblOK : ∀ g fs S, ztbl g fs = some S → SumOK Dr Tryz.prog g S := by
  intro g fs S h
  unfold ztbl at h
  split at h
  · rename_i hc; obtain ⟨rfl, rfl⟩ := hc; have := Option.some.inj h; subst this; exact ok_impl_isWant
  split at h
  · rename_i hc; obtain ⟨rfl, rfl⟩ := hc; have := Option.some.inj h; subst this; exact ok_impl_isId
  split at h
  · rename_i hc; obtain ⟨rfl, rfl⟩ := hc; have := Option.some.inj h; subst this; exact ok_impl_isTime
  cases h
theorem _root_.Go.Rv.ok_impl_Lease_isRight : SumOK Dr Tryz.prog 57 ⟨ins_impl_Lease_isRight, outs_impl_Lease_isRight, F_impl_Lease_isRight, []⟩ := runFn_ok (by kernel_rfl) ztblOK (by kernel_rfl) fun x y h => ⟨zcfg, 0, (ztop 0 x.1 x.2.1 x.2.2.1).trans h⟩
end impl_Lease_isRight
abbrev ins_impl_LeasesRight : List Par := [.v false [CT.sl ct0]]
abbrev outs_impl_LeasesRight : List (Bool × List CT) := [(false, [CT.bool])]
namespace impl_LeasesRight
/-! ### loop.example/g00095/impl.LeasesRight (function 37) -/
noncomputable def ztbl : Tbl := fun g fs => if g = 57 ∧ fs = [] then some ⟨ins_impl_Lease_isRight, outs_impl_Lease_isRight, F_impl_Lease_isRight, []⟩ else none
noncomputable def zbody : Code := ((Tryz.prog.funcs[37]?).bind (·.body)).getD .skip
def zcfg : Nat → List Nat × List Nat := fun k => if k = 2 then ([0, 5, 6, 7], [0, 2]) else ([], [])
noncomputable def R0 {R : Type} (nx0 : ((List (Int × Int × Int × Unit)) → (List (Int × Int × Int × Unit)) → Int → Int → Option R)) (ex0 : ((List (Int × Int × Int × Unit)) → Bool → Option R)) (ex1 : ((List (Int × Int × Int × Unit)) → Option R)) (list2 t5x : List (Int × Int × Int × Unit)) (t6x t7x : Int) : Option R := cond (decide (t7x < t6x)) (if 0 ≤ t7x ∧ t7x < (t5x.length : Int) then (F_impl_Lease_isRight ((rd (0, 0, 0, ()) t5x t7x).1, (rd (0, 0, 0, ()) t5x t7x).2.1, (rd (0, 0, 0, ()) t5x t7x).2.2.1, ())).bind fun y1 => cond (!y1.1) (ex0 list2 false) (cond (decide (t7x > 0)) (if 0 ≤ (w64 (t7x - 1)) ∧ (w64 (t7x - 1)) < (list2.length : Int) then cond (decide ((rd (0, 0, 0, ()) list2 (w64 (t7x - 1))).1 ≥ (rd (0, 0, 0, ()) t5x t7x).1)) (ex0 list2 false) (nx0 list2 t5x t6x (w64 (t7x + 1))) else none) (nx0 list2 t5x t6x (w64 (t7x + 1)))) else none) (ex1 list2)
noncomputable def A0  (list : List (Int × Int × Int × Unit)) (list2 : List (Int × Int × Int × Unit)) (t2x : Bool) : Option (Bool × Unit) := some (t2x, ())
noncomputable def A1  (list : List (Int × Int × Int × Unit)) (list2 : List (Int × Int × Int × Unit)) : Option (Bool × Unit) := some ((decide ((list2.length : Int) ≤ 60)), ())
noncomputable def T (lo0 : ((List (Int × Int × Int × Unit)) → (List (Int × Int × Int × Unit)) → Int → Int → Option (Bool × Unit))) (list : List (Int × Int × Int × Unit)) : Option (Bool × Unit) := lo0 list list (list.length : Int) 0
noncomputable def zst0 {R : Type} (k0 : Nat) : Env → List Ob → Kont R → Option R := fun env ob K => runCode Tryz.prog ztbl 34 0 zcfg k0 (codeAt [1, 0, 1, 0, 0] zbody) env ob K
noncomputable def K0 {R : Type} (k0 : Nat) (K : Kont R) : Kont R := blockK 0 (seqK (fun env ob => runCode Tryz.prog ztbl 34 0 zcfg k0 (codeAt [1, 1] zbody) env ob (K)) (K))
noncomputable def L0 {R : Type} (k0 k : Nat) (K : Kont R) (list2 t5x : List (Int × Int × Int × Unit)) (t6x t7x : Int) : Option R := iter 0 [0, 5, 6, 7] [0, 2] (zst0 k0) k [(0, .sl ct0 list2), (5, .sl ct0 t5x), (6, .int .i64 t6x), (7, .int .i64 t7x)] [] K
theorem zs0 {R : Type} (k0 k : Nat) (K : Kont R) (list2 t5x : List (Int × Int × Int × Unit)) (t6x t7x : Int) : L0 k0 (k + 1) K list2 t5x t6x t7x = R0 (L0 k0 k K) (fun list2 t2x => K .ret [(0, .sl ct0 list2), (2, .bool t2x)] []) (fun list2 => K (.exit 0) [(0, .sl ct0 list2), (2, .undef)] []) list2 t5x t6x t7x := by kernel_rfl
theorem za0 (k0 : Nat) (list : List (Int × Int × Int × Unit)) (list2 : List (Int × Int × Int × Unit)) (t2x : Bool) : K0 (R := (Bool × Unit)) k0 (finK Tryz.prog [.tmp 2] ins_impl_LeasesRight outs_impl_LeasesRight (list, ())) .ret [(0, .sl ct0 list2), (2, .bool t2x)] [] = A0  list list2 t2x := by kernel_rfl
theorem za1 (k0 : Nat) (list : List (Int × Int × Int × Unit)) (list2 : List (Int × Int × Int × Unit)) : K0 (R := (Bool × Unit)) k0 (finK Tryz.prog [.tmp 2] ins_impl_LeasesRight outs_impl_LeasesRight (list, ())) (.exit 0) [(0, .sl ct0 list2), (2, .undef)] [] = A1  list list2 := by kernel_rfl
theorem ztop (k0 : Nat) (list : List (Int × Int × Int × Unit)) : runFn Tryz.prog ztbl zcfg k0 37 ins_impl_LeasesRight outs_impl_LeasesRight [] (list, ()) = T (L0 (R := (Bool × Unit)) k0 k0 (K0 (R := (Bool × Unit)) k0 ((finK Tryz.prog [.tmp 2] ins_impl_LeasesRight outs_impl_LeasesRight (list, ()))))) list := by kernel_rfl
noncomputable def G0 {R : Type} (k0 : Nat) (hx0 : ((List (Int × Int × Int × Unit)) → Bool → Option R)) (hx1 : ((List (Int × Int × Int × Unit)) → Option R)) : Nat → (List (Int × Int × Int × Unit)) → (List (Int × Int × Int × Unit)) → Int → Int → Option R
  | 0, _, _, _, _ => none
  | k + 1, list2, t5x, t6x, t7x => R0 (G0 k0 hx0 hx1 k) hx0 hx1 list2 t5x t6x t7x
theorem zg0 {R : Type} (k0 : Nat) (K : Kont R) : ∀ k : Nat, L0 k0 k K = G0 k0 (fun list2 t2x => K .ret [(0, .sl ct0 list2), (2, .bool t2x)] []) (fun list2 => K (.exit 0) [(0, .sl ct0 list2), (2, .undef)] []) k := by
  intro k
  induction k with
  | zero => funext list2 t5x t6x t7x; rfl
  | succ k ih => funext list2 t5x t6x t7x; rw [zs0, G0]; (try simp only [ih]); try rfl
noncomputable def FF (k0 : Nat) (list : List (Int × Int × Int × Unit)) : Option (Bool × Unit) := T (G0 k0 (A0  list) (A1  list) k0) list
theorem zrun (k0 : Nat) (list : List (Int × Int × Int × Unit)) : runFn Tryz.prog ztbl zcfg k0 37 ins_impl_LeasesRight outs_impl_LeasesRight [] (list, ()) = FF k0 list := by
  rw [ztop, FF]; (try simp only [zg0, za0, za1]); try rfl
noncomputable def _root_.Go.Rv.F_impl_LeasesRight : (List (Int × Int × Int × Unit)) × Unit → Option (Bool × Unit) := fun x => (fun (list : List (Int × Int × Int × Unit)) => FF (300 + list.length) list) x.1
theorem ztblOK : ∀ g fs S, ztbl g fs = some S → SumOK Dr Tryz.prog g S := by
  intro g fs S h
  unfold ztbl at h
  split at h
  · rename_i hc; obtain ⟨rfl, rfl⟩ := hc; have := Option.some.inj h; subst this; exact ok_impl_Lease_isRight
  cases h
theorem _root_.Go.Rv.ok_impl_LeasesRight : SumOK Dr Tryz.prog 37 ⟨ins_impl_LeasesRight, outs_impl_LeasesRight, F_impl_LeasesRight, []⟩ := runFn_ok (by kernel_rfl) ztblOK (by kernel_rfl) fun x y h => ⟨zcfg, _, (zrun _ x.1).trans h⟩
end impl_LeasesRight
abbrev ins_impl_ServerRight : List Par := [.v true ct3]
abbrev outs_impl_ServerRight : List (Bool × List CT) := [(false, [CT.bool])]
namespace impl_ServerRight
/-! ### loop.example/g00095/impl.ServerRight (function 19) -/
noncomputable def ztbl : Tbl := fun g fs => if g = 35 ∧ fs = [] then some ⟨ins_impl_in, outs_impl_in, F_impl_in, []⟩ else if g = 36 ∧ fs = [] then some ⟨ins_impl_FarmRight, outs_impl_FarmRight, F_impl_FarmRight, []⟩ else if g = 37 ∧ fs = [] then some ⟨ins_impl_LeasesRight, outs_impl_LeasesRight, F_impl_LeasesRight, []⟩ else none
noncomputable def zbody : Code := ((Tryz.prog.funcs[19]?).bind (·.body)).getD .skip
def zcfg : Nat → List Nat × List Nat := fun k => if k = 4 then ([1, 46, 47, 48], [2]) else ([], [])
noncomputable def R0 {R : Type} (nx0 : ((List (Int × Int × Int × Unit)) → Int → Int → Int → Int → Int → Int → (List (Int × Int × Int × Int × Unit)) → (List (Int × Int × Int × Int × Unit)) → (List (Int × Int × Int × Unit)) → Option R)) (ex0 : (Bool → Option R)) (ex1 : (Unit → Option R)) (t46x : List (Int × Int × Int × Unit)) (t47x t48x s s7 s8 s9 : Int) (s10 s11 : List (Int × Int × Int × Int × Unit)) (s12 : List (Int × Int × Int × Unit)) : Option R := cond (decide (t48x < t47x)) (if 0 ≤ t48x ∧ t48x < (t46x.length : Int) then if 0 ≤ t48x ∧ t48x < (s11.length : Int) then cond ((rd (0, 0, 0, ()) t46x t48x).1 != (rd (0, 0, 0, 0, ()) s11 t48x).1) (ex0 false) ((F_impl_in ((rd (0, 0, 0, ()) t46x t48x).2.2.1, (w64 (s8 + 1)), (w64 (s8 + s)), ())).bind fun y1 => cond (!y1.1) (ex0 false) (nx0 t46x t47x (w64 (t48x + 1)) s s7 s8 s9 s10 s11 s12)) else none else none) (ex1 ())
noncomputable def A0  (s0 s1 s2 s3 : Int) (s4 s5 : List (Int × Int × Int × Int × Unit)) (s6 : List (Int × Int × Int × Unit)) (t2x : Bool) : Option (Bool × Unit) := some (t2x, ())
noncomputable def A1  (s0 s1 s2 s3 : Int) (s4 s5 : List (Int × Int × Int × Int × Unit)) (s6 : List (Int × Int × Int × Unit)) (_u : Unit) : Option (Bool × Unit) := some (true, ())
noncomputable def T (lo0 : ((List (Int × Int × Int × Unit)) → Int → Int → Int → Int → Int → Int → (List (Int × Int × Int × Int × Unit)) → (List (Int × Int × Int × Int × Unit)) → (List (Int × Int × Int × Unit)) → Option (Bool × Unit))) (s0 s1 s2 s3 : Int) (s4 s5 : List (Int × Int × Int × Int × Unit)) (s6 : List (Int × Int × Int × Unit)) : Option (Bool × Unit) := (F_impl_in (s0, 1, 1000, ())).bind fun y1 => cond (!y1.1) (some (false, ())) ((F_impl_in (s2, 0, 999000, ())).bind fun y2 => cond (!y2.1) (some (false, ())) ((F_impl_in (s1, 0, s2, ())).bind fun y3 => cond (!y3.1) (some (false, ())) ((F_impl_FarmRight (s3, s4, s5, ())).bind fun y4 => cond (!y4.1) (some (false, ())) ((F_impl_LeasesRight (s6, ())).bind fun y5 => cond (!y5.1) (some (false, ())) (cond ((s6.length : Int) != (s5.length : Int)) (some (false, ())) (lo0 s6 (s6.length : Int) 0 s0 s1 s2 s3 s4 s5 s6))))))
noncomputable def zst0 {R : Type} (k0 : Nat) : Env → List Ob → Kont R → Option R := fun env ob K => runCode Tryz.prog ztbl 78 0 zcfg k0 (codeAt [1, 1, 0, 1, 0, 0] zbody) env ob K
noncomputable def K0 {R : Type} (k0 : Nat) (K : Kont R) : Kont R := blockK 0 (seqK (fun env ob => runCode Tryz.prog ztbl 78 0 zcfg k0 (codeAt [1, 1, 1] zbody) env ob (K)) (K))
noncomputable def L0 {R : Type} (k0 k : Nat) (K : Kont R) (t46x : List (Int × Int × Int × Unit)) (t47x t48x s s7 s8 s9 : Int) (s10 s11 : List (Int × Int × Int × Int × Unit)) (s12 : List (Int × Int × Int × Unit)) : Option R := iter 0 [1, 46, 47, 48] [2] (zst0 k0) k [(1, .ptr 0 0 0 0), (46, .sl ct0 t46x), (47, .int .i64 t47x), (48, .int .i64 t48x)] [.box [.int .i64 s, .int .i64 s7, .int .i64 s8, .int .i64 s9, .sl ct2 s10, .sl ct2 s11, .sl ct0 s12]] K
theorem zs0 {R : Type} (k0 k : Nat) (K : Kont R) (t46x : List (Int × Int × Int × Unit)) (t47x t48x s s7 s8 s9 : Int) (s10 s11 : List (Int × Int × Int × Int × Unit)) (s12 : List (Int × Int × Int × Unit)) : L0 k0 (k + 1) K t46x t47x t48x s s7 s8 s9 s10 s11 s12 = R0 (L0 k0 k K) (fun t2x => K .ret [(2, .bool t2x)] []) (fun _ => K (.exit 0) [(2, .undef)] []) t46x t47x t48x s s7 s8 s9 s10 s11 s12 := by kernel_rfl
theorem za0 (k0 : Nat) (s0 s1 s2 s3 : Int) (s4 s5 : List (Int × Int × Int × Int × Unit)) (s6 : List (Int × Int × Int × Unit)) (t2x : Bool) : K0 (R := (Bool × Unit)) k0 (finK Tryz.prog [.tmp 2] ins_impl_ServerRight outs_impl_ServerRight (s0, s1, s2, s3, s4, s5, s6, ())) .ret [(2, .bool t2x)] [] = A0  s0 s1 s2 s3 s4 s5 s6 t2x := by kernel_rfl
theorem za1 (k0 : Nat) (s0 s1 s2 s3 : Int) (s4 s5 : List (Int × Int × Int × Int × Unit)) (s6 : List (Int × Int × Int × Unit))  : K0 (R := (Bool × Unit)) k0 (finK Tryz.prog [.tmp 2] ins_impl_ServerRight outs_impl_ServerRight (s0, s1, s2, s3, s4, s5, s6, ())) (.exit 0) [(2, .undef)] [] = A1  s0 s1 s2 s3 s4 s5 s6 () := by kernel_rfl
theorem ztop (k0 : Nat) (s0 s1 s2 s3 : Int) (s4 s5 : List (Int × Int × Int × Int × Unit)) (s6 : List (Int × Int × Int × Unit)) : runFn Tryz.prog ztbl zcfg k0 19 ins_impl_ServerRight outs_impl_ServerRight [] (s0, s1, s2, s3, s4, s5, s6, ()) = T (L0 (R := (Bool × Unit)) k0 k0 (K0 (R := (Bool × Unit)) k0 ((finK Tryz.prog [.tmp 2] ins_impl_ServerRight outs_impl_ServerRight (s0, s1, s2, s3, s4, s5, s6, ()))))) s0 s1 s2 s3 s4 s5 s6 := by kernel_rfl
noncomputable def G0 {R : Type} (k0 : Nat) (hx0 : (Bool → Option R)) (hx1 : (Unit → Option R)) : Nat → (List (Int × Int × Int × Unit)) → Int → Int → Int → Int → Int → Int → (List (Int × Int × Int × Int × Unit)) → (List (Int × Int × Int × Int × Unit)) → (List (Int × Int × Int × Unit)) → Option R
  | 0, _, _, _, _, _, _, _, _, _, _ => none
  | k + 1, t46x, t47x, t48x, s, s7, s8, s9, s10, s11, s12 => R0 (G0 k0 hx0 hx1 k) hx0 hx1 t46x t47x t48x s s7 s8 s9 s10 s11 s12
theorem zg0 {R : Type} (k0 : Nat) (K : Kont R) : ∀ k : Nat, L0 k0 k K = G0 k0 (fun t2x => K .ret [(2, .bool t2x)] []) (fun _ => K (.exit 0) [(2, .undef)] []) k := by
  intro k
  induction k with
  | zero => funext t46x t47x t48x s s7 s8 s9 s10 s11 s12; rfl
  | succ k ih => funext t46x t47x t48x s s7 s8 s9 s10 s11 s12; rw [zs0, G0]; (try simp only [ih]); try rfl
noncomputable def FF (k0 : Nat) (s0 s1 s2 s3 : Int) (s4 s5 : List (Int × Int × Int × Int × Unit)) (s6 : List (Int × Int × Int × Unit)) : Option (Bool × Unit) := T (G0 k0 (A0  s0 s1 s2 s3 s4 s5 s6) (A1  s0 s1 s2 s3 s4 s5 s6) k0) s0 s1 s2 s3 s4 s5 s6
theorem zrun (k0 : Nat) (s0 s1 s2 s3 : Int) (s4 s5 : List (Int × Int × Int × Int × Unit)) (s6 : List (Int × Int × Int × Unit)) : runFn Tryz.prog ztbl zcfg k0 19 ins_impl_ServerRight outs_impl_ServerRight [] (s0, s1, s2, s3, s4, s5, s6, ()) = FF k0 s0 s1 s2 s3 s4 s5 s6 := by
  rw [ztop, FF]; (try simp only [zg0, za0, za1]); try rfl
noncomputable def _root_.Go.Rv.F_impl_ServerRight : Int × Int × Int × Int × (List (Int × Int × Int × Int × Unit)) × (List (Int × Int × Int × Int × Unit)) × (List (Int × Int × Int × Unit)) × Unit → Option (Bool × Unit) := fun x => (fun (s0 s1 s2 s3 : Int) (s4 s5 : List (Int × Int × Int × Int × Unit)) (s6 : List (Int × Int × Int × Unit)) => FF (300 + s4.length + s5.length + s6.length) s0 s1 s2 s3 s4 s5 s6) x.1 x.2.1 x.2.2.1 x.2.2.2.1 x.2.2.2.2.1 x.2.2.2.2.2.1 x.2.2.2.2.2.2.1
theorem ztblOK : ∀ g fs S, ztbl g fs = some S → SumOK Dr Tryz.prog g S := by
  intro g fs S h
  unfold ztbl at h
  split at h
  · rename_i hc; obtain ⟨rfl, rfl⟩ := hc; have := Option.some.inj h; subst this; exact ok_impl_in
  split at h
  · rename_i hc; obtain ⟨rfl, rfl⟩ := hc; have := Option.some.inj h; subst this; exact ok_impl_FarmRight
  split at h
  · rename_i hc; obtain ⟨rfl, rfl⟩ := hc; have := Option.some.inj h; subst this; exact ok_impl_LeasesRight
  cases h
theorem _root_.Go.Rv.ok_impl_ServerRight : SumOK Dr Tryz.prog 19 ⟨ins_impl_ServerRight, outs_impl_ServerRight, F_impl_ServerRight, []⟩ := runFn_ok (by kernel_rfl) ztblOK (by kernel_rfl) fun x y h => ⟨zcfg, _, (zrun _ x.1 x.2.1 x.2.2.1 x.2.2.2.1 x.2.2.2.2.1 x.2.2.2.2.2.1 x.2.2.2.2.2.2.1).trans h⟩
end impl_ServerRight
abbrev ins_impl_Farm_cap : List Par := [.v true ct4, .v false [CT.int .i64]]
abbrev outs_impl_Farm_cap : List (Bool × List CT) := [(false, [CT.int .i64])]
namespace impl_Farm_cap
/-! ### (loop.example/g00095/impl.Farm).cap (function 89) -/
noncomputable def ztbl : Tbl := fun g fs => if g = 67 ∧ fs = [] then some ⟨ins_impl_Farm_group, outs_impl_Farm_group, F_impl_Farm_group, []⟩ else none
noncomputable def zbody : Code := ((Tryz.prog.funcs[89]?).bind (·.body)).getD .skip
def zcfg : Nat → List Nat × List Nat := fun k => ([], [])
noncomputable def T  (f0 : Int) (f1 f2 : List (Int × Int × Int × Int × Unit)) (id : Int) : Option (Int × Unit) := cond (id == 0) (some (f0, ())) ((F_impl_Farm_group (f0, f1, f2, id, ())).bind fun y1 => if 0 ≤ y1.1 ∧ y1.1 < (f1.length : Int) then some ((rd (0, 0, 0, 0, ()) f1 y1.1).2.2.1, ()) else none)
theorem ztop (k0 : Nat) (f0 : Int) (f1 f2 : List (Int × Int × Int × Int × Unit)) (id : Int) : runFn Tryz.prog ztbl zcfg k0 89 ins_impl_Farm_cap outs_impl_Farm_cap [] (f0, f1, f2, id, ()) = T  f0 f1 f2 id := by kernel_rfl
noncomputable def _root_.Go.Rv.F_impl_Farm_cap : Int × (List (Int × Int × Int × Int × Unit)) × (List (Int × Int × Int × Int × Unit)) × Int × Unit → Option (Int × Unit) := fun x => T x.1 x.2.1 x.2.2.1 x.2.2.2.1
theorem ztblOK : ∀ g fs S, ztbl g fs = some S → SumOK Dr Tryz.prog g S := by
  intro g fs S h
  unfold ztbl at h
  split at h
  · rename_i hc; obtain ⟨rfl, rfl⟩ := hc; have := Option.some.inj h; subst this; exact ok_impl_Farm_group
  cases h
theorem _root_.Go.Rv.ok_impl_Farm_cap : SumOK Dr Tryz.prog 89 ⟨ins_impl_Farm_cap, outs_impl_Farm_cap, F_impl_Farm_cap, []⟩ := runFn_ok (by kernel_rfl) ztblOK (by kernel_rfl) fun x y h => ⟨zcfg, 0, (ztop 0 x.1 x.2.1 x.2.2.1 x.2.2.2.1).trans h⟩
end impl_Farm_cap
abbrev ins_impl_Farm_want : List Par := [.v true ct4, .v false [CT.int .i64]]
abbrev outs_impl_Farm_want : List (Bool × List CT) := [(false, [CT.int .i64])]
namespace impl_Farm_want
/-! ### (loop.example/g00095/impl.Farm).want (function 81) -/
noncomputable def ztbl (rc : Int × (List (Int × Int × Int × Int × Unit)) × (List (Int × Int × Int × Int × Unit)) × Int × Unit → Option (Int × Unit)) : Tbl := fun g fs => if g = 81 ∧ fs = [] then some ⟨ins_impl_Farm_want, outs_impl_Farm_want, rc, []⟩ else if g = 89 ∧ fs = [] then some ⟨ins_impl_Farm_cap, outs_impl_Farm_cap, F_impl_Farm_cap, []⟩ else none
noncomputable def zbody : Code := ((Tryz.prog.funcs[81]?).bind (·.body)).getD .skip
def zcfg : Nat → List Nat × List Nat := fun k => if k = 3 then ([1, 2, 5, 11, 12, 13], [1, 2, 5]) else if k = 9 then ([1, 2, 5, 29, 30, 31], [1, 2, 5]) else ([], [])
noncomputable def R0 {R : Type} (rc : Int × (List (Int × Int × Int × Int × Unit)) × (List (Int × Int × Int × Int × Unit)) × Int × Unit → Option (Int × Unit)) (nx0 : (Int → Int → (List (Int × Int × Int × Int × Unit)) → Int → Int → Int → (List (Int × Int × Int × Int × Unit)) → (List (Int × Int × Int × Int × Unit)) → Option R)) (ex0 : (Int → Int → Int → (List (Int × Int × Int × Int × Unit)) → (List (Int × Int × Int × Int × Unit)) → Option R)) (id2 sum : Int) (t11x : List (Int × Int × Int × Int × Unit)) (t12x t13x f : Int) (f3 f4 : List (Int × Int × Int × Int × Unit)) : Option R := cond (decide (t13x < t12x)) (if 0 ≤ t13x ∧ t13x < (t11x.length : Int) then cond ((rd (0, 0, 0, 0, ()) t11x t13x).2.1 == id2) ((rc (f, f3, f4, (rd (0, 0, 0, 0, ()) t11x t13x).1, ())).bind fun y1 => nx0 id2 (w64 (sum + y1.1)) t11x t12x (w64 (t13x + 1)) f f3 f4) (nx0 id2 sum t11x t12x (w64 (t13x + 1)) f f3 f4) else none) (ex0 id2 sum f f3 f4)
noncomputable def R1 {R : Type} (rc : Int × (List (Int × Int × Int × Int × Unit)) × (List (Int × Int × Int × Int × Unit)) × Int × Unit → Option (Int × Unit)) (nx1 : (Int → Int → (List (Int × Int × Int × Int × Unit)) → Int → Int → Int → (List (Int × Int × Int × Int × Unit)) → (List (Int × Int × Int × Int × Unit)) → Option R)) (ex1 : (Int → Int → Int → (List (Int × Int × Int × Int × Unit)) → (List (Int × Int × Int × Int × Unit)) → Option R)) (id2 sum : Int) (t29x : List (Int × Int × Int × Int × Unit)) (t30x t31x f : Int) (f3 f4 : List (Int × Int × Int × Int × Unit)) : Option R := cond (decide (t31x < t30x)) (if 0 ≤ t31x ∧ t31x < (t29x.length : Int) then cond ((rd (0, 0, 0, 0, ()) t29x t31x).2.1 == id2) (nx1 id2 (w64 (sum + (rd (0, 0, 0, 0, ()) t29x t31x).2.2.1)) t29x t30x (w64 (t31x + 1)) f f3 f4) (nx1 id2 sum t29x t30x (w64 (t31x + 1)) f f3 f4) else none) (ex1 id2 sum f f3 f4)
noncomputable def A0 (rc : Int × (List (Int × Int × Int × Int × Unit)) × (List (Int × Int × Int × Int × Unit)) × Int × Unit → Option (Int × Unit)) (lo1 : (Int → Int → (List (Int × Int × Int × Int × Unit)) → Int → Int → Int → (List (Int × Int × Int × Int × Unit)) → (List (Int × Int × Int × Int × Unit)) → Option (Int × Unit))) (f0 : Int) (f1 f2 : List (Int × Int × Int × Int × Unit)) (id : Int) (id2 sum f : Int) (f3 f4 : List (Int × Int × Int × Int × Unit)) : Option (Int × Unit) := lo1 id2 sum f4 (f4.length : Int) 0 f f3 f4
noncomputable def A1 (rc : Int × (List (Int × Int × Int × Int × Unit)) × (List (Int × Int × Int × Int × Unit)) × Int × Unit → Option (Int × Unit))  (f0 : Int) (f1 f2 : List (Int × Int × Int × Int × Unit)) (id : Int) (id2 sum f : Int) (f3 f4 : List (Int × Int × Int × Int × Unit)) : Option (Int × Unit) := (F_impl_Farm_cap (f, f3, f4, id2, ())).bind fun y1 => some ((mn sum y1.1), ())
noncomputable def T (rc : Int × (List (Int × Int × Int × Int × Unit)) × (List (Int × Int × Int × Int × Unit)) × Int × Unit → Option (Int × Unit)) (lo0 : (Int → Int → (List (Int × Int × Int × Int × Unit)) → Int → Int → Int → (List (Int × Int × Int × Int × Unit)) → (List (Int × Int × Int × Int × Unit)) → Option (Int × Unit))) (f0 : Int) (f1 f2 : List (Int × Int × Int × Int × Unit)) (id : Int) : Option (Int × Unit) := lo0 id 0 f1 (f1.length : Int) 0 f0 f1 f2
noncomputable def zst0 {R : Type} (rc : Int × (List (Int × Int × Int × Int × Unit)) × (List (Int × Int × Int × Int × Unit)) × Int × Unit → Option (Int × Unit)) (k0 : Nat) : Env → List Ob → Kont R → Option R := fun env ob K => runCode Tryz.prog (ztbl rc) 49 0 zcfg k0 (codeAt [1, 1, 0, 1, 0, 0] zbody) env ob K
noncomputable def K0 {R : Type} (rc : Int × (List (Int × Int × Int × Int × Unit)) × (List (Int × Int × Int × Int × Unit)) × Int × Unit → Option (Int × Unit)) (k0 : Nat) (K : Kont R) : Kont R := blockK 0 (seqK (fun env ob => runCode Tryz.prog (ztbl rc) 49 0 zcfg k0 (codeAt [1, 1, 1] zbody) env ob (K)) (K))
noncomputable def zst1 {R : Type} (rc : Int × (List (Int × Int × Int × Int × Unit)) × (List (Int × Int × Int × Int × Unit)) × Int × Unit → Option (Int × Unit)) (k0 : Nat) : Env → List Ob → Kont R → Option R := fun env ob K => runCode Tryz.prog (ztbl rc) 49 0 zcfg k0 (codeAt [1, 1, 1, 0, 1, 0, 0] zbody) env ob K
noncomputable def K1 {R : Type} (rc : Int × (List (Int × Int × Int × Int × Unit)) × (List (Int × Int × Int × Int × Unit)) × Int × Unit → Option (Int × Unit)) (k0 : Nat) (K : Kont R) : Kont R := blockK 2 (seqK (fun env ob => runCode Tryz.prog (ztbl rc) 49 0 zcfg k0 (codeAt [1, 1, 1, 1] zbody) env ob (K)) (K))
noncomputable def L0 {R : Type} (rc : Int × (List (Int × Int × Int × Int × Unit)) × (List (Int × Int × Int × Int × Unit)) × Int × Unit → Option (Int × Unit)) (k0 k : Nat) (K : Kont R) (id2 sum : Int) (t11x : List (Int × Int × Int × Int × Unit)) (t12x t13x f : Int) (f3 f4 : List (Int × Int × Int × Int × Unit)) : Option R := iter 0 [1, 2, 5, 11, 12, 13] [1, 2, 5] (zst0 rc k0) k [(1, .int .i64 id2), (2, .ptr 0 0 0 0), (5, .int .i64 sum), (11, .sl ct2 t11x), (12, .int .i64 t12x), (13, .int .i64 t13x)] [.box [.int .i64 f, .sl ct2 f3, .sl ct2 f4]] K
noncomputable def L1 {R : Type} (rc : Int × (List (Int × Int × Int × Int × Unit)) × (List (Int × Int × Int × Int × Unit)) × Int × Unit → Option (Int × Unit)) (k0 k : Nat) (K : Kont R) (id2 sum : Int) (t29x : List (Int × Int × Int × Int × Unit)) (t30x t31x f : Int) (f3 f4 : List (Int × Int × Int × Int × Unit)) : Option R := iter 0 [1, 2, 5, 29, 30, 31] [1, 2, 5] (zst1 rc k0) k [(1, .int .i64 id2), (2, .ptr 0 0 0 0), (5, .int .i64 sum), (29, .sl ct2 t29x), (30, .int .i64 t30x), (31, .int .i64 t31x)] [.box [.int .i64 f, .sl ct2 f3, .sl ct2 f4]] K
theorem zs0 {R : Type} (rc : Int × (List (Int × Int × Int × Int × Unit)) × (List (Int × Int × Int × Int × Unit)) × Int × Unit → Option (Int × Unit)) (k0 k : Nat) (K : Kont R) (id2 sum : Int) (t11x : List (Int × Int × Int × Int × Unit)) (t12x t13x f : Int) (f3 f4 : List (Int × Int × Int × Int × Unit)) : L0 rc k0 (k + 1) K id2 sum t11x t12x t13x f f3 f4 = R0 rc (L0 rc k0 k K) (fun id2 sum f f3 f4 => K (.exit 0) [(1, .int .i64 id2), (2, .ptr 0 0 0 0), (5, .int .i64 sum)] [.box [.int .i64 f, .sl ct2 f3, .sl ct2 f4]]) id2 sum t11x t12x t13x f f3 f4 := by kernel_rfl
theorem zs1 {R : Type} (rc : Int × (List (Int × Int × Int × Int × Unit)) × (List (Int × Int × Int × Int × Unit)) × Int × Unit → Option (Int × Unit)) (k0 k : Nat) (K : Kont R) (id2 sum : Int) (t29x : List (Int × Int × Int × Int × Unit)) (t30x t31x f : Int) (f3 f4 : List (Int × Int × Int × Int × Unit)) : L1 rc k0 (k + 1) K id2 sum t29x t30x t31x f f3 f4 = R1 rc (L1 rc k0 k K) (fun id2 sum f f3 f4 => K (.exit 2) [(1, .int .i64 id2), (2, .ptr 0 0 0 0), (5, .int .i64 sum)] [.box [.int .i64 f, .sl ct2 f3, .sl ct2 f4]]) id2 sum t29x t30x t31x f f3 f4 := by kernel_rfl
theorem za0 (rc : Int × (List (Int × Int × Int × Int × Unit)) × (List (Int × Int × Int × Int × Unit)) × Int × Unit → Option (Int × Unit)) (k0 : Nat) (f0 : Int) (f1 f2 : List (Int × Int × Int × Int × Unit)) (id : Int) (id2 sum f : Int) (f3 f4 : List (Int × Int × Int × Int × Unit)) : K0 (R := (Int × Unit)) rc k0 (finK Tryz.prog [.tmp 4] ins_impl_Farm_want outs_impl_Farm_want (f0, f1, f2, id, ())) (.exit 0) [(1, .int .i64 id2), (2, .ptr 0 0 0 0), (5, .int .i64 sum)] [.box [.int .i64 f, .sl ct2 f3, .sl ct2 f4]] = A0 rc (L1 (R := (Int × Unit)) rc k0 k0 (K1 (R := (Int × Unit)) rc k0 ((finK Tryz.prog [.tmp 4] ins_impl_Farm_want outs_impl_Farm_want (f0, f1, f2, id, ()))))) f0 f1 f2 id id2 sum f f3 f4 := by kernel_rfl
theorem za1 (rc : Int × (List (Int × Int × Int × Int × Unit)) × (List (Int × Int × Int × Int × Unit)) × Int × Unit → Option (Int × Unit)) (k0 : Nat) (f0 : Int) (f1 f2 : List (Int × Int × Int × Int × Unit)) (id : Int) (id2 sum f : Int) (f3 f4 : List (Int × Int × Int × Int × Unit)) : K1 (R := (Int × Unit)) rc k0 (finK Tryz.prog [.tmp 4] ins_impl_Farm_want outs_impl_Farm_want (f0, f1, f2, id, ())) (.exit 2) [(1, .int .i64 id2), (2, .ptr 0 0 0 0), (5, .int .i64 sum)] [.box [.int .i64 f, .sl ct2 f3, .sl ct2 f4]] = A1 rc  f0 f1 f2 id id2 sum f f3 f4 := by kernel_rfl
theorem ztop (rc : Int × (List (Int × Int × Int × Int × Unit)) × (List (Int × Int × Int × Int × Unit)) × Int × Unit → Option (Int × Unit)) (k0 : Nat) (f0 : Int) (f1 f2 : List (Int × Int × Int × Int × Unit)) (id : Int) : runFn Tryz.prog (ztbl rc) zcfg k0 81 ins_impl_Farm_want outs_impl_Farm_want [] (f0, f1, f2, id, ()) = T rc (L0 (R := (Int × Unit)) rc k0 k0 (K0 (R := (Int × Unit)) rc k0 ((finK Tryz.prog [.tmp 4] ins_impl_Farm_want outs_impl_Farm_want (f0, f1, f2, id, ()))))) f0 f1 f2 id := by kernel_rfl
noncomputable def G0 {R : Type} (rc : Int × (List (Int × Int × Int × Int × Unit)) × (List (Int × Int × Int × Int × Unit)) × Int × Unit → Option (Int × Unit)) (k0 : Nat) (hx0 : (Int → Int → Int → (List (Int × Int × Int × Int × Unit)) → (List (Int × Int × Int × Int × Unit)) → Option R)) : Nat → Int → Int → (List (Int × Int × Int × Int × Unit)) → Int → Int → Int → (List (Int × Int × Int × Int × Unit)) → (List (Int × Int × Int × Int × Unit)) → Option R
  | 0, _, _, _, _, _, _, _, _ => none
  | k + 1, id2, sum, t11x, t12x, t13x, f, f3, f4 => R0 rc (G0 rc k0 hx0 k) hx0 id2 sum t11x t12x t13x f f3 f4
theorem zg0 {R : Type} (rc : Int × (List (Int × Int × Int × Int × Unit)) × (List (Int × Int × Int × Int × Unit)) × Int × Unit → Option (Int × Unit)) (k0 : Nat) (K : Kont R) : ∀ k : Nat, L0 rc k0 k K = G0 rc k0 (fun id2 sum f f3 f4 => K (.exit 0) [(1, .int .i64 id2), (2, .ptr 0 0 0 0), (5, .int .i64 sum)] [.box [.int .i64 f, .sl ct2 f3, .sl ct2 f4]]) k := by
  intro k
  induction k with
  | zero => funext id2 sum t11x t12x t13x f f3 f4; rfl
  | succ k ih => funext id2 sum t11x t12x t13x f f3 f4; rw [zs0, G0]; (try simp only [ih]); try rfl
noncomputable def G1 {R : Type} (rc : Int × (List (Int × Int × Int × Int × Unit)) × (List (Int × Int × Int × Int × Unit)) × Int × Unit → Option (Int × Unit)) (k0 : Nat) (hx1 : (Int → Int → Int → (List (Int × Int × Int × Int × Unit)) → (List (Int × Int × Int × Int × Unit)) → Option R)) : Nat → Int → Int → (List (Int × Int × Int × Int × Unit)) → Int → Int → Int → (List (Int × Int × Int × Int × Unit)) → (List (Int × Int × Int × Int × Unit)) → Option R
  | 0, _, _, _, _, _, _, _, _ => none
  | k + 1, id2, sum, t29x, t30x, t31x, f, f3, f4 => R1 rc (G1 rc k0 hx1 k) hx1 id2 sum t29x t30x t31x f f3 f4
theorem zg1 {R : Type} (rc : Int × (List (Int × Int × Int × Int × Unit)) × (List (Int × Int × Int × Int × Unit)) × Int × Unit → Option (Int × Unit)) (k0 : Nat) (K : Kont R) : ∀ k : Nat, L1 rc k0 k K = G1 rc k0 (fun id2 sum f f3 f4 => K (.exit 2) [(1, .int .i64 id2), (2, .ptr 0 0 0 0), (5, .int .i64 sum)] [.box [.int .i64 f, .sl ct2 f3, .sl ct2 f4]]) k := by
  intro k
  induction k with
  | zero => funext id2 sum t29x t30x t31x f f3 f4; rfl
  | succ k ih => funext id2 sum t29x t30x t31x f f3 f4; rw [zs1, G1]; (try simp only [ih, zg0]); try rfl
noncomputable def FF (rc : Int × (List (Int × Int × Int × Int × Unit)) × (List (Int × Int × Int × Int × Unit)) × Int × Unit → Option (Int × Unit)) (k0 : Nat) (f0 : Int) (f1 f2 : List (Int × Int × Int × Int × Unit)) (id : Int) : Option (Int × Unit) := T rc (G0 rc k0 (A0 rc (G1 rc k0 (A1 rc  f0 f1 f2 id) k0) f0 f1 f2 id) k0) f0 f1 f2 id
theorem zrun (rc : Int × (List (Int × Int × Int × Int × Unit)) × (List (Int × Int × Int × Int × Unit)) × Int × Unit → Option (Int × Unit)) (k0 : Nat) (f0 : Int) (f1 f2 : List (Int × Int × Int × Int × Unit)) (id : Int) : runFn Tryz.prog (ztbl rc) zcfg k0 81 ins_impl_Farm_want outs_impl_Farm_want [] (f0, f1, f2, id, ()) = FF rc k0 f0 f1 f2 id := by
  rw [ztop, FF]; (try simp only [zg0, zg1, za0, za1]); try rfl
noncomputable def _root_.Go.Rv.FR_impl_Farm_want : Nat → Int × (List (Int × Int × Int × Int × Unit)) × (List (Int × Int × Int × Int × Unit)) × Int × Unit → Option (Int × Unit)
  | 0, _ => none
  | n + 1, x => (fun (f0 : Int) (f1 f2 : List (Int × Int × Int × Int × Unit)) (id : Int) => FF (FR_impl_Farm_want n) (300 + f1.length + f2.length) f0 f1 f2 id) x.1 x.2.1 x.2.2.1 x.2.2.2.1
noncomputable def _root_.Go.Rv.F_impl_Farm_want : Int × (List (Int × Int × Int × Int × Unit)) × (List (Int × Int × Int × Int × Unit)) × Int × Unit → Option (Int × Unit) := fun x => (fun (f0 : Int) (f1 f2 : List (Int × Int × Int × Int × Unit)) (id : Int) => FR_impl_Farm_want (300 + f1.length + f2.length) x) x.1 x.2.1 x.2.2.1 x.2.2.2.1
theorem ztblOK (rc : Int × (List (Int × Int × Int × Int × Unit)) × (List (Int × Int × Int × Int × Unit)) × Int × Unit → Option (Int × Unit)) (hr : SumOK Dr Tryz.prog 81 ⟨ins_impl_Farm_want, outs_impl_Farm_want, rc, []⟩) : ∀ g fs S, (ztbl rc) g fs = some S → SumOK Dr Tryz.prog g S := by
  intro g fs S h
  unfold ztbl at h
  split at h
  · rename_i hc; obtain ⟨rfl, rfl⟩ := hc; have := Option.some.inj h; subst this; exact hr
  split at h
  · rename_i hc; obtain ⟨rfl, rfl⟩ := hc; have := Option.some.inj h; subst this; exact ok_impl_Farm_cap
  cases h
theorem _root_.Go.Rv.okr_impl_Farm_want : ∀ n, SumOK Dr Tryz.prog 81 ⟨ins_impl_Farm_want, outs_impl_Farm_want, FR_impl_Farm_want n, []⟩
  | 0 => ⟨fun args w => run_enter (by kernel_rfl) args w, fun w T J x y vals avals _ _ _ _ h => by cases h⟩
  | n + 1 => runFn_ok (by kernel_rfl) (ztblOK (FR_impl_Farm_want n) (okr_impl_Farm_want n)) (by kernel_rfl) fun x y h => ⟨zcfg, _, (zrun (FR_impl_Farm_want n) _ x.1 x.2.1 x.2.2.1 x.2.2.2.1).trans h⟩
theorem _root_.Go.Rv.ok_impl_Farm_want : SumOK Dr Tryz.prog 81 ⟨ins_impl_Farm_want, outs_impl_Farm_want, F_impl_Farm_want, []⟩ := ⟨fun args w => run_enter (by kernel_rfl) args w, fun w T J x y vals avals h1 h2 h3 h4 h5 h6 => (okr_impl_Farm_want _).2 w T J x y vals avals h1 h2 h3 h4 h5 h6⟩
end impl_Farm_want
abbrev ins_impl_Farm_kids : List Par := [.v true ct4, .v false [CT.int .i64]]
abbrev outs_impl_Farm_kids : List (Bool × List CT) := [(false, [CT.sl ct0]), (false, [CT.sl [CT.int .i64]]), (false, [CT.sl [CT.int .i64]])]
namespace impl_Farm_kids
/-! ### (loop.example/g00095/impl.Farm).kids (function 69) -/
noncomputable def ztbl : Tbl := fun g fs => if g = 81 ∧ fs = [] then some ⟨ins_impl_Farm_want, outs_impl_Farm_want, F_impl_Farm_want, []⟩ else none
noncomputable def zbody : Code := ((Tryz.prog.funcs[69]?).bind (·.body)).getD .skip
def zcfg : Nat → List Nat × List Nat := fun k => if k = 3 then ([1, 2, 7, 8, 9, 18, 19, 20], [1, 2, 7, 8, 9]) else if k = 9 then ([1, 7, 8, 9, 48, 49, 50], [7, 8, 9]) else ([], [])
noncomputable def R0 {R : Type} (nx0 : (Int → (List (Int × Int × Int × Int × Unit)) → Int → Int → Int → (List (Int × Int × Int × Int × Unit)) → (List (Int × Int × Int × Int × Unit)) → (List (Int × Int × Int × Unit)) → (List (Int × Unit)) → (List (Int × Unit)) → Option R)) (ex0 : (Int → Int → (List (Int × Int × Int × Int × Unit)) → (List (Int × Int × Int × Int × Unit)) → (List (Int × Int × Int × Unit)) → (List (Int × Unit)) → (List (Int × Unit)) → Option R)) (id2 : Int) (t18x : List (Int × Int × Int × Int × Unit)) (t19x t20x f : Int) (f3 f4 : List (Int × Int × Int × Int × Unit)) (items : List (Int × Int × Int × Unit)) (groups members : List (Int × Unit)) : Option R := cond (decide (t20x < t19x)) (if 0 ≤ t20x ∧ t20x < (t18x.length : Int) then cond ((rd (0, 0, 0, 0, ()) t18x t20x).2.1 == id2) ((F_impl_Farm_want (f, f3, f4, (rd (0, 0, 0, 0, ()) t18x t20x).1, ())).bind fun y1 => if items.length + [((w64 ((items.length : Int) + 1)), y1.1, (rd (0, 0, 0, 0, ()) t18x t20x).2.2.2.1, ())].length ≤ maxRow then if groups.length + [(t20x, ())].length ≤ maxRow then nx0 id2 t18x t19x (w64 (t20x + 1)) f f3 f4 (items ++ [((w64 ((items.length : Int) + 1)), y1.1, (rd (0, 0, 0, 0, ()) t18x t20x).2.2.2.1, ())]) (groups ++ [(t20x, ())]) members else none else none) (nx0 id2 t18x t19x (w64 (t20x + 1)) f f3 f4 items groups members) else none) (ex0 id2 f f3 f4 items groups members)
noncomputable def R1 {R : Type} (nx1 : (Int → (List (Int × Int × Int × Int × Unit)) → Int → Int → (List (Int × Int × Int × Unit)) → (List (Int × Unit)) → (List (Int × Unit)) → Option R)) (ex1 : ((List (Int × Int × Int × Unit)) → (List (Int × Unit)) → (List (Int × Unit)) → Option R)) (id2 : Int) (t48x : List (Int × Int × Int × Int × Unit)) (t49x t50x : Int) (items : List (Int × Int × Int × Unit)) (groups members : List (Int × Unit)) : Option R := cond (decide (t50x < t49x)) (if 0 ≤ t50x ∧ t50x < (t48x.length : Int) then cond ((rd (0, 0, 0, 0, ()) t48x t50x).2.1 == id2) (if items.length + [((w64 ((items.length : Int) + 1)), (rd (0, 0, 0, 0, ()) t48x t50x).2.2.1, (rd (0, 0, 0, 0, ()) t48x t50x).2.2.2.1, ())].length ≤ maxRow then if members.length + [(t50x, ())].length ≤ maxRow then nx1 id2 t48x t49x (w64 (t50x + 1)) (items ++ [((w64 ((items.length : Int) + 1)), (rd (0, 0, 0, 0, ()) t48x t50x).2.2.1, (rd (0, 0, 0, 0, ()) t48x t50x).2.2.2.1, ())]) groups (members ++ [(t50x, ())]) else none else none) (nx1 id2 t48x t49x (w64 (t50x + 1)) items groups members) else none) (ex1 items groups members)
noncomputable def A0 (lo1 : (Int → (List (Int × Int × Int × Int × Unit)) → Int → Int → (List (Int × Int × Int × Unit)) → (List (Int × Unit)) → (List (Int × Unit)) → Option ((List (Int × Int × Int × Unit)) × (List (Int × Unit)) × (List (Int × Unit)) × Unit))) (f0 : Int) (f1 f2 : List (Int × Int × Int × Int × Unit)) (id : Int) (id2 f : Int) (f3 f4 : List (Int × Int × Int × Int × Unit)) (items : List (Int × Int × Int × Unit)) (groups members : List (Int × Unit)) : Option ((List (Int × Int × Int × Unit)) × (List (Int × Unit)) × (List (Int × Unit)) × Unit) := lo1 id2 f4 (f4.length : Int) 0 items groups members
noncomputable def A1  (f0 : Int) (f1 f2 : List (Int × Int × Int × Int × Unit)) (id : Int) (items : List (Int × Int × Int × Unit)) (groups members : List (Int × Unit)) : Option ((List (Int × Int × Int × Unit)) × (List (Int × Unit)) × (List (Int × Unit)) × Unit) := some (items, groups, members, ())
noncomputable def T (lo0 : (Int → (List (Int × Int × Int × Int × Unit)) → Int → Int → Int → (List (Int × Int × Int × Int × Unit)) → (List (Int × Int × Int × Int × Unit)) → (List (Int × Int × Int × Unit)) → (List (Int × Unit)) → (List (Int × Unit)) → Option ((List (Int × Int × Int × Unit)) × (List (Int × Unit)) × (List (Int × Unit)) × Unit))) (f0 : Int) (f1 f2 : List (Int × Int × Int × Int × Unit)) (id : Int) : Option ((List (Int × Int × Int × Unit)) × (List (Int × Unit)) × (List (Int × Unit)) × Unit) := lo0 id f1 (f1.length : Int) 0 f0 f1 f2 ([] : List (Int × Int × Int × Unit)) ([] : List (Int × Unit)) ([] : List (Int × Unit))
noncomputable def zst0 {R : Type} (k0 : Nat) : Env → List Ob → Kont R → Option R := fun env ob K => runCode Tryz.prog ztbl 78 0 zcfg k0 (codeAt [1, 1, 0, 1, 0, 0] zbody) env ob K
noncomputable def K0 {R : Type} (k0 : Nat) (K : Kont R) : Kont R := blockK 0 (seqK (fun env ob => runCode Tryz.prog ztbl 78 0 zcfg k0 (codeAt [1, 1, 1] zbody) env ob (K)) (K))
noncomputable def zst1 {R : Type} (k0 : Nat) : Env → List Ob → Kont R → Option R := fun env ob K => runCode Tryz.prog ztbl 78 0 zcfg k0 (codeAt [1, 1, 1, 0, 1, 0, 0] zbody) env ob K
noncomputable def K1 {R : Type} (k0 : Nat) (K : Kont R) : Kont R := blockK 2 (seqK (fun env ob => runCode Tryz.prog ztbl 78 0 zcfg k0 (codeAt [1, 1, 1, 1] zbody) env ob (K)) (K))
noncomputable def L0 {R : Type} (k0 k : Nat) (K : Kont R) (id2 : Int) (t18x : List (Int × Int × Int × Int × Unit)) (t19x t20x f : Int) (f3 f4 : List (Int × Int × Int × Int × Unit)) (items : List (Int × Int × Int × Unit)) (groups members : List (Int × Unit)) : Option R := iter 0 [1, 2, 7, 8, 9, 18, 19, 20] [1, 2, 7, 8, 9] (zst0 k0) k [(1, .int .i64 id2), (2, .ptr 0 0 0 0), (7, .own 1), (8, .own 2), (9, .own 3), (18, .sl ct2 t18x), (19, .int .i64 t19x), (20, .int .i64 t20x)] [.box [.int .i64 f, .sl ct2 f3, .sl ct2 f4], .arr ct0 items, .arr [CT.int .i64] groups, .arr [CT.int .i64] members] K
noncomputable def L1 {R : Type} (k0 k : Nat) (K : Kont R) (id2 : Int) (t48x : List (Int × Int × Int × Int × Unit)) (t49x t50x : Int) (items : List (Int × Int × Int × Unit)) (groups members : List (Int × Unit)) : Option R := iter 0 [1, 7, 8, 9, 48, 49, 50] [7, 8, 9] (zst1 k0) k [(1, .int .i64 id2), (7, .own 0), (8, .own 1), (9, .own 2), (48, .sl ct2 t48x), (49, .int .i64 t49x), (50, .int .i64 t50x)] [.arr ct0 items, .arr [CT.int .i64] groups, .arr [CT.int .i64] members] K
theorem zs0 {R : Type} (k0 k : Nat) (K : Kont R) (id2 : Int) (t18x : List (Int × Int × Int × Int × Unit)) (t19x t20x f : Int) (f3 f4 : List (Int × Int × Int × Int × Unit)) (items : List (Int × Int × Int × Unit)) (groups members : List (Int × Unit)) : L0 k0 (k + 1) K id2 t18x t19x t20x f f3 f4 items groups members = R0 (L0 k0 k K) (fun id2 f f3 f4 items groups members => K (.exit 0) [(1, .int .i64 id2), (2, .ptr 0 0 0 0), (7, .own 1), (8, .own 2), (9, .own 3)] [.box [.int .i64 f, .sl ct2 f3, .sl ct2 f4], .arr ct0 items, .arr [CT.int .i64] groups, .arr [CT.int .i64] members]) id2 t18x t19x t20x f f3 f4 items groups members := by kernel_rfl
theorem zs1 {R : Type} (k0 k : Nat) (K : Kont R) (id2 : Int) (t48x : List (Int × Int × Int × Int × Unit)) (t49x t50x : Int) (items : List (Int × Int × Int × Unit)) (groups members : List (Int × Unit)) : L1 k0 (k + 1) K id2 t48x t49x t50x items groups members = R1 (L1 k0 k K) (fun items groups members => K (.exit 2) [(7, .own 0), (8, .own 1), (9, .own 2)] [.arr ct0 items, .arr [CT.int .i64] groups, .arr [CT.int .i64] members]) id2 t48x t49x t50x items groups members := by kernel_rfl
theorem za0 (k0 : Nat) (f0 : Int) (f1 f2 : List (Int × Int × Int × Int × Unit)) (id : Int) (id2 f : Int) (f3 f4 : List (Int × Int × Int × Int × Unit)) (items : List (Int × Int × Int × Unit)) (groups members : List (Int × Unit)) : K0 (R := ((List (Int × Int × Int × Unit)) × (List (Int × Unit)) × (List (Int × Unit)) × Unit)) k0 (finK Tryz.prog [.tmp 4, .tmp 5, .tmp 6] ins_impl_Farm_kids outs_impl_Farm_kids (f0, f1, f2, id, ())) (.exit 0) [(1, .int .i64 id2), (2, .ptr 0 0 0 0), (7, .own 1), (8, .own 2), (9, .own 3)] [.box [.int .i64 f, .sl ct2 f3, .sl ct2 f4], .arr ct0 items, .arr [CT.int .i64] groups, .arr [CT.int .i64] members] = A0 (L1 (R := ((List (Int × Int × Int × Unit)) × (List (Int × Unit)) × (List (Int × Unit)) × Unit)) k0 k0 (K1 (R := ((List (Int × Int × Int × Unit)) × (List (Int × Unit)) × (List (Int × Unit)) × Unit)) k0 ((finK Tryz.prog [.tmp 4, .tmp 5, .tmp 6] ins_impl_Farm_kids outs_impl_Farm_kids (f0, f1, f2, id, ()))))) f0 f1 f2 id id2 f f3 f4 items groups members := by kernel_rfl
theorem za1 (k0 : Nat) (f0 : Int) (f1 f2 : List (Int × Int × Int × Int × Unit)) (id : Int) (items : List (Int × Int × Int × Unit)) (groups members : List (Int × Unit)) : K1 (R := ((List (Int × Int × Int × Unit)) × (List (Int × Unit)) × (List (Int × Unit)) × Unit)) k0 (finK Tryz.prog [.tmp 4, .tmp 5, .tmp 6] ins_impl_Farm_kids outs_impl_Farm_kids (f0, f1, f2, id, ())) (.exit 2) [(7, .own 0), (8, .own 1), (9, .own 2)] [.arr ct0 items, .arr [CT.int .i64] groups, .arr [CT.int .i64] members] = A1  f0 f1 f2 id items groups members := by kernel_rfl
theorem ztop (k0 : Nat) (f0 : Int) (f1 f2 : List (Int × Int × Int × Int × Unit)) (id : Int) : runFn Tryz.prog ztbl zcfg k0 69 ins_impl_Farm_kids outs_impl_Farm_kids [] (f0, f1, f2, id, ()) = T (L0 (R := ((List (Int × Int × Int × Unit)) × (List (Int × Unit)) × (List (Int × Unit)) × Unit)) k0 k0 (K0 (R := ((List (Int × Int × Int × Unit)) × (List (Int × Unit)) × (List (Int × Unit)) × Unit)) k0 ((finK Tryz.prog [.tmp 4, .tmp 5, .tmp 6] ins_impl_Farm_kids outs_impl_Farm_kids (f0, f1, f2, id, ()))))) f0 f1 f2 id := by kernel_rfl
noncomputable def G0 {R : Type} (k0 : Nat) (hx0 : (Int → Int → (List (Int × Int × Int × Int × Unit)) → (List (Int × Int × Int × Int × Unit)) → (List (Int × Int × Int × Unit)) → (List (Int × Unit)) → (List (Int × Unit)) → Option R)) : Nat → Int → (List (Int × Int × Int × Int × Unit)) → Int → Int → Int → (List (Int × Int × Int × Int × Unit)) → (List (Int × Int × Int × Int × Unit)) → (List (Int × Int × Int × Unit)) → (List (Int × Unit)) → (List (Int × Unit)) → Option R
  | 0, _, _, _, _, _, _, _, _, _, _ => none
  | k + 1, id2, t18x, t19x, t20x, f, f3, f4, items, groups, members => R0 (G0 k0 hx0 k) hx0 id2 t18x t19x t20x f f3 f4 items groups members
theorem zg0 {R : Type} (k0 : Nat) (K : Kont R) : ∀ k : Nat, L0 k0 k K = G0 k0 (fun id2 f f3 f4 items groups members => K (.exit 0) [(1, .int .i64 id2), (2, .ptr 0 0 0 0), (7, .own 1), (8, .own 2), (9, .own 3)] [.box [.int .i64 f, .sl ct2 f3, .sl ct2 f4], .arr ct0 items, .arr [CT.int .i64] groups, .arr [CT.int .i64] members]) k := by
  intro k
  induction k with
  | zero => funext id2 t18x t19x t20x f f3 f4 items groups members; rfl
  | succ k ih => funext id2 t18x t19x t20x f f3 f4 items groups members; rw [zs0, G0]; (try simp only [ih]); try rfl
noncomputable def G1 {R : Type} (k0 : Nat) (hx1 : ((List (Int × Int × Int × Unit)) → (List (Int × Unit)) → (List (Int × Unit)) → Option R)) : Nat → Int → (List (Int × Int × Int × Int × Unit)) → Int → Int → (List (Int × Int × Int × Unit)) → (List (Int × Unit)) → (List (Int × Unit)) → Option R
  | 0, _, _, _, _, _, _, _ => none
  | k + 1, id2, t48x, t49x, t50x, items, groups, members => R1 (G1 k0 hx1 k) hx1 id2 t48x t49x t50x items groups members
theorem zg1 {R : Type} (k0 : Nat) (K : Kont R) : ∀ k : Nat, L1 k0 k K = G1 k0 (fun items groups members => K (.exit 2) [(7, .own 0), (8, .own 1), (9, .own 2)] [.arr ct0 items, .arr [CT.int .i64] groups, .arr [CT.int .i64] members]) k := by
  intro k
  induction k with
  | zero => funext id2 t48x t49x t50x items groups members; rfl
  | succ k ih => funext id2 t48x t49x t50x items groups members; rw [zs1, G1]; (try simp only [ih, zg0]); try rfl
noncomputable def FF (k0 : Nat) (f0 : Int) (f1 f2 : List (Int × Int × Int × Int × Unit)) (id : Int) : Option ((List (Int × Int × Int × Unit)) × (List (Int × Unit)) × (List (Int × Unit)) × Unit) := T (G0 k0 (A0 (G1 k0 (A1  f0 f1 f2 id) k0) f0 f1 f2 id) k0) f0 f1 f2 id
theorem zrun (k0 : Nat) (f0 : Int) (f1 f2 : List (Int × Int × Int × Int × Unit)) (id : Int) : runFn Tryz.prog ztbl zcfg k0 69 ins_impl_Farm_kids outs_impl_Farm_kids [] (f0, f1, f2, id, ()) = FF k0 f0 f1 f2 id := by
  rw [ztop, FF]; (try simp only [zg0, zg1, za0, za1]); try rfl
noncomputable def _root_.Go.Rv.F_impl_Farm_kids : Int × (List (Int × Int × Int × Int × Unit)) × (List (Int × Int × Int × Int × Unit)) × Int × Unit → Option ((List (Int × Int × Int × Unit)) × (List (Int × Unit)) × (List (Int × Unit)) × Unit) := fun x => (fun (f0 : Int) (f1 f2 : List (Int × Int × Int × Int × Unit)) (id : Int) => FF (300 + f1.length + f2.length) f0 f1 f2 id) x.1 x.2.1 x.2.2.1 x.2.2.2.1
theorem ztblOK : ∀ g fs S, ztbl g fs = some S → SumOK Dr Tryz.prog g S := by
  intro g fs S h
  unfold ztbl at h
  split at h
  · rename_i hc; obtain ⟨rfl, rfl⟩ := hc; have := Option.some.inj h; subst this; exact ok_impl_Farm_want
  cases h
theorem _root_.Go.Rv.ok_impl_Farm_kids : SumOK Dr Tryz.prog 69 ⟨ins_impl_Farm_kids, outs_impl_Farm_kids, F_impl_Farm_kids, []⟩ := runFn_ok (by kernel_rfl) ztblOK (by kernel_rfl) fun x y h => ⟨zcfg, _, (zrun _ x.1 x.2.1 x.2.2.1 x.2.2.2.1).trans h⟩
end impl_Farm_kids
abbrev ins_slices_Index_impl_Item_impl_Item : List Par := [.v false [CT.sl ct0], .v true ct0]
abbrev outs_slices_Index_impl_Item_impl_Item : List (Bool × List CT) := [(false, [CT.int .i64])]
namespace slices_Index_impl_Item_impl_Item
/-! ### slices.Index[[]loop.example/g00095/impl.Item,loop.example/g00095/impl.Item] (function 84) -/
noncomputable def ztbl : Tbl := fun g fs => none
noncomputable def zbody : Code := ((Tryz.prog.funcs[84]?).bind (·.body)).getD .skip
def zcfg : Nat → List Nat × List Nat := fun k => if k = 2 then ([0, 3, 7, 8], [4]) else ([], [])
noncomputable def R0 {R : Type} (nx0 : ((List (Int × Int × Int × Unit)) → Int → Int → Int → Int → Int → Option R)) (ex0 : (Int → Option R)) (ex1 : (Unit → Option R)) (s2 : List (Int × Int × Int × Unit)) (t7x t8x v v3 v4 : Int) : Option R := cond (decide (t8x < t7x)) (if 0 ≤ t8x ∧ t8x < (s2.length : Int) then cond ((v == (rd (0, 0, 0, ()) s2 t8x).1) && ((v3 == (rd (0, 0, 0, ()) s2 t8x).2.1) && ((v4 == (rd (0, 0, 0, ()) s2 t8x).2.2.1) && true))) (ex0 t8x) (nx0 s2 t7x (w64 (t8x + 1)) v v3 v4) else none) (ex1 ())
noncomputable def A0  (s : List (Int × Int × Int × Unit)) (v0 v1 v2 : Int) (t4x : Int) : Option (Int × Unit) := some (t4x, ())
noncomputable def A1  (s : List (Int × Int × Int × Unit)) (v0 v1 v2 : Int) (_u : Unit) : Option (Int × Unit) := some ((-1), ())
noncomputable def T (lo0 : ((List (Int × Int × Int × Unit)) → Int → Int → Int → Int → Int → Option (Int × Unit))) (s : List (Int × Int × Int × Unit)) (v0 v1 v2 : Int) : Option (Int × Unit) := lo0 s (s.length : Int) 0 v0 v1 v2
noncomputable def zst0 {R : Type} (k0 : Nat) : Env → List Ob → Kont R → Option R := fun env ob K => runCode Tryz.prog ztbl 19 0 zcfg k0 (codeAt [1, 0, 1, 0, 0] zbody) env ob K
noncomputable def K0 {R : Type} (k0 : Nat) (K : Kont R) : Kont R := blockK 0 (seqK (fun env ob => runCode Tryz.prog ztbl 19 0 zcfg k0 (codeAt [1, 1] zbody) env ob (K)) (K))
noncomputable def L0 {R : Type} (k0 k : Nat) (K : Kont R) (s2 : List (Int × Int × Int × Unit)) (t7x t8x v v3 v4 : Int) : Option R := iter 0 [0, 3, 7, 8] [4] (zst0 k0) k [(0, .sl ct0 s2), (3, .ptr 0 0 0 0), (7, .int .i64 t7x), (8, .int .i64 t8x)] [.box [.int .i64 v, .int .i64 v3, .int .i64 v4]] K
theorem zs0 {R : Type} (k0 k : Nat) (K : Kont R) (s2 : List (Int × Int × Int × Unit)) (t7x t8x v v3 v4 : Int) : L0 k0 (k + 1) K s2 t7x t8x v v3 v4 = R0 (L0 k0 k K) (fun t4x => K .ret [(4, .int .i64 t4x)] []) (fun _ => K (.exit 0) [(4, .undef)] []) s2 t7x t8x v v3 v4 := by kernel_rfl
theorem za0 (k0 : Nat) (s : List (Int × Int × Int × Unit)) (v0 v1 v2 : Int) (t4x : Int) : K0 (R := (Int × Unit)) k0 (finK Tryz.prog [.tmp 4] ins_slices_Index_impl_Item_impl_Item outs_slices_Index_impl_Item_impl_Item (s, v0, v1, v2, ())) .ret [(4, .int .i64 t4x)] [] = A0  s v0 v1 v2 t4x := by kernel_rfl
theorem za1 (k0 : Nat) (s : List (Int × Int × Int × Unit)) (v0 v1 v2 : Int)  : K0 (R := (Int × Unit)) k0 (finK Tryz.prog [.tmp 4] ins_slices_Index_impl_Item_impl_Item outs_slices_Index_impl_Item_impl_Item (s, v0, v1, v2, ())) (.exit 0) [(4, .undef)] [] = A1  s v0 v1 v2 () := by kernel_rfl
theorem ztop (k0 : Nat) (s : List (Int × Int × Int × Unit)) (v0 v1 v2 : Int) : runFn Tryz.prog ztbl zcfg k0 84 ins_slices_Index_impl_Item_impl_Item outs_slices_Index_impl_Item_impl_Item [] (s, v0, v1, v2, ()) = T (L0 (R := (Int × Unit)) k0 k0 (K0 (R := (Int × Unit)) k0 ((finK Tryz.prog [.tmp 4] ins_slices_Index_impl_Item_impl_Item outs_slices_Index_impl_Item_impl_Item (s, v0, v1, v2, ()))))) s v0 v1 v2 := by kernel_rfl
noncomputable def G0 {R : Type} (k0 : Nat) (hx0 : (Int → Option R)) (hx1 : (Unit → Option R)) : Nat → (List (Int × Int × Int × Unit)) → Int → Int → Int → Int → Int → Option R
  | 0, _, _, _, _, _, _ => none
  | k + 1, s2, t7x, t8x, v, v3, v4 => R0 (G0 k0 hx0 hx1 k) hx0 hx1 s2 t7x t8x v v3 v4
theorem zg0 {R : Type} (k0 : Nat) (K : Kont R) : ∀ k : Nat, L0 k0 k K = G0 k0 (fun t4x => K .ret [(4, .int .i64 t4x)] []) (fun _ => K (.exit 0) [(4, .undef)] []) k := by
  intro k
  induction k with
  | zero => funext s2 t7x t8x v v3 v4; rfl
  | succ k ih => funext s2 t7x t8x v v3 v4; rw [zs0, G0]; (try simp only [ih]); try rfl
noncomputable def FF (k0 : Nat) (s : List (Int × Int × Int × Unit)) (v0 v1 v2 : Int) : Option (Int × Unit) := T (G0 k0 (A0  s v0 v1 v2) (A1  s v0 v1 v2) k0) s v0 v1 v2
theorem zrun (k0 : Nat) (s : List (Int × Int × Int × Unit)) (v0 v1 v2 : Int) : runFn Tryz.prog ztbl zcfg k0 84 ins_slices_Index_impl_Item_impl_Item outs_slices_Index_impl_Item_impl_Item [] (s, v0, v1, v2, ()) = FF k0 s v0 v1 v2 := by
  rw [ztop, FF]; (try simp only [zg0, za0, za1]); try rfl
noncomputable def _root_.Go.Rv.F_slices_Index_impl_Item_impl_Item : (List (Int × Int × Int × Unit)) × Int × Int × Int × Unit → Option (Int × Unit) := fun x => (fun (s : List (Int × Int × Int × Unit)) (v0 v1 v2 : Int) => FF (300 + s.length) s v0 v1 v2) x.1 x.2.1 x.2.2.1 x.2.2.2.1
theorem ztblOK : ∀ g fs S, ztbl g fs = some S → SumOK Dr Tryz.prog g S := by
  intro g fs S h
  unfold ztbl at h
  cases h
theorem _root_.Go.Rv.ok_slices_Index_impl_Item_impl_Item : SumOK Dr Tryz.prog 84 ⟨ins_slices_Index_impl_Item_impl_Item, outs_slices_Index_impl_Item_impl_Item, F_slices_Index_impl_Item_impl_Item, []⟩ := runFn_ok (by kernel_rfl) ztblOK (by kernel_rfl) fun x y h => ⟨zcfg, _, (zrun _ x.1 x.2.1 x.2.2.1 x.2.2.2.1).trans h⟩
end slices_Index_impl_Item_impl_Item
abbrev ins_impl_fill_1 : List Par := [.v true ct0, .r [CT.sl ct0]]
abbrev outs_impl_fill_1 : List (Bool × List CT) := [(false, [CT.int .i64])]
namespace impl_fill_1
/-! ### loop.example/g00095/impl.fill$1 (function 83) -/
noncomputable def ztbl : Tbl := fun g fs => if g = 84 ∧ fs = [] then some ⟨ins_slices_Index_impl_Item_impl_Item, outs_slices_Index_impl_Item_impl_Item, F_slices_Index_impl_Item_impl_Item, []⟩ else none
noncomputable def zbody : Code := ((Tryz.prog.funcs[83]?).bind (·.body)).getD .skip
def zcfg : Nat → List Nat × List Nat := fun k => ([], [])
noncomputable def T  (a0 a1 a2 : Int) (a'0 : List (Int × Int × Int × Unit)) : Option (Int × Unit) := (F_slices_Index_impl_Item_impl_Item ((a'0, ()).1, a0, a1, a2, ())).bind fun y1 => some (y1.1, ())
theorem ztop (k0 : Nat) (a0 a1 a2 : Int) (a'0 : List (Int × Int × Int × Unit)) : runFn Tryz.prog ztbl zcfg k0 83 ins_impl_fill_1 outs_impl_fill_1 [] (a0, a1, a2, a'0, ()) = T  a0 a1 a2 a'0 := by kernel_rfl
noncomputable def _root_.Go.Rv.F_impl_fill_1 : Int × Int × Int × (List (Int × Int × Int × Unit)) × Unit → Option (Int × Unit) := fun x => T x.1 x.2.1 x.2.2.1 x.2.2.2.1
theorem ztblOK : ∀ g fs S, ztbl g fs = some S → SumOK Dr Tryz.prog g S := by
  intro g fs S h
  unfold ztbl at h
  split at h
  · rename_i hc; obtain ⟨rfl, rfl⟩ := hc; have := Option.some.inj h; subst this; exact ok_slices_Index_impl_Item_impl_Item
  cases h
theorem _root_.Go.Rv.ok_impl_fill_1 : SumOK Dr Tryz.prog 83 ⟨ins_impl_fill_1, outs_impl_fill_1, F_impl_fill_1, []⟩ := runFn_ok (by kernel_rfl) ztblOK (by kernel_rfl) fun x y h => ⟨zcfg, 0, (ztop 0 x.1 x.2.1 x.2.2.1 x.2.2.2.1).trans h⟩
end impl_fill_1
abbrev ins_impl_Item_fits : List Par := [.v true ct0, .v false [CT.int .i64], .v false [CT.int .i64]]
abbrev outs_impl_Item_fits : List (Bool × List CT) := [(false, [CT.bool])]
namespace impl_Item_fits
/-! ### (loop.example/g00095/impl.Item).fits (function 85) -/
noncomputable def ztbl : Tbl := fun g fs => if g = 93 ∧ fs = [] then some ⟨ins_impl_comparePairs, outs_impl_comparePairs, F_impl_comparePairs, []⟩ else none
noncomputable def zbody : Code := ((Tryz.prog.funcs[85]?).bind (·.body)).getD .skip
def zcfg : Nat → List Nat × List Nat := fun k => ([], [])
noncomputable def T  (a0 a1 a2 amount all : Int) : Option (Bool × Unit) := cond (decide (amount ≥ 0)) ((F_impl_comparePairs (a1, all, amount, a2, ())).bind fun y1 => some ((decide (y1.1 ≤ 0)), ())) (some (false, ()))
theorem ztop (k0 : Nat) (a0 a1 a2 amount all : Int) : runFn Tryz.prog ztbl zcfg k0 85 ins_impl_Item_fits outs_impl_Item_fits [] (a0, a1, a2, amount, all, ()) = T  a0 a1 a2 amount all := by kernel_rfl
noncomputable def _root_.Go.Rv.F_impl_Item_fits : Int × Int × Int × Int × Int × Unit → Option (Bool × Unit) := fun x => T x.1 x.2.1 x.2.2.1 x.2.2.2.1 x.2.2.2.2.1
theorem ztblOK : ∀ g fs S, ztbl g fs = some S → SumOK Dr Tryz.prog g S := by
  intro g fs S h
  unfold ztbl at h
  split at h
  · rename_i hc; obtain ⟨rfl, rfl⟩ := hc; have := Option.some.inj h; subst this; exact ok_impl_comparePairs
  cases h
theorem _root_.Go.Rv.ok_impl_Item_fits : SumOK Dr Tryz.prog 85 ⟨ins_impl_Item_fits, outs_impl_Item_fits, F_impl_Item_fits, []⟩ := runFn_ok (by kernel_rfl) ztblOK (by kernel_rfl) fun x y h => ⟨zcfg, 0, (ztop 0 x.1 x.2.1 x.2.2.1 x.2.2.2.1 x.2.2.2.2.1).trans h⟩
end impl_Item_fits
abbrev ins_math_bits_Len64 : List Par := [.v false [CT.int .u64]]
abbrev outs_math_bits_Len64 : List (Bool × List CT) := [(false, [CT.int .i64])]
namespace math_bits_Len64
/-! ### math/bits.Len64 (function 118) -/
noncomputable def ztbl : Tbl := fun g fs => none
noncomputable def zbody : Code := ((Tryz.prog.funcs[118]?).bind (·.body)).getD .skip
def zcfg : Nat → List Nat × List Nat := fun k => ([], [])
noncomputable def T  (x : Int) : Option (Int × Unit) := cond (decide (x ≥ 4294967296)) (cond (decide ((Int.fdiv x (2 ^ 32)) ≥ 65536)) (cond (decide ((Int.fdiv (Int.fdiv x (2 ^ 32)) (2 ^ 16)) ≥ 256)) (if 0 ≤ (IntKind.u8.wrap ((Int.fdiv (Int.fdiv (Int.fdiv x (2 ^ 32)) (2 ^ 16)) (2 ^ 8)))) ∧ (IntKind.u8.wrap ((Int.fdiv (Int.fdiv (Int.fdiv x (2 ^ 32)) (2 ^ 16)) (2 ^ 8)))) < ((strLit [0, 1, 2, 2, 3, 3, 3, 3, 4, 4, 4, 4, 4, 4, 4, 4, 5, 5, 5, 5, 5, 5, 5, 5, 5, 5, 5, 5, 5, 5, 5, 5, 6, 6, 6, 6, 6, 6, 6, 6, 6, 6, 6, 6, 6, 6, 6, 6, 6, 6, 6, 6, 6, 6, 6, 6, 6, 6, 6, 6, 6, 6, 6, 6, 7, 7, 7, 7, 7, 7, 7, 7, 7, 7, 7, 7, 7, 7, 7, 7, 7, 7, 7, 7, 7, 7, 7, 7, 7, 7, 7, 7, 7, 7, 7, 7, 7, 7, 7, 7, 7, 7, 7, 7, 7, 7, 7, 7, 7, 7, 7, 7, 7, 7, 7, 7, 7, 7, 7, 7, 7, 7, 7, 7, 7, 7, 7, 7, 8, 8, 8, 8, 8, 8, 8, 8, 8, 8, 8, 8, 8, 8, 8, 8, 8, 8, 8, 8, 8, 8, 8, 8, 8, 8, 8, 8, 8, 8, 8, 8, 8, 8, 8, 8, 8, 8, 8, 8, 8, 8, 8, 8, 8, 8, 8, 8, 8, 8, 8, 8, 8, 8, 8, 8, 8, 8, 8, 8, 8, 8, 8, 8, 8, 8, 8, 8, 8, 8, 8, 8, 8, 8, 8, 8, 8, 8, 8, 8, 8, 8, 8, 8, 8, 8, 8, 8, 8, 8, 8, 8, 8, 8, 8, 8, 8, 8, 8, 8, 8, 8, 8, 8, 8, 8, 8, 8, 8, 8, 8, 8, 8, 8, 8, 8, 8, 8, 8, 8, 8, 8, 8, 8, 8, 8, 8, 8]).size : Int) then some ((w64 ((w64 ((w64 (32 + 16)) + 8)) + (w64 ((bt (strLit [0, 1, 2, 2, 3, 3, 3, 3, 4, 4, 4, 4, 4, 4, 4, 4, 5, 5, 5, 5, 5, 5, 5, 5, 5, 5, 5, 5, 5, 5, 5, 5, 6, 6, 6, 6, 6, 6, 6, 6, 6, 6, 6, 6, 6, 6, 6, 6, 6, 6, 6, 6, 6, 6, 6, 6, 6, 6, 6, 6, 6, 6, 6, 6, 7, 7, 7, 7, 7, 7, 7, 7, 7, 7, 7, 7, 7, 7, 7, 7, 7, 7, 7, 7, 7, 7, 7, 7, 7, 7, 7, 7, 7, 7, 7, 7, 7, 7, 7, 7, 7, 7, 7, 7, 7, 7, 7, 7, 7, 7, 7, 7, 7, 7, 7, 7, 7, 7, 7, 7, 7, 7, 7, 7, 7, 7, 7, 7, 8, 8, 8, 8, 8, 8, 8, 8, 8, 8, 8, 8, 8, 8, 8, 8, 8, 8, 8, 8, 8, 8, 8, 8, 8, 8, 8, 8, 8, 8, 8, 8, 8, 8, 8, 8, 8, 8, 8, 8, 8, 8, 8, 8, 8, 8, 8, 8, 8, 8, 8, 8, 8, 8, 8, 8, 8, 8, 8, 8, 8, 8, 8, 8, 8, 8, 8, 8, 8, 8, 8, 8, 8, 8, 8, 8, 8, 8, 8, 8, 8, 8, 8, 8, 8, 8, 8, 8, 8, 8, 8, 8, 8, 8, 8, 8, 8, 8, 8, 8, 8, 8, 8, 8, 8, 8, 8, 8, 8, 8, 8, 8, 8, 8, 8, 8, 8, 8, 8, 8, 8, 8, 8, 8, 8, 8, 8, 8]) (IntKind.u8.wrap ((Int.fdiv (Int.fdiv (Int.fdiv x (2 ^ 32)) (2 ^ 16)) (2 ^ 8))))))))), ()) else none) (if 0 ≤ (IntKind.u8.wrap ((Int.fdiv (Int.fdiv x (2 ^ 32)) (2 ^ 16)))) ∧ (IntKind.u8.wrap ((Int.fdiv (Int.fdiv x (2 ^ 32)) (2 ^ 16)))) < ((strLit [0, 1, 2, 2, 3, 3, 3, 3, 4, 4, 4, 4, 4, 4, 4, 4, 5, 5, 5, 5, 5, 5, 5, 5, 5, 5, 5, 5, 5, 5, 5, 5, 6, 6, 6, 6, 6, 6, 6, 6, 6, 6, 6, 6, 6, 6, 6, 6, 6, 6, 6, 6, 6, 6, 6, 6, 6, 6, 6, 6, 6, 6, 6, 6, 7, 7, 7, 7, 7, 7, 7, 7, 7, 7, 7, 7, 7, 7, 7, 7, 7, 7, 7, 7, 7, 7, 7, 7, 7, 7, 7, 7, 7, 7, 7, 7, 7, 7, 7, 7, 7, 7, 7, 7, 7, 7, 7, 7, 7, 7, 7, 7, 7, 7, 7, 7, 7, 7, 7, 7, 7, 7, 7, 7, 7, 7, 7, 7, 8, 8, 8, 8, 8, 8, 8, 8, 8, 8, 8, 8, 8, 8, 8, 8, 8, 8, 8, 8, 8, 8, 8, 8, 8, 8, 8, 8, 8, 8, 8, 8, 8, 8, 8, 8, 8, 8, 8, 8, 8, 8, 8, 8, 8, 8, 8, 8, 8, 8, 8, 8, 8, 8, 8, 8, 8, 8, 8, 8, 8, 8, 8, 8, 8, 8, 8, 8, 8, 8, 8, 8, 8, 8, 8, 8, 8, 8, 8, 8, 8, 8, 8, 8, 8, 8, 8, 8, 8, 8, 8, 8, 8, 8, 8, 8, 8, 8, 8, 8, 8, 8, 8, 8, 8, 8, 8, 8, 8, 8, 8, 8, 8, 8, 8, 8, 8, 8, 8, 8, 8, 8, 8, 8, 8, 8, 8, 8]).size : Int) then some ((w64 ((w64 (32 + 16)) + (w64 ((bt (strLit [0, 1, 2, 2, 3, 3, 3, 3, 4, 4, 4, 4, 4, 4, 4, 4, 5, 5, 5, 5, 5, 5, 5, 5, 5, 5, 5, 5, 5, 5, 5, 5, 6, 6, 6, 6, 6, 6, 6, 6, 6, 6, 6, 6, 6, 6, 6, 6, 6, 6, 6, 6, 6, 6, 6, 6, 6, 6, 6, 6, 6, 6, 6, 6, 7, 7, 7, 7, 7, 7, 7, 7, 7, 7, 7, 7, 7, 7, 7, 7, 7, 7, 7, 7, 7, 7, 7, 7, 7, 7, 7, 7, 7, 7, 7, 7, 7, 7, 7, 7, 7, 7, 7, 7, 7, 7, 7, 7, 7, 7, 7, 7, 7, 7, 7, 7, 7, 7, 7, 7, 7, 7, 7, 7, 7, 7, 7, 7, 8, 8, 8, 8, 8, 8, 8, 8, 8, 8, 8, 8, 8, 8, 8, 8, 8, 8, 8, 8, 8, 8, 8, 8, 8, 8, 8, 8, 8, 8, 8, 8, 8, 8, 8, 8, 8, 8, 8, 8, 8, 8, 8, 8, 8, 8, 8, 8, 8, 8, 8, 8, 8, 8, 8, 8, 8, 8, 8, 8, 8, 8, 8, 8, 8, 8, 8, 8, 8, 8, 8, 8, 8, 8, 8, 8, 8, 8, 8, 8, 8, 8, 8, 8, 8, 8, 8, 8, 8, 8, 8, 8, 8, 8, 8, 8, 8, 8, 8, 8, 8, 8, 8, 8, 8, 8, 8, 8, 8, 8, 8, 8, 8, 8, 8, 8, 8, 8, 8, 8, 8, 8, 8, 8, 8, 8, 8, 8]) (IntKind.u8.wrap ((Int.fdiv (Int.fdiv x (2 ^ 32)) (2 ^ 16))))))))), ()) else none)) (cond (decide ((Int.fdiv x (2 ^ 32)) ≥ 256)) (if 0 ≤ (IntKind.u8.wrap ((Int.fdiv (Int.fdiv x (2 ^ 32)) (2 ^ 8)))) ∧ (IntKind.u8.wrap ((Int.fdiv (Int.fdiv x (2 ^ 32)) (2 ^ 8)))) < ((strLit [0, 1, 2, 2, 3, 3, 3, 3, 4, 4, 4, 4, 4, 4, 4, 4, 5, 5, 5, 5, 5, 5, 5, 5, 5, 5, 5, 5, 5, 5, 5, 5, 6, 6, 6, 6, 6, 6, 6, 6, 6, 6, 6, 6, 6, 6, 6, 6, 6, 6, 6, 6, 6, 6, 6, 6, 6, 6, 6, 6, 6, 6, 6, 6, 7, 7, 7, 7, 7, 7, 7, 7, 7, 7, 7, 7, 7, 7, 7, 7, 7, 7, 7, 7, 7, 7, 7, 7, 7, 7, 7, 7, 7, 7, 7, 7, 7, 7, 7, 7, 7, 7, 7, 7, 7, 7, 7, 7, 7, 7, 7, 7, 7, 7, 7, 7, 7, 7, 7, 7, 7, 7, 7, 7, 7, 7, 7, 7, 8, 8, 8, 8, 8, 8, 8, 8, 8, 8, 8, 8, 8, 8, 8, 8, 8, 8, 8, 8, 8, 8, 8, 8, 8, 8, 8, 8, 8, 8, 8, 8, 8, 8, 8, 8, 8, 8, 8, 8, 8, 8, 8, 8, 8, 8, 8, 8, 8, 8, 8, 8, 8, 8, 8, 8, 8, 8, 8, 8, 8, 8, 8, 8, 8, 8, 8, 8, 8, 8, 8, 8, 8, 8, 8, 8, 8, 8, 8, 8, 8, 8, 8, 8, 8, 8, 8, 8, 8, 8, 8, 8, 8, 8, 8, 8, 8, 8, 8, 8, 8, 8, 8, 8, 8, 8, 8, 8, 8, 8, 8, 8, 8, 8, 8, 8, 8, 8, 8, 8, 8, 8, 8, 8, 8, 8, 8, 8]).size : Int) then some ((w64 ((w64 (32 + 8)) + (w64 ((bt (strLit [0, 1, 2, 2, 3, 3, 3, 3, 4, 4, 4, 4, 4, 4, 4, 4, 5, 5, 5, 5, 5, 5, 5, 5, 5, 5, 5, 5, 5, 5, 5, 5, 6, 6, 6, 6, 6, 6, 6, 6, 6, 6, 6, 6, 6, 6, 6, 6, 6, 6, 6, 6, 6, 6, 6, 6, 6, 6, 6, 6, 6, 6, 6, 6, 7, 7, 7, 7, 7, 7, 7, 7, 7, 7, 7, 7, 7, 7, 7, 7, 7, 7, 7, 7, 7, 7, 7, 7, 7, 7, 7, 7, 7, 7, 7, 7, 7, 7, 7, 7, 7, 7, 7, 7, 7, 7, 7, 7, 7, 7, 7, 7, 7, 7, 7, 7, 7, 7, 7, 7, 7, 7, 7, 7, 7, 7, 7, 7, 8, 8, 8, 8, 8, 8, 8, 8, 8, 8, 8, 8, 8, 8, 8, 8, 8, 8, 8, 8, 8, 8, 8, 8, 8, 8, 8, 8, 8, 8, 8, 8, 8, 8, 8, 8, 8, 8, 8, 8, 8, 8, 8, 8, 8, 8, 8, 8, 8, 8, 8, 8, 8, 8, 8, 8, 8, 8, 8, 8, 8, 8, 8, 8, 8, 8, 8, 8, 8, 8, 8, 8, 8, 8, 8, 8, 8, 8, 8, 8, 8, 8, 8, 8, 8, 8, 8, 8, 8, 8, 8, 8, 8, 8, 8, 8, 8, 8, 8, 8, 8, 8, 8, 8, 8, 8, 8, 8, 8, 8, 8, 8, 8, 8, 8, 8, 8, 8, 8, 8, 8, 8, 8, 8, 8, 8, 8, 8]) (IntKind.u8.wrap ((Int.fdiv (Int.fdiv x (2 ^ 32)) (2 ^ 8))))))))), ()) else none) (if 0 ≤ (IntKind.u8.wrap ((Int.fdiv x (2 ^ 32)))) ∧ (IntKind.u8.wrap ((Int.fdiv x (2 ^ 32)))) < ((strLit [0, 1, 2, 2, 3, 3, 3, 3, 4, 4, 4, 4, 4, 4, 4, 4, 5, 5, 5, 5, 5, 5, 5, 5, 5, 5, 5, 5, 5, 5, 5, 5, 6, 6, 6, 6, 6, 6, 6, 6, 6, 6, 6, 6, 6, 6, 6, 6, 6, 6, 6, 6, 6, 6, 6, 6, 6, 6, 6, 6, 6, 6, 6, 6, 7, 7, 7, 7, 7, 7, 7, 7, 7, 7, 7, 7, 7, 7, 7, 7, 7, 7, 7, 7, 7, 7, 7, 7, 7, 7, 7, 7, 7, 7, 7, 7, 7, 7, 7, 7, 7, 7, 7, 7, 7, 7, 7, 7, 7, 7, 7, 7, 7, 7, 7, 7, 7, 7, 7, 7, 7, 7, 7, 7, 7, 7, 7, 7, 8, 8, 8, 8, 8, 8, 8, 8, 8, 8, 8, 8, 8, 8, 8, 8, 8, 8, 8, 8, 8, 8, 8, 8, 8, 8, 8, 8, 8, 8, 8, 8, 8, 8, 8, 8, 8, 8, 8, 8, 8, 8, 8, 8, 8, 8, 8, 8, 8, 8, 8, 8, 8, 8, 8, 8, 8, 8, 8, 8, 8, 8, 8, 8, 8, 8, 8, 8, 8, 8, 8, 8, 8, 8, 8, 8, 8, 8, 8, 8, 8, 8, 8, 8, 8, 8, 8, 8, 8, 8, 8, 8, 8, 8, 8, 8, 8, 8, 8, 8, 8, 8, 8, 8, 8, 8, 8, 8, 8, 8, 8, 8, 8, 8, 8, 8, 8, 8, 8, 8, 8, 8, 8, 8, 8, 8, 8, 8]).size : Int) then some ((w64 (32 + (w64 ((bt (strLit [0, 1, 2, 2, 3, 3, 3, 3, 4, 4, 4, 4, 4, 4, 4, 4, 5, 5, 5, 5, 5, 5, 5, 5, 5, 5, 5, 5, 5, 5, 5, 5, 6, 6, 6, 6, 6, 6, 6, 6, 6, 6, 6, 6, 6, 6, 6, 6, 6, 6, 6, 6, 6, 6, 6, 6, 6, 6, 6, 6, 6, 6, 6, 6, 7, 7, 7, 7, 7, 7, 7, 7, 7, 7, 7, 7, 7, 7, 7, 7, 7, 7, 7, 7, 7, 7, 7, 7, 7, 7, 7, 7, 7, 7, 7, 7, 7, 7, 7, 7, 7, 7, 7, 7, 7, 7, 7, 7, 7, 7, 7, 7, 7, 7, 7, 7, 7, 7, 7, 7, 7, 7, 7, 7, 7, 7, 7, 7, 8, 8, 8, 8, 8, 8, 8, 8, 8, 8, 8, 8, 8, 8, 8, 8, 8, 8, 8, 8, 8, 8, 8, 8, 8, 8, 8, 8, 8, 8, 8, 8, 8, 8, 8, 8, 8, 8, 8, 8, 8, 8, 8, 8, 8, 8, 8, 8, 8, 8, 8, 8, 8, 8, 8, 8, 8, 8, 8, 8, 8, 8, 8, 8, 8, 8, 8, 8, 8, 8, 8, 8, 8, 8, 8, 8, 8, 8, 8, 8, 8, 8, 8, 8, 8, 8, 8, 8, 8, 8, 8, 8, 8, 8, 8, 8, 8, 8, 8, 8, 8, 8, 8, 8, 8, 8, 8, 8, 8, 8, 8, 8, 8, 8, 8, 8, 8, 8, 8, 8, 8, 8, 8, 8, 8, 8, 8, 8]) (IntKind.u8.wrap ((Int.fdiv x (2 ^ 32))))))))), ()) else none))) (cond (decide (x ≥ 65536)) (cond (decide ((Int.fdiv x (2 ^ 16)) ≥ 256)) (if 0 ≤ (IntKind.u8.wrap ((Int.fdiv (Int.fdiv x (2 ^ 16)) (2 ^ 8)))) ∧ (IntKind.u8.wrap ((Int.fdiv (Int.fdiv x (2 ^ 16)) (2 ^ 8)))) < ((strLit [0, 1, 2, 2, 3, 3, 3, 3, 4, 4, 4, 4, 4, 4, 4, 4, 5, 5, 5, 5, 5, 5, 5, 5, 5, 5, 5, 5, 5, 5, 5, 5, 6, 6, 6, 6, 6, 6, 6, 6, 6, 6, 6, 6, 6, 6, 6, 6, 6, 6, 6, 6, 6, 6, 6, 6, 6, 6, 6, 6, 6, 6, 6, 6, 7, 7, 7, 7, 7, 7, 7, 7, 7, 7, 7, 7, 7, 7, 7, 7, 7, 7, 7, 7, 7, 7, 7, 7, 7, 7, 7, 7, 7, 7, 7, 7, 7, 7, 7, 7, 7, 7, 7, 7, 7, 7, 7, 7, 7, 7, 7, 7, 7, 7, 7, 7, 7, 7, 7, 7, 7, 7, 7, 7, 7, 7, 7, 7, 8, 8, 8, 8, 8, 8, 8, 8, 8, 8, 8, 8, 8, 8, 8, 8, 8, 8, 8, 8, 8, 8, 8, 8, 8, 8, 8, 8, 8, 8, 8, 8, 8, 8, 8, 8, 8, 8, 8, 8, 8, 8, 8, 8, 8, 8, 8, 8, 8, 8, 8, 8, 8, 8, 8, 8, 8, 8, 8, 8, 8, 8, 8, 8, 8, 8, 8, 8, 8, 8, 8, 8, 8, 8, 8, 8, 8, 8, 8, 8, 8, 8, 8, 8, 8, 8, 8, 8, 8, 8, 8, 8, 8, 8, 8, 8, 8, 8, 8, 8, 8, 8, 8, 8, 8, 8, 8, 8, 8, 8, 8, 8, 8, 8, 8, 8, 8, 8, 8, 8, 8, 8, 8, 8, 8, 8, 8, 8]).size : Int) then some ((w64 ((w64 ((w64 (0 + 16)) + 8)) + (w64 ((bt (strLit [0, 1, 2, 2, 3, 3, 3, 3, 4, 4, 4, 4, 4, 4, 4, 4, 5, 5, 5, 5, 5, 5, 5, 5, 5, 5, 5, 5, 5, 5, 5, 5, 6, 6, 6, 6, 6, 6, 6, 6, 6, 6, 6, 6, 6, 6, 6, 6, 6, 6, 6, 6, 6, 6, 6, 6, 6, 6, 6, 6, 6, 6, 6, 6, 7, 7, 7, 7, 7, 7, 7, 7, 7, 7, 7, 7, 7, 7, 7, 7, 7, 7, 7, 7, 7, 7, 7, 7, 7, 7, 7, 7, 7, 7, 7, 7, 7, 7, 7, 7, 7, 7, 7, 7, 7, 7, 7, 7, 7, 7, 7, 7, 7, 7, 7, 7, 7, 7, 7, 7, 7, 7, 7, 7, 7, 7, 7, 7, 8, 8, 8, 8, 8, 8, 8, 8, 8, 8, 8, 8, 8, 8, 8, 8, 8, 8, 8, 8, 8, 8, 8, 8, 8, 8, 8, 8, 8, 8, 8, 8, 8, 8, 8, 8, 8, 8, 8, 8, 8, 8, 8, 8, 8, 8, 8, 8, 8, 8, 8, 8, 8, 8, 8, 8, 8, 8, 8, 8, 8, 8, 8, 8, 8, 8, 8, 8, 8, 8, 8, 8, 8, 8, 8, 8, 8, 8, 8, 8, 8, 8, 8, 8, 8, 8, 8, 8, 8, 8, 8, 8, 8, 8, 8, 8, 8, 8, 8, 8, 8, 8, 8, 8, 8, 8, 8, 8, 8, 8, 8, 8, 8, 8, 8, 8, 8, 8, 8, 8, 8, 8, 8, 8, 8, 8, 8, 8]) (IntKind.u8.wrap ((Int.fdiv (Int.fdiv x (2 ^ 16)) (2 ^ 8))))))))), ()) else none) (if 0 ≤ (IntKind.u8.wrap ((Int.fdiv x (2 ^ 16)))) ∧ (IntKind.u8.wrap ((Int.fdiv x (2 ^ 16)))) < ((strLit [0, 1, 2, 2, 3, 3, 3, 3, 4, 4, 4, 4, 4, 4, 4, 4, 5, 5, 5, 5, 5, 5, 5, 5, 5, 5, 5, 5, 5, 5, 5, 5, 6, 6, 6, 6, 6, 6, 6, 6, 6, 6, 6, 6, 6, 6, 6, 6, 6, 6, 6, 6, 6, 6, 6, 6, 6, 6, 6, 6, 6, 6, 6, 6, 7, 7, 7, 7, 7, 7, 7, 7, 7, 7, 7, 7, 7, 7, 7, 7, 7, 7, 7, 7, 7, 7, 7, 7, 7, 7, 7, 7, 7, 7, 7, 7, 7, 7, 7, 7, 7, 7, 7, 7, 7, 7, 7, 7, 7, 7, 7, 7, 7, 7, 7, 7, 7, 7, 7, 7, 7, 7, 7, 7, 7, 7, 7, 7, 8, 8, 8, 8, 8, 8, 8, 8, 8, 8, 8, 8, 8, 8, 8, 8, 8, 8, 8, 8, 8, 8, 8, 8, 8, 8, 8, 8, 8, 8, 8, 8, 8, 8, 8, 8, 8, 8, 8, 8, 8, 8, 8, 8, 8, 8, 8, 8, 8, 8, 8, 8, 8, 8, 8, 8, 8, 8, 8, 8, 8, 8, 8, 8, 8, 8, 8, 8, 8, 8, 8, 8, 8, 8, 8, 8, 8, 8, 8, 8, 8, 8, 8, 8, 8, 8, 8, 8, 8, 8, 8, 8, 8, 8, 8, 8, 8, 8, 8, 8, 8, 8, 8, 8, 8, 8, 8, 8, 8, 8, 8, 8, 8, 8, 8, 8, 8, 8, 8, 8, 8, 8, 8, 8, 8, 8, 8, 8]).size : Int) then some ((w64 ((w64 (0 + 16)) + (w64 ((bt (strLit [0, 1, 2, 2, 3, 3, 3, 3, 4, 4, 4, 4, 4, 4, 4, 4, 5, 5, 5, 5, 5, 5, 5, 5, 5, 5, 5, 5, 5, 5, 5, 5, 6, 6, 6, 6, 6, 6, 6, 6, 6, 6, 6, 6, 6, 6, 6, 6, 6, 6, 6, 6, 6, 6, 6, 6, 6, 6, 6, 6, 6, 6, 6, 6, 7, 7, 7, 7, 7, 7, 7, 7, 7, 7, 7, 7, 7, 7, 7, 7, 7, 7, 7, 7, 7, 7, 7, 7, 7, 7, 7, 7, 7, 7, 7, 7, 7, 7, 7, 7, 7, 7, 7, 7, 7, 7, 7, 7, 7, 7, 7, 7, 7, 7, 7, 7, 7, 7, 7, 7, 7, 7, 7, 7, 7, 7, 7, 7, 8, 8, 8, 8, 8, 8, 8, 8, 8, 8, 8, 8, 8, 8, 8, 8, 8, 8, 8, 8, 8, 8, 8, 8, 8, 8, 8, 8, 8, 8, 8, 8, 8, 8, 8, 8, 8, 8, 8, 8, 8, 8, 8, 8, 8, 8, 8, 8, 8, 8, 8, 8, 8, 8, 8, 8, 8, 8, 8, 8, 8, 8, 8, 8, 8, 8, 8, 8, 8, 8, 8, 8, 8, 8, 8, 8, 8, 8, 8, 8, 8, 8, 8, 8, 8, 8, 8, 8, 8, 8, 8, 8, 8, 8, 8, 8, 8, 8, 8, 8, 8, 8, 8, 8, 8, 8, 8, 8, 8, 8, 8, 8, 8, 8, 8, 8, 8, 8, 8, 8, 8, 8, 8, 8, 8, 8, 8, 8]) (IntKind.u8.wrap ((Int.fdiv x (2 ^ 16))))))))), ()) else none)) (cond (decide (x ≥ 256)) (if 0 ≤ (IntKind.u8.wrap ((Int.fdiv x (2 ^ 8)))) ∧ (IntKind.u8.wrap ((Int.fdiv x (2 ^ 8)))) < ((strLit [0, 1, 2, 2, 3, 3, 3, 3, 4, 4, 4, 4, 4, 4, 4, 4, 5, 5, 5, 5, 5, 5, 5, 5, 5, 5, 5, 5, 5, 5, 5, 5, 6, 6, 6, 6, 6, 6, 6, 6, 6, 6, 6, 6, 6, 6, 6, 6, 6, 6, 6, 6, 6, 6, 6, 6, 6, 6, 6, 6, 6, 6, 6, 6, 7, 7, 7, 7, 7, 7, 7, 7, 7, 7, 7, 7, 7, 7, 7, 7, 7, 7, 7, 7, 7, 7, 7, 7, 7, 7, 7, 7, 7, 7, 7, 7, 7, 7, 7, 7, 7, 7, 7, 7, 7, 7, 7, 7, 7, 7, 7, 7, 7, 7, 7, 7, 7, 7, 7, 7, 7, 7, 7, 7, 7, 7, 7, 7, 8, 8, 8, 8, 8, 8, 8, 8, 8, 8, 8, 8, 8, 8, 8, 8, 8, 8, 8, 8, 8, 8, 8, 8, 8, 8, 8, 8, 8, 8, 8, 8, 8, 8, 8, 8, 8, 8, 8, 8, 8, 8, 8, 8, 8, 8, 8, 8, 8, 8, 8, 8, 8, 8, 8, 8, 8, 8, 8, 8, 8, 8, 8, 8, 8, 8, 8, 8, 8, 8, 8, 8, 8, 8, 8, 8, 8, 8, 8, 8, 8, 8, 8, 8, 8, 8, 8, 8, 8, 8, 8, 8, 8, 8, 8, 8, 8, 8, 8, 8, 8, 8, 8, 8, 8, 8, 8, 8, 8, 8, 8, 8, 8, 8, 8, 8, 8, 8, 8, 8, 8, 8, 8, 8, 8, 8, 8, 8]).size : Int) then some ((w64 ((w64 (0 + 8)) + (w64 ((bt (strLit [0, 1, 2, 2, 3, 3, 3, 3, 4, 4, 4, 4, 4, 4, 4, 4, 5, 5, 5, 5, 5, 5, 5, 5, 5, 5, 5, 5, 5, 5, 5, 5, 6, 6, 6, 6, 6, 6, 6, 6, 6, 6, 6, 6, 6, 6, 6, 6, 6, 6, 6, 6, 6, 6, 6, 6, 6, 6, 6, 6, 6, 6, 6, 6, 7, 7, 7, 7, 7, 7, 7, 7, 7, 7, 7, 7, 7, 7, 7, 7, 7, 7, 7, 7, 7, 7, 7, 7, 7, 7, 7, 7, 7, 7, 7, 7, 7, 7, 7, 7, 7, 7, 7, 7, 7, 7, 7, 7, 7, 7, 7, 7, 7, 7, 7, 7, 7, 7, 7, 7, 7, 7, 7, 7, 7, 7, 7, 7, 8, 8, 8, 8, 8, 8, 8, 8, 8, 8, 8, 8, 8, 8, 8, 8, 8, 8, 8, 8, 8, 8, 8, 8, 8, 8, 8, 8, 8, 8, 8, 8, 8, 8, 8, 8, 8, 8, 8, 8, 8, 8, 8, 8, 8, 8, 8, 8, 8, 8, 8, 8, 8, 8, 8, 8, 8, 8, 8, 8, 8, 8, 8, 8, 8, 8, 8, 8, 8, 8, 8, 8, 8, 8, 8, 8, 8, 8, 8, 8, 8, 8, 8, 8, 8, 8, 8, 8, 8, 8, 8, 8, 8, 8, 8, 8, 8, 8, 8, 8, 8, 8, 8, 8, 8, 8, 8, 8, 8, 8, 8, 8, 8, 8, 8, 8, 8, 8, 8, 8, 8, 8, 8, 8, 8, 8, 8, 8]) (IntKind.u8.wrap ((Int.fdiv x (2 ^ 8))))))))), ()) else none) (if 0 ≤ (IntKind.u8.wrap (x)) ∧ (IntKind.u8.wrap (x)) < ((strLit [0, 1, 2, 2, 3, 3, 3, 3, 4, 4, 4, 4, 4, 4, 4, 4, 5, 5, 5, 5, 5, 5, 5, 5, 5, 5, 5, 5, 5, 5, 5, 5, 6, 6, 6, 6, 6, 6, 6, 6, 6, 6, 6, 6, 6, 6, 6, 6, 6, 6, 6, 6, 6, 6, 6, 6, 6, 6, 6, 6, 6, 6, 6, 6, 7, 7, 7, 7, 7, 7, 7, 7, 7, 7, 7, 7, 7, 7, 7, 7, 7, 7, 7, 7, 7, 7, 7, 7, 7, 7, 7, 7, 7, 7, 7, 7, 7, 7, 7, 7, 7, 7, 7, 7, 7, 7, 7, 7, 7, 7, 7, 7, 7, 7, 7, 7, 7, 7, 7, 7, 7, 7, 7, 7, 7, 7, 7, 7, 8, 8, 8, 8, 8, 8, 8, 8, 8, 8, 8, 8, 8, 8, 8, 8, 8, 8, 8, 8, 8, 8, 8, 8, 8, 8, 8, 8, 8, 8, 8, 8, 8, 8, 8, 8, 8, 8, 8, 8, 8, 8, 8, 8, 8, 8, 8, 8, 8, 8, 8, 8, 8, 8, 8, 8, 8, 8, 8, 8, 8, 8, 8, 8, 8, 8, 8, 8, 8, 8, 8, 8, 8, 8, 8, 8, 8, 8, 8, 8, 8, 8, 8, 8, 8, 8, 8, 8, 8, 8, 8, 8, 8, 8, 8, 8, 8, 8, 8, 8, 8, 8, 8, 8, 8, 8, 8, 8, 8, 8, 8, 8, 8, 8, 8, 8, 8, 8, 8, 8, 8, 8, 8, 8, 8, 8, 8, 8]).size : Int) then some ((w64 (0 + (w64 ((bt (strLit [0, 1, 2, 2, 3, 3, 3, 3, 4, 4, 4, 4, 4, 4, 4, 4, 5, 5, 5, 5, 5, 5, 5, 5, 5, 5, 5, 5, 5, 5, 5, 5, 6, 6, 6, 6, 6, 6, 6, 6, 6, 6, 6, 6, 6, 6, 6, 6, 6, 6, 6, 6, 6, 6, 6, 6, 6, 6, 6, 6, 6, 6, 6, 6, 7, 7, 7, 7, 7, 7, 7, 7, 7, 7, 7, 7, 7, 7, 7, 7, 7, 7, 7, 7, 7, 7, 7, 7, 7, 7, 7, 7, 7, 7, 7, 7, 7, 7, 7, 7, 7, 7, 7, 7, 7, 7, 7, 7, 7, 7, 7, 7, 7, 7, 7, 7, 7, 7, 7, 7, 7, 7, 7, 7, 7, 7, 7, 7, 8, 8, 8, 8, 8, 8, 8, 8, 8, 8, 8, 8, 8, 8, 8, 8, 8, 8, 8, 8, 8, 8, 8, 8, 8, 8, 8, 8, 8, 8, 8, 8, 8, 8, 8, 8, 8, 8, 8, 8, 8, 8, 8, 8, 8, 8, 8, 8, 8, 8, 8, 8, 8, 8, 8, 8, 8, 8, 8, 8, 8, 8, 8, 8, 8, 8, 8, 8, 8, 8, 8, 8, 8, 8, 8, 8, 8, 8, 8, 8, 8, 8, 8, 8, 8, 8, 8, 8, 8, 8, 8, 8, 8, 8, 8, 8, 8, 8, 8, 8, 8, 8, 8, 8, 8, 8, 8, 8, 8, 8, 8, 8, 8, 8, 8, 8, 8, 8, 8, 8, 8, 8, 8, 8, 8, 8, 8, 8]) (IntKind.u8.wrap (x))))))), ()) else none)))
theorem ztop (k0 : Nat) (x : Int) : runFn Tryz.prog ztbl zcfg k0 118 ins_math_bits_Len64 outs_math_bits_Len64 [] (x, ()) = T  x := by kernel_rfl
noncomputable def _root_.Go.Rv.F_math_bits_Len64 : Int × Unit → Option (Int × Unit) := fun x => T x.1
theorem ztblOK : ∀ g fs S, ztbl g fs = some S → SumOK Dr Tryz.prog g S := by
  intro g fs S h
  unfold ztbl at h
  cases h
theorem _root_.Go.Rv.ok_math_bits_Len64 : SumOK Dr Tryz.prog 118 ⟨ins_math_bits_Len64, outs_math_bits_Len64, F_math_bits_Len64, []⟩ := runFn_ok (by kernel_rfl) ztblOK (by kernel_rfl) fun x y h => ⟨zcfg, 0, (ztop 0 x.1).trans h⟩
end math_bits_Len64
abbrev ins_math_bits_LeadingZeros64 : List Par := [.v false [CT.int .u64]]
abbrev outs_math_bits_LeadingZeros64 : List (Bool × List CT) := [(false, [CT.int .i64])]
namespace math_bits_LeadingZeros64
/-! ### math/bits.LeadingZeros64 (function 107) -/
noncomputable def ztbl : Tbl := fun g fs => if g = 118 ∧ fs = [] then some ⟨ins_math_bits_Len64, outs_math_bits_Len64, F_math_bits_Len64, []⟩ else none
noncomputable def zbody : Code := ((Tryz.prog.funcs[107]?).bind (·.body)).getD .skip
def zcfg : Nat → List Nat × List Nat := fun k => ([], [])
noncomputable def T  (x : Int) : Option (Int × Unit) := (F_math_bits_Len64 (x, ())).bind fun y1 => some ((w64 (64 - y1.1)), ())
theorem ztop (k0 : Nat) (x : Int) : runFn Tryz.prog ztbl zcfg k0 107 ins_math_bits_LeadingZeros64 outs_math_bits_LeadingZeros64 [] (x, ()) = T  x := by kernel_rfl
noncomputable def _root_.Go.Rv.F_math_bits_LeadingZeros64 : Int × Unit → Option (Int × Unit) := fun x => T x.1
theorem ztblOK : ∀ g fs S, ztbl g fs = some S → SumOK Dr Tryz.prog g S := by
  intro g fs S h
  unfold ztbl at h
  split at h
  · rename_i hc; obtain ⟨rfl, rfl⟩ := hc; have := Option.some.inj h; subst this; exact ok_math_bits_Len64
  cases h
theorem _root_.Go.Rv.ok_math_bits_LeadingZeros64 : SumOK Dr Tryz.prog 107 ⟨ins_math_bits_LeadingZeros64, outs_math_bits_LeadingZeros64, F_math_bits_LeadingZeros64, []⟩ := runFn_ok (by kernel_rfl) ztblOK (by kernel_rfl) fun x y h => ⟨zcfg, 0, (ztop 0 x.1).trans h⟩
end math_bits_LeadingZeros64
abbrev ins_math_bits_Div64 : List Par := [.v false [CT.int .u64], .v false [CT.int .u64], .v false [CT.int .u64]]
abbrev outs_math_bits_Div64 : List (Bool × List CT) := [(false, [CT.int .u64]), (false, [CT.int .u64])]
namespace math_bits_Div64
/-! ### math/bits.Div64 (function 101) -/
noncomputable def ztbl : Tbl := fun g fs => if g = 107 ∧ fs = [] then some ⟨ins_math_bits_LeadingZeros64, outs_math_bits_LeadingZeros64, F_math_bits_LeadingZeros64, []⟩ else none
noncomputable def zbody : Code := ((Tryz.prog.funcs[101]?).bind (·.body)).getD .skip
def zcfg : Nat → List Nat × List Nat := fun k => if k = 17 then ([2, 8, 9, 10, 11, 13, 14, 15, 16], [2, 8, 9, 10, 11, 13, 14, 15]) else if k = 24 then ([2, 8, 9, 10, 14, 15, 16, 17, 18], [2, 8, 14, 15, 17, 18]) else ([], [])
noncomputable def R0 {R : Type} (nx0 : (Int → Int → Int → Int → Int → Int → Int → Int → Int → Option R)) (ex0 : (Int → Int → Int → Int → Int → Int → Int → Int → Option R)) (y2 s yn1 yn0 un32 un1 un0 q1 rhat : Int) : Option R := cond (decide (q1 ≥ 4294967296)) (cond (decide ((IntKind.u64.wrap (rhat + yn1)) ≥ 4294967296)) (ex0 y2 s yn1 yn0 un32 un1 un0 (IntKind.u64.wrap (q1 - 1))) (nx0 y2 s yn1 yn0 un32 un1 un0 (IntKind.u64.wrap (q1 - 1)) (IntKind.u64.wrap (rhat + yn1)))) (cond (decide ((IntKind.u64.wrap (q1 * yn0)) > (IntKind.u64.wrap ((IntKind.u64.wrap (4294967296 * rhat)) + un1)))) (cond (decide ((IntKind.u64.wrap (rhat + yn1)) ≥ 4294967296)) (ex0 y2 s yn1 yn0 un32 un1 un0 (IntKind.u64.wrap (q1 - 1))) (nx0 y2 s yn1 yn0 un32 un1 un0 (IntKind.u64.wrap (q1 - 1)) (IntKind.u64.wrap (rhat + yn1)))) (ex0 y2 s yn1 yn0 un32 un1 un0 q1))
noncomputable def R1 {R : Type} (nx1 : (Int → Int → Int → Int → Int → Int → Int → Int → Int → Option R)) (ex1 : (Int → Int → Int → Int → Int → Int → Option R)) (y2 s yn1 yn0 un0 q1 rhat un21 q0 : Int) : Option R := cond (decide (q0 ≥ 4294967296)) (cond (decide ((IntKind.u64.wrap (rhat + yn1)) ≥ 4294967296)) (ex1 y2 s un0 q1 un21 (IntKind.u64.wrap (q0 - 1))) (nx1 y2 s yn1 yn0 un0 q1 (IntKind.u64.wrap (rhat + yn1)) un21 (IntKind.u64.wrap (q0 - 1)))) (cond (decide ((IntKind.u64.wrap (q0 * yn0)) > (IntKind.u64.wrap ((IntKind.u64.wrap (4294967296 * rhat)) + un0)))) (cond (decide ((IntKind.u64.wrap (rhat + yn1)) ≥ 4294967296)) (ex1 y2 s un0 q1 un21 (IntKind.u64.wrap (q0 - 1))) (nx1 y2 s yn1 yn0 un0 q1 (IntKind.u64.wrap (rhat + yn1)) un21 (IntKind.u64.wrap (q0 - 1)))) (ex1 y2 s un0 q1 un21 q0))
noncomputable def A0 (lo1 : (Int → Int → Int → Int → Int → Int → Int → Int → Int → Option (Int × Int × Unit))) (hi lo y : Int) (y2 s yn1 yn0 un32 un1 un0 q1 : Int) : Option (Int × Int × Unit) := if yn1 = 0 then none else lo1 y2 s yn1 yn0 un0 q1 (IntKind.u64.wrap ((IntKind.u64.wrap ((IntKind.u64.wrap ((IntKind.u64.wrap (un32 * 4294967296)) + un1)) - (IntKind.u64.wrap (q1 * y2)))) - (IntKind.u64.wrap ((IntKind.u64.wrap (Int.tdiv (IntKind.u64.wrap ((IntKind.u64.wrap ((IntKind.u64.wrap (un32 * 4294967296)) + un1)) - (IntKind.u64.wrap (q1 * y2)))) yn1)) * yn1)))) (IntKind.u64.wrap ((IntKind.u64.wrap ((IntKind.u64.wrap (un32 * 4294967296)) + un1)) - (IntKind.u64.wrap (q1 * y2)))) (IntKind.u64.wrap (Int.tdiv (IntKind.u64.wrap ((IntKind.u64.wrap ((IntKind.u64.wrap (un32 * 4294967296)) + un1)) - (IntKind.u64.wrap (q1 * y2)))) yn1))
noncomputable def A1  (hi lo y : Int) (y2 s un0 q1 un21 q0 : Int) : Option (Int × Int × Unit) := if s < 0 then none else some ((IntKind.u64.wrap ((IntKind.u64.wrap (q1 * 4294967296)) + q0)), (Int.fdiv (IntKind.u64.wrap ((IntKind.u64.wrap ((IntKind.u64.wrap (un21 * 4294967296)) + un0)) - (IntKind.u64.wrap (q0 * y2)))) (2 ^ (min ((s : Int)).toNat 64))), ())
noncomputable def T (lo0 : (Int → Int → Int → Int → Int → Int → Int → Int → Int → Option (Int × Int × Unit))) (hi lo y : Int) : Option (Int × Int × Unit) := cond (y == 0) (none) (cond (decide (y ≤ hi)) (none) (cond (hi == 0) (if y = 0 then none else if y = 0 then none else some ((IntKind.u64.wrap (Int.tdiv lo y)), (Int.tmod lo y), ())) ((F_math_bits_LeadingZeros64 (y, ())).bind fun y1 => if (IntKind.u64.wrap (y1.1)) < 0 then none else if (IntKind.u64.wrap (y1.1)) < 0 then none else if (IntKind.u64.wrap (64 - (IntKind.u64.wrap (y1.1)))) < 0 then none else if (IntKind.u64.wrap (y1.1)) < 0 then none else if (Int.fdiv (IntKind.u64.wrap (y * 2 ^ (min (((IntKind.u64.wrap (y1.1)) : Int)).toNat 64))) (2 ^ 32)) = 0 then none else lo0 (IntKind.u64.wrap (y * 2 ^ (min (((IntKind.u64.wrap (y1.1)) : Int)).toNat 64))) (IntKind.u64.wrap (y1.1)) (Int.fdiv (IntKind.u64.wrap (y * 2 ^ (min (((IntKind.u64.wrap (y1.1)) : Int)).toNat 64))) (2 ^ 32)) (IntKind.u64.wrap (((BitVec.ofInt 64 (IntKind.u64.wrap (y * 2 ^ (min (((IntKind.u64.wrap (y1.1)) : Int)).toNat 64)))) &&& (BitVec.ofInt 64 4294967295)).toNat)) (IntKind.u64.wrap (((BitVec.ofInt 64 (IntKind.u64.wrap (hi * 2 ^ (min (((IntKind.u64.wrap (y1.1)) : Int)).toNat 64)))) ||| (BitVec.ofInt 64 (Int.fdiv lo (2 ^ (min (((IntKind.u64.wrap (64 - (IntKind.u64.wrap (y1.1)))) : Int)).toNat 64))))).toNat)) (Int.fdiv (IntKind.u64.wrap (lo * 2 ^ (min (((IntKind.u64.wrap (y1.1)) : Int)).toNat 64))) (2 ^ 32)) (IntKind.u64.wrap (((BitVec.ofInt 64 (IntKind.u64.wrap (lo * 2 ^ (min (((IntKind.u64.wrap (y1.1)) : Int)).toNat 64)))) &&& (BitVec.ofInt 64 4294967295)).toNat)) (IntKind.u64.wrap (Int.tdiv (IntKind.u64.wrap (((BitVec.ofInt 64 (IntKind.u64.wrap (hi * 2 ^ (min (((IntKind.u64.wrap (y1.1)) : Int)).toNat 64)))) ||| (BitVec.ofInt 64 (Int.fdiv lo (2 ^ (min (((IntKind.u64.wrap (64 - (IntKind.u64.wrap (y1.1)))) : Int)).toNat 64))))).toNat)) (Int.fdiv (IntKind.u64.wrap (y * 2 ^ (min (((IntKind.u64.wrap (y1.1)) : Int)).toNat 64))) (2 ^ 32)))) (IntKind.u64.wrap ((IntKind.u64.wrap (((BitVec.ofInt 64 (IntKind.u64.wrap (hi * 2 ^ (min (((IntKind.u64.wrap (y1.1)) : Int)).toNat 64)))) ||| (BitVec.ofInt 64 (Int.fdiv lo (2 ^ (min (((IntKind.u64.wrap (64 - (IntKind.u64.wrap (y1.1)))) : Int)).toNat 64))))).toNat)) - (IntKind.u64.wrap ((IntKind.u64.wrap (Int.tdiv (IntKind.u64.wrap (((BitVec.ofInt 64 (IntKind.u64.wrap (hi * 2 ^ (min (((IntKind.u64.wrap (y1.1)) : Int)).toNat 64)))) ||| (BitVec.ofInt 64 (Int.fdiv lo (2 ^ (min (((IntKind.u64.wrap (64 - (IntKind.u64.wrap (y1.1)))) : Int)).toNat 64))))).toNat)) (Int.fdiv (IntKind.u64.wrap (y * 2 ^ (min (((IntKind.u64.wrap (y1.1)) : Int)).toNat 64))) (2 ^ 32)))) * (Int.fdiv (IntKind.u64.wrap (y * 2 ^ (min (((IntKind.u64.wrap (y1.1)) : Int)).toNat 64))) (2 ^ 32)))))))))
noncomputable def zst0 {R : Type} (k0 : Nat) : Env → List Ob → Kont R → Option R := fun env ob K => runCode Tryz.prog ztbl 135 0 zcfg k0 (codeAt [1, 1, 1, 1, 1, 1, 1, 1, 1, 1, 1, 1, 1, 1, 0, 0, 0] zbody) env ob K
noncomputable def K0 {R : Type} (k0 : Nat) (K : Kont R) : Kont R := blockK 0 (seqK (fun env ob => runCode Tryz.prog ztbl 135 0 zcfg k0 (codeAt [1, 1, 1, 1, 1, 1, 1, 1, 1, 1, 1, 1, 1, 1, 1] zbody) env ob (K)) (K))
noncomputable def zst1 {R : Type} (k0 : Nat) : Env → List Ob → Kont R → Option R := fun env ob K => runCode Tryz.prog ztbl 135 0 zcfg k0 (codeAt [1, 1, 1, 1, 1, 1, 1, 1, 1, 1, 1, 1, 1, 1, 1, 1, 1, 1, 0, 0, 0] zbody) env ob K
noncomputable def K1 {R : Type} (k0 : Nat) (K : Kont R) : Kont R := blockK 2 (seqK (fun env ob => runCode Tryz.prog ztbl 135 0 zcfg k0 (codeAt [1, 1, 1, 1, 1, 1, 1, 1, 1, 1, 1, 1, 1, 1, 1, 1, 1, 1, 1] zbody) env ob (K)) (K))
noncomputable def L0 {R : Type} (k0 k : Nat) (K : Kont R) (y2 s yn1 yn0 un32 un1 un0 q1 rhat : Int) : Option R := iter 0 [2, 8, 9, 10, 11, 13, 14, 15, 16] [2, 8, 9, 10, 11, 13, 14, 15] (zst0 k0) k [(2, .int .u64 y2), (8, .int .u64 s), (9, .int .u64 yn1), (10, .int .u64 yn0), (11, .int .u64 un32), (13, .int .u64 un1), (14, .int .u64 un0), (15, .int .u64 q1), (16, .int .u64 rhat)] [] K
noncomputable def L1 {R : Type} (k0 k : Nat) (K : Kont R) (y2 s yn1 yn0 un0 q1 rhat un21 q0 : Int) : Option R := iter 0 [2, 8, 9, 10, 14, 15, 16, 17, 18] [2, 8, 14, 15, 17, 18] (zst1 k0) k [(2, .int .u64 y2), (8, .int .u64 s), (9, .int .u64 yn1), (10, .int .u64 yn0), (14, .int .u64 un0), (15, .int .u64 q1), (16, .int .u64 rhat), (17, .int .u64 un21), (18, .int .u64 q0)] [] K
theorem zs0 {R : Type} (k0 k : Nat) (K : Kont R) (y2 s yn1 yn0 un32 un1 un0 q1 rhat : Int) : L0 k0 (k + 1) K y2 s yn1 yn0 un32 un1 un0 q1 rhat = R0 (L0 k0 k K) (fun y2 s yn1 yn0 un32 un1 un0 q1 => K (.exit 0) [(2, .int .u64 y2), (8, .int .u64 s), (9, .int .u64 yn1), (10, .int .u64 yn0), (11, .int .u64 un32), (13, .int .u64 un1), (14, .int .u64 un0), (15, .int .u64 q1)] []) y2 s yn1 yn0 un32 un1 un0 q1 rhat := by kernel_rfl
theorem zs1 {R : Type} (k0 k : Nat) (K : Kont R) (y2 s yn1 yn0 un0 q1 rhat un21 q0 : Int) : L1 k0 (k + 1) K y2 s yn1 yn0 un0 q1 rhat un21 q0 = R1 (L1 k0 k K) (fun y2 s un0 q1 un21 q0 => K (.exit 2) [(2, .int .u64 y2), (8, .int .u64 s), (14, .int .u64 un0), (15, .int .u64 q1), (17, .int .u64 un21), (18, .int .u64 q0)] []) y2 s yn1 yn0 un0 q1 rhat un21 q0 := by kernel_rfl
theorem za0 (k0 : Nat) (hi lo y : Int) (y2 s yn1 yn0 un32 un1 un0 q1 : Int) : K0 (R := (Int × Int × Unit)) k0 (finK Tryz.prog [.tmp 6, .tmp 7] ins_math_bits_Div64 outs_math_bits_Div64 (hi, lo, y, ())) (.exit 0) [(2, .int .u64 y2), (8, .int .u64 s), (9, .int .u64 yn1), (10, .int .u64 yn0), (11, .int .u64 un32), (13, .int .u64 un1), (14, .int .u64 un0), (15, .int .u64 q1)] [] = A0 (L1 (R := (Int × Int × Unit)) k0 k0 (K1 (R := (Int × Int × Unit)) k0 ((finK Tryz.prog [.tmp 6, .tmp 7] ins_math_bits_Div64 outs_math_bits_Div64 (hi, lo, y, ()))))) hi lo y y2 s yn1 yn0 un32 un1 un0 q1 := by kernel_rfl
theorem za1 (k0 : Nat) (hi lo y : Int) (y2 s un0 q1 un21 q0 : Int) : K1 (R := (Int × Int × Unit)) k0 (finK Tryz.prog [.tmp 6, .tmp 7] ins_math_bits_Div64 outs_math_bits_Div64 (hi, lo, y, ())) (.exit 2) [(2, .int .u64 y2), (8, .int .u64 s), (14, .int .u64 un0), (15, .int .u64 q1), (17, .int .u64 un21), (18, .int .u64 q0)] [] = A1  hi lo y y2 s un0 q1 un21 q0 := by kernel_rfl
theorem ztop (k0 : Nat) (hi lo y : Int) : runFn Tryz.prog ztbl zcfg k0 101 ins_math_bits_Div64 outs_math_bits_Div64 [] (hi, lo, y, ()) = T (L0 (R := (Int × Int × Unit)) k0 k0 (K0 (R := (Int × Int × Unit)) k0 ((finK Tryz.prog [.tmp 6, .tmp 7] ins_math_bits_Div64 outs_math_bits_Div64 (hi, lo, y, ()))))) hi lo y := by kernel_rfl
noncomputable def G0 {R : Type} (k0 : Nat) (hx0 : (Int → Int → Int → Int → Int → Int → Int → Int → Option R)) : Nat → Int → Int → Int → Int → Int → Int → Int → Int → Int → Option R
  | 0, _, _, _, _, _, _, _, _, _ => none
  | k + 1, y2, s, yn1, yn0, un32, un1, un0, q1, rhat => R0 (G0 k0 hx0 k) hx0 y2 s yn1 yn0 un32 un1 un0 q1 rhat
theorem zg0 {R : Type} (k0 : Nat) (K : Kont R) : ∀ k : Nat, L0 k0 k K = G0 k0 (fun y2 s yn1 yn0 un32 un1 un0 q1 => K (.exit 0) [(2, .int .u64 y2), (8, .int .u64 s), (9, .int .u64 yn1), (10, .int .u64 yn0), (11, .int .u64 un32), (13, .int .u64 un1), (14, .int .u64 un0), (15, .int .u64 q1)] []) k := by
  intro k
  induction k with
  | zero => funext y2 s yn1 yn0 un32 un1 un0 q1 rhat; rfl
  | succ k ih => funext y2 s yn1 yn0 un32 un1 un0 q1 rhat; rw [zs0, G0]; (try simp only [ih]); try rfl
noncomputable def G1 {R : Type} (k0 : Nat) (hx1 : (Int → Int → Int → Int → Int → Int → Option R)) : Nat → Int → Int → Int → Int → Int → Int → Int → Int → Int → Option R
  | 0, _, _, _, _, _, _, _, _, _ => none
  | k + 1, y2, s, yn1, yn0, un0, q1, rhat, un21, q0 => R1 (G1 k0 hx1 k) hx1 y2 s yn1 yn0 un0 q1 rhat un21 q0
theorem zg1 {R : Type} (k0 : Nat) (K : Kont R) : ∀ k : Nat, L1 k0 k K = G1 k0 (fun y2 s un0 q1 un21 q0 => K (.exit 2) [(2, .int .u64 y2), (8, .int .u64 s), (14, .int .u64 un0), (15, .int .u64 q1), (17, .int .u64 un21), (18, .int .u64 q0)] []) k := by
  intro k
  induction k with
  | zero => funext y2 s yn1 yn0 un0 q1 rhat un21 q0; rfl
  | succ k ih => funext y2 s yn1 yn0 un0 q1 rhat un21 q0; rw [zs1, G1]; (try simp only [ih, zg0]); try rfl
noncomputable def FF (k0 : Nat) (hi lo y : Int) : Option (Int × Int × Unit) := T (G0 k0 (A0 (G1 k0 (A1  hi lo y) k0) hi lo y) k0) hi lo y
theorem zrun (k0 : Nat) (hi lo y : Int) : runFn Tryz.prog ztbl zcfg k0 101 ins_math_bits_Div64 outs_math_bits_Div64 [] (hi, lo, y, ()) = FF k0 hi lo y := by
  rw [ztop, FF]; (try simp only [zg0, zg1, za0, za1]); try rfl
noncomputable def _root_.Go.Rv.F_math_bits_Div64 : Int × Int × Int × Unit → Option (Int × Int × Unit) := fun x => (fun (hi lo y : Int) => FF (300) hi lo y) x.1 x.2.1 x.2.2.1
theorem ztblOK : ∀ g fs S, ztbl g fs = some S → SumOK Dr Tryz.prog g S := by
  intro g fs S h
  unfold ztbl at h
  split at h
  · rename_i hc; obtain ⟨rfl, rfl⟩ := hc; have := Option.some.inj h; subst this; exact ok_math_bits_LeadingZeros64
  cases h
theorem _root_.Go.Rv.ok_math_bits_Div64 : SumOK Dr Tryz.prog 101 ⟨ins_math_bits_Div64, outs_math_bits_Div64, F_math_bits_Div64, []⟩ := runFn_ok (by kernel_rfl) ztblOK (by kernel_rfl) fun x y h => ⟨zcfg, _, (zrun _ x.1 x.2.1 x.2.2.1).trans h⟩
end math_bits_Div64
end Go.Rv
