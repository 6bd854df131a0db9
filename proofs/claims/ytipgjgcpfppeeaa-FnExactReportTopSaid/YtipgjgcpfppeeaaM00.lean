/- What functions come to on pure values (printed by a program of ours). -/
import Derived.Test.YtipgjgcpfppeeaaRvD
import Derived.Test.YtipgjgcpfppeeaaProg
import Derived.KernelRfl
set_option linter.unusedVariables false
set_option linter.unusedSimpArgs false
set_option linter.unusedSectionVars false
set_option maxRecDepth 100000
namespace Go.Rv
open Go.Proofs
variable {Dr : Kn}
abbrev ct0 : List CT := [CT.int .i64, CT.int .i64, CT.int .i64, CT.int .i64, CT.int .i64, CT.int .i64]
def ct0s0 (p : Int × Int × Int × Int × Int × Int × Unit) (x : Int) : Int × Int × Int × Int × Int × Int × Unit := (x, p.2.1, p.2.2.1, p.2.2.2.1, p.2.2.2.2.1, p.2.2.2.2.2.1, ())
def ct0s1 (p : Int × Int × Int × Int × Int × Int × Unit) (x : Int) : Int × Int × Int × Int × Int × Int × Unit := (p.1, x, p.2.2.1, p.2.2.2.1, p.2.2.2.2.1, p.2.2.2.2.2.1, ())
def ct0s2 (p : Int × Int × Int × Int × Int × Int × Unit) (x : Int) : Int × Int × Int × Int × Int × Int × Unit := (p.1, p.2.1, x, p.2.2.2.1, p.2.2.2.2.1, p.2.2.2.2.2.1, ())
def ct0s3 (p : Int × Int × Int × Int × Int × Int × Unit) (x : Int) : Int × Int × Int × Int × Int × Int × Unit := (p.1, p.2.1, p.2.2.1, x, p.2.2.2.2.1, p.2.2.2.2.2.1, ())
def ct0s4 (p : Int × Int × Int × Int × Int × Int × Unit) (x : Int) : Int × Int × Int × Int × Int × Int × Unit := (p.1, p.2.1, p.2.2.1, p.2.2.2.1, x, p.2.2.2.2.2.1, ())
def ct0s5 (p : Int × Int × Int × Int × Int × Int × Unit) (x : Int) : Int × Int × Int × Int × Int × Int × Unit := (p.1, p.2.1, p.2.2.1, p.2.2.2.1, p.2.2.2.2.1, x, ())
/-- what is known of the worlds here -/
abbrev KN : Kn := Kn.no
abbrev ins_laws_szRowS : List Par := [.v false [CT.sl ct0], .v false [CT.int .i64]]
abbrev outs_laws_szRowS : List (Bool × List CT) := [(false, [CT.int .i64])]
namespace laws_szRowS
/-! ### loop.example/g00095/laws.szRowS (function 4) -/
noncomputable def ztbl : Tbl := fun g fs => none
noncomputable def zbody : Code := ((Try.prog.funcs[4]?).bind (·.body)).getD .skip
def zcfg : Nat → List Nat × List Nat := fun k => ([], [])
noncomputable def T  (a : List (Int × Int × Int × Int × Int × Int × Unit)) (left : Int) : Option (Int × Unit) := cond (decide ((w64 (left - (a.length : Int))) < 0)) (some ((-1), ())) (some ((w64 (left - (a.length : Int))), ()))
theorem ztop (k0 : Nat) (a : List (Int × Int × Int × Int × Int × Int × Unit)) (left : Int) : runFn Try.prog ztbl zcfg k0 4 ins_laws_szRowS outs_laws_szRowS [] (a, left, ()) = T  a left := by kernel_rfl
noncomputable def _root_.Go.Rv.F_laws_szRowS : (List (Int × Int × Int × Int × Int × Int × Unit)) × Int × Unit → Option (Int × Unit) := fun x => T x.1 x.2.1
theorem ztblOK : ∀ g fs S, ztbl g fs = some S → SumOK Dr Try.prog g S := by
  intro g fs S h
  unfold ztbl at h
  cases h
theorem _root_.Go.Rv.ok_laws_szRowS : SumOK Dr Try.prog 4 ⟨ins_laws_szRowS, outs_laws_szRowS, F_laws_szRowS, []⟩ := runFn_ok (by kernel_rfl) ztblOK (by kernel_rfl) fun x y h => ⟨zcfg, 0, (ztop 0 x.1 x.2.1).trans h⟩
end laws_szRowS
abbrev ins_spec_ReportTop : List Par := [.v false [CT.sl ct0], .v false [CT.int .i64]]
abbrev outs_spec_ReportTop : List (Bool × List CT) := [(false, [CT.sl ct0])]
namespace spec_ReportTop
/-! ### loop.example/g00095/spec.ReportTop (function 5) -/
noncomputable def ztbl : Tbl := fun g fs => none
noncomputable def zbody : Code := ((Try.prog.funcs[5]?).bind (·.body)).getD .skip
def zcfg : Nat → List Nat × List Nat := fun k => if k = 5 then ([0, 1, 5, 6], [1, 5]) else if k = 8 then ([0, 1, 5, 6, 7], [0, 1, 5, 6, 7]) else ([], [])
noncomputable def R0 {R : Type} (ex0 : (Int → (List (Int × Int × Int × Int × Int × Int × Unit)) → Option R)) (lo1 : ((List (Int × Int × Int × Int × Int × Int × Unit)) → Int → Int → Int → (List (Int × Int × Int × Int × Int × Int × Unit)) → Option R)) (list2 : List (Int × Int × Int × Int × Int × Int × Unit)) (count2 i : Int) (out : List (Int × Int × Int × Int × Int × Int × Unit)) : Option R := cond (decide (i < (list2.length : Int))) (lo1 list2 count2 i 0 out) (ex0 count2 out)
noncomputable def R1 {R : Type} (nx1 : ((List (Int × Int × Int × Int × Int × Int × Unit)) → Int → Int → Int → (List (Int × Int × Int × Int × Int × Int × Unit)) → Option R)) (ex1 : ((List (Int × Int × Int × Int × Int × Int × Unit)) → Int → Int → Int → (List (Int × Int × Int × Int × Int × Int × Unit)) → Option R)) (list2 : List (Int × Int × Int × Int × Int × Int × Unit)) (count2 i atx : Int) (out : List (Int × Int × Int × Int × Int × Int × Unit)) : Option R := cond (decide (atx < (out.length : Int))) (if 0 ≤ atx ∧ atx < (out.length : Int) then if 0 ≤ i ∧ i < (list2.length : Int) then cond (decide ((out.getD atx.toNat (0, 0, 0, 0, 0, 0, ())).2.2.2.2.1 > (rd (0, 0, 0, 0, 0, 0, ()) list2 i).2.2.2.2.1)) (nx1 list2 count2 i (w64 (atx + 1)) out) (if 0 ≤ atx ∧ atx < (out.length : Int) then if 0 ≤ i ∧ i < (list2.length : Int) then cond ((out.getD atx.toNat (0, 0, 0, 0, 0, 0, ())).2.2.2.2.1 == (rd (0, 0, 0, 0, 0, 0, ()) list2 i).2.2.2.2.1) (if 0 ≤ atx ∧ atx < (out.length : Int) then if 0 ≤ i ∧ i < (list2.length : Int) then cond (decide ((out.getD atx.toNat (0, 0, 0, 0, 0, 0, ())).1 ≤ (rd (0, 0, 0, 0, 0, 0, ()) list2 i).1)) (nx1 list2 count2 i (w64 (atx + 1)) out) (ex1 list2 count2 i atx out) else none else none) (ex1 list2 count2 i atx out) else none else none) else none else none) (ex1 list2 count2 i atx out)
noncomputable def A0  (list : List (Int × Int × Int × Int × Int × Int × Unit)) (count : Int) (count2 : Int) (out : List (Int × Int × Int × Int × Int × Int × Unit)) : Option ((List (Int × Int × Int × Int × Int × Int × Unit)) × Unit) := cond (decide (count2 < 1)) (some (([] : List (Int × Int × Int × Int × Int × Int × Unit)), ())) (cond (decide (count2 < (out.length : Int))) (if 0 ≤ count2 ∧ count2 ≤ (out.length : Int) then if (count2.toNat - 0) ≤ out.length then some (out.take (count2.toNat - 0), ()) else none else none) (some (out, ())))
noncomputable def A1 {R : Type} (nx0 : ((List (Int × Int × Int × Int × Int × Int × Unit)) → Int → Int → (List (Int × Int × Int × Int × Int × Int × Unit)) → Option R)) (list2 : List (Int × Int × Int × Int × Int × Int × Unit)) (count2 i atx : Int) (out : List (Int × Int × Int × Int × Int × Int × Unit)) : Option R := if 0 ≤ atx ∧ atx ≤ (out.length : Int) then if 0 + (atx.toNat - 0) ≤ out.length then if ([] : List (Int × Int × Int × Int × Int × Int × Unit)).length + ((out.drop 0).take (atx.toNat - 0)).length ≤ maxRow then if 0 ≤ i ∧ i < (list2.length : Int) then if (([] : List (Int × Int × Int × Int × Int × Int × Unit)) ++ ((out.drop 0).take (atx.toNat - 0))).length + [((rd (0, 0, 0, 0, 0, 0, ()) list2 i).1, (rd (0, 0, 0, 0, 0, 0, ()) list2 i).2.1, (rd (0, 0, 0, 0, 0, 0, ()) list2 i).2.2.1, (rd (0, 0, 0, 0, 0, 0, ()) list2 i).2.2.2.1, (rd (0, 0, 0, 0, 0, 0, ()) list2 i).2.2.2.2.1, (rd (0, 0, 0, 0, 0, 0, ()) list2 i).2.2.2.2.2.1, ())].length ≤ maxRow then if 0 ≤ atx ∧ atx ≤ (out.length : Int) then if (atx.toNat) + (out.length - atx.toNat) ≤ out.length then if ((([] : List (Int × Int × Int × Int × Int × Int × Unit)) ++ ((out.drop 0).take (atx.toNat - 0))) ++ [((rd (0, 0, 0, 0, 0, 0, ()) list2 i).1, (rd (0, 0, 0, 0, 0, 0, ()) list2 i).2.1, (rd (0, 0, 0, 0, 0, 0, ()) list2 i).2.2.1, (rd (0, 0, 0, 0, 0, 0, ()) list2 i).2.2.2.1, (rd (0, 0, 0, 0, 0, 0, ()) list2 i).2.2.2.2.1, (rd (0, 0, 0, 0, 0, 0, ()) list2 i).2.2.2.2.2.1, ())]).length + ((out.drop (atx.toNat)).take (out.length - atx.toNat)).length ≤ maxRow then nx0 list2 count2 (w64 (i + 1)) (((([] : List (Int × Int × Int × Int × Int × Int × Unit)) ++ ((out.drop 0).take (atx.toNat - 0))) ++ [((rd (0, 0, 0, 0, 0, 0, ()) list2 i).1, (rd (0, 0, 0, 0, 0, 0, ()) list2 i).2.1, (rd (0, 0, 0, 0, 0, 0, ()) list2 i).2.2.1, (rd (0, 0, 0, 0, 0, 0, ()) list2 i).2.2.2.1, (rd (0, 0, 0, 0, 0, 0, ()) list2 i).2.2.2.2.1, (rd (0, 0, 0, 0, 0, 0, ()) list2 i).2.2.2.2.2.1, ())]) ++ ((out.drop (atx.toNat)).take (out.length - atx.toNat))) else none else none else none else none else none else none else none else none
noncomputable def T (lo0 : ((List (Int × Int × Int × Int × Int × Int × Unit)) → Int → Int → (List (Int × Int × Int × Int × Int × Int × Unit)) → Option ((List (Int × Int × Int × Int × Int × Int × Unit)) × Unit))) (list : List (Int × Int × Int × Int × Int × Int × Unit)) (count : Int) : Option ((List (Int × Int × Int × Int × Int × Int × Unit)) × Unit) := cond (decide ((list.length : Int) > 400)) (some (([] : List (Int × Int × Int × Int × Int × Int × Unit)), ())) (lo0 list count 0 ([] : List (Int × Int × Int × Int × Int × Int × Unit)))
noncomputable def zst0 {R : Type} (k0 : Nat) : Env → List Ob → Kont R → Option R := fun env ob K => runCode Try.prog ztbl 93 0 zcfg k0 (codeAt [1, 1, 1, 0, 1, 0, 0] zbody) env ob K
noncomputable def K0 {R : Type} (k0 : Nat) (K : Kont R) : Kont R := blockK 0 (seqK (fun env ob => runCode Try.prog ztbl 93 0 zcfg k0 (codeAt [1, 1, 1, 1] zbody) env ob (K)) (K))
noncomputable def zst1 {R : Type} (k0 : Nat) : Env → List Ob → Kont R → Option R := fun env ob K => runCode Try.prog ztbl 93 0 zcfg k0 (codeAt [1, 1, 1, 0, 1, 0, 0, 1, 0, 0, 1, 0, 0, 0] zbody) env ob K
noncomputable def K1 {R : Type} (k0 : Nat) (K : Kont R) : Kont R := blockK 2 (seqK (fun env ob => runCode Try.prog ztbl 93 0 zcfg k0 (codeAt [1, 1, 1, 0, 1, 0, 0, 1, 0, 0, 1, 1] zbody) env ob (blockK 1 (seqK (fun env ob => runCode Try.prog ztbl 93 0 zcfg k0 (codeAt [1, 1, 1, 0, 1, 0, 0, 1, 1] zbody) env ob (K)) (K)))) (blockK 1 (seqK (fun env ob => runCode Try.prog ztbl 93 0 zcfg k0 (codeAt [1, 1, 1, 0, 1, 0, 0, 1, 1] zbody) env ob (K)) (K))))
noncomputable def L0 {R : Type} (k0 k : Nat) (K : Kont R) (list2 : List (Int × Int × Int × Int × Int × Int × Unit)) (count2 i : Int) (out : List (Int × Int × Int × Int × Int × Int × Unit)) : Option R := iter 0 [0, 1, 5, 6] [1, 5] (zst0 k0) k [(0, .sl ct0 list2), (1, .int .i64 count2), (5, .own 0), (6, .int .i64 i)] [.arr ct0 out] K
noncomputable def L1 {R : Type} (k0 k : Nat) (K : Kont R) (list2 : List (Int × Int × Int × Int × Int × Int × Unit)) (count2 i atx : Int) (out : List (Int × Int × Int × Int × Int × Int × Unit)) : Option R := iter 0 [0, 1, 5, 6, 7] [0, 1, 5, 6, 7] (zst1 k0) k [(0, .sl ct0 list2), (1, .int .i64 count2), (5, .own 0), (6, .int .i64 i), (7, .int .i64 atx)] [.arr ct0 out] K
theorem zs0 {R : Type} (k0 k : Nat) (K : Kont R) (list2 : List (Int × Int × Int × Int × Int × Int × Unit)) (count2 i : Int) (out : List (Int × Int × Int × Int × Int × Int × Unit)) : L0 k0 (k + 1) K list2 count2 i out = R0 (fun count2 out => K (.exit 0) [(1, .int .i64 count2), (5, .own 0)] [.arr ct0 out]) (L1 k0 k0 (K1 k0 (loopK 0 [0, 1, 5, 6] [1, 5] (fun env ob => iter 0 [0, 1, 5, 6] [1, 5] (zst0 k0) k env ob K) K))) list2 count2 i out := by kernel_rfl
theorem zs1 {R : Type} (k0 k : Nat) (K : Kont R) (list2 : List (Int × Int × Int × Int × Int × Int × Unit)) (count2 i atx : Int) (out : List (Int × Int × Int × Int × Int × Int × Unit)) : L1 k0 (k + 1) K list2 count2 i atx out = R1 (L1 k0 k K) (fun list2 count2 i atx out => K (.exit 2) [(0, .sl ct0 list2), (1, .int .i64 count2), (5, .own 0), (6, .int .i64 i), (7, .int .i64 atx)] [.arr ct0 out]) list2 count2 i atx out := by kernel_rfl
theorem za0 (k0 : Nat) (list : List (Int × Int × Int × Int × Int × Int × Unit)) (count : Int) (count2 : Int) (out : List (Int × Int × Int × Int × Int × Int × Unit)) : K0 (R := ((List (Int × Int × Int × Int × Int × Int × Unit)) × Unit)) k0 (finK Try.prog [.tmp 4] ins_spec_ReportTop outs_spec_ReportTop (list, count, ())) (.exit 0) [(1, .int .i64 count2), (5, .own 0)] [.arr ct0 out] = A0  list count count2 out := by kernel_rfl
theorem za1 {R : Type} (k0 k : Nat) (K : Kont R) (list2 : List (Int × Int × Int × Int × Int × Int × Unit)) (count2 i atx : Int) (out : List (Int × Int × Int × Int × Int × Int × Unit)) : K1 k0 (loopK 0 [0, 1, 5, 6] [1, 5] (fun env ob => iter 0 [0, 1, 5, 6] [1, 5] (zst0 k0) k env ob K) K) (.exit 2) [(0, .sl ct0 list2), (1, .int .i64 count2), (5, .own 0), (6, .int .i64 i), (7, .int .i64 atx)] [.arr ct0 out] = A1 (L0 k0 k K) list2 count2 i atx out := by kernel_rfl
theorem ztop (k0 : Nat) (list : List (Int × Int × Int × Int × Int × Int × Unit)) (count : Int) : runFn Try.prog ztbl zcfg k0 5 ins_spec_ReportTop outs_spec_ReportTop [] (list, count, ()) = T (L0 (R := ((List (Int × Int × Int × Int × Int × Int × Unit)) × Unit)) k0 k0 (K0 (R := ((List (Int × Int × Int × Int × Int × Int × Unit)) × Unit)) k0 ((finK Try.prog [.tmp 4] ins_spec_ReportTop outs_spec_ReportTop (list, count, ()))))) list count := by kernel_rfl
noncomputable def G1 {R : Type} (k0 : Nat) (hx1 : ((List (Int × Int × Int × Int × Int × Int × Unit)) → Int → Int → Int → (List (Int × Int × Int × Int × Int × Int × Unit)) → Option R)) : Nat → (List (Int × Int × Int × Int × Int × Int × Unit)) → Int → Int → Int → (List (Int × Int × Int × Int × Int × Int × Unit)) → Option R
  | 0, _, _, _, _, _ => none
  | k + 1, list2, count2, i, atx, out => R1 (G1 k0 hx1 k) hx1 list2 count2 i atx out
theorem zg1 {R : Type} (k0 : Nat) (K : Kont R) : ∀ k : Nat, L1 k0 k K = G1 k0 (fun list2 count2 i atx out => K (.exit 2) [(0, .sl ct0 list2), (1, .int .i64 count2), (5, .own 0), (6, .int .i64 i), (7, .int .i64 atx)] [.arr ct0 out]) k := by
  intro k
  induction k with
  | zero => funext list2 count2 i atx out; rfl
  | succ k ih => funext list2 count2 i atx out; rw [zs1, G1]; (try simp only [ih]); try rfl
noncomputable def G0 {R : Type} (k0 : Nat) (hx0 : (Int → (List (Int × Int × Int × Int × Int × Int × Unit)) → Option R)) : Nat → (List (Int × Int × Int × Int × Int × Int × Unit)) → Int → Int → (List (Int × Int × Int × Int × Int × Int × Unit)) → Option R
  | 0, _, _, _, _ => none
  | k + 1, list2, count2, i, out => R0 hx0 (G1 k0 (A1 (G0 k0 hx0 k)) k0) list2 count2 i out
theorem zg0 {R : Type} (k0 : Nat) (K : Kont R) : ∀ k : Nat, L0 k0 k K = G0 k0 (fun count2 out => K (.exit 0) [(1, .int .i64 count2), (5, .own 0)] [.arr ct0 out]) k := by
  intro k
  induction k with
  | zero => funext list2 count2 i out; rfl
  | succ k ih => funext list2 count2 i out; rw [zs0, G0]; (try simp only [ih, zg1, za1]); try rfl
noncomputable def FF (k0 : Nat) (list : List (Int × Int × Int × Int × Int × Int × Unit)) (count : Int) : Option ((List (Int × Int × Int × Int × Int × Int × Unit)) × Unit) := T (G0 k0 (A0  list count) k0) list count
theorem zrun (k0 : Nat) (list : List (Int × Int × Int × Int × Int × Int × Unit)) (count : Int) : runFn Try.prog ztbl zcfg k0 5 ins_spec_ReportTop outs_spec_ReportTop [] (list, count, ()) = FF k0 list count := by
  rw [ztop, FF]; (try simp only [zg1, zg0, za0]); try rfl
noncomputable def _root_.Go.Rv.F_spec_ReportTop : (List (Int × Int × Int × Int × Int × Int × Unit)) × Int × Unit → Option ((List (Int × Int × Int × Int × Int × Int × Unit)) × Unit) := fun x => (fun (list : List (Int × Int × Int × Int × Int × Int × Unit)) (count : Int) => FF (300 + list.length) list count) x.1 x.2.1
theorem ztblOK : ∀ g fs S, ztbl g fs = some S → SumOK Dr Try.prog g S := by
  intro g fs S h
  unfold ztbl at h
  cases h
theorem _root_.Go.Rv.ok_spec_ReportTop : SumOK Dr Try.prog 5 ⟨ins_spec_ReportTop, outs_spec_ReportTop, F_spec_ReportTop, []⟩ := runFn_ok (by kernel_rfl) ztblOK (by kernel_rfl) fun x y h => ⟨zcfg, _, (zrun _ x.1 x.2.1).trans h⟩
end spec_ReportTop
abbrev ins_laws_toRow : List Par := [.v true ct0]
abbrev outs_laws_toRow : List (Bool × List CT) := [(true, ct0)]
namespace laws_toRow
/-! ### loop.example/g00095/laws.toRow (function 11) -/
noncomputable def ztbl : Tbl := fun g fs => none
noncomputable def zbody : Code := ((Try.prog.funcs[11]?).bind (·.body)).getD .skip
def zcfg : Nat → List Nat × List Nat := fun k => ([], [])
noncomputable def T  (a0 a1 a2 a3 a4 a5 : Int) : Option (Int × Int × Int × Int × Int × Int × Unit) := some (a0, a1, a2, a3, a4, a5, ())
theorem ztop (k0 : Nat) (a0 a1 a2 a3 a4 a5 : Int) : runFn Try.prog ztbl zcfg k0 11 ins_laws_toRow outs_laws_toRow [] (a0, a1, a2, a3, a4, a5, ()) = T  a0 a1 a2 a3 a4 a5 := by kernel_rfl
noncomputable def _root_.Go.Rv.F_laws_toRow : Int × Int × Int × Int × Int × Int × Unit → Option (Int × Int × Int × Int × Int × Int × Unit) := fun x => T x.1 x.2.1 x.2.2.1 x.2.2.2.1 x.2.2.2.2.1 x.2.2.2.2.2.1
theorem ztblOK : ∀ g fs S, ztbl g fs = some S → SumOK Dr Try.prog g S := by
  intro g fs S h
  unfold ztbl at h
  cases h
theorem _root_.Go.Rv.ok_laws_toRow : SumOK Dr Try.prog 11 ⟨ins_laws_toRow, outs_laws_toRow, F_laws_toRow, []⟩ := runFn_ok (by kernel_rfl) ztblOK (by kernel_rfl) fun x y h => ⟨zcfg, 0, (ztop 0 x.1 x.2.1 x.2.2.1 x.2.2.2.1 x.2.2.2.2.1 x.2.2.2.2.2.1).trans h⟩
end laws_toRow
abbrev ins_laws_toRowS : List Par := [.v false [CT.sl ct0]]
abbrev outs_laws_toRowS : List (Bool × List CT) := [(false, [CT.sl ct0])]
namespace laws_toRowS
/-! ### loop.example/g00095/laws.toRowS (function 6) -/
noncomputable def ztbl : Tbl := fun g fs => if g = 11 ∧ fs = [] then some ⟨ins_laws_toRow, outs_laws_toRow, F_laws_toRow, []⟩ else none
noncomputable def zbody : Code := ((Try.prog.funcs[6]?).bind (·.body)).getD .skip
def zcfg : Nat → List Nat × List Nat := fun k => if k = 3 then ([0, 3, 4], [3]) else ([], [])
noncomputable def R0 {R : Type} (nx0 : ((List (Int × Int × Int × Int × Int × Int × Unit)) → Int → (List (Int × Int × Int × Int × Int × Int × Unit)) → Option R)) (ex0 : ((List (Int × Int × Int × Int × Int × Int × Unit)) → Option R)) (a2 : List (Int × Int × Int × Int × Int × Int × Unit)) (i : Int) (out : List (Int × Int × Int × Int × Int × Int × Unit)) : Option R := cond (decide (i < (a2.length : Int))) (if 0 ≤ i ∧ i < (a2.length : Int) then (F_laws_toRow ((rd (0, 0, 0, 0, 0, 0, ()) a2 i).1, (rd (0, 0, 0, 0, 0, 0, ()) a2 i).2.1, (rd (0, 0, 0, 0, 0, 0, ()) a2 i).2.2.1, (rd (0, 0, 0, 0, 0, 0, ()) a2 i).2.2.2.1, (rd (0, 0, 0, 0, 0, 0, ()) a2 i).2.2.2.2.1, (rd (0, 0, 0, 0, 0, 0, ()) a2 i).2.2.2.2.2.1, ())).bind fun y1 => if 0 ≤ i ∧ i < (out.length : Int) then nx0 a2 (w64 (i + 1)) (out.set i.toNat y1) else none else none) (ex0 out)
noncomputable def A0  (a : List (Int × Int × Int × Int × Int × Int × Unit)) (out : List (Int × Int × Int × Int × Int × Int × Unit)) : Option ((List (Int × Int × Int × Int × Int × Int × Unit)) × Unit) := some (out, ())
noncomputable def T (lo0 : ((List (Int × Int × Int × Int × Int × Int × Unit)) → Int → (List (Int × Int × Int × Int × Int × Int × Unit)) → Option ((List (Int × Int × Int × Int × Int × Int × Unit)) × Unit))) (a : List (Int × Int × Int × Int × Int × Int × Unit)) : Option ((List (Int × Int × Int × Int × Int × Int × Unit)) × Unit) := if 0 ≤ (a.length : Int) ∧ (48 : Int) * (a.length : Int) ≤ 281474976710656 ∧ (a.length : Int) ≤ 9223372036854775807 then lo0 a 0 (List.replicate (((a.length : Int) : Int)).toNat (0, 0, 0, 0, 0, 0, ())) else none
noncomputable def zst0 {R : Type} (k0 : Nat) : Env → List Ob → Kont R → Option R := fun env ob K => runCode Try.prog ztbl 23 0 zcfg k0 (codeAt [1, 1, 0, 1, 0, 0] zbody) env ob K
noncomputable def K0 {R : Type} (k0 : Nat) (K : Kont R) : Kont R := blockK 0 (seqK (fun env ob => runCode Try.prog ztbl 23 0 zcfg k0 (codeAt [1, 1, 1] zbody) env ob (K)) (K))
noncomputable def L0 {R : Type} (k0 k : Nat) (K : Kont R) (a2 : List (Int × Int × Int × Int × Int × Int × Unit)) (i : Int) (out : List (Int × Int × Int × Int × Int × Int × Unit)) : Option R := iter 0 [0, 3, 4] [3] (zst0 k0) k [(0, .sl ct0 a2), (3, .own 0), (4, .int .i64 i)] [.arr ct0 out] K
theorem zs0 {R : Type} (k0 k : Nat) (K : Kont R) (a2 : List (Int × Int × Int × Int × Int × Int × Unit)) (i : Int) (out : List (Int × Int × Int × Int × Int × Int × Unit)) : L0 k0 (k + 1) K a2 i out = R0 (L0 k0 k K) (fun out => K (.exit 0) [(3, .own 0)] [.arr ct0 out]) a2 i out := by kernel_rfl
theorem za0 (k0 : Nat) (a : List (Int × Int × Int × Int × Int × Int × Unit)) (out : List (Int × Int × Int × Int × Int × Int × Unit)) : K0 (R := ((List (Int × Int × Int × Int × Int × Int × Unit)) × Unit)) k0 (finK Try.prog [.tmp 2] ins_laws_toRowS outs_laws_toRowS (a, ())) (.exit 0) [(3, .own 0)] [.arr ct0 out] = A0  a out := by kernel_rfl
theorem ztop (k0 : Nat) (a : List (Int × Int × Int × Int × Int × Int × Unit)) : runFn Try.prog ztbl zcfg k0 6 ins_laws_toRowS outs_laws_toRowS [] (a, ()) = T (L0 (R := ((List (Int × Int × Int × Int × Int × Int × Unit)) × Unit)) k0 k0 (K0 (R := ((List (Int × Int × Int × Int × Int × Int × Unit)) × Unit)) k0 ((finK Try.prog [.tmp 2] ins_laws_toRowS outs_laws_toRowS (a, ()))))) a := by kernel_rfl
noncomputable def G0 {R : Type} (k0 : Nat) (hx0 : ((List (Int × Int × Int × Int × Int × Int × Unit)) → Option R)) : Nat → (List (Int × Int × Int × Int × Int × Int × Unit)) → Int → (List (Int × Int × Int × Int × Int × Int × Unit)) → Option R
  | 0, _, _, _ => none
  | k + 1, a2, i, out => R0 (G0 k0 hx0 k) hx0 a2 i out
theorem zg0 {R : Type} (k0 : Nat) (K : Kont R) : ∀ k : Nat, L0 k0 k K = G0 k0 (fun out => K (.exit 0) [(3, .own 0)] [.arr ct0 out]) k := by
  intro k
  induction k with
  | zero => funext a2 i out; rfl
  | succ k ih => funext a2 i out; rw [zs0, G0]; (try simp only [ih]); try rfl
noncomputable def FF (k0 : Nat) (a : List (Int × Int × Int × Int × Int × Int × Unit)) : Option ((List (Int × Int × Int × Int × Int × Int × Unit)) × Unit) := T (G0 k0 (A0  a) k0) a
theorem zrun (k0 : Nat) (a : List (Int × Int × Int × Int × Int × Int × Unit)) : runFn Try.prog ztbl zcfg k0 6 ins_laws_toRowS outs_laws_toRowS [] (a, ()) = FF k0 a := by
  rw [ztop, FF]; (try simp only [zg0, za0]); try rfl
noncomputable def _root_.Go.Rv.F_laws_toRowS : (List (Int × Int × Int × Int × Int × Int × Unit)) × Unit → Option ((List (Int × Int × Int × Int × Int × Int × Unit)) × Unit) := fun x => (fun (a : List (Int × Int × Int × Int × Int × Int × Unit)) => FF (300 + a.length) a) x.1
theorem ztblOK : ∀ g fs S, ztbl g fs = some S → SumOK Dr Try.prog g S := by
  intro g fs S h
  unfold ztbl at h
  split at h
  · rename_i hc; obtain ⟨rfl, rfl⟩ := hc; have := Option.some.inj h; subst this; exact ok_laws_toRow
  cases h
theorem _root_.Go.Rv.ok_laws_toRowS : SumOK Dr Try.prog 6 ⟨ins_laws_toRowS, outs_laws_toRowS, F_laws_toRowS, []⟩ := runFn_ok (by kernel_rfl) ztblOK (by kernel_rfl) fun x y h => ⟨zcfg, _, (zrun _ x.1).trans h⟩
end laws_toRowS
abbrev ins_slices_Clone_impl_Row_impl_Row : List Par := [.v false [CT.sl ct0]]
abbrev outs_slices_Clone_impl_Row_impl_Row : List (Bool × List CT) := [(false, [CT.sl ct0])]
namespace slices_Clone_impl_Row_impl_Row
/-! ### slices.Clone[[]loop.example/g00095/impl.Row,loop.example/g00095/impl.Row] (function 12) -/
noncomputable def ztbl : Tbl := fun g fs => none
noncomputable def zbody : Code := ((Try.prog.funcs[12]?).bind (·.body)).getD .skip
def zcfg : Nat → List Nat × List Nat := fun k => ([], [])
noncomputable def T  (s : List (Int × Int × Int × Int × Int × Int × Unit)) : Option ((List (Int × Int × Int × Int × Int × Int × Unit)) × Unit) := if s.length = 0 then (@ite _ (some ([], ()) = if ([] : List (Int × Int × Int × Int × Int × Int × Unit)).length + s.length ≤ maxRow then some ((([] : List (Int × Int × Int × Int × Int × Int × Unit)) ++ s), ()) else none) (Classical.propDecidable _) (if ([] : List (Int × Int × Int × Int × Int × Int × Unit)).length + s.length ≤ maxRow then some ((([] : List (Int × Int × Int × Int × Int × Int × Unit)) ++ s), ()) else none) none) else if ([] : List (Int × Int × Int × Int × Int × Int × Unit)).length + s.length ≤ maxRow then some ((([] : List (Int × Int × Int × Int × Int × Int × Unit)) ++ s), ()) else none
theorem ztop (k0 : Nat) (s : List (Int × Int × Int × Int × Int × Int × Unit)) : runFn Try.prog ztbl zcfg k0 12 ins_slices_Clone_impl_Row_impl_Row outs_slices_Clone_impl_Row_impl_Row [] (s, ()) = T  s := by kernel_rfl
noncomputable def _root_.Go.Rv.F_slices_Clone_impl_Row_impl_Row : (List (Int × Int × Int × Int × Int × Int × Unit)) × Unit → Option ((List (Int × Int × Int × Int × Int × Int × Unit)) × Unit) := fun x => T x.1
theorem ztblOK : ∀ g fs S, ztbl g fs = some S → SumOK Dr Try.prog g S := by
  intro g fs S h
  unfold ztbl at h
  cases h
theorem _root_.Go.Rv.ok_slices_Clone_impl_Row_impl_Row : SumOK Dr Try.prog 12 ⟨ins_slices_Clone_impl_Row_impl_Row, outs_slices_Clone_impl_Row_impl_Row, F_slices_Clone_impl_Row_impl_Row, []⟩ := runFn_ok (by kernel_rfl) ztblOK (by kernel_rfl) fun x y h => ⟨zcfg, 0, (ztop 0 x.1).trans h⟩
end slices_Clone_impl_Row_impl_Row
abbrev ins_cmp_Or_int : List Par := [.v false [CT.sl [CT.int .i64]]]
abbrev outs_cmp_Or_int : List (Bool × List CT) := [(false, [CT.int .i64])]
namespace cmp_Or_int
/-! ### cmp.Or[int] (function 15) -/
noncomputable def ztbl : Tbl := fun g fs => none
noncomputable def zbody : Code := ((Try.prog.funcs[15]?).bind (·.body)).getD .skip
def zcfg : Nat → List Nat × List Nat := fun k => if k = 3 then ([3, 6, 7, 8], [2, 3]) else ([], [])
noncomputable def R0 {R : Type} (nx0 : (Int → (List (Int × Unit)) → Int → Int → Option R)) (ex0 : (Int → Int → Option R)) (ex1 : (Int → Option R)) (zero : Int) (t6x : List (Int × Unit)) (t7x t8x : Int) : Option R := cond (decide (t8x < t7x)) (if 0 ≤ t8x ∧ t8x < (t6x.length : Int) then cond ((rd (0, ()) t6x t8x).1 != zero) (ex0 ((rd (0, ()) t6x t8x).1) zero) (nx0 zero t6x t7x (w64 (t8x + 1))) else none) (ex1 zero)
noncomputable def A0  (vals : List (Int × Unit)) (t2x zero : Int) : Option (Int × Unit) := some (t2x, ())
noncomputable def A1  (vals : List (Int × Unit)) (zero : Int) : Option (Int × Unit) := some (zero, ())
noncomputable def T (lo0 : (Int → (List (Int × Unit)) → Int → Int → Option (Int × Unit))) (vals : List (Int × Unit)) : Option (Int × Unit) := lo0 0 vals (vals.length : Int) 0
noncomputable def zst0 {R : Type} (k0 : Nat) : Env → List Ob → Kont R → Option R := fun env ob K => runCode Try.prog ztbl 18 0 zcfg k0 (codeAt [1, 1, 0, 1, 0, 0] zbody) env ob K
noncomputable def K0 {R : Type} (k0 : Nat) (K : Kont R) : Kont R := blockK 0 (seqK (fun env ob => runCode Try.prog ztbl 18 0 zcfg k0 (codeAt [1, 1, 1] zbody) env ob (K)) (K))
noncomputable def L0 {R : Type} (k0 k : Nat) (K : Kont R) (zero : Int) (t6x : List (Int × Unit)) (t7x t8x : Int) : Option R := iter 0 [3, 6, 7, 8] [2, 3] (zst0 k0) k [(3, .int .i64 zero), (6, .sl [CT.int .i64] t6x), (7, .int .i64 t7x), (8, .int .i64 t8x)] [] K
theorem zs0 {R : Type} (k0 k : Nat) (K : Kont R) (zero : Int) (t6x : List (Int × Unit)) (t7x t8x : Int) : L0 k0 (k + 1) K zero t6x t7x t8x = R0 (L0 k0 k K) (fun t2x zero => K .ret [(2, .int .i64 t2x), (3, .int .i64 zero)] []) (fun zero => K (.exit 0) [(2, .undef), (3, .int .i64 zero)] []) zero t6x t7x t8x := by kernel_rfl
theorem za0 (k0 : Nat) (vals : List (Int × Unit)) (t2x zero : Int) : K0 (R := (Int × Unit)) k0 (finK Try.prog [.tmp 2] ins_cmp_Or_int outs_cmp_Or_int (vals, ())) .ret [(2, .int .i64 t2x), (3, .int .i64 zero)] [] = A0  vals t2x zero := by kernel_rfl
theorem za1 (k0 : Nat) (vals : List (Int × Unit)) (zero : Int) : K0 (R := (Int × Unit)) k0 (finK Try.prog [.tmp 2] ins_cmp_Or_int outs_cmp_Or_int (vals, ())) (.exit 0) [(2, .undef), (3, .int .i64 zero)] [] = A1  vals zero := by kernel_rfl
theorem ztop (k0 : Nat) (vals : List (Int × Unit)) : runFn Try.prog ztbl zcfg k0 15 ins_cmp_Or_int outs_cmp_Or_int [] (vals, ()) = T (L0 (R := (Int × Unit)) k0 k0 (K0 (R := (Int × Unit)) k0 ((finK Try.prog [.tmp 2] ins_cmp_Or_int outs_cmp_Or_int (vals, ()))))) vals := by kernel_rfl
noncomputable def G0 {R : Type} (k0 : Nat) (hx0 : (Int → Int → Option R)) (hx1 : (Int → Option R)) : Nat → Int → (List (Int × Unit)) → Int → Int → Option R
  | 0, _, _, _, _ => none
  | k + 1, zero, t6x, t7x, t8x => R0 (G0 k0 hx0 hx1 k) hx0 hx1 zero t6x t7x t8x
theorem zg0 {R : Type} (k0 : Nat) (K : Kont R) : ∀ k : Nat, L0 k0 k K = G0 k0 (fun t2x zero => K .ret [(2, .int .i64 t2x), (3, .int .i64 zero)] []) (fun zero => K (.exit 0) [(2, .undef), (3, .int .i64 zero)] []) k := by
  intro k
  induction k with
  | zero => funext zero t6x t7x t8x; rfl
  | succ k ih => funext zero t6x t7x t8x; rw [zs0, G0]; (try simp only [ih]); try rfl
noncomputable def FF (k0 : Nat) (vals : List (Int × Unit)) : Option (Int × Unit) := T (G0 k0 (A0  vals) (A1  vals) k0) vals
theorem zrun (k0 : Nat) (vals : List (Int × Unit)) : runFn Try.prog ztbl zcfg k0 15 ins_cmp_Or_int outs_cmp_Or_int [] (vals, ()) = FF k0 vals := by
  rw [ztop, FF]; (try simp only [zg0, za0, za1]); try rfl
noncomputable def _root_.Go.Rv.F_cmp_Or_int : (List (Int × Unit)) × Unit → Option (Int × Unit) := fun x => (fun (vals : List (Int × Unit)) => FF (300 + vals.length) vals) x.1
theorem ztblOK : ∀ g fs S, ztbl g fs = some S → SumOK Dr Try.prog g S := by
  intro g fs S h
  unfold ztbl at h
  cases h
theorem _root_.Go.Rv.ok_cmp_Or_int : SumOK Dr Try.prog 15 ⟨ins_cmp_Or_int, outs_cmp_Or_int, F_cmp_Or_int, []⟩ := runFn_ok (by kernel_rfl) ztblOK (by kernel_rfl) fun x y h => ⟨zcfg, _, (zrun _ x.1).trans h⟩
end cmp_Or_int
abbrev ins_cmp_isNaN_int64 : List Par := [.v false [CT.int .i64]]
abbrev outs_cmp_isNaN_int64 : List (Bool × List CT) := [(false, [CT.bool])]
namespace cmp_isNaN_int64
/-! ### cmp.isNaN[int64] (function 19) -/
noncomputable def ztbl : Tbl := fun g fs => none
noncomputable def zbody : Code := ((Try.prog.funcs[19]?).bind (·.body)).getD .skip
def zcfg : Nat → List Nat × List Nat := fun k => ([], [])
noncomputable def T  (x : Int) : Option (Bool × Unit) := some ((x != x), ())
theorem ztop (k0 : Nat) (x : Int) : runFn Try.prog ztbl zcfg k0 19 ins_cmp_isNaN_int64 outs_cmp_isNaN_int64 [] (x, ()) = T  x := by kernel_rfl
noncomputable def _root_.Go.Rv.F_cmp_isNaN_int64 : Int × Unit → Option (Bool × Unit) := fun x => T x.1
theorem ztblOK : ∀ g fs S, ztbl g fs = some S → SumOK Dr Try.prog g S := by
  intro g fs S h
  unfold ztbl at h
  cases h
theorem _root_.Go.Rv.ok_cmp_isNaN_int64 : SumOK Dr Try.prog 19 ⟨ins_cmp_isNaN_int64, outs_cmp_isNaN_int64, F_cmp_isNaN_int64, []⟩ := runFn_ok (by kernel_rfl) ztblOK (by kernel_rfl) fun x y h => ⟨zcfg, 0, (ztop 0 x.1).trans h⟩
end cmp_isNaN_int64
abbrev ins_cmp_Compare_int64 : List Par := [.v false [CT.int .i64], .v false [CT.int .i64]]
abbrev outs_cmp_Compare_int64 : List (Bool × List CT) := [(false, [CT.int .i64])]
namespace cmp_Compare_int64
/-! ### cmp.Compare[int64] (function 16) -/
noncomputable def ztbl : Tbl := fun g fs => if g = 19 ∧ fs = [] then some ⟨ins_cmp_isNaN_int64, outs_cmp_isNaN_int64, F_cmp_isNaN_int64, []⟩ else none
noncomputable def zbody : Code := ((Try.prog.funcs[16]?).bind (·.body)).getD .skip
def zcfg : Nat → List Nat × List Nat := fun k => ([], [])
noncomputable def T  (x y : Int) : Option (Int × Unit) := (F_cmp_isNaN_int64 (x, ())).bind fun y1 => (F_cmp_isNaN_int64 (y, ())).bind fun y2 => cond y1.1 (cond y2.1 (some (0, ())) (some ((-1), ()))) (cond y2.1 (some (1, ())) (cond (decide (x < y)) (some ((-1), ())) (cond (decide (x > y)) (some (1, ())) (some (0, ())))))
theorem ztop (k0 : Nat) (x y : Int) : runFn Try.prog ztbl zcfg k0 16 ins_cmp_Compare_int64 outs_cmp_Compare_int64 [] (x, y, ()) = T  x y := by kernel_rfl
noncomputable def _root_.Go.Rv.F_cmp_Compare_int64 : Int × Int × Unit → Option (Int × Unit) := fun x => T x.1 x.2.1
theorem ztblOK : ∀ g fs S, ztbl g fs = some S → SumOK Dr Try.prog g S := by
  intro g fs S h
  unfold ztbl at h
  split at h
  · rename_i hc; obtain ⟨rfl, rfl⟩ := hc; have := Option.some.inj h; subst this; exact ok_cmp_isNaN_int64
  cases h
theorem _root_.Go.Rv.ok_cmp_Compare_int64 : SumOK Dr Try.prog 16 ⟨ins_cmp_Compare_int64, outs_cmp_Compare_int64, F_cmp_Compare_int64, []⟩ := runFn_ok (by kernel_rfl) ztblOK (by kernel_rfl) fun x y h => ⟨zcfg, 0, (ztop 0 x.1 x.2.1).trans h⟩
end cmp_Compare_int64
abbrev ins_impl_ReportTop_1 : List Par := [.v true ct0, .v true ct0]
abbrev outs_impl_ReportTop_1 : List (Bool × List CT) := [(false, [CT.int .i64])]
namespace impl_ReportTop_1
/-! ### loop.example/g00095/impl.ReportTop$1 (function 14) -/
noncomputable def ztbl : Tbl := fun g fs => if g = 15 ∧ fs = [] then some ⟨ins_cmp_Or_int, outs_cmp_Or_int, F_cmp_Or_int, []⟩ else if g = 16 ∧ fs = [] then some ⟨ins_cmp_Compare_int64, outs_cmp_Compare_int64, F_cmp_Compare_int64, []⟩ else none
noncomputable def zbody : Code := ((Try.prog.funcs[14]?).bind (·.body)).getD .skip
def zcfg : Nat → List Nat × List Nat := fun k => ([], [])
noncomputable def T  (a0 a1 a2 a3 a4 a5 b0 b1 b2 b3 b4 b5 : Int) : Option (Int × Unit) := (F_cmp_Compare_int64 (b4, a4, ())).bind fun y1 => (F_cmp_Compare_int64 (a0, b0, ())).bind fun y2 => (F_cmp_Or_int ([(y1.1, ()), (y2.1, ())], ())).bind fun y3 => some (y3.1, ())
theorem ztop (k0 : Nat) (a0 a1 a2 a3 a4 a5 b0 b1 b2 b3 b4 b5 : Int) : runFn Try.prog ztbl zcfg k0 14 ins_impl_ReportTop_1 outs_impl_ReportTop_1 [] (a0, a1, a2, a3, a4, a5, b0, b1, b2, b3, b4, b5, ()) = T  a0 a1 a2 a3 a4 a5 b0 b1 b2 b3 b4 b5 := by kernel_rfl
noncomputable def _root_.Go.Rv.F_impl_ReportTop_1 : Int × Int × Int × Int × Int × Int × Int × Int × Int × Int × Int × Int × Unit → Option (Int × Unit) := fun x => T x.1 x.2.1 x.2.2.1 x.2.2.2.1 x.2.2.2.2.1 x.2.2.2.2.2.1 x.2.2.2.2.2.2.1 x.2.2.2.2.2.2.2.1 x.2.2.2.2.2.2.2.2.1 x.2.2.2.2.2.2.2.2.2.1 x.2.2.2.2.2.2.2.2.2.2.1 x.2.2.2.2.2.2.2.2.2.2.2.1
theorem ztblOK : ∀ g fs S, ztbl g fs = some S → SumOK Dr Try.prog g S := by
  intro g fs S h
  unfold ztbl at h
  split at h
  · rename_i hc; obtain ⟨rfl, rfl⟩ := hc; have := Option.some.inj h; subst this; exact ok_cmp_Or_int
  split at h
  · rename_i hc; obtain ⟨rfl, rfl⟩ := hc; have := Option.some.inj h; subst this; exact ok_cmp_Compare_int64
  cases h
theorem _root_.Go.Rv.ok_impl_ReportTop_1 : SumOK Dr Try.prog 14 ⟨ins_impl_ReportTop_1, outs_impl_ReportTop_1, F_impl_ReportTop_1, []⟩ := runFn_ok (by kernel_rfl) ztblOK (by kernel_rfl) fun x y h => ⟨zcfg, 0, (ztop 0 x.1 x.2.1 x.2.2.1 x.2.2.2.1 x.2.2.2.2.1 x.2.2.2.2.2.1 x.2.2.2.2.2.2.1 x.2.2.2.2.2.2.2.1 x.2.2.2.2.2.2.2.2.1 x.2.2.2.2.2.2.2.2.2.1 x.2.2.2.2.2.2.2.2.2.2.1 x.2.2.2.2.2.2.2.2.2.2.2.1).trans h⟩
end impl_ReportTop_1
abbrev ins_slices_insertionSortCmpFunc_impl_Row_at_impl_ReportTop_1 : List Par := [.w false [CT.sl ct0], .v false [CT.int .i64], .v false [CT.int .i64], .cl 14 []]
abbrev outs_slices_insertionSortCmpFunc_impl_Row_at_impl_ReportTop_1 : List (Bool × List CT) := []
namespace slices_insertionSortCmpFunc_impl_Row_at_impl_ReportTop_1
/-! ### slices.insertionSortCmpFunc[loop.example/g00095/impl.Row] (function 20) -/
noncomputable def ztbl : Tbl := fun g fs => if g = 14 ∧ fs = [] then some ⟨ins_impl_ReportTop_1, outs_impl_ReportTop_1, F_impl_ReportTop_1, []⟩ else none
noncomputable def zbody : Code := ((Try.prog.funcs[20]?).bind (·.body)).getD .skip
def zcfg : Nat → List Nat × List Nat := fun k => if k = 1 then ([0, 1, 2, 3, 8], []) else if k = 4 then ([0, 1, 2, 3, 8, 9], [0, 1, 2, 3, 8]) else ([], [])
noncomputable def R0 {R : Type} (ex0 : ((List (Int × Int × Int × Int × Int × Int × Unit)) → Option R)) (lo1 : (Int → Int → Int → Int → (List (Int × Int × Int × Int × Int × Int × Unit)) → Option R)) (a2 b2 i : Int) (data2 : List (Int × Int × Int × Int × Int × Int × Unit)) : Option R := cond (decide (i < b2)) (lo1 a2 b2 i i data2) (ex0 data2)
noncomputable def R1 {R : Type} (nx1 : (Int → Int → Int → Int → (List (Int × Int × Int × Int × Int × Int × Unit)) → Option R)) (ex1 : (Int → Int → Int → (List (Int × Int × Int × Int × Int × Int × Unit)) → Option R)) (a2 b2 i j : Int) (data2 : List (Int × Int × Int × Int × Int × Int × Unit)) : Option R := cond (decide (j > a2)) (if 0 ≤ j ∧ j < (data2.length : Int) then if 0 ≤ (w64 (j - 1)) ∧ (w64 (j - 1)) < (data2.length : Int) then (F_impl_ReportTop_1 ((data2.getD j.toNat (0, 0, 0, 0, 0, 0, ())).1, (data2.getD j.toNat (0, 0, 0, 0, 0, 0, ())).2.1, (data2.getD j.toNat (0, 0, 0, 0, 0, 0, ())).2.2.1, (data2.getD j.toNat (0, 0, 0, 0, 0, 0, ())).2.2.2.1, (data2.getD j.toNat (0, 0, 0, 0, 0, 0, ())).2.2.2.2.1, (data2.getD j.toNat (0, 0, 0, 0, 0, 0, ())).2.2.2.2.2.1, (data2.getD (((w64 (j - 1))).toNat) (0, 0, 0, 0, 0, 0, ())).1, (data2.getD (((w64 (j - 1))).toNat) (0, 0, 0, 0, 0, 0, ())).2.1, (data2.getD (((w64 (j - 1))).toNat) (0, 0, 0, 0, 0, 0, ())).2.2.1, (data2.getD (((w64 (j - 1))).toNat) (0, 0, 0, 0, 0, 0, ())).2.2.2.1, (data2.getD (((w64 (j - 1))).toNat) (0, 0, 0, 0, 0, 0, ())).2.2.2.2.1, (data2.getD (((w64 (j - 1))).toNat) (0, 0, 0, 0, 0, 0, ())).2.2.2.2.2.1, ())).bind fun y1 => cond (decide (y1.1 < 0)) (if 0 ≤ (w64 (j - 1)) ∧ (w64 (j - 1)) < (data2.length : Int) then if 0 ≤ j ∧ j < (data2.length : Int) then if 0 ≤ j ∧ j < (data2.length : Int) then if 0 ≤ (w64 (j - 1)) ∧ (w64 (j - 1)) < ((data2.set j.toNat (data2.getD (((w64 (j - 1))).toNat) (0, 0, 0, 0, 0, 0, ()))).length : Int) then nx1 a2 b2 i (w64 (j - 1)) ((data2.set j.toNat (data2.getD (((w64 (j - 1))).toNat) (0, 0, 0, 0, 0, 0, ()))).set (((w64 (j - 1))).toNat) (data2.getD j.toNat (0, 0, 0, 0, 0, 0, ()))) else none else none else none else none) (ex1 a2 b2 i data2) else none else none) (ex1 a2 b2 i data2)
noncomputable def A0  (data : List (Int × Int × Int × Int × Int × Int × Unit)) (a b : Int) (o0 : List (Int × Int × Int × Int × Int × Int × Unit)) : Option ((List (Int × Int × Int × Int × Int × Int × Unit)) × Unit) := some (o0, ())
noncomputable def A1 {R : Type} (nx0 : (Int → Int → Int → (List (Int × Int × Int × Int × Int × Int × Unit)) → Option R)) (a2 b2 i : Int) (data2 : List (Int × Int × Int × Int × Int × Int × Unit)) : Option R := nx0 a2 b2 (w64 (i + 1)) data2
noncomputable def T (lo0 : (Int → Int → Int → (List (Int × Int × Int × Int × Int × Int × Unit)) → Option ((List (Int × Int × Int × Int × Int × Int × Unit)) × Unit))) (data : List (Int × Int × Int × Int × Int × Int × Unit)) (a b : Int) : Option ((List (Int × Int × Int × Int × Int × Int × Unit)) × Unit) := lo0 a b (w64 (a + 1)) data
noncomputable def zst0 {R : Type} (k0 : Nat) : Env → List Ob → Kont R → Option R := fun env ob K => runCode Try.prog ztbl 53 1 zcfg k0 (codeAt [1, 0, 0] zbody) env ob K
noncomputable def K0 {R : Type} (k0 : Nat) (K : Kont R) : Kont R := blockK 0 (K)
noncomputable def zst1 {R : Type} (k0 : Nat) : Env → List Ob → Kont R → Option R := fun env ob K => runCode Try.prog ztbl 53 1 zcfg k0 (codeAt [1, 0, 0, 1, 0, 0, 1, 0, 0] zbody) env ob K
noncomputable def K1 {R : Type} (k0 : Nat) (K : Kont R) : Kont R := blockK 2 (blockK 1 (seqK (fun env ob => runCode Try.prog ztbl 53 1 zcfg k0 (codeAt [1, 0, 0, 1, 1] zbody) env ob (K)) (K)))
noncomputable def L0 {R : Type} (k0 k : Nat) (K : Kont R) (a2 b2 i : Int) (data2 : List (Int × Int × Int × Int × Int × Int × Unit)) : Option R := iter 1 [0, 1, 2, 3, 8] [] (zst0 k0) k [(0, .own 0), (1, .int .i64 a2), (2, .int .i64 b2), (3, .fn 14 []), (8, .int .i64 i)] [.arr ct0 data2] K
noncomputable def L1 {R : Type} (k0 k : Nat) (K : Kont R) (a2 b2 i j : Int) (data2 : List (Int × Int × Int × Int × Int × Int × Unit)) : Option R := iter 1 [0, 1, 2, 3, 8, 9] [0, 1, 2, 3, 8] (zst1 k0) k [(0, .own 0), (1, .int .i64 a2), (2, .int .i64 b2), (3, .fn 14 []), (8, .int .i64 i), (9, .int .i64 j)] [.arr ct0 data2] K
theorem zs0 {R : Type} (k0 k : Nat) (K : Kont R) (a2 b2 i : Int) (data2 : List (Int × Int × Int × Int × Int × Int × Unit)) : L0 k0 (k + 1) K a2 b2 i data2 = R0 (fun o0 => K (.exit 0) [] [.arr ct0 o0]) (L1 k0 k0 (K1 k0 (loopK 1 [0, 1, 2, 3, 8] [] (fun env ob => iter 1 [0, 1, 2, 3, 8] [] (zst0 k0) k env ob K) K))) a2 b2 i data2 := by kernel_rfl
theorem zs1 {R : Type} (k0 k : Nat) (K : Kont R) (a2 b2 i j : Int) (data2 : List (Int × Int × Int × Int × Int × Int × Unit)) : L1 k0 (k + 1) K a2 b2 i j data2 = R1 (L1 k0 k K) (fun a2 b2 i data2 => K (.exit 2) [(0, .own 0), (1, .int .i64 a2), (2, .int .i64 b2), (3, .fn 14 []), (8, .int .i64 i)] [.arr ct0 data2]) a2 b2 i j data2 := by kernel_rfl
theorem za0 (k0 : Nat) (data : List (Int × Int × Int × Int × Int × Int × Unit)) (a b : Int) (o0 : List (Int × Int × Int × Int × Int × Int × Unit)) : K0 (R := ((List (Int × Int × Int × Int × Int × Int × Unit)) × Unit)) k0 (finK Try.prog [] ins_slices_insertionSortCmpFunc_impl_Row_at_impl_ReportTop_1 outs_slices_insertionSortCmpFunc_impl_Row_at_impl_ReportTop_1 (data, a, b, ())) (.exit 0) [] [.arr ct0 o0] = A0  data a b o0 := by kernel_rfl
theorem za1 {R : Type} (k0 k : Nat) (K : Kont R) (a2 b2 i : Int) (data2 : List (Int × Int × Int × Int × Int × Int × Unit)) : K1 k0 (loopK 1 [0, 1, 2, 3, 8] [] (fun env ob => iter 1 [0, 1, 2, 3, 8] [] (zst0 k0) k env ob K) K) (.exit 2) [(0, .own 0), (1, .int .i64 a2), (2, .int .i64 b2), (3, .fn 14 []), (8, .int .i64 i)] [.arr ct0 data2] = A1 (L0 k0 k K) a2 b2 i data2 := by kernel_rfl
theorem ztop (k0 : Nat) (data : List (Int × Int × Int × Int × Int × Int × Unit)) (a b : Int) : runFn Try.prog ztbl zcfg k0 20 ins_slices_insertionSortCmpFunc_impl_Row_at_impl_ReportTop_1 outs_slices_insertionSortCmpFunc_impl_Row_at_impl_ReportTop_1 [] (data, a, b, ()) = T (L0 (R := ((List (Int × Int × Int × Int × Int × Int × Unit)) × Unit)) k0 k0 (K0 (R := ((List (Int × Int × Int × Int × Int × Int × Unit)) × Unit)) k0 ((finK Try.prog [] ins_slices_insertionSortCmpFunc_impl_Row_at_impl_ReportTop_1 outs_slices_insertionSortCmpFunc_impl_Row_at_impl_ReportTop_1 (data, a, b, ()))))) data a b := by kernel_rfl
noncomputable def G1 {R : Type} (k0 : Nat) (hx1 : (Int → Int → Int → (List (Int × Int × Int × Int × Int × Int × Unit)) → Option R)) : Nat → Int → Int → Int → Int → (List (Int × Int × Int × Int × Int × Int × Unit)) → Option R
  | 0, _, _, _, _, _ => none
  | k + 1, a2, b2, i, j, data2 => R1 (G1 k0 hx1 k) hx1 a2 b2 i j data2
theorem zg1 {R : Type} (k0 : Nat) (K : Kont R) : ∀ k : Nat, L1 k0 k K = G1 k0 (fun a2 b2 i data2 => K (.exit 2) [(0, .own 0), (1, .int .i64 a2), (2, .int .i64 b2), (3, .fn 14 []), (8, .int .i64 i)] [.arr ct0 data2]) k := by
  intro k
  induction k with
  | zero => funext a2 b2 i j data2; rfl
  | succ k ih => funext a2 b2 i j data2; rw [zs1, G1]; (try simp only [ih]); try rfl
noncomputable def G0 {R : Type} (k0 : Nat) (hx0 : ((List (Int × Int × Int × Int × Int × Int × Unit)) → Option R)) : Nat → Int → Int → Int → (List (Int × Int × Int × Int × Int × Int × Unit)) → Option R
  | 0, _, _, _, _ => none
  | k + 1, a2, b2, i, data2 => R0 hx0 (G1 k0 (A1 (G0 k0 hx0 k)) k0) a2 b2 i data2
theorem zg0 {R : Type} (k0 : Nat) (K : Kont R) : ∀ k : Nat, L0 k0 k K = G0 k0 (fun o0 => K (.exit 0) [] [.arr ct0 o0]) k := by
  intro k
  induction k with
  | zero => funext a2 b2 i data2; rfl
  | succ k ih => funext a2 b2 i data2; rw [zs0, G0]; (try simp only [ih, zg1, za1]); try rfl
noncomputable def FF (k0 : Nat) (data : List (Int × Int × Int × Int × Int × Int × Unit)) (a b : Int) : Option ((List (Int × Int × Int × Int × Int × Int × Unit)) × Unit) := T (G0 k0 (A0  data a b) k0) data a b
theorem zrun (k0 : Nat) (data : List (Int × Int × Int × Int × Int × Int × Unit)) (a b : Int) : runFn Try.prog ztbl zcfg k0 20 ins_slices_insertionSortCmpFunc_impl_Row_at_impl_ReportTop_1 outs_slices_insertionSortCmpFunc_impl_Row_at_impl_ReportTop_1 [] (data, a, b, ()) = FF k0 data a b := by
  rw [ztop, FF]; (try simp only [zg1, zg0, za0]); try rfl
noncomputable def _root_.Go.Rv.F_slices_insertionSortCmpFunc_impl_Row_at_impl_ReportTop_1 : (List (Int × Int × Int × Int × Int × Int × Unit)) × Int × Int × Unit → Option ((List (Int × Int × Int × Int × Int × Int × Unit)) × Unit) := fun x => (fun (data : List (Int × Int × Int × Int × Int × Int × Unit)) (a b : Int) => FF (300 + data.length) data a b) x.1 x.2.1 x.2.2.1
theorem ztblOK : ∀ g fs S, ztbl g fs = some S → SumOK Dr Try.prog g S := by
  intro g fs S h
  unfold ztbl at h
  split at h
  · rename_i hc; obtain ⟨rfl, rfl⟩ := hc; have := Option.some.inj h; subst this; exact ok_impl_ReportTop_1
  cases h
theorem _root_.Go.Rv.ok_slices_insertionSortCmpFunc_impl_Row_at_impl_ReportTop_1 : SumOK Dr Try.prog 20 ⟨ins_slices_insertionSortCmpFunc_impl_Row_at_impl_ReportTop_1, outs_slices_insertionSortCmpFunc_impl_Row_at_impl_ReportTop_1, F_slices_insertionSortCmpFunc_impl_Row_at_impl_ReportTop_1, []⟩ := runFn_ok (by kernel_rfl) ztblOK (by kernel_rfl) fun x y h => ⟨zcfg, _, (zrun _ x.1 x.2.1 x.2.2.1).trans h⟩
end slices_insertionSortCmpFunc_impl_Row_at_impl_ReportTop_1
abbrev ins_slices_swapRangeCmpFunc_impl_Row_at_impl_ReportTop_1 : List Par := [.w false [CT.sl ct0], .v false [CT.int .i64], .v false [CT.int .i64], .v false [CT.int .i64], .cl 14 []]
abbrev outs_slices_swapRangeCmpFunc_impl_Row_at_impl_ReportTop_1 : List (Bool × List CT) := []
namespace slices_swapRangeCmpFunc_impl_Row_at_impl_ReportTop_1
/-! ### slices.swapRangeCmpFunc[loop.example/g00095/impl.Row] (function 23) -/
noncomputable def ztbl : Tbl := fun g fs => none
noncomputable def zbody : Code := ((Try.prog.funcs[23]?).bind (·.body)).getD .skip
def zcfg : Nat → List Nat × List Nat := fun k => if k = 1 then ([0, 1, 2, 3, 10], []) else ([], [])
noncomputable def R0 {R : Type} (nx0 : (Int → Int → Int → Int → (List (Int × Int × Int × Int × Int × Int × Unit)) → Option R)) (ex0 : ((List (Int × Int × Int × Int × Int × Int × Unit)) → Option R)) (a2 b2 n2 i : Int) (data2 : List (Int × Int × Int × Int × Int × Int × Unit)) : Option R := cond (decide (i < n2)) (if 0 ≤ (w64 (b2 + i)) ∧ (w64 (b2 + i)) < (data2.length : Int) then if 0 ≤ (w64 (a2 + i)) ∧ (w64 (a2 + i)) < (data2.length : Int) then if 0 ≤ (w64 (a2 + i)) ∧ (w64 (a2 + i)) < (data2.length : Int) then if 0 ≤ (w64 (b2 + i)) ∧ (w64 (b2 + i)) < ((data2.set (((w64 (a2 + i))).toNat) (data2.getD (((w64 (b2 + i))).toNat) (0, 0, 0, 0, 0, 0, ()))).length : Int) then nx0 a2 b2 n2 (w64 (i + 1)) ((data2.set (((w64 (a2 + i))).toNat) (data2.getD (((w64 (b2 + i))).toNat) (0, 0, 0, 0, 0, 0, ()))).set (((w64 (b2 + i))).toNat) (data2.getD (((w64 (a2 + i))).toNat) (0, 0, 0, 0, 0, 0, ()))) else none else none else none else none) (ex0 data2)
noncomputable def A0  (data : List (Int × Int × Int × Int × Int × Int × Unit)) (a b n : Int) (o0 : List (Int × Int × Int × Int × Int × Int × Unit)) : Option ((List (Int × Int × Int × Int × Int × Int × Unit)) × Unit) := some (o0, ())
noncomputable def T (lo0 : (Int → Int → Int → Int → (List (Int × Int × Int × Int × Int × Int × Unit)) → Option ((List (Int × Int × Int × Int × Int × Int × Unit)) × Unit))) (data : List (Int × Int × Int × Int × Int × Int × Unit)) (a b n : Int) : Option ((List (Int × Int × Int × Int × Int × Int × Unit)) × Unit) := lo0 a b n 0 data
noncomputable def zst0 {R : Type} (k0 : Nat) : Env → List Ob → Kont R → Option R := fun env ob K => runCode Try.prog ztbl 38 1 zcfg k0 (codeAt [1, 0, 0] zbody) env ob K
noncomputable def K0 {R : Type} (k0 : Nat) (K : Kont R) : Kont R := blockK 0 (K)
noncomputable def L0 {R : Type} (k0 k : Nat) (K : Kont R) (a2 b2 n2 i : Int) (data2 : List (Int × Int × Int × Int × Int × Int × Unit)) : Option R := iter 1 [0, 1, 2, 3, 10] [] (zst0 k0) k [(0, .own 0), (1, .int .i64 a2), (2, .int .i64 b2), (3, .int .i64 n2), (10, .int .i64 i)] [.arr ct0 data2] K
theorem zs0 {R : Type} (k0 k : Nat) (K : Kont R) (a2 b2 n2 i : Int) (data2 : List (Int × Int × Int × Int × Int × Int × Unit)) : L0 k0 (k + 1) K a2 b2 n2 i data2 = R0 (L0 k0 k K) (fun o0 => K (.exit 0) [] [.arr ct0 o0]) a2 b2 n2 i data2 := by kernel_rfl
theorem za0 (k0 : Nat) (data : List (Int × Int × Int × Int × Int × Int × Unit)) (a b n : Int) (o0 : List (Int × Int × Int × Int × Int × Int × Unit)) : K0 (R := ((List (Int × Int × Int × Int × Int × Int × Unit)) × Unit)) k0 (finK Try.prog [] ins_slices_swapRangeCmpFunc_impl_Row_at_impl_ReportTop_1 outs_slices_swapRangeCmpFunc_impl_Row_at_impl_ReportTop_1 (data, a, b, n, ())) (.exit 0) [] [.arr ct0 o0] = A0  data a b n o0 := by kernel_rfl
theorem ztop (k0 : Nat) (data : List (Int × Int × Int × Int × Int × Int × Unit)) (a b n : Int) : runFn Try.prog ztbl zcfg k0 23 ins_slices_swapRangeCmpFunc_impl_Row_at_impl_ReportTop_1 outs_slices_swapRangeCmpFunc_impl_Row_at_impl_ReportTop_1 [] (data, a, b, n, ()) = T (L0 (R := ((List (Int × Int × Int × Int × Int × Int × Unit)) × Unit)) k0 k0 (K0 (R := ((List (Int × Int × Int × Int × Int × Int × Unit)) × Unit)) k0 ((finK Try.prog [] ins_slices_swapRangeCmpFunc_impl_Row_at_impl_ReportTop_1 outs_slices_swapRangeCmpFunc_impl_Row_at_impl_ReportTop_1 (data, a, b, n, ()))))) data a b n := by kernel_rfl
noncomputable def G0 {R : Type} (k0 : Nat) (hx0 : ((List (Int × Int × Int × Int × Int × Int × Unit)) → Option R)) : Nat → Int → Int → Int → Int → (List (Int × Int × Int × Int × Int × Int × Unit)) → Option R
  | 0, _, _, _, _, _ => none
  | k + 1, a2, b2, n2, i, data2 => R0 (G0 k0 hx0 k) hx0 a2 b2 n2 i data2
theorem zg0 {R : Type} (k0 : Nat) (K : Kont R) : ∀ k : Nat, L0 k0 k K = G0 k0 (fun o0 => K (.exit 0) [] [.arr ct0 o0]) k := by
  intro k
  induction k with
  | zero => funext a2 b2 n2 i data2; rfl
  | succ k ih => funext a2 b2 n2 i data2; rw [zs0, G0]; (try simp only [ih]); try rfl
noncomputable def FF (k0 : Nat) (data : List (Int × Int × Int × Int × Int × Int × Unit)) (a b n : Int) : Option ((List (Int × Int × Int × Int × Int × Int × Unit)) × Unit) := T (G0 k0 (A0  data a b n) k0) data a b n
theorem zrun (k0 : Nat) (data : List (Int × Int × Int × Int × Int × Int × Unit)) (a b n : Int) : runFn Try.prog ztbl zcfg k0 23 ins_slices_swapRangeCmpFunc_impl_Row_at_impl_ReportTop_1 outs_slices_swapRangeCmpFunc_impl_Row_at_impl_ReportTop_1 [] (data, a, b, n, ()) = FF k0 data a b n := by
  rw [ztop, FF]; (try simp only [zg0, za0]); try rfl
noncomputable def _root_.Go.Rv.F_slices_swapRangeCmpFunc_impl_Row_at_impl_ReportTop_1 : (List (Int × Int × Int × Int × Int × Int × Unit)) × Int × Int × Int × Unit → Option ((List (Int × Int × Int × Int × Int × Int × Unit)) × Unit) := fun x => (fun (data : List (Int × Int × Int × Int × Int × Int × Unit)) (a b n : Int) => FF (300 + data.length) data a b n) x.1 x.2.1 x.2.2.1 x.2.2.2.1
theorem ztblOK : ∀ g fs S, ztbl g fs = some S → SumOK Dr Try.prog g S := by
  intro g fs S h
  unfold ztbl at h
  cases h
theorem _root_.Go.Rv.ok_slices_swapRangeCmpFunc_impl_Row_at_impl_ReportTop_1 : SumOK Dr Try.prog 23 ⟨ins_slices_swapRangeCmpFunc_impl_Row_at_impl_ReportTop_1, outs_slices_swapRangeCmpFunc_impl_Row_at_impl_ReportTop_1, F_slices_swapRangeCmpFunc_impl_Row_at_impl_ReportTop_1, []⟩ := runFn_ok (by kernel_rfl) ztblOK (by kernel_rfl) fun x y h => ⟨zcfg, _, (zrun _ x.1 x.2.1 x.2.2.1 x.2.2.2.1).trans h⟩
end slices_swapRangeCmpFunc_impl_Row_at_impl_ReportTop_1
abbrev ins_slices_rotateCmpFunc_impl_Row_at_impl_ReportTop_1 : List Par := [.w false [CT.sl ct0], .v false [CT.int .i64], .v false [CT.int .i64], .v false [CT.int .i64], .cl 14 []]
abbrev outs_slices_rotateCmpFunc_impl_Row_at_impl_ReportTop_1 : List (Bool × List CT) := []
namespace slices_rotateCmpFunc_impl_Row_at_impl_ReportTop_1
/-! ### slices.rotateCmpFunc[loop.example/g00095/impl.Row] (function 22) -/
noncomputable def ztbl : Tbl := fun g fs => if g = 23 ∧ fs = [14] then some ⟨ins_slices_swapRangeCmpFunc_impl_Row_at_impl_ReportTop_1, outs_slices_swapRangeCmpFunc_impl_Row_at_impl_ReportTop_1, F_slices_swapRangeCmpFunc_impl_Row_at_impl_ReportTop_1, []⟩ else none
noncomputable def zbody : Code := ((Try.prog.funcs[22]?).bind (·.body)).getD .skip
def zcfg : Nat → List Nat × List Nat := fun k => if k = 2 then ([0, 2, 4, 10, 11], [0, 2, 4, 10]) else ([], [])
noncomputable def R0 {R : Type} (nx0 : (Int → Int → Int → (List (Int × Int × Int × Int × Int × Int × Unit)) → Option R)) (ex0 : (Int → Int → (List (Int × Int × Int × Int × Int × Int × Unit)) → Option R)) (m2 i j : Int) (data2 : List (Int × Int × Int × Int × Int × Int × Unit)) : Option R := cond (i != j) (cond (decide (i > j)) ((F_slices_swapRangeCmpFunc_impl_Row_at_impl_ReportTop_1 (data2, (w64 (m2 - i)), m2, j, ())).bind fun y1 => nx0 m2 (w64 (i - j)) j y1.1) ((F_slices_swapRangeCmpFunc_impl_Row_at_impl_ReportTop_1 (data2, (w64 (m2 - i)), (w64 ((w64 (m2 + j)) - i)), i, ())).bind fun y2 => nx0 m2 i (w64 (j - i)) y2.1)) (ex0 m2 i data2)
noncomputable def A0  (data : List (Int × Int × Int × Int × Int × Int × Unit)) (a m b : Int) (m2 i : Int) (data2 : List (Int × Int × Int × Int × Int × Int × Unit)) : Option ((List (Int × Int × Int × Int × Int × Int × Unit)) × Unit) := (F_slices_swapRangeCmpFunc_impl_Row_at_impl_ReportTop_1 (data2, (w64 (m2 - i)), m2, i, ())).bind fun y1 => some (y1.1, ())
noncomputable def T (lo0 : (Int → Int → Int → (List (Int × Int × Int × Int × Int × Int × Unit)) → Option ((List (Int × Int × Int × Int × Int × Int × Unit)) × Unit))) (data : List (Int × Int × Int × Int × Int × Int × Unit)) (a m b : Int) : Option ((List (Int × Int × Int × Int × Int × Int × Unit)) × Unit) := lo0 m (w64 (m - a)) (w64 (b - m)) data
noncomputable def zst0 {R : Type} (k0 : Nat) : Env → List Ob → Kont R → Option R := fun env ob K => runCode Try.prog ztbl 58 1 zcfg k0 (codeAt [1, 1, 0, 0, 0] zbody) env ob K
noncomputable def K0 {R : Type} (k0 : Nat) (K : Kont R) : Kont R := blockK 0 (seqK (fun env ob => runCode Try.prog ztbl 58 1 zcfg k0 (codeAt [1, 1, 1] zbody) env ob (K)) (K))
noncomputable def L0 {R : Type} (k0 k : Nat) (K : Kont R) (m2 i j : Int) (data2 : List (Int × Int × Int × Int × Int × Int × Unit)) : Option R := iter 1 [0, 2, 4, 10, 11] [0, 2, 4, 10] (zst0 k0) k [(0, .own 0), (2, .int .i64 m2), (4, .fn 14 []), (10, .int .i64 i), (11, .int .i64 j)] [.arr ct0 data2] K
theorem zs0 {R : Type} (k0 k : Nat) (K : Kont R) (m2 i j : Int) (data2 : List (Int × Int × Int × Int × Int × Int × Unit)) : L0 k0 (k + 1) K m2 i j data2 = R0 (L0 k0 k K) (fun m2 i data2 => K (.exit 0) [(0, .own 0), (2, .int .i64 m2), (4, .fn 14 []), (10, .int .i64 i)] [.arr ct0 data2]) m2 i j data2 := by kernel_rfl
theorem za0 (k0 : Nat) (data : List (Int × Int × Int × Int × Int × Int × Unit)) (a m b : Int) (m2 i : Int) (data2 : List (Int × Int × Int × Int × Int × Int × Unit)) : K0 (R := ((List (Int × Int × Int × Int × Int × Int × Unit)) × Unit)) k0 (finK Try.prog [] ins_slices_rotateCmpFunc_impl_Row_at_impl_ReportTop_1 outs_slices_rotateCmpFunc_impl_Row_at_impl_ReportTop_1 (data, a, m, b, ())) (.exit 0) [(0, .own 0), (2, .int .i64 m2), (4, .fn 14 []), (10, .int .i64 i)] [.arr ct0 data2] = A0  data a m b m2 i data2 := by kernel_rfl
theorem ztop (k0 : Nat) (data : List (Int × Int × Int × Int × Int × Int × Unit)) (a m b : Int) : runFn Try.prog ztbl zcfg k0 22 ins_slices_rotateCmpFunc_impl_Row_at_impl_ReportTop_1 outs_slices_rotateCmpFunc_impl_Row_at_impl_ReportTop_1 [] (data, a, m, b, ()) = T (L0 (R := ((List (Int × Int × Int × Int × Int × Int × Unit)) × Unit)) k0 k0 (K0 (R := ((List (Int × Int × Int × Int × Int × Int × Unit)) × Unit)) k0 ((finK Try.prog [] ins_slices_rotateCmpFunc_impl_Row_at_impl_ReportTop_1 outs_slices_rotateCmpFunc_impl_Row_at_impl_ReportTop_1 (data, a, m, b, ()))))) data a m b := by kernel_rfl
noncomputable def G0 {R : Type} (k0 : Nat) (hx0 : (Int → Int → (List (Int × Int × Int × Int × Int × Int × Unit)) → Option R)) : Nat → Int → Int → Int → (List (Int × Int × Int × Int × Int × Int × Unit)) → Option R
  | 0, _, _, _, _ => none
  | k + 1, m2, i, j, data2 => R0 (G0 k0 hx0 k) hx0 m2 i j data2
theorem zg0 {R : Type} (k0 : Nat) (K : Kont R) : ∀ k : Nat, L0 k0 k K = G0 k0 (fun m2 i data2 => K (.exit 0) [(0, .own 0), (2, .int .i64 m2), (4, .fn 14 []), (10, .int .i64 i)] [.arr ct0 data2]) k := by
  intro k
  induction k with
  | zero => funext m2 i j data2; rfl
  | succ k ih => funext m2 i j data2; rw [zs0, G0]; (try simp only [ih]); try rfl
noncomputable def FF (k0 : Nat) (data : List (Int × Int × Int × Int × Int × Int × Unit)) (a m b : Int) : Option ((List (Int × Int × Int × Int × Int × Int × Unit)) × Unit) := T (G0 k0 (A0  data a m b) k0) data a m b
theorem zrun (k0 : Nat) (data : List (Int × Int × Int × Int × Int × Int × Unit)) (a m b : Int) : runFn Try.prog ztbl zcfg k0 22 ins_slices_rotateCmpFunc_impl_Row_at_impl_ReportTop_1 outs_slices_rotateCmpFunc_impl_Row_at_impl_ReportTop_1 [] (data, a, m, b, ()) = FF k0 data a m b := by
  rw [ztop, FF]; (try simp only [zg0, za0]); try rfl
noncomputable def _root_.Go.Rv.F_slices_rotateCmpFunc_impl_Row_at_impl_ReportTop_1 : (List (Int × Int × Int × Int × Int × Int × Unit)) × Int × Int × Int × Unit → Option ((List (Int × Int × Int × Int × Int × Int × Unit)) × Unit) := fun x => (fun (data : List (Int × Int × Int × Int × Int × Int × Unit)) (a m b : Int) => FF (300 + data.length) data a m b) x.1 x.2.1 x.2.2.1 x.2.2.2.1
theorem ztblOK : ∀ g fs S, ztbl g fs = some S → SumOK Dr Try.prog g S := by
  intro g fs S h
  unfold ztbl at h
  split at h
  · rename_i hc; obtain ⟨rfl, rfl⟩ := hc; have := Option.some.inj h; subst this; exact ok_slices_swapRangeCmpFunc_impl_Row_at_impl_ReportTop_1
  cases h
theorem _root_.Go.Rv.ok_slices_rotateCmpFunc_impl_Row_at_impl_ReportTop_1 : SumOK Dr Try.prog 22 ⟨ins_slices_rotateCmpFunc_impl_Row_at_impl_ReportTop_1, outs_slices_rotateCmpFunc_impl_Row_at_impl_ReportTop_1, F_slices_rotateCmpFunc_impl_Row_at_impl_ReportTop_1, []⟩ := runFn_ok (by kernel_rfl) ztblOK (by kernel_rfl) fun x y h => ⟨zcfg, _, (zrun _ x.1 x.2.1 x.2.2.1 x.2.2.2.1).trans h⟩
end slices_rotateCmpFunc_impl_Row_at_impl_ReportTop_1
abbrev ins_slices_symMergeCmpFunc_impl_Row_at_impl_ReportTop_1 : List Par := [.w false [CT.sl ct0], .v false [CT.int .i64], .v false [CT.int .i64], .v false [CT.int .i64], .cl 14 []]
abbrev outs_slices_symMergeCmpFunc_impl_Row_at_impl_ReportTop_1 : List (Bool × List CT) := []
namespace slices_symMergeCmpFunc_impl_Row_at_impl_ReportTop_1
/-! ### slices.symMergeCmpFunc[loop.example/g00095/impl.Row] (function 21) -/
noncomputable def ztbl (rc : (List (Int × Int × Int × Int × Int × Int × Unit)) × Int × Int × Int × Unit → Option ((List (Int × Int × Int × Int × Int × Int × Unit)) × Unit)) : Tbl := fun g fs => if g = 14 ∧ fs = [] then some ⟨ins_impl_ReportTop_1, outs_impl_ReportTop_1, F_impl_ReportTop_1, []⟩ else if g = 21 ∧ fs = [14] then some ⟨ins_slices_symMergeCmpFunc_impl_Row_at_impl_ReportTop_1, outs_slices_symMergeCmpFunc_impl_Row_at_impl_ReportTop_1, rc, []⟩ else if g = 22 ∧ fs = [14] then some ⟨ins_slices_rotateCmpFunc_impl_Row_at_impl_ReportTop_1, outs_slices_rotateCmpFunc_impl_Row_at_impl_ReportTop_1, F_slices_rotateCmpFunc_impl_Row_at_impl_ReportTop_1, []⟩ else none
noncomputable def zbody : Code := ((Try.prog.funcs[21]?).bind (·.body)).getD .skip
def zcfg : Nat → List Nat × List Nat := fun k => if k = 3 then ([0, 1, 4, 10, 11], [0, 1, 10]) else if k = 9 then ([0, 10, 13], []) else if k = 15 then ([0, 2, 4, 14, 15], [0, 2, 14]) else if k = 21 then ([0, 14, 17], []) else if k = 33 then ([0, 1, 2, 3, 4, 18, 19, 20, 21, 22], [0, 1, 2, 3, 4, 18, 19, 20]) else ([], [])
noncomputable def R0 {R : Type} (rc : (List (Int × Int × Int × Int × Int × Int × Unit)) × Int × Int × Int × Unit → Option ((List (Int × Int × Int × Int × Int × Int × Unit)) × Unit)) (nx0 : (Int → Int → Int → (List (Int × Int × Int × Int × Int × Int × Unit)) → Option R)) (ex0 : (Int → Int → (List (Int × Int × Int × Int × Int × Int × Unit)) → Option R)) (a2 i j : Int) (data2 : List (Int × Int × Int × Int × Int × Int × Unit)) : Option R := cond (decide (i < j)) (if 0 ≤ (w64 ((Int.fdiv (IntKind.u64.wrap ((w64 (i + j)))) (2 ^ 1)))) ∧ (w64 ((Int.fdiv (IntKind.u64.wrap ((w64 (i + j)))) (2 ^ 1)))) < (data2.length : Int) then if 0 ≤ a2 ∧ a2 < (data2.length : Int) then (F_impl_ReportTop_1 ((data2.getD (((w64 ((Int.fdiv (IntKind.u64.wrap ((w64 (i + j)))) (2 ^ 1))))).toNat) (0, 0, 0, 0, 0, 0, ())).1, (data2.getD (((w64 ((Int.fdiv (IntKind.u64.wrap ((w64 (i + j)))) (2 ^ 1))))).toNat) (0, 0, 0, 0, 0, 0, ())).2.1, (data2.getD (((w64 ((Int.fdiv (IntKind.u64.wrap ((w64 (i + j)))) (2 ^ 1))))).toNat) (0, 0, 0, 0, 0, 0, ())).2.2.1, (data2.getD (((w64 ((Int.fdiv (IntKind.u64.wrap ((w64 (i + j)))) (2 ^ 1))))).toNat) (0, 0, 0, 0, 0, 0, ())).2.2.2.1, (data2.getD (((w64 ((Int.fdiv (IntKind.u64.wrap ((w64 (i + j)))) (2 ^ 1))))).toNat) (0, 0, 0, 0, 0, 0, ())).2.2.2.2.1, (data2.getD (((w64 ((Int.fdiv (IntKind.u64.wrap ((w64 (i + j)))) (2 ^ 1))))).toNat) (0, 0, 0, 0, 0, 0, ())).2.2.2.2.2.1, (data2.getD a2.toNat (0, 0, 0, 0, 0, 0, ())).1, (data2.getD a2.toNat (0, 0, 0, 0, 0, 0, ())).2.1, (data2.getD a2.toNat (0, 0, 0, 0, 0, 0, ())).2.2.1, (data2.getD a2.toNat (0, 0, 0, 0, 0, 0, ())).2.2.2.1, (data2.getD a2.toNat (0, 0, 0, 0, 0, 0, ())).2.2.2.2.1, (data2.getD a2.toNat (0, 0, 0, 0, 0, 0, ())).2.2.2.2.2.1, ())).bind fun y1 => cond (decide (y1.1 < 0)) (nx0 a2 (w64 ((w64 ((Int.fdiv (IntKind.u64.wrap ((w64 (i + j)))) (2 ^ 1)))) + 1)) j data2) (nx0 a2 i (w64 ((Int.fdiv (IntKind.u64.wrap ((w64 (i + j)))) (2 ^ 1)))) data2) else none else none) (ex0 a2 i data2)
noncomputable def R1 {R : Type} (rc : (List (Int × Int × Int × Int × Int × Int × Unit)) × Int × Int × Int × Unit → Option ((List (Int × Int × Int × Int × Int × Int × Unit)) × Unit)) (nx1 : (Int → Int → Int → (List (Int × Int × Int × Int × Int × Int × Unit)) → Option R)) (ex1 : (Int → Int → (List (Int × Int × Int × Int × Int × Int × Unit)) → Option R)) (m2 i j : Int) (data2 : List (Int × Int × Int × Int × Int × Int × Unit)) : Option R := cond (decide (i < j)) (if 0 ≤ m2 ∧ m2 < (data2.length : Int) then if 0 ≤ (w64 ((Int.fdiv (IntKind.u64.wrap ((w64 (i + j)))) (2 ^ 1)))) ∧ (w64 ((Int.fdiv (IntKind.u64.wrap ((w64 (i + j)))) (2 ^ 1)))) < (data2.length : Int) then (F_impl_ReportTop_1 ((data2.getD m2.toNat (0, 0, 0, 0, 0, 0, ())).1, (data2.getD m2.toNat (0, 0, 0, 0, 0, 0, ())).2.1, (data2.getD m2.toNat (0, 0, 0, 0, 0, 0, ())).2.2.1, (data2.getD m2.toNat (0, 0, 0, 0, 0, 0, ())).2.2.2.1, (data2.getD m2.toNat (0, 0, 0, 0, 0, 0, ())).2.2.2.2.1, (data2.getD m2.toNat (0, 0, 0, 0, 0, 0, ())).2.2.2.2.2.1, (data2.getD (((w64 ((Int.fdiv (IntKind.u64.wrap ((w64 (i + j)))) (2 ^ 1))))).toNat) (0, 0, 0, 0, 0, 0, ())).1, (data2.getD (((w64 ((Int.fdiv (IntKind.u64.wrap ((w64 (i + j)))) (2 ^ 1))))).toNat) (0, 0, 0, 0, 0, 0, ())).2.1, (data2.getD (((w64 ((Int.fdiv (IntKind.u64.wrap ((w64 (i + j)))) (2 ^ 1))))).toNat) (0, 0, 0, 0, 0, 0, ())).2.2.1, (data2.getD (((w64 ((Int.fdiv (IntKind.u64.wrap ((w64 (i + j)))) (2 ^ 1))))).toNat) (0, 0, 0, 0, 0, 0, ())).2.2.2.1, (data2.getD (((w64 ((Int.fdiv (IntKind.u64.wrap ((w64 (i + j)))) (2 ^ 1))))).toNat) (0, 0, 0, 0, 0, 0, ())).2.2.2.2.1, (data2.getD (((w64 ((Int.fdiv (IntKind.u64.wrap ((w64 (i + j)))) (2 ^ 1))))).toNat) (0, 0, 0, 0, 0, 0, ())).2.2.2.2.2.1, ())).bind fun y1 => cond (!(decide (y1.1 < 0))) (nx1 m2 (w64 ((w64 ((Int.fdiv (IntKind.u64.wrap ((w64 (i + j)))) (2 ^ 1)))) + 1)) j data2) (nx1 m2 i (w64 ((Int.fdiv (IntKind.u64.wrap ((w64 (i + j)))) (2 ^ 1)))) data2) else none else none) (ex1 m2 i data2)
noncomputable def R2 {R : Type} (rc : (List (Int × Int × Int × Int × Int × Int × Unit)) × Int × Int × Int × Unit → Option ((List (Int × Int × Int × Int × Int × Int × Unit)) × Unit)) (nx2 : (Int → Int → Int → Int → Int → Int → Int → Int → (List (Int × Int × Int × Int × Int × Int × Unit)) → Option R)) (ex2 : (Int → Int → Int → Int → Int → Int → (List (Int × Int × Int × Int × Int × Int × Unit)) → Option R)) (a2 m2 b2 mid n start r p : Int) (data2 : List (Int × Int × Int × Int × Int × Int × Unit)) : Option R := cond (decide (start < r)) (if 0 ≤ (w64 (p - (w64 ((Int.fdiv (IntKind.u64.wrap ((w64 (start + r)))) (2 ^ 1)))))) ∧ (w64 (p - (w64 ((Int.fdiv (IntKind.u64.wrap ((w64 (start + r)))) (2 ^ 1)))))) < (data2.length : Int) then if 0 ≤ (w64 ((Int.fdiv (IntKind.u64.wrap ((w64 (start + r)))) (2 ^ 1)))) ∧ (w64 ((Int.fdiv (IntKind.u64.wrap ((w64 (start + r)))) (2 ^ 1)))) < (data2.length : Int) then (F_impl_ReportTop_1 ((data2.getD (((w64 (p - (w64 ((Int.fdiv (IntKind.u64.wrap ((w64 (start + r)))) (2 ^ 1))))))).toNat) (0, 0, 0, 0, 0, 0, ())).1, (data2.getD (((w64 (p - (w64 ((Int.fdiv (IntKind.u64.wrap ((w64 (start + r)))) (2 ^ 1))))))).toNat) (0, 0, 0, 0, 0, 0, ())).2.1, (data2.getD (((w64 (p - (w64 ((Int.fdiv (IntKind.u64.wrap ((w64 (start + r)))) (2 ^ 1))))))).toNat) (0, 0, 0, 0, 0, 0, ())).2.2.1, (data2.getD (((w64 (p - (w64 ((Int.fdiv (IntKind.u64.wrap ((w64 (start + r)))) (2 ^ 1))))))).toNat) (0, 0, 0, 0, 0, 0, ())).2.2.2.1, (data2.getD (((w64 (p - (w64 ((Int.fdiv (IntKind.u64.wrap ((w64 (start + r)))) (2 ^ 1))))))).toNat) (0, 0, 0, 0, 0, 0, ())).2.2.2.2.1, (data2.getD (((w64 (p - (w64 ((Int.fdiv (IntKind.u64.wrap ((w64 (start + r)))) (2 ^ 1))))))).toNat) (0, 0, 0, 0, 0, 0, ())).2.2.2.2.2.1, (data2.getD (((w64 ((Int.fdiv (IntKind.u64.wrap ((w64 (start + r)))) (2 ^ 1))))).toNat) (0, 0, 0, 0, 0, 0, ())).1, (data2.getD (((w64 ((Int.fdiv (IntKind.u64.wrap ((w64 (start + r)))) (2 ^ 1))))).toNat) (0, 0, 0, 0, 0, 0, ())).2.1, (data2.getD (((w64 ((Int.fdiv (IntKind.u64.wrap ((w64 (start + r)))) (2 ^ 1))))).toNat) (0, 0, 0, 0, 0, 0, ())).2.2.1, (data2.getD (((w64 ((Int.fdiv (IntKind.u64.wrap ((w64 (start + r)))) (2 ^ 1))))).toNat) (0, 0, 0, 0, 0, 0, ())).2.2.2.1, (data2.getD (((w64 ((Int.fdiv (IntKind.u64.wrap ((w64 (start + r)))) (2 ^ 1))))).toNat) (0, 0, 0, 0, 0, 0, ())).2.2.2.2.1, (data2.getD (((w64 ((Int.fdiv (IntKind.u64.wrap ((w64 (start + r)))) (2 ^ 1))))).toNat) (0, 0, 0, 0, 0, 0, ())).2.2.2.2.2.1, ())).bind fun y1 => cond (!(decide (y1.1 < 0))) (nx2 a2 m2 b2 mid n (w64 ((w64 ((Int.fdiv (IntKind.u64.wrap ((w64 (start + r)))) (2 ^ 1)))) + 1)) r p data2) (nx2 a2 m2 b2 mid n start (w64 ((Int.fdiv (IntKind.u64.wrap ((w64 (start + r)))) (2 ^ 1)))) p data2) else none else none) (ex2 a2 m2 b2 mid n start data2)
noncomputable def R3 {R : Type} (rc : (List (Int × Int × Int × Int × Int × Int × Unit)) × Int × Int × Int × Unit → Option ((List (Int × Int × Int × Int × Int × Int × Unit)) × Unit)) (nx3 : (Int → Int → (List (Int × Int × Int × Int × Int × Int × Unit)) → Option R)) (ex3 : ((List (Int × Int × Int × Int × Int × Int × Unit)) → Option R)) (i kx : Int) (data2 : List (Int × Int × Int × Int × Int × Int × Unit)) : Option R := cond (decide (kx < (w64 (i - 1)))) (if 0 ≤ (w64 (kx + 1)) ∧ (w64 (kx + 1)) < (data2.length : Int) then if 0 ≤ kx ∧ kx < (data2.length : Int) then if 0 ≤ kx ∧ kx < (data2.length : Int) then if 0 ≤ (w64 (kx + 1)) ∧ (w64 (kx + 1)) < ((data2.set kx.toNat (data2.getD (((w64 (kx + 1))).toNat) (0, 0, 0, 0, 0, 0, ()))).length : Int) then nx3 i (w64 (kx + 1)) ((data2.set kx.toNat (data2.getD (((w64 (kx + 1))).toNat) (0, 0, 0, 0, 0, 0, ()))).set (((w64 (kx + 1))).toNat) (data2.getD kx.toNat (0, 0, 0, 0, 0, 0, ()))) else none else none else none else none) (ex3 data2)
noncomputable def R4 {R : Type} (rc : (List (Int × Int × Int × Int × Int × Int × Unit)) × Int × Int × Int × Unit → Option ((List (Int × Int × Int × Int × Int × Int × Unit)) × Unit)) (nx4 : (Int → Int → (List (Int × Int × Int × Int × Int × Int × Unit)) → Option R)) (ex4 : ((List (Int × Int × Int × Int × Int × Int × Unit)) → Option R)) (i kx : Int) (data2 : List (Int × Int × Int × Int × Int × Int × Unit)) : Option R := cond (decide (kx > i)) (if 0 ≤ (w64 (kx - 1)) ∧ (w64 (kx - 1)) < (data2.length : Int) then if 0 ≤ kx ∧ kx < (data2.length : Int) then if 0 ≤ kx ∧ kx < (data2.length : Int) then if 0 ≤ (w64 (kx - 1)) ∧ (w64 (kx - 1)) < ((data2.set kx.toNat (data2.getD (((w64 (kx - 1))).toNat) (0, 0, 0, 0, 0, 0, ()))).length : Int) then nx4 i (w64 (kx - 1)) ((data2.set kx.toNat (data2.getD (((w64 (kx - 1))).toNat) (0, 0, 0, 0, 0, 0, ()))).set (((w64 (kx - 1))).toNat) (data2.getD kx.toNat (0, 0, 0, 0, 0, 0, ()))) else none else none else none else none) (ex4 data2)
noncomputable def A0 (rc : (List (Int × Int × Int × Int × Int × Int × Unit)) × Int × Int × Int × Unit → Option ((List (Int × Int × Int × Int × Int × Int × Unit)) × Unit)) (lo3 : (Int → Int → (List (Int × Int × Int × Int × Int × Int × Unit)) → Option ((List (Int × Int × Int × Int × Int × Int × Unit)) × Unit))) (data : List (Int × Int × Int × Int × Int × Int × Unit)) (a m b : Int) (a2 i : Int) (data2 : List (Int × Int × Int × Int × Int × Int × Unit)) : Option ((List (Int × Int × Int × Int × Int × Int × Unit)) × Unit) := lo3 i a2 data2
noncomputable def A1 (rc : (List (Int × Int × Int × Int × Int × Int × Unit)) × Int × Int × Int × Unit → Option ((List (Int × Int × Int × Int × Int × Int × Unit)) × Unit)) (lo4 : (Int → Int → (List (Int × Int × Int × Int × Int × Int × Unit)) → Option ((List (Int × Int × Int × Int × Int × Int × Unit)) × Unit))) (data : List (Int × Int × Int × Int × Int × Int × Unit)) (a m b : Int) (m2 i : Int) (data2 : List (Int × Int × Int × Int × Int × Int × Unit)) : Option ((List (Int × Int × Int × Int × Int × Int × Unit)) × Unit) := lo4 i m2 data2
noncomputable def A2 (rc : (List (Int × Int × Int × Int × Int × Int × Unit)) × Int × Int × Int × Unit → Option ((List (Int × Int × Int × Int × Int × Int × Unit)) × Unit))  (data : List (Int × Int × Int × Int × Int × Int × Unit)) (a m b : Int) (a2 m2 b2 mid n start : Int) (data2 : List (Int × Int × Int × Int × Int × Int × Unit)) : Option ((List (Int × Int × Int × Int × Int × Int × Unit)) × Unit) := cond (decide (start < m2)) (cond (decide (m2 < (w64 (n - start)))) ((F_slices_rotateCmpFunc_impl_Row_at_impl_ReportTop_1 (data2, start, m2, (w64 (n - start)), ())).bind fun y1 => cond (decide (a2 < start)) (cond (decide (start < mid)) ((rc (y1.1, a2, start, mid, ())).bind fun y2 => cond (decide (mid < (w64 (n - start)))) (cond (decide ((w64 (n - start)) < b2)) ((rc (y2.1, mid, (w64 (n - start)), b2, ())).bind fun y3 => some (y3.1, ())) (some (y2.1, ()))) (some (y2.1, ()))) (cond (decide (mid < (w64 (n - start)))) (cond (decide ((w64 (n - start)) < b2)) ((rc (y1.1, mid, (w64 (n - start)), b2, ())).bind fun y4 => some (y4.1, ())) (some (y1.1, ()))) (some (y1.1, ())))) (cond (decide (mid < (w64 (n - start)))) (cond (decide ((w64 (n - start)) < b2)) ((rc (y1.1, mid, (w64 (n - start)), b2, ())).bind fun y5 => some (y5.1, ())) (some (y1.1, ()))) (some (y1.1, ())))) (cond (decide (a2 < start)) (cond (decide (start < mid)) ((rc (data2, a2, start, mid, ())).bind fun y6 => cond (decide (mid < (w64 (n - start)))) (cond (decide ((w64 (n - start)) < b2)) ((rc (y6.1, mid, (w64 (n - start)), b2, ())).bind fun y7 => some (y7.1, ())) (some (y6.1, ()))) (some (y6.1, ()))) (cond (decide (mid < (w64 (n - start)))) (cond (decide ((w64 (n - start)) < b2)) ((rc (data2, mid, (w64 (n - start)), b2, ())).bind fun y8 => some (y8.1, ())) (some (data2, ()))) (some (data2, ())))) (cond (decide (mid < (w64 (n - start)))) (cond (decide ((w64 (n - start)) < b2)) ((rc (data2, mid, (w64 (n - start)), b2, ())).bind fun y9 => some (y9.1, ())) (some (data2, ()))) (some (data2, ()))))) (cond (decide (a2 < start)) (cond (decide (start < mid)) ((rc (data2, a2, start, mid, ())).bind fun y10 => cond (decide (mid < (w64 (n - start)))) (cond (decide ((w64 (n - start)) < b2)) ((rc (y10.1, mid, (w64 (n - start)), b2, ())).bind fun y11 => some (y11.1, ())) (some (y10.1, ()))) (some (y10.1, ()))) (cond (decide (mid < (w64 (n - start)))) (cond (decide ((w64 (n - start)) < b2)) ((rc (data2, mid, (w64 (n - start)), b2, ())).bind fun y12 => some (y12.1, ())) (some (data2, ()))) (some (data2, ())))) (cond (decide (mid < (w64 (n - start)))) (cond (decide ((w64 (n - start)) < b2)) ((rc (data2, mid, (w64 (n - start)), b2, ())).bind fun y13 => some (y13.1, ())) (some (data2, ()))) (some (data2, ()))))
noncomputable def A3 (rc : (List (Int × Int × Int × Int × Int × Int × Unit)) × Int × Int × Int × Unit → Option ((List (Int × Int × Int × Int × Int × Int × Unit)) × Unit))  (data : List (Int × Int × Int × Int × Int × Int × Unit)) (a m b : Int) (o0 : List (Int × Int × Int × Int × Int × Int × Unit)) : Option ((List (Int × Int × Int × Int × Int × Int × Unit)) × Unit) := some (o0, ())
noncomputable def A4 (rc : (List (Int × Int × Int × Int × Int × Int × Unit)) × Int × Int × Int × Unit → Option ((List (Int × Int × Int × Int × Int × Int × Unit)) × Unit))  (data : List (Int × Int × Int × Int × Int × Int × Unit)) (a m b : Int) (o0 : List (Int × Int × Int × Int × Int × Int × Unit)) : Option ((List (Int × Int × Int × Int × Int × Int × Unit)) × Unit) := some (o0, ())
noncomputable def T (rc : (List (Int × Int × Int × Int × Int × Int × Unit)) × Int × Int × Int × Unit → Option ((List (Int × Int × Int × Int × Int × Int × Unit)) × Unit)) (lo0 : (Int → Int → Int → (List (Int × Int × Int × Int × Int × Int × Unit)) → Option ((List (Int × Int × Int × Int × Int × Int × Unit)) × Unit))) (lo1 : (Int → Int → Int → (List (Int × Int × Int × Int × Int × Int × Unit)) → Option ((List (Int × Int × Int × Int × Int × Int × Unit)) × Unit))) (lo2 : (Int → Int → Int → Int → Int → Int → Int → Int → (List (Int × Int × Int × Int × Int × Int × Unit)) → Option ((List (Int × Int × Int × Int × Int × Int × Unit)) × Unit))) (data : List (Int × Int × Int × Int × Int × Int × Unit)) (a m b : Int) : Option ((List (Int × Int × Int × Int × Int × Int × Unit)) × Unit) := cond ((w64 (m - a)) == 1) (lo0 a m b data) (cond ((w64 (b - m)) == 1) (lo1 m a m data) (cond (decide (m > (w64 ((Int.fdiv (IntKind.u64.wrap ((w64 (a + b)))) (2 ^ 1)))))) (lo2 a m b (w64 ((Int.fdiv (IntKind.u64.wrap ((w64 (a + b)))) (2 ^ 1)))) (w64 ((w64 ((Int.fdiv (IntKind.u64.wrap ((w64 (a + b)))) (2 ^ 1)))) + m)) (w64 ((w64 ((w64 ((Int.fdiv (IntKind.u64.wrap ((w64 (a + b)))) (2 ^ 1)))) + m)) - b)) (w64 ((Int.fdiv (IntKind.u64.wrap ((w64 (a + b)))) (2 ^ 1)))) (w64 ((w64 ((w64 ((Int.fdiv (IntKind.u64.wrap ((w64 (a + b)))) (2 ^ 1)))) + m)) - 1)) data) (lo2 a m b (w64 ((Int.fdiv (IntKind.u64.wrap ((w64 (a + b)))) (2 ^ 1)))) (w64 ((w64 ((Int.fdiv (IntKind.u64.wrap ((w64 (a + b)))) (2 ^ 1)))) + m)) a m (w64 ((w64 ((w64 ((Int.fdiv (IntKind.u64.wrap ((w64 (a + b)))) (2 ^ 1)))) + m)) - 1)) data)))
noncomputable def zst0 {R : Type} (rc : (List (Int × Int × Int × Int × Int × Int × Unit)) × Int × Int × Int × Unit → Option ((List (Int × Int × Int × Int × Int × Int × Unit)) × Unit)) (k0 : Nat) : Env → List Ob → Kont R → Option R := fun env ob K => runCode Try.prog (ztbl rc) 220 1 zcfg k0 (codeAt [0, 1, 0, 1, 1, 0, 0, 0] zbody) env ob K
noncomputable def K0 {R : Type} (rc : (List (Int × Int × Int × Int × Int × Int × Unit)) × Int × Int × Int × Unit → Option ((List (Int × Int × Int × Int × Int × Int × Unit)) × Unit)) (k0 : Nat) (K : Kont R) : Kont R := blockK 0 (seqK (fun env ob => runCode Try.prog (ztbl rc) 220 1 zcfg k0 (codeAt [0, 1, 0, 1, 1, 1] zbody) env ob (seqK (fun env ob => runCode Try.prog (ztbl rc) 220 1 zcfg k0 (codeAt [1] zbody) env ob (K)) (K))) (seqK (fun env ob => runCode Try.prog (ztbl rc) 220 1 zcfg k0 (codeAt [1] zbody) env ob (K)) (K)))
noncomputable def zst1 {R : Type} (rc : (List (Int × Int × Int × Int × Int × Int × Unit)) × Int × Int × Int × Unit → Option ((List (Int × Int × Int × Int × Int × Int × Unit)) × Unit)) (k0 : Nat) : Env → List Ob → Kont R → Option R := fun env ob K => runCode Try.prog (ztbl rc) 220 1 zcfg k0 (codeAt [0, 1, 0, 1, 1, 1, 0, 1, 0, 0] zbody) env ob K
noncomputable def K1 {R : Type} (rc : (List (Int × Int × Int × Int × Int × Int × Unit)) × Int × Int × Int × Unit → Option ((List (Int × Int × Int × Int × Int × Int × Unit)) × Unit)) (k0 : Nat) (K : Kont R) : Kont R := blockK 2 (seqK (fun env ob => runCode Try.prog (ztbl rc) 220 1 zcfg k0 (codeAt [0, 1, 0, 1, 1, 1, 1] zbody) env ob (seqK (fun env ob => runCode Try.prog (ztbl rc) 220 1 zcfg k0 (codeAt [1] zbody) env ob (K)) (K))) (seqK (fun env ob => runCode Try.prog (ztbl rc) 220 1 zcfg k0 (codeAt [1] zbody) env ob (K)) (K)))
noncomputable def zst2 {R : Type} (rc : (List (Int × Int × Int × Int × Int × Int × Unit)) × Int × Int × Int × Unit → Option ((List (Int × Int × Int × Int × Int × Int × Unit)) × Unit)) (k0 : Nat) : Env → List Ob → Kont R → Option R := fun env ob K => runCode Try.prog (ztbl rc) 220 1 zcfg k0 (codeAt [1, 0, 1, 0, 1, 1, 0, 0, 0] zbody) env ob K
noncomputable def K2 {R : Type} (rc : (List (Int × Int × Int × Int × Int × Int × Unit)) × Int × Int × Int × Unit → Option ((List (Int × Int × Int × Int × Int × Int × Unit)) × Unit)) (k0 : Nat) (K : Kont R) : Kont R := blockK 4 (seqK (fun env ob => runCode Try.prog (ztbl rc) 220 1 zcfg k0 (codeAt [1, 0, 1, 0, 1, 1, 1] zbody) env ob (seqK (fun env ob => runCode Try.prog (ztbl rc) 220 1 zcfg k0 (codeAt [1, 1] zbody) env ob (K)) (K))) (seqK (fun env ob => runCode Try.prog (ztbl rc) 220 1 zcfg k0 (codeAt [1, 1] zbody) env ob (K)) (K)))
noncomputable def zst3 {R : Type} (rc : (List (Int × Int × Int × Int × Int × Int × Unit)) × Int × Int × Int × Unit → Option ((List (Int × Int × Int × Int × Int × Int × Unit)) × Unit)) (k0 : Nat) : Env → List Ob → Kont R → Option R := fun env ob K => runCode Try.prog (ztbl rc) 220 1 zcfg k0 (codeAt [1, 0, 1, 0, 1, 1, 1, 0, 1, 0, 0] zbody) env ob K
noncomputable def K3 {R : Type} (rc : (List (Int × Int × Int × Int × Int × Int × Unit)) × Int × Int × Int × Unit → Option ((List (Int × Int × Int × Int × Int × Int × Unit)) × Unit)) (k0 : Nat) (K : Kont R) : Kont R := blockK 6 (seqK (fun env ob => runCode Try.prog (ztbl rc) 220 1 zcfg k0 (codeAt [1, 0, 1, 0, 1, 1, 1, 1] zbody) env ob (seqK (fun env ob => runCode Try.prog (ztbl rc) 220 1 zcfg k0 (codeAt [1, 1] zbody) env ob (K)) (K))) (seqK (fun env ob => runCode Try.prog (ztbl rc) 220 1 zcfg k0 (codeAt [1, 1] zbody) env ob (K)) (K)))
noncomputable def zst4 {R : Type} (rc : (List (Int × Int × Int × Int × Int × Int × Unit)) × Int × Int × Int × Unit → Option ((List (Int × Int × Int × Int × Int × Int × Unit)) × Unit)) (k0 : Nat) : Env → List Ob → Kont R → Option R := fun env ob K => runCode Try.prog (ztbl rc) 220 1 zcfg k0 (codeAt [1, 1, 1, 1, 1, 1, 1, 0, 0, 0] zbody) env ob K
noncomputable def K4 {R : Type} (rc : (List (Int × Int × Int × Int × Int × Int × Unit)) × Int × Int × Int × Unit → Option ((List (Int × Int × Int × Int × Int × Int × Unit)) × Unit)) (k0 : Nat) (K : Kont R) : Kont R := blockK 8 (seqK (fun env ob => runCode Try.prog (ztbl rc) 220 1 zcfg k0 (codeAt [1, 1, 1, 1, 1, 1, 1, 1] zbody) env ob (K)) (K))
noncomputable def L0 {R : Type} (rc : (List (Int × Int × Int × Int × Int × Int × Unit)) × Int × Int × Int × Unit → Option ((List (Int × Int × Int × Int × Int × Int × Unit)) × Unit)) (k0 k : Nat) (K : Kont R) (a2 i j : Int) (data2 : List (Int × Int × Int × Int × Int × Int × Unit)) : Option R := iter 1 [0, 1, 4, 10, 11] [0, 1, 10] (zst0 rc k0) k [(0, .own 0), (1, .int .i64 a2), (4, .fn 14 []), (10, .int .i64 i), (11, .int .i64 j)] [.arr ct0 data2] K
noncomputable def L1 {R : Type} (rc : (List (Int × Int × Int × Int × Int × Int × Unit)) × Int × Int × Int × Unit → Option ((List (Int × Int × Int × Int × Int × Int × Unit)) × Unit)) (k0 k : Nat) (K : Kont R) (m2 i j : Int) (data2 : List (Int × Int × Int × Int × Int × Int × Unit)) : Option R := iter 1 [0, 2, 4, 14, 15] [0, 2, 14] (zst2 rc k0) k [(0, .own 0), (2, .int .i64 m2), (4, .fn 14 []), (14, .int .i64 i), (15, .int .i64 j)] [.arr ct0 data2] K
noncomputable def L2 {R : Type} (rc : (List (Int × Int × Int × Int × Int × Int × Unit)) × Int × Int × Int × Unit → Option ((List (Int × Int × Int × Int × Int × Int × Unit)) × Unit)) (k0 k : Nat) (K : Kont R) (a2 m2 b2 mid n start r p : Int) (data2 : List (Int × Int × Int × Int × Int × Int × Unit)) : Option R := iter 1 [0, 1, 2, 3, 4, 18, 19, 20, 21, 22] [0, 1, 2, 3, 4, 18, 19, 20] (zst4 rc k0) k [(0, .own 0), (1, .int .i64 a2), (2, .int .i64 m2), (3, .int .i64 b2), (4, .fn 14 []), (18, .int .i64 mid), (19, .int .i64 n), (20, .int .i64 start), (21, .int .i64 r), (22, .int .i64 p)] [.arr ct0 data2] K
noncomputable def L3 {R : Type} (rc : (List (Int × Int × Int × Int × Int × Int × Unit)) × Int × Int × Int × Unit → Option ((List (Int × Int × Int × Int × Int × Int × Unit)) × Unit)) (k0 k : Nat) (K : Kont R) (i kx : Int) (data2 : List (Int × Int × Int × Int × Int × Int × Unit)) : Option R := iter 1 [0, 10, 13] [] (zst1 rc k0) k [(0, .own 0), (10, .int .i64 i), (13, .int .i64 kx)] [.arr ct0 data2] K
noncomputable def L4 {R : Type} (rc : (List (Int × Int × Int × Int × Int × Int × Unit)) × Int × Int × Int × Unit → Option ((List (Int × Int × Int × Int × Int × Int × Unit)) × Unit)) (k0 k : Nat) (K : Kont R) (i kx : Int) (data2 : List (Int × Int × Int × Int × Int × Int × Unit)) : Option R := iter 1 [0, 14, 17] [] (zst3 rc k0) k [(0, .own 0), (14, .int .i64 i), (17, .int .i64 kx)] [.arr ct0 data2] K
theorem zs0 {R : Type} (rc : (List (Int × Int × Int × Int × Int × Int × Unit)) × Int × Int × Int × Unit → Option ((List (Int × Int × Int × Int × Int × Int × Unit)) × Unit)) (k0 k : Nat) (K : Kont R) (a2 i j : Int) (data2 : List (Int × Int × Int × Int × Int × Int × Unit)) : L0 rc k0 (k + 1) K a2 i j data2 = R0 rc (L0 rc k0 k K) (fun a2 i data2 => K (.exit 0) [(0, .own 0), (1, .int .i64 a2), (10, .int .i64 i)] [.arr ct0 data2]) a2 i j data2 := by kernel_rfl
theorem zs1 {R : Type} (rc : (List (Int × Int × Int × Int × Int × Int × Unit)) × Int × Int × Int × Unit → Option ((List (Int × Int × Int × Int × Int × Int × Unit)) × Unit)) (k0 k : Nat) (K : Kont R) (m2 i j : Int) (data2 : List (Int × Int × Int × Int × Int × Int × Unit)) : L1 rc k0 (k + 1) K m2 i j data2 = R1 rc (L1 rc k0 k K) (fun m2 i data2 => K (.exit 4) [(0, .own 0), (2, .int .i64 m2), (14, .int .i64 i)] [.arr ct0 data2]) m2 i j data2 := by kernel_rfl
theorem zs2 {R : Type} (rc : (List (Int × Int × Int × Int × Int × Int × Unit)) × Int × Int × Int × Unit → Option ((List (Int × Int × Int × Int × Int × Int × Unit)) × Unit)) (k0 k : Nat) (K : Kont R) (a2 m2 b2 mid n start r p : Int) (data2 : List (Int × Int × Int × Int × Int × Int × Unit)) : L2 rc k0 (k + 1) K a2 m2 b2 mid n start r p data2 = R2 rc (L2 rc k0 k K) (fun a2 m2 b2 mid n start data2 => K (.exit 8) [(0, .own 0), (1, .int .i64 a2), (2, .int .i64 m2), (3, .int .i64 b2), (4, .fn 14 []), (18, .int .i64 mid), (19, .int .i64 n), (20, .int .i64 start)] [.arr ct0 data2]) a2 m2 b2 mid n start r p data2 := by kernel_rfl
theorem zs3 {R : Type} (rc : (List (Int × Int × Int × Int × Int × Int × Unit)) × Int × Int × Int × Unit → Option ((List (Int × Int × Int × Int × Int × Int × Unit)) × Unit)) (k0 k : Nat) (K : Kont R) (i kx : Int) (data2 : List (Int × Int × Int × Int × Int × Int × Unit)) : L3 rc k0 (k + 1) K i kx data2 = R3 rc (L3 rc k0 k K) (fun o0 => K (.exit 2) [] [.arr ct0 o0]) i kx data2 := by kernel_rfl
theorem zs4 {R : Type} (rc : (List (Int × Int × Int × Int × Int × Int × Unit)) × Int × Int × Int × Unit → Option ((List (Int × Int × Int × Int × Int × Int × Unit)) × Unit)) (k0 k : Nat) (K : Kont R) (i kx : Int) (data2 : List (Int × Int × Int × Int × Int × Int × Unit)) : L4 rc k0 (k + 1) K i kx data2 = R4 rc (L4 rc k0 k K) (fun o0 => K (.exit 6) [] [.arr ct0 o0]) i kx data2 := by kernel_rfl
theorem za0 (rc : (List (Int × Int × Int × Int × Int × Int × Unit)) × Int × Int × Int × Unit → Option ((List (Int × Int × Int × Int × Int × Int × Unit)) × Unit)) (k0 : Nat) (data : List (Int × Int × Int × Int × Int × Int × Unit)) (a m b : Int) (a2 i : Int) (data2 : List (Int × Int × Int × Int × Int × Int × Unit)) : K0 (R := ((List (Int × Int × Int × Int × Int × Int × Unit)) × Unit)) rc k0 (finK Try.prog [] ins_slices_symMergeCmpFunc_impl_Row_at_impl_ReportTop_1 outs_slices_symMergeCmpFunc_impl_Row_at_impl_ReportTop_1 (data, a, m, b, ())) (.exit 0) [(0, .own 0), (1, .int .i64 a2), (10, .int .i64 i)] [.arr ct0 data2] = A0 rc (L3 (R := ((List (Int × Int × Int × Int × Int × Int × Unit)) × Unit)) rc k0 k0 (K1 (R := ((List (Int × Int × Int × Int × Int × Int × Unit)) × Unit)) rc k0 ((finK Try.prog [] ins_slices_symMergeCmpFunc_impl_Row_at_impl_ReportTop_1 outs_slices_symMergeCmpFunc_impl_Row_at_impl_ReportTop_1 (data, a, m, b, ()))))) data a m b a2 i data2 := by kernel_rfl
theorem za1 (rc : (List (Int × Int × Int × Int × Int × Int × Unit)) × Int × Int × Int × Unit → Option ((List (Int × Int × Int × Int × Int × Int × Unit)) × Unit)) (k0 : Nat) (data : List (Int × Int × Int × Int × Int × Int × Unit)) (a m b : Int) (m2 i : Int) (data2 : List (Int × Int × Int × Int × Int × Int × Unit)) : K2 (R := ((List (Int × Int × Int × Int × Int × Int × Unit)) × Unit)) rc k0 (finK Try.prog [] ins_slices_symMergeCmpFunc_impl_Row_at_impl_ReportTop_1 outs_slices_symMergeCmpFunc_impl_Row_at_impl_ReportTop_1 (data, a, m, b, ())) (.exit 4) [(0, .own 0), (2, .int .i64 m2), (14, .int .i64 i)] [.arr ct0 data2] = A1 rc (L4 (R := ((List (Int × Int × Int × Int × Int × Int × Unit)) × Unit)) rc k0 k0 (K3 (R := ((List (Int × Int × Int × Int × Int × Int × Unit)) × Unit)) rc k0 ((finK Try.prog [] ins_slices_symMergeCmpFunc_impl_Row_at_impl_ReportTop_1 outs_slices_symMergeCmpFunc_impl_Row_at_impl_ReportTop_1 (data, a, m, b, ()))))) data a m b m2 i data2 := by kernel_rfl
theorem za2 (rc : (List (Int × Int × Int × Int × Int × Int × Unit)) × Int × Int × Int × Unit → Option ((List (Int × Int × Int × Int × Int × Int × Unit)) × Unit)) (k0 : Nat) (data : List (Int × Int × Int × Int × Int × Int × Unit)) (a m b : Int) (a2 m2 b2 mid n start : Int) (data2 : List (Int × Int × Int × Int × Int × Int × Unit)) : K4 (R := ((List (Int × Int × Int × Int × Int × Int × Unit)) × Unit)) rc k0 (finK Try.prog [] ins_slices_symMergeCmpFunc_impl_Row_at_impl_ReportTop_1 outs_slices_symMergeCmpFunc_impl_Row_at_impl_ReportTop_1 (data, a, m, b, ())) (.exit 8) [(0, .own 0), (1, .int .i64 a2), (2, .int .i64 m2), (3, .int .i64 b2), (4, .fn 14 []), (18, .int .i64 mid), (19, .int .i64 n), (20, .int .i64 start)] [.arr ct0 data2] = A2 rc  data a m b a2 m2 b2 mid n start data2 := by kernel_rfl
theorem za3 (rc : (List (Int × Int × Int × Int × Int × Int × Unit)) × Int × Int × Int × Unit → Option ((List (Int × Int × Int × Int × Int × Int × Unit)) × Unit)) (k0 : Nat) (data : List (Int × Int × Int × Int × Int × Int × Unit)) (a m b : Int) (o0 : List (Int × Int × Int × Int × Int × Int × Unit)) : K1 (R := ((List (Int × Int × Int × Int × Int × Int × Unit)) × Unit)) rc k0 (finK Try.prog [] ins_slices_symMergeCmpFunc_impl_Row_at_impl_ReportTop_1 outs_slices_symMergeCmpFunc_impl_Row_at_impl_ReportTop_1 (data, a, m, b, ())) (.exit 2) [] [.arr ct0 o0] = A3 rc  data a m b o0 := by kernel_rfl
theorem za4 (rc : (List (Int × Int × Int × Int × Int × Int × Unit)) × Int × Int × Int × Unit → Option ((List (Int × Int × Int × Int × Int × Int × Unit)) × Unit)) (k0 : Nat) (data : List (Int × Int × Int × Int × Int × Int × Unit)) (a m b : Int) (o0 : List (Int × Int × Int × Int × Int × Int × Unit)) : K3 (R := ((List (Int × Int × Int × Int × Int × Int × Unit)) × Unit)) rc k0 (finK Try.prog [] ins_slices_symMergeCmpFunc_impl_Row_at_impl_ReportTop_1 outs_slices_symMergeCmpFunc_impl_Row_at_impl_ReportTop_1 (data, a, m, b, ())) (.exit 6) [] [.arr ct0 o0] = A4 rc  data a m b o0 := by kernel_rfl
theorem ztop (rc : (List (Int × Int × Int × Int × Int × Int × Unit)) × Int × Int × Int × Unit → Option ((List (Int × Int × Int × Int × Int × Int × Unit)) × Unit)) (k0 : Nat) (data : List (Int × Int × Int × Int × Int × Int × Unit)) (a m b : Int) : runFn Try.prog (ztbl rc) zcfg k0 21 ins_slices_symMergeCmpFunc_impl_Row_at_impl_ReportTop_1 outs_slices_symMergeCmpFunc_impl_Row_at_impl_ReportTop_1 [] (data, a, m, b, ()) = T rc (L0 (R := ((List (Int × Int × Int × Int × Int × Int × Unit)) × Unit)) rc k0 k0 (K0 (R := ((List (Int × Int × Int × Int × Int × Int × Unit)) × Unit)) rc k0 ((finK Try.prog [] ins_slices_symMergeCmpFunc_impl_Row_at_impl_ReportTop_1 outs_slices_symMergeCmpFunc_impl_Row_at_impl_ReportTop_1 (data, a, m, b, ()))))) (L1 (R := ((List (Int × Int × Int × Int × Int × Int × Unit)) × Unit)) rc k0 k0 (K2 (R := ((List (Int × Int × Int × Int × Int × Int × Unit)) × Unit)) rc k0 ((finK Try.prog [] ins_slices_symMergeCmpFunc_impl_Row_at_impl_ReportTop_1 outs_slices_symMergeCmpFunc_impl_Row_at_impl_ReportTop_1 (data, a, m, b, ()))))) (L2 (R := ((List (Int × Int × Int × Int × Int × Int × Unit)) × Unit)) rc k0 k0 (K4 (R := ((List (Int × Int × Int × Int × Int × Int × Unit)) × Unit)) rc k0 ((finK Try.prog [] ins_slices_symMergeCmpFunc_impl_Row_at_impl_ReportTop_1 outs_slices_symMergeCmpFunc_impl_Row_at_impl_ReportTop_1 (data, a, m, b, ()))))) data a m b := by kernel_rfl
noncomputable def G0 {R : Type} (rc : (List (Int × Int × Int × Int × Int × Int × Unit)) × Int × Int × Int × Unit → Option ((List (Int × Int × Int × Int × Int × Int × Unit)) × Unit)) (k0 : Nat) (hx0 : (Int → Int → (List (Int × Int × Int × Int × Int × Int × Unit)) → Option R)) : Nat → Int → Int → Int → (List (Int × Int × Int × Int × Int × Int × Unit)) → Option R
  | 0, _, _, _, _ => none
  | k + 1, a2, i, j, data2 => R0 rc (G0 rc k0 hx0 k) hx0 a2 i j data2
theorem zg0 {R : Type} (rc : (List (Int × Int × Int × Int × Int × Int × Unit)) × Int × Int × Int × Unit → Option ((List (Int × Int × Int × Int × Int × Int × Unit)) × Unit)) (k0 : Nat) (K : Kont R) : ∀ k : Nat, L0 rc k0 k K = G0 rc k0 (fun a2 i data2 => K (.exit 0) [(0, .own 0), (1, .int .i64 a2), (10, .int .i64 i)] [.arr ct0 data2]) k := by
  intro k
  induction k with
  | zero => funext a2 i j data2; rfl
  | succ k ih => funext a2 i j data2; rw [zs0, G0]; (try simp only [ih]); try rfl
noncomputable def G3 {R : Type} (rc : (List (Int × Int × Int × Int × Int × Int × Unit)) × Int × Int × Int × Unit → Option ((List (Int × Int × Int × Int × Int × Int × Unit)) × Unit)) (k0 : Nat) (hx3 : ((List (Int × Int × Int × Int × Int × Int × Unit)) → Option R)) : Nat → Int → Int → (List (Int × Int × Int × Int × Int × Int × Unit)) → Option R
  | 0, _, _, _ => none
  | k + 1, i, kx, data2 => R3 rc (G3 rc k0 hx3 k) hx3 i kx data2
theorem zg3 {R : Type} (rc : (List (Int × Int × Int × Int × Int × Int × Unit)) × Int × Int × Int × Unit → Option ((List (Int × Int × Int × Int × Int × Int × Unit)) × Unit)) (k0 : Nat) (K : Kont R) : ∀ k : Nat, L3 rc k0 k K = G3 rc k0 (fun o0 => K (.exit 2) [] [.arr ct0 o0]) k := by
  intro k
  induction k with
  | zero => funext i kx data2; rfl
  | succ k ih => funext i kx data2; rw [zs3, G3]; (try simp only [ih, zg0]); try rfl
noncomputable def G1 {R : Type} (rc : (List (Int × Int × Int × Int × Int × Int × Unit)) × Int × Int × Int × Unit → Option ((List (Int × Int × Int × Int × Int × Int × Unit)) × Unit)) (k0 : Nat) (hx1 : (Int → Int → (List (Int × Int × Int × Int × Int × Int × Unit)) → Option R)) : Nat → Int → Int → Int → (List (Int × Int × Int × Int × Int × Int × Unit)) → Option R
  | 0, _, _, _, _ => none
  | k + 1, m2, i, j, data2 => R1 rc (G1 rc k0 hx1 k) hx1 m2 i j data2
theorem zg1 {R : Type} (rc : (List (Int × Int × Int × Int × Int × Int × Unit)) × Int × Int × Int × Unit → Option ((List (Int × Int × Int × Int × Int × Int × Unit)) × Unit)) (k0 : Nat) (K : Kont R) : ∀ k : Nat, L1 rc k0 k K = G1 rc k0 (fun m2 i data2 => K (.exit 4) [(0, .own 0), (2, .int .i64 m2), (14, .int .i64 i)] [.arr ct0 data2]) k := by
  intro k
  induction k with
  | zero => funext m2 i j data2; rfl
  | succ k ih => funext m2 i j data2; rw [zs1, G1]; (try simp only [ih, zg0, zg3]); try rfl
noncomputable def G4 {R : Type} (rc : (List (Int × Int × Int × Int × Int × Int × Unit)) × Int × Int × Int × Unit → Option ((List (Int × Int × Int × Int × Int × Int × Unit)) × Unit)) (k0 : Nat) (hx4 : ((List (Int × Int × Int × Int × Int × Int × Unit)) → Option R)) : Nat → Int → Int → (List (Int × Int × Int × Int × Int × Int × Unit)) → Option R
  | 0, _, _, _ => none
  | k + 1, i, kx, data2 => R4 rc (G4 rc k0 hx4 k) hx4 i kx data2
theorem zg4 {R : Type} (rc : (List (Int × Int × Int × Int × Int × Int × Unit)) × Int × Int × Int × Unit → Option ((List (Int × Int × Int × Int × Int × Int × Unit)) × Unit)) (k0 : Nat) (K : Kont R) : ∀ k : Nat, L4 rc k0 k K = G4 rc k0 (fun o0 => K (.exit 6) [] [.arr ct0 o0]) k := by
  intro k
  induction k with
  | zero => funext i kx data2; rfl
  | succ k ih => funext i kx data2; rw [zs4, G4]; (try simp only [ih, zg0, zg3, zg1]); try rfl
noncomputable def G2 {R : Type} (rc : (List (Int × Int × Int × Int × Int × Int × Unit)) × Int × Int × Int × Unit → Option ((List (Int × Int × Int × Int × Int × Int × Unit)) × Unit)) (k0 : Nat) (hx2 : (Int → Int → Int → Int → Int → Int → (List (Int × Int × Int × Int × Int × Int × Unit)) → Option R)) : Nat → Int → Int → Int → Int → Int → Int → Int → Int → (List (Int × Int × Int × Int × Int × Int × Unit)) → Option R
  | 0, _, _, _, _, _, _, _, _, _ => none
  | k + 1, a2, m2, b2, mid, n, start, r, p, data2 => R2 rc (G2 rc k0 hx2 k) hx2 a2 m2 b2 mid n start r p data2
theorem zg2 {R : Type} (rc : (List (Int × Int × Int × Int × Int × Int × Unit)) × Int × Int × Int × Unit → Option ((List (Int × Int × Int × Int × Int × Int × Unit)) × Unit)) (k0 : Nat) (K : Kont R) : ∀ k : Nat, L2 rc k0 k K = G2 rc k0 (fun a2 m2 b2 mid n start data2 => K (.exit 8) [(0, .own 0), (1, .int .i64 a2), (2, .int .i64 m2), (3, .int .i64 b2), (4, .fn 14 []), (18, .int .i64 mid), (19, .int .i64 n), (20, .int .i64 start)] [.arr ct0 data2]) k := by
  intro k
  induction k with
  | zero => funext a2 m2 b2 mid n start r p data2; rfl
  | succ k ih => funext a2 m2 b2 mid n start r p data2; rw [zs2, G2]; (try simp only [ih, zg0, zg3, zg1, zg4]); try rfl
noncomputable def FF (rc : (List (Int × Int × Int × Int × Int × Int × Unit)) × Int × Int × Int × Unit → Option ((List (Int × Int × Int × Int × Int × Int × Unit)) × Unit)) (k0 : Nat) (data : List (Int × Int × Int × Int × Int × Int × Unit)) (a m b : Int) : Option ((List (Int × Int × Int × Int × Int × Int × Unit)) × Unit) := T rc (G0 rc k0 (A0 rc (G3 rc k0 (A3 rc  data a m b) k0) data a m b) k0) (G1 rc k0 (A1 rc (G4 rc k0 (A4 rc  data a m b) k0) data a m b) k0) (G2 rc k0 (A2 rc  data a m b) k0) data a m b
theorem zrun (rc : (List (Int × Int × Int × Int × Int × Int × Unit)) × Int × Int × Int × Unit → Option ((List (Int × Int × Int × Int × Int × Int × Unit)) × Unit)) (k0 : Nat) (data : List (Int × Int × Int × Int × Int × Int × Unit)) (a m b : Int) : runFn Try.prog (ztbl rc) zcfg k0 21 ins_slices_symMergeCmpFunc_impl_Row_at_impl_ReportTop_1 outs_slices_symMergeCmpFunc_impl_Row_at_impl_ReportTop_1 [] (data, a, m, b, ()) = FF rc k0 data a m b := by
  rw [ztop, FF]; (try simp only [zg0, zg3, zg1, zg4, zg2, za0, za1, za2, za3, za4]); try rfl
noncomputable def _root_.Go.Rv.FR_slices_symMergeCmpFunc_impl_Row_at_impl_ReportTop_1 : Nat → (List (Int × Int × Int × Int × Int × Int × Unit)) × Int × Int × Int × Unit → Option ((List (Int × Int × Int × Int × Int × Int × Unit)) × Unit)
  | 0, _ => none
  | n + 1, x => (fun (data : List (Int × Int × Int × Int × Int × Int × Unit)) (a m b : Int) => FF (FR_slices_symMergeCmpFunc_impl_Row_at_impl_ReportTop_1 n) (300 + data.length) data a m b) x.1 x.2.1 x.2.2.1 x.2.2.2.1
noncomputable def _root_.Go.Rv.F_slices_symMergeCmpFunc_impl_Row_at_impl_ReportTop_1 : (List (Int × Int × Int × Int × Int × Int × Unit)) × Int × Int × Int × Unit → Option ((List (Int × Int × Int × Int × Int × Int × Unit)) × Unit) := fun x => (fun (data : List (Int × Int × Int × Int × Int × Int × Unit)) (a m b : Int) => FR_slices_symMergeCmpFunc_impl_Row_at_impl_ReportTop_1 (300 + data.length) x) x.1 x.2.1 x.2.2.1 x.2.2.2.1
theorem ztblOK (rc : (List (Int × Int × Int × Int × Int × Int × Unit)) × Int × Int × Int × Unit → Option ((List (Int × Int × Int × Int × Int × Int × Unit)) × Unit)) (hr : SumOK Dr Try.prog 21 ⟨ins_slices_symMergeCmpFunc_impl_Row_at_impl_ReportTop_1, outs_slices_symMergeCmpFunc_impl_Row_at_impl_ReportTop_1, rc, []⟩) : ∀ g fs S, (ztbl rc) g fs = some S → SumOK Dr Try.prog g S := by
  intro g fs S h
  unfold ztbl at h
  split at h
  · rename_i hc; obtain ⟨rfl, rfl⟩ := hc; have := Option.some.inj h; subst this; exact ok_impl_ReportTop_1
  split at h
  · rename_i hc; obtain ⟨rfl, rfl⟩ := hc; have := Option.some.inj h; subst this; exact hr
  split at h
  · rename_i hc; obtain ⟨rfl, rfl⟩ := hc; have := Option.some.inj h; subst this; exact ok_slices_rotateCmpFunc_impl_Row_at_impl_ReportTop_1
  cases h
theorem _root_.Go.Rv.okr_slices_symMergeCmpFunc_impl_Row_at_impl_ReportTop_1 : ∀ n, SumOK Dr Try.prog 21 ⟨ins_slices_symMergeCmpFunc_impl_Row_at_impl_ReportTop_1, outs_slices_symMergeCmpFunc_impl_Row_at_impl_ReportTop_1, FR_slices_symMergeCmpFunc_impl_Row_at_impl_ReportTop_1 n, []⟩
  | 0 => ⟨fun args w => run_enter (by kernel_rfl) args w, fun w T J x y vals avals _ _ _ _ h => by cases h⟩
  | n + 1 => runFn_ok (by kernel_rfl) (ztblOK (FR_slices_symMergeCmpFunc_impl_Row_at_impl_ReportTop_1 n) (okr_slices_symMergeCmpFunc_impl_Row_at_impl_ReportTop_1 n)) (by kernel_rfl) fun x y h => ⟨zcfg, _, (zrun (FR_slices_symMergeCmpFunc_impl_Row_at_impl_ReportTop_1 n) _ x.1 x.2.1 x.2.2.1 x.2.2.2.1).trans h⟩
theorem _root_.Go.Rv.ok_slices_symMergeCmpFunc_impl_Row_at_impl_ReportTop_1 : SumOK Dr Try.prog 21 ⟨ins_slices_symMergeCmpFunc_impl_Row_at_impl_ReportTop_1, outs_slices_symMergeCmpFunc_impl_Row_at_impl_ReportTop_1, F_slices_symMergeCmpFunc_impl_Row_at_impl_ReportTop_1, []⟩ := ⟨fun args w => run_enter (by kernel_rfl) args w, fun w T J x y vals avals h1 h2 h3 h4 h5 h6 => (okr_slices_symMergeCmpFunc_impl_Row_at_impl_ReportTop_1 _).2 w T J x y vals avals h1 h2 h3 h4 h5 h6⟩
end slices_symMergeCmpFunc_impl_Row_at_impl_ReportTop_1
abbrev ins_slices_stableCmpFunc_impl_Row_at_impl_ReportTop_1 : List Par := [.w false [CT.sl ct0], .v false [CT.int .i64], .cl 14 []]
abbrev outs_slices_stableCmpFunc_impl_Row_at_impl_ReportTop_1 : List (Bool × List CT) := []
namespace slices_stableCmpFunc_impl_Row_at_impl_ReportTop_1
/-! ### slices.stableCmpFunc[loop.example/g00095/impl.Row] (function 18) -/
noncomputable def ztbl : Tbl := fun g fs => if g = 20 ∧ fs = [14] then some ⟨ins_slices_insertionSortCmpFunc_impl_Row_at_impl_ReportTop_1, outs_slices_insertionSortCmpFunc_impl_Row_at_impl_ReportTop_1, F_slices_insertionSortCmpFunc_impl_Row_at_impl_ReportTop_1, []⟩ else if g = 21 ∧ fs = [14] then some ⟨ins_slices_symMergeCmpFunc_impl_Row_at_impl_ReportTop_1, outs_slices_symMergeCmpFunc_impl_Row_at_impl_ReportTop_1, F_slices_symMergeCmpFunc_impl_Row_at_impl_ReportTop_1, []⟩ else none
noncomputable def zbody : Code := ((Try.prog.funcs[18]?).bind (·.body)).getD .skip
def zcfg : Nat → List Nat × List Nat := fun k => if k = 2 then ([0, 1, 2, 6, 7, 8], [0, 1, 2, 6, 7]) else if k = 7 then ([0, 1, 2, 6], []) else if k = 9 then ([0, 1, 2, 6, 7, 8], [0, 1, 2, 6, 7]) else ([], [])
noncomputable def R0 {R : Type} (nx0 : (Int → Int → Int → Int → (List (Int × Int × Int × Int × Int × Int × Unit)) → Option R)) (ex0 : (Int → Int → Int → (List (Int × Int × Int × Int × Int × Int × Unit)) → Option R)) (n2 blockSize a b : Int) (data2 : List (Int × Int × Int × Int × Int × Int × Unit)) : Option R := cond (decide (b ≤ n2)) ((F_slices_insertionSortCmpFunc_impl_Row_at_impl_ReportTop_1 (data2, a, b, ())).bind fun y1 => nx0 n2 blockSize b (w64 (b + blockSize)) y1.1) (ex0 n2 blockSize a data2)
noncomputable def R1 {R : Type} (ex1 : ((List (Int × Int × Int × Int × Int × Int × Unit)) → Option R)) (lo2 : (Int → Int → Int → Int → (List (Int × Int × Int × Int × Int × Int × Unit)) → Option R)) (n2 blockSize : Int) (data2 : List (Int × Int × Int × Int × Int × Int × Unit)) : Option R := cond (decide (blockSize < n2)) (lo2 n2 blockSize 0 (w64 (2 * blockSize)) data2) (ex1 data2)
noncomputable def R2 {R : Type} (nx2 : (Int → Int → Int → Int → (List (Int × Int × Int × Int × Int × Int × Unit)) → Option R)) (ex2 : (Int → Int → Int → (List (Int × Int × Int × Int × Int × Int × Unit)) → Option R)) (n2 blockSize a b : Int) (data2 : List (Int × Int × Int × Int × Int × Int × Unit)) : Option R := cond (decide (b ≤ n2)) ((F_slices_symMergeCmpFunc_impl_Row_at_impl_ReportTop_1 (data2, a, (w64 (a + blockSize)), b, ())).bind fun y1 => nx2 n2 blockSize b (w64 (b + (w64 (2 * blockSize)))) y1.1) (ex2 n2 blockSize a data2)
noncomputable def A0 (lo1 : (Int → Int → (List (Int × Int × Int × Int × Int × Int × Unit)) → Option ((List (Int × Int × Int × Int × Int × Int × Unit)) × Unit))) (data : List (Int × Int × Int × Int × Int × Int × Unit)) (n : Int) (n2 blockSize a : Int) (data2 : List (Int × Int × Int × Int × Int × Int × Unit)) : Option ((List (Int × Int × Int × Int × Int × Int × Unit)) × Unit) := (F_slices_insertionSortCmpFunc_impl_Row_at_impl_ReportTop_1 (data2, a, n2, ())).bind fun y1 => lo1 n2 blockSize y1.1
noncomputable def A1  (data : List (Int × Int × Int × Int × Int × Int × Unit)) (n : Int) (o0 : List (Int × Int × Int × Int × Int × Int × Unit)) : Option ((List (Int × Int × Int × Int × Int × Int × Unit)) × Unit) := some (o0, ())
noncomputable def A2 {R : Type} (nx1 : (Int → Int → (List (Int × Int × Int × Int × Int × Int × Unit)) → Option R)) (n2 blockSize a : Int) (data2 : List (Int × Int × Int × Int × Int × Int × Unit)) : Option R := cond (decide ((w64 (a + blockSize)) < n2)) ((F_slices_symMergeCmpFunc_impl_Row_at_impl_ReportTop_1 (data2, a, (w64 (a + blockSize)), n2, ())).bind fun y1 => nx1 n2 (w64 (blockSize * 2)) y1.1) (nx1 n2 (w64 (blockSize * 2)) data2)
noncomputable def T (lo0 : (Int → Int → Int → Int → (List (Int × Int × Int × Int × Int × Int × Unit)) → Option ((List (Int × Int × Int × Int × Int × Int × Unit)) × Unit))) (data : List (Int × Int × Int × Int × Int × Int × Unit)) (n : Int) : Option ((List (Int × Int × Int × Int × Int × Int × Unit)) × Unit) := lo0 n 20 0 20 data
noncomputable def zst0 {R : Type} (k0 : Nat) : Env → List Ob → Kont R → Option R := fun env ob K => runCode Try.prog ztbl 63 1 zcfg k0 (codeAt [1, 1, 0, 0, 0] zbody) env ob K
noncomputable def K0 {R : Type} (k0 : Nat) (K : Kont R) : Kont R := blockK 0 (seqK (fun env ob => runCode Try.prog ztbl 63 1 zcfg k0 (codeAt [1, 1, 1] zbody) env ob (K)) (K))
noncomputable def zst1 {R : Type} (k0 : Nat) : Env → List Ob → Kont R → Option R := fun env ob K => runCode Try.prog ztbl 63 1 zcfg k0 (codeAt [1, 1, 1, 1, 0, 0] zbody) env ob K
noncomputable def K1 {R : Type} (k0 : Nat) (K : Kont R) : Kont R := blockK 2 (K)
noncomputable def zst2 {R : Type} (k0 : Nat) : Env → List Ob → Kont R → Option R := fun env ob K => runCode Try.prog ztbl 63 1 zcfg k0 (codeAt [1, 1, 1, 1, 0, 0, 1, 0, 1, 0, 0, 0] zbody) env ob K
noncomputable def K2 {R : Type} (k0 : Nat) (K : Kont R) : Kont R := blockK 4 (seqK (fun env ob => runCode Try.prog ztbl 63 1 zcfg k0 (codeAt [1, 1, 1, 1, 0, 0, 1, 0, 1, 1] zbody) env ob (blockK 3 (K))) (blockK 3 (K)))
noncomputable def L0 {R : Type} (k0 k : Nat) (K : Kont R) (n2 blockSize a b : Int) (data2 : List (Int × Int × Int × Int × Int × Int × Unit)) : Option R := iter 1 [0, 1, 2, 6, 7, 8] [0, 1, 2, 6, 7] (zst0 k0) k [(0, .own 0), (1, .int .i64 n2), (2, .fn 14 []), (6, .int .i64 blockSize), (7, .int .i64 a), (8, .int .i64 b)] [.arr ct0 data2] K
noncomputable def L1 {R : Type} (k0 k : Nat) (K : Kont R) (n2 blockSize : Int) (data2 : List (Int × Int × Int × Int × Int × Int × Unit)) : Option R := iter 1 [0, 1, 2, 6] [] (zst1 k0) k [(0, .own 0), (1, .int .i64 n2), (2, .fn 14 []), (6, .int .i64 blockSize)] [.arr ct0 data2] K
noncomputable def L2 {R : Type} (k0 k : Nat) (K : Kont R) (n2 blockSize a b : Int) (data2 : List (Int × Int × Int × Int × Int × Int × Unit)) : Option R := iter 1 [0, 1, 2, 6, 7, 8] [0, 1, 2, 6, 7] (zst2 k0) k [(0, .own 0), (1, .int .i64 n2), (2, .fn 14 []), (6, .int .i64 blockSize), (7, .int .i64 a), (8, .int .i64 b)] [.arr ct0 data2] K
theorem zs0 {R : Type} (k0 k : Nat) (K : Kont R) (n2 blockSize a b : Int) (data2 : List (Int × Int × Int × Int × Int × Int × Unit)) : L0 k0 (k + 1) K n2 blockSize a b data2 = R0 (L0 k0 k K) (fun n2 blockSize a data2 => K (.exit 0) [(0, .own 0), (1, .int .i64 n2), (2, .fn 14 []), (6, .int .i64 blockSize), (7, .int .i64 a)] [.arr ct0 data2]) n2 blockSize a b data2 := by kernel_rfl
theorem zs1 {R : Type} (k0 k : Nat) (K : Kont R) (n2 blockSize : Int) (data2 : List (Int × Int × Int × Int × Int × Int × Unit)) : L1 k0 (k + 1) K n2 blockSize data2 = R1 (fun o0 => K (.exit 2) [] [.arr ct0 o0]) (L2 k0 k0 (K2 k0 (loopK 1 [0, 1, 2, 6] [] (fun env ob => iter 1 [0, 1, 2, 6] [] (zst1 k0) k env ob K) K))) n2 blockSize data2 := by kernel_rfl
theorem zs2 {R : Type} (k0 k : Nat) (K : Kont R) (n2 blockSize a b : Int) (data2 : List (Int × Int × Int × Int × Int × Int × Unit)) : L2 k0 (k + 1) K n2 blockSize a b data2 = R2 (L2 k0 k K) (fun n2 blockSize a data2 => K (.exit 4) [(0, .own 0), (1, .int .i64 n2), (2, .fn 14 []), (6, .int .i64 blockSize), (7, .int .i64 a)] [.arr ct0 data2]) n2 blockSize a b data2 := by kernel_rfl
theorem za0 (k0 : Nat) (data : List (Int × Int × Int × Int × Int × Int × Unit)) (n : Int) (n2 blockSize a : Int) (data2 : List (Int × Int × Int × Int × Int × Int × Unit)) : K0 (R := ((List (Int × Int × Int × Int × Int × Int × Unit)) × Unit)) k0 (finK Try.prog [] ins_slices_stableCmpFunc_impl_Row_at_impl_ReportTop_1 outs_slices_stableCmpFunc_impl_Row_at_impl_ReportTop_1 (data, n, ())) (.exit 0) [(0, .own 0), (1, .int .i64 n2), (2, .fn 14 []), (6, .int .i64 blockSize), (7, .int .i64 a)] [.arr ct0 data2] = A0 (L1 (R := ((List (Int × Int × Int × Int × Int × Int × Unit)) × Unit)) k0 k0 (K1 (R := ((List (Int × Int × Int × Int × Int × Int × Unit)) × Unit)) k0 ((finK Try.prog [] ins_slices_stableCmpFunc_impl_Row_at_impl_ReportTop_1 outs_slices_stableCmpFunc_impl_Row_at_impl_ReportTop_1 (data, n, ()))))) data n n2 blockSize a data2 := by kernel_rfl
theorem za1 (k0 : Nat) (data : List (Int × Int × Int × Int × Int × Int × Unit)) (n : Int) (o0 : List (Int × Int × Int × Int × Int × Int × Unit)) : K1 (R := ((List (Int × Int × Int × Int × Int × Int × Unit)) × Unit)) k0 (finK Try.prog [] ins_slices_stableCmpFunc_impl_Row_at_impl_ReportTop_1 outs_slices_stableCmpFunc_impl_Row_at_impl_ReportTop_1 (data, n, ())) (.exit 2) [] [.arr ct0 o0] = A1  data n o0 := by kernel_rfl
theorem za2 {R : Type} (k0 k : Nat) (K : Kont R) (n2 blockSize a : Int) (data2 : List (Int × Int × Int × Int × Int × Int × Unit)) : K2 k0 (loopK 1 [0, 1, 2, 6] [] (fun env ob => iter 1 [0, 1, 2, 6] [] (zst1 k0) k env ob K) K) (.exit 4) [(0, .own 0), (1, .int .i64 n2), (2, .fn 14 []), (6, .int .i64 blockSize), (7, .int .i64 a)] [.arr ct0 data2] = A2 (L1 k0 k K) n2 blockSize a data2 := by kernel_rfl
theorem ztop (k0 : Nat) (data : List (Int × Int × Int × Int × Int × Int × Unit)) (n : Int) : runFn Try.prog ztbl zcfg k0 18 ins_slices_stableCmpFunc_impl_Row_at_impl_ReportTop_1 outs_slices_stableCmpFunc_impl_Row_at_impl_ReportTop_1 [] (data, n, ()) = T (L0 (R := ((List (Int × Int × Int × Int × Int × Int × Unit)) × Unit)) k0 k0 (K0 (R := ((List (Int × Int × Int × Int × Int × Int × Unit)) × Unit)) k0 ((finK Try.prog [] ins_slices_stableCmpFunc_impl_Row_at_impl_ReportTop_1 outs_slices_stableCmpFunc_impl_Row_at_impl_ReportTop_1 (data, n, ()))))) data n := by kernel_rfl
noncomputable def G0 {R : Type} (k0 : Nat) (hx0 : (Int → Int → Int → (List (Int × Int × Int × Int × Int × Int × Unit)) → Option R)) : Nat → Int → Int → Int → Int → (List (Int × Int × Int × Int × Int × Int × Unit)) → Option R
  | 0, _, _, _, _, _ => none
  | k + 1, n2, blockSize, a, b, data2 => R0 (G0 k0 hx0 k) hx0 n2 blockSize a b data2
theorem zg0 {R : Type} (k0 : Nat) (K : Kont R) : ∀ k : Nat, L0 k0 k K = G0 k0 (fun n2 blockSize a data2 => K (.exit 0) [(0, .own 0), (1, .int .i64 n2), (2, .fn 14 []), (6, .int .i64 blockSize), (7, .int .i64 a)] [.arr ct0 data2]) k := by
  intro k
  induction k with
  | zero => funext n2 blockSize a b data2; rfl
  | succ k ih => funext n2 blockSize a b data2; rw [zs0, G0]; (try simp only [ih]); try rfl
noncomputable def G2 {R : Type} (k0 : Nat) (hx2 : (Int → Int → Int → (List (Int × Int × Int × Int × Int × Int × Unit)) → Option R)) : Nat → Int → Int → Int → Int → (List (Int × Int × Int × Int × Int × Int × Unit)) → Option R
  | 0, _, _, _, _, _ => none
  | k + 1, n2, blockSize, a, b, data2 => R2 (G2 k0 hx2 k) hx2 n2 blockSize a b data2
theorem zg2 {R : Type} (k0 : Nat) (K : Kont R) : ∀ k : Nat, L2 k0 k K = G2 k0 (fun n2 blockSize a data2 => K (.exit 4) [(0, .own 0), (1, .int .i64 n2), (2, .fn 14 []), (6, .int .i64 blockSize), (7, .int .i64 a)] [.arr ct0 data2]) k := by
  intro k
  induction k with
  | zero => funext n2 blockSize a b data2; rfl
  | succ k ih => funext n2 blockSize a b data2; rw [zs2, G2]; (try simp only [ih, zg0]); try rfl
noncomputable def G1 {R : Type} (k0 : Nat) (hx1 : ((List (Int × Int × Int × Int × Int × Int × Unit)) → Option R)) : Nat → Int → Int → (List (Int × Int × Int × Int × Int × Int × Unit)) → Option R
  | 0, _, _, _ => none
  | k + 1, n2, blockSize, data2 => R1 hx1 (G2 k0 (A2 (G1 k0 hx1 k)) k0) n2 blockSize data2
theorem zg1 {R : Type} (k0 : Nat) (K : Kont R) : ∀ k : Nat, L1 k0 k K = G1 k0 (fun o0 => K (.exit 2) [] [.arr ct0 o0]) k := by
  intro k
  induction k with
  | zero => funext n2 blockSize data2; rfl
  | succ k ih => funext n2 blockSize data2; rw [zs1, G1]; (try simp only [ih, zg0, zg2, za2]); try rfl
noncomputable def FF (k0 : Nat) (data : List (Int × Int × Int × Int × Int × Int × Unit)) (n : Int) : Option ((List (Int × Int × Int × Int × Int × Int × Unit)) × Unit) := T (G0 k0 (A0 (G1 k0 (A1  data n) k0) data n) k0) data n
theorem zrun (k0 : Nat) (data : List (Int × Int × Int × Int × Int × Int × Unit)) (n : Int) : runFn Try.prog ztbl zcfg k0 18 ins_slices_stableCmpFunc_impl_Row_at_impl_ReportTop_1 outs_slices_stableCmpFunc_impl_Row_at_impl_ReportTop_1 [] (data, n, ()) = FF k0 data n := by
  rw [ztop, FF]; (try simp only [zg0, zg2, zg1, za0, za1]); try rfl
noncomputable def _root_.Go.Rv.F_slices_stableCmpFunc_impl_Row_at_impl_ReportTop_1 : (List (Int × Int × Int × Int × Int × Int × Unit)) × Int × Unit → Option ((List (Int × Int × Int × Int × Int × Int × Unit)) × Unit) := fun x => (fun (data : List (Int × Int × Int × Int × Int × Int × Unit)) (n : Int) => FF (300 + data.length) data n) x.1 x.2.1
theorem ztblOK : ∀ g fs S, ztbl g fs = some S → SumOK Dr Try.prog g S := by
  intro g fs S h
  unfold ztbl at h
  split at h
  · rename_i hc; obtain ⟨rfl, rfl⟩ := hc; have := Option.some.inj h; subst this; exact ok_slices_insertionSortCmpFunc_impl_Row_at_impl_ReportTop_1
  split at h
  · rename_i hc; obtain ⟨rfl, rfl⟩ := hc; have := Option.some.inj h; subst this; exact ok_slices_symMergeCmpFunc_impl_Row_at_impl_ReportTop_1
  cases h
theorem _root_.Go.Rv.ok_slices_stableCmpFunc_impl_Row_at_impl_ReportTop_1 : SumOK Dr Try.prog 18 ⟨ins_slices_stableCmpFunc_impl_Row_at_impl_ReportTop_1, outs_slices_stableCmpFunc_impl_Row_at_impl_ReportTop_1, F_slices_stableCmpFunc_impl_Row_at_impl_ReportTop_1, []⟩ := runFn_ok (by kernel_rfl) ztblOK (by kernel_rfl) fun x y h => ⟨zcfg, _, (zrun _ x.1 x.2.1).trans h⟩
end slices_stableCmpFunc_impl_Row_at_impl_ReportTop_1
abbrev ins_slices_SortStableFunc_impl_Row_impl_Row_at_impl_ReportTop_1 : List Par := [.w false [CT.sl ct0], .cl 14 []]
abbrev outs_slices_SortStableFunc_impl_Row_impl_Row_at_impl_ReportTop_1 : List (Bool × List CT) := []
namespace slices_SortStableFunc_impl_Row_impl_Row_at_impl_ReportTop_1
/-! ### slices.SortStableFunc[[]loop.example/g00095/impl.Row,loop.example/g00095/impl.Row] (function 13) -/
noncomputable def ztbl : Tbl := fun g fs => if g = 18 ∧ fs = [14] then some ⟨ins_slices_stableCmpFunc_impl_Row_at_impl_ReportTop_1, outs_slices_stableCmpFunc_impl_Row_at_impl_ReportTop_1, F_slices_stableCmpFunc_impl_Row_at_impl_ReportTop_1, []⟩ else none
noncomputable def zbody : Code := ((Try.prog.funcs[13]?).bind (·.body)).getD .skip
def zcfg : Nat → List Nat × List Nat := fun k => ([], [])
noncomputable def T  (x : List (Int × Int × Int × Int × Int × Int × Unit)) : Option ((List (Int × Int × Int × Int × Int × Int × Unit)) × Unit) := (F_slices_stableCmpFunc_impl_Row_at_impl_ReportTop_1 (x, (x.length : Int), ())).bind fun y1 => some (y1.1, ())
theorem ztop (k0 : Nat) (x : List (Int × Int × Int × Int × Int × Int × Unit)) : runFn Try.prog ztbl zcfg k0 13 ins_slices_SortStableFunc_impl_Row_impl_Row_at_impl_ReportTop_1 outs_slices_SortStableFunc_impl_Row_impl_Row_at_impl_ReportTop_1 [] (x, ()) = T  x := by kernel_rfl
noncomputable def _root_.Go.Rv.F_slices_SortStableFunc_impl_Row_impl_Row_at_impl_ReportTop_1 : (List (Int × Int × Int × Int × Int × Int × Unit)) × Unit → Option ((List (Int × Int × Int × Int × Int × Int × Unit)) × Unit) := fun x => T x.1
theorem ztblOK : ∀ g fs S, ztbl g fs = some S → SumOK Dr Try.prog g S := by
  intro g fs S h
  unfold ztbl at h
  split at h
  · rename_i hc; obtain ⟨rfl, rfl⟩ := hc; have := Option.some.inj h; subst this; exact ok_slices_stableCmpFunc_impl_Row_at_impl_ReportTop_1
  cases h
theorem _root_.Go.Rv.ok_slices_SortStableFunc_impl_Row_impl_Row_at_impl_ReportTop_1 : SumOK Dr Try.prog 13 ⟨ins_slices_SortStableFunc_impl_Row_impl_Row_at_impl_ReportTop_1, outs_slices_SortStableFunc_impl_Row_impl_Row_at_impl_ReportTop_1, F_slices_SortStableFunc_impl_Row_impl_Row_at_impl_ReportTop_1, []⟩ := runFn_ok (by kernel_rfl) ztblOK (by kernel_rfl) fun x y h => ⟨zcfg, 0, (ztop 0 x.1).trans h⟩
end slices_SortStableFunc_impl_Row_impl_Row_at_impl_ReportTop_1
abbrev ins_impl_ReportTop : List Par := [.v false [CT.sl ct0], .v false [CT.int .i64]]
abbrev outs_impl_ReportTop : List (Bool × List CT) := [(false, [CT.sl ct0])]
namespace impl_ReportTop
/-! ### loop.example/g00095/impl.ReportTop (function 7) -/
noncomputable def ztbl : Tbl := fun g fs => if g = 12 ∧ fs = [] then some ⟨ins_slices_Clone_impl_Row_impl_Row, outs_slices_Clone_impl_Row_impl_Row, F_slices_Clone_impl_Row_impl_Row, []⟩ else if g = 13 ∧ fs = [14] then some ⟨ins_slices_SortStableFunc_impl_Row_impl_Row_at_impl_ReportTop_1, outs_slices_SortStableFunc_impl_Row_impl_Row_at_impl_ReportTop_1, F_slices_SortStableFunc_impl_Row_impl_Row_at_impl_ReportTop_1, []⟩ else none
noncomputable def zbody : Code := ((Try.prog.funcs[7]?).bind (·.body)).getD .skip
def zcfg : Nat → List Nat × List Nat := fun k => ([], [])
noncomputable def T  (list : List (Int × Int × Int × Int × Int × Int × Unit)) (count : Int) : Option ((List (Int × Int × Int × Int × Int × Int × Unit)) × Unit) := cond (decide ((list.length : Int) > 400)) (some ([], ())) (cond (decide (count < 1)) (some ([], ())) ((F_slices_Clone_impl_Row_impl_Row (list, ())).bind fun y1 => (F_slices_SortStableFunc_impl_Row_impl_Row_at_impl_ReportTop_1 (y1.1, ())).bind fun y2 => if 0 ≤ (mn count (y2.1.length : Int)) ∧ (mn count (y2.1.length : Int)) ≤ (y2.1.length : Int) then if ((mn count (y2.1.length : Int)).toNat - 0) ≤ y2.1.length then some (y2.1.take ((mn count (y2.1.length : Int)).toNat - 0), ()) else none else none))
theorem ztop (k0 : Nat) (list : List (Int × Int × Int × Int × Int × Int × Unit)) (count : Int) : runFn Try.prog ztbl zcfg k0 7 ins_impl_ReportTop outs_impl_ReportTop [] (list, count, ()) = T  list count := by kernel_rfl
noncomputable def _root_.Go.Rv.F_impl_ReportTop : (List (Int × Int × Int × Int × Int × Int × Unit)) × Int × Unit → Option ((List (Int × Int × Int × Int × Int × Int × Unit)) × Unit) := fun x => T x.1 x.2.1
theorem ztblOK : ∀ g fs S, ztbl g fs = some S → SumOK Dr Try.prog g S := by
  intro g fs S h
  unfold ztbl at h
  split at h
  · rename_i hc; obtain ⟨rfl, rfl⟩ := hc; have := Option.some.inj h; subst this; exact ok_slices_Clone_impl_Row_impl_Row
  split at h
  · rename_i hc; obtain ⟨rfl, rfl⟩ := hc; have := Option.some.inj h; subst this; exact ok_slices_SortStableFunc_impl_Row_impl_Row_at_impl_ReportTop_1
  cases h
theorem _root_.Go.Rv.ok_impl_ReportTop : SumOK Dr Try.prog 7 ⟨ins_impl_ReportTop, outs_impl_ReportTop, F_impl_ReportTop, []⟩ := runFn_ok (by kernel_rfl) ztblOK (by kernel_rfl) fun x y h => ⟨zcfg, 0, (ztop 0 x.1 x.2.1).trans h⟩
end impl_ReportTop
abbrev ins_laws_eqRow : List Par := [.v true ct0, .v true ct0]
abbrev outs_laws_eqRow : List (Bool × List CT) := [(false, [CT.bool])]
namespace laws_eqRow
/-! ### loop.example/g00095/laws.eqRow (function 17) -/
noncomputable def ztbl : Tbl := fun g fs => none
noncomputable def zbody : Code := ((Try.prog.funcs[17]?).bind (·.body)).getD .skip
def zcfg : Nat → List Nat × List Nat := fun k => ([], [])
noncomputable def T  (a0 a1 a2 a3 a4 a5 b0 b1 b2 b3 b4 b5 : Int) : Option (Bool × Unit) := cond (a0 != b0) (some (false, ())) (cond (a1 != b1) (some (false, ())) (cond (a2 != b2) (some (false, ())) (cond (a3 != b3) (some (false, ())) (cond (a4 != b4) (some (false, ())) (cond (a5 != b5) (some (false, ())) (some (true, ())))))))
theorem ztop (k0 : Nat) (a0 a1 a2 a3 a4 a5 b0 b1 b2 b3 b4 b5 : Int) : runFn Try.prog ztbl zcfg k0 17 ins_laws_eqRow outs_laws_eqRow [] (a0, a1, a2, a3, a4, a5, b0, b1, b2, b3, b4, b5, ()) = T  a0 a1 a2 a3 a4 a5 b0 b1 b2 b3 b4 b5 := by kernel_rfl
noncomputable def _root_.Go.Rv.F_laws_eqRow : Int × Int × Int × Int × Int × Int × Int × Int × Int × Int × Int × Int × Unit → Option (Bool × Unit) := fun x => T x.1 x.2.1 x.2.2.1 x.2.2.2.1 x.2.2.2.2.1 x.2.2.2.2.2.1 x.2.2.2.2.2.2.1 x.2.2.2.2.2.2.2.1 x.2.2.2.2.2.2.2.2.1 x.2.2.2.2.2.2.2.2.2.1 x.2.2.2.2.2.2.2.2.2.2.1 x.2.2.2.2.2.2.2.2.2.2.2.1
theorem ztblOK : ∀ g fs S, ztbl g fs = some S → SumOK Dr Try.prog g S := by
  intro g fs S h
  unfold ztbl at h
  cases h
theorem _root_.Go.Rv.ok_laws_eqRow : SumOK Dr Try.prog 17 ⟨ins_laws_eqRow, outs_laws_eqRow, F_laws_eqRow, []⟩ := runFn_ok (by kernel_rfl) ztblOK (by kernel_rfl) fun x y h => ⟨zcfg, 0, (ztop 0 x.1 x.2.1 x.2.2.1 x.2.2.2.1 x.2.2.2.2.1 x.2.2.2.2.2.1 x.2.2.2.2.2.2.1 x.2.2.2.2.2.2.2.1 x.2.2.2.2.2.2.2.2.1 x.2.2.2.2.2.2.2.2.2.1 x.2.2.2.2.2.2.2.2.2.2.1 x.2.2.2.2.2.2.2.2.2.2.2.1).trans h⟩
end laws_eqRow
abbrev ins_laws_eqRowS : List Par := [.v false [CT.sl ct0], .v false [CT.sl ct0]]
abbrev outs_laws_eqRowS : List (Bool × List CT) := [(false, [CT.bool])]
namespace laws_eqRowS
/-! ### loop.example/g00095/laws.eqRowS (function 8) -/
noncomputable def ztbl : Tbl := fun g fs => if g = 17 ∧ fs = [] then some ⟨ins_laws_eqRow, outs_laws_eqRow, F_laws_eqRow, []⟩ else none
noncomputable def zbody : Code := ((Try.prog.funcs[8]?).bind (·.body)).getD .skip
def zcfg : Nat → List Nat × List Nat := fun k => if k = 4 then ([0, 1, 5], [4]) else ([], [])
noncomputable def R0 {R : Type} (nx0 : ((List (Int × Int × Int × Int × Int × Int × Unit)) → (List (Int × Int × Int × Int × Int × Int × Unit)) → Int → Option R)) (ex0 : (Bool → Option R)) (ex1 : (Unit → Option R)) (a2 b2 : List (Int × Int × Int × Int × Int × Int × Unit)) (i : Int) : Option R := cond (decide (i < (a2.length : Int))) (if 0 ≤ i ∧ i < (a2.length : Int) then if 0 ≤ i ∧ i < (b2.length : Int) then (F_laws_eqRow ((rd (0, 0, 0, 0, 0, 0, ()) a2 i).1, (rd (0, 0, 0, 0, 0, 0, ()) a2 i).2.1, (rd (0, 0, 0, 0, 0, 0, ()) a2 i).2.2.1, (rd (0, 0, 0, 0, 0, 0, ()) a2 i).2.2.2.1, (rd (0, 0, 0, 0, 0, 0, ()) a2 i).2.2.2.2.1, (rd (0, 0, 0, 0, 0, 0, ()) a2 i).2.2.2.2.2.1, (rd (0, 0, 0, 0, 0, 0, ()) b2 i).1, (rd (0, 0, 0, 0, 0, 0, ()) b2 i).2.1, (rd (0, 0, 0, 0, 0, 0, ()) b2 i).2.2.1, (rd (0, 0, 0, 0, 0, 0, ()) b2 i).2.2.2.1, (rd (0, 0, 0, 0, 0, 0, ()) b2 i).2.2.2.2.1, (rd (0, 0, 0, 0, 0, 0, ()) b2 i).2.2.2.2.2.1, ())).bind fun y1 => cond (!y1.1) (ex0 false) (nx0 a2 b2 (w64 (i + 1))) else none else none) (ex1 ())
noncomputable def A0  (a b : List (Int × Int × Int × Int × Int × Int × Unit)) (t4x : Bool) : Option (Bool × Unit) := some (t4x, ())
noncomputable def A1  (a b : List (Int × Int × Int × Int × Int × Int × Unit)) (_u : Unit) : Option (Bool × Unit) := some (true, ())
noncomputable def T (lo0 : ((List (Int × Int × Int × Int × Int × Int × Unit)) → (List (Int × Int × Int × Int × Int × Int × Unit)) → Int → Option (Bool × Unit))) (a b : List (Int × Int × Int × Int × Int × Int × Unit)) : Option (Bool × Unit) := cond ((a.length : Int) != (b.length : Int)) (some (false, ())) (lo0 a b 0)
noncomputable def zst0 {R : Type} (k0 : Nat) : Env → List Ob → Kont R → Option R := fun env ob K => runCode Try.prog ztbl 27 0 zcfg k0 (codeAt [1, 1, 0, 1, 0, 0] zbody) env ob K
noncomputable def K0 {R : Type} (k0 : Nat) (K : Kont R) : Kont R := blockK 0 (seqK (fun env ob => runCode Try.prog ztbl 27 0 zcfg k0 (codeAt [1, 1, 1] zbody) env ob (K)) (K))
noncomputable def L0 {R : Type} (k0 k : Nat) (K : Kont R) (a2 b2 : List (Int × Int × Int × Int × Int × Int × Unit)) (i : Int) : Option R := iter 0 [0, 1, 5] [4] (zst0 k0) k [(0, .sl ct0 a2), (1, .sl ct0 b2), (5, .int .i64 i)] [] K
theorem zs0 {R : Type} (k0 k : Nat) (K : Kont R) (a2 b2 : List (Int × Int × Int × Int × Int × Int × Unit)) (i : Int) : L0 k0 (k + 1) K a2 b2 i = R0 (L0 k0 k K) (fun t4x => K .ret [(4, .bool t4x)] []) (fun _ => K (.exit 0) [(4, .undef)] []) a2 b2 i := by kernel_rfl
theorem za0 (k0 : Nat) (a b : List (Int × Int × Int × Int × Int × Int × Unit)) (t4x : Bool) : K0 (R := (Bool × Unit)) k0 (finK Try.prog [.tmp 4] ins_laws_eqRowS outs_laws_eqRowS (a, b, ())) .ret [(4, .bool t4x)] [] = A0  a b t4x := by kernel_rfl
theorem za1 (k0 : Nat) (a b : List (Int × Int × Int × Int × Int × Int × Unit))  : K0 (R := (Bool × Unit)) k0 (finK Try.prog [.tmp 4] ins_laws_eqRowS outs_laws_eqRowS (a, b, ())) (.exit 0) [(4, .undef)] [] = A1  a b () := by kernel_rfl
theorem ztop (k0 : Nat) (a b : List (Int × Int × Int × Int × Int × Int × Unit)) : runFn Try.prog ztbl zcfg k0 8 ins_laws_eqRowS outs_laws_eqRowS [] (a, b, ()) = T (L0 (R := (Bool × Unit)) k0 k0 (K0 (R := (Bool × Unit)) k0 ((finK Try.prog [.tmp 4] ins_laws_eqRowS outs_laws_eqRowS (a, b, ()))))) a b := by kernel_rfl
noncomputable def G0 {R : Type} (k0 : Nat) (hx0 : (Bool → Option R)) (hx1 : (Unit → Option R)) : Nat → (List (Int × Int × Int × Int × Int × Int × Unit)) → (List (Int × Int × Int × Int × Int × Int × Unit)) → Int → Option R
  | 0, _, _, _ => none
  | k + 1, a2, b2, i => R0 (G0 k0 hx0 hx1 k) hx0 hx1 a2 b2 i
theorem zg0 {R : Type} (k0 : Nat) (K : Kont R) : ∀ k : Nat, L0 k0 k K = G0 k0 (fun t4x => K .ret [(4, .bool t4x)] []) (fun _ => K (.exit 0) [(4, .undef)] []) k := by
  intro k
  induction k with
  | zero => funext a2 b2 i; rfl
  | succ k ih => funext a2 b2 i; rw [zs0, G0]; (try simp only [ih]); try rfl
noncomputable def FF (k0 : Nat) (a b : List (Int × Int × Int × Int × Int × Int × Unit)) : Option (Bool × Unit) := T (G0 k0 (A0  a b) (A1  a b) k0) a b
theorem zrun (k0 : Nat) (a b : List (Int × Int × Int × Int × Int × Int × Unit)) : runFn Try.prog ztbl zcfg k0 8 ins_laws_eqRowS outs_laws_eqRowS [] (a, b, ()) = FF k0 a b := by
  rw [ztop, FF]; (try simp only [zg0, za0, za1]); try rfl
noncomputable def _root_.Go.Rv.F_laws_eqRowS : (List (Int × Int × Int × Int × Int × Int × Unit)) × (List (Int × Int × Int × Int × Int × Int × Unit)) × Unit → Option (Bool × Unit) := fun x => (fun (a b : List (Int × Int × Int × Int × Int × Int × Unit)) => FF (300 + a.length + b.length) a b) x.1 x.2.1
theorem ztblOK : ∀ g fs S, ztbl g fs = some S → SumOK Dr Try.prog g S := by
  intro g fs S h
  unfold ztbl at h
  split at h
  · rename_i hc; obtain ⟨rfl, rfl⟩ := hc; have := Option.some.inj h; subst this; exact ok_laws_eqRow
  cases h
theorem _root_.Go.Rv.ok_laws_eqRowS : SumOK Dr Try.prog 8 ⟨ins_laws_eqRowS, outs_laws_eqRowS, F_laws_eqRowS, []⟩ := runFn_ok (by kernel_rfl) ztblOK (by kernel_rfl) fun x y h => ⟨zcfg, _, (zrun _ x.1 x.2.1).trans h⟩
end laws_eqRowS
abbrev ins_laws_markRowS : List Par := [.w false [CT.sl ct0], .v false [CT.int .i64]]
abbrev outs_laws_markRowS : List (Bool × List CT) := [(false, [CT.int .i64])]
namespace laws_markRowS
/-! ### loop.example/g00095/laws.markRowS (function 9) -/
noncomputable def ztbl : Tbl := fun g fs => none
noncomputable def zbody : Code := ((Try.prog.funcs[9]?).bind (·.body)).getD .skip
def zcfg : Nat → List Nat × List Nat := fun k => if k = 2 then ([0, 1, 5], [1]) else ([], [])
noncomputable def R0 {R : Type} (nx0 : (Int → Int → (List (Int × Int × Int × Int × Int × Int × Unit)) → Option R)) (ex0 : (Int → (List (Int × Int × Int × Int × Int × Int × Unit)) → Option R)) (kx i : Int) (a2 : List (Int × Int × Int × Int × Int × Int × Unit)) : Option R := cond (decide (i < (a2.length : Int))) (if 0 ≤ i ∧ i < (a2.length : Int) then if 0 ≤ i ∧ i < ((a2.set i.toNat (ct0s0 (a2.getD i.toNat (0, 0, 0, 0, 0, 0, ())) kx)).length : Int) then if 0 ≤ i ∧ i < (((a2.set i.toNat (ct0s0 (a2.getD i.toNat (0, 0, 0, 0, 0, 0, ())) kx)).set i.toNat (ct0s1 ((a2.set i.toNat (ct0s0 (a2.getD i.toNat (0, 0, 0, 0, 0, 0, ())) kx)).getD i.toNat (0, 0, 0, 0, 0, 0, ())) (w64 (kx + 1)))).length : Int) then if 0 ≤ i ∧ i < ((((a2.set i.toNat (ct0s0 (a2.getD i.toNat (0, 0, 0, 0, 0, 0, ())) kx)).set i.toNat (ct0s1 ((a2.set i.toNat (ct0s0 (a2.getD i.toNat (0, 0, 0, 0, 0, 0, ())) kx)).getD i.toNat (0, 0, 0, 0, 0, 0, ())) (w64 (kx + 1)))).set i.toNat (ct0s2 (((a2.set i.toNat (ct0s0 (a2.getD i.toNat (0, 0, 0, 0, 0, 0, ())) kx)).set i.toNat (ct0s1 ((a2.set i.toNat (ct0s0 (a2.getD i.toNat (0, 0, 0, 0, 0, 0, ())) kx)).getD i.toNat (0, 0, 0, 0, 0, 0, ())) (w64 (kx + 1)))).getD i.toNat (0, 0, 0, 0, 0, 0, ())) (w64 ((w64 (kx + 1)) + 1)))).length : Int) then if 0 ≤ i ∧ i < (((((a2.set i.toNat (ct0s0 (a2.getD i.toNat (0, 0, 0, 0, 0, 0, ())) kx)).set i.toNat (ct0s1 ((a2.set i.toNat (ct0s0 (a2.getD i.toNat (0, 0, 0, 0, 0, 0, ())) kx)).getD i.toNat (0, 0, 0, 0, 0, 0, ())) (w64 (kx + 1)))).set i.toNat (ct0s2 (((a2.set i.toNat (ct0s0 (a2.getD i.toNat (0, 0, 0, 0, 0, 0, ())) kx)).set i.toNat (ct0s1 ((a2.set i.toNat (ct0s0 (a2.getD i.toNat (0, 0, 0, 0, 0, 0, ())) kx)).getD i.toNat (0, 0, 0, 0, 0, 0, ())) (w64 (kx + 1)))).getD i.toNat (0, 0, 0, 0, 0, 0, ())) (w64 ((w64 (kx + 1)) + 1)))).set i.toNat (ct0s3 ((((a2.set i.toNat (ct0s0 (a2.getD i.toNat (0, 0, 0, 0, 0, 0, ())) kx)).set i.toNat (ct0s1 ((a2.set i.toNat (ct0s0 (a2.getD i.toNat (0, 0, 0, 0, 0, 0, ())) kx)).getD i.toNat (0, 0, 0, 0, 0, 0, ())) (w64 (kx + 1)))).set i.toNat (ct0s2 (((a2.set i.toNat (ct0s0 (a2.getD i.toNat (0, 0, 0, 0, 0, 0, ())) kx)).set i.toNat (ct0s1 ((a2.set i.toNat (ct0s0 (a2.getD i.toNat (0, 0, 0, 0, 0, 0, ())) kx)).getD i.toNat (0, 0, 0, 0, 0, 0, ())) (w64 (kx + 1)))).getD i.toNat (0, 0, 0, 0, 0, 0, ())) (w64 ((w64 (kx + 1)) + 1)))).getD i.toNat (0, 0, 0, 0, 0, 0, ())) (w64 ((w64 ((w64 (kx + 1)) + 1)) + 1)))).length : Int) then if 0 ≤ i ∧ i < ((((((a2.set i.toNat (ct0s0 (a2.getD i.toNat (0, 0, 0, 0, 0, 0, ())) kx)).set i.toNat (ct0s1 ((a2.set i.toNat (ct0s0 (a2.getD i.toNat (0, 0, 0, 0, 0, 0, ())) kx)).getD i.toNat (0, 0, 0, 0, 0, 0, ())) (w64 (kx + 1)))).set i.toNat (ct0s2 (((a2.set i.toNat (ct0s0 (a2.getD i.toNat (0, 0, 0, 0, 0, 0, ())) kx)).set i.toNat (ct0s1 ((a2.set i.toNat (ct0s0 (a2.getD i.toNat (0, 0, 0, 0, 0, 0, ())) kx)).getD i.toNat (0, 0, 0, 0, 0, 0, ())) (w64 (kx + 1)))).getD i.toNat (0, 0, 0, 0, 0, 0, ())) (w64 ((w64 (kx + 1)) + 1)))).set i.toNat (ct0s3 ((((a2.set i.toNat (ct0s0 (a2.getD i.toNat (0, 0, 0, 0, 0, 0, ())) kx)).set i.toNat (ct0s1 ((a2.set i.toNat (ct0s0 (a2.getD i.toNat (0, 0, 0, 0, 0, 0, ())) kx)).getD i.toNat (0, 0, 0, 0, 0, 0, ())) (w64 (kx + 1)))).set i.toNat (ct0s2 (((a2.set i.toNat (ct0s0 (a2.getD i.toNat (0, 0, 0, 0, 0, 0, ())) kx)).set i.toNat (ct0s1 ((a2.set i.toNat (ct0s0 (a2.getD i.toNat (0, 0, 0, 0, 0, 0, ())) kx)).getD i.toNat (0, 0, 0, 0, 0, 0, ())) (w64 (kx + 1)))).getD i.toNat (0, 0, 0, 0, 0, 0, ())) (w64 ((w64 (kx + 1)) + 1)))).getD i.toNat (0, 0, 0, 0, 0, 0, ())) (w64 ((w64 ((w64 (kx + 1)) + 1)) + 1)))).set i.toNat (ct0s4 (((((a2.set i.toNat (ct0s0 (a2.getD i.toNat (0, 0, 0, 0, 0, 0, ())) kx)).set i.toNat (ct0s1 ((a2.set i.toNat (ct0s0 (a2.getD i.toNat (0, 0, 0, 0, 0, 0, ())) kx)).getD i.toNat (0, 0, 0, 0, 0, 0, ())) (w64 (kx + 1)))).set i.toNat (ct0s2 (((a2.set i.toNat (ct0s0 (a2.getD i.toNat (0, 0, 0, 0, 0, 0, ())) kx)).set i.toNat (ct0s1 ((a2.set i.toNat (ct0s0 (a2.getD i.toNat (0, 0, 0, 0, 0, 0, ())) kx)).getD i.toNat (0, 0, 0, 0, 0, 0, ())) (w64 (kx + 1)))).getD i.toNat (0, 0, 0, 0, 0, 0, ())) (w64 ((w64 (kx + 1)) + 1)))).set i.toNat (ct0s3 ((((a2.set i.toNat (ct0s0 (a2.getD i.toNat (0, 0, 0, 0, 0, 0, ())) kx)).set i.toNat (ct0s1 ((a2.set i.toNat (ct0s0 (a2.getD i.toNat (0, 0, 0, 0, 0, 0, ())) kx)).getD i.toNat (0, 0, 0, 0, 0, 0, ())) (w64 (kx + 1)))).set i.toNat (ct0s2 (((a2.set i.toNat (ct0s0 (a2.getD i.toNat (0, 0, 0, 0, 0, 0, ())) kx)).set i.toNat (ct0s1 ((a2.set i.toNat (ct0s0 (a2.getD i.toNat (0, 0, 0, 0, 0, 0, ())) kx)).getD i.toNat (0, 0, 0, 0, 0, 0, ())) (w64 (kx + 1)))).getD i.toNat (0, 0, 0, 0, 0, 0, ())) (w64 ((w64 (kx + 1)) + 1)))).getD i.toNat (0, 0, 0, 0, 0, 0, ())) (w64 ((w64 ((w64 (kx + 1)) + 1)) + 1)))).getD i.toNat (0, 0, 0, 0, 0, 0, ())) (w64 ((w64 ((w64 ((w64 (kx + 1)) + 1)) + 1)) + 1)))).length : Int) then nx0 (w64 ((w64 ((w64 ((w64 ((w64 ((w64 (kx + 1)) + 1)) + 1)) + 1)) + 1)) + 1)) (w64 (i + 1)) ((((((a2.set i.toNat (ct0s0 (a2.getD i.toNat (0, 0, 0, 0, 0, 0, ())) kx)).set i.toNat (ct0s1 ((a2.set i.toNat (ct0s0 (a2.getD i.toNat (0, 0, 0, 0, 0, 0, ())) kx)).getD i.toNat (0, 0, 0, 0, 0, 0, ())) (w64 (kx + 1)))).set i.toNat (ct0s2 (((a2.set i.toNat (ct0s0 (a2.getD i.toNat (0, 0, 0, 0, 0, 0, ())) kx)).set i.toNat (ct0s1 ((a2.set i.toNat (ct0s0 (a2.getD i.toNat (0, 0, 0, 0, 0, 0, ())) kx)).getD i.toNat (0, 0, 0, 0, 0, 0, ())) (w64 (kx + 1)))).getD i.toNat (0, 0, 0, 0, 0, 0, ())) (w64 ((w64 (kx + 1)) + 1)))).set i.toNat (ct0s3 ((((a2.set i.toNat (ct0s0 (a2.getD i.toNat (0, 0, 0, 0, 0, 0, ())) kx)).set i.toNat (ct0s1 ((a2.set i.toNat (ct0s0 (a2.getD i.toNat (0, 0, 0, 0, 0, 0, ())) kx)).getD i.toNat (0, 0, 0, 0, 0, 0, ())) (w64 (kx + 1)))).set i.toNat (ct0s2 (((a2.set i.toNat (ct0s0 (a2.getD i.toNat (0, 0, 0, 0, 0, 0, ())) kx)).set i.toNat (ct0s1 ((a2.set i.toNat (ct0s0 (a2.getD i.toNat (0, 0, 0, 0, 0, 0, ())) kx)).getD i.toNat (0, 0, 0, 0, 0, 0, ())) (w64 (kx + 1)))).getD i.toNat (0, 0, 0, 0, 0, 0, ())) (w64 ((w64 (kx + 1)) + 1)))).getD i.toNat (0, 0, 0, 0, 0, 0, ())) (w64 ((w64 ((w64 (kx + 1)) + 1)) + 1)))).set i.toNat (ct0s4 (((((a2.set i.toNat (ct0s0 (a2.getD i.toNat (0, 0, 0, 0, 0, 0, ())) kx)).set i.toNat (ct0s1 ((a2.set i.toNat (ct0s0 (a2.getD i.toNat (0, 0, 0, 0, 0, 0, ())) kx)).getD i.toNat (0, 0, 0, 0, 0, 0, ())) (w64 (kx + 1)))).set i.toNat (ct0s2 (((a2.set i.toNat (ct0s0 (a2.getD i.toNat (0, 0, 0, 0, 0, 0, ())) kx)).set i.toNat (ct0s1 ((a2.set i.toNat (ct0s0 (a2.getD i.toNat (0, 0, 0, 0, 0, 0, ())) kx)).getD i.toNat (0, 0, 0, 0, 0, 0, ())) (w64 (kx + 1)))).getD i.toNat (0, 0, 0, 0, 0, 0, ())) (w64 ((w64 (kx + 1)) + 1)))).set i.toNat (ct0s3 ((((a2.set i.toNat (ct0s0 (a2.getD i.toNat (0, 0, 0, 0, 0, 0, ())) kx)).set i.toNat (ct0s1 ((a2.set i.toNat (ct0s0 (a2.getD i.toNat (0, 0, 0, 0, 0, 0, ())) kx)).getD i.toNat (0, 0, 0, 0, 0, 0, ())) (w64 (kx + 1)))).set i.toNat (ct0s2 (((a2.set i.toNat (ct0s0 (a2.getD i.toNat (0, 0, 0, 0, 0, 0, ())) kx)).set i.toNat (ct0s1 ((a2.set i.toNat (ct0s0 (a2.getD i.toNat (0, 0, 0, 0, 0, 0, ())) kx)).getD i.toNat (0, 0, 0, 0, 0, 0, ())) (w64 (kx + 1)))).getD i.toNat (0, 0, 0, 0, 0, 0, ())) (w64 ((w64 (kx + 1)) + 1)))).getD i.toNat (0, 0, 0, 0, 0, 0, ())) (w64 ((w64 ((w64 (kx + 1)) + 1)) + 1)))).getD i.toNat (0, 0, 0, 0, 0, 0, ())) (w64 ((w64 ((w64 ((w64 (kx + 1)) + 1)) + 1)) + 1)))).set i.toNat (ct0s5 ((((((a2.set i.toNat (ct0s0 (a2.getD i.toNat (0, 0, 0, 0, 0, 0, ())) kx)).set i.toNat (ct0s1 ((a2.set i.toNat (ct0s0 (a2.getD i.toNat (0, 0, 0, 0, 0, 0, ())) kx)).getD i.toNat (0, 0, 0, 0, 0, 0, ())) (w64 (kx + 1)))).set i.toNat (ct0s2 (((a2.set i.toNat (ct0s0 (a2.getD i.toNat (0, 0, 0, 0, 0, 0, ())) kx)).set i.toNat (ct0s1 ((a2.set i.toNat (ct0s0 (a2.getD i.toNat (0, 0, 0, 0, 0, 0, ())) kx)).getD i.toNat (0, 0, 0, 0, 0, 0, ())) (w64 (kx + 1)))).getD i.toNat (0, 0, 0, 0, 0, 0, ())) (w64 ((w64 (kx + 1)) + 1)))).set i.toNat (ct0s3 ((((a2.set i.toNat (ct0s0 (a2.getD i.toNat (0, 0, 0, 0, 0, 0, ())) kx)).set i.toNat (ct0s1 ((a2.set i.toNat (ct0s0 (a2.getD i.toNat (0, 0, 0, 0, 0, 0, ())) kx)).getD i.toNat (0, 0, 0, 0, 0, 0, ())) (w64 (kx + 1)))).set i.toNat (ct0s2 (((a2.set i.toNat (ct0s0 (a2.getD i.toNat (0, 0, 0, 0, 0, 0, ())) kx)).set i.toNat (ct0s1 ((a2.set i.toNat (ct0s0 (a2.getD i.toNat (0, 0, 0, 0, 0, 0, ())) kx)).getD i.toNat (0, 0, 0, 0, 0, 0, ())) (w64 (kx + 1)))).getD i.toNat (0, 0, 0, 0, 0, 0, ())) (w64 ((w64 (kx + 1)) + 1)))).getD i.toNat (0, 0, 0, 0, 0, 0, ())) (w64 ((w64 ((w64 (kx + 1)) + 1)) + 1)))).set i.toNat (ct0s4 (((((a2.set i.toNat (ct0s0 (a2.getD i.toNat (0, 0, 0, 0, 0, 0, ())) kx)).set i.toNat (ct0s1 ((a2.set i.toNat (ct0s0 (a2.getD i.toNat (0, 0, 0, 0, 0, 0, ())) kx)).getD i.toNat (0, 0, 0, 0, 0, 0, ())) (w64 (kx + 1)))).set i.toNat (ct0s2 (((a2.set i.toNat (ct0s0 (a2.getD i.toNat (0, 0, 0, 0, 0, 0, ())) kx)).set i.toNat (ct0s1 ((a2.set i.toNat (ct0s0 (a2.getD i.toNat (0, 0, 0, 0, 0, 0, ())) kx)).getD i.toNat (0, 0, 0, 0, 0, 0, ())) (w64 (kx + 1)))).getD i.toNat (0, 0, 0, 0, 0, 0, ())) (w64 ((w64 (kx + 1)) + 1)))).set i.toNat (ct0s3 ((((a2.set i.toNat (ct0s0 (a2.getD i.toNat (0, 0, 0, 0, 0, 0, ())) kx)).set i.toNat (ct0s1 ((a2.set i.toNat (ct0s0 (a2.getD i.toNat (0, 0, 0, 0, 0, 0, ())) kx)).getD i.toNat (0, 0, 0, 0, 0, 0, ())) (w64 (kx + 1)))).set i.toNat (ct0s2 (((a2.set i.toNat (ct0s0 (a2.getD i.toNat (0, 0, 0, 0, 0, 0, ())) kx)).set i.toNat (ct0s1 ((a2.set i.toNat (ct0s0 (a2.getD i.toNat (0, 0, 0, 0, 0, 0, ())) kx)).getD i.toNat (0, 0, 0, 0, 0, 0, ())) (w64 (kx + 1)))).getD i.toNat (0, 0, 0, 0, 0, 0, ())) (w64 ((w64 (kx + 1)) + 1)))).getD i.toNat (0, 0, 0, 0, 0, 0, ())) (w64 ((w64 ((w64 (kx + 1)) + 1)) + 1)))).getD i.toNat (0, 0, 0, 0, 0, 0, ())) (w64 ((w64 ((w64 ((w64 (kx + 1)) + 1)) + 1)) + 1)))).getD i.toNat (0, 0, 0, 0, 0, 0, ())) (w64 ((w64 ((w64 ((w64 ((w64 (kx + 1)) + 1)) + 1)) + 1)) + 1)))) else none else none else none else none else none else none) (ex0 kx a2)
noncomputable def A0  (a : List (Int × Int × Int × Int × Int × Int × Unit)) (ak : Int) (kx : Int) (o0 : List (Int × Int × Int × Int × Int × Int × Unit)) : Option (Int × (List (Int × Int × Int × Int × Int × Int × Unit)) × Unit) := some (kx, o0, ())
noncomputable def T (lo0 : (Int → Int → (List (Int × Int × Int × Int × Int × Int × Unit)) → Option (Int × (List (Int × Int × Int × Int × Int × Int × Unit)) × Unit))) (a : List (Int × Int × Int × Int × Int × Int × Unit)) (ak : Int) : Option (Int × (List (Int × Int × Int × Int × Int × Int × Unit)) × Unit) := lo0 ak 0 a
noncomputable def zst0 {R : Type} (k0 : Nat) : Env → List Ob → Kont R → Option R := fun env ob K => runCode Try.prog ztbl 55 1 zcfg k0 (codeAt [1, 0, 1, 0, 0] zbody) env ob K
noncomputable def K0 {R : Type} (k0 : Nat) (K : Kont R) : Kont R := blockK 0 (seqK (fun env ob => runCode Try.prog ztbl 55 1 zcfg k0 (codeAt [1, 1] zbody) env ob (K)) (K))
noncomputable def L0 {R : Type} (k0 k : Nat) (K : Kont R) (kx i : Int) (a2 : List (Int × Int × Int × Int × Int × Int × Unit)) : Option R := iter 1 [0, 1, 5] [1] (zst0 k0) k [(0, .own 0), (1, .int .i64 kx), (5, .int .i64 i)] [.arr ct0 a2] K
theorem zs0 {R : Type} (k0 k : Nat) (K : Kont R) (kx i : Int) (a2 : List (Int × Int × Int × Int × Int × Int × Unit)) : L0 k0 (k + 1) K kx i a2 = R0 (L0 k0 k K) (fun kx o0 => K (.exit 0) [(1, .int .i64 kx)] [.arr ct0 o0]) kx i a2 := by kernel_rfl
theorem za0 (k0 : Nat) (a : List (Int × Int × Int × Int × Int × Int × Unit)) (ak : Int) (kx : Int) (o0 : List (Int × Int × Int × Int × Int × Int × Unit)) : K0 (R := (Int × (List (Int × Int × Int × Int × Int × Int × Unit)) × Unit)) k0 (finK Try.prog [.tmp 4] ins_laws_markRowS outs_laws_markRowS (a, ak, ())) (.exit 0) [(1, .int .i64 kx)] [.arr ct0 o0] = A0  a ak kx o0 := by kernel_rfl
theorem ztop (k0 : Nat) (a : List (Int × Int × Int × Int × Int × Int × Unit)) (ak : Int) : runFn Try.prog ztbl zcfg k0 9 ins_laws_markRowS outs_laws_markRowS [] (a, ak, ()) = T (L0 (R := (Int × (List (Int × Int × Int × Int × Int × Int × Unit)) × Unit)) k0 k0 (K0 (R := (Int × (List (Int × Int × Int × Int × Int × Int × Unit)) × Unit)) k0 ((finK Try.prog [.tmp 4] ins_laws_markRowS outs_laws_markRowS (a, ak, ()))))) a ak := by kernel_rfl
noncomputable def G0 {R : Type} (k0 : Nat) (hx0 : (Int → (List (Int × Int × Int × Int × Int × Int × Unit)) → Option R)) : Nat → Int → Int → (List (Int × Int × Int × Int × Int × Int × Unit)) → Option R
  | 0, _, _, _ => none
  | k + 1, kx, i, a2 => R0 (G0 k0 hx0 k) hx0 kx i a2
theorem zg0 {R : Type} (k0 : Nat) (K : Kont R) : ∀ k : Nat, L0 k0 k K = G0 k0 (fun kx o0 => K (.exit 0) [(1, .int .i64 kx)] [.arr ct0 o0]) k := by
  intro k
  induction k with
  | zero => funext kx i a2; rfl
  | succ k ih => funext kx i a2; rw [zs0, G0]; (try simp only [ih]); try rfl
noncomputable def FF (k0 : Nat) (a : List (Int × Int × Int × Int × Int × Int × Unit)) (ak : Int) : Option (Int × (List (Int × Int × Int × Int × Int × Int × Unit)) × Unit) := T (G0 k0 (A0  a ak) k0) a ak
theorem zrun (k0 : Nat) (a : List (Int × Int × Int × Int × Int × Int × Unit)) (ak : Int) : runFn Try.prog ztbl zcfg k0 9 ins_laws_markRowS outs_laws_markRowS [] (a, ak, ()) = FF k0 a ak := by
  rw [ztop, FF]; (try simp only [zg0, za0]); try rfl
noncomputable def _root_.Go.Rv.F_laws_markRowS : (List (Int × Int × Int × Int × Int × Int × Unit)) × Int × Unit → Option (Int × (List (Int × Int × Int × Int × Int × Int × Unit)) × Unit) := fun x => (fun (a : List (Int × Int × Int × Int × Int × Int × Unit)) (ak : Int) => FF (300 + a.length) a ak) x.1 x.2.1
theorem ztblOK : ∀ g fs S, ztbl g fs = some S → SumOK Dr Try.prog g S := by
  intro g fs S h
  unfold ztbl at h
  cases h
theorem _root_.Go.Rv.ok_laws_markRowS : SumOK Dr Try.prog 9 ⟨ins_laws_markRowS, outs_laws_markRowS, F_laws_markRowS, []⟩ := runFn_ok (by kernel_rfl) ztblOK (by kernel_rfl) fun x y h => ⟨zcfg, _, (zrun _ x.1 x.2.1).trans h⟩
end laws_markRowS
abbrev ins_laws_heldRowS : List Par := [.v false [CT.sl ct0], .v false [CT.int .i64]]
abbrev outs_laws_heldRowS : List (Bool × List CT) := [(false, [CT.int .i64])]
namespace laws_heldRowS
/-! ### loop.example/g00095/laws.heldRowS (function 10) -/
noncomputable def ztbl : Tbl := fun g fs => none
noncomputable def zbody : Code := ((Try.prog.funcs[10]?).bind (·.body)).getD .skip
def zcfg : Nat → List Nat × List Nat := fun k => if k = 2 then ([0, 1, 5], [1, 4]) else ([], [])
noncomputable def R0 {R : Type} (nx0 : ((List (Int × Int × Int × Int × Int × Int × Unit)) → Int → Int → Option R)) (ex0 : (Int → Int → Option R)) (ex1 : (Int → Option R)) (a2 : List (Int × Int × Int × Int × Int × Int × Unit)) (kx i : Int) : Option R := cond (decide (i < (a2.length : Int))) (if 0 ≤ i ∧ i < (a2.length : Int) then cond ((rd (0, 0, 0, 0, 0, 0, ()) a2 i).1 != kx) (ex0 kx (-1)) (if 0 ≤ i ∧ i < (a2.length : Int) then cond ((rd (0, 0, 0, 0, 0, 0, ()) a2 i).2.1 != (w64 (kx + 1))) (ex0 (w64 (kx + 1)) (-1)) (if 0 ≤ i ∧ i < (a2.length : Int) then cond ((rd (0, 0, 0, 0, 0, 0, ()) a2 i).2.2.1 != (w64 ((w64 (kx + 1)) + 1))) (ex0 (w64 ((w64 (kx + 1)) + 1)) (-1)) (if 0 ≤ i ∧ i < (a2.length : Int) then cond ((rd (0, 0, 0, 0, 0, 0, ()) a2 i).2.2.2.1 != (w64 ((w64 ((w64 (kx + 1)) + 1)) + 1))) (ex0 (w64 ((w64 ((w64 (kx + 1)) + 1)) + 1)) (-1)) (if 0 ≤ i ∧ i < (a2.length : Int) then cond ((rd (0, 0, 0, 0, 0, 0, ()) a2 i).2.2.2.2.1 != (w64 ((w64 ((w64 ((w64 (kx + 1)) + 1)) + 1)) + 1))) (ex0 (w64 ((w64 ((w64 ((w64 (kx + 1)) + 1)) + 1)) + 1)) (-1)) (if 0 ≤ i ∧ i < (a2.length : Int) then cond ((rd (0, 0, 0, 0, 0, 0, ()) a2 i).2.2.2.2.2.1 != (w64 ((w64 ((w64 ((w64 ((w64 (kx + 1)) + 1)) + 1)) + 1)) + 1))) (ex0 (w64 ((w64 ((w64 ((w64 ((w64 (kx + 1)) + 1)) + 1)) + 1)) + 1)) (-1)) (nx0 a2 (w64 ((w64 ((w64 ((w64 ((w64 ((w64 (kx + 1)) + 1)) + 1)) + 1)) + 1)) + 1)) (w64 (i + 1))) else none) else none) else none) else none) else none) else none) (ex1 kx)
noncomputable def A0  (a : List (Int × Int × Int × Int × Int × Int × Unit)) (ak : Int) (kx t4x : Int) : Option (Int × Unit) := some (t4x, ())
noncomputable def A1  (a : List (Int × Int × Int × Int × Int × Int × Unit)) (ak : Int) (kx : Int) : Option (Int × Unit) := some (kx, ())
noncomputable def T (lo0 : ((List (Int × Int × Int × Int × Int × Int × Unit)) → Int → Int → Option (Int × Unit))) (a : List (Int × Int × Int × Int × Int × Int × Unit)) (ak : Int) : Option (Int × Unit) := lo0 a ak 0
noncomputable def zst0 {R : Type} (k0 : Nat) : Env → List Ob → Kont R → Option R := fun env ob K => runCode Try.prog ztbl 67 0 zcfg k0 (codeAt [1, 0, 1, 0, 0] zbody) env ob K
noncomputable def K0 {R : Type} (k0 : Nat) (K : Kont R) : Kont R := blockK 0 (seqK (fun env ob => runCode Try.prog ztbl 67 0 zcfg k0 (codeAt [1, 1] zbody) env ob (K)) (K))
noncomputable def L0 {R : Type} (k0 k : Nat) (K : Kont R) (a2 : List (Int × Int × Int × Int × Int × Int × Unit)) (kx i : Int) : Option R := iter 0 [0, 1, 5] [1, 4] (zst0 k0) k [(0, .sl ct0 a2), (1, .int .i64 kx), (5, .int .i64 i)] [] K
theorem zs0 {R : Type} (k0 k : Nat) (K : Kont R) (a2 : List (Int × Int × Int × Int × Int × Int × Unit)) (kx i : Int) : L0 k0 (k + 1) K a2 kx i = R0 (L0 k0 k K) (fun kx t4x => K .ret [(1, .int .i64 kx), (4, .int .i64 t4x)] []) (fun kx => K (.exit 0) [(1, .int .i64 kx), (4, .undef)] []) a2 kx i := by kernel_rfl
theorem za0 (k0 : Nat) (a : List (Int × Int × Int × Int × Int × Int × Unit)) (ak : Int) (kx t4x : Int) : K0 (R := (Int × Unit)) k0 (finK Try.prog [.tmp 4] ins_laws_heldRowS outs_laws_heldRowS (a, ak, ())) .ret [(1, .int .i64 kx), (4, .int .i64 t4x)] [] = A0  a ak kx t4x := by kernel_rfl
theorem za1 (k0 : Nat) (a : List (Int × Int × Int × Int × Int × Int × Unit)) (ak : Int) (kx : Int) : K0 (R := (Int × Unit)) k0 (finK Try.prog [.tmp 4] ins_laws_heldRowS outs_laws_heldRowS (a, ak, ())) (.exit 0) [(1, .int .i64 kx), (4, .undef)] [] = A1  a ak kx := by kernel_rfl
theorem ztop (k0 : Nat) (a : List (Int × Int × Int × Int × Int × Int × Unit)) (ak : Int) : runFn Try.prog ztbl zcfg k0 10 ins_laws_heldRowS outs_laws_heldRowS [] (a, ak, ()) = T (L0 (R := (Int × Unit)) k0 k0 (K0 (R := (Int × Unit)) k0 ((finK Try.prog [.tmp 4] ins_laws_heldRowS outs_laws_heldRowS (a, ak, ()))))) a ak := by kernel_rfl
noncomputable def G0 {R : Type} (k0 : Nat) (hx0 : (Int → Int → Option R)) (hx1 : (Int → Option R)) : Nat → (List (Int × Int × Int × Int × Int × Int × Unit)) → Int → Int → Option R
  | 0, _, _, _ => none
  | k + 1, a2, kx, i => R0 (G0 k0 hx0 hx1 k) hx0 hx1 a2 kx i
theorem zg0 {R : Type} (k0 : Nat) (K : Kont R) : ∀ k : Nat, L0 k0 k K = G0 k0 (fun kx t4x => K .ret [(1, .int .i64 kx), (4, .int .i64 t4x)] []) (fun kx => K (.exit 0) [(1, .int .i64 kx), (4, .undef)] []) k := by
  intro k
  induction k with
  | zero => funext a2 kx i; rfl
  | succ k ih => funext a2 kx i; rw [zs0, G0]; (try simp only [ih]); try rfl
noncomputable def FF (k0 : Nat) (a : List (Int × Int × Int × Int × Int × Int × Unit)) (ak : Int) : Option (Int × Unit) := T (G0 k0 (A0  a ak) (A1  a ak) k0) a ak
theorem zrun (k0 : Nat) (a : List (Int × Int × Int × Int × Int × Int × Unit)) (ak : Int) : runFn Try.prog ztbl zcfg k0 10 ins_laws_heldRowS outs_laws_heldRowS [] (a, ak, ()) = FF k0 a ak := by
  rw [ztop, FF]; (try simp only [zg0, za0, za1]); try rfl
noncomputable def _root_.Go.Rv.F_laws_heldRowS : (List (Int × Int × Int × Int × Int × Int × Unit)) × Int × Unit → Option (Int × Unit) := fun x => (fun (a : List (Int × Int × Int × Int × Int × Int × Unit)) (ak : Int) => FF (300 + a.length) a ak) x.1 x.2.1
theorem ztblOK : ∀ g fs S, ztbl g fs = some S → SumOK Dr Try.prog g S := by
  intro g fs S h
  unfold ztbl at h
  cases h
theorem _root_.Go.Rv.ok_laws_heldRowS : SumOK Dr Try.prog 10 ⟨ins_laws_heldRowS, outs_laws_heldRowS, F_laws_heldRowS, []⟩ := runFn_ok (by kernel_rfl) ztblOK (by kernel_rfl) fun x y h => ⟨zcfg, _, (zrun _ x.1 x.2.1).trans h⟩
end laws_heldRowS
abbrev ins_laws_FnExactReportTop : List Par := [.v false [CT.sl ct0], .v false [CT.int .i64]]
abbrev outs_laws_FnExactReportTop : List (Bool × List CT) := [(false, [CT.bool])]
namespace laws_FnExactReportTop
/-! ### loop.example/g00095/laws.FnExactReportTop (function 3) -/
noncomputable def ztbl : Tbl := fun g fs => if g = 4 ∧ fs = [] then some ⟨ins_laws_szRowS, outs_laws_szRowS, F_laws_szRowS, []⟩ else if g = 5 ∧ fs = [] then some ⟨ins_spec_ReportTop, outs_spec_ReportTop, F_spec_ReportTop, []⟩ else if g = 6 ∧ fs = [] then some ⟨ins_laws_toRowS, outs_laws_toRowS, F_laws_toRowS, []⟩ else if g = 7 ∧ fs = [] then some ⟨ins_impl_ReportTop, outs_impl_ReportTop, F_impl_ReportTop, []⟩ else if g = 8 ∧ fs = [] then some ⟨ins_laws_eqRowS, outs_laws_eqRowS, F_laws_eqRowS, []⟩ else if g = 9 ∧ fs = [] then some ⟨ins_laws_markRowS, outs_laws_markRowS, F_laws_markRowS, []⟩ else if g = 10 ∧ fs = [] then some ⟨ins_laws_heldRowS, outs_laws_heldRowS, F_laws_heldRowS, []⟩ else none
noncomputable def zbody : Code := ((Try.prog.funcs[3]?).bind (·.body)).getD .skip
def zcfg : Nat → List Nat × List Nat := fun k => ([], [])
noncomputable def T  (aList : List (Int × Int × Int × Int × Int × Int × Unit)) (aCount : Int) : Option (Bool × Unit) := (F_laws_szRowS (aList, 1048576, ())).bind fun y1 => cond (decide (y1.1 < 0)) (some (true, ())) ((F_laws_toRowS (aList, ())).bind fun y2 => (F_spec_ReportTop (y2.1, aCount, ())).bind fun y3 => (F_laws_toRowS (aList, ())).bind fun y4 => (F_impl_ReportTop (y4.1, aCount, ())).bind fun y5 => (F_laws_eqRowS (y5.1, y3.1, ())).bind fun y6 => cond (!y6.1) (some (false, ())) ((F_laws_toRowS (aList, ())).bind fun y7 => (F_laws_eqRowS (y4.1, y7.1, ())).bind fun y8 => cond (!y8.1) (some (false, ())) ((F_laws_markRowS (y4.1, 1, ())).bind fun y9 => cond (decide (y9.1 < 0)) (some (false, ())) ((F_laws_eqRowS (y5.1, y3.1, ())).bind fun y10 => cond (!y10.1) (some (false, ())) ((F_laws_markRowS (y5.1, 1, ())).bind fun y11 => (F_laws_heldRowS (y11.2.1, 1, ())).bind fun y12 => cond (decide (y12.1 < 0)) (some (false, ())) (cond (y12.1 != y11.1) (some (false, ())) ((F_laws_toRowS (aList, ())).bind fun y13 => (F_impl_ReportTop (y13.1, aCount, ())).bind fun y14 => (F_laws_eqRowS (y14.1, y3.1, ())).bind fun y15 => cond (!y15.1) (some (false, ())) ((F_laws_heldRowS (y11.2.1, 1, ())).bind fun y16 => cond (decide (y16.1 < 0)) (some (false, ())) (cond (y16.1 != y11.1) (some (false, ())) (some (true, ())))))))))))
theorem ztop (k0 : Nat) (aList : List (Int × Int × Int × Int × Int × Int × Unit)) (aCount : Int) : runFn Try.prog ztbl zcfg k0 3 ins_laws_FnExactReportTop outs_laws_FnExactReportTop [] (aList, aCount, ()) = T  aList aCount := by kernel_rfl
noncomputable def _root_.Go.Rv.F_laws_FnExactReportTop : (List (Int × Int × Int × Int × Int × Int × Unit)) × Int × Unit → Option (Bool × Unit) := fun x => T x.1 x.2.1
theorem ztblOK : ∀ g fs S, ztbl g fs = some S → SumOK Dr Try.prog g S := by
  intro g fs S h
  unfold ztbl at h
  split at h
  · rename_i hc; obtain ⟨rfl, rfl⟩ := hc; have := Option.some.inj h; subst this; exact ok_laws_szRowS
  split at h
  · rename_i hc; obtain ⟨rfl, rfl⟩ := hc; have := Option.some.inj h; subst this; exact ok_spec_ReportTop
  split at h
  · rename_i hc; obtain ⟨rfl, rfl⟩ := hc; have := Option.some.inj h; subst this; exact ok_laws_toRowS
  split at h
  · rename_i hc; obtain ⟨rfl, rfl⟩ := hc; have := Option.some.inj h; subst this; exact ok_impl_ReportTop
  split at h
  · rename_i hc; obtain ⟨rfl, rfl⟩ := hc; have := Option.some.inj h; subst this; exact ok_laws_eqRowS
  split at h
  · rename_i hc; obtain ⟨rfl, rfl⟩ := hc; have := Option.some.inj h; subst this; exact ok_laws_markRowS
  split at h
  · rename_i hc; obtain ⟨rfl, rfl⟩ := hc; have := Option.some.inj h; subst this; exact ok_laws_heldRowS
  cases h
theorem _root_.Go.Rv.ok_laws_FnExactReportTop : SumOK Dr Try.prog 3 ⟨ins_laws_FnExactReportTop, outs_laws_FnExactReportTop, F_laws_FnExactReportTop, []⟩ := runFn_ok (by kernel_rfl) ztblOK (by kernel_rfl) fun x y h => ⟨zcfg, 0, (ztop 0 x.1 x.2.1).trans h⟩
end laws_FnExactReportTop

end Go.Rv
