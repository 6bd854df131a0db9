/- What functions come to on pure values (printed by a program of ours). -/
import Derived.Test.YtnoanpohmppnaaaGreatDoorM07
set_option linter.unusedVariables false
set_option linter.unusedSimpArgs false
set_option linter.unusedSectionVars false
set_option maxRecDepth 100000
namespace Go.Rv
open Go.Proofs
variable {Dr : Kn}
abbrev ins_spec_ReportText : List Par := [.v true ct3]
abbrev outs_spec_ReportText : List (Bool × List CT) := [(false, [CT.str])]
namespace spec_ReportText
/-! ### loop.example/g00095/spec.ReportText (function 6) -/
noncomputable def ztbl : Tbl := tblL [(16, [], S_spec_ServerRight), (17, [], S_spec_ReportRows), (18, [], S_spec_l01Dec), (19, [], S_spec_ServerFree)]
noncomputable def zbody : Code := ((Tryz.prog.funcs[6]?).bind (·.body)).getD .skip
def zcfg : Nat → List Nat × List Nat := fun k => if k = 6 then ([1, 3, 4, 5], [1, 3]) else ([], [])
noncomputable def R0 {R : Type} (nx0 : (ByteArray → Int → Int → Int → Int → Int → (List U5) → (List U5) → (List U6) → (List U3) → Option R)) (ex0 : (ByteArray → Int → Int → Int → Int → (List U5) → (List U5) → (List U6) → Option R)) (t : ByteArray) (i s s7 s8 s9 : Int) (s10 s11 : List U5) (s12 : List U6) (l : List U3) : Option R := cond (decide (i < (l.length : Int))) (if 0 ≤ i ∧ i < (l.length : Int) then (F_spec_l01Dec ((l.getD i.toNat (0, 0, 0, 0, 0, 0, ())).1, ())).bind fun y1 => if t.size + y1.1.size ≤ 9223372036854775807 then if (t ++ y1.1).size + (strLit [32]).size ≤ 9223372036854775807 then if 0 ≤ i ∧ i < (l.length : Int) then (F_spec_l01Dec ((l.getD i.toNat (0, 0, 0, 0, 0, 0, ())).2.1, ())).bind fun y2 => if ((t ++ y1.1) ++ (strLit [32])).size + y2.1.size ≤ 9223372036854775807 then if (((t ++ y1.1) ++ (strLit [32])) ++ y2.1).size + (strLit [32]).size ≤ 9223372036854775807 then if 0 ≤ i ∧ i < (l.length : Int) then (F_spec_l01Dec ((l.getD i.toNat (0, 0, 0, 0, 0, 0, ())).2.2.1, ())).bind fun y3 => if ((((t ++ y1.1) ++ (strLit [32])) ++ y2.1) ++ (strLit [32])).size + y3.1.size ≤ 9223372036854775807 then if (((((t ++ y1.1) ++ (strLit [32])) ++ y2.1) ++ (strLit [32])) ++ y3.1).size + (strLit [32]).size ≤ 9223372036854775807 then if 0 ≤ i ∧ i < (l.length : Int) then (F_spec_l01Dec ((l.getD i.toNat (0, 0, 0, 0, 0, 0, ())).2.2.2.1, ())).bind fun y4 => if ((((((t ++ y1.1) ++ (strLit [32])) ++ y2.1) ++ (strLit [32])) ++ y3.1) ++ (strLit [32])).size + y4.1.size ≤ 9223372036854775807 then if (((((((t ++ y1.1) ++ (strLit [32])) ++ y2.1) ++ (strLit [32])) ++ y3.1) ++ (strLit [32])) ++ y4.1).size + (strLit [32]).size ≤ 9223372036854775807 then if 0 ≤ i ∧ i < (l.length : Int) then (F_spec_l01Dec ((l.getD i.toNat (0, 0, 0, 0, 0, 0, ())).2.2.2.2.1, ())).bind fun y5 => if ((((((((t ++ y1.1) ++ (strLit [32])) ++ y2.1) ++ (strLit [32])) ++ y3.1) ++ (strLit [32])) ++ y4.1) ++ (strLit [32])).size + y5.1.size ≤ 9223372036854775807 then if (((((((((t ++ y1.1) ++ (strLit [32])) ++ y2.1) ++ (strLit [32])) ++ y3.1) ++ (strLit [32])) ++ y4.1) ++ (strLit [32])) ++ y5.1).size + (strLit [32]).size ≤ 9223372036854775807 then if 0 ≤ i ∧ i < (l.length : Int) then (F_spec_l01Dec ((l.getD i.toNat (0, 0, 0, 0, 0, 0, ())).2.2.2.2.2.1, ())).bind fun y6 => if ((((((((((t ++ y1.1) ++ (strLit [32])) ++ y2.1) ++ (strLit [32])) ++ y3.1) ++ (strLit [32])) ++ y4.1) ++ (strLit [32])) ++ y5.1) ++ (strLit [32])).size + y6.1.size ≤ 9223372036854775807 then if (((((((((((t ++ y1.1) ++ (strLit [32])) ++ y2.1) ++ (strLit [32])) ++ y3.1) ++ (strLit [32])) ++ y4.1) ++ (strLit [32])) ++ y5.1) ++ (strLit [32])) ++ y6.1).size + (strLit [10]).size ≤ 9223372036854775807 then nx0 ((((((((((((t ++ y1.1) ++ (strLit [32])) ++ y2.1) ++ (strLit [32])) ++ y3.1) ++ (strLit [32])) ++ y4.1) ++ (strLit [32])) ++ y5.1) ++ (strLit [32])) ++ y6.1) ++ (strLit [10])) (w64 (i + 1)) s s7 s8 s9 s10 s11 s12 l else none else none else none else none else none else none else none else none else none else none else none else none else none else none else none else none else none else none) (ex0 t s s7 s8 s9 s10 s11 s12)
noncomputable def A0  (s0 s1 s2 s3 : Int) (s4 s5 : List U5) (s6 : List U6) (t : ByteArray) (s s7 s8 s9 : Int) (s10 s11 : List U5) (s12 : List U6) : Option (ByteArray × Unit) := if t.size + (strLit [102, 114, 101, 101, 32]).size ≤ 9223372036854775807 then (F_spec_ServerFree (s, s7, s8, s9, s10, s11, s12, ())).bind fun y1 => (F_spec_l01Dec (y1.1, ())).bind fun y2 => if (t ++ (strLit [102, 114, 101, 101, 32])).size + y2.1.size ≤ 9223372036854775807 then if ((t ++ (strLit [102, 114, 101, 101, 32])) ++ y2.1).size + (strLit [32, 111, 102, 32]).size ≤ 9223372036854775807 then (F_spec_l01Dec (s9, ())).bind fun y3 => if (((t ++ (strLit [102, 114, 101, 101, 32])) ++ y2.1) ++ (strLit [32, 111, 102, 32])).size + y3.1.size ≤ 9223372036854775807 then if ((((t ++ (strLit [102, 114, 101, 101, 32])) ++ y2.1) ++ (strLit [32, 111, 102, 32])) ++ y3.1).size + (strLit [10]).size ≤ 9223372036854775807 then some ((((((t ++ (strLit [102, 114, 101, 101, 32])) ++ y2.1) ++ (strLit [32, 111, 102, 32])) ++ y3.1) ++ (strLit [10])), ()) else none else none else none else none else none
noncomputable def T (lo0 : (ByteArray → Int → Int → Int → Int → Int → (List U5) → (List U5) → (List U6) → (List U3) → Option (ByteArray × Unit))) (s0 s1 s2 s3 : Int) (s4 s5 : List U5) (s6 : List U6) : Option (ByteArray × Unit) := (F_spec_ServerRight (s0, s1, s2, s3, s4, s5, s6, ())).bind fun y1 => cond (!y1.1) (some ((strLit []), ())) ((F_spec_ReportRows (s0, s1, s2, s3, s4, s5, s6, ())).bind fun y2 => lo0 (strLit []) 0 s0 s1 s2 s3 s4 s5 s6 y2.1)
noncomputable def zst0 {R : Type} (k0 : Nat) : Env → List Ob → Kont R → Option R := fun env ob K => runCode Tryz.prog ztbl 80 0 zcfg k0 (codeAt [1, 1, 1, 1, 0, 1, 0, 0] zbody) env ob K
noncomputable def K0 {R : Type} (k0 : Nat) (K : Kont R) : Kont R := blockK 0 (seqK (fun env ob => runCode Tryz.prog ztbl 80 0 zcfg k0 (codeAt [1, 1, 1, 1, 1] zbody) env ob (K)) (K))
noncomputable def L0 {R : Type} (k0 k : Nat) (K : Kont R) (t : ByteArray) (i s s7 s8 s9 : Int) (s10 s11 : List U5) (s12 : List U6) (l : List U3) : Option R := iter 0 [1, 3, 4, 5] [1, 3] (zst0 k0) k [(1, .ptr 0 0 0 0), (3, .str t), (4, .own 1), (5, .int .i64 i)] [.box [.int .i64 s, .int .i64 s7, .int .i64 s8, .int .i64 s9, .sl ct2 s10, .sl ct2 s11, .sl ct0 s12], .arr ct5 l] K
theorem zs0 {R : Type} (k0 k : Nat) (K : Kont R) (t : ByteArray) (i s s7 s8 s9 : Int) (s10 s11 : List U5) (s12 : List U6) (l : List U3) : L0 k0 (k + 1) K t i s s7 s8 s9 s10 s11 s12 l = R0 (L0 k0 k K) (fun t s s7 s8 s9 s10 s11 s12 => K (.exit 0) [(1, .ptr 0 0 0 0), (3, .str t)] [.box [.int .i64 s, .int .i64 s7, .int .i64 s8, .int .i64 s9, .sl ct2 s10, .sl ct2 s11, .sl ct0 s12]]) t i s s7 s8 s9 s10 s11 s12 l := by kernel_rfl
theorem za0 (k0 : Nat) (s0 s1 s2 s3 : Int) (s4 s5 : List U5) (s6 : List U6) (t : ByteArray) (s s7 s8 s9 : Int) (s10 s11 : List U5) (s12 : List U6) : K0 (R := (ByteArray × Unit)) k0 (finK Tryz.prog [.tmp 2] ins_spec_ReportText outs_spec_ReportText (s0, s1, s2, s3, s4, s5, s6, ())) (.exit 0) [(1, .ptr 0 0 0 0), (3, .str t)] [.box [.int .i64 s, .int .i64 s7, .int .i64 s8, .int .i64 s9, .sl ct2 s10, .sl ct2 s11, .sl ct0 s12]] = A0  s0 s1 s2 s3 s4 s5 s6 t s s7 s8 s9 s10 s11 s12 := by kernel_rfl
theorem ztop (k0 : Nat) (s0 s1 s2 s3 : Int) (s4 s5 : List U5) (s6 : List U6) : runFn Tryz.prog ztbl zcfg k0 6 ins_spec_ReportText outs_spec_ReportText [] (s0, s1, s2, s3, s4, s5, s6, ()) = T (L0 (R := (ByteArray × Unit)) k0 k0 (K0 (R := (ByteArray × Unit)) k0 ((finK Tryz.prog [.tmp 2] ins_spec_ReportText outs_spec_ReportText (s0, s1, s2, s3, s4, s5, s6, ()))))) s0 s1 s2 s3 s4 s5 s6 := by kernel_rfl
noncomputable def G0 {R : Type} (k0 : Nat) (hx0 : (ByteArray → Int → Int → Int → Int → (List U5) → (List U5) → (List U6) → Option R)) : Nat → ByteArray → Int → Int → Int → Int → Int → (List U5) → (List U5) → (List U6) → (List U3) → Option R
 | 0, _, _, _, _, _, _, _, _, _, _ => none
 | k + 1, t, i, s, s7, s8, s9, s10, s11, s12, l => R0 (G0 k0 hx0 k) hx0 t i s s7 s8 s9 s10 s11 s12 l
theorem zg0 {R : Type} (k0 : Nat) (K : Kont R) : ∀ k : Nat, L0 k0 k K = G0 k0 (fun t s s7 s8 s9 s10 s11 s12 => K (.exit 0) [(1, .ptr 0 0 0 0), (3, .str t)] [.box [.int .i64 s, .int .i64 s7, .int .i64 s8, .int .i64 s9, .sl ct2 s10, .sl ct2 s11, .sl ct0 s12]]) k := by
 intro k
 induction k with
 | zero => funext t i s s7 s8 s9 s10 s11 s12 l; rfl
 | succ k ih => funext t i s s7 s8 s9 s10 s11 s12 l; rw [zs0, G0]; (try simp only [ih]); try rfl
noncomputable def FF (k0 : Nat) (s0 s1 s2 s3 : Int) (s4 s5 : List U5) (s6 : List U6) : Option (ByteArray × Unit) := T (G0 k0 (A0  s0 s1 s2 s3 s4 s5 s6) k0) s0 s1 s2 s3 s4 s5 s6
theorem zrun (k0 : Nat) (s0 s1 s2 s3 : Int) (s4 s5 : List U5) (s6 : List U6) : runFn Tryz.prog ztbl zcfg k0 6 ins_spec_ReportText outs_spec_ReportText [] (s0, s1, s2, s3, s4, s5, s6, ()) = FF k0 s0 s1 s2 s3 s4 s5 s6 := by
 rw [ztop, FF]; (try simp only [zg0, za0]); try rfl
noncomputable def _root_.Go.Rv.F_spec_ReportText : U0 → Option (ByteArray × Unit) := fun x => (fun (s0 s1 s2 s3 : Int) (s4 s5 : List U5) (s6 : List U6) => FF (300 + s4.length + s5.length + s6.length) s0 s1 s2 s3 s4 s5 s6) x.1 x.2.1 x.2.2.1 x.2.2.2.1 x.2.2.2.2.1 x.2.2.2.2.2.1 x.2.2.2.2.2.2.1
noncomputable abbrev _root_.Go.Rv.S_spec_ReportText : Summ := ⟨ins_spec_ReportText, outs_spec_ReportText, F_spec_ReportText, []⟩
theorem _root_.Go.Rv.ok_spec_ReportText : SumOK Dr Tryz.prog 6 S_spec_ReportText := runFn_ok (by kernel_rfl) (tblL_ok (.cons ok_spec_ServerRight (.cons ok_spec_ReportRows (.cons ok_spec_l01Dec (.cons ok_spec_ServerFree .nil))))) (by kernel_rfl) fun x y h => ⟨zcfg, _, (zrun _ x.1 x.2.1 x.2.2.1 x.2.2.2.1 x.2.2.2.2.1 x.2.2.2.2.2.1 x.2.2.2.2.2.2.1).trans h⟩
end spec_ReportText
abbrev ins_laws_toGroup : List Par := [.v true ct2]
abbrev outs_laws_toGroup : List (Bool × List CT) := [(true, ct2)]
namespace laws_toGroup
/-! ### loop.example/g00095/laws.toGroup (function 62) -/
noncomputable def ztbl : Tbl := tblL []
noncomputable def zbody : Code := ((Tryz.prog.funcs[62]?).bind (·.body)).getD .skip
def zcfg : Nat → List Nat × List Nat := fun k => ([], [])
noncomputable def T  (a0 a1 a2 a3 : Int) : Option (U5) := some (a0, a1, a2, a3, ())
theorem ztop (k0 : Nat) (a0 a1 a2 a3 : Int) : runFn Tryz.prog ztbl zcfg k0 62 ins_laws_toGroup outs_laws_toGroup [] (a0, a1, a2, a3, ()) = T  a0 a1 a2 a3 := by kernel_rfl
noncomputable def _root_.Go.Rv.F_laws_toGroup : U5 → Option (U5) := fun x => T x.1 x.2.1 x.2.2.1 x.2.2.2.1
noncomputable abbrev _root_.Go.Rv.S_laws_toGroup : Summ := ⟨ins_laws_toGroup, outs_laws_toGroup, F_laws_toGroup, []⟩
theorem _root_.Go.Rv.ok_laws_toGroup : SumOK Dr Tryz.prog 62 S_laws_toGroup := runFn_ok (by kernel_rfl) (tblL_ok .nil) (by kernel_rfl) fun x y h => ⟨zcfg, 0, (ztop 0 x.1 x.2.1 x.2.2.1 x.2.2.2.1).trans h⟩
end laws_toGroup
abbrev ins_laws_toGroupS : List Par := [.v false [CT.sl ct2]]
abbrev outs_laws_toGroupS : List (Bool × List CT) := [(false, [CT.sl ct2])]
namespace laws_toGroupS
/-! ### loop.example/g00095/laws.toGroupS (function 33) -/
noncomputable def ztbl : Tbl := tblL [(62, [], S_laws_toGroup)]
noncomputable def zbody : Code := ((Tryz.prog.funcs[33]?).bind (·.body)).getD .skip
def zcfg : Nat → List Nat × List Nat := fun k => if k = 3 then ([0, 3, 4], [3]) else ([], [])
noncomputable def R0 {R : Type} (nx0 : ((List U5) → Int → (List U5) → Option R)) (ex0 : ((List U5) → Option R)) (a2 : List U5) (i : Int) (out : List U5) : Option R := cond (decide (i < (a2.length : Int))) (if 0 ≤ i ∧ i < (a2.length : Int) then (F_laws_toGroup ((rd (0, 0, 0, 0, ()) a2 i).1, (rd (0, 0, 0, 0, ()) a2 i).2.1, (rd (0, 0, 0, 0, ()) a2 i).2.2.1, (rd (0, 0, 0, 0, ()) a2 i).2.2.2.1, ())).bind fun y1 => if 0 ≤ i ∧ i < (out.length : Int) then nx0 a2 (w64 (i + 1)) (out.set i.toNat (y1.1, y1.2.1, y1.2.2.1, y1.2.2.2.1, ())) else none else none) (ex0 out)
noncomputable def A0  (a : List U5) (out : List U5) : Option ((List U5) × Unit) := some (out, ())
noncomputable def T (lo0 : ((List U5) → Int → (List U5) → Option ((List U5) × Unit))) (a : List U5) : Option ((List U5) × Unit) := if 0 ≤ (a.length : Int) ∧ (32 : Int) * (a.length : Int) ≤ 281474976710656 ∧ (a.length : Int) ≤ 9223372036854775807 then lo0 a 0 (List.replicate (((a.length : Int) : Int)).toNat (0, 0, 0, 0, ())) else none
noncomputable def zst0 {R : Type} (k0 : Nat) : Env → List Ob → Kont R → Option R := fun env ob K => runCode Tryz.prog ztbl 23 0 zcfg k0 (codeAt [1, 1, 0, 1, 0, 0] zbody) env ob K
noncomputable def K0 {R : Type} (k0 : Nat) (K : Kont R) : Kont R := blockK 0 (seqK (fun env ob => runCode Tryz.prog ztbl 23 0 zcfg k0 (codeAt [1, 1, 1] zbody) env ob (K)) (K))
noncomputable def L0 {R : Type} (k0 k : Nat) (K : Kont R) (a2 : List U5) (i : Int) (out : List U5) : Option R := iter 0 [0, 3, 4] [3] (zst0 k0) k [(0, .sl ct2 a2), (3, .own 0), (4, .int .i64 i)] [.arr ct2 out] K
theorem zs0 {R : Type} (k0 k : Nat) (K : Kont R) (a2 : List U5) (i : Int) (out : List U5) : L0 k0 (k + 1) K a2 i out = R0 (L0 k0 k K) (fun out => K (.exit 0) [(3, .own 0)] [.arr ct2 out]) a2 i out := by kernel_rfl
theorem za0 (k0 : Nat) (a : List U5) (out : List U5) : K0 (R := ((List U5) × Unit)) k0 (finK Tryz.prog [.tmp 2] ins_laws_toGroupS outs_laws_toGroupS (a, ())) (.exit 0) [(3, .own 0)] [.arr ct2 out] = A0  a out := by kernel_rfl
theorem ztop (k0 : Nat) (a : List U5) : runFn Tryz.prog ztbl zcfg k0 33 ins_laws_toGroupS outs_laws_toGroupS [] (a, ()) = T (L0 (R := ((List U5) × Unit)) k0 k0 (K0 (R := ((List U5) × Unit)) k0 ((finK Tryz.prog [.tmp 2] ins_laws_toGroupS outs_laws_toGroupS (a, ()))))) a := by kernel_rfl
noncomputable def G0 {R : Type} (k0 : Nat) (hx0 : ((List U5) → Option R)) : Nat → (List U5) → Int → (List U5) → Option R
 | 0, _, _, _ => none
 | k + 1, a2, i, out => R0 (G0 k0 hx0 k) hx0 a2 i out
theorem zg0 {R : Type} (k0 : Nat) (K : Kont R) : ∀ k : Nat, L0 k0 k K = G0 k0 (fun out => K (.exit 0) [(3, .own 0)] [.arr ct2 out]) k := by
 intro k
 induction k with
 | zero => funext a2 i out; rfl
 | succ k ih => funext a2 i out; rw [zs0, G0]; (try simp only [ih]); try rfl
noncomputable def FF (k0 : Nat) (a : List U5) : Option ((List U5) × Unit) := T (G0 k0 (A0  a) k0) a
theorem zrun (k0 : Nat) (a : List U5) : runFn Tryz.prog ztbl zcfg k0 33 ins_laws_toGroupS outs_laws_toGroupS [] (a, ()) = FF k0 a := by
 rw [ztop, FF]; (try simp only [zg0, za0]); try rfl
noncomputable def _root_.Go.Rv.F_laws_toGroupS : (List U5) × Unit → Option ((List U5) × Unit) := fun x => (fun (a : List U5) => FF (300 + a.length) a) x.1
noncomputable abbrev _root_.Go.Rv.S_laws_toGroupS : Summ := ⟨ins_laws_toGroupS, outs_laws_toGroupS, F_laws_toGroupS, []⟩
theorem _root_.Go.Rv.ok_laws_toGroupS : SumOK Dr Tryz.prog 33 S_laws_toGroupS := runFn_ok (by kernel_rfl) (tblL_ok (.cons ok_laws_toGroup .nil)) (by kernel_rfl) fun x y h => ⟨zcfg, _, (zrun _ x.1).trans h⟩
end laws_toGroupS
abbrev ins_laws_toMember : List Par := [.v true ct2]
abbrev outs_laws_toMember : List (Bool × List CT) := [(true, ct2)]
namespace laws_toMember
/-! ### loop.example/g00095/laws.toMember (function 63) -/
noncomputable def ztbl : Tbl := tblL []
noncomputable def zbody : Code := ((Tryz.prog.funcs[63]?).bind (·.body)).getD .skip
def zcfg : Nat → List Nat × List Nat := fun k => ([], [])
noncomputable def T  (a0 a1 a2 a3 : Int) : Option (U5) := some (a0, a1, a2, a3, ())
theorem ztop (k0 : Nat) (a0 a1 a2 a3 : Int) : runFn Tryz.prog ztbl zcfg k0 63 ins_laws_toMember outs_laws_toMember [] (a0, a1, a2, a3, ()) = T  a0 a1 a2 a3 := by kernel_rfl
noncomputable def _root_.Go.Rv.F_laws_toMember : U5 → Option (U5) := fun x => T x.1 x.2.1 x.2.2.1 x.2.2.2.1
noncomputable abbrev _root_.Go.Rv.S_laws_toMember : Summ := ⟨ins_laws_toMember, outs_laws_toMember, F_laws_toMember, []⟩
theorem _root_.Go.Rv.ok_laws_toMember : SumOK Dr Tryz.prog 63 S_laws_toMember := runFn_ok (by kernel_rfl) (tblL_ok .nil) (by kernel_rfl) fun x y h => ⟨zcfg, 0, (ztop 0 x.1 x.2.1 x.2.2.1 x.2.2.2.1).trans h⟩
end laws_toMember
abbrev ins_laws_toMemberS : List Par := [.v false [CT.sl ct2]]
abbrev outs_laws_toMemberS : List (Bool × List CT) := [(false, [CT.sl ct2])]
namespace laws_toMemberS
/-! ### loop.example/g00095/laws.toMemberS (function 34) -/
noncomputable def ztbl : Tbl := tblL [(63, [], S_laws_toMember)]
noncomputable def zbody : Code := ((Tryz.prog.funcs[34]?).bind (·.body)).getD .skip
def zcfg : Nat → List Nat × List Nat := fun k => if k = 3 then ([0, 3, 4], [3]) else ([], [])
noncomputable def R0 {R : Type} (nx0 : ((List U5) → Int → (List U5) → Option R)) (ex0 : ((List U5) → Option R)) (a2 : List U5) (i : Int) (out : List U5) : Option R := cond (decide (i < (a2.length : Int))) (if 0 ≤ i ∧ i < (a2.length : Int) then (F_laws_toMember ((rd (0, 0, 0, 0, ()) a2 i).1, (rd (0, 0, 0, 0, ()) a2 i).2.1, (rd (0, 0, 0, 0, ()) a2 i).2.2.1, (rd (0, 0, 0, 0, ()) a2 i).2.2.2.1, ())).bind fun y1 => if 0 ≤ i ∧ i < (out.length : Int) then nx0 a2 (w64 (i + 1)) (out.set i.toNat (y1.1, y1.2.1, y1.2.2.1, y1.2.2.2.1, ())) else none else none) (ex0 out)
noncomputable def A0  (a : List U5) (out : List U5) : Option ((List U5) × Unit) := some (out, ())
noncomputable def T (lo0 : ((List U5) → Int → (List U5) → Option ((List U5) × Unit))) (a : List U5) : Option ((List U5) × Unit) := if 0 ≤ (a.length : Int) ∧ (32 : Int) * (a.length : Int) ≤ 281474976710656 ∧ (a.length : Int) ≤ 9223372036854775807 then lo0 a 0 (List.replicate (((a.length : Int) : Int)).toNat (0, 0, 0, 0, ())) else none
noncomputable def zst0 {R : Type} (k0 : Nat) : Env → List Ob → Kont R → Option R := fun env ob K => runCode Tryz.prog ztbl 23 0 zcfg k0 (codeAt [1, 1, 0, 1, 0, 0] zbody) env ob K
noncomputable def K0 {R : Type} (k0 : Nat) (K : Kont R) : Kont R := blockK 0 (seqK (fun env ob => runCode Tryz.prog ztbl 23 0 zcfg k0 (codeAt [1, 1, 1] zbody) env ob (K)) (K))
noncomputable def L0 {R : Type} (k0 k : Nat) (K : Kont R) (a2 : List U5) (i : Int) (out : List U5) : Option R := iter 0 [0, 3, 4] [3] (zst0 k0) k [(0, .sl ct2 a2), (3, .own 0), (4, .int .i64 i)] [.arr ct2 out] K
theorem zs0 {R : Type} (k0 k : Nat) (K : Kont R) (a2 : List U5) (i : Int) (out : List U5) : L0 k0 (k + 1) K a2 i out = R0 (L0 k0 k K) (fun out => K (.exit 0) [(3, .own 0)] [.arr ct2 out]) a2 i out := by kernel_rfl
theorem za0 (k0 : Nat) (a : List U5) (out : List U5) : K0 (R := ((List U5) × Unit)) k0 (finK Tryz.prog [.tmp 2] ins_laws_toMemberS outs_laws_toMemberS (a, ())) (.exit 0) [(3, .own 0)] [.arr ct2 out] = A0  a out := by kernel_rfl
theorem ztop (k0 : Nat) (a : List U5) : runFn Tryz.prog ztbl zcfg k0 34 ins_laws_toMemberS outs_laws_toMemberS [] (a, ()) = T (L0 (R := ((List U5) × Unit)) k0 k0 (K0 (R := ((List U5) × Unit)) k0 ((finK Tryz.prog [.tmp 2] ins_laws_toMemberS outs_laws_toMemberS (a, ()))))) a := by kernel_rfl
noncomputable def G0 {R : Type} (k0 : Nat) (hx0 : ((List U5) → Option R)) : Nat → (List U5) → Int → (List U5) → Option R
 | 0, _, _, _ => none
 | k + 1, a2, i, out => R0 (G0 k0 hx0 k) hx0 a2 i out
theorem zg0 {R : Type} (k0 : Nat) (K : Kont R) : ∀ k : Nat, L0 k0 k K = G0 k0 (fun out => K (.exit 0) [(3, .own 0)] [.arr ct2 out]) k := by
 intro k
 induction k with
 | zero => funext a2 i out; rfl
 | succ k ih => funext a2 i out; rw [zs0, G0]; (try simp only [ih]); try rfl
noncomputable def FF (k0 : Nat) (a : List U5) : Option ((List U5) × Unit) := T (G0 k0 (A0  a) k0) a
theorem zrun (k0 : Nat) (a : List U5) : runFn Tryz.prog ztbl zcfg k0 34 ins_laws_toMemberS outs_laws_toMemberS [] (a, ()) = FF k0 a := by
 rw [ztop, FF]; (try simp only [zg0, za0]); try rfl
noncomputable def _root_.Go.Rv.F_laws_toMemberS : (List U5) × Unit → Option ((List U5) × Unit) := fun x => (fun (a : List U5) => FF (300 + a.length) a) x.1
noncomputable abbrev _root_.Go.Rv.S_laws_toMemberS : Summ := ⟨ins_laws_toMemberS, outs_laws_toMemberS, F_laws_toMemberS, []⟩
theorem _root_.Go.Rv.ok_laws_toMemberS : SumOK Dr Tryz.prog 34 S_laws_toMemberS := runFn_ok (by kernel_rfl) (tblL_ok (.cons ok_laws_toMember .nil)) (by kernel_rfl) fun x y h => ⟨zcfg, _, (zrun _ x.1).trans h⟩
end laws_toMemberS
abbrev ins_laws_toFarm : List Par := [.v true ct4]
abbrev outs_laws_toFarm : List (Bool × List CT) := [(true, ct4)]
namespace laws_toFarm
/-! ### loop.example/g00095/laws.toFarm (function 12) -/
noncomputable def ztbl : Tbl := tblL [(33, [], S_laws_toGroupS), (34, [], S_laws_toMemberS)]
noncomputable def zbody : Code := ((Tryz.prog.funcs[12]?).bind (·.body)).getD .skip
def zcfg : Nat → List Nat × List Nat := fun k => ([], [])
noncomputable def T  (a0 : Int) (a1 a2 : List U5) : Option (U1) := (F_laws_toGroupS (a1, ())).bind fun y1 => (F_laws_toMemberS (a2, ())).bind fun y2 => some (a0, y1.1, y2.1, ())
theorem ztop (k0 : Nat) (a0 : Int) (a1 a2 : List U5) : runFn Tryz.prog ztbl zcfg k0 12 ins_laws_toFarm outs_laws_toFarm [] (a0, a1, a2, ()) = T  a0 a1 a2 := by kernel_rfl
noncomputable def _root_.Go.Rv.F_laws_toFarm : U1 → Option (U1) := fun x => T x.1 x.2.1 x.2.2.1
noncomputable abbrev _root_.Go.Rv.S_laws_toFarm : Summ := ⟨ins_laws_toFarm, outs_laws_toFarm, F_laws_toFarm, []⟩
theorem _root_.Go.Rv.ok_laws_toFarm : SumOK Dr Tryz.prog 12 S_laws_toFarm := runFn_ok (by kernel_rfl) (tblL_ok (.cons ok_laws_toGroupS (.cons ok_laws_toMemberS .nil))) (by kernel_rfl) fun x y h => ⟨zcfg, 0, (ztop 0 x.1 x.2.1 x.2.2.1).trans h⟩
end laws_toFarm
abbrev ins_laws_toLease : List Par := [.v true ct0]
abbrev outs_laws_toLease : List (Bool × List CT) := [(true, ct0)]
namespace laws_toLease
/-! ### loop.example/g00095/laws.toLease (function 45) -/
noncomputable def ztbl : Tbl := tblL []
noncomputable def zbody : Code := ((Tryz.prog.funcs[45]?).bind (·.body)).getD .skip
def zcfg : Nat → List Nat × List Nat := fun k => ([], [])
noncomputable def T  (a0 a1 a2 : Int) : Option (U6) := some (a0, a1, a2, ())
theorem ztop (k0 : Nat) (a0 a1 a2 : Int) : runFn Tryz.prog ztbl zcfg k0 45 ins_laws_toLease outs_laws_toLease [] (a0, a1, a2, ()) = T  a0 a1 a2 := by kernel_rfl
noncomputable def _root_.Go.Rv.F_laws_toLease : U6 → Option (U6) := fun x => T x.1 x.2.1 x.2.2.1
noncomputable abbrev _root_.Go.Rv.S_laws_toLease : Summ := ⟨ins_laws_toLease, outs_laws_toLease, F_laws_toLease, []⟩
theorem _root_.Go.Rv.ok_laws_toLease : SumOK Dr Tryz.prog 45 S_laws_toLease := runFn_ok (by kernel_rfl) (tblL_ok .nil) (by kernel_rfl) fun x y h => ⟨zcfg, 0, (ztop 0 x.1 x.2.1 x.2.2.1).trans h⟩
end laws_toLease
abbrev ins_laws_toLeaseS : List Par := [.v false [CT.sl ct0]]
abbrev outs_laws_toLeaseS : List (Bool × List CT) := [(false, [CT.sl ct0])]
namespace laws_toLeaseS
/-! ### loop.example/g00095/laws.toLeaseS (function 20) -/
noncomputable def ztbl : Tbl := tblL [(45, [], S_laws_toLease)]
noncomputable def zbody : Code := ((Tryz.prog.funcs[20]?).bind (·.body)).getD .skip
def zcfg : Nat → List Nat × List Nat := fun k => if k = 3 then ([0, 3, 4], [3]) else ([], [])
noncomputable def R0 {R : Type} (nx0 : ((List U6) → Int → (List U6) → Option R)) (ex0 : ((List U6) → Option R)) (a2 : List U6) (i : Int) (out : List U6) : Option R := cond (decide (i < (a2.length : Int))) (if 0 ≤ i ∧ i < (a2.length : Int) then (F_laws_toLease ((rd (0, 0, 0, ()) a2 i).1, (rd (0, 0, 0, ()) a2 i).2.1, (rd (0, 0, 0, ()) a2 i).2.2.1, ())).bind fun y1 => if 0 ≤ i ∧ i < (out.length : Int) then nx0 a2 (w64 (i + 1)) (out.set i.toNat (y1.1, y1.2.1, y1.2.2.1, ())) else none else none) (ex0 out)
noncomputable def A0  (a : List U6) (out : List U6) : Option ((List U6) × Unit) := some (out, ())
noncomputable def T (lo0 : ((List U6) → Int → (List U6) → Option ((List U6) × Unit))) (a : List U6) : Option ((List U6) × Unit) := if 0 ≤ (a.length : Int) ∧ (24 : Int) * (a.length : Int) ≤ 281474976710656 ∧ (a.length : Int) ≤ 9223372036854775807 then lo0 a 0 (List.replicate (((a.length : Int) : Int)).toNat (0, 0, 0, ())) else none
noncomputable def zst0 {R : Type} (k0 : Nat) : Env → List Ob → Kont R → Option R := fun env ob K => runCode Tryz.prog ztbl 23 0 zcfg k0 (codeAt [1, 1, 0, 1, 0, 0] zbody) env ob K
noncomputable def K0 {R : Type} (k0 : Nat) (K : Kont R) : Kont R := blockK 0 (seqK (fun env ob => runCode Tryz.prog ztbl 23 0 zcfg k0 (codeAt [1, 1, 1] zbody) env ob (K)) (K))
noncomputable def L0 {R : Type} (k0 k : Nat) (K : Kont R) (a2 : List U6) (i : Int) (out : List U6) : Option R := iter 0 [0, 3, 4] [3] (zst0 k0) k [(0, .sl ct0 a2), (3, .own 0), (4, .int .i64 i)] [.arr ct0 out] K
theorem zs0 {R : Type} (k0 k : Nat) (K : Kont R) (a2 : List U6) (i : Int) (out : List U6) : L0 k0 (k + 1) K a2 i out = R0 (L0 k0 k K) (fun out => K (.exit 0) [(3, .own 0)] [.arr ct0 out]) a2 i out := by kernel_rfl
theorem za0 (k0 : Nat) (a : List U6) (out : List U6) : K0 (R := ((List U6) × Unit)) k0 (finK Tryz.prog [.tmp 2] ins_laws_toLeaseS outs_laws_toLeaseS (a, ())) (.exit 0) [(3, .own 0)] [.arr ct0 out] = A0  a out := by kernel_rfl
theorem ztop (k0 : Nat) (a : List U6) : runFn Tryz.prog ztbl zcfg k0 20 ins_laws_toLeaseS outs_laws_toLeaseS [] (a, ()) = T (L0 (R := ((List U6) × Unit)) k0 k0 (K0 (R := ((List U6) × Unit)) k0 ((finK Tryz.prog [.tmp 2] ins_laws_toLeaseS outs_laws_toLeaseS (a, ()))))) a := by kernel_rfl
noncomputable def G0 {R : Type} (k0 : Nat) (hx0 : ((List U6) → Option R)) : Nat → (List U6) → Int → (List U6) → Option R
 | 0, _, _, _ => none
 | k + 1, a2, i, out => R0 (G0 k0 hx0 k) hx0 a2 i out
theorem zg0 {R : Type} (k0 : Nat) (K : Kont R) : ∀ k : Nat, L0 k0 k K = G0 k0 (fun out => K (.exit 0) [(3, .own 0)] [.arr ct0 out]) k := by
 intro k
 induction k with
 | zero => funext a2 i out; rfl
 | succ k ih => funext a2 i out; rw [zs0, G0]; (try simp only [ih]); try rfl
noncomputable def FF (k0 : Nat) (a : List U6) : Option ((List U6) × Unit) := T (G0 k0 (A0  a) k0) a
theorem zrun (k0 : Nat) (a : List U6) : runFn Tryz.prog ztbl zcfg k0 20 ins_laws_toLeaseS outs_laws_toLeaseS [] (a, ()) = FF k0 a := by
 rw [ztop, FF]; (try simp only [zg0, za0]); try rfl
noncomputable def _root_.Go.Rv.F_laws_toLeaseS : (List U6) × Unit → Option ((List U6) × Unit) := fun x => (fun (a : List U6) => FF (300 + a.length) a) x.1
noncomputable abbrev _root_.Go.Rv.S_laws_toLeaseS : Summ := ⟨ins_laws_toLeaseS, outs_laws_toLeaseS, F_laws_toLeaseS, []⟩
theorem _root_.Go.Rv.ok_laws_toLeaseS : SumOK Dr Tryz.prog 20 S_laws_toLeaseS := runFn_ok (by kernel_rfl) (tblL_ok (.cons ok_laws_toLease .nil)) (by kernel_rfl) fun x y h => ⟨zcfg, _, (zrun _ x.1).trans h⟩
end laws_toLeaseS
abbrev ins_laws_toServer : List Par := [.v true ct3]
abbrev outs_laws_toServer : List (Bool × List CT) := [(true, ct3)]
namespace laws_toServer
/-! ### loop.example/g00095/laws.toServer (function 7) -/
noncomputable def ztbl : Tbl := tblL [(12, [], S_laws_toFarm), (20, [], S_laws_toLeaseS)]
noncomputable def zbody : Code := ((Tryz.prog.funcs[7]?).bind (·.body)).getD .skip
def zcfg : Nat → List Nat × List Nat := fun k => ([], [])
noncomputable def T  (a0 a1 a2 a3 : Int) (a4 a5 : List U5) (a6 : List U6) : Option (U0) := (F_laws_toFarm (a3, a4, a5, ())).bind fun y1 => (F_laws_toLeaseS (a6, ())).bind fun y2 => some (a0, a1, a2, y1.1, y1.2.1, y1.2.2.1, y2.1, ())
theorem ztop (k0 : Nat) (a0 a1 a2 a3 : Int) (a4 a5 : List U5) (a6 : List U6) : runFn Tryz.prog ztbl zcfg k0 7 ins_laws_toServer outs_laws_toServer [] (a0, a1, a2, a3, a4, a5, a6, ()) = T  a0 a1 a2 a3 a4 a5 a6 := by kernel_rfl
noncomputable def _root_.Go.Rv.F_laws_toServer : U0 → Option (U0) := fun x => T x.1 x.2.1 x.2.2.1 x.2.2.2.1 x.2.2.2.2.1 x.2.2.2.2.2.1 x.2.2.2.2.2.2.1
noncomputable abbrev _root_.Go.Rv.S_laws_toServer : Summ := ⟨ins_laws_toServer, outs_laws_toServer, F_laws_toServer, []⟩
theorem _root_.Go.Rv.ok_laws_toServer : SumOK Dr Tryz.prog 7 S_laws_toServer := runFn_ok (by kernel_rfl) (tblL_ok (.cons ok_laws_toFarm (.cons ok_laws_toLeaseS .nil))) (by kernel_rfl) fun x y h => ⟨zcfg, 0, (ztop 0 x.1 x.2.1 x.2.2.1 x.2.2.2.1 x.2.2.2.2.1 x.2.2.2.2.2.1 x.2.2.2.2.2.2.1).trans h⟩
end laws_toServer
abbrev ins_impl_in : List Par := [.v false [CT.int .i64], .v false [CT.int .i64], .v false [CT.int .i64]]
abbrev outs_impl_in : List (Bool × List CT) := [(false, [CT.bool])]
namespace impl_in
/-! ### loop.example/g00095/impl.in (function 46) -/
noncomputable def ztbl : Tbl := tblL []
noncomputable def zbody : Code := ((Tryz.prog.funcs[46]?).bind (·.body)).getD .skip
def zcfg : Nat → List Nat × List Nat := fun k => ([], [])
noncomputable def T  (n low high : Int) : Option (Bool × Unit) := cond (decide (low ≤ n)) (some ((decide (n ≤ high)), ())) (some (false, ()))
theorem ztop (k0 : Nat) (n low high : Int) : runFn Tryz.prog ztbl zcfg k0 46 ins_impl_in outs_impl_in [] (n, low, high, ()) = T  n low high := by kernel_rfl
noncomputable def _root_.Go.Rv.F_impl_in : U6 → Option (Bool × Unit) := fun x => T x.1 x.2.1 x.2.2.1
noncomputable abbrev _root_.Go.Rv.S_impl_in : Summ := ⟨ins_impl_in, outs_impl_in, F_impl_in, []⟩
theorem _root_.Go.Rv.ok_impl_in : SumOK Dr Tryz.prog 46 S_impl_in := runFn_ok (by kernel_rfl) (tblL_ok .nil) (by kernel_rfl) fun x y h => ⟨zcfg, 0, (ztop 0 x.1 x.2.1 x.2.2.1).trans h⟩
end impl_in
abbrev ins_impl_isWant : List Par := [.v false [CT.int .i64]]
abbrev outs_impl_isWant : List (Bool × List CT) := [(false, [CT.bool])]
namespace impl_isWant
/-! ### loop.example/g00095/impl.isWant (function 64) -/
noncomputable def ztbl : Tbl := tblL [(46, [], S_impl_in)]
noncomputable def zbody : Code := ((Tryz.prog.funcs[64]?).bind (·.body)).getD .skip
def zcfg : Nat → List Nat × List Nat := fun k => ([], [])
noncomputable def T  (n : Int) : Option (Bool × Unit) := (F_impl_in (n, 0, 1125899906842624, ())).bind fun y1 => some (y1.1, ())
theorem ztop (k0 : Nat) (n : Int) : runFn Tryz.prog ztbl zcfg k0 64 ins_impl_isWant outs_impl_isWant [] (n, ()) = T  n := by kernel_rfl
noncomputable def _root_.Go.Rv.F_impl_isWant : Int × Unit → Option (Bool × Unit) := fun x => T x.1
noncomputable abbrev _root_.Go.Rv.S_impl_isWant : Summ := ⟨ins_impl_isWant, outs_impl_isWant, F_impl_isWant, []⟩
theorem _root_.Go.Rv.ok_impl_isWant : SumOK Dr Tryz.prog 64 S_impl_isWant := runFn_ok (by kernel_rfl) (tblL_ok (.cons ok_impl_in .nil)) (by kernel_rfl) fun x y h => ⟨zcfg, 0, (ztop 0 x.1).trans h⟩
end impl_isWant
abbrev ins_impl_isId : List Par := [.v false [CT.int .i64]]
abbrev outs_impl_isId : List (Bool × List CT) := [(false, [CT.bool])]
namespace impl_isId
/-! ### loop.example/g00095/impl.isId (function 65) -/
noncomputable def ztbl : Tbl := tblL [(46, [], S_impl_in)]
noncomputable def zbody : Code := ((Tryz.prog.funcs[65]?).bind (·.body)).getD .skip
def zcfg : Nat → List Nat × List Nat := fun k => ([], [])
noncomputable def T  (n : Int) : Option (Bool × Unit) := (F_impl_in (n, 1, 1000000, ())).bind fun y1 => some (y1.1, ())
theorem ztop (k0 : Nat) (n : Int) : runFn Tryz.prog ztbl zcfg k0 65 ins_impl_isId outs_impl_isId [] (n, ()) = T  n := by kernel_rfl
noncomputable def _root_.Go.Rv.F_impl_isId : Int × Unit → Option (Bool × Unit) := fun x => T x.1
noncomputable abbrev _root_.Go.Rv.S_impl_isId : Summ := ⟨ins_impl_isId, outs_impl_isId, F_impl_isId, []⟩
theorem _root_.Go.Rv.ok_impl_isId : SumOK Dr Tryz.prog 65 S_impl_isId := runFn_ok (by kernel_rfl) (tblL_ok (.cons ok_impl_in .nil)) (by kernel_rfl) fun x y h => ⟨zcfg, 0, (ztop 0 x.1).trans h⟩
end impl_isId
abbrev ins_impl_Farm_group_1 : List Par := [.v true ct2, .v false [CT.int .i64]]
abbrev outs_impl_Farm_group_1 : List (Bool × List CT) := [(false, [CT.int .i64])]
namespace impl_Farm_group_1
/-! ### (loop.example/g00095/impl.Farm).group$1 (function 98) -/
noncomputable def ztbl : Tbl := tblL [(70, [], S_cmp_Compare_int64)]
noncomputable def zbody : Code := ((Tryz.prog.funcs[98]?).bind (·.body)).getD .skip
def zcfg : Nat → List Nat × List Nat := fun k => ([], [])
noncomputable def T  (g0 g1 g2 g3 id : Int) : Option (Int × Unit) := (F_cmp_Compare_int64 (g0, id, ())).bind fun y1 => some (y1.1, ())
theorem ztop (k0 : Nat) (g0 g1 g2 g3 id : Int) : runFn Tryz.prog ztbl zcfg k0 98 ins_impl_Farm_group_1 outs_impl_Farm_group_1 [] (g0, g1, g2, g3, id, ()) = T  g0 g1 g2 g3 id := by kernel_rfl
noncomputable def _root_.Go.Rv.F_impl_Farm_group_1 : Int × U5 → Option (Int × Unit) := fun x => T x.1 x.2.1 x.2.2.1 x.2.2.2.1 x.2.2.2.2.1
noncomputable abbrev _root_.Go.Rv.S_impl_Farm_group_1 : Summ := ⟨ins_impl_Farm_group_1, outs_impl_Farm_group_1, F_impl_Farm_group_1, []⟩
theorem _root_.Go.Rv.ok_impl_Farm_group_1 : SumOK Dr Tryz.prog 98 S_impl_Farm_group_1 := runFn_ok (by kernel_rfl) (tblL_ok (.cons ok_cmp_Compare_int64 .nil)) (by kernel_rfl) fun x y h => ⟨zcfg, 0, (ztop 0 x.1 x.2.1 x.2.2.1 x.2.2.2.1 x.2.2.2.2.1).trans h⟩
end impl_Farm_group_1
abbrev ins_slices_BinarySearchFunc_impl_Group_impl_Group_int64_at_impl_Farm_group_1 : List Par := [.v false [CT.sl ct2], .v false [CT.int .i64], .cl 98 []]
abbrev outs_slices_BinarySearchFunc_impl_Group_impl_Group_int64_at_impl_Farm_group_1 : List (Bool × List CT) := [(false, [CT.int .i64]), (false, [CT.bool])]
namespace slices_BinarySearchFunc_impl_Group_impl_Group_int64_at_impl_Farm_group_1
/-! ### slices.BinarySearchFunc[[]loop.example/g00095/impl.Group,loop.example/g00095/impl.Group,int64] (function 97) -/
noncomputable def ztbl : Tbl := tblL [(98, [], S_impl_Farm_group_1)]
noncomputable def zbody : Code := ((Tryz.prog.funcs[97]?).bind (·.body)).getD .skip
def zcfg : Nat → List Nat × List Nat := fun k => if k = 3 then ([0, 1, 2, 8, 9, 10], [0, 1, 2, 8, 9]) else ([], [])
noncomputable def R0 {R : Type} (nx0 : ((List U5) → Int → Int → Int → Int → Option R)) (ex0 : ((List U5) → Int → Int → Int → Option R)) (x2 : List U5) (target2 n i j : Int) : Option R := cond (decide (i < j)) (if 0 ≤ (w64 ((Int.fdiv (IntKind.u64.wrap ((w64 (i + j)))) (2 ^ 1)))) ∧ (w64 ((Int.fdiv (IntKind.u64.wrap ((w64 (i + j)))) (2 ^ 1)))) < (x2.length : Int) then (F_impl_Farm_group_1 ((rd (0, 0, 0, 0, ()) x2 (w64 ((Int.fdiv (IntKind.u64.wrap ((w64 (i + j)))) (2 ^ 1))))).1, (rd (0, 0, 0, 0, ()) x2 (w64 ((Int.fdiv (IntKind.u64.wrap ((w64 (i + j)))) (2 ^ 1))))).2.1, (rd (0, 0, 0, 0, ()) x2 (w64 ((Int.fdiv (IntKind.u64.wrap ((w64 (i + j)))) (2 ^ 1))))).2.2.1, (rd (0, 0, 0, 0, ()) x2 (w64 ((Int.fdiv (IntKind.u64.wrap ((w64 (i + j)))) (2 ^ 1))))).2.2.2.1, target2, ())).bind fun y1 => cond (decide (y1.1 < 0)) (nx0 x2 target2 n (w64 ((w64 ((Int.fdiv (IntKind.u64.wrap ((w64 (i + j)))) (2 ^ 1)))) + 1)) j) (nx0 x2 target2 n i (w64 ((Int.fdiv (IntKind.u64.wrap ((w64 (i + j)))) (2 ^ 1))))) else none) (ex0 x2 target2 n i)
noncomputable def A0  (x : List U5) (target : Int) (x2 : List U5) (target2 n i : Int) : Option (Int × Bool × Unit) := cond (decide (i < n)) (if 0 ≤ i ∧ i < (x2.length : Int) then (F_impl_Farm_group_1 ((rd (0, 0, 0, 0, ()) x2 i).1, (rd (0, 0, 0, 0, ()) x2 i).2.1, (rd (0, 0, 0, 0, ()) x2 i).2.2.1, (rd (0, 0, 0, 0, ()) x2 i).2.2.2.1, target2, ())).bind fun y1 => some (i, (y1.1 == 0), ()) else none) (some (i, false, ()))
noncomputable def T (lo0 : ((List U5) → Int → Int → Int → Int → Option (Int × Bool × Unit))) (x : List U5) (target : Int) : Option (Int × Bool × Unit) := lo0 x target (x.length : Int) 0 (x.length : Int)
noncomputable def zst0 {R : Type} (k0 : Nat) : Env → List Ob → Kont R → Option R := fun env ob K => runCode Tryz.prog ztbl 49 0 zcfg k0 (codeAt [1, 1, 1, 0, 0, 0] zbody) env ob K
noncomputable def K0 {R : Type} (k0 : Nat) (K : Kont R) : Kont R := blockK 0 (seqK (fun env ob => runCode Tryz.prog ztbl 49 0 zcfg k0 (codeAt [1, 1, 1, 1] zbody) env ob (K)) (K))
noncomputable def L0 {R : Type} (k0 k : Nat) (K : Kont R) (x2 : List U5) (target2 n i j : Int) : Option R := iter 0 [0, 1, 2, 8, 9, 10] [0, 1, 2, 8, 9] (zst0 k0) k [(0, .sl ct2 x2), (1, .int .i64 target2), (2, .fn 98 []), (8, .int .i64 n), (9, .int .i64 i), (10, .int .i64 j)] [] K
theorem zs0 {R : Type} (k0 k : Nat) (K : Kont R) (x2 : List U5) (target2 n i j : Int) : L0 k0 (k + 1) K x2 target2 n i j = R0 (L0 k0 k K) (fun x2 target2 n i => K (.exit 0) [(0, .sl ct2 x2), (1, .int .i64 target2), (2, .fn 98 []), (8, .int .i64 n), (9, .int .i64 i)] []) x2 target2 n i j := by kernel_rfl
theorem za0 (k0 : Nat) (x : List U5) (target : Int) (x2 : List U5) (target2 n i : Int) : K0 (R := (Int × Bool × Unit)) k0 (finK Tryz.prog [.tmp 6, .tmp 7] ins_slices_BinarySearchFunc_impl_Group_impl_Group_int64_at_impl_Farm_group_1 outs_slices_BinarySearchFunc_impl_Group_impl_Group_int64_at_impl_Farm_group_1 (x, target, ())) (.exit 0) [(0, .sl ct2 x2), (1, .int .i64 target2), (2, .fn 98 []), (8, .int .i64 n), (9, .int .i64 i)] [] = A0  x target x2 target2 n i := by kernel_rfl
theorem ztop (k0 : Nat) (x : List U5) (target : Int) : runFn Tryz.prog ztbl zcfg k0 97 ins_slices_BinarySearchFunc_impl_Group_impl_Group_int64_at_impl_Farm_group_1 outs_slices_BinarySearchFunc_impl_Group_impl_Group_int64_at_impl_Farm_group_1 [] (x, target, ()) = T (L0 (R := (Int × Bool × Unit)) k0 k0 (K0 (R := (Int × Bool × Unit)) k0 ((finK Tryz.prog [.tmp 6, .tmp 7] ins_slices_BinarySearchFunc_impl_Group_impl_Group_int64_at_impl_Farm_group_1 outs_slices_BinarySearchFunc_impl_Group_impl_Group_int64_at_impl_Farm_group_1 (x, target, ()))))) x target := by kernel_rfl
noncomputable def G0 {R : Type} (k0 : Nat) (hx0 : ((List U5) → Int → Int → Int → Option R)) : Nat → (List U5) → Int → Int → Int → Int → Option R
 | 0, _, _, _, _, _ => none
 | k + 1, x2, target2, n, i, j => R0 (G0 k0 hx0 k) hx0 x2 target2 n i j
theorem zg0 {R : Type} (k0 : Nat) (K : Kont R) : ∀ k : Nat, L0 k0 k K = G0 k0 (fun x2 target2 n i => K (.exit 0) [(0, .sl ct2 x2), (1, .int .i64 target2), (2, .fn 98 []), (8, .int .i64 n), (9, .int .i64 i)] []) k := by
 intro k
 induction k with
 | zero => funext x2 target2 n i j; rfl
 | succ k ih => funext x2 target2 n i j; rw [zs0, G0]; (try simp only [ih]); try rfl
noncomputable def FF (k0 : Nat) (x : List U5) (target : Int) : Option (Int × Bool × Unit) := T (G0 k0 (A0  x target) k0) x target
theorem zrun (k0 : Nat) (x : List U5) (target : Int) : runFn Tryz.prog ztbl zcfg k0 97 ins_slices_BinarySearchFunc_impl_Group_impl_Group_int64_at_impl_Farm_group_1 outs_slices_BinarySearchFunc_impl_Group_impl_Group_int64_at_impl_Farm_group_1 [] (x, target, ()) = FF k0 x target := by
 rw [ztop, FF]; (try simp only [zg0, za0]); try rfl
noncomputable def _root_.Go.Rv.F_slices_BinarySearchFunc_impl_Group_impl_Group_int64_at_impl_Farm_group_1 : (List U5) × Int × Unit → Option (Int × Bool × Unit) := fun x => (fun (x : List U5) (target : Int) => FF (300 + x.length) x target) x.1 x.2.1
noncomputable abbrev _root_.Go.Rv.S_slices_BinarySearchFunc_impl_Group_impl_Group_int64_at_impl_Farm_group_1 : Summ := ⟨ins_slices_BinarySearchFunc_impl_Group_impl_Group_int64_at_impl_Farm_group_1, outs_slices_BinarySearchFunc_impl_Group_impl_Group_int64_at_impl_Farm_group_1, F_slices_BinarySearchFunc_impl_Group_impl_Group_int64_at_impl_Farm_group_1, []⟩
theorem _root_.Go.Rv.ok_slices_BinarySearchFunc_impl_Group_impl_Group_int64_at_impl_Farm_group_1 : SumOK Dr Tryz.prog 97 S_slices_BinarySearchFunc_impl_Group_impl_Group_int64_at_impl_Farm_group_1 := runFn_ok (by kernel_rfl) (tblL_ok (.cons ok_impl_Farm_group_1 .nil)) (by kernel_rfl) fun x y h => ⟨zcfg, _, (zrun _ x.1 x.2.1).trans h⟩
end slices_BinarySearchFunc_impl_Group_impl_Group_int64_at_impl_Farm_group_1
abbrev ins_impl_Farm_group : List Par := [.v true ct4, .v false [CT.int .i64]]
abbrev outs_impl_Farm_group : List (Bool × List CT) := [(false, [CT.int .i64]), (false, [CT.bool])]
namespace impl_Farm_group
/-! ### (loop.example/g00095/impl.Farm).group (function 75) -/
noncomputable def ztbl : Tbl := tblL [(97, [98], S_slices_BinarySearchFunc_impl_Group_impl_Group_int64_at_impl_Farm_group_1)]
noncomputable def zbody : Code := ((Tryz.prog.funcs[75]?).bind (·.body)).getD .skip
def zcfg : Nat → List Nat × List Nat := fun k => ([], [])
noncomputable def T  (f0 : Int) (f1 f2 : List U5) (id : Int) : Option (Int × Bool × Unit) := (F_slices_BinarySearchFunc_impl_Group_impl_Group_int64_at_impl_Farm_group_1 (f1, id, ())).bind fun y1 => some (y1.1, y1.2.1, ())
theorem ztop (k0 : Nat) (f0 : Int) (f1 f2 : List U5) (id : Int) : runFn Tryz.prog ztbl zcfg k0 75 ins_impl_Farm_group outs_impl_Farm_group [] (f0, f1, f2, id, ()) = T  f0 f1 f2 id := by kernel_rfl
noncomputable def _root_.Go.Rv.F_impl_Farm_group : Int × (List U5) × (List U5) × Int × Unit → Option (Int × Bool × Unit) := fun x => T x.1 x.2.1 x.2.2.1 x.2.2.2.1
noncomputable abbrev _root_.Go.Rv.S_impl_Farm_group : Summ := ⟨ins_impl_Farm_group, outs_impl_Farm_group, F_impl_Farm_group, []⟩
theorem _root_.Go.Rv.ok_impl_Farm_group : SumOK Dr Tryz.prog 75 S_impl_Farm_group := runFn_ok (by kernel_rfl) (tblL_ok (.cons ok_slices_BinarySearchFunc_impl_Group_impl_Group_int64_at_impl_Farm_group_1 .nil)) (by kernel_rfl) fun x y h => ⟨zcfg, 0, (ztop 0 x.1 x.2.1 x.2.2.1 x.2.2.2.1).trans h⟩
end impl_Farm_group
abbrev ins_impl_Farm_hasGroup : List Par := [.v true ct4, .v false [CT.int .i64]]
abbrev outs_impl_Farm_hasGroup : List (Bool × List CT) := [(false, [CT.bool])]
namespace impl_Farm_hasGroup
/-! ### (loop.example/g00095/impl.Farm).hasGroup (function 66) -/
noncomputable def ztbl : Tbl := tblL [(75, [], S_impl_Farm_group)]
noncomputable def zbody : Code := ((Tryz.prog.funcs[66]?).bind (·.body)).getD .skip
def zcfg : Nat → List Nat × List Nat := fun k => ([], [])
noncomputable def T  (f0 : Int) (f1 f2 : List U5) (id : Int) : Option (Bool × Unit) := (F_impl_Farm_group (f0, f1, f2, id, ())).bind fun y1 => cond y1.2.1 (some (true, ())) (some ((id == 0), ()))
theorem ztop (k0 : Nat) (f0 : Int) (f1 f2 : List U5) (id : Int) : runFn Tryz.prog ztbl zcfg k0 66 ins_impl_Farm_hasGroup outs_impl_Farm_hasGroup [] (f0, f1, f2, id, ()) = T  f0 f1 f2 id := by kernel_rfl
noncomputable def _root_.Go.Rv.F_impl_Farm_hasGroup : Int × (List U5) × (List U5) × Int × Unit → Option (Bool × Unit) := fun x => T x.1 x.2.1 x.2.2.1 x.2.2.2.1
noncomputable abbrev _root_.Go.Rv.S_impl_Farm_hasGroup : Summ := ⟨ins_impl_Farm_hasGroup, outs_impl_Farm_hasGroup, F_impl_Farm_hasGroup, []⟩
theorem _root_.Go.Rv.ok_impl_Farm_hasGroup : SumOK Dr Tryz.prog 66 S_impl_Farm_hasGroup := runFn_ok (by kernel_rfl) (tblL_ok (.cons ok_impl_Farm_group .nil)) (by kernel_rfl) fun x y h => ⟨zcfg, 0, (ztop 0 x.1 x.2.1 x.2.2.1 x.2.2.2.1).trans h⟩
end impl_Farm_hasGroup
abbrev ins_impl_isWeight : List Par := [.v false [CT.int .i64]]
abbrev outs_impl_isWeight : List (Bool × List CT) := [(false, [CT.bool])]
namespace impl_isWeight
/-! ### loop.example/g00095/impl.isWeight (function 67) -/
noncomputable def ztbl : Tbl := tblL [(46, [], S_impl_in)]
noncomputable def zbody : Code := ((Tryz.prog.funcs[67]?).bind (·.body)).getD .skip
def zcfg : Nat → List Nat × List Nat := fun k => ([], [])
noncomputable def T  (n : Int) : Option (Bool × Unit) := (F_impl_in (n, 1, 1073741824, ())).bind fun y1 => some (y1.1, ())
theorem ztop (k0 : Nat) (n : Int) : runFn Tryz.prog ztbl zcfg k0 67 ins_impl_isWeight outs_impl_isWeight [] (n, ()) = T  n := by kernel_rfl
noncomputable def _root_.Go.Rv.F_impl_isWeight : Int × Unit → Option (Bool × Unit) := fun x => T x.1
noncomputable abbrev _root_.Go.Rv.S_impl_isWeight : Summ := ⟨ins_impl_isWeight, outs_impl_isWeight, F_impl_isWeight, []⟩
theorem _root_.Go.Rv.ok_impl_isWeight : SumOK Dr Tryz.prog 67 S_impl_isWeight := runFn_ok (by kernel_rfl) (tblL_ok (.cons ok_impl_in .nil)) (by kernel_rfl) fun x y h => ⟨zcfg, 0, (ztop 0 x.1).trans h⟩
end impl_isWeight
abbrev ins_impl_FarmRight : List Par := [.v true ct4]
abbrev outs_impl_FarmRight : List (Bool × List CT) := [(false, [CT.bool])]
namespace impl_FarmRight
/-! ### loop.example/g00095/impl.FarmRight (function 35) -/
noncomputable def ztbl : Tbl := tblL [(64, [], S_impl_isWant), (65, [], S_impl_isId), (66, [], S_impl_Farm_hasGroup), (67, [], S_impl_isWeight)]
noncomputable def zbody : Code := ((Tryz.prog.funcs[35]?).bind (·.body)).getD .skip
def zcfg : Nat → List Nat × List Nat := fun k => if k = 4 then ([1, 25, 26, 27], [1, 2]) else if k = 11 then ([1, 78, 79, 80], [2]) else ([], [])
noncomputable def R0 {R : Type} (nx0 : ((List U5) → Int → Int → Int → (List U5) → (List U5) → Option R)) (ex0 : (Bool → Int → (List U5) → (List U5) → Option R)) (ex1 : (Int → (List U5) → (List U5) → Option R)) (t25x : List U5) (t26x t27x f : Int) (f3 f4 : List U5) : Option R := cond (decide (t27x < t26x)) (if 0 ≤ t27x ∧ t27x < (t25x.length : Int) then if 0 ≤ t27x ∧ t27x ≤ (f3.length : Int) then (F_impl_isId ((rd (0, 0, 0, 0, ()) t25x t27x).1, ())).bind fun y1 => cond (!y1.1) (ex0 false f f3 f4) (cond (decide (t27x > 0)) (if 0 ≤ (w64 (t27x - 1)) ∧ (w64 (t27x - 1)) < (f3.length : Int) then cond (decide ((rd (0, 0, 0, 0, ()) f3 (w64 (t27x - 1))).1 ≥ (rd (0, 0, 0, 0, ()) t25x t27x).1)) (ex0 false f f3 f4) ((F_impl_Farm_hasGroup (0, (f3.take (t27x.toNat)), [], (rd (0, 0, 0, 0, ()) t25x t27x).2.1, ())).bind fun y2 => cond (!y2.1) (ex0 false f f3 f4) ((F_impl_isWant ((rd (0, 0, 0, 0, ()) t25x t27x).2.2.1, ())).bind fun y3 => cond (!y3.1) (ex0 false f f3 f4) ((F_impl_isWeight ((rd (0, 0, 0, 0, ()) t25x t27x).2.2.2.1, ())).bind fun y4 => cond (!y4.1) (ex0 false f f3 f4) (nx0 t25x t26x (w64 (t27x + 1)) f f3 f4)))) else none) ((F_impl_Farm_hasGroup (0, (f3.take (t27x.toNat)), [], (rd (0, 0, 0, 0, ()) t25x t27x).2.1, ())).bind fun y5 => cond (!y5.1) (ex0 false f f3 f4) ((F_impl_isWant ((rd (0, 0, 0, 0, ()) t25x t27x).2.2.1, ())).bind fun y6 => cond (!y6.1) (ex0 false f f3 f4) ((F_impl_isWeight ((rd (0, 0, 0, 0, ()) t25x t27x).2.2.2.1, ())).bind fun y7 => cond (!y7.1) (ex0 false f f3 f4) (nx0 t25x t26x (w64 (t27x + 1)) f f3 f4))))) else none else none) (ex1 f f3 f4)
noncomputable def R1 {R : Type} (nx1 : ((List U5) → Int → Int → Int → (List U5) → (List U5) → Option R)) (ex2 : (Bool → Option R)) (ex3 : (Unit → Option R)) (t78x : List U5) (t79x t80x f : Int) (f3 f4 : List U5) : Option R := cond (decide (t80x < t79x)) (if 0 ≤ t80x ∧ t80x < (t78x.length : Int) then (F_impl_isId ((rd (0, 0, 0, 0, ()) t78x t80x).1, ())).bind fun y1 => cond (!y1.1) (ex2 false) (cond (decide (t80x > 0)) (if 0 ≤ (w64 (t80x - 1)) ∧ (w64 (t80x - 1)) < (f4.length : Int) then cond (decide ((rd (0, 0, 0, 0, ()) f4 (w64 (t80x - 1))).1 ≥ (rd (0, 0, 0, 0, ()) t78x t80x).1)) (ex2 false) ((F_impl_Farm_hasGroup (f, f3, f4, (rd (0, 0, 0, 0, ()) t78x t80x).2.1, ())).bind fun y2 => cond (!y2.1) (ex2 false) ((F_impl_isWant ((rd (0, 0, 0, 0, ()) t78x t80x).2.2.1, ())).bind fun y3 => cond (!y3.1) (ex2 false) ((F_impl_isWeight ((rd (0, 0, 0, 0, ()) t78x t80x).2.2.2.1, ())).bind fun y4 => cond (!y4.1) (ex2 false) (nx1 t78x t79x (w64 (t80x + 1)) f f3 f4)))) else none) ((F_impl_Farm_hasGroup (f, f3, f4, (rd (0, 0, 0, 0, ()) t78x t80x).2.1, ())).bind fun y5 => cond (!y5.1) (ex2 false) ((F_impl_isWant ((rd (0, 0, 0, 0, ()) t78x t80x).2.2.1, ())).bind fun y6 => cond (!y6.1) (ex2 false) ((F_impl_isWeight ((rd (0, 0, 0, 0, ()) t78x t80x).2.2.2.1, ())).bind fun y7 => cond (!y7.1) (ex2 false) (nx1 t78x t79x (w64 (t80x + 1)) f f3 f4))))) else none) (ex3 ())
noncomputable def A0  (f0 : Int) (f1 f2 : List U5) (t2x : Bool) (f : Int) (f3 f4 : List U5) : Option (Bool × Unit) := some (t2x, ())
noncomputable def A1 (lo1 : ((List U5) → Int → Int → Int → (List U5) → (List U5) → Option (Bool × Unit))) (f0 : Int) (f1 f2 : List U5) (f : Int) (f3 f4 : List U5) : Option (Bool × Unit) := lo1 f4 (f4.length : Int) 0 f f3 f4
noncomputable def A2  (f0 : Int) (f1 f2 : List U5) (t2x : Bool) : Option (Bool × Unit) := some (t2x, ())
noncomputable def A3  (f0 : Int) (f1 f2 : List U5) (_u : Unit) : Option (Bool × Unit) := some (true, ())
noncomputable def T (lo0 : ((List U5) → Int → Int → Int → (List U5) → (List U5) → Option (Bool × Unit))) (f0 : Int) (f1 f2 : List U5) : Option (Bool × Unit) := (F_impl_isWant (f0, ())).bind fun y1 => cond (!y1.1) (some (false, ())) (cond (decide ((f1.length : Int) > 30)) (some (false, ())) (cond (decide ((f2.length : Int) > 60)) (some (false, ())) (lo0 f1 (f1.length : Int) 0 f0 f1 f2)))
noncomputable def zst0 {R : Type} (k0 : Nat) : Env → List Ob → Kont R → Option R := fun env ob K => runCode Tryz.prog ztbl 125 0 zcfg k0 (codeAt [1, 1, 0, 1, 0, 0] zbody) env ob K
noncomputable def K0 {R : Type} (k0 : Nat) (K : Kont R) : Kont R := blockK 0 (seqK (fun env ob => runCode Tryz.prog ztbl 125 0 zcfg k0 (codeAt [1, 1, 1] zbody) env ob (K)) (K))
noncomputable def zst1 {R : Type} (k0 : Nat) : Env → List Ob → Kont R → Option R := fun env ob K => runCode Tryz.prog ztbl 125 0 zcfg k0 (codeAt [1, 1, 1, 0, 1, 0, 0] zbody) env ob K
noncomputable def K1 {R : Type} (k0 : Nat) (K : Kont R) : Kont R := blockK 2 (seqK (fun env ob => runCode Tryz.prog ztbl 125 0 zcfg k0 (codeAt [1, 1, 1, 1] zbody) env ob (K)) (K))
noncomputable def L0 {R : Type} (k0 k : Nat) (K : Kont R) (t25x : List U5) (t26x t27x f : Int) (f3 f4 : List U5) : Option R := iter 0 [1, 25, 26, 27] [1, 2] (zst0 k0) k [(1, .ptr 0 0 0 0), (25, .sl ct2 t25x), (26, .int .i64 t26x), (27, .int .i64 t27x)] [.box [.int .i64 f, .sl ct2 f3, .sl ct2 f4]] K
noncomputable def L1 {R : Type} (k0 k : Nat) (K : Kont R) (t78x : List U5) (t79x t80x f : Int) (f3 f4 : List U5) : Option R := iter 0 [1, 78, 79, 80] [2] (zst1 k0) k [(1, .ptr 0 0 0 0), (78, .sl ct2 t78x), (79, .int .i64 t79x), (80, .int .i64 t80x)] [.box [.int .i64 f, .sl ct2 f3, .sl ct2 f4]] K
theorem zs0 {R : Type} (k0 k : Nat) (K : Kont R) (t25x : List U5) (t26x t27x f : Int) (f3 f4 : List U5) : L0 k0 (k + 1) K t25x t26x t27x f f3 f4 = R0 (L0 k0 k K) (fun t2x f f3 f4 => K .ret [(1, .ptr 0 0 0 0), (2, .bool t2x)] [.box [.int .i64 f, .sl ct2 f3, .sl ct2 f4]]) (fun f f3 f4 => K (.exit 0) [(1, .ptr 0 0 0 0), (2, .undef)] [.box [.int .i64 f, .sl ct2 f3, .sl ct2 f4]]) t25x t26x t27x f f3 f4 := by kernel_rfl
theorem zs1 {R : Type} (k0 k : Nat) (K : Kont R) (t78x : List U5) (t79x t80x f : Int) (f3 f4 : List U5) : L1 k0 (k + 1) K t78x t79x t80x f f3 f4 = R1 (L1 k0 k K) (fun t2x => K .ret [(2, .bool t2x)] []) (fun _ => K (.exit 2) [(2, .undef)] []) t78x t79x t80x f f3 f4 := by kernel_rfl
theorem za0 (k0 : Nat) (f0 : Int) (f1 f2 : List U5) (t2x : Bool) (f : Int) (f3 f4 : List U5) : K0 (R := (Bool × Unit)) k0 (finK Tryz.prog [.tmp 2] ins_impl_FarmRight outs_impl_FarmRight (f0, f1, f2, ())) .ret [(1, .ptr 0 0 0 0), (2, .bool t2x)] [.box [.int .i64 f, .sl ct2 f3, .sl ct2 f4]] = A0  f0 f1 f2 t2x f f3 f4 := by kernel_rfl
theorem za1 (k0 : Nat) (f0 : Int) (f1 f2 : List U5) (f : Int) (f3 f4 : List U5) : K0 (R := (Bool × Unit)) k0 (finK Tryz.prog [.tmp 2] ins_impl_FarmRight outs_impl_FarmRight (f0, f1, f2, ())) (.exit 0) [(1, .ptr 0 0 0 0), (2, .undef)] [.box [.int .i64 f, .sl ct2 f3, .sl ct2 f4]] = A1 (L1 (R := (Bool × Unit)) k0 k0 (K1 (R := (Bool × Unit)) k0 ((finK Tryz.prog [.tmp 2] ins_impl_FarmRight outs_impl_FarmRight (f0, f1, f2, ()))))) f0 f1 f2 f f3 f4 := by kernel_rfl
theorem za2 (k0 : Nat) (f0 : Int) (f1 f2 : List U5) (t2x : Bool) : K1 (R := (Bool × Unit)) k0 (finK Tryz.prog [.tmp 2] ins_impl_FarmRight outs_impl_FarmRight (f0, f1, f2, ())) .ret [(2, .bool t2x)] [] = A2  f0 f1 f2 t2x := by kernel_rfl
theorem za3 (k0 : Nat) (f0 : Int) (f1 f2 : List U5)  : K1 (R := (Bool × Unit)) k0 (finK Tryz.prog [.tmp 2] ins_impl_FarmRight outs_impl_FarmRight (f0, f1, f2, ())) (.exit 2) [(2, .undef)] [] = A3  f0 f1 f2 () := by kernel_rfl
theorem ztop (k0 : Nat) (f0 : Int) (f1 f2 : List U5) : runFn Tryz.prog ztbl zcfg k0 35 ins_impl_FarmRight outs_impl_FarmRight [] (f0, f1, f2, ()) = T (L0 (R := (Bool × Unit)) k0 k0 (K0 (R := (Bool × Unit)) k0 ((finK Tryz.prog [.tmp 2] ins_impl_FarmRight outs_impl_FarmRight (f0, f1, f2, ()))))) f0 f1 f2 := by kernel_rfl
noncomputable def G0 {R : Type} (k0 : Nat) (hx0 : (Bool → Int → (List U5) → (List U5) → Option R)) (hx1 : (Int → (List U5) → (List U5) → Option R)) : Nat → (List U5) → Int → Int → Int → (List U5) → (List U5) → Option R
 | 0, _, _, _, _, _, _ => none
 | k + 1, t25x, t26x, t27x, f, f3, f4 => R0 (G0 k0 hx0 hx1 k) hx0 hx1 t25x t26x t27x f f3 f4
theorem zg0 {R : Type} (k0 : Nat) (K : Kont R) : ∀ k : Nat, L0 k0 k K = G0 k0 (fun t2x f f3 f4 => K .ret [(1, .ptr 0 0 0 0), (2, .bool t2x)] [.box [.int .i64 f, .sl ct2 f3, .sl ct2 f4]]) (fun f f3 f4 => K (.exit 0) [(1, .ptr 0 0 0 0), (2, .undef)] [.box [.int .i64 f, .sl ct2 f3, .sl ct2 f4]]) k := by
 intro k
 induction k with
 | zero => funext t25x t26x t27x f f3 f4; rfl
 | succ k ih => funext t25x t26x t27x f f3 f4; rw [zs0, G0]; (try simp only [ih]); try rfl
noncomputable def G1 {R : Type} (k0 : Nat) (hx2 : (Bool → Option R)) (hx3 : (Unit → Option R)) : Nat → (List U5) → Int → Int → Int → (List U5) → (List U5) → Option R
 | 0, _, _, _, _, _, _ => none
 | k + 1, t78x, t79x, t80x, f, f3, f4 => R1 (G1 k0 hx2 hx3 k) hx2 hx3 t78x t79x t80x f f3 f4
theorem zg1 {R : Type} (k0 : Nat) (K : Kont R) : ∀ k : Nat, L1 k0 k K = G1 k0 (fun t2x => K .ret [(2, .bool t2x)] []) (fun _ => K (.exit 2) [(2, .undef)] []) k := by
 intro k
 induction k with
 | zero => funext t78x t79x t80x f f3 f4; rfl
 | succ k ih => funext t78x t79x t80x f f3 f4; rw [zs1, G1]; (try simp only [ih, zg0]); try rfl
noncomputable def FF (k0 : Nat) (f0 : Int) (f1 f2 : List U5) : Option (Bool × Unit) := T (G0 k0 (A0  f0 f1 f2) (A1 (G1 k0 (A2  f0 f1 f2) (A3  f0 f1 f2) k0) f0 f1 f2) k0) f0 f1 f2
theorem zrun (k0 : Nat) (f0 : Int) (f1 f2 : List U5) : runFn Tryz.prog ztbl zcfg k0 35 ins_impl_FarmRight outs_impl_FarmRight [] (f0, f1, f2, ()) = FF k0 f0 f1 f2 := by
 rw [ztop, FF]; (try simp only [zg0, zg1, za0, za1, za2, za3]); try rfl
noncomputable def _root_.Go.Rv.F_impl_FarmRight : U1 → Option (Bool × Unit) := fun x => (fun (f0 : Int) (f1 f2 : List U5) => FF (300 + f1.length + f2.length) f0 f1 f2) x.1 x.2.1 x.2.2.1
noncomputable abbrev _root_.Go.Rv.S_impl_FarmRight : Summ := ⟨ins_impl_FarmRight, outs_impl_FarmRight, F_impl_FarmRight, []⟩
theorem _root_.Go.Rv.ok_impl_FarmRight : SumOK Dr Tryz.prog 35 S_impl_FarmRight := runFn_ok (by kernel_rfl) (tblL_ok (.cons ok_impl_isWant (.cons ok_impl_isId (.cons ok_impl_Farm_hasGroup (.cons ok_impl_isWeight .nil))))) (by kernel_rfl) fun x y h => ⟨zcfg, _, (zrun _ x.1 x.2.1 x.2.2.1).trans h⟩
end impl_FarmRight
abbrev ins_impl_isTime : List Par := [.v false [CT.int .i64]]
abbrev outs_impl_isTime : List (Bool × List CT) := [(false, [CT.bool])]
namespace impl_isTime
/-! ### loop.example/g00095/impl.isTime (function 105) -/
noncomputable def ztbl : Tbl := tblL [(46, [], S_impl_in)]
noncomputable def zbody : Code := ((Tryz.prog.funcs[105]?).bind (·.body)).getD .skip
def zcfg : Nat → List Nat × List Nat := fun k => ([], [])
noncomputable def T  (n : Int) : Option (Bool × Unit) := (F_impl_in (n, 0, 1000000, ())).bind fun y1 => some (y1.1, ())
theorem ztop (k0 : Nat) (n : Int) : runFn Tryz.prog ztbl zcfg k0 105 ins_impl_isTime outs_impl_isTime [] (n, ()) = T  n := by kernel_rfl
noncomputable def _root_.Go.Rv.F_impl_isTime : Int × Unit → Option (Bool × Unit) := fun x => T x.1
noncomputable abbrev _root_.Go.Rv.S_impl_isTime : Summ := ⟨ins_impl_isTime, outs_impl_isTime, F_impl_isTime, []⟩
theorem _root_.Go.Rv.ok_impl_isTime : SumOK Dr Tryz.prog 105 S_impl_isTime := runFn_ok (by kernel_rfl) (tblL_ok (.cons ok_impl_in .nil)) (by kernel_rfl) fun x y h => ⟨zcfg, 0, (ztop 0 x.1).trans h⟩
end impl_isTime
abbrev ins_impl_Lease_isRight : List Par := [.v true ct0]
abbrev outs_impl_Lease_isRight : List (Bool × List CT) := [(false, [CT.bool])]
namespace impl_Lease_isRight
/-! ### (loop.example/g00095/impl.Lease).isRight (function 82) -/
noncomputable def ztbl : Tbl := tblL [(64, [], S_impl_isWant), (65, [], S_impl_isId), (105, [], S_impl_isTime)]
noncomputable def zbody : Code := ((Tryz.prog.funcs[82]?).bind (·.body)).getD .skip
def zcfg : Nat → List Nat × List Nat := fun k => ([], [])
noncomputable def T  (l0 l1 l2 : Int) : Option (Bool × Unit) := (F_impl_isId (l0, ())).bind fun y1 => cond y1.1 ((F_impl_isWant (l1, ())).bind fun y2 => cond y2.1 ((F_impl_isTime (l2, ())).bind fun y3 => some (y3.1, ())) (some (false, ()))) (some (false, ()))
theorem ztop (k0 : Nat) (l0 l1 l2 : Int) : runFn Tryz.prog ztbl zcfg k0 82 ins_impl_Lease_isRight outs_impl_Lease_isRight [] (l0, l1, l2, ()) = T  l0 l1 l2 := by kernel_rfl
noncomputable def _root_.Go.Rv.F_impl_Lease_isRight : U6 → Option (Bool × Unit) := fun x => T x.1 x.2.1 x.2.2.1
noncomputable abbrev _root_.Go.Rv.S_impl_Lease_isRight : Summ := ⟨ins_impl_Lease_isRight, outs_impl_Lease_isRight, F_impl_Lease_isRight, []⟩
theorem _root_.Go.Rv.ok_impl_Lease_isRight : SumOK Dr Tryz.prog 82 S_impl_Lease_isRight := runFn_ok (by kernel_rfl) (tblL_ok (.cons ok_impl_isWant (.cons ok_impl_isId (.cons ok_impl_isTime .nil)))) (by kernel_rfl) fun x y h => ⟨zcfg, 0, (ztop 0 x.1 x.2.1 x.2.2.1).trans h⟩
end impl_Lease_isRight
abbrev ins_impl_LeasesRight : List Par := [.v false [CT.sl ct0]]
abbrev outs_impl_LeasesRight : List (Bool × List CT) := [(false, [CT.bool])]
namespace impl_LeasesRight
/-! ### loop.example/g00095/impl.LeasesRight (function 47) -/
noncomputable def ztbl : Tbl := tblL [(82, [], S_impl_Lease_isRight)]
noncomputable def zbody : Code := ((Tryz.prog.funcs[47]?).bind (·.body)).getD .skip
def zcfg : Nat → List Nat × List Nat := fun k => if k = 2 then ([0, 5, 6, 7], [0, 2]) else ([], [])
noncomputable def R0 {R : Type} (nx0 : ((List U6) → (List U6) → Int → Int → Option R)) (ex0 : ((List U6) → Bool → Option R)) (ex1 : ((List U6) → Option R)) (list2 t5x : List U6) (t6x t7x : Int) : Option R := cond (decide (t7x < t6x)) (if 0 ≤ t7x ∧ t7x < (t5x.length : Int) then (F_impl_Lease_isRight ((rd (0, 0, 0, ()) t5x t7x).1, (rd (0, 0, 0, ()) t5x t7x).2.1, (rd (0, 0, 0, ()) t5x t7x).2.2.1, ())).bind fun y1 => cond (!y1.1) (ex0 list2 false) (cond (decide (t7x > 0)) (if 0 ≤ (w64 (t7x - 1)) ∧ (w64 (t7x - 1)) < (list2.length : Int) then cond (decide ((rd (0, 0, 0, ()) list2 (w64 (t7x - 1))).1 ≥ (rd (0, 0, 0, ()) t5x t7x).1)) (ex0 list2 false) (nx0 list2 t5x t6x (w64 (t7x + 1))) else none) (nx0 list2 t5x t6x (w64 (t7x + 1)))) else none) (ex1 list2)
noncomputable def A0  (list : List U6) (list2 : List U6) (t2x : Bool) : Option (Bool × Unit) := some (t2x, ())
noncomputable def A1  (list : List U6) (list2 : List U6) : Option (Bool × Unit) := some ((decide ((list2.length : Int) ≤ 60)), ())
noncomputable def T (lo0 : ((List U6) → (List U6) → Int → Int → Option (Bool × Unit))) (list : List U6) : Option (Bool × Unit) := lo0 list list (list.length : Int) 0
noncomputable def zst0 {R : Type} (k0 : Nat) : Env → List Ob → Kont R → Option R := fun env ob K => runCode Tryz.prog ztbl 34 0 zcfg k0 (codeAt [1, 0, 1, 0, 0] zbody) env ob K
noncomputable def K0 {R : Type} (k0 : Nat) (K : Kont R) : Kont R := blockK 0 (seqK (fun env ob => runCode Tryz.prog ztbl 34 0 zcfg k0 (codeAt [1, 1] zbody) env ob (K)) (K))
noncomputable def L0 {R : Type} (k0 k : Nat) (K : Kont R) (list2 t5x : List U6) (t6x t7x : Int) : Option R := iter 0 [0, 5, 6, 7] [0, 2] (zst0 k0) k [(0, .sl ct0 list2), (5, .sl ct0 t5x), (6, .int .i64 t6x), (7, .int .i64 t7x)] [] K
theorem zs0 {R : Type} (k0 k : Nat) (K : Kont R) (list2 t5x : List U6) (t6x t7x : Int) : L0 k0 (k + 1) K list2 t5x t6x t7x = R0 (L0 k0 k K) (fun list2 t2x => K .ret [(0, .sl ct0 list2), (2, .bool t2x)] []) (fun list2 => K (.exit 0) [(0, .sl ct0 list2), (2, .undef)] []) list2 t5x t6x t7x := by kernel_rfl
theorem za0 (k0 : Nat) (list : List U6) (list2 : List U6) (t2x : Bool) : K0 (R := (Bool × Unit)) k0 (finK Tryz.prog [.tmp 2] ins_impl_LeasesRight outs_impl_LeasesRight (list, ())) .ret [(0, .sl ct0 list2), (2, .bool t2x)] [] = A0  list list2 t2x := by kernel_rfl
theorem za1 (k0 : Nat) (list : List U6) (list2 : List U6) : K0 (R := (Bool × Unit)) k0 (finK Tryz.prog [.tmp 2] ins_impl_LeasesRight outs_impl_LeasesRight (list, ())) (.exit 0) [(0, .sl ct0 list2), (2, .undef)] [] = A1  list list2 := by kernel_rfl
theorem ztop (k0 : Nat) (list : List U6) : runFn Tryz.prog ztbl zcfg k0 47 ins_impl_LeasesRight outs_impl_LeasesRight [] (list, ()) = T (L0 (R := (Bool × Unit)) k0 k0 (K0 (R := (Bool × Unit)) k0 ((finK Tryz.prog [.tmp 2] ins_impl_LeasesRight outs_impl_LeasesRight (list, ()))))) list := by kernel_rfl
noncomputable def G0 {R : Type} (k0 : Nat) (hx0 : ((List U6) → Bool → Option R)) (hx1 : ((List U6) → Option R)) : Nat → (List U6) → (List U6) → Int → Int → Option R
 | 0, _, _, _, _ => none
 | k + 1, list2, t5x, t6x, t7x => R0 (G0 k0 hx0 hx1 k) hx0 hx1 list2 t5x t6x t7x
theorem zg0 {R : Type} (k0 : Nat) (K : Kont R) : ∀ k : Nat, L0 k0 k K = G0 k0 (fun list2 t2x => K .ret [(0, .sl ct0 list2), (2, .bool t2x)] []) (fun list2 => K (.exit 0) [(0, .sl ct0 list2), (2, .undef)] []) k := by
 intro k
 induction k with
 | zero => funext list2 t5x t6x t7x; rfl
 | succ k ih => funext list2 t5x t6x t7x; rw [zs0, G0]; (try simp only [ih]); try rfl
noncomputable def FF (k0 : Nat) (list : List U6) : Option (Bool × Unit) := T (G0 k0 (A0  list) (A1  list) k0) list
theorem zrun (k0 : Nat) (list : List U6) : runFn Tryz.prog ztbl zcfg k0 47 ins_impl_LeasesRight outs_impl_LeasesRight [] (list, ()) = FF k0 list := by
 rw [ztop, FF]; (try simp only [zg0, za0, za1]); try rfl
noncomputable def _root_.Go.Rv.F_impl_LeasesRight : (List U6) × Unit → Option (Bool × Unit) := fun x => (fun (list : List U6) => FF (300 + list.length) list) x.1
noncomputable abbrev _root_.Go.Rv.S_impl_LeasesRight : Summ := ⟨ins_impl_LeasesRight, outs_impl_LeasesRight, F_impl_LeasesRight, []⟩
theorem _root_.Go.Rv.ok_impl_LeasesRight : SumOK Dr Tryz.prog 47 S_impl_LeasesRight := runFn_ok (by kernel_rfl) (tblL_ok (.cons ok_impl_Lease_isRight .nil)) (by kernel_rfl) fun x y h => ⟨zcfg, _, (zrun _ x.1).trans h⟩
end impl_LeasesRight
abbrev ins_impl_ServerRight : List Par := [.v true ct3]
abbrev outs_impl_ServerRight : List (Bool × List CT) := [(false, [CT.bool])]
namespace impl_ServerRight
/-! ### loop.example/g00095/impl.ServerRight (function 21) -/
noncomputable def ztbl : Tbl := tblL [(35, [], S_impl_FarmRight), (46, [], S_impl_in), (47, [], S_impl_LeasesRight)]
noncomputable def zbody : Code := ((Tryz.prog.funcs[21]?).bind (·.body)).getD .skip
def zcfg : Nat → List Nat × List Nat := fun k => if k = 4 then ([1, 46, 47, 48], [2]) else ([], [])
noncomputable def R0 {R : Type} (nx0 : ((List U6) → Int → Int → Int → Int → Int → Int → (List U5) → (List U5) → (List U6) → Option R)) (ex0 : (Bool → Option R)) (ex1 : (Unit → Option R)) (t46x : List U6) (t47x t48x s s7 s8 s9 : Int) (s10 s11 : List U5) (s12 : List U6) : Option R := cond (decide (t48x < t47x)) (if 0 ≤ t48x ∧ t48x < (t46x.length : Int) then if 0 ≤ t48x ∧ t48x < (s11.length : Int) then cond ((rd (0, 0, 0, ()) t46x t48x).1 != (rd (0, 0, 0, 0, ()) s11 t48x).1) (ex0 false) ((F_impl_in ((rd (0, 0, 0, ()) t46x t48x).2.2.1, (w64 (s8 + 1)), (w64 (s8 + s)), ())).bind fun y1 => cond (!y1.1) (ex0 false) (nx0 t46x t47x (w64 (t48x + 1)) s s7 s8 s9 s10 s11 s12)) else none else none) (ex1 ())
noncomputable def A0  (s0 s1 s2 s3 : Int) (s4 s5 : List U5) (s6 : List U6) (t2x : Bool) : Option (Bool × Unit) := some (t2x, ())
noncomputable def A1  (s0 s1 s2 s3 : Int) (s4 s5 : List U5) (s6 : List U6) (_u : Unit) : Option (Bool × Unit) := some (true, ())
noncomputable def T (lo0 : ((List U6) → Int → Int → Int → Int → Int → Int → (List U5) → (List U5) → (List U6) → Option (Bool × Unit))) (s0 s1 s2 s3 : Int) (s4 s5 : List U5) (s6 : List U6) : Option (Bool × Unit) := (F_impl_in (s0, 1, 1000, ())).bind fun y1 => cond (!y1.1) (some (false, ())) ((F_impl_in (s2, 0, 999000, ())).bind fun y2 => cond (!y2.1) (some (false, ())) ((F_impl_in (s1, 0, s2, ())).bind fun y3 => cond (!y3.1) (some (false, ())) ((F_impl_FarmRight (s3, s4, s5, ())).bind fun y4 => cond (!y4.1) (some (false, ())) ((F_impl_LeasesRight (s6, ())).bind fun y5 => cond (!y5.1) (some (false, ())) (cond ((s6.length : Int) != (s5.length : Int)) (some (false, ())) (lo0 s6 (s6.length : Int) 0 s0 s1 s2 s3 s4 s5 s6))))))
noncomputable def zst0 {R : Type} (k0 : Nat) : Env → List Ob → Kont R → Option R := fun env ob K => runCode Tryz.prog ztbl 78 0 zcfg k0 (codeAt [1, 1, 0, 1, 0, 0] zbody) env ob K
noncomputable def K0 {R : Type} (k0 : Nat) (K : Kont R) : Kont R := blockK 0 (seqK (fun env ob => runCode Tryz.prog ztbl 78 0 zcfg k0 (codeAt [1, 1, 1] zbody) env ob (K)) (K))
noncomputable def L0 {R : Type} (k0 k : Nat) (K : Kont R) (t46x : List U6) (t47x t48x s s7 s8 s9 : Int) (s10 s11 : List U5) (s12 : List U6) : Option R := iter 0 [1, 46, 47, 48] [2] (zst0 k0) k [(1, .ptr 0 0 0 0), (46, .sl ct0 t46x), (47, .int .i64 t47x), (48, .int .i64 t48x)] [.box [.int .i64 s, .int .i64 s7, .int .i64 s8, .int .i64 s9, .sl ct2 s10, .sl ct2 s11, .sl ct0 s12]] K
theorem zs0 {R : Type} (k0 k : Nat) (K : Kont R) (t46x : List U6) (t47x t48x s s7 s8 s9 : Int) (s10 s11 : List U5) (s12 : List U6) : L0 k0 (k + 1) K t46x t47x t48x s s7 s8 s9 s10 s11 s12 = R0 (L0 k0 k K) (fun t2x => K .ret [(2, .bool t2x)] []) (fun _ => K (.exit 0) [(2, .undef)] []) t46x t47x t48x s s7 s8 s9 s10 s11 s12 := by kernel_rfl
theorem za0 (k0 : Nat) (s0 s1 s2 s3 : Int) (s4 s5 : List U5) (s6 : List U6) (t2x : Bool) : K0 (R := (Bool × Unit)) k0 (finK Tryz.prog [.tmp 2] ins_impl_ServerRight outs_impl_ServerRight (s0, s1, s2, s3, s4, s5, s6, ())) .ret [(2, .bool t2x)] [] = A0  s0 s1 s2 s3 s4 s5 s6 t2x := by kernel_rfl
theorem za1 (k0 : Nat) (s0 s1 s2 s3 : Int) (s4 s5 : List U5) (s6 : List U6)  : K0 (R := (Bool × Unit)) k0 (finK Tryz.prog [.tmp 2] ins_impl_ServerRight outs_impl_ServerRight (s0, s1, s2, s3, s4, s5, s6, ())) (.exit 0) [(2, .undef)] [] = A1  s0 s1 s2 s3 s4 s5 s6 () := by kernel_rfl
theorem ztop (k0 : Nat) (s0 s1 s2 s3 : Int) (s4 s5 : List U5) (s6 : List U6) : runFn Tryz.prog ztbl zcfg k0 21 ins_impl_ServerRight outs_impl_ServerRight [] (s0, s1, s2, s3, s4, s5, s6, ()) = T (L0 (R := (Bool × Unit)) k0 k0 (K0 (R := (Bool × Unit)) k0 ((finK Tryz.prog [.tmp 2] ins_impl_ServerRight outs_impl_ServerRight (s0, s1, s2, s3, s4, s5, s6, ()))))) s0 s1 s2 s3 s4 s5 s6 := by kernel_rfl
noncomputable def G0 {R : Type} (k0 : Nat) (hx0 : (Bool → Option R)) (hx1 : (Unit → Option R)) : Nat → (List U6) → Int → Int → Int → Int → Int → Int → (List U5) → (List U5) → (List U6) → Option R
 | 0, _, _, _, _, _, _, _, _, _, _ => none
 | k + 1, t46x, t47x, t48x, s, s7, s8, s9, s10, s11, s12 => R0 (G0 k0 hx0 hx1 k) hx0 hx1 t46x t47x t48x s s7 s8 s9 s10 s11 s12
theorem zg0 {R : Type} (k0 : Nat) (K : Kont R) : ∀ k : Nat, L0 k0 k K = G0 k0 (fun t2x => K .ret [(2, .bool t2x)] []) (fun _ => K (.exit 0) [(2, .undef)] []) k := by
 intro k
 induction k with
 | zero => funext t46x t47x t48x s s7 s8 s9 s10 s11 s12; rfl
 | succ k ih => funext t46x t47x t48x s s7 s8 s9 s10 s11 s12; rw [zs0, G0]; (try simp only [ih]); try rfl
noncomputable def FF (k0 : Nat) (s0 s1 s2 s3 : Int) (s4 s5 : List U5) (s6 : List U6) : Option (Bool × Unit) := T (G0 k0 (A0  s0 s1 s2 s3 s4 s5 s6) (A1  s0 s1 s2 s3 s4 s5 s6) k0) s0 s1 s2 s3 s4 s5 s6
theorem zrun (k0 : Nat) (s0 s1 s2 s3 : Int) (s4 s5 : List U5) (s6 : List U6) : runFn Tryz.prog ztbl zcfg k0 21 ins_impl_ServerRight outs_impl_ServerRight [] (s0, s1, s2, s3, s4, s5, s6, ()) = FF k0 s0 s1 s2 s3 s4 s5 s6 := by
 rw [ztop, FF]; (try simp only [zg0, za0, za1]); try rfl
noncomputable def _root_.Go.Rv.F_impl_ServerRight : U0 → Option (Bool × Unit) := fun x => (fun (s0 s1 s2 s3 : Int) (s4 s5 : List U5) (s6 : List U6) => FF (300 + s4.length + s5.length + s6.length) s0 s1 s2 s3 s4 s5 s6) x.1 x.2.1 x.2.2.1 x.2.2.2.1 x.2.2.2.2.1 x.2.2.2.2.2.1 x.2.2.2.2.2.2.1
noncomputable abbrev _root_.Go.Rv.S_impl_ServerRight : Summ := ⟨ins_impl_ServerRight, outs_impl_ServerRight, F_impl_ServerRight, []⟩
theorem _root_.Go.Rv.ok_impl_ServerRight : SumOK Dr Tryz.prog 21 S_impl_ServerRight := runFn_ok (by kernel_rfl) (tblL_ok (.cons ok_impl_FarmRight (.cons ok_impl_in (.cons ok_impl_LeasesRight .nil)))) (by kernel_rfl) fun x y h => ⟨zcfg, _, (zrun _ x.1 x.2.1 x.2.2.1 x.2.2.2.1 x.2.2.2.2.1 x.2.2.2.2.2.1 x.2.2.2.2.2.2.1).trans h⟩
end impl_ServerRight
abbrev ins_impl_Farm_cap : List Par := [.v true ct4, .v false [CT.int .i64]]
abbrev outs_impl_Farm_cap : List (Bool × List CT) := [(false, [CT.int .i64])]
namespace impl_Farm_cap
/-! ### (loop.example/g00095/impl.Farm).cap (function 112) -/
noncomputable def ztbl : Tbl := tblL [(75, [], S_impl_Farm_group)]
noncomputable def zbody : Code := ((Tryz.prog.funcs[112]?).bind (·.body)).getD .skip
def zcfg : Nat → List Nat × List Nat := fun k => ([], [])
noncomputable def T  (f0 : Int) (f1 f2 : List U5) (id : Int) : Option (Int × Unit) := cond (id == 0) (some (f0, ())) ((F_impl_Farm_group (f0, f1, f2, id, ())).bind fun y1 => if 0 ≤ y1.1 ∧ y1.1 < (f1.length : Int) then some ((rd (0, 0, 0, 0, ()) f1 y1.1).2.2.1, ()) else none)
theorem ztop (k0 : Nat) (f0 : Int) (f1 f2 : List U5) (id : Int) : runFn Tryz.prog ztbl zcfg k0 112 ins_impl_Farm_cap outs_impl_Farm_cap [] (f0, f1, f2, id, ()) = T  f0 f1 f2 id := by kernel_rfl
noncomputable def _root_.Go.Rv.F_impl_Farm_cap : Int × (List U5) × (List U5) × Int × Unit → Option (Int × Unit) := fun x => T x.1 x.2.1 x.2.2.1 x.2.2.2.1
noncomputable abbrev _root_.Go.Rv.S_impl_Farm_cap : Summ := ⟨ins_impl_Farm_cap, outs_impl_Farm_cap, F_impl_Farm_cap, []⟩
theorem _root_.Go.Rv.ok_impl_Farm_cap : SumOK Dr Tryz.prog 112 S_impl_Farm_cap := runFn_ok (by kernel_rfl) (tblL_ok (.cons ok_impl_Farm_group .nil)) (by kernel_rfl) fun x y h => ⟨zcfg, 0, (ztop 0 x.1 x.2.1 x.2.2.1 x.2.2.2.1).trans h⟩
end impl_Farm_cap
abbrev ins_impl_Farm_want : List Par := [.v true ct4, .v false [CT.int .i64]]
abbrev outs_impl_Farm_want : List (Bool × List CT) := [(false, [CT.int .i64])]
namespace impl_Farm_want
/-! ### (loop.example/g00095/impl.Farm).want (function 96) -/
noncomputable def ztbl (rc : Int × (List U5) × (List U5) × Int × Unit → Option (Int × Unit)) : Tbl := tblL [(96, [], ⟨ins_impl_Farm_want, outs_impl_Farm_want, rc, []⟩), (112, [], S_impl_Farm_cap)]
noncomputable def zbody : Code := ((Tryz.prog.funcs[96]?).bind (·.body)).getD .skip
def zcfg : Nat → List Nat × List Nat := fun k => if k = 3 then ([1, 2, 5, 11, 12, 13], [1, 2, 5]) else if k = 9 then ([1, 2, 5, 29, 30, 31], [1, 2, 5]) else ([], [])
noncomputable def R0 {R : Type} (rc : Int × (List U5) × (List U5) × Int × Unit → Option (Int × Unit)) (nx0 : (Int → Int → (List U5) → Int → Int → Int → (List U5) → (List U5) → Option R)) (ex0 : (Int → Int → Int → (List U5) → (List U5) → Option R)) (id2 sum : Int) (t11x : List U5) (t12x t13x f : Int) (f3 f4 : List U5) : Option R := cond (decide (t13x < t12x)) (if 0 ≤ t13x ∧ t13x < (t11x.length : Int) then cond ((rd (0, 0, 0, 0, ()) t11x t13x).2.1 == id2) ((rc (f, f3, f4, (rd (0, 0, 0, 0, ()) t11x t13x).1, ())).bind fun y1 => nx0 id2 (w64 (sum + y1.1)) t11x t12x (w64 (t13x + 1)) f f3 f4) (nx0 id2 sum t11x t12x (w64 (t13x + 1)) f f3 f4) else none) (ex0 id2 sum f f3 f4)
noncomputable def R1 {R : Type} (rc : Int × (List U5) × (List U5) × Int × Unit → Option (Int × Unit)) (nx1 : (Int → Int → (List U5) → Int → Int → Int → (List U5) → (List U5) → Option R)) (ex1 : (Int → Int → Int → (List U5) → (List U5) → Option R)) (id2 sum : Int) (t29x : List U5) (t30x t31x f : Int) (f3 f4 : List U5) : Option R := cond (decide (t31x < t30x)) (if 0 ≤ t31x ∧ t31x < (t29x.length : Int) then cond ((rd (0, 0, 0, 0, ()) t29x t31x).2.1 == id2) (nx1 id2 (w64 (sum + (rd (0, 0, 0, 0, ()) t29x t31x).2.2.1)) t29x t30x (w64 (t31x + 1)) f f3 f4) (nx1 id2 sum t29x t30x (w64 (t31x + 1)) f f3 f4) else none) (ex1 id2 sum f f3 f4)
noncomputable def A0 (rc : Int × (List U5) × (List U5) × Int × Unit → Option (Int × Unit)) (lo1 : (Int → Int → (List U5) → Int → Int → Int → (List U5) → (List U5) → Option (Int × Unit))) (f0 : Int) (f1 f2 : List U5) (id : Int) (id2 sum f : Int) (f3 f4 : List U5) : Option (Int × Unit) := lo1 id2 sum f4 (f4.length : Int) 0 f f3 f4
noncomputable def A1 (rc : Int × (List U5) × (List U5) × Int × Unit → Option (Int × Unit))  (f0 : Int) (f1 f2 : List U5) (id : Int) (id2 sum f : Int) (f3 f4 : List U5) : Option (Int × Unit) := (F_impl_Farm_cap (f, f3, f4, id2, ())).bind fun y1 => some ((mn sum y1.1), ())
noncomputable def T (rc : Int × (List U5) × (List U5) × Int × Unit → Option (Int × Unit)) (lo0 : (Int → Int → (List U5) → Int → Int → Int → (List U5) → (List U5) → Option (Int × Unit))) (f0 : Int) (f1 f2 : List U5) (id : Int) : Option (Int × Unit) := lo0 id 0 f1 (f1.length : Int) 0 f0 f1 f2
noncomputable def zst0 {R : Type} (rc : Int × (List U5) × (List U5) × Int × Unit → Option (Int × Unit)) (k0 : Nat) : Env → List Ob → Kont R → Option R := fun env ob K => runCode Tryz.prog (ztbl rc) 49 0 zcfg k0 (codeAt [1, 1, 0, 1, 0, 0] zbody) env ob K
noncomputable def K0 {R : Type} (rc : Int × (List U5) × (List U5) × Int × Unit → Option (Int × Unit)) (k0 : Nat) (K : Kont R) : Kont R := blockK 0 (seqK (fun env ob => runCode Tryz.prog (ztbl rc) 49 0 zcfg k0 (codeAt [1, 1, 1] zbody) env ob (K)) (K))
noncomputable def zst1 {R : Type} (rc : Int × (List U5) × (List U5) × Int × Unit → Option (Int × Unit)) (k0 : Nat) : Env → List Ob → Kont R → Option R := fun env ob K => runCode Tryz.prog (ztbl rc) 49 0 zcfg k0 (codeAt [1, 1, 1, 0, 1, 0, 0] zbody) env ob K
noncomputable def K1 {R : Type} (rc : Int × (List U5) × (List U5) × Int × Unit → Option (Int × Unit)) (k0 : Nat) (K : Kont R) : Kont R := blockK 2 (seqK (fun env ob => runCode Tryz.prog (ztbl rc) 49 0 zcfg k0 (codeAt [1, 1, 1, 1] zbody) env ob (K)) (K))
noncomputable def L0 {R : Type} (rc : Int × (List U5) × (List U5) × Int × Unit → Option (Int × Unit)) (k0 k : Nat) (K : Kont R) (id2 sum : Int) (t11x : List U5) (t12x t13x f : Int) (f3 f4 : List U5) : Option R := iter 0 [1, 2, 5, 11, 12, 13] [1, 2, 5] (zst0 rc k0) k [(1, .int .i64 id2), (2, .ptr 0 0 0 0), (5, .int .i64 sum), (11, .sl ct2 t11x), (12, .int .i64 t12x), (13, .int .i64 t13x)] [.box [.int .i64 f, .sl ct2 f3, .sl ct2 f4]] K
noncomputable def L1 {R : Type} (rc : Int × (List U5) × (List U5) × Int × Unit → Option (Int × Unit)) (k0 k : Nat) (K : Kont R) (id2 sum : Int) (t29x : List U5) (t30x t31x f : Int) (f3 f4 : List U5) : Option R := iter 0 [1, 2, 5, 29, 30, 31] [1, 2, 5] (zst1 rc k0) k [(1, .int .i64 id2), (2, .ptr 0 0 0 0), (5, .int .i64 sum), (29, .sl ct2 t29x), (30, .int .i64 t30x), (31, .int .i64 t31x)] [.box [.int .i64 f, .sl ct2 f3, .sl ct2 f4]] K
theorem zs0 {R : Type} (rc : Int × (List U5) × (List U5) × Int × Unit → Option (Int × Unit)) (k0 k : Nat) (K : Kont R) (id2 sum : Int) (t11x : List U5) (t12x t13x f : Int) (f3 f4 : List U5) : L0 rc k0 (k + 1) K id2 sum t11x t12x t13x f f3 f4 = R0 rc (L0 rc k0 k K) (fun id2 sum f f3 f4 => K (.exit 0) [(1, .int .i64 id2), (2, .ptr 0 0 0 0), (5, .int .i64 sum)] [.box [.int .i64 f, .sl ct2 f3, .sl ct2 f4]]) id2 sum t11x t12x t13x f f3 f4 := by kernel_rfl
theorem zs1 {R : Type} (rc : Int × (List U5) × (List U5) × Int × Unit → Option (Int × Unit)) (k0 k : Nat) (K : Kont R) (id2 sum : Int) (t29x : List U5) (t30x t31x f : Int) (f3 f4 : List U5) : L1 rc k0 (k + 1) K id2 sum t29x t30x t31x f f3 f4 = R1 rc (L1 rc k0 k K) (fun id2 sum f f3 f4 => K (.exit 2) [(1, .int .i64 id2), (2, .ptr 0 0 0 0), (5, .int .i64 sum)] [.box [.int .i64 f, .sl ct2 f3, .sl ct2 f4]]) id2 sum t29x t30x t31x f f3 f4 := by kernel_rfl
theorem za0 (rc : Int × (List U5) × (List U5) × Int × Unit → Option (Int × Unit)) (k0 : Nat) (f0 : Int) (f1 f2 : List U5) (id : Int) (id2 sum f : Int) (f3 f4 : List U5) : K0 (R := (Int × Unit)) rc k0 (finK Tryz.prog [.tmp 4] ins_impl_Farm_want outs_impl_Farm_want (f0, f1, f2, id, ())) (.exit 0) [(1, .int .i64 id2), (2, .ptr 0 0 0 0), (5, .int .i64 sum)] [.box [.int .i64 f, .sl ct2 f3, .sl ct2 f4]] = A0 rc (L1 (R := (Int × Unit)) rc k0 k0 (K1 (R := (Int × Unit)) rc k0 ((finK Tryz.prog [.tmp 4] ins_impl_Farm_want outs_impl_Farm_want (f0, f1, f2, id, ()))))) f0 f1 f2 id id2 sum f f3 f4 := by kernel_rfl
theorem za1 (rc : Int × (List U5) × (List U5) × Int × Unit → Option (Int × Unit)) (k0 : Nat) (f0 : Int) (f1 f2 : List U5) (id : Int) (id2 sum f : Int) (f3 f4 : List U5) : K1 (R := (Int × Unit)) rc k0 (finK Tryz.prog [.tmp 4] ins_impl_Farm_want outs_impl_Farm_want (f0, f1, f2, id, ())) (.exit 2) [(1, .int .i64 id2), (2, .ptr 0 0 0 0), (5, .int .i64 sum)] [.box [.int .i64 f, .sl ct2 f3, .sl ct2 f4]] = A1 rc  f0 f1 f2 id id2 sum f f3 f4 := by kernel_rfl
theorem ztop (rc : Int × (List U5) × (List U5) × Int × Unit → Option (Int × Unit)) (k0 : Nat) (f0 : Int) (f1 f2 : List U5) (id : Int) : runFn Tryz.prog (ztbl rc) zcfg k0 96 ins_impl_Farm_want outs_impl_Farm_want [] (f0, f1, f2, id, ()) = T rc (L0 (R := (Int × Unit)) rc k0 k0 (K0 (R := (Int × Unit)) rc k0 ((finK Tryz.prog [.tmp 4] ins_impl_Farm_want outs_impl_Farm_want (f0, f1, f2, id, ()))))) f0 f1 f2 id := by kernel_rfl
noncomputable def G0 {R : Type} (rc : Int × (List U5) × (List U5) × Int × Unit → Option (Int × Unit)) (k0 : Nat) (hx0 : (Int → Int → Int → (List U5) → (List U5) → Option R)) : Nat → Int → Int → (List U5) → Int → Int → Int → (List U5) → (List U5) → Option R
 | 0, _, _, _, _, _, _, _, _ => none
 | k + 1, id2, sum, t11x, t12x, t13x, f, f3, f4 => R0 rc (G0 rc k0 hx0 k) hx0 id2 sum t11x t12x t13x f f3 f4
theorem zg0 {R : Type} (rc : Int × (List U5) × (List U5) × Int × Unit → Option (Int × Unit)) (k0 : Nat) (K : Kont R) : ∀ k : Nat, L0 rc k0 k K = G0 rc k0 (fun id2 sum f f3 f4 => K (.exit 0) [(1, .int .i64 id2), (2, .ptr 0 0 0 0), (5, .int .i64 sum)] [.box [.int .i64 f, .sl ct2 f3, .sl ct2 f4]]) k := by
 intro k
 induction k with
 | zero => funext id2 sum t11x t12x t13x f f3 f4; rfl
 | succ k ih => funext id2 sum t11x t12x t13x f f3 f4; rw [zs0, G0]; (try simp only [ih]); try rfl
noncomputable def G1 {R : Type} (rc : Int × (List U5) × (List U5) × Int × Unit → Option (Int × Unit)) (k0 : Nat) (hx1 : (Int → Int → Int → (List U5) → (List U5) → Option R)) : Nat → Int → Int → (List U5) → Int → Int → Int → (List U5) → (List U5) → Option R
 | 0, _, _, _, _, _, _, _, _ => none
 | k + 1, id2, sum, t29x, t30x, t31x, f, f3, f4 => R1 rc (G1 rc k0 hx1 k) hx1 id2 sum t29x t30x t31x f f3 f4
theorem zg1 {R : Type} (rc : Int × (List U5) × (List U5) × Int × Unit → Option (Int × Unit)) (k0 : Nat) (K : Kont R) : ∀ k : Nat, L1 rc k0 k K = G1 rc k0 (fun id2 sum f f3 f4 => K (.exit 2) [(1, .int .i64 id2), (2, .ptr 0 0 0 0), (5, .int .i64 sum)] [.box [.int .i64 f, .sl ct2 f3, .sl ct2 f4]]) k := by
 intro k
 induction k with
 | zero => funext id2 sum t29x t30x t31x f f3 f4; rfl
 | succ k ih => funext id2 sum t29x t30x t31x f f3 f4; rw [zs1, G1]; (try simp only [ih, zg0]); try rfl
noncomputable def FF (rc : Int × (List U5) × (List U5) × Int × Unit → Option (Int × Unit)) (k0 : Nat) (f0 : Int) (f1 f2 : List U5) (id : Int) : Option (Int × Unit) := T rc (G0 rc k0 (A0 rc (G1 rc k0 (A1 rc  f0 f1 f2 id) k0) f0 f1 f2 id) k0) f0 f1 f2 id
theorem zrun (rc : Int × (List U5) × (List U5) × Int × Unit → Option (Int × Unit)) (k0 : Nat) (f0 : Int) (f1 f2 : List U5) (id : Int) : runFn Tryz.prog (ztbl rc) zcfg k0 96 ins_impl_Farm_want outs_impl_Farm_want [] (f0, f1, f2, id, ()) = FF rc k0 f0 f1 f2 id := by
 rw [ztop, FF]; (try simp only [zg0, zg1, za0, za1]); try rfl
noncomputable def _root_.Go.Rv.FR_impl_Farm_want : Nat → Int × (List U5) × (List U5) × Int × Unit → Option (Int × Unit)
 | 0, _ => none
 | n + 1, x => (fun (f0 : Int) (f1 f2 : List U5) (id : Int) => FF (FR_impl_Farm_want n) (300 + f1.length + f2.length) f0 f1 f2 id) x.1 x.2.1 x.2.2.1 x.2.2.2.1
noncomputable def _root_.Go.Rv.F_impl_Farm_want : Int × (List U5) × (List U5) × Int × Unit → Option (Int × Unit) := fun x => (fun (f0 : Int) (f1 f2 : List U5) (id : Int) => FR_impl_Farm_want (300 + f1.length + f2.length) x) x.1 x.2.1 x.2.2.1 x.2.2.2.1
theorem ztblOK (rc : Int × (List U5) × (List U5) × Int × Unit → Option (Int × Unit)) (hr : SumOK Dr Tryz.prog 96 ⟨ins_impl_Farm_want, outs_impl_Farm_want, rc, []⟩) : ∀ g fs S, (ztbl rc) g fs = some S → SumOK Dr Tryz.prog g S := tblL_ok (.cons hr (.cons ok_impl_Farm_cap .nil))
noncomputable abbrev _root_.Go.Rv.S_impl_Farm_want : Summ := ⟨ins_impl_Farm_want, outs_impl_Farm_want, F_impl_Farm_want, []⟩
theorem _root_.Go.Rv.okr_impl_Farm_want : ∀ n, SumOK Dr Tryz.prog 96 ⟨ins_impl_Farm_want, outs_impl_Farm_want, FR_impl_Farm_want n, []⟩
 | 0 => ⟨fun args w => run_enter (by kernel_rfl) args w, fun w T J x y vals avals _ _ _ _ h => by cases h⟩
 | n + 1 => runFn_ok (by kernel_rfl) (ztblOK (FR_impl_Farm_want n) (okr_impl_Farm_want n)) (by kernel_rfl) fun x y h => ⟨zcfg, _, (zrun (FR_impl_Farm_want n) _ x.1 x.2.1 x.2.2.1 x.2.2.2.1).trans h⟩
theorem _root_.Go.Rv.ok_impl_Farm_want : SumOK Dr Tryz.prog 96 S_impl_Farm_want := ⟨fun args w => run_enter (by kernel_rfl) args w, fun w T J x y vals avals h1 h2 h3 h4 h5 h6 => (okr_impl_Farm_want _).2 w T J x y vals avals h1 h2 h3 h4 h5 h6⟩
end impl_Farm_want
abbrev ins_impl_Farm_kids : List Par := [.v true ct4, .v false [CT.int .i64]]
abbrev outs_impl_Farm_kids : List (Bool × List CT) := [(false, [CT.sl ct0]), (false, [CT.sl [CT.int .i64]]), (false, [CT.sl [CT.int .i64]])]
namespace impl_Farm_kids
/-! ### (loop.example/g00095/impl.Farm).kids (function 74) -/
noncomputable def ztbl : Tbl := tblL [(96, [], S_impl_Farm_want)]
noncomputable def zbody : Code := ((Tryz.prog.funcs[74]?).bind (·.body)).getD .skip
def zcfg : Nat → List Nat × List Nat := fun k => if k = 3 then ([1, 2, 7, 8, 9, 18, 19, 20], [1, 2, 7, 8, 9]) else if k = 9 then ([1, 7, 8, 9, 48, 49, 50], [7, 8, 9]) else ([], [])
noncomputable def R0 {R : Type} (nx0 : (Int → (List U5) → Int → Int → Int → (List U5) → (List U5) → (List U6) → (List (Int × Unit)) → (List (Int × Unit)) → Option R)) (ex0 : (Int → Int → (List U5) → (List U5) → (List U6) → (List (Int × Unit)) → (List (Int × Unit)) → Option R)) (id2 : Int) (t18x : List U5) (t19x t20x f : Int) (f3 f4 : List U5) (items : List U6) (groups members : List (Int × Unit)) : Option R := cond (decide (t20x < t19x)) (if 0 ≤ t20x ∧ t20x < (t18x.length : Int) then cond ((rd (0, 0, 0, 0, ()) t18x t20x).2.1 == id2) ((F_impl_Farm_want (f, f3, f4, (rd (0, 0, 0, 0, ()) t18x t20x).1, ())).bind fun y1 => if items.length + [((w64 ((items.length : Int) + 1)), y1.1, (rd (0, 0, 0, 0, ()) t18x t20x).2.2.2.1, ())].length ≤ maxRow then if groups.length + [(t20x, ())].length ≤ maxRow then nx0 id2 t18x t19x (w64 (t20x + 1)) f f3 f4 (items ++ [((w64 ((items.length : Int) + 1)), y1.1, (rd (0, 0, 0, 0, ()) t18x t20x).2.2.2.1, ())]) (groups ++ [(t20x, ())]) members else none else none) (nx0 id2 t18x t19x (w64 (t20x + 1)) f f3 f4 items groups members) else none) (ex0 id2 f f3 f4 items groups members)
noncomputable def R1 {R : Type} (nx1 : (Int → (List U5) → Int → Int → (List U6) → (List (Int × Unit)) → (List (Int × Unit)) → Option R)) (ex1 : ((List U6) → (List (Int × Unit)) → (List (Int × Unit)) → Option R)) (id2 : Int) (t48x : List U5) (t49x t50x : Int) (items : List U6) (groups members : List (Int × Unit)) : Option R := cond (decide (t50x < t49x)) (if 0 ≤ t50x ∧ t50x < (t48x.length : Int) then cond ((rd (0, 0, 0, 0, ()) t48x t50x).2.1 == id2) (if items.length + [((w64 ((items.length : Int) + 1)), (rd (0, 0, 0, 0, ()) t48x t50x).2.2.1, (rd (0, 0, 0, 0, ()) t48x t50x).2.2.2.1, ())].length ≤ maxRow then if members.length + [(t50x, ())].length ≤ maxRow then nx1 id2 t48x t49x (w64 (t50x + 1)) (items ++ [((w64 ((items.length : Int) + 1)), (rd (0, 0, 0, 0, ()) t48x t50x).2.2.1, (rd (0, 0, 0, 0, ()) t48x t50x).2.2.2.1, ())]) groups (members ++ [(t50x, ())]) else none else none) (nx1 id2 t48x t49x (w64 (t50x + 1)) items groups members) else none) (ex1 items groups members)
noncomputable def A0 (lo1 : (Int → (List U5) → Int → Int → (List U6) → (List (Int × Unit)) → (List (Int × Unit)) → Option ((List U6) × (List (Int × Unit)) × (List (Int × Unit)) × Unit))) (f0 : Int) (f1 f2 : List U5) (id : Int) (id2 f : Int) (f3 f4 : List U5) (items : List U6) (groups members : List (Int × Unit)) : Option ((List U6) × (List (Int × Unit)) × (List (Int × Unit)) × Unit) := lo1 id2 f4 (f4.length : Int) 0 items groups members
noncomputable def A1  (f0 : Int) (f1 f2 : List U5) (id : Int) (items : List U6) (groups members : List (Int × Unit)) : Option ((List U6) × (List (Int × Unit)) × (List (Int × Unit)) × Unit) := some (items, groups, members, ())
noncomputable def T (lo0 : (Int → (List U5) → Int → Int → Int → (List U5) → (List U5) → (List U6) → (List (Int × Unit)) → (List (Int × Unit)) → Option ((List U6) × (List (Int × Unit)) × (List (Int × Unit)) × Unit))) (f0 : Int) (f1 f2 : List U5) (id : Int) : Option ((List U6) × (List (Int × Unit)) × (List (Int × Unit)) × Unit) := lo0 id f1 (f1.length : Int) 0 f0 f1 f2 ([] : List U6) ([] : List (Int × Unit)) ([] : List (Int × Unit))
noncomputable def zst0 {R : Type} (k0 : Nat) : Env → List Ob → Kont R → Option R := fun env ob K => runCode Tryz.prog ztbl 78 0 zcfg k0 (codeAt [1, 1, 0, 1, 0, 0] zbody) env ob K
noncomputable def K0 {R : Type} (k0 : Nat) (K : Kont R) : Kont R := blockK 0 (seqK (fun env ob => runCode Tryz.prog ztbl 78 0 zcfg k0 (codeAt [1, 1, 1] zbody) env ob (K)) (K))
noncomputable def zst1 {R : Type} (k0 : Nat) : Env → List Ob → Kont R → Option R := fun env ob K => runCode Tryz.prog ztbl 78 0 zcfg k0 (codeAt [1, 1, 1, 0, 1, 0, 0] zbody) env ob K
noncomputable def K1 {R : Type} (k0 : Nat) (K : Kont R) : Kont R := blockK 2 (seqK (fun env ob => runCode Tryz.prog ztbl 78 0 zcfg k0 (codeAt [1, 1, 1, 1] zbody) env ob (K)) (K))
noncomputable def L0 {R : Type} (k0 k : Nat) (K : Kont R) (id2 : Int) (t18x : List U5) (t19x t20x f : Int) (f3 f4 : List U5) (items : List U6) (groups members : List (Int × Unit)) : Option R := iter 0 [1, 2, 7, 8, 9, 18, 19, 20] [1, 2, 7, 8, 9] (zst0 k0) k [(1, .int .i64 id2), (2, .ptr 0 0 0 0), (7, .own 1), (8, .own 2), (9, .own 3), (18, .sl ct2 t18x), (19, .int .i64 t19x), (20, .int .i64 t20x)] [.box [.int .i64 f, .sl ct2 f3, .sl ct2 f4], .arr ct0 items, .arr [CT.int .i64] groups, .arr [CT.int .i64] members] K
noncomputable def L1 {R : Type} (k0 k : Nat) (K : Kont R) (id2 : Int) (t48x : List U5) (t49x t50x : Int) (items : List U6) (groups members : List (Int × Unit)) : Option R := iter 0 [1, 7, 8, 9, 48, 49, 50] [7, 8, 9] (zst1 k0) k [(1, .int .i64 id2), (7, .own 0), (8, .own 1), (9, .own 2), (48, .sl ct2 t48x), (49, .int .i64 t49x), (50, .int .i64 t50x)] [.arr ct0 items, .arr [CT.int .i64] groups, .arr [CT.int .i64] members] K
theorem zs0 {R : Type} (k0 k : Nat) (K : Kont R) (id2 : Int) (t18x : List U5) (t19x t20x f : Int) (f3 f4 : List U5) (items : List U6) (groups members : List (Int × Unit)) : L0 k0 (k + 1) K id2 t18x t19x t20x f f3 f4 items groups members = R0 (L0 k0 k K) (fun id2 f f3 f4 items groups members => K (.exit 0) [(1, .int .i64 id2), (2, .ptr 0 0 0 0), (7, .own 1), (8, .own 2), (9, .own 3)] [.box [.int .i64 f, .sl ct2 f3, .sl ct2 f4], .arr ct0 items, .arr [CT.int .i64] groups, .arr [CT.int .i64] members]) id2 t18x t19x t20x f f3 f4 items groups members := by kernel_rfl
theorem zs1 {R : Type} (k0 k : Nat) (K : Kont R) (id2 : Int) (t48x : List U5) (t49x t50x : Int) (items : List U6) (groups members : List (Int × Unit)) : L1 k0 (k + 1) K id2 t48x t49x t50x items groups members = R1 (L1 k0 k K) (fun items groups members => K (.exit 2) [(7, .own 0), (8, .own 1), (9, .own 2)] [.arr ct0 items, .arr [CT.int .i64] groups, .arr [CT.int .i64] members]) id2 t48x t49x t50x items groups members := by kernel_rfl
theorem za0 (k0 : Nat) (f0 : Int) (f1 f2 : List U5) (id : Int) (id2 f : Int) (f3 f4 : List U5) (items : List U6) (groups members : List (Int × Unit)) : K0 (R := ((List U6) × (List (Int × Unit)) × (List (Int × Unit)) × Unit)) k0 (finK Tryz.prog [.tmp 4, .tmp 5, .tmp 6] ins_impl_Farm_kids outs_impl_Farm_kids (f0, f1, f2, id, ())) (.exit 0) [(1, .int .i64 id2), (2, .ptr 0 0 0 0), (7, .own 1), (8, .own 2), (9, .own 3)] [.box [.int .i64 f, .sl ct2 f3, .sl ct2 f4], .arr ct0 items, .arr [CT.int .i64] groups, .arr [CT.int .i64] members] = A0 (L1 (R := ((List U6) × (List (Int × Unit)) × (List (Int × Unit)) × Unit)) k0 k0 (K1 (R := ((List U6) × (List (Int × Unit)) × (List (Int × Unit)) × Unit)) k0 ((finK Tryz.prog [.tmp 4, .tmp 5, .tmp 6] ins_impl_Farm_kids outs_impl_Farm_kids (f0, f1, f2, id, ()))))) f0 f1 f2 id id2 f f3 f4 items groups members := by kernel_rfl
theorem za1 (k0 : Nat) (f0 : Int) (f1 f2 : List U5) (id : Int) (items : List U6) (groups members : List (Int × Unit)) : K1 (R := ((List U6) × (List (Int × Unit)) × (List (Int × Unit)) × Unit)) k0 (finK Tryz.prog [.tmp 4, .tmp 5, .tmp 6] ins_impl_Farm_kids outs_impl_Farm_kids (f0, f1, f2, id, ())) (.exit 2) [(7, .own 0), (8, .own 1), (9, .own 2)] [.arr ct0 items, .arr [CT.int .i64] groups, .arr [CT.int .i64] members] = A1  f0 f1 f2 id items groups members := by kernel_rfl
theorem ztop (k0 : Nat) (f0 : Int) (f1 f2 : List U5) (id : Int) : runFn Tryz.prog ztbl zcfg k0 74 ins_impl_Farm_kids outs_impl_Farm_kids [] (f0, f1, f2, id, ()) = T (L0 (R := ((List U6) × (List (Int × Unit)) × (List (Int × Unit)) × Unit)) k0 k0 (K0 (R := ((List U6) × (List (Int × Unit)) × (List (Int × Unit)) × Unit)) k0 ((finK Tryz.prog [.tmp 4, .tmp 5, .tmp 6] ins_impl_Farm_kids outs_impl_Farm_kids (f0, f1, f2, id, ()))))) f0 f1 f2 id := by kernel_rfl
noncomputable def G0 {R : Type} (k0 : Nat) (hx0 : (Int → Int → (List U5) → (List U5) → (List U6) → (List (Int × Unit)) → (List (Int × Unit)) → Option R)) : Nat → Int → (List U5) → Int → Int → Int → (List U5) → (List U5) → (List U6) → (List (Int × Unit)) → (List (Int × Unit)) → Option R
 | 0, _, _, _, _, _, _, _, _, _, _ => none
 | k + 1, id2, t18x, t19x, t20x, f, f3, f4, items, groups, members => R0 (G0 k0 hx0 k) hx0 id2 t18x t19x t20x f f3 f4 items groups members
theorem zg0 {R : Type} (k0 : Nat) (K : Kont R) : ∀ k : Nat, L0 k0 k K = G0 k0 (fun id2 f f3 f4 items groups members => K (.exit 0) [(1, .int .i64 id2), (2, .ptr 0 0 0 0), (7, .own 1), (8, .own 2), (9, .own 3)] [.box [.int .i64 f, .sl ct2 f3, .sl ct2 f4], .arr ct0 items, .arr [CT.int .i64] groups, .arr [CT.int .i64] members]) k := by
 intro k
 induction k with
 | zero => funext id2 t18x t19x t20x f f3 f4 items groups members; rfl
 | succ k ih => funext id2 t18x t19x t20x f f3 f4 items groups members; rw [zs0, G0]; (try simp only [ih]); try rfl
noncomputable def G1 {R : Type} (k0 : Nat) (hx1 : ((List U6) → (List (Int × Unit)) → (List (Int × Unit)) → Option R)) : Nat → Int → (List U5) → Int → Int → (List U6) → (List (Int × Unit)) → (List (Int × Unit)) → Option R
 | 0, _, _, _, _, _, _, _ => none
 | k + 1, id2, t48x, t49x, t50x, items, groups, members => R1 (G1 k0 hx1 k) hx1 id2 t48x t49x t50x items groups members
theorem zg1 {R : Type} (k0 : Nat) (K : Kont R) : ∀ k : Nat, L1 k0 k K = G1 k0 (fun items groups members => K (.exit 2) [(7, .own 0), (8, .own 1), (9, .own 2)] [.arr ct0 items, .arr [CT.int .i64] groups, .arr [CT.int .i64] members]) k := by
 intro k
 induction k with
 | zero => funext id2 t48x t49x t50x items groups members; rfl
 | succ k ih => funext id2 t48x t49x t50x items groups members; rw [zs1, G1]; (try simp only [ih, zg0]); try rfl
noncomputable def FF (k0 : Nat) (f0 : Int) (f1 f2 : List U5) (id : Int) : Option ((List U6) × (List (Int × Unit)) × (List (Int × Unit)) × Unit) := T (G0 k0 (A0 (G1 k0 (A1  f0 f1 f2 id) k0) f0 f1 f2 id) k0) f0 f1 f2 id
theorem zrun (k0 : Nat) (f0 : Int) (f1 f2 : List U5) (id : Int) : runFn Tryz.prog ztbl zcfg k0 74 ins_impl_Farm_kids outs_impl_Farm_kids [] (f0, f1, f2, id, ()) = FF k0 f0 f1 f2 id := by
 rw [ztop, FF]; (try simp only [zg0, zg1, za0, za1]); try rfl
noncomputable def _root_.Go.Rv.F_impl_Farm_kids : Int × (List U5) × (List U5) × Int × Unit → Option ((List U6) × (List (Int × Unit)) × (List (Int × Unit)) × Unit) := fun x => (fun (f0 : Int) (f1 f2 : List U5) (id : Int) => FF (300 + f1.length + f2.length) f0 f1 f2 id) x.1 x.2.1 x.2.2.1 x.2.2.2.1
noncomputable abbrev _root_.Go.Rv.S_impl_Farm_kids : Summ := ⟨ins_impl_Farm_kids, outs_impl_Farm_kids, F_impl_Farm_kids, []⟩
theorem _root_.Go.Rv.ok_impl_Farm_kids : SumOK Dr Tryz.prog 74 S_impl_Farm_kids := runFn_ok (by kernel_rfl) (tblL_ok (.cons ok_impl_Farm_want .nil)) (by kernel_rfl) fun x y h => ⟨zcfg, _, (zrun _ x.1 x.2.1 x.2.2.1 x.2.2.2.1).trans h⟩
end impl_Farm_kids
abbrev ins_slices_Index_impl_Item_impl_Item : List Par := [.v false [CT.sl ct0], .v true ct0]
abbrev outs_slices_Index_impl_Item_impl_Item : List (Bool × List CT) := [(false, [CT.int .i64])]
namespace slices_Index_impl_Item_impl_Item
/-! ### slices.Index[[]loop.example/g00095/impl.Item,loop.example/g00095/impl.Item] (function 116) -/
noncomputable def ztbl : Tbl := tblL []
noncomputable def zbody : Code := ((Tryz.prog.funcs[116]?).bind (·.body)).getD .skip
def zcfg : Nat → List Nat × List Nat := fun k => if k = 2 then ([0, 3, 7, 8], [4]) else ([], [])
noncomputable def R0 {R : Type} (nx0 : ((List U6) → Int → Int → Int → Int → Int → Option R)) (ex0 : (Int → Option R)) (ex1 : (Unit → Option R)) (s2 : List U6) (t7x t8x v v3 v4 : Int) : Option R := cond (decide (t8x < t7x)) (if 0 ≤ t8x ∧ t8x < (s2.length : Int) then cond ((v == (rd (0, 0, 0, ()) s2 t8x).1) && ((v3 == (rd (0, 0, 0, ()) s2 t8x).2.1) && ((v4 == (rd (0, 0, 0, ()) s2 t8x).2.2.1) && true))) (ex0 t8x) (nx0 s2 t7x (w64 (t8x + 1)) v v3 v4) else none) (ex1 ())
noncomputable def A0  (s : List U6) (v0 v1 v2 : Int) (t4x : Int) : Option (Int × Unit) := some (t4x, ())
noncomputable def A1  (s : List U6) (v0 v1 v2 : Int) (_u : Unit) : Option (Int × Unit) := some ((-1), ())
noncomputable def T (lo0 : ((List U6) → Int → Int → Int → Int → Int → Option (Int × Unit))) (s : List U6) (v0 v1 v2 : Int) : Option (Int × Unit) := lo0 s (s.length : Int) 0 v0 v1 v2
noncomputable def zst0 {R : Type} (k0 : Nat) : Env → List Ob → Kont R → Option R := fun env ob K => runCode Tryz.prog ztbl 19 0 zcfg k0 (codeAt [1, 0, 1, 0, 0] zbody) env ob K
noncomputable def K0 {R : Type} (k0 : Nat) (K : Kont R) : Kont R := blockK 0 (seqK (fun env ob => runCode Tryz.prog ztbl 19 0 zcfg k0 (codeAt [1, 1] zbody) env ob (K)) (K))
noncomputable def L0 {R : Type} (k0 k : Nat) (K : Kont R) (s2 : List U6) (t7x t8x v v3 v4 : Int) : Option R := iter 0 [0, 3, 7, 8] [4] (zst0 k0) k [(0, .sl ct0 s2), (3, .ptr 0 0 0 0), (7, .int .i64 t7x), (8, .int .i64 t8x)] [.box [.int .i64 v, .int .i64 v3, .int .i64 v4]] K
theorem zs0 {R : Type} (k0 k : Nat) (K : Kont R) (s2 : List U6) (t7x t8x v v3 v4 : Int) : L0 k0 (k + 1) K s2 t7x t8x v v3 v4 = R0 (L0 k0 k K) (fun t4x => K .ret [(4, .int .i64 t4x)] []) (fun _ => K (.exit 0) [(4, .undef)] []) s2 t7x t8x v v3 v4 := by kernel_rfl
theorem za0 (k0 : Nat) (s : List U6) (v0 v1 v2 : Int) (t4x : Int) : K0 (R := (Int × Unit)) k0 (finK Tryz.prog [.tmp 4] ins_slices_Index_impl_Item_impl_Item outs_slices_Index_impl_Item_impl_Item (s, v0, v1, v2, ())) .ret [(4, .int .i64 t4x)] [] = A0  s v0 v1 v2 t4x := by kernel_rfl
theorem za1 (k0 : Nat) (s : List U6) (v0 v1 v2 : Int)  : K0 (R := (Int × Unit)) k0 (finK Tryz.prog [.tmp 4] ins_slices_Index_impl_Item_impl_Item outs_slices_Index_impl_Item_impl_Item (s, v0, v1, v2, ())) (.exit 0) [(4, .undef)] [] = A1  s v0 v1 v2 () := by kernel_rfl
theorem ztop (k0 : Nat) (s : List U6) (v0 v1 v2 : Int) : runFn Tryz.prog ztbl zcfg k0 116 ins_slices_Index_impl_Item_impl_Item outs_slices_Index_impl_Item_impl_Item [] (s, v0, v1, v2, ()) = T (L0 (R := (Int × Unit)) k0 k0 (K0 (R := (Int × Unit)) k0 ((finK Tryz.prog [.tmp 4] ins_slices_Index_impl_Item_impl_Item outs_slices_Index_impl_Item_impl_Item (s, v0, v1, v2, ()))))) s v0 v1 v2 := by kernel_rfl
noncomputable def G0 {R : Type} (k0 : Nat) (hx0 : (Int → Option R)) (hx1 : (Unit → Option R)) : Nat → (List U6) → Int → Int → Int → Int → Int → Option R
 | 0, _, _, _, _, _, _ => none
 | k + 1, s2, t7x, t8x, v, v3, v4 => R0 (G0 k0 hx0 hx1 k) hx0 hx1 s2 t7x t8x v v3 v4
theorem zg0 {R : Type} (k0 : Nat) (K : Kont R) : ∀ k : Nat, L0 k0 k K = G0 k0 (fun t4x => K .ret [(4, .int .i64 t4x)] []) (fun _ => K (.exit 0) [(4, .undef)] []) k := by
 intro k
 induction k with
 | zero => funext s2 t7x t8x v v3 v4; rfl
 | succ k ih => funext s2 t7x t8x v v3 v4; rw [zs0, G0]; (try simp only [ih]); try rfl
noncomputable def FF (k0 : Nat) (s : List U6) (v0 v1 v2 : Int) : Option (Int × Unit) := T (G0 k0 (A0  s v0 v1 v2) (A1  s v0 v1 v2) k0) s v0 v1 v2
theorem zrun (k0 : Nat) (s : List U6) (v0 v1 v2 : Int) : runFn Tryz.prog ztbl zcfg k0 116 ins_slices_Index_impl_Item_impl_Item outs_slices_Index_impl_Item_impl_Item [] (s, v0, v1, v2, ()) = FF k0 s v0 v1 v2 := by
 rw [ztop, FF]; (try simp only [zg0, za0, za1]); try rfl
noncomputable def _root_.Go.Rv.F_slices_Index_impl_Item_impl_Item : (List U6) × U6 → Option (Int × Unit) := fun x => (fun (s : List U6) (v0 v1 v2 : Int) => FF (300 + s.length) s v0 v1 v2) x.1 x.2.1 x.2.2.1 x.2.2.2.1
noncomputable abbrev _root_.Go.Rv.S_slices_Index_impl_Item_impl_Item : Summ := ⟨ins_slices_Index_impl_Item_impl_Item, outs_slices_Index_impl_Item_impl_Item, F_slices_Index_impl_Item_impl_Item, []⟩
theorem _root_.Go.Rv.ok_slices_Index_impl_Item_impl_Item : SumOK Dr Tryz.prog 116 S_slices_Index_impl_Item_impl_Item := runFn_ok (by kernel_rfl) (tblL_ok .nil) (by kernel_rfl) fun x y h => ⟨zcfg, _, (zrun _ x.1 x.2.1 x.2.2.1 x.2.2.2.1).trans h⟩
end slices_Index_impl_Item_impl_Item
abbrev ins_impl_fill_1 : List Par := [.v true ct0, .r [CT.sl ct0]]
abbrev outs_impl_fill_1 : List (Bool × List CT) := [(false, [CT.int .i64])]
namespace impl_fill_1
/-! ### loop.example/g00095/impl.fill$1 (function 115) -/
noncomputable def ztbl : Tbl := tblL [(116, [], S_slices_Index_impl_Item_impl_Item)]
noncomputable def zbody : Code := ((Tryz.prog.funcs[115]?).bind (·.body)).getD .skip
def zcfg : Nat → List Nat × List Nat := fun k => ([], [])
noncomputable def T  (a0 a1 a2 : Int) (a'0 : List U6) : Option (Int × Unit) := (F_slices_Index_impl_Item_impl_Item ((a'0, ()).1, a0, a1, a2, ())).bind fun y1 => some (y1.1, ())
theorem ztop (k0 : Nat) (a0 a1 a2 : Int) (a'0 : List U6) : runFn Tryz.prog ztbl zcfg k0 115 ins_impl_fill_1 outs_impl_fill_1 [] (a0, a1, a2, a'0, ()) = T  a0 a1 a2 a'0 := by kernel_rfl
noncomputable def _root_.Go.Rv.F_impl_fill_1 : Int × Int × Int × (List U6) × Unit → Option (Int × Unit) := fun x => T x.1 x.2.1 x.2.2.1 x.2.2.2.1
noncomputable abbrev _root_.Go.Rv.S_impl_fill_1 : Summ := ⟨ins_impl_fill_1, outs_impl_fill_1, F_impl_fill_1, []⟩
theorem _root_.Go.Rv.ok_impl_fill_1 : SumOK Dr Tryz.prog 115 S_impl_fill_1 := runFn_ok (by kernel_rfl) (tblL_ok (.cons ok_slices_Index_impl_Item_impl_Item .nil)) (by kernel_rfl) fun x y h => ⟨zcfg, 0, (ztop 0 x.1 x.2.1 x.2.2.1 x.2.2.2.1).trans h⟩
end impl_fill_1
abbrev ins_impl_Item_fits : List Par := [.v true ct0, .v false [CT.int .i64], .v false [CT.int .i64]]
abbrev outs_impl_Item_fits : List (Bool × List CT) := [(false, [CT.bool])]
namespace impl_Item_fits
/-! ### (loop.example/g00095/impl.Item).fits (function 117) -/
noncomputable def ztbl : Tbl := tblL [(127, [], S_impl_comparePairs)]
noncomputable def zbody : Code := ((Tryz.prog.funcs[117]?).bind (·.body)).getD .skip
def zcfg : Nat → List Nat × List Nat := fun k => ([], [])
noncomputable def T  (a0 a1 a2 amount all : Int) : Option (Bool × Unit) := cond (decide (amount ≥ 0)) ((F_impl_comparePairs (a1, all, amount, a2, ())).bind fun y1 => some ((decide (y1.1 ≤ 0)), ())) (some (false, ()))
theorem ztop (k0 : Nat) (a0 a1 a2 amount all : Int) : runFn Tryz.prog ztbl zcfg k0 117 ins_impl_Item_fits outs_impl_Item_fits [] (a0, a1, a2, amount, all, ()) = T  a0 a1 a2 amount all := by kernel_rfl
noncomputable def _root_.Go.Rv.F_impl_Item_fits : Int × U5 → Option (Bool × Unit) := fun x => T x.1 x.2.1 x.2.2.1 x.2.2.2.1 x.2.2.2.2.1
noncomputable abbrev _root_.Go.Rv.S_impl_Item_fits : Summ := ⟨ins_impl_Item_fits, outs_impl_Item_fits, F_impl_Item_fits, []⟩
theorem _root_.Go.Rv.ok_impl_Item_fits : SumOK Dr Tryz.prog 117 S_impl_Item_fits := runFn_ok (by kernel_rfl) (tblL_ok (.cons ok_impl_comparePairs .nil)) (by kernel_rfl) fun x y h => ⟨zcfg, 0, (ztop 0 x.1 x.2.1 x.2.2.1 x.2.2.2.1 x.2.2.2.2.1).trans h⟩
end impl_Item_fits
abbrev ins_math_bits_Len64 : List Par := [.v false [CT.int .u64]]
abbrev outs_math_bits_Len64 : List (Bool × List CT) := [(false, [CT.int .i64])]
namespace math_bits_Len64
/-! ### math/bits.Len64 (function 131) -/
noncomputable def ztbl : Tbl := tblL []
noncomputable def zbody : Code := ((Tryz.prog.funcs[131]?).bind (·.body)).getD .skip
def zcfg : Nat → List Nat × List Nat := fun k => ([], [])
noncomputable def T  (x : Int) : Option (Int × Unit) := cond (decide (x ≥ 4294967296)) (cond (decide ((Int.fdiv x (2 ^ 32)) ≥ 65536)) (cond (decide ((Int.fdiv (Int.fdiv x (2 ^ 32)) (2 ^ 16)) ≥ 256)) (if 0 ≤ (IntKind.u8.wrap ((Int.fdiv (Int.fdiv (Int.fdiv x (2 ^ 32)) (2 ^ 16)) (2 ^ 8)))) ∧ (IntKind.u8.wrap ((Int.fdiv (Int.fdiv (Int.fdiv x (2 ^ 32)) (2 ^ 16)) (2 ^ 8)))) < ((strLit [0, 1, 2, 2, 3, 3, 3, 3, 4, 4, 4, 4, 4, 4, 4, 4, 5, 5, 5, 5, 5, 5, 5, 5, 5, 5, 5, 5, 5, 5, 5, 5, 6, 6, 6, 6, 6, 6, 6, 6, 6, 6, 6, 6, 6, 6, 6, 6, 6, 6, 6, 6, 6, 6, 6, 6, 6, 6, 6, 6, 6, 6, 6, 6, 7, 7, 7, 7, 7, 7, 7, 7, 7, 7, 7, 7, 7, 7, 7, 7, 7, 7, 7, 7, 7, 7, 7, 7, 7, 7, 7, 7, 7, 7, 7, 7, 7, 7, 7, 7, 7, 7, 7, 7, 7, 7, 7, 7, 7, 7, 7, 7, 7, 7, 7, 7, 7, 7, 7, 7, 7, 7, 7, 7, 7, 7, 7, 7, 8, 8, 8, 8, 8, 8, 8, 8, 8, 8, 8, 8, 8, 8, 8, 8, 8, 8, 8, 8, 8, 8, 8, 8, 8, 8, 8, 8, 8, 8, 8, 8, 8, 8, 8, 8, 8, 8, 8, 8, 8, 8, 8, 8, 8, 8, 8, 8, 8, 8, 8, 8, 8, 8, 8, 8, 8, 8, 8, 8, 8, 8, 8, 8, 8, 8, 8, 8, 8, 8, 8, 8, 8, 8, 8, 8, 8, 8, 8, 8, 8, 8, 8, 8, 8, 8, 8, 8, 8, 8, 8, 8, 8, 8, 8, 8, 8, 8, 8, 8, 8, 8, 8, 8, 8, 8, 8, 8, 8, 8, 8, 8, 8, 8, 8, 8, 8, 8, 8, 8, 8, 8, 8, 8, 8, 8, 8, 8]).size : Int) then some ((w64 ((w64 ((w64 (32 + 16)) + 8)) + (w64 ((bt (strLit [0, 1, 2, 2, 3, 3, 3, 3, 4, 4, 4, 4, 4, 4, 4, 4, 5, 5, 5, 5, 5, 5, 5, 5, 5, 5, 5, 5, 5, 5, 5, 5, 6, 6, 6, 6, 6, 6, 6, 6, 6, 6, 6, 6, 6, 6, 6, 6, 6, 6, 6, 6, 6, 6, 6, 6, 6, 6, 6, 6, 6, 6, 6, 6, 7, 7, 7, 7, 7, 7, 7, 7, 7, 7, 7, 7, 7, 7, 7, 7, 7, 7, 7, 7, 7, 7, 7, 7, 7, 7, 7, 7, 7, 7, 7, 7, 7, 7, 7, 7, 7, 7, 7, 7, 7, 7, 7, 7, 7, 7, 7, 7, 7, 7, 7, 7, 7, 7, 7, 7, 7, 7, 7, 7, 7, 7, 7, 7, 8, 8, 8, 8, 8, 8, 8, 8, 8, 8, 8, 8, 8, 8, 8, 8, 8, 8, 8, 8, 8, 8, 8, 8, 8, 8, 8, 8, 8, 8, 8, 8, 8, 8, 8, 8, 8, 8, 8, 8, 8, 8, 8, 8, 8, 8, 8, 8, 8, 8, 8, 8, 8, 8, 8, 8, 8, 8, 8, 8, 8, 8, 8, 8, 8, 8, 8, 8, 8, 8, 8, 8, 8, 8, 8, 8, 8, 8, 8, 8, 8, 8, 8, 8, 8, 8, 8, 8, 8, 8, 8, 8, 8, 8, 8, 8, 8, 8, 8, 8, 8, 8, 8, 8, 8, 8, 8, 8, 8, 8, 8, 8, 8, 8, 8, 8, 8, 8, 8, 8, 8, 8, 8, 8, 8, 8, 8, 8]) (IntKind.u8.wrap ((Int.fdiv (Int.fdiv (Int.fdiv x (2 ^ 32)) (2 ^ 16)) (2 ^ 8))))))))), ()) else none) (if 0 ≤ (IntKind.u8.wrap ((Int.fdiv (Int.fdiv x (2 ^ 32)) (2 ^ 16)))) ∧ (IntKind.u8.wrap ((Int.fdiv (Int.fdiv x (2 ^ 32)) (2 ^ 16)))) < ((strLit [0, 1, 2, 2, 3, 3, 3, 3, 4, 4, 4, 4, 4, 4, 4, 4, 5, 5, 5, 5, 5, 5, 5, 5, 5, 5, 5, 5, 5, 5, 5, 5, 6, 6, 6, 6, 6, 6, 6, 6, 6, 6, 6, 6, 6, 6, 6, 6, 6, 6, 6, 6, 6, 6, 6, 6, 6, 6, 6, 6, 6, 6, 6, 6, 7, 7, 7, 7, 7, 7, 7, 7, 7, 7, 7, 7, 7, 7, 7, 7, 7, 7, 7, 7, 7, 7, 7, 7, 7, 7, 7, 7, 7, 7, 7, 7, 7, 7, 7, 7, 7, 7, 7, 7, 7, 7, 7, 7, 7, 7, 7, 7, 7, 7, 7, 7, 7, 7, 7, 7, 7, 7, 7, 7, 7, 7, 7, 7, 8, 8, 8, 8, 8, 8, 8, 8, 8, 8, 8, 8, 8, 8, 8, 8, 8, 8, 8, 8, 8, 8, 8, 8, 8, 8, 8, 8, 8, 8, 8, 8, 8, 8, 8, 8, 8, 8, 8, 8, 8, 8, 8, 8, 8, 8, 8, 8, 8, 8, 8, 8, 8, 8, 8, 8, 8, 8, 8, 8, 8, 8, 8, 8, 8, 8, 8, 8, 8, 8, 8, 8, 8, 8, 8, 8, 8, 8, 8, 8, 8, 8, 8, 8, 8, 8, 8, 8, 8, 8, 8, 8, 8, 8, 8, 8, 8, 8, 8, 8, 8, 8, 8, 8, 8, 8, 8, 8, 8, 8, 8, 8, 8, 8, 8, 8, 8, 8, 8, 8, 8, 8, 8, 8, 8, 8, 8, 8]).size : Int) then some ((w64 ((w64 (32 + 16)) + (w64 ((bt (strLit [0, 1, 2, 2, 3, 3, 3, 3, 4, 4, 4, 4, 4, 4, 4, 4, 5, 5, 5, 5, 5, 5, 5, 5, 5, 5, 5, 5, 5, 5, 5, 5, 6, 6, 6, 6, 6, 6, 6, 6, 6, 6, 6, 6, 6, 6, 6, 6, 6, 6, 6, 6, 6, 6, 6, 6, 6, 6, 6, 6, 6, 6, 6, 6, 7, 7, 7, 7, 7, 7, 7, 7, 7, 7, 7, 7, 7, 7, 7, 7, 7, 7, 7, 7, 7, 7, 7, 7, 7, 7, 7, 7, 7, 7, 7, 7, 7, 7, 7, 7, 7, 7, 7, 7, 7, 7, 7, 7, 7, 7, 7, 7, 7, 7, 7, 7, 7, 7, 7, 7, 7, 7, 7, 7, 7, 7, 7, 7, 8, 8, 8, 8, 8, 8, 8, 8, 8, 8, 8, 8, 8, 8, 8, 8, 8, 8, 8, 8, 8, 8, 8, 8, 8, 8, 8, 8, 8, 8, 8, 8, 8, 8, 8, 8, 8, 8, 8, 8, 8, 8, 8, 8, 8, 8, 8, 8, 8, 8, 8, 8, 8, 8, 8, 8, 8, 8, 8, 8, 8, 8, 8, 8, 8, 8, 8, 8, 8, 8, 8, 8, 8, 8, 8, 8, 8, 8, 8, 8, 8, 8, 8, 8, 8, 8, 8, 8, 8, 8, 8, 8, 8, 8, 8, 8, 8, 8, 8, 8, 8, 8, 8, 8, 8, 8, 8, 8, 8, 8, 8, 8, 8, 8, 8, 8, 8, 8, 8, 8, 8, 8, 8, 8, 8, 8, 8, 8]) (IntKind.u8.wrap ((Int.fdiv (Int.fdiv x (2 ^ 32)) (2 ^ 16))))))))), ()) else none)) (cond (decide ((Int.fdiv x (2 ^ 32)) ≥ 256)) (if 0 ≤ (IntKind.u8.wrap ((Int.fdiv (Int.fdiv x (2 ^ 32)) (2 ^ 8)))) ∧ (IntKind.u8.wrap ((Int.fdiv (Int.fdiv x (2 ^ 32)) (2 ^ 8)))) < ((strLit [0, 1, 2, 2, 3, 3, 3, 3, 4, 4, 4, 4, 4, 4, 4, 4, 5, 5, 5, 5, 5, 5, 5, 5, 5, 5, 5, 5, 5, 5, 5, 5, 6, 6, 6, 6, 6, 6, 6, 6, 6, 6, 6, 6, 6, 6, 6, 6, 6, 6, 6, 6, 6, 6, 6, 6, 6, 6, 6, 6, 6, 6, 6, 6, 7, 7, 7, 7, 7, 7, 7, 7, 7, 7, 7, 7, 7, 7, 7, 7, 7, 7, 7, 7, 7, 7, 7, 7, 7, 7, 7, 7, 7, 7, 7, 7, 7, 7, 7, 7, 7, 7, 7, 7, 7, 7, 7, 7, 7, 7, 7, 7, 7, 7, 7, 7, 7, 7, 7, 7, 7, 7, 7, 7, 7, 7, 7, 7, 8, 8, 8, 8, 8, 8, 8, 8, 8, 8, 8, 8, 8, 8, 8, 8, 8, 8, 8, 8, 8, 8, 8, 8, 8, 8, 8, 8, 8, 8, 8, 8, 8, 8, 8, 8, 8, 8, 8, 8, 8, 8, 8, 8, 8, 8, 8, 8, 8, 8, 8, 8, 8, 8, 8, 8, 8, 8, 8, 8, 8, 8, 8, 8, 8, 8, 8, 8, 8, 8, 8, 8, 8, 8, 8, 8, 8, 8, 8, 8, 8, 8, 8, 8, 8, 8, 8, 8, 8, 8, 8, 8, 8, 8, 8, 8, 8, 8, 8, 8, 8, 8, 8, 8, 8, 8, 8, 8, 8, 8, 8, 8, 8, 8, 8, 8, 8, 8, 8, 8, 8, 8, 8, 8, 8, 8, 8, 8]).size : Int) then some ((w64 ((w64 (32 + 8)) + (w64 ((bt (strLit [0, 1, 2, 2, 3, 3, 3, 3, 4, 4, 4, 4, 4, 4, 4, 4, 5, 5, 5, 5, 5, 5, 5, 5, 5, 5, 5, 5, 5, 5, 5, 5, 6, 6, 6, 6, 6, 6, 6, 6, 6, 6, 6, 6, 6, 6, 6, 6, 6, 6, 6, 6, 6, 6, 6, 6, 6, 6, 6, 6, 6, 6, 6, 6, 7, 7, 7, 7, 7, 7, 7, 7, 7, 7, 7, 7, 7, 7, 7, 7, 7, 7, 7, 7, 7, 7, 7, 7, 7, 7, 7, 7, 7, 7, 7, 7, 7, 7, 7, 7, 7, 7, 7, 7, 7, 7, 7, 7, 7, 7, 7, 7, 7, 7, 7, 7, 7, 7, 7, 7, 7, 7, 7, 7, 7, 7, 7, 7, 8, 8, 8, 8, 8, 8, 8, 8, 8, 8, 8, 8, 8, 8, 8, 8, 8, 8, 8, 8, 8, 8, 8, 8, 8, 8, 8, 8, 8, 8, 8, 8, 8, 8, 8, 8, 8, 8, 8, 8, 8, 8, 8, 8, 8, 8, 8, 8, 8, 8, 8, 8, 8, 8, 8, 8, 8, 8, 8, 8, 8, 8, 8, 8, 8, 8, 8, 8, 8, 8, 8, 8, 8, 8, 8, 8, 8, 8, 8, 8, 8, 8, 8, 8, 8, 8, 8, 8, 8, 8, 8, 8, 8, 8, 8, 8, 8, 8, 8, 8, 8, 8, 8, 8, 8, 8, 8, 8, 8, 8, 8, 8, 8, 8, 8, 8, 8, 8, 8, 8, 8, 8, 8, 8, 8, 8, 8, 8]) (IntKind.u8.wrap ((Int.fdiv (Int.fdiv x (2 ^ 32)) (2 ^ 8))))))))), ()) else none) (if 0 ≤ (IntKind.u8.wrap ((Int.fdiv x (2 ^ 32)))) ∧ (IntKind.u8.wrap ((Int.fdiv x (2 ^ 32)))) < ((strLit [0, 1, 2, 2, 3, 3, 3, 3, 4, 4, 4, 4, 4, 4, 4, 4, 5, 5, 5, 5, 5, 5, 5, 5, 5, 5, 5, 5, 5, 5, 5, 5, 6, 6, 6, 6, 6, 6, 6, 6, 6, 6, 6, 6, 6, 6, 6, 6, 6, 6, 6, 6, 6, 6, 6, 6, 6, 6, 6, 6, 6, 6, 6, 6, 7, 7, 7, 7, 7, 7, 7, 7, 7, 7, 7, 7, 7, 7, 7, 7, 7, 7, 7, 7, 7, 7, 7, 7, 7, 7, 7, 7, 7, 7, 7, 7, 7, 7, 7, 7, 7, 7, 7, 7, 7, 7, 7, 7, 7, 7, 7, 7, 7, 7, 7, 7, 7, 7, 7, 7, 7, 7, 7, 7, 7, 7, 7, 7, 8, 8, 8, 8, 8, 8, 8, 8, 8, 8, 8, 8, 8, 8, 8, 8, 8, 8, 8, 8, 8, 8, 8, 8, 8, 8, 8, 8, 8, 8, 8, 8, 8, 8, 8, 8, 8, 8, 8, 8, 8, 8, 8, 8, 8, 8, 8, 8, 8, 8, 8, 8, 8, 8, 8, 8, 8, 8, 8, 8, 8, 8, 8, 8, 8, 8, 8, 8, 8, 8, 8, 8, 8, 8, 8, 8, 8, 8, 8, 8, 8, 8, 8, 8, 8, 8, 8, 8, 8, 8, 8, 8, 8, 8, 8, 8, 8, 8, 8, 8, 8, 8, 8, 8, 8, 8, 8, 8, 8, 8, 8, 8, 8, 8, 8, 8, 8, 8, 8, 8, 8, 8, 8, 8, 8, 8, 8, 8]).size : Int) then some ((w64 (32 + (w64 ((bt (strLit [0, 1, 2, 2, 3, 3, 3, 3, 4, 4, 4, 4, 4, 4, 4, 4, 5, 5, 5, 5, 5, 5, 5, 5, 5, 5, 5, 5, 5, 5, 5, 5, 6, 6, 6, 6, 6, 6, 6, 6, 6, 6, 6, 6, 6, 6, 6, 6, 6, 6, 6, 6, 6, 6, 6, 6, 6, 6, 6, 6, 6, 6, 6, 6, 7, 7, 7, 7, 7, 7, 7, 7, 7, 7, 7, 7, 7, 7, 7, 7, 7, 7, 7, 7, 7, 7, 7, 7, 7, 7, 7, 7, 7, 7, 7, 7, 7, 7, 7, 7, 7, 7, 7, 7, 7, 7, 7, 7, 7, 7, 7, 7, 7, 7, 7, 7, 7, 7, 7, 7, 7, 7, 7, 7, 7, 7, 7, 7, 8, 8, 8, 8, 8, 8, 8, 8, 8, 8, 8, 8, 8, 8, 8, 8, 8, 8, 8, 8, 8, 8, 8, 8, 8, 8, 8, 8, 8, 8, 8, 8, 8, 8, 8, 8, 8, 8, 8, 8, 8, 8, 8, 8, 8, 8, 8, 8, 8, 8, 8, 8, 8, 8, 8, 8, 8, 8, 8, 8, 8, 8, 8, 8, 8, 8, 8, 8, 8, 8, 8, 8, 8, 8, 8, 8, 8, 8, 8, 8, 8, 8, 8, 8, 8, 8, 8, 8, 8, 8, 8, 8, 8, 8, 8, 8, 8, 8, 8, 8, 8, 8, 8, 8, 8, 8, 8, 8, 8, 8, 8, 8, 8, 8, 8, 8, 8, 8, 8, 8, 8, 8, 8, 8, 8, 8, 8, 8]) (IntKind.u8.wrap ((Int.fdiv x (2 ^ 32))))))))), ()) else none))) (cond (decide (x ≥ 65536)) (cond (decide ((Int.fdiv x (2 ^ 16)) ≥ 256)) (if 0 ≤ (IntKind.u8.wrap ((Int.fdiv (Int.fdiv x (2 ^ 16)) (2 ^ 8)))) ∧ (IntKind.u8.wrap ((Int.fdiv (Int.fdiv x (2 ^ 16)) (2 ^ 8)))) < ((strLit [0, 1, 2, 2, 3, 3, 3, 3, 4, 4, 4, 4, 4, 4, 4, 4, 5, 5, 5, 5, 5, 5, 5, 5, 5, 5, 5, 5, 5, 5, 5, 5, 6, 6, 6, 6, 6, 6, 6, 6, 6, 6, 6, 6, 6, 6, 6, 6, 6, 6, 6, 6, 6, 6, 6, 6, 6, 6, 6, 6, 6, 6, 6, 6, 7, 7, 7, 7, 7, 7, 7, 7, 7, 7, 7, 7, 7, 7, 7, 7, 7, 7, 7, 7, 7, 7, 7, 7, 7, 7, 7, 7, 7, 7, 7, 7, 7, 7, 7, 7, 7, 7, 7, 7, 7, 7, 7, 7, 7, 7, 7, 7, 7, 7, 7, 7, 7, 7, 7, 7, 7, 7, 7, 7, 7, 7, 7, 7, 8, 8, 8, 8, 8, 8, 8, 8, 8, 8, 8, 8, 8, 8, 8, 8, 8, 8, 8, 8, 8, 8, 8, 8, 8, 8, 8, 8, 8, 8, 8, 8, 8, 8, 8, 8, 8, 8, 8, 8, 8, 8, 8, 8, 8, 8, 8, 8, 8, 8, 8, 8, 8, 8, 8, 8, 8, 8, 8, 8, 8, 8, 8, 8, 8, 8, 8, 8, 8, 8, 8, 8, 8, 8, 8, 8, 8, 8, 8, 8, 8, 8, 8, 8, 8, 8, 8, 8, 8, 8, 8, 8, 8, 8, 8, 8, 8, 8, 8, 8, 8, 8, 8, 8, 8, 8, 8, 8, 8, 8, 8, 8, 8, 8, 8, 8, 8, 8, 8, 8, 8, 8, 8, 8, 8, 8, 8, 8]).size : Int) then some ((w64 ((w64 ((w64 (0 + 16)) + 8)) + (w64 ((bt (strLit [0, 1, 2, 2, 3, 3, 3, 3, 4, 4, 4, 4, 4, 4, 4, 4, 5, 5, 5, 5, 5, 5, 5, 5, 5, 5, 5, 5, 5, 5, 5, 5, 6, 6, 6, 6, 6, 6, 6, 6, 6, 6, 6, 6, 6, 6, 6, 6, 6, 6, 6, 6, 6, 6, 6, 6, 6, 6, 6, 6, 6, 6, 6, 6, 7, 7, 7, 7, 7, 7, 7, 7, 7, 7, 7, 7, 7, 7, 7, 7, 7, 7, 7, 7, 7, 7, 7, 7, 7, 7, 7, 7, 7, 7, 7, 7, 7, 7, 7, 7, 7, 7, 7, 7, 7, 7, 7, 7, 7, 7, 7, 7, 7, 7, 7, 7, 7, 7, 7, 7, 7, 7, 7, 7, 7, 7, 7, 7, 8, 8, 8, 8, 8, 8, 8, 8, 8, 8, 8, 8, 8, 8, 8, 8, 8, 8, 8, 8, 8, 8, 8, 8, 8, 8, 8, 8, 8, 8, 8, 8, 8, 8, 8, 8, 8, 8, 8, 8, 8, 8, 8, 8, 8, 8, 8, 8, 8, 8, 8, 8, 8, 8, 8, 8, 8, 8, 8, 8, 8, 8, 8, 8, 8, 8, 8, 8, 8, 8, 8, 8, 8, 8, 8, 8, 8, 8, 8, 8, 8, 8, 8, 8, 8, 8, 8, 8, 8, 8, 8, 8, 8, 8, 8, 8, 8, 8, 8, 8, 8, 8, 8, 8, 8, 8, 8, 8, 8, 8, 8, 8, 8, 8, 8, 8, 8, 8, 8, 8, 8, 8, 8, 8, 8, 8, 8, 8]) (IntKind.u8.wrap ((Int.fdiv (Int.fdiv x (2 ^ 16)) (2 ^ 8))))))))), ()) else none) (if 0 ≤ (IntKind.u8.wrap ((Int.fdiv x (2 ^ 16)))) ∧ (IntKind.u8.wrap ((Int.fdiv x (2 ^ 16)))) < ((strLit [0, 1, 2, 2, 3, 3, 3, 3, 4, 4, 4, 4, 4, 4, 4, 4, 5, 5, 5, 5, 5, 5, 5, 5, 5, 5, 5, 5, 5, 5, 5, 5, 6, 6, 6, 6, 6, 6, 6, 6, 6, 6, 6, 6, 6, 6, 6, 6, 6, 6, 6, 6, 6, 6, 6, 6, 6, 6, 6, 6, 6, 6, 6, 6, 7, 7, 7, 7, 7, 7, 7, 7, 7, 7, 7, 7, 7, 7, 7, 7, 7, 7, 7, 7, 7, 7, 7, 7, 7, 7, 7, 7, 7, 7, 7, 7, 7, 7, 7, 7, 7, 7, 7, 7, 7, 7, 7, 7, 7, 7, 7, 7, 7, 7, 7, 7, 7, 7, 7, 7, 7, 7, 7, 7, 7, 7, 7, 7, 8, 8, 8, 8, 8, 8, 8, 8, 8, 8, 8, 8, 8, 8, 8, 8, 8, 8, 8, 8, 8, 8, 8, 8, 8, 8, 8, 8, 8, 8, 8, 8, 8, 8, 8, 8, 8, 8, 8, 8, 8, 8, 8, 8, 8, 8, 8, 8, 8, 8, 8, 8, 8, 8, 8, 8, 8, 8, 8, 8, 8, 8, 8, 8, 8, 8, 8, 8, 8, 8, 8, 8, 8, 8, 8, 8, 8, 8, 8, 8, 8, 8, 8, 8, 8, 8, 8, 8, 8, 8, 8, 8, 8, 8, 8, 8, 8, 8, 8, 8, 8, 8, 8, 8, 8, 8, 8, 8, 8, 8, 8, 8, 8, 8, 8, 8, 8, 8, 8, 8, 8, 8, 8, 8, 8, 8, 8, 8]).size : Int) then some ((w64 ((w64 (0 + 16)) + (w64 ((bt (strLit [0, 1, 2, 2, 3, 3, 3, 3, 4, 4, 4, 4, 4, 4, 4, 4, 5, 5, 5, 5, 5, 5, 5, 5, 5, 5, 5, 5, 5, 5, 5, 5, 6, 6, 6, 6, 6, 6, 6, 6, 6, 6, 6, 6, 6, 6, 6, 6, 6, 6, 6, 6, 6, 6, 6, 6, 6, 6, 6, 6, 6, 6, 6, 6, 7, 7, 7, 7, 7, 7, 7, 7, 7, 7, 7, 7, 7, 7, 7, 7, 7, 7, 7, 7, 7, 7, 7, 7, 7, 7, 7, 7, 7, 7, 7, 7, 7, 7, 7, 7, 7, 7, 7, 7, 7, 7, 7, 7, 7, 7, 7, 7, 7, 7, 7, 7, 7, 7, 7, 7, 7, 7, 7, 7, 7, 7, 7, 7, 8, 8, 8, 8, 8, 8, 8, 8, 8, 8, 8, 8, 8, 8, 8, 8, 8, 8, 8, 8, 8, 8, 8, 8, 8, 8, 8, 8, 8, 8, 8, 8, 8, 8, 8, 8, 8, 8, 8, 8, 8, 8, 8, 8, 8, 8, 8, 8, 8, 8, 8, 8, 8, 8, 8, 8, 8, 8, 8, 8, 8, 8, 8, 8, 8, 8, 8, 8, 8, 8, 8, 8, 8, 8, 8, 8, 8, 8, 8, 8, 8, 8, 8, 8, 8, 8, 8, 8, 8, 8, 8, 8, 8, 8, 8, 8, 8, 8, 8, 8, 8, 8, 8, 8, 8, 8, 8, 8, 8, 8, 8, 8, 8, 8, 8, 8, 8, 8, 8, 8, 8, 8, 8, 8, 8, 8, 8, 8]) (IntKind.u8.wrap ((Int.fdiv x (2 ^ 16))))))))), ()) else none)) (cond (decide (x ≥ 256)) (if 0 ≤ (IntKind.u8.wrap ((Int.fdiv x (2 ^ 8)))) ∧ (IntKind.u8.wrap ((Int.fdiv x (2 ^ 8)))) < ((strLit [0, 1, 2, 2, 3, 3, 3, 3, 4, 4, 4, 4, 4, 4, 4, 4, 5, 5, 5, 5, 5, 5, 5, 5, 5, 5, 5, 5, 5, 5, 5, 5, 6, 6, 6, 6, 6, 6, 6, 6, 6, 6, 6, 6, 6, 6, 6, 6, 6, 6, 6, 6, 6, 6, 6, 6, 6, 6, 6, 6, 6, 6, 6, 6, 7, 7, 7, 7, 7, 7, 7, 7, 7, 7, 7, 7, 7, 7, 7, 7, 7, 7, 7, 7, 7, 7, 7, 7, 7, 7, 7, 7, 7, 7, 7, 7, 7, 7, 7, 7, 7, 7, 7, 7, 7, 7, 7, 7, 7, 7, 7, 7, 7, 7, 7, 7, 7, 7, 7, 7, 7, 7, 7, 7, 7, 7, 7, 7, 8, 8, 8, 8, 8, 8, 8, 8, 8, 8, 8, 8, 8, 8, 8, 8, 8, 8, 8, 8, 8, 8, 8, 8, 8, 8, 8, 8, 8, 8, 8, 8, 8, 8, 8, 8, 8, 8, 8, 8, 8, 8, 8, 8, 8, 8, 8, 8, 8, 8, 8, 8, 8, 8, 8, 8, 8, 8, 8, 8, 8, 8, 8, 8, 8, 8, 8, 8, 8, 8, 8, 8, 8, 8, 8, 8, 8, 8, 8, 8, 8, 8, 8, 8, 8, 8, 8, 8, 8, 8, 8, 8, 8, 8, 8, 8, 8, 8, 8, 8, 8, 8, 8, 8, 8, 8, 8, 8, 8, 8, 8, 8, 8, 8, 8, 8, 8, 8, 8, 8, 8, 8, 8, 8, 8, 8, 8, 8]).size : Int) then some ((w64 ((w64 (0 + 8)) + (w64 ((bt (strLit [0, 1, 2, 2, 3, 3, 3, 3, 4, 4, 4, 4, 4, 4, 4, 4, 5, 5, 5, 5, 5, 5, 5, 5, 5, 5, 5, 5, 5, 5, 5, 5, 6, 6, 6, 6, 6, 6, 6, 6, 6, 6, 6, 6, 6, 6, 6, 6, 6, 6, 6, 6, 6, 6, 6, 6, 6, 6, 6, 6, 6, 6, 6, 6, 7, 7, 7, 7, 7, 7, 7, 7, 7, 7, 7, 7, 7, 7, 7, 7, 7, 7, 7, 7, 7, 7, 7, 7, 7, 7, 7, 7, 7, 7, 7, 7, 7, 7, 7, 7, 7, 7, 7, 7, 7, 7, 7, 7, 7, 7, 7, 7, 7, 7, 7, 7, 7, 7, 7, 7, 7, 7, 7, 7, 7, 7, 7, 7, 8, 8, 8, 8, 8, 8, 8, 8, 8, 8, 8, 8, 8, 8, 8, 8, 8, 8, 8, 8, 8, 8, 8, 8, 8, 8, 8, 8, 8, 8, 8, 8, 8, 8, 8, 8, 8, 8, 8, 8, 8, 8, 8, 8, 8, 8, 8, 8, 8, 8, 8, 8, 8, 8, 8, 8, 8, 8, 8, 8, 8, 8, 8, 8, 8, 8, 8, 8, 8, 8, 8, 8, 8, 8, 8, 8, 8, 8, 8, 8, 8, 8, 8, 8, 8, 8, 8, 8, 8, 8, 8, 8, 8, 8, 8, 8, 8, 8, 8, 8, 8, 8, 8, 8, 8, 8, 8, 8, 8, 8, 8, 8, 8, 8, 8, 8, 8, 8, 8, 8, 8, 8, 8, 8, 8, 8, 8, 8]) (IntKind.u8.wrap ((Int.fdiv x (2 ^ 8))))))))), ()) else none) (if 0 ≤ (IntKind.u8.wrap (x)) ∧ (IntKind.u8.wrap (x)) < ((strLit [0, 1, 2, 2, 3, 3, 3, 3, 4, 4, 4, 4, 4, 4, 4, 4, 5, 5, 5, 5, 5, 5, 5, 5, 5, 5, 5, 5, 5, 5, 5, 5, 6, 6, 6, 6, 6, 6, 6, 6, 6, 6, 6, 6, 6, 6, 6, 6, 6, 6, 6, 6, 6, 6, 6, 6, 6, 6, 6, 6, 6, 6, 6, 6, 7, 7, 7, 7, 7, 7, 7, 7, 7, 7, 7, 7, 7, 7, 7, 7, 7, 7, 7, 7, 7, 7, 7, 7, 7, 7, 7, 7, 7, 7, 7, 7, 7, 7, 7, 7, 7, 7, 7, 7, 7, 7, 7, 7, 7, 7, 7, 7, 7, 7, 7, 7, 7, 7, 7, 7, 7, 7, 7, 7, 7, 7, 7, 7, 8, 8, 8, 8, 8, 8, 8, 8, 8, 8, 8, 8, 8, 8, 8, 8, 8, 8, 8, 8, 8, 8, 8, 8, 8, 8, 8, 8, 8, 8, 8, 8, 8, 8, 8, 8, 8, 8, 8, 8, 8, 8, 8, 8, 8, 8, 8, 8, 8, 8, 8, 8, 8, 8, 8, 8, 8, 8, 8, 8, 8, 8, 8, 8, 8, 8, 8, 8, 8, 8, 8, 8, 8, 8, 8, 8, 8, 8, 8, 8, 8, 8, 8, 8, 8, 8, 8, 8, 8, 8, 8, 8, 8, 8, 8, 8, 8, 8, 8, 8, 8, 8, 8, 8, 8, 8, 8, 8, 8, 8, 8, 8, 8, 8, 8, 8, 8, 8, 8, 8, 8, 8, 8, 8, 8, 8, 8, 8]).size : Int) then some ((w64 (0 + (w64 ((bt (strLit [0, 1, 2, 2, 3, 3, 3, 3, 4, 4, 4, 4, 4, 4, 4, 4, 5, 5, 5, 5, 5, 5, 5, 5, 5, 5, 5, 5, 5, 5, 5, 5, 6, 6, 6, 6, 6, 6, 6, 6, 6, 6, 6, 6, 6, 6, 6, 6, 6, 6, 6, 6, 6, 6, 6, 6, 6, 6, 6, 6, 6, 6, 6, 6, 7, 7, 7, 7, 7, 7, 7, 7, 7, 7, 7, 7, 7, 7, 7, 7, 7, 7, 7, 7, 7, 7, 7, 7, 7, 7, 7, 7, 7, 7, 7, 7, 7, 7, 7, 7, 7, 7, 7, 7, 7, 7, 7, 7, 7, 7, 7, 7, 7, 7, 7, 7, 7, 7, 7, 7, 7, 7, 7, 7, 7, 7, 7, 7, 8, 8, 8, 8, 8, 8, 8, 8, 8, 8, 8, 8, 8, 8, 8, 8, 8, 8, 8, 8, 8, 8, 8, 8, 8, 8, 8, 8, 8, 8, 8, 8, 8, 8, 8, 8, 8, 8, 8, 8, 8, 8, 8, 8, 8, 8, 8, 8, 8, 8, 8, 8, 8, 8, 8, 8, 8, 8, 8, 8, 8, 8, 8, 8, 8, 8, 8, 8, 8, 8, 8, 8, 8, 8, 8, 8, 8, 8, 8, 8, 8, 8, 8, 8, 8, 8, 8, 8, 8, 8, 8, 8, 8, 8, 8, 8, 8, 8, 8, 8, 8, 8, 8, 8, 8, 8, 8, 8, 8, 8, 8, 8, 8, 8, 8, 8, 8, 8, 8, 8, 8, 8, 8, 8, 8, 8, 8, 8]) (IntKind.u8.wrap (x))))))), ()) else none)))
theorem ztop (k0 : Nat) (x : Int) : runFn Tryz.prog ztbl zcfg k0 131 ins_math_bits_Len64 outs_math_bits_Len64 [] (x, ()) = T  x := by kernel_rfl
noncomputable def _root_.Go.Rv.F_math_bits_Len64 : Int × Unit → Option (Int × Unit) := fun x => T x.1
noncomputable abbrev _root_.Go.Rv.S_math_bits_Len64 : Summ := ⟨ins_math_bits_Len64, outs_math_bits_Len64, F_math_bits_Len64, []⟩
theorem _root_.Go.Rv.ok_math_bits_Len64 : SumOK Dr Tryz.prog 131 S_math_bits_Len64 := runFn_ok (by kernel_rfl) (tblL_ok .nil) (by kernel_rfl) fun x y h => ⟨zcfg, 0, (ztop 0 x.1).trans h⟩
end math_bits_Len64
abbrev ins_math_bits_LeadingZeros64 : List Par := [.v false [CT.int .u64]]
abbrev outs_math_bits_LeadingZeros64 : List (Bool × List CT) := [(false, [CT.int .i64])]
namespace math_bits_LeadingZeros64
/-! ### math/bits.LeadingZeros64 (function 148) -/
noncomputable def ztbl : Tbl := tblL [(131, [], S_math_bits_Len64)]
noncomputable def zbody : Code := ((Tryz.prog.funcs[148]?).bind (·.body)).getD .skip
def zcfg : Nat → List Nat × List Nat := fun k => ([], [])
noncomputable def T  (x : Int) : Option (Int × Unit) := (F_math_bits_Len64 (x, ())).bind fun y1 => some ((w64 (64 - y1.1)), ())
theorem ztop (k0 : Nat) (x : Int) : runFn Tryz.prog ztbl zcfg k0 148 ins_math_bits_LeadingZeros64 outs_math_bits_LeadingZeros64 [] (x, ()) = T  x := by kernel_rfl
noncomputable def _root_.Go.Rv.F_math_bits_LeadingZeros64 : Int × Unit → Option (Int × Unit) := fun x => T x.1
noncomputable abbrev _root_.Go.Rv.S_math_bits_LeadingZeros64 : Summ := ⟨ins_math_bits_LeadingZeros64, outs_math_bits_LeadingZeros64, F_math_bits_LeadingZeros64, []⟩
theorem _root_.Go.Rv.ok_math_bits_LeadingZeros64 : SumOK Dr Tryz.prog 148 S_math_bits_LeadingZeros64 := runFn_ok (by kernel_rfl) (tblL_ok (.cons ok_math_bits_Len64 .nil)) (by kernel_rfl) fun x y h => ⟨zcfg, 0, (ztop 0 x.1).trans h⟩
end math_bits_LeadingZeros64
abbrev ins_math_bits_Div64 : List Par := [.v false [CT.int .u64], .v false [CT.int .u64], .v false [CT.int .u64]]
abbrev outs_math_bits_Div64 : List (Bool × List CT) := [(false, [CT.int .u64]), (false, [CT.int .u64])]
namespace math_bits_Div64
/-! ### math/bits.Div64 (function 140) -/
noncomputable def ztbl : Tbl := tblL [(148, [], S_math_bits_LeadingZeros64)]
noncomputable def zbody : Code := ((Tryz.prog.funcs[140]?).bind (·.body)).getD .skip
def zcfg : Nat → List Nat × List Nat := fun k => if k = 17 then ([2, 8, 9, 10, 11, 13, 14, 15, 16], [2, 8, 9, 10, 11, 13, 14, 15]) else if k = 24 then ([2, 8, 9, 10, 14, 15, 16, 17, 18], [2, 8, 14, 15, 17, 18]) else ([], [])
noncomputable def R0 {R : Type} (nx0 : (Int → Int → Int → Int → Int → Int → Int → Int → Int → Option R)) (ex0 : (Int → Int → Int → Int → Int → Int → Int → Int → Option R)) (y2 s yn1 yn0 un32 un1 un0 q1 rhat : Int) : Option R := cond (decide (q1 ≥ 4294967296)) (cond (decide ((IntKind.u64.wrap (rhat + yn1)) ≥ 4294967296)) (ex0 y2 s yn1 yn0 un32 un1 un0 (IntKind.u64.wrap (q1 - 1))) (nx0 y2 s yn1 yn0 un32 un1 un0 (IntKind.u64.wrap (q1 - 1)) (IntKind.u64.wrap (rhat + yn1)))) (cond (decide ((IntKind.u64.wrap (q1 * yn0)) > (IntKind.u64.wrap ((IntKind.u64.wrap (4294967296 * rhat)) + un1)))) (cond (decide ((IntKind.u64.wrap (rhat + yn1)) ≥ 4294967296)) (ex0 y2 s yn1 yn0 un32 un1 un0 (IntKind.u64.wrap (q1 - 1))) (nx0 y2 s yn1 yn0 un32 un1 un0 (IntKind.u64.wrap (q1 - 1)) (IntKind.u64.wrap (rhat + yn1)))) (ex0 y2 s yn1 yn0 un32 un1 un0 q1))
noncomputable def R1 {R : Type} (nx1 : (Int → Int → Int → Int → Int → Int → Int → Int → Int → Option R)) (ex1 : (Int → Int → Int → Int → Int → Int → Option R)) (y2 s yn1 yn0 un0 q1 rhat un21 q0 : Int) : Option R := cond (decide (q0 ≥ 4294967296)) (cond (decide ((IntKind.u64.wrap (rhat + yn1)) ≥ 4294967296)) (ex1 y2 s un0 q1 un21 (IntKind.u64.wrap (q0 - 1))) (nx1 y2 s yn1 yn0 un0 q1 (IntKind.u64.wrap (rhat + yn1)) un21 (IntKind.u64.wrap (q0 - 1)))) (cond (decide ((IntKind.u64.wrap (q0 * yn0)) > (IntKind.u64.wrap ((IntKind.u64.wrap (4294967296 * rhat)) + un0)))) (cond (decide ((IntKind.u64.wrap (rhat + yn1)) ≥ 4294967296)) (ex1 y2 s un0 q1 un21 (IntKind.u64.wrap (q0 - 1))) (nx1 y2 s yn1 yn0 un0 q1 (IntKind.u64.wrap (rhat + yn1)) un21 (IntKind.u64.wrap (q0 - 1)))) (ex1 y2 s un0 q1 un21 q0))
noncomputable def A0 (lo1 : (Int → Int → Int → Int → Int → Int → Int → Int → Int → Option (U7))) (hi lo y : Int) (y2 s yn1 yn0 un32 un1 un0 q1 : Int) : Option (U7) := if yn1 = 0 then none else lo1 y2 s yn1 yn0 un0 q1 (IntKind.u64.wrap ((IntKind.u64.wrap ((IntKind.u64.wrap ((IntKind.u64.wrap (un32 * 4294967296)) + un1)) - (IntKind.u64.wrap (q1 * y2)))) - (IntKind.u64.wrap ((IntKind.u64.wrap (Int.tdiv (IntKind.u64.wrap ((IntKind.u64.wrap ((IntKind.u64.wrap (un32 * 4294967296)) + un1)) - (IntKind.u64.wrap (q1 * y2)))) yn1)) * yn1)))) (IntKind.u64.wrap ((IntKind.u64.wrap ((IntKind.u64.wrap (un32 * 4294967296)) + un1)) - (IntKind.u64.wrap (q1 * y2)))) (IntKind.u64.wrap (Int.tdiv (IntKind.u64.wrap ((IntKind.u64.wrap ((IntKind.u64.wrap (un32 * 4294967296)) + un1)) - (IntKind.u64.wrap (q1 * y2)))) yn1))
noncomputable def A1  (hi lo y : Int) (y2 s un0 q1 un21 q0 : Int) : Option (U7) := if s < 0 then none else some ((IntKind.u64.wrap ((IntKind.u64.wrap (q1 * 4294967296)) + q0)), (Int.fdiv (IntKind.u64.wrap ((IntKind.u64.wrap ((IntKind.u64.wrap (un21 * 4294967296)) + un0)) - (IntKind.u64.wrap (q0 * y2)))) (2 ^ (min ((s : Int)).toNat 64))), ())
noncomputable def T (lo0 : (Int → Int → Int → Int → Int → Int → Int → Int → Int → Option (U7))) (hi lo y : Int) : Option (U7) := cond (y == 0) (none) (cond (decide (y ≤ hi)) (none) (cond (hi == 0) (if y = 0 then none else if y = 0 then none else some ((IntKind.u64.wrap (Int.tdiv lo y)), (Int.tmod lo y), ())) ((F_math_bits_LeadingZeros64 (y, ())).bind fun y1 => if (IntKind.u64.wrap (y1.1)) < 0 then none else if (IntKind.u64.wrap (y1.1)) < 0 then none else if (IntKind.u64.wrap (64 - (IntKind.u64.wrap (y1.1)))) < 0 then none else if (IntKind.u64.wrap (y1.1)) < 0 then none else if (Int.fdiv (IntKind.u64.wrap (y * 2 ^ (min (((IntKind.u64.wrap (y1.1)) : Int)).toNat 64))) (2 ^ 32)) = 0 then none else lo0 (IntKind.u64.wrap (y * 2 ^ (min (((IntKind.u64.wrap (y1.1)) : Int)).toNat 64))) (IntKind.u64.wrap (y1.1)) (Int.fdiv (IntKind.u64.wrap (y * 2 ^ (min (((IntKind.u64.wrap (y1.1)) : Int)).toNat 64))) (2 ^ 32)) (IntKind.u64.wrap (((BitVec.ofInt 64 (IntKind.u64.wrap (y * 2 ^ (min (((IntKind.u64.wrap (y1.1)) : Int)).toNat 64)))) &&& (BitVec.ofInt 64 4294967295)).toNat)) (IntKind.u64.wrap (((BitVec.ofInt 64 (IntKind.u64.wrap (hi * 2 ^ (min (((IntKind.u64.wrap (y1.1)) : Int)).toNat 64)))) ||| (BitVec.ofInt 64 (Int.fdiv lo (2 ^ (min (((IntKind.u64.wrap (64 - (IntKind.u64.wrap (y1.1)))) : Int)).toNat 64))))).toNat)) (Int.fdiv (IntKind.u64.wrap (lo * 2 ^ (min (((IntKind.u64.wrap (y1.1)) : Int)).toNat 64))) (2 ^ 32)) (IntKind.u64.wrap (((BitVec.ofInt 64 (IntKind.u64.wrap (lo * 2 ^ (min (((IntKind.u64.wrap (y1.1)) : Int)).toNat 64)))) &&& (BitVec.ofInt 64 4294967295)).toNat)) (IntKind.u64.wrap (Int.tdiv (IntKind.u64.wrap (((BitVec.ofInt 64 (IntKind.u64.wrap (hi * 2 ^ (min (((IntKind.u64.wrap (y1.1)) : Int)).toNat 64)))) ||| (BitVec.ofInt 64 (Int.fdiv lo (2 ^ (min (((IntKind.u64.wrap (64 - (IntKind.u64.wrap (y1.1)))) : Int)).toNat 64))))).toNat)) (Int.fdiv (IntKind.u64.wrap (y * 2 ^ (min (((IntKind.u64.wrap (y1.1)) : Int)).toNat 64))) (2 ^ 32)))) (IntKind.u64.wrap ((IntKind.u64.wrap (((BitVec.ofInt 64 (IntKind.u64.wrap (hi * 2 ^ (min (((IntKind.u64.wrap (y1.1)) : Int)).toNat 64)))) ||| (BitVec.ofInt 64 (Int.fdiv lo (2 ^ (min (((IntKind.u64.wrap (64 - (IntKind.u64.wrap (y1.1)))) : Int)).toNat 64))))).toNat)) - (IntKind.u64.wrap ((IntKind.u64.wrap (Int.tdiv (IntKind.u64.wrap (((BitVec.ofInt 64 (IntKind.u64.wrap (hi * 2 ^ (min (((IntKind.u64.wrap (y1.1)) : Int)).toNat 64)))) ||| (BitVec.ofInt 64 (Int.fdiv lo (2 ^ (min (((IntKind.u64.wrap (64 - (IntKind.u64.wrap (y1.1)))) : Int)).toNat 64))))).toNat)) (Int.fdiv (IntKind.u64.wrap (y * 2 ^ (min (((IntKind.u64.wrap (y1.1)) : Int)).toNat 64))) (2 ^ 32)))) * (Int.fdiv (IntKind.u64.wrap (y * 2 ^ (min (((IntKind.u64.wrap (y1.1)) : Int)).toNat 64))) (2 ^ 32)))))))))
noncomputable def zst0 {R : Type} (k0 : Nat) : Env → List Ob → Kont R → Option R := fun env ob K => runCode Tryz.prog ztbl 135 0 zcfg k0 (codeAt [1, 1, 1, 1, 1, 1, 1, 1, 1, 1, 1, 1, 1, 1, 0, 0, 0] zbody) env ob K
noncomputable def K0 {R : Type} (k0 : Nat) (K : Kont R) : Kont R := blockK 0 (seqK (fun env ob => runCode Tryz.prog ztbl 135 0 zcfg k0 (codeAt [1, 1, 1, 1, 1, 1, 1, 1, 1, 1, 1, 1, 1, 1, 1] zbody) env ob (K)) (K))
noncomputable def zst1 {R : Type} (k0 : Nat) : Env → List Ob → Kont R → Option R := fun env ob K => runCode Tryz.prog ztbl 135 0 zcfg k0 (codeAt [1, 1, 1, 1, 1, 1, 1, 1, 1, 1, 1, 1, 1, 1, 1, 1, 1, 1, 0, 0, 0] zbody) env ob K
noncomputable def K1 {R : Type} (k0 : Nat) (K : Kont R) : Kont R := blockK 2 (seqK (fun env ob => runCode Tryz.prog ztbl 135 0 zcfg k0 (codeAt [1, 1, 1, 1, 1, 1, 1, 1, 1, 1, 1, 1, 1, 1, 1, 1, 1, 1, 1] zbody) env ob (K)) (K))
noncomputable def L0 {R : Type} (k0 k : Nat) (K : Kont R) (y2 s yn1 yn0 un32 un1 un0 q1 rhat : Int) : Option R := iter 0 [2, 8, 9, 10, 11, 13, 14, 15, 16] [2, 8, 9, 10, 11, 13, 14, 15] (zst0 k0) k [(2, .int .u64 y2), (8, .int .u64 s), (9, .int .u64 yn1), (10, .int .u64 yn0), (11, .int .u64 un32), (13, .int .u64 un1), (14, .int .u64 un0), (15, .int .u64 q1), (16, .int .u64 rhat)] [] K
noncomputable def L1 {R : Type} (k0 k : Nat) (K : Kont R) (y2 s yn1 yn0 un0 q1 rhat un21 q0 : Int) : Option R := iter 0 [2, 8, 9, 10, 14, 15, 16, 17, 18] [2, 8, 14, 15, 17, 18] (zst1 k0) k [(2, .int .u64 y2), (8, .int .u64 s), (9, .int .u64 yn1), (10, .int .u64 yn0), (14, .int .u64 un0), (15, .int .u64 q1), (16, .int .u64 rhat), (17, .int .u64 un21), (18, .int .u64 q0)] [] K
theorem zs0 {R : Type} (k0 k : Nat) (K : Kont R) (y2 s yn1 yn0 un32 un1 un0 q1 rhat : Int) : L0 k0 (k + 1) K y2 s yn1 yn0 un32 un1 un0 q1 rhat = R0 (L0 k0 k K) (fun y2 s yn1 yn0 un32 un1 un0 q1 => K (.exit 0) [(2, .int .u64 y2), (8, .int .u64 s), (9, .int .u64 yn1), (10, .int .u64 yn0), (11, .int .u64 un32), (13, .int .u64 un1), (14, .int .u64 un0), (15, .int .u64 q1)] []) y2 s yn1 yn0 un32 un1 un0 q1 rhat := by kernel_rfl
theorem zs1 {R : Type} (k0 k : Nat) (K : Kont R) (y2 s yn1 yn0 un0 q1 rhat un21 q0 : Int) : L1 k0 (k + 1) K y2 s yn1 yn0 un0 q1 rhat un21 q0 = R1 (L1 k0 k K) (fun y2 s un0 q1 un21 q0 => K (.exit 2) [(2, .int .u64 y2), (8, .int .u64 s), (14, .int .u64 un0), (15, .int .u64 q1), (17, .int .u64 un21), (18, .int .u64 q0)] []) y2 s yn1 yn0 un0 q1 rhat un21 q0 := by kernel_rfl
theorem za0 (k0 : Nat) (hi lo y : Int) (y2 s yn1 yn0 un32 un1 un0 q1 : Int) : K0 (R := (U7)) k0 (finK Tryz.prog [.tmp 6, .tmp 7] ins_math_bits_Div64 outs_math_bits_Div64 (hi, lo, y, ())) (.exit 0) [(2, .int .u64 y2), (8, .int .u64 s), (9, .int .u64 yn1), (10, .int .u64 yn0), (11, .int .u64 un32), (13, .int .u64 un1), (14, .int .u64 un0), (15, .int .u64 q1)] [] = A0 (L1 (R := (U7)) k0 k0 (K1 (R := (U7)) k0 ((finK Tryz.prog [.tmp 6, .tmp 7] ins_math_bits_Div64 outs_math_bits_Div64 (hi, lo, y, ()))))) hi lo y y2 s yn1 yn0 un32 un1 un0 q1 := by kernel_rfl
theorem za1 (k0 : Nat) (hi lo y : Int) (y2 s un0 q1 un21 q0 : Int) : K1 (R := (U7)) k0 (finK Tryz.prog [.tmp 6, .tmp 7] ins_math_bits_Div64 outs_math_bits_Div64 (hi, lo, y, ())) (.exit 2) [(2, .int .u64 y2), (8, .int .u64 s), (14, .int .u64 un0), (15, .int .u64 q1), (17, .int .u64 un21), (18, .int .u64 q0)] [] = A1  hi lo y y2 s un0 q1 un21 q0 := by kernel_rfl
theorem ztop (k0 : Nat) (hi lo y : Int) : runFn Tryz.prog ztbl zcfg k0 140 ins_math_bits_Div64 outs_math_bits_Div64 [] (hi, lo, y, ()) = T (L0 (R := (U7)) k0 k0 (K0 (R := (U7)) k0 ((finK Tryz.prog [.tmp 6, .tmp 7] ins_math_bits_Div64 outs_math_bits_Div64 (hi, lo, y, ()))))) hi lo y := by kernel_rfl
noncomputable def G0 {R : Type} (k0 : Nat) (hx0 : (Int → Int → Int → Int → Int → Int → Int → Int → Option R)) : Nat → Int → Int → Int → Int → Int → Int → Int → Int → Int → Option R
 | 0, _, _, _, _, _, _, _, _, _ => none
 | k + 1, y2, s, yn1, yn0, un32, un1, un0, q1, rhat => R0 (G0 k0 hx0 k) hx0 y2 s yn1 yn0 un32 un1 un0 q1 rhat
theorem zg0 {R : Type} (k0 : Nat) (K : Kont R) : ∀ k : Nat, L0 k0 k K = G0 k0 (fun y2 s yn1 yn0 un32 un1 un0 q1 => K (.exit 0) [(2, .int .u64 y2), (8, .int .u64 s), (9, .int .u64 yn1), (10, .int .u64 yn0), (11, .int .u64 un32), (13, .int .u64 un1), (14, .int .u64 un0), (15, .int .u64 q1)] []) k := by
 intro k
 induction k with
 | zero => funext y2 s yn1 yn0 un32 un1 un0 q1 rhat; rfl
 | succ k ih => funext y2 s yn1 yn0 un32 un1 un0 q1 rhat; rw [zs0, G0]; (try simp only [ih]); try rfl
noncomputable def G1 {R : Type} (k0 : Nat) (hx1 : (Int → Int → Int → Int → Int → Int → Option R)) : Nat → Int → Int → Int → Int → Int → Int → Int → Int → Int → Option R
 | 0, _, _, _, _, _, _, _, _, _ => none
 | k + 1, y2, s, yn1, yn0, un0, q1, rhat, un21, q0 => R1 (G1 k0 hx1 k) hx1 y2 s yn1 yn0 un0 q1 rhat un21 q0
theorem zg1 {R : Type} (k0 : Nat) (K : Kont R) : ∀ k : Nat, L1 k0 k K = G1 k0 (fun y2 s un0 q1 un21 q0 => K (.exit 2) [(2, .int .u64 y2), (8, .int .u64 s), (14, .int .u64 un0), (15, .int .u64 q1), (17, .int .u64 un21), (18, .int .u64 q0)] []) k := by
 intro k
 induction k with
 | zero => funext y2 s yn1 yn0 un0 q1 rhat un21 q0; rfl
 | succ k ih => funext y2 s yn1 yn0 un0 q1 rhat un21 q0; rw [zs1, G1]; (try simp only [ih, zg0]); try rfl
noncomputable def FF (k0 : Nat) (hi lo y : Int) : Option (U7) := T (G0 k0 (A0 (G1 k0 (A1  hi lo y) k0) hi lo y) k0) hi lo y
theorem zrun (k0 : Nat) (hi lo y : Int) : runFn Tryz.prog ztbl zcfg k0 140 ins_math_bits_Div64 outs_math_bits_Div64 [] (hi, lo, y, ()) = FF k0 hi lo y := by
 rw [ztop, FF]; (try simp only [zg0, zg1, za0, za1]); try rfl
noncomputable def _root_.Go.Rv.F_math_bits_Div64 : U6 → Option (U7) := fun x => (fun (hi lo y : Int) => FF (300) hi lo y) x.1 x.2.1 x.2.2.1
noncomputable abbrev _root_.Go.Rv.S_math_bits_Div64 : Summ := ⟨ins_math_bits_Div64, outs_math_bits_Div64, F_math_bits_Div64, []⟩
theorem _root_.Go.Rv.ok_math_bits_Div64 : SumOK Dr Tryz.prog 140 S_math_bits_Div64 := runFn_ok (by kernel_rfl) (tblL_ok (.cons ok_math_bits_LeadingZeros64 .nil)) (by kernel_rfl) fun x y h => ⟨zcfg, _, (zrun _ x.1 x.2.1 x.2.2.1).trans h⟩
end math_bits_Div64
abbrev ins_impl_WideDiv : List Par := [.v true ct1, .v false [CT.int .u64]]
abbrev outs_impl_WideDiv : List (Bool × List CT) := [(true, ct8)]
namespace impl_WideDiv
/-! ### loop.example/g00095/impl.WideDiv (function 128) -/
noncomputable def ztbl : Tbl := tblL [(140, [], S_math_bits_Div64)]
noncomputable def zbody : Code := ((Tryz.prog.funcs[128]?).bind (·.body)).getD .skip
def zcfg : Nat → List Nat × List Nat := fun k => ([], [])
noncomputable def T  (a0 a1 d : Int) : Option (U6) := cond (d == 0) (some (0, 0, 0, ())) (if d = 0 then none else if d = 0 then none else (F_math_bits_Div64 ((Int.tmod a0 d), a1, d, ())).bind fun y1 => some ((IntKind.u64.wrap (Int.tdiv a0 d)), y1.1, y1.2.1, ()))
theorem ztop (k0 : Nat) (a0 a1 d : Int) : runFn Tryz.prog ztbl zcfg k0 128 ins_impl_WideDiv outs_impl_WideDiv [] (a0, a1, d, ()) = T  a0 a1 d := by kernel_rfl
noncomputable def _root_.Go.Rv.F_impl_WideDiv : U6 → Option (U6) := fun x => T x.1 x.2.1 x.2.2.1
noncomputable abbrev _root_.Go.Rv.S_impl_WideDiv : Summ := ⟨ins_impl_WideDiv, outs_impl_WideDiv, F_impl_WideDiv, []⟩
theorem _root_.Go.Rv.ok_impl_WideDiv : SumOK Dr Tryz.prog 128 S_impl_WideDiv := runFn_ok (by kernel_rfl) (tblL_ok (.cons ok_math_bits_Div64 .nil)) (by kernel_rfl) fun x y h => ⟨zcfg, 0, (ztop 0 x.1 x.2.1 x.2.2.1).trans h⟩
end impl_WideDiv
abbrev ins_impl_share : List Par := [.v false [CT.int .i64], .v false [CT.int .i64], .v false [CT.int .i64]]
abbrev outs_impl_share : List (Bool × List CT) := [(false, [CT.int .i64])]
namespace impl_share
/-! ### loop.example/g00095/impl.share (function 118) -/
noncomputable def ztbl : Tbl := tblL [(128, [], S_impl_WideDiv), (129, [], S_impl_product)]
noncomputable def zbody : Code := ((Tryz.prog.funcs[118]?).bind (·.body)).getD .skip
def zcfg : Nat → List Nat × List Nat := fun k => ([], [])
noncomputable def T  (amount weight all : Int) : Option (Int × Unit) := (F_impl_product (amount, weight, ())).bind fun y1 => (F_impl_WideDiv (y1.1, y1.2.1, (IntKind.u64.wrap (all)), ())).bind fun y2 => some ((w64 (y2.2.1)), ())
theorem ztop (k0 : Nat) (amount weight all : Int) : runFn Tryz.prog ztbl zcfg k0 118 ins_impl_share outs_impl_share [] (amount, weight, all, ()) = T  amount weight all := by kernel_rfl
noncomputable def _root_.Go.Rv.F_impl_share : U6 → Option (Int × Unit) := fun x => T x.1 x.2.1 x.2.2.1
noncomputable abbrev _root_.Go.Rv.S_impl_share : Summ := ⟨ins_impl_share, outs_impl_share, F_impl_share, []⟩
theorem _root_.Go.Rv.ok_impl_share : SumOK Dr Tryz.prog 118 S_impl_share := runFn_ok (by kernel_rfl) (tblL_ok (.cons ok_impl_WideDiv (.cons ok_impl_product .nil))) (by kernel_rfl) fun x y h => ⟨zcfg, 0, (ztop 0 x.1 x.2.1 x.2.2.1).trans h⟩
end impl_share
abbrev ins_impl_fill : List Par := [.v false [CT.int .i64], .v false [CT.sl ct0]]
abbrev outs_impl_fill : List (Bool × List CT) := [(true, ct9)]
namespace impl_fill
/-! ### loop.example/g00095/impl.fill (function 103) -/
noncomputable def ztbl : Tbl := tblL [(114, [], ⟨ins_impl_sorted, outs_impl_sorted, F_impl_sorted, []⟩), (115, [], S_impl_fill_1), (117, [], S_impl_Item_fits), (118, [], S_impl_share)]
noncomputable def zbody : Code := ((Tryz.prog.funcs[103]?).bind (·.body)).getD .skip
def zcfg : Nat → List Nat × List Nat := fun k => if k = 3 then ([3, 4, 5, 26, 27, 28], [3, 4, 5]) else if k = 9 then ([3, 4, 5, 8, 9], [3, 4, 5, 8, 9]) else if k = 18 then ([3, 4, 5, 9, 11, 12, 108, 109, 110], [3, 4, 5, 11, 12]) else if k = 25 then ([4, 5, 11, 12, 142, 143], [4, 5]) else ([], [])
noncomputable def R0 {R : Type} (nx0 : ((List U6) → Int → Int → (List U6) → Int → Int → Int → Int → Int → Int → (List (Int × Unit)) → (List (Bool × Unit)) → Option R)) (ex0 : ((List U6) → Int → Int → Int → Int → Int → Int → (List (Int × Unit)) → (List (Bool × Unit)) → Option R)) (t26x : List U6) (t27x t28x : Int) (list2 : List U6) (t4x t4x2 t4x3 out out2 out3 : Int) (o3 : List (Int × Unit)) (o4 : List (Bool × Unit)) : Option R := cond (decide (t28x < t27x)) (if 0 ≤ t28x ∧ t28x < (t26x.length : Int) then nx0 t26x t27x (w64 (t28x + 1)) list2 t4x t4x2 t4x3 out (w64 (out2 + (rd (0, 0, 0, ()) t26x t28x).2.2.1)) out3 o3 o4 else none) (ex0 list2 t4x t4x2 t4x3 out out2 out3 o3 o4)
noncomputable def R1 {R : Type} (nx2 : (Nat → Nat → (List U6) → Int → Int → Int → Int → Int → Int → (List U6) → (List (Int × Unit)) → (List (Bool × Unit)) → Option R)) (ex1 : ((List U6) → Int → Int → Int → Int → Int → Int → (List U6) → (List (Int × Unit)) → (List (Bool × Unit)) → Option R)) (list2 : List U6) (t4x t4x2 t4x3 out out2 out3 : Int) (order : List U6) (o4 : List (Int × Unit)) (o5 : List (Bool × Unit)) : Option R := cond (decide ((order.length : Int) > 0)) (if (0 : Int) ≤ 0 ∧ 0 < (order.length : Int) then (F_impl_Item_fits ((order.getD ((0 : Int).toNat) (0, 0, 0, ())).1, (order.getD ((0 : Int).toNat) (0, 0, 0, ())).2.1, (order.getD ((0 : Int).toNat) (0, 0, 0, ())).2.2.1, out, out2, ())).bind fun y1 => cond y1.1 (if (0 : Int) ≤ 0 ∧ 0 < (order.length : Int) then (F_impl_fill_1 ((order.getD ((0 : Int).toNat) (0, 0, 0, ())).1, (order.getD ((0 : Int).toNat) (0, 0, 0, ())).2.1, (order.getD ((0 : Int).toNat) (0, 0, 0, ())).2.2.1, list2, ())).bind fun y2 => if 0 ≤ y2.1 ∧ y2.1 < (o4.length : Int) then if (0 : Int) ≤ 1 ∧ 1 ≤ (order.length : Int) then nx2 ((1 : Int).toNat) (order.length - (1 : Int).toNat) list2 t4x t4x2 t4x3 (w64 (out - (order.getD ((0 : Int).toNat) (0, 0, 0, ())).2.1)) (w64 (out2 - (order.getD ((0 : Int).toNat) (0, 0, 0, ())).2.2.1)) (w64 (out3 + 1)) order (o4.set ((y2.1).toNat) ((order.getD ((0 : Int).toNat) (0, 0, 0, ())).2.1, ())) o5 else none else none else none) (ex1 list2 t4x t4x2 t4x3 out out2 out3 order o4 o5) else none) (ex1 list2 t4x t4x2 t4x3 out out2 out3 order o4 o5)
noncomputable def R2 {R : Type} (nx2 : (Nat → Nat → (List U6) → Int → Int → Int → Int → Int → Int → (List U6) → (List (Int × Unit)) → (List (Bool × Unit)) → Option R)) (ex2 : (Nat → Nat → (List U6) → Int → Int → Int → Int → Int → Int → (List U6) → (List (Int × Unit)) → (List (Bool × Unit)) → Option R)) (ordero orderl : Nat) (list2 : List U6) (t4x t4x2 t4x3 out out2 out3 : Int) (order : List U6) (o4 : List (Int × Unit)) (o5 : List (Bool × Unit)) : Option R := cond (decide ((orderl : Int) > 0)) (if ordero + orderl ≤ order.length then if (0 : Int) ≤ 0 ∧ 0 < (orderl : Int) then (F_impl_Item_fits ((order.getD (ordero + (0 : Int).toNat) (0, 0, 0, ())).1, (order.getD (ordero + (0 : Int).toNat) (0, 0, 0, ())).2.1, (order.getD (ordero + (0 : Int).toNat) (0, 0, 0, ())).2.2.1, out, out2, ())).bind fun y1 => cond y1.1 (if ordero + orderl ≤ order.length then if (0 : Int) ≤ 0 ∧ 0 < (orderl : Int) then (F_impl_fill_1 ((order.getD (ordero + (0 : Int).toNat) (0, 0, 0, ())).1, (order.getD (ordero + (0 : Int).toNat) (0, 0, 0, ())).2.1, (order.getD (ordero + (0 : Int).toNat) (0, 0, 0, ())).2.2.1, list2, ())).bind fun y2 => if 0 ≤ y2.1 ∧ y2.1 < (o4.length : Int) then if ordero + orderl ≤ order.length then if (0 : Int) ≤ 1 ∧ 1 ≤ (orderl : Int) then nx2 (ordero + (1 : Int).toNat) (orderl - (1 : Int).toNat) list2 t4x t4x2 t4x3 (w64 (out - (order.getD (ordero + (0 : Int).toNat) (0, 0, 0, ())).2.1)) (w64 (out2 - (order.getD (ordero + (0 : Int).toNat) (0, 0, 0, ())).2.2.1)) (w64 (out3 + 1)) order (o4.set ((y2.1).toNat) ((order.getD (ordero + (0 : Int).toNat) (0, 0, 0, ())).2.1, ())) o5 else none else none else none else none else none) (ex2 ordero orderl list2 t4x t4x2 t4x3 out out2 out3 order o4 o5) else none else none) (ex2 ordero orderl list2 t4x t4x2 t4x3 out out2 out3 order o4 o5)
noncomputable def R3 {R : Type} (nx3 : (Int → Int → Int → (List U6) → Int → Int → Int → Int → Int → Int → (List (Bool × Unit)) → (List U6) → (List (Int × Unit)) → (List (Bool × Unit)) → Option R)) (ex3 : (Int → (List U6) → Int → Int → Int → Int → Int → Int → (List (Bool × Unit)) → (List (Int × Unit)) → (List (Bool × Unit)) → Option R)) (left t109x t110x : Int) (list2 : List U6) (t4x t4x2 t4x3 out out2 out3 : Int) (poor : List (Bool × Unit)) (t108x : List U6) (o5 : List (Int × Unit)) (o6 : List (Bool × Unit)) : Option R := cond (decide (t110x < t109x)) (if 0 ≤ t110x ∧ t110x < (t108x.length : Int) then (F_impl_fill_1 ((t108x.getD t110x.toNat (0, 0, 0, ())).1, (t108x.getD t110x.toNat (0, 0, 0, ())).2.1, (t108x.getD t110x.toNat (0, 0, 0, ())).2.2.1, list2, ())).bind fun y1 => (F_impl_share (out, (t108x.getD t110x.toNat (0, 0, 0, ())).2.2.1, out2, ())).bind fun y2 => if 0 ≤ y1.1 ∧ y1.1 < (o5.length : Int) then if 0 ≤ y1.1 ∧ y1.1 < (poor.length : Int) then if 0 ≤ y1.1 ∧ y1.1 < ((o5.set ((y1.1).toNat) (y2.1, ())).length : Int) then nx3 (w64 (left - ((o5.set ((y1.1).toNat) (y2.1, ())).getD ((y1.1).toNat) (0, ())).1)) t109x (w64 (t110x + 1)) list2 t4x t4x2 t4x3 out out2 out3 (poor.set ((y1.1).toNat) (true, ())) t108x (o5.set ((y1.1).toNat) (y2.1, ())) o6 else none else none else none else none) (ex3 left list2 t4x t4x2 t4x3 out out2 out3 poor o5 o6)
noncomputable def R4 {R : Type} (nx4 : (Int → Nat → Nat → Int → Int → (List U6) → Int → Int → Int → Int → Int → Int → (List (Bool × Unit)) → (List U6) → (List (Int × Unit)) → (List (Bool × Unit)) → Option R)) (ex3 : (Int → (List U6) → Int → Int → Int → Int → Int → Int → (List (Bool × Unit)) → (List (Int × Unit)) → (List (Bool × Unit)) → Option R)) (left : Int) (t108o t108l : Nat) (t109x t110x : Int) (list2 : List U6) (t4x t4x2 t4x3 out out2 out3 : Int) (poor : List (Bool × Unit)) (t108x : List U6) (o5 : List (Int × Unit)) (o6 : List (Bool × Unit)) : Option R := cond (decide (t110x < t109x)) (if t108o + t108l ≤ t108x.length then if 0 ≤ t110x ∧ t110x < (t108l : Int) then (F_impl_fill_1 ((t108x.getD (t108o + t110x.toNat) (0, 0, 0, ())).1, (t108x.getD (t108o + t110x.toNat) (0, 0, 0, ())).2.1, (t108x.getD (t108o + t110x.toNat) (0, 0, 0, ())).2.2.1, list2, ())).bind fun y1 => (F_impl_share (out, (t108x.getD (t108o + t110x.toNat) (0, 0, 0, ())).2.2.1, out2, ())).bind fun y2 => if 0 ≤ y1.1 ∧ y1.1 < (o5.length : Int) then if 0 ≤ y1.1 ∧ y1.1 < (poor.length : Int) then if 0 ≤ y1.1 ∧ y1.1 < ((o5.set ((y1.1).toNat) (y2.1, ())).length : Int) then nx4 (w64 (left - ((o5.set ((y1.1).toNat) (y2.1, ())).getD ((y1.1).toNat) (0, ())).1)) t108o t108l t109x (w64 (t110x + 1)) list2 t4x t4x2 t4x3 out out2 out3 (poor.set ((y1.1).toNat) (true, ())) t108x (o5.set ((y1.1).toNat) (y2.1, ())) o6 else none else none else none else none else none) (ex3 left list2 t4x t4x2 t4x3 out out2 out3 poor o5 o6)
noncomputable def R5 {R : Type} (nx5 : (Int → Int → Int → Int → Int → Int → Int → Int → Int → (List (Bool × Unit)) → (List (Int × Unit)) → (List (Bool × Unit)) → Option R)) (ex4 : (Int → Int → Int → Int → Int → Int → (List (Int × Unit)) → (List (Bool × Unit)) → Option R)) (left t142x t143x t4x t4x2 t4x3 out out2 out3 : Int) (poor : List (Bool × Unit)) (o3 : List (Int × Unit)) (o4 : List (Bool × Unit)) : Option R := cond (decide (t143x < t142x)) (if 0 ≤ t143x ∧ t143x < (poor.length : Int) then cond ((poor.getD t143x.toNat (false, ())).1) (cond (decide (left > 0)) (if 0 ≤ t143x ∧ t143x < (o3.length : Int) then if 0 ≤ t143x ∧ t143x < (o3.length : Int) then if 0 ≤ t143x ∧ t143x < (o4.length : Int) then nx5 (w64 (left - 1)) t142x (w64 (t143x + 1)) t4x t4x2 t4x3 out out2 out3 poor (o3.set t143x.toNat ((w64 ((o3.getD t143x.toNat (0, ())).1 + 1)), ())) (o4.set t143x.toNat (true, ())) else none else none else none) (nx5 left t142x (w64 (t143x + 1)) t4x t4x2 t4x3 out out2 out3 poor o3 o4)) (nx5 left t142x (w64 (t143x + 1)) t4x t4x2 t4x3 out out2 out3 poor o3 o4) else none) (ex4 t4x t4x2 t4x3 out out2 out3 o3 o4)
noncomputable def A0 (lo1 : ((List U6) → Int → Int → Int → Int → Int → Int → (List U6) → (List (Int × Unit)) → (List (Bool × Unit)) → Option (U2))) (amount : Int) (list : List U6) (list2 : List U6) (t4x t4x2 t4x3 out out2 out3 : Int) (o3 : List (Int × Unit)) (o4 : List (Bool × Unit)) : Option (U2) := (F_impl_sorted (list2, ())).bind fun y1 => lo1 list2 t4x t4x2 t4x3 out out2 out3 y1.1 o3 o4
noncomputable def A1 (lo3 : (Int → Int → Int → (List U6) → Int → Int → Int → Int → Int → Int → (List (Bool × Unit)) → (List U6) → (List (Int × Unit)) → (List (Bool × Unit)) → Option (U2))) (amount : Int) (list : List U6) (list2 : List U6) (t4x t4x2 t4x3 out out2 out3 : Int) (order : List U6) (o4 : List (Int × Unit)) (o5 : List (Bool × Unit)) : Option (U2) := cond ((order.length : Int) == 0) (some (o4, 0, 0, out3, o5, ())) (if 0 ≤ (list2.length : Int) ∧ (1 : Int) * (list2.length : Int) ≤ 281474976710656 ∧ (list2.length : Int) ≤ 9223372036854775807 then lo3 out (order.length : Int) 0 list2 t4x t4x2 t4x3 out out2 out3 (List.replicate (((list2.length : Int) : Int)).toNat (false, ())) order o4 o5 else none)
noncomputable def A2 (lo4 : (Int → Nat → Nat → Int → Int → (List U6) → Int → Int → Int → Int → Int → Int → (List (Bool × Unit)) → (List U6) → (List (Int × Unit)) → (List (Bool × Unit)) → Option (U2))) (amount : Int) (list : List U6) (ordero orderl : Nat) (list2 : List U6) (t4x t4x2 t4x3 out out2 out3 : Int) (order : List U6) (o4 : List (Int × Unit)) (o5 : List (Bool × Unit)) : Option (U2) := cond ((orderl : Int) == 0) (some (o4, 0, 0, out3, o5, ())) (if 0 ≤ (list2.length : Int) ∧ (1 : Int) * (list2.length : Int) ≤ 281474976710656 ∧ (list2.length : Int) ≤ 9223372036854775807 then lo4 out ordero orderl (orderl : Int) 0 list2 t4x t4x2 t4x3 out out2 out3 (List.replicate (((list2.length : Int) : Int)).toNat (false, ())) order o4 o5 else none)
noncomputable def A3 (lo5 : (Int → Int → Int → Int → Int → Int → Int → Int → Int → (List (Bool × Unit)) → (List (Int × Unit)) → (List (Bool × Unit)) → Option (U2))) (amount : Int) (list : List U6) (left : Int) (list2 : List U6) (t4x t4x2 t4x3 out out2 out3 : Int) (poor : List (Bool × Unit)) (o4 : List (Int × Unit)) (o5 : List (Bool × Unit)) : Option (U2) := lo5 left (list2.length : Int) 0 t4x t4x2 t4x3 out out2 out3 poor o4 o5
noncomputable def A4  (amount : Int) (list : List U6) (t4x t4x2 t4x3 out out2 out3 : Int) (o2 : List (Int × Unit)) (o3 : List (Bool × Unit)) : Option (U2) := some (o2, out, out2, out3, o3, ())
noncomputable def T (lo0 : ((List U6) → Int → Int → (List U6) → Int → Int → Int → Int → Int → Int → (List (Int × Unit)) → (List (Bool × Unit)) → Option (U2))) (amount : Int) (list : List U6) : Option (U2) := if 0 ≤ (list.length : Int) ∧ (8 : Int) * (list.length : Int) ≤ 281474976710656 ∧ (list.length : Int) ≤ 9223372036854775807 then if 0 ≤ (list.length : Int) ∧ (1 : Int) * (list.length : Int) ≤ 281474976710656 ∧ (list.length : Int) ≤ 9223372036854775807 then lo0 list (list.length : Int) 0 list 0 0 0 amount 0 0 (List.replicate (((list.length : Int) : Int)).toNat (0, ())) (List.replicate (((list.length : Int) : Int)).toNat (false, ())) else none else none
noncomputable def zst0 {R : Type} (k0 : Nat) : Env → List Ob → Kont R → Option R := fun env ob K => runCode Tryz.prog ztbl 172 0 zcfg k0 (codeAt [1, 1, 0, 1, 0, 0] zbody) env ob K
noncomputable def K0 {R : Type} (k0 : Nat) (K : Kont R) : Kont R := blockK 0 (seqK (fun env ob => runCode Tryz.prog ztbl 172 0 zcfg k0 (codeAt [1, 1, 1] zbody) env ob (K)) (K))
noncomputable def zst1 {R : Type} (k0 : Nat) : Env → List Ob → Kont R → Option R := fun env ob K => runCode Tryz.prog ztbl 172 0 zcfg k0 (codeAt [1, 1, 1, 1, 1, 0, 0, 0] zbody) env ob K
noncomputable def K1 {R : Type} (k0 : Nat) (K : Kont R) : Kont R := blockK 2 (seqK (fun env ob => runCode Tryz.prog ztbl 172 0 zcfg k0 (codeAt [1, 1, 1, 1, 1, 1] zbody) env ob (K)) (K))
noncomputable def zst2 {R : Type} (k0 : Nat) : Env → List Ob → Kont R → Option R := fun env ob K => runCode Tryz.prog ztbl 172 0 zcfg k0 (codeAt [1, 1, 1, 1, 1, 1, 1, 1, 0, 1, 0, 0] zbody) env ob K
noncomputable def K2 {R : Type} (k0 : Nat) (K : Kont R) : Kont R := blockK 4 (seqK (fun env ob => runCode Tryz.prog ztbl 172 0 zcfg k0 (codeAt [1, 1, 1, 1, 1, 1, 1, 1, 1] zbody) env ob (K)) (K))
noncomputable def zst3 {R : Type} (k0 : Nat) : Env → List Ob → Kont R → Option R := fun env ob K => runCode Tryz.prog ztbl 172 0 zcfg k0 (codeAt [1, 1, 1, 1, 1, 1, 1, 1, 1, 0, 1, 0, 0] zbody) env ob K
noncomputable def K3 {R : Type} (k0 : Nat) (K : Kont R) : Kont R := blockK 6 (seqK (fun env ob => runCode Tryz.prog ztbl 172 0 zcfg k0 (codeAt [1, 1, 1, 1, 1, 1, 1, 1, 1, 1] zbody) env ob (K)) (K))
noncomputable def L0 {R : Type} (k0 k : Nat) (K : Kont R) (t26x : List U6) (t27x t28x : Int) (list2 : List U6) (t4x t4x2 t4x3 out out2 out3 : Int) (o3 : List (Int × Unit)) (o4 : List (Bool × Unit)) : Option R := iter 0 [3, 4, 5, 26, 27, 28] [3, 4, 5] (zst0 k0) k [(3, .ptr 0 0 0 0), (4, .ptr 1 0 0 0), (5, .ptr 2 0 0 0), (26, .sl ct0 t26x), (27, .int .i64 t27x), (28, .int .i64 t28x)] [.box [.sl ct0 list2], .box [.nils, .int .i64 t4x, .int .i64 t4x2, .int .i64 t4x3, .nils], .box [.own 3, .int .i64 out, .int .i64 out2, .int .i64 out3, .own 4], .arr [CT.int .i64] o3, .arr [CT.bool] o4] K
noncomputable def L1 {R : Type} (k0 k : Nat) (K : Kont R) (list2 : List U6) (t4x t4x2 t4x3 out out2 out3 : Int) (order : List U6) (o4 : List (Int × Unit)) (o5 : List (Bool × Unit)) : Option R := iter 0 [3, 4, 5, 8, 9] [3, 4, 5, 8, 9] (zst1 k0) k [(3, .ptr 0 0 0 0), (4, .ptr 1 0 0 0), (5, .ptr 2 0 0 0), (8, .own 3), (9, .fn 115 [.ptr 0 0 0 0])] [.box [.sl ct0 list2], .box [.nils, .int .i64 t4x, .int .i64 t4x2, .int .i64 t4x3, .nils], .box [.own 4, .int .i64 out, .int .i64 out2, .int .i64 out3, .own 5], .arr ct0 order, .arr [CT.int .i64] o4, .arr [CT.bool] o5] K
noncomputable def L2 {R : Type} (k0 k : Nat) (K : Kont R) (ordero orderl : Nat) (list2 : List U6) (t4x t4x2 t4x3 out out2 out3 : Int) (order : List U6) (o4 : List (Int × Unit)) (o5 : List (Bool × Unit)) : Option R := iter 0 [3, 4, 5, 8, 9] [3, 4, 5, 8, 9] (zst1 k0) k [(3, .ptr 0 0 0 0), (4, .ptr 1 0 0 0), (5, .ptr 2 0 0 0), (8, .ref 3 3 ordero orderl), (9, .fn 115 [.ptr 0 0 0 0])] [.box [.sl ct0 list2], .box [.nils, .int .i64 t4x, .int .i64 t4x2, .int .i64 t4x3, .nils], .box [.own 4, .int .i64 out, .int .i64 out2, .int .i64 out3, .own 5], .arr ct0 order, .arr [CT.int .i64] o4, .arr [CT.bool] o5] K
noncomputable def L3 {R : Type} (k0 k : Nat) (K : Kont R) (left t109x t110x : Int) (list2 : List U6) (t4x t4x2 t4x3 out out2 out3 : Int) (poor : List (Bool × Unit)) (t108x : List U6) (o5 : List (Int × Unit)) (o6 : List (Bool × Unit)) : Option R := iter 0 [3, 4, 5, 9, 11, 12, 108, 109, 110] [3, 4, 5, 11, 12] (zst2 k0) k [(3, .ptr 0 0 0 0), (4, .ptr 1 0 0 0), (5, .ptr 2 0 0 0), (9, .fn 115 [.ptr 0 0 0 0]), (11, .int .i64 left), (12, .own 3), (108, .own 4), (109, .int .i64 t109x), (110, .int .i64 t110x)] [.box [.sl ct0 list2], .box [.nils, .int .i64 t4x, .int .i64 t4x2, .int .i64 t4x3, .nils], .box [.own 5, .int .i64 out, .int .i64 out2, .int .i64 out3, .own 6], .arr [CT.bool] poor, .arr ct0 t108x, .arr [CT.int .i64] o5, .arr [CT.bool] o6] K
noncomputable def L4 {R : Type} (k0 k : Nat) (K : Kont R) (left : Int) (t108o t108l : Nat) (t109x t110x : Int) (list2 : List U6) (t4x t4x2 t4x3 out out2 out3 : Int) (poor : List (Bool × Unit)) (t108x : List U6) (o5 : List (Int × Unit)) (o6 : List (Bool × Unit)) : Option R := iter 0 [3, 4, 5, 9, 11, 12, 108, 109, 110] [3, 4, 5, 11, 12] (zst2 k0) k [(3, .ptr 0 0 0 0), (4, .ptr 1 0 0 0), (5, .ptr 2 0 0 0), (9, .fn 115 [.ptr 0 0 0 0]), (11, .int .i64 left), (12, .own 3), (108, .ref 4 3 t108o t108l), (109, .int .i64 t109x), (110, .int .i64 t110x)] [.box [.sl ct0 list2], .box [.nils, .int .i64 t4x, .int .i64 t4x2, .int .i64 t4x3, .nils], .box [.own 5, .int .i64 out, .int .i64 out2, .int .i64 out3, .own 6], .arr [CT.bool] poor, .arr ct0 t108x, .arr [CT.int .i64] o5, .arr [CT.bool] o6] K
noncomputable def L5 {R : Type} (k0 k : Nat) (K : Kont R) (left t142x t143x t4x t4x2 t4x3 out out2 out3 : Int) (poor : List (Bool × Unit)) (o3 : List (Int × Unit)) (o4 : List (Bool × Unit)) : Option R := iter 0 [4, 5, 11, 12, 142, 143] [4, 5] (zst3 k0) k [(4, .ptr 0 0 0 0), (5, .ptr 1 0 0 0), (11, .int .i64 left), (12, .own 2), (142, .int .i64 t142x), (143, .int .i64 t143x)] [.box [.nils, .int .i64 t4x, .int .i64 t4x2, .int .i64 t4x3, .nils], .box [.own 3, .int .i64 out, .int .i64 out2, .int .i64 out3, .own 4], .arr [CT.bool] poor, .arr [CT.int .i64] o3, .arr [CT.bool] o4] K
theorem zs0 {R : Type} (k0 k : Nat) (K : Kont R) (t26x : List U6) (t27x t28x : Int) (list2 : List U6) (t4x t4x2 t4x3 out out2 out3 : Int) (o3 : List (Int × Unit)) (o4 : List (Bool × Unit)) : L0 k0 (k + 1) K t26x t27x t28x list2 t4x t4x2 t4x3 out out2 out3 o3 o4 = R0 (L0 k0 k K) (fun list2 t4x t4x2 t4x3 out out2 out3 o3 o4 => K (.exit 0) [(3, .ptr 0 0 0 0), (4, .ptr 1 0 0 0), (5, .ptr 2 0 0 0)] [.box [.sl ct0 list2], .box [.nils, .int .i64 t4x, .int .i64 t4x2, .int .i64 t4x3, .nils], .box [.own 3, .int .i64 out, .int .i64 out2, .int .i64 out3, .own 4], .arr [CT.int .i64] o3, .arr [CT.bool] o4]) t26x t27x t28x list2 t4x t4x2 t4x3 out out2 out3 o3 o4 := by kernel_rfl
theorem zs1 {R : Type} (k0 k : Nat) (K : Kont R) (list2 : List U6) (t4x t4x2 t4x3 out out2 out3 : Int) (order : List U6) (o4 : List (Int × Unit)) (o5 : List (Bool × Unit)) : L1 k0 (k + 1) K list2 t4x t4x2 t4x3 out out2 out3 order o4 o5 = R1 (L2 k0 k K) (fun list2 t4x t4x2 t4x3 out out2 out3 order o4 o5 => K (.exit 2) [(3, .ptr 0 0 0 0), (4, .ptr 1 0 0 0), (5, .ptr 2 0 0 0), (8, .own 3), (9, .fn 115 [.ptr 0 0 0 0])] [.box [.sl ct0 list2], .box [.nils, .int .i64 t4x, .int .i64 t4x2, .int .i64 t4x3, .nils], .box [.own 4, .int .i64 out, .int .i64 out2, .int .i64 out3, .own 5], .arr ct0 order, .arr [CT.int .i64] o4, .arr [CT.bool] o5]) list2 t4x t4x2 t4x3 out out2 out3 order o4 o5 := by kernel_rfl
theorem zs2 {R : Type} (k0 k : Nat) (K : Kont R) (ordero orderl : Nat) (list2 : List U6) (t4x t4x2 t4x3 out out2 out3 : Int) (order : List U6) (o4 : List (Int × Unit)) (o5 : List (Bool × Unit)) : L2 k0 (k + 1) K ordero orderl list2 t4x t4x2 t4x3 out out2 out3 order o4 o5 = R2 (L2 k0 k K) (fun ordero orderl list2 t4x t4x2 t4x3 out out2 out3 order o4 o5 => K (.exit 2) [(3, .ptr 0 0 0 0), (4, .ptr 1 0 0 0), (5, .ptr 2 0 0 0), (8, .ref 3 3 ordero orderl), (9, .fn 115 [.ptr 0 0 0 0])] [.box [.sl ct0 list2], .box [.nils, .int .i64 t4x, .int .i64 t4x2, .int .i64 t4x3, .nils], .box [.own 4, .int .i64 out, .int .i64 out2, .int .i64 out3, .own 5], .arr ct0 order, .arr [CT.int .i64] o4, .arr [CT.bool] o5]) ordero orderl list2 t4x t4x2 t4x3 out out2 out3 order o4 o5 := by kernel_rfl
theorem zs3 {R : Type} (k0 k : Nat) (K : Kont R) (left t109x t110x : Int) (list2 : List U6) (t4x t4x2 t4x3 out out2 out3 : Int) (poor : List (Bool × Unit)) (t108x : List U6) (o5 : List (Int × Unit)) (o6 : List (Bool × Unit)) : L3 k0 (k + 1) K left t109x t110x list2 t4x t4x2 t4x3 out out2 out3 poor t108x o5 o6 = R3 (L3 k0 k K) (fun left list2 t4x t4x2 t4x3 out out2 out3 poor o4 o5 => K (.exit 4) [(3, .ptr 0 0 0 0), (4, .ptr 1 0 0 0), (5, .ptr 2 0 0 0), (11, .int .i64 left), (12, .own 3)] [.box [.sl ct0 list2], .box [.nils, .int .i64 t4x, .int .i64 t4x2, .int .i64 t4x3, .nils], .box [.own 4, .int .i64 out, .int .i64 out2, .int .i64 out3, .own 5], .arr [CT.bool] poor, .arr [CT.int .i64] o4, .arr [CT.bool] o5]) left t109x t110x list2 t4x t4x2 t4x3 out out2 out3 poor t108x o5 o6 := by kernel_rfl
theorem zs4 {R : Type} (k0 k : Nat) (K : Kont R) (left : Int) (t108o t108l : Nat) (t109x t110x : Int) (list2 : List U6) (t4x t4x2 t4x3 out out2 out3 : Int) (poor : List (Bool × Unit)) (t108x : List U6) (o5 : List (Int × Unit)) (o6 : List (Bool × Unit)) : L4 k0 (k + 1) K left t108o t108l t109x t110x list2 t4x t4x2 t4x3 out out2 out3 poor t108x o5 o6 = R4 (L4 k0 k K) (fun left list2 t4x t4x2 t4x3 out out2 out3 poor o4 o5 => K (.exit 4) [(3, .ptr 0 0 0 0), (4, .ptr 1 0 0 0), (5, .ptr 2 0 0 0), (11, .int .i64 left), (12, .own 3)] [.box [.sl ct0 list2], .box [.nils, .int .i64 t4x, .int .i64 t4x2, .int .i64 t4x3, .nils], .box [.own 4, .int .i64 out, .int .i64 out2, .int .i64 out3, .own 5], .arr [CT.bool] poor, .arr [CT.int .i64] o4, .arr [CT.bool] o5]) left t108o t108l t109x t110x list2 t4x t4x2 t4x3 out out2 out3 poor t108x o5 o6 := by kernel_rfl
theorem zs5 {R : Type} (k0 k : Nat) (K : Kont R) (left t142x t143x t4x t4x2 t4x3 out out2 out3 : Int) (poor : List (Bool × Unit)) (o3 : List (Int × Unit)) (o4 : List (Bool × Unit)) : L5 k0 (k + 1) K left t142x t143x t4x t4x2 t4x3 out out2 out3 poor o3 o4 = R5 (L5 k0 k K) (fun t4x t4x2 t4x3 out out2 out3 o2 o3 => K (.exit 6) [(4, .ptr 0 0 0 0), (5, .ptr 1 0 0 0)] [.box [.nils, .int .i64 t4x, .int .i64 t4x2, .int .i64 t4x3, .nils], .box [.own 2, .int .i64 out, .int .i64 out2, .int .i64 out3, .own 3], .arr [CT.int .i64] o2, .arr [CT.bool] o3]) left t142x t143x t4x t4x2 t4x3 out out2 out3 poor o3 o4 := by kernel_rfl
theorem za0 (k0 : Nat) (amount : Int) (list : List U6) (list2 : List U6) (t4x t4x2 t4x3 out out2 out3 : Int) (o3 : List (Int × Unit)) (o4 : List (Bool × Unit)) : K0 (R := (U2)) k0 (finK Tryz.prog [.cell 4 152] ins_impl_fill outs_impl_fill (amount, list, ())) (.exit 0) [(3, .ptr 0 0 0 0), (4, .ptr 1 0 0 0), (5, .ptr 2 0 0 0)] [.box [.sl ct0 list2], .box [.nils, .int .i64 t4x, .int .i64 t4x2, .int .i64 t4x3, .nils], .box [.own 3, .int .i64 out, .int .i64 out2, .int .i64 out3, .own 4], .arr [CT.int .i64] o3, .arr [CT.bool] o4] = A0 (L1 (R := (U2)) k0 k0 (K1 (R := (U2)) k0 ((finK Tryz.prog [.cell 4 152] ins_impl_fill outs_impl_fill (amount, list, ()))))) amount list list2 t4x t4x2 t4x3 out out2 out3 o3 o4 := by kernel_rfl
theorem za1 (k0 : Nat) (amount : Int) (list : List U6) (list2 : List U6) (t4x t4x2 t4x3 out out2 out3 : Int) (order : List U6) (o4 : List (Int × Unit)) (o5 : List (Bool × Unit)) : K1 (R := (U2)) k0 (finK Tryz.prog [.cell 4 152] ins_impl_fill outs_impl_fill (amount, list, ())) (.exit 2) [(3, .ptr 0 0 0 0), (4, .ptr 1 0 0 0), (5, .ptr 2 0 0 0), (8, .own 3), (9, .fn 115 [.ptr 0 0 0 0])] [.box [.sl ct0 list2], .box [.nils, .int .i64 t4x, .int .i64 t4x2, .int .i64 t4x3, .nils], .box [.own 4, .int .i64 out, .int .i64 out2, .int .i64 out3, .own 5], .arr ct0 order, .arr [CT.int .i64] o4, .arr [CT.bool] o5] = A1 (L3 (R := (U2)) k0 k0 (K2 (R := (U2)) k0 ((finK Tryz.prog [.cell 4 152] ins_impl_fill outs_impl_fill (amount, list, ()))))) amount list list2 t4x t4x2 t4x3 out out2 out3 order o4 o5 := by kernel_rfl
theorem za2 (k0 : Nat) (amount : Int) (list : List U6) (ordero orderl : Nat) (list2 : List U6) (t4x t4x2 t4x3 out out2 out3 : Int) (order : List U6) (o4 : List (Int × Unit)) (o5 : List (Bool × Unit)) : K1 (R := (U2)) k0 (finK Tryz.prog [.cell 4 152] ins_impl_fill outs_impl_fill (amount, list, ())) (.exit 2) [(3, .ptr 0 0 0 0), (4, .ptr 1 0 0 0), (5, .ptr 2 0 0 0), (8, .ref 3 3 ordero orderl), (9, .fn 115 [.ptr 0 0 0 0])] [.box [.sl ct0 list2], .box [.nils, .int .i64 t4x, .int .i64 t4x2, .int .i64 t4x3, .nils], .box [.own 4, .int .i64 out, .int .i64 out2, .int .i64 out3, .own 5], .arr ct0 order, .arr [CT.int .i64] o4, .arr [CT.bool] o5] = A2 (L4 (R := (U2)) k0 k0 (K2 (R := (U2)) k0 ((finK Tryz.prog [.cell 4 152] ins_impl_fill outs_impl_fill (amount, list, ()))))) amount list ordero orderl list2 t4x t4x2 t4x3 out out2 out3 order o4 o5 := by kernel_rfl
theorem za3 (k0 : Nat) (amount : Int) (list : List U6) (left : Int) (list2 : List U6) (t4x t4x2 t4x3 out out2 out3 : Int) (poor : List (Bool × Unit)) (o4 : List (Int × Unit)) (o5 : List (Bool × Unit)) : K2 (R := (U2)) k0 (finK Tryz.prog [.cell 4 152] ins_impl_fill outs_impl_fill (amount, list, ())) (.exit 4) [(3, .ptr 0 0 0 0), (4, .ptr 1 0 0 0), (5, .ptr 2 0 0 0), (11, .int .i64 left), (12, .own 3)] [.box [.sl ct0 list2], .box [.nils, .int .i64 t4x, .int .i64 t4x2, .int .i64 t4x3, .nils], .box [.own 4, .int .i64 out, .int .i64 out2, .int .i64 out3, .own 5], .arr [CT.bool] poor, .arr [CT.int .i64] o4, .arr [CT.bool] o5] = A3 (L5 (R := (U2)) k0 k0 (K3 (R := (U2)) k0 ((finK Tryz.prog [.cell 4 152] ins_impl_fill outs_impl_fill (amount, list, ()))))) amount list left list2 t4x t4x2 t4x3 out out2 out3 poor o4 o5 := by kernel_rfl
theorem za4 (k0 : Nat) (amount : Int) (list : List U6) (t4x t4x2 t4x3 out out2 out3 : Int) (o2 : List (Int × Unit)) (o3 : List (Bool × Unit)) : K3 (R := (U2)) k0 (finK Tryz.prog [.cell 4 152] ins_impl_fill outs_impl_fill (amount, list, ())) (.exit 6) [(4, .ptr 0 0 0 0), (5, .ptr 1 0 0 0)] [.box [.nils, .int .i64 t4x, .int .i64 t4x2, .int .i64 t4x3, .nils], .box [.own 2, .int .i64 out, .int .i64 out2, .int .i64 out3, .own 3], .arr [CT.int .i64] o2, .arr [CT.bool] o3] = A4  amount list t4x t4x2 t4x3 out out2 out3 o2 o3 := by kernel_rfl
theorem ztop (k0 : Nat) (amount : Int) (list : List U6) : runFn Tryz.prog ztbl zcfg k0 103 ins_impl_fill outs_impl_fill [] (amount, list, ()) = T (L0 (R := (U2)) k0 k0 (K0 (R := (U2)) k0 ((finK Tryz.prog [.cell 4 152] ins_impl_fill outs_impl_fill (amount, list, ()))))) amount list := by kernel_rfl
noncomputable def G0 {R : Type} (k0 : Nat) (hx0 : ((List U6) → Int → Int → Int → Int → Int → Int → (List (Int × Unit)) → (List (Bool × Unit)) → Option R)) : Nat → (List U6) → Int → Int → (List U6) → Int → Int → Int → Int → Int → Int → (List (Int × Unit)) → (List (Bool × Unit)) → Option R
 | 0, _, _, _, _, _, _, _, _, _, _, _, _ => none
 | k + 1, t26x, t27x, t28x, list2, t4x, t4x2, t4x3, out, out2, out3, o3, o4 => R0 (G0 k0 hx0 k) hx0 t26x t27x t28x list2 t4x t4x2 t4x3 out out2 out3 o3 o4
theorem zg0 {R : Type} (k0 : Nat) (K : Kont R) : ∀ k : Nat, L0 k0 k K = G0 k0 (fun list2 t4x t4x2 t4x3 out out2 out3 o3 o4 => K (.exit 0) [(3, .ptr 0 0 0 0), (4, .ptr 1 0 0 0), (5, .ptr 2 0 0 0)] [.box [.sl ct0 list2], .box [.nils, .int .i64 t4x, .int .i64 t4x2, .int .i64 t4x3, .nils], .box [.own 3, .int .i64 out, .int .i64 out2, .int .i64 out3, .own 4], .arr [CT.int .i64] o3, .arr [CT.bool] o4]) k := by
 intro k
 induction k with
 | zero => funext t26x t27x t28x list2 t4x t4x2 t4x3 out out2 out3 o3 o4; rfl
 | succ k ih => funext t26x t27x t28x list2 t4x t4x2 t4x3 out out2 out3 o3 o4; rw [zs0, G0]; (try simp only [ih]); try rfl
noncomputable def G2 {R : Type} (k0 : Nat) (hx1 : ((List U6) → Int → Int → Int → Int → Int → Int → (List U6) → (List (Int × Unit)) → (List (Bool × Unit)) → Option R)) (hx2 : (Nat → Nat → (List U6) → Int → Int → Int → Int → Int → Int → (List U6) → (List (Int × Unit)) → (List (Bool × Unit)) → Option R)) : Nat → Nat → Nat → (List U6) → Int → Int → Int → Int → Int → Int → (List U6) → (List (Int × Unit)) → (List (Bool × Unit)) → Option R
 | 0, _, _, _, _, _, _, _, _, _, _, _, _ => none
 | k + 1, ordero, orderl, list2, t4x, t4x2, t4x3, out, out2, out3, order, o4, o5 => R2 (G2 k0 hx1 hx2 k) hx2 ordero orderl list2 t4x t4x2 t4x3 out out2 out3 order o4 o5
theorem zg2 {R : Type} (k0 : Nat) (K : Kont R) : ∀ k : Nat, L2 k0 k K = G2 k0 (fun list2 t4x t4x2 t4x3 out out2 out3 order o4 o5 => K (.exit 2) [(3, .ptr 0 0 0 0), (4, .ptr 1 0 0 0), (5, .ptr 2 0 0 0), (8, .own 3), (9, .fn 115 [.ptr 0 0 0 0])] [.box [.sl ct0 list2], .box [.nils, .int .i64 t4x, .int .i64 t4x2, .int .i64 t4x3, .nils], .box [.own 4, .int .i64 out, .int .i64 out2, .int .i64 out3, .own 5], .arr ct0 order, .arr [CT.int .i64] o4, .arr [CT.bool] o5]) (fun ordero orderl list2 t4x t4x2 t4x3 out out2 out3 order o4 o5 => K (.exit 2) [(3, .ptr 0 0 0 0), (4, .ptr 1 0 0 0), (5, .ptr 2 0 0 0), (8, .ref 3 3 ordero orderl), (9, .fn 115 [.ptr 0 0 0 0])] [.box [.sl ct0 list2], .box [.nils, .int .i64 t4x, .int .i64 t4x2, .int .i64 t4x3, .nils], .box [.own 4, .int .i64 out, .int .i64 out2, .int .i64 out3, .own 5], .arr ct0 order, .arr [CT.int .i64] o4, .arr [CT.bool] o5]) k := by
 intro k
 induction k with
 | zero => funext ordero orderl list2 t4x t4x2 t4x3 out out2 out3 order o4 o5; rfl
 | succ k ih => funext ordero orderl list2 t4x t4x2 t4x3 out out2 out3 order o4 o5; rw [zs2, G2]; (try simp only [ih, zg0]); try rfl
noncomputable def G1 {R : Type} (k0 : Nat) (hx1 : ((List U6) → Int → Int → Int → Int → Int → Int → (List U6) → (List (Int × Unit)) → (List (Bool × Unit)) → Option R)) (hx2 : (Nat → Nat → (List U6) → Int → Int → Int → Int → Int → Int → (List U6) → (List (Int × Unit)) → (List (Bool × Unit)) → Option R)) : Nat → (List U6) → Int → Int → Int → Int → Int → Int → (List U6) → (List (Int × Unit)) → (List (Bool × Unit)) → Option R
 | 0, _, _, _, _, _, _, _, _, _, _ => none
 | k + 1, list2, t4x, t4x2, t4x3, out, out2, out3, order, o4, o5 => R1 (G2 k0 hx1 hx2 k) hx1 list2 t4x t4x2 t4x3 out out2 out3 order o4 o5
theorem zg1 {R : Type} (k0 : Nat) (K : Kont R) : ∀ k : Nat, L1 k0 k K = G1 k0 (fun list2 t4x t4x2 t4x3 out out2 out3 order o4 o5 => K (.exit 2) [(3, .ptr 0 0 0 0), (4, .ptr 1 0 0 0), (5, .ptr 2 0 0 0), (8, .own 3), (9, .fn 115 [.ptr 0 0 0 0])] [.box [.sl ct0 list2], .box [.nils, .int .i64 t4x, .int .i64 t4x2, .int .i64 t4x3, .nils], .box [.own 4, .int .i64 out, .int .i64 out2, .int .i64 out3, .own 5], .arr ct0 order, .arr [CT.int .i64] o4, .arr [CT.bool] o5]) (fun ordero orderl list2 t4x t4x2 t4x3 out out2 out3 order o4 o5 => K (.exit 2) [(3, .ptr 0 0 0 0), (4, .ptr 1 0 0 0), (5, .ptr 2 0 0 0), (8, .ref 3 3 ordero orderl), (9, .fn 115 [.ptr 0 0 0 0])] [.box [.sl ct0 list2], .box [.nils, .int .i64 t4x, .int .i64 t4x2, .int .i64 t4x3, .nils], .box [.own 4, .int .i64 out, .int .i64 out2, .int .i64 out3, .own 5], .arr ct0 order, .arr [CT.int .i64] o4, .arr [CT.bool] o5]) k := by
 intro k
 induction k with
 | zero => funext list2 t4x t4x2 t4x3 out out2 out3 order o4 o5; rfl
 | succ k ih => funext list2 t4x t4x2 t4x3 out out2 out3 order o4 o5; rw [zs1, G1]; (try simp only [ih, zg0, zg2]); try rfl
noncomputable def G3 {R : Type} (k0 : Nat) (hx3 : (Int → (List U6) → Int → Int → Int → Int → Int → Int → (List (Bool × Unit)) → (List (Int × Unit)) → (List (Bool × Unit)) → Option R)) : Nat → Int → Int → Int → (List U6) → Int → Int → Int → Int → Int → Int → (List (Bool × Unit)) → (List U6) → (List (Int × Unit)) → (List (Bool × Unit)) → Option R
 | 0, _, _, _, _, _, _, _, _, _, _, _, _, _, _ => none
 | k + 1, left, t109x, t110x, list2, t4x, t4x2, t4x3, out, out2, out3, poor, t108x, o5, o6 => R3 (G3 k0 hx3 k) hx3 left t109x t110x list2 t4x t4x2 t4x3 out out2 out3 poor t108x o5 o6
theorem zg3 {R : Type} (k0 : Nat) (K : Kont R) : ∀ k : Nat, L3 k0 k K = G3 k0 (fun left list2 t4x t4x2 t4x3 out out2 out3 poor o4 o5 => K (.exit 4) [(3, .ptr 0 0 0 0), (4, .ptr 1 0 0 0), (5, .ptr 2 0 0 0), (11, .int .i64 left), (12, .own 3)] [.box [.sl ct0 list2], .box [.nils, .int .i64 t4x, .int .i64 t4x2, .int .i64 t4x3, .nils], .box [.own 4, .int .i64 out, .int .i64 out2, .int .i64 out3, .own 5], .arr [CT.bool] poor, .arr [CT.int .i64] o4, .arr [CT.bool] o5]) k := by
 intro k
 induction k with
 | zero => funext left t109x t110x list2 t4x t4x2 t4x3 out out2 out3 poor t108x o5 o6; rfl
 | succ k ih => funext left t109x t110x list2 t4x t4x2 t4x3 out out2 out3 poor t108x o5 o6; rw [zs3, G3]; (try simp only [ih, zg0, zg2, zg1]); try rfl
noncomputable def G5 {R : Type} (k0 : Nat) (hx4 : (Int → Int → Int → Int → Int → Int → (List (Int × Unit)) → (List (Bool × Unit)) → Option R)) : Nat → Int → Int → Int → Int → Int → Int → Int → Int → Int → (List (Bool × Unit)) → (List (Int × Unit)) → (List (Bool × Unit)) → Option R
 | 0, _, _, _, _, _, _, _, _, _, _, _, _ => none
 | k + 1, left, t142x, t143x, t4x, t4x2, t4x3, out, out2, out3, poor, o3, o4 => R5 (G5 k0 hx4 k) hx4 left t142x t143x t4x t4x2 t4x3 out out2 out3 poor o3 o4
theorem zg5 {R : Type} (k0 : Nat) (K : Kont R) : ∀ k : Nat, L5 k0 k K = G5 k0 (fun t4x t4x2 t4x3 out out2 out3 o2 o3 => K (.exit 6) [(4, .ptr 0 0 0 0), (5, .ptr 1 0 0 0)] [.box [.nils, .int .i64 t4x, .int .i64 t4x2, .int .i64 t4x3, .nils], .box [.own 2, .int .i64 out, .int .i64 out2, .int .i64 out3, .own 3], .arr [CT.int .i64] o2, .arr [CT.bool] o3]) k := by
 intro k
 induction k with
 | zero => funext left t142x t143x t4x t4x2 t4x3 out out2 out3 poor o3 o4; rfl
 | succ k ih => funext left t142x t143x t4x t4x2 t4x3 out out2 out3 poor o3 o4; rw [zs5, G5]; (try simp only [ih, zg0, zg2, zg1, zg3]); try rfl
noncomputable def G4 {R : Type} (k0 : Nat) (hx3 : (Int → (List U6) → Int → Int → Int → Int → Int → Int → (List (Bool × Unit)) → (List (Int × Unit)) → (List (Bool × Unit)) → Option R)) : Nat → Int → Nat → Nat → Int → Int → (List U6) → Int → Int → Int → Int → Int → Int → (List (Bool × Unit)) → (List U6) → (List (Int × Unit)) → (List (Bool × Unit)) → Option R
 | 0, _, _, _, _, _, _, _, _, _, _, _, _, _, _, _, _ => none
 | k + 1, left, t108o, t108l, t109x, t110x, list2, t4x, t4x2, t4x3, out, out2, out3, poor, t108x, o5, o6 => R4 (G4 k0 hx3 k) hx3 left t108o t108l t109x t110x list2 t4x t4x2 t4x3 out out2 out3 poor t108x o5 o6
theorem zg4 {R : Type} (k0 : Nat) (K : Kont R) : ∀ k : Nat, L4 k0 k K = G4 k0 (fun left list2 t4x t4x2 t4x3 out out2 out3 poor o4 o5 => K (.exit 4) [(3, .ptr 0 0 0 0), (4, .ptr 1 0 0 0), (5, .ptr 2 0 0 0), (11, .int .i64 left), (12, .own 3)] [.box [.sl ct0 list2], .box [.nils, .int .i64 t4x, .int .i64 t4x2, .int .i64 t4x3, .nils], .box [.own 4, .int .i64 out, .int .i64 out2, .int .i64 out3, .own 5], .arr [CT.bool] poor, .arr [CT.int .i64] o4, .arr [CT.bool] o5]) k := by
 intro k
 induction k with
 | zero => funext left t108o t108l t109x t110x list2 t4x t4x2 t4x3 out out2 out3 poor t108x o5 o6; rfl
 | succ k ih => funext left t108o t108l t109x t110x list2 t4x t4x2 t4x3 out out2 out3 poor t108x o5 o6; rw [zs4, G4]; (try simp only [ih, zg0, zg2, zg1, zg3, zg5]); try rfl
noncomputable def FF (k0 : Nat) (amount : Int) (list : List U6) : Option (U2) := T (G0 k0 (A0 (G1 k0 (A1 (G3 k0 (A3 (G5 k0 (A4  amount list) k0) amount list) k0) amount list) (A2 (G4 k0 (A3 (G5 k0 (A4  amount list) k0) amount list) k0) amount list) k0) amount list) k0) amount list
theorem zrun (k0 : Nat) (amount : Int) (list : List U6) : runFn Tryz.prog ztbl zcfg k0 103 ins_impl_fill outs_impl_fill [] (amount, list, ()) = FF k0 amount list := by
 rw [ztop, FF]; (try simp only [zg0, zg2, zg1, zg3, zg5, zg4, za0, za1, za2, za3, za4]); try rfl
noncomputable def _root_.Go.Rv.F_impl_fill : Int × (List U6) × Unit → Option (U2) := fun x => (fun (amount : Int) (list : List U6) => FF (300 + list.length) amount list) x.1 x.2.1
noncomputable abbrev _root_.Go.Rv.S_impl_fill : Summ := ⟨ins_impl_fill, outs_impl_fill, F_impl_fill, []⟩
theorem _root_.Go.Rv.ok_impl_fill : SumOK KN Tryz.prog 103 S_impl_fill := runFn_ok (by kernel_rfl) (tblL_ok (.cons ok_impl_sorted (.cons ok_impl_fill_1 (.cons ok_impl_Item_fits (.cons ok_impl_share .nil))))) (by kernel_rfl) fun x y h => ⟨zcfg, _, (zrun _ x.1 x.2.1).trans h⟩
end impl_fill
end Go.Rv
