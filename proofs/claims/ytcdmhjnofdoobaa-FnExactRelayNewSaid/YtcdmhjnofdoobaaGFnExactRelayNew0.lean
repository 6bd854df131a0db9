/- What each function that FnExactRelayNew reaches comes to on pure values (printed by a program of ours). -/
import Derived.Test.YtcdmhjnofdoobaaRvC
import Derived.Test.YtcdmhjnofdoobaaProg
import Derived.KernelRfl
set_option linter.unusedVariables false
set_option linter.unusedSimpArgs false
set_option maxRecDepth 100000
namespace Go.Rv
open Go.Proofs
abbrev ct0 : List CT := [CT.int .i64, CT.int .i64, CT.int .i64, CT.int .i64]
abbrev ct1 : List CT := [CT.int .i64, CT.int .i64, CT.int .i64]
abbrev ct2 : List CT := [CT.int .i64, CT.int .i64, CT.int .i64, CT.int .i64, CT.sl ct0, CT.sl ct0, CT.sl ct1, CT.int .i64, CT.int .i64, CT.int .i64, CT.int .i64, CT.int .i64, CT.int .i64, CT.int .i64, CT.int .i64, CT.int .i64, CT.int .i64]
abbrev ct3 : List CT := [CT.int .i64, CT.int .i64, CT.int .i64, CT.int .i64, CT.sl ct0, CT.sl ct0, CT.sl ct1]
abbrev ct4 : List CT := [CT.int .i64, CT.sl ct0, CT.sl ct0]
abbrev ct5 : List CT := [CT.int .i64, CT.int .i64, CT.int .i64, CT.int .i64, CT.int .i64, CT.int .i64, CT.int .i64, CT.int .i64, CT.int .i64, CT.int .i64]
abbrev ins_laws_eqGroup : List Par := [.v true ct0, .v true ct0]
abbrev outs_laws_eqGroup : List (Bool × List CT) := [(false, [CT.bool])]
/-! ### loop.example/g00095/laws.eqGroup (function 62) -/
noncomputable def laws_eqGroup.tbl : Tbl := fun g fs => none
noncomputable def laws_eqGroup.body : Code := ((Try.prog.funcs[62]?).bind (·.body)).getD .skip
def laws_eqGroup.cfg : Nat → List Nat × List Nat := fun k => ([], [])
noncomputable def laws_eqGroup.T  (a0 : Int) (a1 : Int) (a2 : Int) (a3 : Int) (b0 : Int) (b1 : Int) (b2 : Int) (b3 : Int) : Option (Bool × Unit) := cond (a0 != b0) (some (false, ())) (cond (a1 != b1) (some (false, ())) (cond (a2 != b2) (some (false, ())) (cond (a3 != b3) (some (false, ())) (some (true, ())))))
theorem laws_eqGroup.top (k0 : Nat) (a0 : Int) (a1 : Int) (a2 : Int) (a3 : Int) (b0 : Int) (b1 : Int) (b2 : Int) (b3 : Int) : runFn Try.prog laws_eqGroup.tbl laws_eqGroup.cfg k0 62 ins_laws_eqGroup outs_laws_eqGroup (a0, a1, a2, a3, b0, b1, b2, b3, ()) = laws_eqGroup.T  a0 a1 a2 a3 b0 b1 b2 b3 := by kernel_rfl
noncomputable def F_laws_eqGroup : Int × Int × Int × Int × Int × Int × Int × Int × Unit → Option (Bool × Unit) := fun x => laws_eqGroup.T x.1 x.2.1 x.2.2.1 x.2.2.2.1 x.2.2.2.2.1 x.2.2.2.2.2.1 x.2.2.2.2.2.2.1 x.2.2.2.2.2.2.2.1
theorem laws_eqGroup.tblOK : ∀ g fs S, laws_eqGroup.tbl g fs = some S → SumOK Try.prog g S := by
  intro g fs S h
  unfold laws_eqGroup.tbl at h
  cases h
theorem ok_laws_eqGroup : SumOK Try.prog 62 ⟨ins_laws_eqGroup, outs_laws_eqGroup, F_laws_eqGroup⟩ := runFn_ok (by kernel_rfl) laws_eqGroup.tblOK (by kernel_rfl) fun x y h => ⟨laws_eqGroup.cfg, 0, (laws_eqGroup.top 0 x.1 x.2.1 x.2.2.1 x.2.2.2.1 x.2.2.2.2.1 x.2.2.2.2.2.1 x.2.2.2.2.2.2.1 x.2.2.2.2.2.2.2.1).trans h⟩
abbrev ins_laws_eqGroupS : List Par := [.v false [CT.sl ct0], .v false [CT.sl ct0]]
abbrev outs_laws_eqGroupS : List (Bool × List CT) := [(false, [CT.bool])]
/-! ### loop.example/g00095/laws.eqGroupS (function 34) -/
noncomputable def laws_eqGroupS.tbl : Tbl := fun g fs => if g = 62 ∧ fs = [] then some ⟨ins_laws_eqGroup, outs_laws_eqGroup, F_laws_eqGroup⟩ else none
noncomputable def laws_eqGroupS.body : Code := ((Try.prog.funcs[34]?).bind (·.body)).getD .skip
def laws_eqGroupS.cfg : Nat → List Nat × List Nat := fun k => if k = 4 then ([0, 1, 5], [4]) else ([], [])
noncomputable def laws_eqGroupS.R0 {R : Type} (nx0 : ((List (Int × Int × Int × Int × Unit)) → (List (Int × Int × Int × Int × Unit)) → Int → Option R)) (ex0 : (Bool → Option R)) (ex1 : (Unit → Option R)) (a2 : List (Int × Int × Int × Int × Unit)) (b2 : List (Int × Int × Int × Int × Unit)) (i : Int) : Option R := cond (decide (i < (a2.length : Int))) (if 0 ≤ i ∧ i < (a2.length : Int) then if 0 ≤ i ∧ i < (b2.length : Int) then (F_laws_eqGroup ((rd (0, 0, 0, 0, ()) a2 i).1, (rd (0, 0, 0, 0, ()) a2 i).2.1, (rd (0, 0, 0, 0, ()) a2 i).2.2.1, (rd (0, 0, 0, 0, ()) a2 i).2.2.2.1, (rd (0, 0, 0, 0, ()) b2 i).1, (rd (0, 0, 0, 0, ()) b2 i).2.1, (rd (0, 0, 0, 0, ()) b2 i).2.2.1, (rd (0, 0, 0, 0, ()) b2 i).2.2.2.1, ())).bind fun y1 => cond (!y1.1) (ex0 false) (nx0 a2 b2 (w64 (i + 1))) else none else none) (ex1 ())
noncomputable def laws_eqGroupS.A0  (a : List (Int × Int × Int × Int × Unit)) (b : List (Int × Int × Int × Int × Unit)) (t4x : Bool) : Option (Bool × Unit) := some (t4x, ())
noncomputable def laws_eqGroupS.A1  (a : List (Int × Int × Int × Int × Unit)) (b : List (Int × Int × Int × Int × Unit)) (_u : Unit) : Option (Bool × Unit) := some (true, ())
noncomputable def laws_eqGroupS.T (lo0 : ((List (Int × Int × Int × Int × Unit)) → (List (Int × Int × Int × Int × Unit)) → Int → Option (Bool × Unit))) (a : List (Int × Int × Int × Int × Unit)) (b : List (Int × Int × Int × Int × Unit)) : Option (Bool × Unit) := cond ((a.length : Int) != (b.length : Int)) (some (false, ())) (lo0 a b 0)
noncomputable def laws_eqGroupS.st0 {R : Type} (k0 : Nat) : Env → List Ob → Kont R → Option R := fun env ob K => runCode Try.prog laws_eqGroupS.tbl 27 0 laws_eqGroupS.cfg k0 (codeAt [1, 1, 0, 1, 0, 0] laws_eqGroupS.body) env ob K
noncomputable def laws_eqGroupS.K0 {R : Type} (k0 : Nat) (K : Kont R) : Kont R := blockK 0 (seqK (fun env ob => runCode Try.prog laws_eqGroupS.tbl 27 0 laws_eqGroupS.cfg k0 (codeAt [1, 1, 1] laws_eqGroupS.body) env ob (K)) (K))
noncomputable def laws_eqGroupS.L0 {R : Type} (k0 k : Nat) (K : Kont R) (a2 : List (Int × Int × Int × Int × Unit)) (b2 : List (Int × Int × Int × Int × Unit)) (i : Int) : Option R := iter 0 [0, 1, 5] [4] (laws_eqGroupS.st0 k0) k [(0, .sl ct0 a2), (1, .sl ct0 b2), (5, .int .i64 i)] [] K
theorem laws_eqGroupS.s0 {R : Type} (k0 k : Nat) (K : Kont R) (a2 : List (Int × Int × Int × Int × Unit)) (b2 : List (Int × Int × Int × Int × Unit)) (i : Int) : laws_eqGroupS.L0 k0 (k + 1) K a2 b2 i = laws_eqGroupS.R0 (fun (a2 : List (Int × Int × Int × Int × Unit)) (b2 : List (Int × Int × Int × Int × Unit)) (i : Int) => laws_eqGroupS.L0 k0 k K a2 b2 i) (fun (t4x : Bool) => K .ret [(4, .bool t4x)] []) (fun (_ : Unit) => K (.exit 0) [(4, .undef)] []) a2 b2 i := by kernel_rfl
theorem laws_eqGroupS.a0 (k0 : Nat) (a : List (Int × Int × Int × Int × Unit)) (b : List (Int × Int × Int × Int × Unit)) (t4x : Bool) : laws_eqGroupS.K0 (R := (Bool × Unit)) k0 (finK Try.prog [.tmp 4] ins_laws_eqGroupS outs_laws_eqGroupS (a, b, ())) .ret [(4, .bool t4x)] [] = laws_eqGroupS.A0  a b t4x := by kernel_rfl
theorem laws_eqGroupS.a1 (k0 : Nat) (a : List (Int × Int × Int × Int × Unit)) (b : List (Int × Int × Int × Int × Unit))  : laws_eqGroupS.K0 (R := (Bool × Unit)) k0 (finK Try.prog [.tmp 4] ins_laws_eqGroupS outs_laws_eqGroupS (a, b, ())) (.exit 0) [(4, .undef)] [] = laws_eqGroupS.A1  a b () := by kernel_rfl
theorem laws_eqGroupS.top (k0 : Nat) (a : List (Int × Int × Int × Int × Unit)) (b : List (Int × Int × Int × Int × Unit)) : runFn Try.prog laws_eqGroupS.tbl laws_eqGroupS.cfg k0 34 ins_laws_eqGroupS outs_laws_eqGroupS (a, b, ()) = laws_eqGroupS.T (fun (a2 : List (Int × Int × Int × Int × Unit)) (b2 : List (Int × Int × Int × Int × Unit)) (i : Int) => laws_eqGroupS.L0 (R := (Bool × Unit)) k0 k0 (laws_eqGroupS.K0 (R := (Bool × Unit)) k0 ((finK Try.prog [.tmp 4] ins_laws_eqGroupS outs_laws_eqGroupS (a, b, ())))) a2 b2 i) a b := by kernel_rfl
noncomputable def laws_eqGroupS.G0 {R : Type} (k0 : Nat) (hx0 : (Bool → Option R)) (hx1 : (Unit → Option R)) : Nat → (List (Int × Int × Int × Int × Unit)) → (List (Int × Int × Int × Int × Unit)) → Int → Option R
  | 0, _, _, _ => none
  | k + 1, a2, b2, i => laws_eqGroupS.R0 (fun (a2 : List (Int × Int × Int × Int × Unit)) (b2 : List (Int × Int × Int × Int × Unit)) (i : Int) => laws_eqGroupS.G0 k0 hx0 hx1 k a2 b2 i) (fun (t4x : Bool) => hx0 t4x) (fun (_ : Unit) => hx1 ()) a2 b2 i
theorem laws_eqGroupS.g0 {R : Type} (k0 : Nat) (K : Kont R) : ∀ (k : Nat) (a2 : List (Int × Int × Int × Int × Unit)) (b2 : List (Int × Int × Int × Int × Unit)) (i : Int), laws_eqGroupS.L0 k0 k K a2 b2 i = laws_eqGroupS.G0 k0 (fun (t4x : Bool) => K .ret [(4, .bool t4x)] []) (fun (_ : Unit) => K (.exit 0) [(4, .undef)] []) k a2 b2 i := by
  intro k
  induction k with
  | zero => intros; rfl
  | succ k ih => intros; rw [laws_eqGroupS.s0, laws_eqGroupS.G0]; (try simp only [ih]); try rfl
noncomputable def laws_eqGroupS.FF (k0 : Nat) (a : List (Int × Int × Int × Int × Unit)) (b : List (Int × Int × Int × Int × Unit)) : Option (Bool × Unit) := laws_eqGroupS.T (fun (a2 : List (Int × Int × Int × Int × Unit)) (b2 : List (Int × Int × Int × Int × Unit)) (i : Int) => laws_eqGroupS.G0 k0 (fun (t4x : Bool) => laws_eqGroupS.A0  a b t4x) (fun (_ : Unit) => laws_eqGroupS.A1  a b ()) k0 a2 b2 i) a b
theorem laws_eqGroupS.run (k0 : Nat) (a : List (Int × Int × Int × Int × Unit)) (b : List (Int × Int × Int × Int × Unit)) : runFn Try.prog laws_eqGroupS.tbl laws_eqGroupS.cfg k0 34 ins_laws_eqGroupS outs_laws_eqGroupS (a, b, ()) = laws_eqGroupS.FF k0 a b := by
  rw [laws_eqGroupS.top, laws_eqGroupS.FF]; (try simp only [laws_eqGroupS.g0, laws_eqGroupS.a0, laws_eqGroupS.a1]); try rfl
noncomputable def F_laws_eqGroupS : (List (Int × Int × Int × Int × Unit)) × (List (Int × Int × Int × Int × Unit)) × Unit → Option (Bool × Unit) := fun x => (fun (a : List (Int × Int × Int × Int × Unit)) (b : List (Int × Int × Int × Int × Unit)) => laws_eqGroupS.FF (300 + a.length + b.length) a b) x.1 x.2.1
theorem laws_eqGroupS.tblOK : ∀ g fs S, laws_eqGroupS.tbl g fs = some S → SumOK Try.prog g S := by
  intro g fs S h
  unfold laws_eqGroupS.tbl at h
  split at h
  · rename_i hc; obtain ⟨rfl, rfl⟩ := hc; have := Option.some.inj h; subst this; exact ok_laws_eqGroup
  cases h
theorem ok_laws_eqGroupS : SumOK Try.prog 34 ⟨ins_laws_eqGroupS, outs_laws_eqGroupS, F_laws_eqGroupS⟩ := runFn_ok (by kernel_rfl) laws_eqGroupS.tblOK (by kernel_rfl) fun x y h => ⟨laws_eqGroupS.cfg, _, (laws_eqGroupS.run _ x.1 x.2.1).trans h⟩
abbrev ins_laws_eqMember : List Par := [.v true ct0, .v true ct0]
abbrev outs_laws_eqMember : List (Bool × List CT) := [(false, [CT.bool])]
/-! ### loop.example/g00095/laws.eqMember (function 63) -/
noncomputable def laws_eqMember.tbl : Tbl := fun g fs => none
noncomputable def laws_eqMember.body : Code := ((Try.prog.funcs[63]?).bind (·.body)).getD .skip
def laws_eqMember.cfg : Nat → List Nat × List Nat := fun k => ([], [])
noncomputable def laws_eqMember.T  (a0 : Int) (a1 : Int) (a2 : Int) (a3 : Int) (b0 : Int) (b1 : Int) (b2 : Int) (b3 : Int) : Option (Bool × Unit) := cond (a0 != b0) (some (false, ())) (cond (a1 != b1) (some (false, ())) (cond (a2 != b2) (some (false, ())) (cond (a3 != b3) (some (false, ())) (some (true, ())))))
theorem laws_eqMember.top (k0 : Nat) (a0 : Int) (a1 : Int) (a2 : Int) (a3 : Int) (b0 : Int) (b1 : Int) (b2 : Int) (b3 : Int) : runFn Try.prog laws_eqMember.tbl laws_eqMember.cfg k0 63 ins_laws_eqMember outs_laws_eqMember (a0, a1, a2, a3, b0, b1, b2, b3, ()) = laws_eqMember.T  a0 a1 a2 a3 b0 b1 b2 b3 := by kernel_rfl
noncomputable def F_laws_eqMember : Int × Int × Int × Int × Int × Int × Int × Int × Unit → Option (Bool × Unit) := fun x => laws_eqMember.T x.1 x.2.1 x.2.2.1 x.2.2.2.1 x.2.2.2.2.1 x.2.2.2.2.2.1 x.2.2.2.2.2.2.1 x.2.2.2.2.2.2.2.1
theorem laws_eqMember.tblOK : ∀ g fs S, laws_eqMember.tbl g fs = some S → SumOK Try.prog g S := by
  intro g fs S h
  unfold laws_eqMember.tbl at h
  cases h
theorem ok_laws_eqMember : SumOK Try.prog 63 ⟨ins_laws_eqMember, outs_laws_eqMember, F_laws_eqMember⟩ := runFn_ok (by kernel_rfl) laws_eqMember.tblOK (by kernel_rfl) fun x y h => ⟨laws_eqMember.cfg, 0, (laws_eqMember.top 0 x.1 x.2.1 x.2.2.1 x.2.2.2.1 x.2.2.2.2.1 x.2.2.2.2.2.1 x.2.2.2.2.2.2.1 x.2.2.2.2.2.2.2.1).trans h⟩
abbrev ins_laws_eqMemberS : List Par := [.v false [CT.sl ct0], .v false [CT.sl ct0]]
abbrev outs_laws_eqMemberS : List (Bool × List CT) := [(false, [CT.bool])]
/-! ### loop.example/g00095/laws.eqMemberS (function 35) -/
noncomputable def laws_eqMemberS.tbl : Tbl := fun g fs => if g = 63 ∧ fs = [] then some ⟨ins_laws_eqMember, outs_laws_eqMember, F_laws_eqMember⟩ else none
noncomputable def laws_eqMemberS.body : Code := ((Try.prog.funcs[35]?).bind (·.body)).getD .skip
def laws_eqMemberS.cfg : Nat → List Nat × List Nat := fun k => if k = 4 then ([0, 1, 5], [4]) else ([], [])
noncomputable def laws_eqMemberS.R0 {R : Type} (nx0 : ((List (Int × Int × Int × Int × Unit)) → (List (Int × Int × Int × Int × Unit)) → Int → Option R)) (ex0 : (Bool → Option R)) (ex1 : (Unit → Option R)) (a2 : List (Int × Int × Int × Int × Unit)) (b2 : List (Int × Int × Int × Int × Unit)) (i : Int) : Option R := cond (decide (i < (a2.length : Int))) (if 0 ≤ i ∧ i < (a2.length : Int) then if 0 ≤ i ∧ i < (b2.length : Int) then (F_laws_eqMember ((rd (0, 0, 0, 0, ()) a2 i).1, (rd (0, 0, 0, 0, ()) a2 i).2.1, (rd (0, 0, 0, 0, ()) a2 i).2.2.1, (rd (0, 0, 0, 0, ()) a2 i).2.2.2.1, (rd (0, 0, 0, 0, ()) b2 i).1, (rd (0, 0, 0, 0, ()) b2 i).2.1, (rd (0, 0, 0, 0, ()) b2 i).2.2.1, (rd (0, 0, 0, 0, ()) b2 i).2.2.2.1, ())).bind fun y1 => cond (!y1.1) (ex0 false) (nx0 a2 b2 (w64 (i + 1))) else none else none) (ex1 ())
noncomputable def laws_eqMemberS.A0  (a : List (Int × Int × Int × Int × Unit)) (b : List (Int × Int × Int × Int × Unit)) (t4x : Bool) : Option (Bool × Unit) := some (t4x, ())
noncomputable def laws_eqMemberS.A1  (a : List (Int × Int × Int × Int × Unit)) (b : List (Int × Int × Int × Int × Unit)) (_u : Unit) : Option (Bool × Unit) := some (true, ())
noncomputable def laws_eqMemberS.T (lo0 : ((List (Int × Int × Int × Int × Unit)) → (List (Int × Int × Int × Int × Unit)) → Int → Option (Bool × Unit))) (a : List (Int × Int × Int × Int × Unit)) (b : List (Int × Int × Int × Int × Unit)) : Option (Bool × Unit) := cond ((a.length : Int) != (b.length : Int)) (some (false, ())) (lo0 a b 0)
noncomputable def laws_eqMemberS.st0 {R : Type} (k0 : Nat) : Env → List Ob → Kont R → Option R := fun env ob K => runCode Try.prog laws_eqMemberS.tbl 27 0 laws_eqMemberS.cfg k0 (codeAt [1, 1, 0, 1, 0, 0] laws_eqMemberS.body) env ob K
noncomputable def laws_eqMemberS.K0 {R : Type} (k0 : Nat) (K : Kont R) : Kont R := blockK 0 (seqK (fun env ob => runCode Try.prog laws_eqMemberS.tbl 27 0 laws_eqMemberS.cfg k0 (codeAt [1, 1, 1] laws_eqMemberS.body) env ob (K)) (K))
noncomputable def laws_eqMemberS.L0 {R : Type} (k0 k : Nat) (K : Kont R) (a2 : List (Int × Int × Int × Int × Unit)) (b2 : List (Int × Int × Int × Int × Unit)) (i : Int) : Option R := iter 0 [0, 1, 5] [4] (laws_eqMemberS.st0 k0) k [(0, .sl ct0 a2), (1, .sl ct0 b2), (5, .int .i64 i)] [] K
theorem laws_eqMemberS.s0 {R : Type} (k0 k : Nat) (K : Kont R) (a2 : List (Int × Int × Int × Int × Unit)) (b2 : List (Int × Int × Int × Int × Unit)) (i : Int) : laws_eqMemberS.L0 k0 (k + 1) K a2 b2 i = laws_eqMemberS.R0 (fun (a2 : List (Int × Int × Int × Int × Unit)) (b2 : List (Int × Int × Int × Int × Unit)) (i : Int) => laws_eqMemberS.L0 k0 k K a2 b2 i) (fun (t4x : Bool) => K .ret [(4, .bool t4x)] []) (fun (_ : Unit) => K (.exit 0) [(4, .undef)] []) a2 b2 i := by kernel_rfl
theorem laws_eqMemberS.a0 (k0 : Nat) (a : List (Int × Int × Int × Int × Unit)) (b : List (Int × Int × Int × Int × Unit)) (t4x : Bool) : laws_eqMemberS.K0 (R := (Bool × Unit)) k0 (finK Try.prog [.tmp 4] ins_laws_eqMemberS outs_laws_eqMemberS (a, b, ())) .ret [(4, .bool t4x)] [] = laws_eqMemberS.A0  a b t4x := by kernel_rfl
theorem laws_eqMemberS.a1 (k0 : Nat) (a : List (Int × Int × Int × Int × Unit)) (b : List (Int × Int × Int × Int × Unit))  : laws_eqMemberS.K0 (R := (Bool × Unit)) k0 (finK Try.prog [.tmp 4] ins_laws_eqMemberS outs_laws_eqMemberS (a, b, ())) (.exit 0) [(4, .undef)] [] = laws_eqMemberS.A1  a b () := by kernel_rfl
theorem laws_eqMemberS.top (k0 : Nat) (a : List (Int × Int × Int × Int × Unit)) (b : List (Int × Int × Int × Int × Unit)) : runFn Try.prog laws_eqMemberS.tbl laws_eqMemberS.cfg k0 35 ins_laws_eqMemberS outs_laws_eqMemberS (a, b, ()) = laws_eqMemberS.T (fun (a2 : List (Int × Int × Int × Int × Unit)) (b2 : List (Int × Int × Int × Int × Unit)) (i : Int) => laws_eqMemberS.L0 (R := (Bool × Unit)) k0 k0 (laws_eqMemberS.K0 (R := (Bool × Unit)) k0 ((finK Try.prog [.tmp 4] ins_laws_eqMemberS outs_laws_eqMemberS (a, b, ())))) a2 b2 i) a b := by kernel_rfl
noncomputable def laws_eqMemberS.G0 {R : Type} (k0 : Nat) (hx0 : (Bool → Option R)) (hx1 : (Unit → Option R)) : Nat → (List (Int × Int × Int × Int × Unit)) → (List (Int × Int × Int × Int × Unit)) → Int → Option R
  | 0, _, _, _ => none
  | k + 1, a2, b2, i => laws_eqMemberS.R0 (fun (a2 : List (Int × Int × Int × Int × Unit)) (b2 : List (Int × Int × Int × Int × Unit)) (i : Int) => laws_eqMemberS.G0 k0 hx0 hx1 k a2 b2 i) (fun (t4x : Bool) => hx0 t4x) (fun (_ : Unit) => hx1 ()) a2 b2 i
theorem laws_eqMemberS.g0 {R : Type} (k0 : Nat) (K : Kont R) : ∀ (k : Nat) (a2 : List (Int × Int × Int × Int × Unit)) (b2 : List (Int × Int × Int × Int × Unit)) (i : Int), laws_eqMemberS.L0 k0 k K a2 b2 i = laws_eqMemberS.G0 k0 (fun (t4x : Bool) => K .ret [(4, .bool t4x)] []) (fun (_ : Unit) => K (.exit 0) [(4, .undef)] []) k a2 b2 i := by
  intro k
  induction k with
  | zero => intros; rfl
  | succ k ih => intros; rw [laws_eqMemberS.s0, laws_eqMemberS.G0]; (try simp only [ih]); try rfl
noncomputable def laws_eqMemberS.FF (k0 : Nat) (a : List (Int × Int × Int × Int × Unit)) (b : List (Int × Int × Int × Int × Unit)) : Option (Bool × Unit) := laws_eqMemberS.T (fun (a2 : List (Int × Int × Int × Int × Unit)) (b2 : List (Int × Int × Int × Int × Unit)) (i : Int) => laws_eqMemberS.G0 k0 (fun (t4x : Bool) => laws_eqMemberS.A0  a b t4x) (fun (_ : Unit) => laws_eqMemberS.A1  a b ()) k0 a2 b2 i) a b
theorem laws_eqMemberS.run (k0 : Nat) (a : List (Int × Int × Int × Int × Unit)) (b : List (Int × Int × Int × Int × Unit)) : runFn Try.prog laws_eqMemberS.tbl laws_eqMemberS.cfg k0 35 ins_laws_eqMemberS outs_laws_eqMemberS (a, b, ()) = laws_eqMemberS.FF k0 a b := by
  rw [laws_eqMemberS.top, laws_eqMemberS.FF]; (try simp only [laws_eqMemberS.g0, laws_eqMemberS.a0, laws_eqMemberS.a1]); try rfl
noncomputable def F_laws_eqMemberS : (List (Int × Int × Int × Int × Unit)) × (List (Int × Int × Int × Int × Unit)) × Unit → Option (Bool × Unit) := fun x => (fun (a : List (Int × Int × Int × Int × Unit)) (b : List (Int × Int × Int × Int × Unit)) => laws_eqMemberS.FF (300 + a.length + b.length) a b) x.1 x.2.1
theorem laws_eqMemberS.tblOK : ∀ g fs S, laws_eqMemberS.tbl g fs = some S → SumOK Try.prog g S := by
  intro g fs S h
  unfold laws_eqMemberS.tbl at h
  split at h
  · rename_i hc; obtain ⟨rfl, rfl⟩ := hc; have := Option.some.inj h; subst this; exact ok_laws_eqMember
  cases h
theorem ok_laws_eqMemberS : SumOK Try.prog 35 ⟨ins_laws_eqMemberS, outs_laws_eqMemberS, F_laws_eqMemberS⟩ := runFn_ok (by kernel_rfl) laws_eqMemberS.tblOK (by kernel_rfl) fun x y h => ⟨laws_eqMemberS.cfg, _, (laws_eqMemberS.run _ x.1 x.2.1).trans h⟩
abbrev ins_laws_eqFarm : List Par := [.v true ct4, .v true ct4]
abbrev outs_laws_eqFarm : List (Bool × List CT) := [(false, [CT.bool])]
/-! ### loop.example/g00095/laws.eqFarm (function 11) -/
noncomputable def laws_eqFarm.tbl : Tbl := fun g fs => if g = 34 ∧ fs = [] then some ⟨ins_laws_eqGroupS, outs_laws_eqGroupS, F_laws_eqGroupS⟩ else if g = 35 ∧ fs = [] then some ⟨ins_laws_eqMemberS, outs_laws_eqMemberS, F_laws_eqMemberS⟩ else none
noncomputable def laws_eqFarm.body : Code := ((Try.prog.funcs[11]?).bind (·.body)).getD .skip
def laws_eqFarm.cfg : Nat → List Nat × List Nat := fun k => ([], [])
noncomputable def laws_eqFarm.T  (a0 : Int) (a1 : List (Int × Int × Int × Int × Unit)) (a2 : List (Int × Int × Int × Int × Unit)) (b0 : Int) (b1 : List (Int × Int × Int × Int × Unit)) (b2 : List (Int × Int × Int × Int × Unit)) : Option (Bool × Unit) := cond (a0 != b0) (some (false, ())) ((F_laws_eqGroupS (a1, b1, ())).bind fun y1 => cond (!y1.1) (some (false, ())) ((F_laws_eqMemberS (a2, b2, ())).bind fun y2 => cond (!y2.1) (some (false, ())) (some (true, ()))))
theorem laws_eqFarm.top (k0 : Nat) (a0 : Int) (a1 : List (Int × Int × Int × Int × Unit)) (a2 : List (Int × Int × Int × Int × Unit)) (b0 : Int) (b1 : List (Int × Int × Int × Int × Unit)) (b2 : List (Int × Int × Int × Int × Unit)) : runFn Try.prog laws_eqFarm.tbl laws_eqFarm.cfg k0 11 ins_laws_eqFarm outs_laws_eqFarm (a0, a1, a2, b0, b1, b2, ()) = laws_eqFarm.T  a0 a1 a2 b0 b1 b2 := by kernel_rfl
noncomputable def F_laws_eqFarm : Int × (List (Int × Int × Int × Int × Unit)) × (List (Int × Int × Int × Int × Unit)) × Int × (List (Int × Int × Int × Int × Unit)) × (List (Int × Int × Int × Int × Unit)) × Unit → Option (Bool × Unit) := fun x => laws_eqFarm.T x.1 x.2.1 x.2.2.1 x.2.2.2.1 x.2.2.2.2.1 x.2.2.2.2.2.1
theorem laws_eqFarm.tblOK : ∀ g fs S, laws_eqFarm.tbl g fs = some S → SumOK Try.prog g S := by
  intro g fs S h
  unfold laws_eqFarm.tbl at h
  split at h
  · rename_i hc; obtain ⟨rfl, rfl⟩ := hc; have := Option.some.inj h; subst this; exact ok_laws_eqGroupS
  split at h
  · rename_i hc; obtain ⟨rfl, rfl⟩ := hc; have := Option.some.inj h; subst this; exact ok_laws_eqMemberS
  cases h
theorem ok_laws_eqFarm : SumOK Try.prog 11 ⟨ins_laws_eqFarm, outs_laws_eqFarm, F_laws_eqFarm⟩ := runFn_ok (by kernel_rfl) laws_eqFarm.tblOK (by kernel_rfl) fun x y h => ⟨laws_eqFarm.cfg, 0, (laws_eqFarm.top 0 x.1 x.2.1 x.2.2.1 x.2.2.2.1 x.2.2.2.2.1 x.2.2.2.2.2.1).trans h⟩
abbrev ins_laws_eqLease : List Par := [.v true ct1, .v true ct1]
abbrev outs_laws_eqLease : List (Bool × List CT) := [(false, [CT.bool])]
/-! ### loop.example/g00095/laws.eqLease (function 84) -/
noncomputable def laws_eqLease.tbl : Tbl := fun g fs => none
noncomputable def laws_eqLease.body : Code := ((Try.prog.funcs[84]?).bind (·.body)).getD .skip
def laws_eqLease.cfg : Nat → List Nat × List Nat := fun k => ([], [])
noncomputable def laws_eqLease.T  (a0 : Int) (a1 : Int) (a2 : Int) (b0 : Int) (b1 : Int) (b2 : Int) : Option (Bool × Unit) := cond (a0 != b0) (some (false, ())) (cond (a1 != b1) (some (false, ())) (cond (a2 != b2) (some (false, ())) (some (true, ()))))
theorem laws_eqLease.top (k0 : Nat) (a0 : Int) (a1 : Int) (a2 : Int) (b0 : Int) (b1 : Int) (b2 : Int) : runFn Try.prog laws_eqLease.tbl laws_eqLease.cfg k0 84 ins_laws_eqLease outs_laws_eqLease (a0, a1, a2, b0, b1, b2, ()) = laws_eqLease.T  a0 a1 a2 b0 b1 b2 := by kernel_rfl
noncomputable def F_laws_eqLease : Int × Int × Int × Int × Int × Int × Unit → Option (Bool × Unit) := fun x => laws_eqLease.T x.1 x.2.1 x.2.2.1 x.2.2.2.1 x.2.2.2.2.1 x.2.2.2.2.2.1
theorem laws_eqLease.tblOK : ∀ g fs S, laws_eqLease.tbl g fs = some S → SumOK Try.prog g S := by
  intro g fs S h
  unfold laws_eqLease.tbl at h
  cases h
theorem ok_laws_eqLease : SumOK Try.prog 84 ⟨ins_laws_eqLease, outs_laws_eqLease, F_laws_eqLease⟩ := runFn_ok (by kernel_rfl) laws_eqLease.tblOK (by kernel_rfl) fun x y h => ⟨laws_eqLease.cfg, 0, (laws_eqLease.top 0 x.1 x.2.1 x.2.2.1 x.2.2.2.1 x.2.2.2.2.1 x.2.2.2.2.2.1).trans h⟩
abbrev ins_laws_eqLeaseS : List Par := [.v false [CT.sl ct1], .v false [CT.sl ct1]]
abbrev outs_laws_eqLeaseS : List (Bool × List CT) := [(false, [CT.bool])]
/-! ### loop.example/g00095/laws.eqLeaseS (function 72) -/
noncomputable def laws_eqLeaseS.tbl : Tbl := fun g fs => if g = 84 ∧ fs = [] then some ⟨ins_laws_eqLease, outs_laws_eqLease, F_laws_eqLease⟩ else none
noncomputable def laws_eqLeaseS.body : Code := ((Try.prog.funcs[72]?).bind (·.body)).getD .skip
def laws_eqLeaseS.cfg : Nat → List Nat × List Nat := fun k => if k = 4 then ([0, 1, 5], [4]) else ([], [])
noncomputable def laws_eqLeaseS.R0 {R : Type} (nx0 : ((List (Int × Int × Int × Unit)) → (List (Int × Int × Int × Unit)) → Int → Option R)) (ex0 : (Bool → Option R)) (ex1 : (Unit → Option R)) (a2 : List (Int × Int × Int × Unit)) (b2 : List (Int × Int × Int × Unit)) (i : Int) : Option R := cond (decide (i < (a2.length : Int))) (if 0 ≤ i ∧ i < (a2.length : Int) then if 0 ≤ i ∧ i < (b2.length : Int) then (F_laws_eqLease ((rd (0, 0, 0, ()) a2 i).1, (rd (0, 0, 0, ()) a2 i).2.1, (rd (0, 0, 0, ()) a2 i).2.2.1, (rd (0, 0, 0, ()) b2 i).1, (rd (0, 0, 0, ()) b2 i).2.1, (rd (0, 0, 0, ()) b2 i).2.2.1, ())).bind fun y1 => cond (!y1.1) (ex0 false) (nx0 a2 b2 (w64 (i + 1))) else none else none) (ex1 ())
noncomputable def laws_eqLeaseS.A0  (a : List (Int × Int × Int × Unit)) (b : List (Int × Int × Int × Unit)) (t4x : Bool) : Option (Bool × Unit) := some (t4x, ())
noncomputable def laws_eqLeaseS.A1  (a : List (Int × Int × Int × Unit)) (b : List (Int × Int × Int × Unit)) (_u : Unit) : Option (Bool × Unit) := some (true, ())
noncomputable def laws_eqLeaseS.T (lo0 : ((List (Int × Int × Int × Unit)) → (List (Int × Int × Int × Unit)) → Int → Option (Bool × Unit))) (a : List (Int × Int × Int × Unit)) (b : List (Int × Int × Int × Unit)) : Option (Bool × Unit) := cond ((a.length : Int) != (b.length : Int)) (some (false, ())) (lo0 a b 0)
noncomputable def laws_eqLeaseS.st0 {R : Type} (k0 : Nat) : Env → List Ob → Kont R → Option R := fun env ob K => runCode Try.prog laws_eqLeaseS.tbl 27 0 laws_eqLeaseS.cfg k0 (codeAt [1, 1, 0, 1, 0, 0] laws_eqLeaseS.body) env ob K
noncomputable def laws_eqLeaseS.K0 {R : Type} (k0 : Nat) (K : Kont R) : Kont R := blockK 0 (seqK (fun env ob => runCode Try.prog laws_eqLeaseS.tbl 27 0 laws_eqLeaseS.cfg k0 (codeAt [1, 1, 1] laws_eqLeaseS.body) env ob (K)) (K))
noncomputable def laws_eqLeaseS.L0 {R : Type} (k0 k : Nat) (K : Kont R) (a2 : List (Int × Int × Int × Unit)) (b2 : List (Int × Int × Int × Unit)) (i : Int) : Option R := iter 0 [0, 1, 5] [4] (laws_eqLeaseS.st0 k0) k [(0, .sl ct1 a2), (1, .sl ct1 b2), (5, .int .i64 i)] [] K
theorem laws_eqLeaseS.s0 {R : Type} (k0 k : Nat) (K : Kont R) (a2 : List (Int × Int × Int × Unit)) (b2 : List (Int × Int × Int × Unit)) (i : Int) : laws_eqLeaseS.L0 k0 (k + 1) K a2 b2 i = laws_eqLeaseS.R0 (fun (a2 : List (Int × Int × Int × Unit)) (b2 : List (Int × Int × Int × Unit)) (i : Int) => laws_eqLeaseS.L0 k0 k K a2 b2 i) (fun (t4x : Bool) => K .ret [(4, .bool t4x)] []) (fun (_ : Unit) => K (.exit 0) [(4, .undef)] []) a2 b2 i := by kernel_rfl
theorem laws_eqLeaseS.a0 (k0 : Nat) (a : List (Int × Int × Int × Unit)) (b : List (Int × Int × Int × Unit)) (t4x : Bool) : laws_eqLeaseS.K0 (R := (Bool × Unit)) k0 (finK Try.prog [.tmp 4] ins_laws_eqLeaseS outs_laws_eqLeaseS (a, b, ())) .ret [(4, .bool t4x)] [] = laws_eqLeaseS.A0  a b t4x := by kernel_rfl
theorem laws_eqLeaseS.a1 (k0 : Nat) (a : List (Int × Int × Int × Unit)) (b : List (Int × Int × Int × Unit))  : laws_eqLeaseS.K0 (R := (Bool × Unit)) k0 (finK Try.prog [.tmp 4] ins_laws_eqLeaseS outs_laws_eqLeaseS (a, b, ())) (.exit 0) [(4, .undef)] [] = laws_eqLeaseS.A1  a b () := by kernel_rfl
theorem laws_eqLeaseS.top (k0 : Nat) (a : List (Int × Int × Int × Unit)) (b : List (Int × Int × Int × Unit)) : runFn Try.prog laws_eqLeaseS.tbl laws_eqLeaseS.cfg k0 72 ins_laws_eqLeaseS outs_laws_eqLeaseS (a, b, ()) = laws_eqLeaseS.T (fun (a2 : List (Int × Int × Int × Unit)) (b2 : List (Int × Int × Int × Unit)) (i : Int) => laws_eqLeaseS.L0 (R := (Bool × Unit)) k0 k0 (laws_eqLeaseS.K0 (R := (Bool × Unit)) k0 ((finK Try.prog [.tmp 4] ins_laws_eqLeaseS outs_laws_eqLeaseS (a, b, ())))) a2 b2 i) a b := by kernel_rfl
noncomputable def laws_eqLeaseS.G0 {R : Type} (k0 : Nat) (hx0 : (Bool → Option R)) (hx1 : (Unit → Option R)) : Nat → (List (Int × Int × Int × Unit)) → (List (Int × Int × Int × Unit)) → Int → Option R
  | 0, _, _, _ => none
  | k + 1, a2, b2, i => laws_eqLeaseS.R0 (fun (a2 : List (Int × Int × Int × Unit)) (b2 : List (Int × Int × Int × Unit)) (i : Int) => laws_eqLeaseS.G0 k0 hx0 hx1 k a2 b2 i) (fun (t4x : Bool) => hx0 t4x) (fun (_ : Unit) => hx1 ()) a2 b2 i
theorem laws_eqLeaseS.g0 {R : Type} (k0 : Nat) (K : Kont R) : ∀ (k : Nat) (a2 : List (Int × Int × Int × Unit)) (b2 : List (Int × Int × Int × Unit)) (i : Int), laws_eqLeaseS.L0 k0 k K a2 b2 i = laws_eqLeaseS.G0 k0 (fun (t4x : Bool) => K .ret [(4, .bool t4x)] []) (fun (_ : Unit) => K (.exit 0) [(4, .undef)] []) k a2 b2 i := by
  intro k
  induction k with
  | zero => intros; rfl
  | succ k ih => intros; rw [laws_eqLeaseS.s0, laws_eqLeaseS.G0]; (try simp only [ih]); try rfl
noncomputable def laws_eqLeaseS.FF (k0 : Nat) (a : List (Int × Int × Int × Unit)) (b : List (Int × Int × Int × Unit)) : Option (Bool × Unit) := laws_eqLeaseS.T (fun (a2 : List (Int × Int × Int × Unit)) (b2 : List (Int × Int × Int × Unit)) (i : Int) => laws_eqLeaseS.G0 k0 (fun (t4x : Bool) => laws_eqLeaseS.A0  a b t4x) (fun (_ : Unit) => laws_eqLeaseS.A1  a b ()) k0 a2 b2 i) a b
theorem laws_eqLeaseS.run (k0 : Nat) (a : List (Int × Int × Int × Unit)) (b : List (Int × Int × Int × Unit)) : runFn Try.prog laws_eqLeaseS.tbl laws_eqLeaseS.cfg k0 72 ins_laws_eqLeaseS outs_laws_eqLeaseS (a, b, ()) = laws_eqLeaseS.FF k0 a b := by
  rw [laws_eqLeaseS.top, laws_eqLeaseS.FF]; (try simp only [laws_eqLeaseS.g0, laws_eqLeaseS.a0, laws_eqLeaseS.a1]); try rfl
noncomputable def F_laws_eqLeaseS : (List (Int × Int × Int × Unit)) × (List (Int × Int × Int × Unit)) × Unit → Option (Bool × Unit) := fun x => (fun (a : List (Int × Int × Int × Unit)) (b : List (Int × Int × Int × Unit)) => laws_eqLeaseS.FF (300 + a.length + b.length) a b) x.1 x.2.1
theorem laws_eqLeaseS.tblOK : ∀ g fs S, laws_eqLeaseS.tbl g fs = some S → SumOK Try.prog g S := by
  intro g fs S h
  unfold laws_eqLeaseS.tbl at h
  split at h
  · rename_i hc; obtain ⟨rfl, rfl⟩ := hc; have := Option.some.inj h; subst this; exact ok_laws_eqLease
  cases h
theorem ok_laws_eqLeaseS : SumOK Try.prog 72 ⟨ins_laws_eqLeaseS, outs_laws_eqLeaseS, F_laws_eqLeaseS⟩ := runFn_ok (by kernel_rfl) laws_eqLeaseS.tblOK (by kernel_rfl) fun x y h => ⟨laws_eqLeaseS.cfg, _, (laws_eqLeaseS.run _ x.1 x.2.1).trans h⟩
abbrev ins_laws_eqServer : List Par := [.v true ct3, .v true ct3]
abbrev outs_laws_eqServer : List (Bool × List CT) := [(false, [CT.bool])]
/-! ### loop.example/g00095/laws.eqServer (function 43) -/
noncomputable def laws_eqServer.tbl : Tbl := fun g fs => if g = 11 ∧ fs = [] then some ⟨ins_laws_eqFarm, outs_laws_eqFarm, F_laws_eqFarm⟩ else if g = 72 ∧ fs = [] then some ⟨ins_laws_eqLeaseS, outs_laws_eqLeaseS, F_laws_eqLeaseS⟩ else none
noncomputable def laws_eqServer.body : Code := ((Try.prog.funcs[43]?).bind (·.body)).getD .skip
def laws_eqServer.cfg : Nat → List Nat × List Nat := fun k => ([], [])
noncomputable def laws_eqServer.T  (a0 : Int) (a1 : Int) (a2 : Int) (a3 : Int) (a4 : List (Int × Int × Int × Int × Unit)) (a5 : List (Int × Int × Int × Int × Unit)) (a6 : List (Int × Int × Int × Unit)) (b0 : Int) (b1 : Int) (b2 : Int) (b3 : Int) (b4 : List (Int × Int × Int × Int × Unit)) (b5 : List (Int × Int × Int × Int × Unit)) (b6 : List (Int × Int × Int × Unit)) : Option (Bool × Unit) := cond (a0 != b0) (some (false, ())) (cond (a1 != b1) (some (false, ())) (cond (a2 != b2) (some (false, ())) ((F_laws_eqFarm (a3, a4, a5, b3, b4, b5, ())).bind fun y1 => cond (!y1.1) (some (false, ())) ((F_laws_eqLeaseS (a6, b6, ())).bind fun y2 => cond (!y2.1) (some (false, ())) (some (true, ()))))))
theorem laws_eqServer.top (k0 : Nat) (a0 : Int) (a1 : Int) (a2 : Int) (a3 : Int) (a4 : List (Int × Int × Int × Int × Unit)) (a5 : List (Int × Int × Int × Int × Unit)) (a6 : List (Int × Int × Int × Unit)) (b0 : Int) (b1 : Int) (b2 : Int) (b3 : Int) (b4 : List (Int × Int × Int × Int × Unit)) (b5 : List (Int × Int × Int × Int × Unit)) (b6 : List (Int × Int × Int × Unit)) : runFn Try.prog laws_eqServer.tbl laws_eqServer.cfg k0 43 ins_laws_eqServer outs_laws_eqServer (a0, a1, a2, a3, a4, a5, a6, b0, b1, b2, b3, b4, b5, b6, ()) = laws_eqServer.T  a0 a1 a2 a3 a4 a5 a6 b0 b1 b2 b3 b4 b5 b6 := by kernel_rfl
noncomputable def F_laws_eqServer : Int × Int × Int × Int × (List (Int × Int × Int × Int × Unit)) × (List (Int × Int × Int × Int × Unit)) × (List (Int × Int × Int × Unit)) × Int × Int × Int × Int × (List (Int × Int × Int × Int × Unit)) × (List (Int × Int × Int × Int × Unit)) × (List (Int × Int × Int × Unit)) × Unit → Option (Bool × Unit) := fun x => laws_eqServer.T x.1 x.2.1 x.2.2.1 x.2.2.2.1 x.2.2.2.2.1 x.2.2.2.2.2.1 x.2.2.2.2.2.2.1 x.2.2.2.2.2.2.2.1 x.2.2.2.2.2.2.2.2.1 x.2.2.2.2.2.2.2.2.2.1 x.2.2.2.2.2.2.2.2.2.2.1 x.2.2.2.2.2.2.2.2.2.2.2.1 x.2.2.2.2.2.2.2.2.2.2.2.2.1 x.2.2.2.2.2.2.2.2.2.2.2.2.2.1
theorem laws_eqServer.tblOK : ∀ g fs S, laws_eqServer.tbl g fs = some S → SumOK Try.prog g S := by
  intro g fs S h
  unfold laws_eqServer.tbl at h
  split at h
  · rename_i hc; obtain ⟨rfl, rfl⟩ := hc; have := Option.some.inj h; subst this; exact ok_laws_eqFarm
  split at h
  · rename_i hc; obtain ⟨rfl, rfl⟩ := hc; have := Option.some.inj h; subst this; exact ok_laws_eqLeaseS
  cases h
theorem ok_laws_eqServer : SumOK Try.prog 43 ⟨ins_laws_eqServer, outs_laws_eqServer, F_laws_eqServer⟩ := runFn_ok (by kernel_rfl) laws_eqServer.tblOK (by kernel_rfl) fun x y h => ⟨laws_eqServer.cfg, 0, (laws_eqServer.top 0 x.1 x.2.1 x.2.2.1 x.2.2.2.1 x.2.2.2.2.1 x.2.2.2.2.2.1 x.2.2.2.2.2.2.1 x.2.2.2.2.2.2.2.1 x.2.2.2.2.2.2.2.2.1 x.2.2.2.2.2.2.2.2.2.1 x.2.2.2.2.2.2.2.2.2.2.1 x.2.2.2.2.2.2.2.2.2.2.2.1 x.2.2.2.2.2.2.2.2.2.2.2.2.1 x.2.2.2.2.2.2.2.2.2.2.2.2.2.1).trans h⟩
abbrev ins_laws_eqClient : List Par := [.v true ct5, .v true ct5]
abbrev outs_laws_eqClient : List (Bool × List CT) := [(false, [CT.bool])]
/-! ### loop.example/g00095/laws.eqClient (function 44) -/
noncomputable def laws_eqClient.tbl : Tbl := fun g fs => none
noncomputable def laws_eqClient.body : Code := ((Try.prog.funcs[44]?).bind (·.body)).getD .skip
def laws_eqClient.cfg : Nat → List Nat × List Nat := fun k => ([], [])
noncomputable def laws_eqClient.T  (a0 : Int) (a1 : Int) (a2 : Int) (a3 : Int) (a4 : Int) (a5 : Int) (a6 : Int) (a7 : Int) (a8 : Int) (a9 : Int) (b0 : Int) (b1 : Int) (b2 : Int) (b3 : Int) (b4 : Int) (b5 : Int) (b6 : Int) (b7 : Int) (b8 : Int) (b9 : Int) : Option (Bool × Unit) := cond (a0 != b0) (some (false, ())) (cond (a1 != b1) (some (false, ())) (cond (a2 != b2) (some (false, ())) (cond (a3 != b3) (some (false, ())) (cond (a4 != b4) (some (false, ())) (cond (a5 != b5) (some (false, ())) (cond (a6 != b6) (some (false, ())) (cond (a7 != b7) (some (false, ())) (cond (a8 != b8) (some (false, ())) (cond (a9 != b9) (some (false, ())) (some (true, ())))))))))))
theorem laws_eqClient.top (k0 : Nat) (a0 : Int) (a1 : Int) (a2 : Int) (a3 : Int) (a4 : Int) (a5 : Int) (a6 : Int) (a7 : Int) (a8 : Int) (a9 : Int) (b0 : Int) (b1 : Int) (b2 : Int) (b3 : Int) (b4 : Int) (b5 : Int) (b6 : Int) (b7 : Int) (b8 : Int) (b9 : Int) : runFn Try.prog laws_eqClient.tbl laws_eqClient.cfg k0 44 ins_laws_eqClient outs_laws_eqClient (a0, a1, a2, a3, a4, a5, a6, a7, a8, a9, b0, b1, b2, b3, b4, b5, b6, b7, b8, b9, ()) = laws_eqClient.T  a0 a1 a2 a3 a4 a5 a6 a7 a8 a9 b0 b1 b2 b3 b4 b5 b6 b7 b8 b9 := by kernel_rfl
noncomputable def F_laws_eqClient : Int × Int × Int × Int × Int × Int × Int × Int × Int × Int × Int × Int × Int × Int × Int × Int × Int × Int × Int × Int × Unit → Option (Bool × Unit) := fun x => laws_eqClient.T x.1 x.2.1 x.2.2.1 x.2.2.2.1 x.2.2.2.2.1 x.2.2.2.2.2.1 x.2.2.2.2.2.2.1 x.2.2.2.2.2.2.2.1 x.2.2.2.2.2.2.2.2.1 x.2.2.2.2.2.2.2.2.2.1 x.2.2.2.2.2.2.2.2.2.2.1 x.2.2.2.2.2.2.2.2.2.2.2.1 x.2.2.2.2.2.2.2.2.2.2.2.2.1 x.2.2.2.2.2.2.2.2.2.2.2.2.2.1 x.2.2.2.2.2.2.2.2.2.2.2.2.2.2.1 x.2.2.2.2.2.2.2.2.2.2.2.2.2.2.2.1 x.2.2.2.2.2.2.2.2.2.2.2.2.2.2.2.2.1 x.2.2.2.2.2.2.2.2.2.2.2.2.2.2.2.2.2.1 x.2.2.2.2.2.2.2.2.2.2.2.2.2.2.2.2.2.2.1 x.2.2.2.2.2.2.2.2.2.2.2.2.2.2.2.2.2.2.2.1
theorem laws_eqClient.tblOK : ∀ g fs S, laws_eqClient.tbl g fs = some S → SumOK Try.prog g S := by
  intro g fs S h
  unfold laws_eqClient.tbl at h
  cases h
theorem ok_laws_eqClient : SumOK Try.prog 44 ⟨ins_laws_eqClient, outs_laws_eqClient, F_laws_eqClient⟩ := runFn_ok (by kernel_rfl) laws_eqClient.tblOK (by kernel_rfl) fun x y h => ⟨laws_eqClient.cfg, 0, (laws_eqClient.top 0 x.1 x.2.1 x.2.2.1 x.2.2.2.1 x.2.2.2.2.1 x.2.2.2.2.2.1 x.2.2.2.2.2.2.1 x.2.2.2.2.2.2.2.1 x.2.2.2.2.2.2.2.2.1 x.2.2.2.2.2.2.2.2.2.1 x.2.2.2.2.2.2.2.2.2.2.1 x.2.2.2.2.2.2.2.2.2.2.2.1 x.2.2.2.2.2.2.2.2.2.2.2.2.1 x.2.2.2.2.2.2.2.2.2.2.2.2.2.1 x.2.2.2.2.2.2.2.2.2.2.2.2.2.2.1 x.2.2.2.2.2.2.2.2.2.2.2.2.2.2.2.1 x.2.2.2.2.2.2.2.2.2.2.2.2.2.2.2.2.1 x.2.2.2.2.2.2.2.2.2.2.2.2.2.2.2.2.2.1 x.2.2.2.2.2.2.2.2.2.2.2.2.2.2.2.2.2.2.1 x.2.2.2.2.2.2.2.2.2.2.2.2.2.2.2.2.2.2.2.1).trans h⟩
abbrev ins_laws_eqRelay : List Par := [.v true ct2, .v true ct2]
abbrev outs_laws_eqRelay : List (Bool × List CT) := [(false, [CT.bool])]
/-! ### loop.example/g00095/laws.eqRelay (function 16) -/
noncomputable def laws_eqRelay.tbl : Tbl := fun g fs => if g = 43 ∧ fs = [] then some ⟨ins_laws_eqServer, outs_laws_eqServer, F_laws_eqServer⟩ else if g = 44 ∧ fs = [] then some ⟨ins_laws_eqClient, outs_laws_eqClient, F_laws_eqClient⟩ else none
noncomputable def laws_eqRelay.body : Code := ((Try.prog.funcs[16]?).bind (·.body)).getD .skip
def laws_eqRelay.cfg : Nat → List Nat × List Nat := fun k => ([], [])
noncomputable def laws_eqRelay.T  (a0 : Int) (a1 : Int) (a2 : Int) (a3 : Int) (a4 : List (Int × Int × Int × Int × Unit)) (a5 : List (Int × Int × Int × Int × Unit)) (a6 : List (Int × Int × Int × Unit)) (a7 : Int) (a8 : Int) (a9 : Int) (a10 : Int) (a11 : Int) (a12 : Int) (a13 : Int) (a14 : Int) (a15 : Int) (a16 : Int) (b0 : Int) (b1 : Int) (b2 : Int) (b3 : Int) (b4 : List (Int × Int × Int × Int × Unit)) (b5 : List (Int × Int × Int × Int × Unit)) (b6 : List (Int × Int × Int × Unit)) (b7 : Int) (b8 : Int) (b9 : Int) (b10 : Int) (b11 : Int) (b12 : Int) (b13 : Int) (b14 : Int) (b15 : Int) (b16 : Int) : Option (Bool × Unit) := (F_laws_eqServer (a0, a1, a2, a3, a4, a5, a6, b0, b1, b2, b3, b4, b5, b6, ())).bind fun y1 => cond (!y1.1) (some (false, ())) ((F_laws_eqClient (a7, a8, a9, a10, a11, a12, a13, a14, a15, a16, b7, b8, b9, b10, b11, b12, b13, b14, b15, b16, ())).bind fun y2 => cond (!y2.1) (some (false, ())) (some (true, ())))
theorem laws_eqRelay.top (k0 : Nat) (a0 : Int) (a1 : Int) (a2 : Int) (a3 : Int) (a4 : List (Int × Int × Int × Int × Unit)) (a5 : List (Int × Int × Int × Int × Unit)) (a6 : List (Int × Int × Int × Unit)) (a7 : Int) (a8 : Int) (a9 : Int) (a10 : Int) (a11 : Int) (a12 : Int) (a13 : Int) (a14 : Int) (a15 : Int) (a16 : Int) (b0 : Int) (b1 : Int) (b2 : Int) (b3 : Int) (b4 : List (Int × Int × Int × Int × Unit)) (b5 : List (Int × Int × Int × Int × Unit)) (b6 : List (Int × Int × Int × Unit)) (b7 : Int) (b8 : Int) (b9 : Int) (b10 : Int) (b11 : Int) (b12 : Int) (b13 : Int) (b14 : Int) (b15 : Int) (b16 : Int) : runFn Try.prog laws_eqRelay.tbl laws_eqRelay.cfg k0 16 ins_laws_eqRelay outs_laws_eqRelay (a0, a1, a2, a3, a4, a5, a6, a7, a8, a9, a10, a11, a12, a13, a14, a15, a16, b0, b1, b2, b3, b4, b5, b6, b7, b8, b9, b10, b11, b12, b13, b14, b15, b16, ()) = laws_eqRelay.T  a0 a1 a2 a3 a4 a5 a6 a7 a8 a9 a10 a11 a12 a13 a14 a15 a16 b0 b1 b2 b3 b4 b5 b6 b7 b8 b9 b10 b11 b12 b13 b14 b15 b16 := by kernel_rfl
noncomputable def F_laws_eqRelay : Int × Int × Int × Int × (List (Int × Int × Int × Int × Unit)) × (List (Int × Int × Int × Int × Unit)) × (List (Int × Int × Int × Unit)) × Int × Int × Int × Int × Int × Int × Int × Int × Int × Int × Int × Int × Int × Int × (List (Int × Int × Int × Int × Unit)) × (List (Int × Int × Int × Int × Unit)) × (List (Int × Int × Int × Unit)) × Int × Int × Int × Int × Int × Int × Int × Int × Int × Int × Unit → Option (Bool × Unit) := fun x => laws_eqRelay.T x.1 x.2.1 x.2.2.1 x.2.2.2.1 x.2.2.2.2.1 x.2.2.2.2.2.1 x.2.2.2.2.2.2.1 x.2.2.2.2.2.2.2.1 x.2.2.2.2.2.2.2.2.1 x.2.2.2.2.2.2.2.2.2.1 x.2.2.2.2.2.2.2.2.2.2.1 x.2.2.2.2.2.2.2.2.2.2.2.1 x.2.2.2.2.2.2.2.2.2.2.2.2.1 x.2.2.2.2.2.2.2.2.2.2.2.2.2.1 x.2.2.2.2.2.2.2.2.2.2.2.2.2.2.1 x.2.2.2.2.2.2.2.2.2.2.2.2.2.2.2.1 x.2.2.2.2.2.2.2.2.2.2.2.2.2.2.2.2.1 x.2.2.2.2.2.2.2.2.2.2.2.2.2.2.2.2.2.1 x.2.2.2.2.2.2.2.2.2.2.2.2.2.2.2.2.2.2.1 x.2.2.2.2.2.2.2.2.2.2.2.2.2.2.2.2.2.2.2.1 x.2.2.2.2.2.2.2.2.2.2.2.2.2.2.2.2.2.2.2.2.1 x.2.2.2.2.2.2.2.2.2.2.2.2.2.2.2.2.2.2.2.2.2.1 x.2.2.2.2.2.2.2.2.2.2.2.2.2.2.2.2.2.2.2.2.2.2.1 x.2.2.2.2.2.2.2.2.2.2.2.2.2.2.2.2.2.2.2.2.2.2.2.1 x.2.2.2.2.2.2.2.2.2.2.2.2.2.2.2.2.2.2.2.2.2.2.2.2.1 x.2.2.2.2.2.2.2.2.2.2.2.2.2.2.2.2.2.2.2.2.2.2.2.2.2.1 x.2.2.2.2.2.2.2.2.2.2.2.2.2.2.2.2.2.2.2.2.2.2.2.2.2.2.1 x.2.2.2.2.2.2.2.2.2.2.2.2.2.2.2.2.2.2.2.2.2.2.2.2.2.2.2.1 x.2.2.2.2.2.2.2.2.2.2.2.2.2.2.2.2.2.2.2.2.2.2.2.2.2.2.2.2.1 x.2.2.2.2.2.2.2.2.2.2.2.2.2.2.2.2.2.2.2.2.2.2.2.2.2.2.2.2.2.1 x.2.2.2.2.2.2.2.2.2.2.2.2.2.2.2.2.2.2.2.2.2.2.2.2.2.2.2.2.2.2.1 x.2.2.2.2.2.2.2.2.2.2.2.2.2.2.2.2.2.2.2.2.2.2.2.2.2.2.2.2.2.2.2.1 x.2.2.2.2.2.2.2.2.2.2.2.2.2.2.2.2.2.2.2.2.2.2.2.2.2.2.2.2.2.2.2.2.1 x.2.2.2.2.2.2.2.2.2.2.2.2.2.2.2.2.2.2.2.2.2.2.2.2.2.2.2.2.2.2.2.2.2.1
theorem laws_eqRelay.tblOK : ∀ g fs S, laws_eqRelay.tbl g fs = some S → SumOK Try.prog g S := by
  intro g fs S h
  unfold laws_eqRelay.tbl at h
  split at h
  · rename_i hc; obtain ⟨rfl, rfl⟩ := hc; have := Option.some.inj h; subst this; exact ok_laws_eqServer
  split at h
  · rename_i hc; obtain ⟨rfl, rfl⟩ := hc; have := Option.some.inj h; subst this; exact ok_laws_eqClient
  cases h
theorem ok_laws_eqRelay : SumOK Try.prog 16 ⟨ins_laws_eqRelay, outs_laws_eqRelay, F_laws_eqRelay⟩ := runFn_ok (by kernel_rfl) laws_eqRelay.tblOK (by kernel_rfl) fun x y h => ⟨laws_eqRelay.cfg, 0, (laws_eqRelay.top 0 x.1 x.2.1 x.2.2.1 x.2.2.2.1 x.2.2.2.2.1 x.2.2.2.2.2.1 x.2.2.2.2.2.2.1 x.2.2.2.2.2.2.2.1 x.2.2.2.2.2.2.2.2.1 x.2.2.2.2.2.2.2.2.2.1 x.2.2.2.2.2.2.2.2.2.2.1 x.2.2.2.2.2.2.2.2.2.2.2.1 x.2.2.2.2.2.2.2.2.2.2.2.2.1 x.2.2.2.2.2.2.2.2.2.2.2.2.2.1 x.2.2.2.2.2.2.2.2.2.2.2.2.2.2.1 x.2.2.2.2.2.2.2.2.2.2.2.2.2.2.2.1 x.2.2.2.2.2.2.2.2.2.2.2.2.2.2.2.2.1 x.2.2.2.2.2.2.2.2.2.2.2.2.2.2.2.2.2.1 x.2.2.2.2.2.2.2.2.2.2.2.2.2.2.2.2.2.2.1 x.2.2.2.2.2.2.2.2.2.2.2.2.2.2.2.2.2.2.2.1 x.2.2.2.2.2.2.2.2.2.2.2.2.2.2.2.2.2.2.2.2.1 x.2.2.2.2.2.2.2.2.2.2.2.2.2.2.2.2.2.2.2.2.2.1 x.2.2.2.2.2.2.2.2.2.2.2.2.2.2.2.2.2.2.2.2.2.2.1 x.2.2.2.2.2.2.2.2.2.2.2.2.2.2.2.2.2.2.2.2.2.2.2.1 x.2.2.2.2.2.2.2.2.2.2.2.2.2.2.2.2.2.2.2.2.2.2.2.2.1 x.2.2.2.2.2.2.2.2.2.2.2.2.2.2.2.2.2.2.2.2.2.2.2.2.2.1 x.2.2.2.2.2.2.2.2.2.2.2.2.2.2.2.2.2.2.2.2.2.2.2.2.2.2.1 x.2.2.2.2.2.2.2.2.2.2.2.2.2.2.2.2.2.2.2.2.2.2.2.2.2.2.2.1 x.2.2.2.2.2.2.2.2.2.2.2.2.2.2.2.2.2.2.2.2.2.2.2.2.2.2.2.2.1 x.2.2.2.2.2.2.2.2.2.2.2.2.2.2.2.2.2.2.2.2.2.2.2.2.2.2.2.2.2.1 x.2.2.2.2.2.2.2.2.2.2.2.2.2.2.2.2.2.2.2.2.2.2.2.2.2.2.2.2.2.2.1 x.2.2.2.2.2.2.2.2.2.2.2.2.2.2.2.2.2.2.2.2.2.2.2.2.2.2.2.2.2.2.2.1 x.2.2.2.2.2.2.2.2.2.2.2.2.2.2.2.2.2.2.2.2.2.2.2.2.2.2.2.2.2.2.2.2.1 x.2.2.2.2.2.2.2.2.2.2.2.2.2.2.2.2.2.2.2.2.2.2.2.2.2.2.2.2.2.2.2.2.2.1).trans h⟩
abbrev ins_spec_l05Group : List Par := [.v true ct4, .v false [CT.int .i64]]
abbrev outs_spec_l05Group : List (Bool × List CT) := [(false, [CT.int .i64])]
/-! ### loop.example/g00095/spec.l05Group (function 27) -/
noncomputable def spec_l05Group.tbl : Tbl := fun g fs => none
noncomputable def spec_l05Group.body : Code := ((Try.prog.funcs[27]?).bind (·.body)).getD .skip
def spec_l05Group.cfg : Nat → List Nat × List Nat := fun k => if k = 2 then ([1, 2, 5], [4]) else ([], [])
noncomputable def spec_l05Group.R0 {R : Type} (nx0 : (Int → Int → Int → (List (Int × Int × Int × Int × Unit)) → (List (Int × Int × Int × Int × Unit)) → Option R)) (ex0 : (Int → Option R)) (ex1 : (Unit → Option R)) (id2 : Int) (i : Int) (f : Int) (f3 : List (Int × Int × Int × Int × Unit)) (f4 : List (Int × Int × Int × Int × Unit)) : Option R := cond (decide (i < (f3.length : Int))) (if 0 ≤ i ∧ i < (f3.length : Int) then cond ((rd (0, 0, 0, 0, ()) f3 i).1 == id2) (ex0 i) (nx0 id2 (w64 (i + 1)) f f3 f4) else none) (ex1 ())
noncomputable def spec_l05Group.A0  (f0 : Int) (f1 : List (Int × Int × Int × Int × Unit)) (f2 : List (Int × Int × Int × Int × Unit)) (id : Int) (t4x : Int) : Option (Int × Unit) := some (t4x, ())
noncomputable def spec_l05Group.A1  (f0 : Int) (f1 : List (Int × Int × Int × Int × Unit)) (f2 : List (Int × Int × Int × Int × Unit)) (id : Int) (_u : Unit) : Option (Int × Unit) := some ((-1), ())
noncomputable def spec_l05Group.T (lo0 : (Int → Int → Int → (List (Int × Int × Int × Int × Unit)) → (List (Int × Int × Int × Int × Unit)) → Option (Int × Unit))) (f0 : Int) (f1 : List (Int × Int × Int × Int × Unit)) (f2 : List (Int × Int × Int × Int × Unit)) (id : Int) : Option (Int × Unit) := lo0 id 0 f0 f1 f2
noncomputable def spec_l05Group.st0 {R : Type} (k0 : Nat) : Env → List Ob → Kont R → Option R := fun env ob K => runCode Try.prog spec_l05Group.tbl 22 0 spec_l05Group.cfg k0 (codeAt [1, 0, 1, 0, 0] spec_l05Group.body) env ob K
noncomputable def spec_l05Group.K0 {R : Type} (k0 : Nat) (K : Kont R) : Kont R := blockK 0 (seqK (fun env ob => runCode Try.prog spec_l05Group.tbl 22 0 spec_l05Group.cfg k0 (codeAt [1, 1] spec_l05Group.body) env ob (K)) (K))
noncomputable def spec_l05Group.L0 {R : Type} (k0 k : Nat) (K : Kont R) (id2 : Int) (i : Int) (f : Int) (f3 : List (Int × Int × Int × Int × Unit)) (f4 : List (Int × Int × Int × Int × Unit)) : Option R := iter 0 [1, 2, 5] [4] (spec_l05Group.st0 k0) k [(1, .int .i64 id2), (2, .ptr 0 0 0 0), (5, .int .i64 i)] [.box [.int .i64 f, .sl ct0 f3, .sl ct0 f4]] K
theorem spec_l05Group.s0 {R : Type} (k0 k : Nat) (K : Kont R) (id2 : Int) (i : Int) (f : Int) (f3 : List (Int × Int × Int × Int × Unit)) (f4 : List (Int × Int × Int × Int × Unit)) : spec_l05Group.L0 k0 (k + 1) K id2 i f f3 f4 = spec_l05Group.R0 (fun (id2 : Int) (i : Int) (f : Int) (f3 : List (Int × Int × Int × Int × Unit)) (f4 : List (Int × Int × Int × Int × Unit)) => spec_l05Group.L0 k0 k K id2 i f f3 f4) (fun (t4x : Int) => K .ret [(4, .int .i64 t4x)] []) (fun (_ : Unit) => K (.exit 0) [(4, .undef)] []) id2 i f f3 f4 := by kernel_rfl
theorem spec_l05Group.a0 (k0 : Nat) (f0 : Int) (f1 : List (Int × Int × Int × Int × Unit)) (f2 : List (Int × Int × Int × Int × Unit)) (id : Int) (t4x : Int) : spec_l05Group.K0 (R := (Int × Unit)) k0 (finK Try.prog [.tmp 4] ins_spec_l05Group outs_spec_l05Group (f0, f1, f2, id, ())) .ret [(4, .int .i64 t4x)] [] = spec_l05Group.A0  f0 f1 f2 id t4x := by kernel_rfl
theorem spec_l05Group.a1 (k0 : Nat) (f0 : Int) (f1 : List (Int × Int × Int × Int × Unit)) (f2 : List (Int × Int × Int × Int × Unit)) (id : Int)  : spec_l05Group.K0 (R := (Int × Unit)) k0 (finK Try.prog [.tmp 4] ins_spec_l05Group outs_spec_l05Group (f0, f1, f2, id, ())) (.exit 0) [(4, .undef)] [] = spec_l05Group.A1  f0 f1 f2 id () := by kernel_rfl
theorem spec_l05Group.top (k0 : Nat) (f0 : Int) (f1 : List (Int × Int × Int × Int × Unit)) (f2 : List (Int × Int × Int × Int × Unit)) (id : Int) : runFn Try.prog spec_l05Group.tbl spec_l05Group.cfg k0 27 ins_spec_l05Group outs_spec_l05Group (f0, f1, f2, id, ()) = spec_l05Group.T (fun (id2 : Int) (i : Int) (f : Int) (f3 : List (Int × Int × Int × Int × Unit)) (f4 : List (Int × Int × Int × Int × Unit)) => spec_l05Group.L0 (R := (Int × Unit)) k0 k0 (spec_l05Group.K0 (R := (Int × Unit)) k0 ((finK Try.prog [.tmp 4] ins_spec_l05Group outs_spec_l05Group (f0, f1, f2, id, ())))) id2 i f f3 f4) f0 f1 f2 id := by kernel_rfl
noncomputable def spec_l05Group.G0 {R : Type} (k0 : Nat) (hx0 : (Int → Option R)) (hx1 : (Unit → Option R)) : Nat → Int → Int → Int → (List (Int × Int × Int × Int × Unit)) → (List (Int × Int × Int × Int × Unit)) → Option R
  | 0, _, _, _, _, _ => none
  | k + 1, id2, i, f, f3, f4 => spec_l05Group.R0 (fun (id2 : Int) (i : Int) (f : Int) (f3 : List (Int × Int × Int × Int × Unit)) (f4 : List (Int × Int × Int × Int × Unit)) => spec_l05Group.G0 k0 hx0 hx1 k id2 i f f3 f4) (fun (t4x : Int) => hx0 t4x) (fun (_ : Unit) => hx1 ()) id2 i f f3 f4
theorem spec_l05Group.g0 {R : Type} (k0 : Nat) (K : Kont R) : ∀ (k : Nat) (id2 : Int) (i : Int) (f : Int) (f3 : List (Int × Int × Int × Int × Unit)) (f4 : List (Int × Int × Int × Int × Unit)), spec_l05Group.L0 k0 k K id2 i f f3 f4 = spec_l05Group.G0 k0 (fun (t4x : Int) => K .ret [(4, .int .i64 t4x)] []) (fun (_ : Unit) => K (.exit 0) [(4, .undef)] []) k id2 i f f3 f4 := by
  intro k
  induction k with
  | zero => intros; rfl
  | succ k ih => intros; rw [spec_l05Group.s0, spec_l05Group.G0]; (try simp only [ih]); try rfl
noncomputable def spec_l05Group.FF (k0 : Nat) (f0 : Int) (f1 : List (Int × Int × Int × Int × Unit)) (f2 : List (Int × Int × Int × Int × Unit)) (id : Int) : Option (Int × Unit) := spec_l05Group.T (fun (id2 : Int) (i : Int) (f : Int) (f3 : List (Int × Int × Int × Int × Unit)) (f4 : List (Int × Int × Int × Int × Unit)) => spec_l05Group.G0 k0 (fun (t4x : Int) => spec_l05Group.A0  f0 f1 f2 id t4x) (fun (_ : Unit) => spec_l05Group.A1  f0 f1 f2 id ()) k0 id2 i f f3 f4) f0 f1 f2 id
theorem spec_l05Group.run (k0 : Nat) (f0 : Int) (f1 : List (Int × Int × Int × Int × Unit)) (f2 : List (Int × Int × Int × Int × Unit)) (id : Int) : runFn Try.prog spec_l05Group.tbl spec_l05Group.cfg k0 27 ins_spec_l05Group outs_spec_l05Group (f0, f1, f2, id, ()) = spec_l05Group.FF k0 f0 f1 f2 id := by
  rw [spec_l05Group.top, spec_l05Group.FF]; (try simp only [spec_l05Group.g0, spec_l05Group.a0, spec_l05Group.a1]); try rfl
noncomputable def F_spec_l05Group : Int × (List (Int × Int × Int × Int × Unit)) × (List (Int × Int × Int × Int × Unit)) × Int × Unit → Option (Int × Unit) := fun x => (fun (f0 : Int) (f1 : List (Int × Int × Int × Int × Unit)) (f2 : List (Int × Int × Int × Int × Unit)) (id : Int) => spec_l05Group.FF (300 + f1.length + f2.length) f0 f1 f2 id) x.1 x.2.1 x.2.2.1 x.2.2.2.1
theorem spec_l05Group.tblOK : ∀ g fs S, spec_l05Group.tbl g fs = some S → SumOK Try.prog g S := by
  intro g fs S h
  unfold spec_l05Group.tbl at h
  cases h
theorem ok_spec_l05Group : SumOK Try.prog 27 ⟨ins_spec_l05Group, outs_spec_l05Group, F_spec_l05Group⟩ := runFn_ok (by kernel_rfl) spec_l05Group.tblOK (by kernel_rfl) fun x y h => ⟨spec_l05Group.cfg, _, (spec_l05Group.run _ x.1 x.2.1 x.2.2.1 x.2.2.2.1).trans h⟩
abbrev ins_spec_l02Want : List Par := [.v false [CT.int .i64]]
abbrev outs_spec_l02Want : List (Bool × List CT) := [(false, [CT.bool])]
/-! ### loop.example/g00095/spec.l02Want (function 52) -/
noncomputable def spec_l02Want.tbl : Tbl := fun g fs => none
noncomputable def spec_l02Want.body : Code := ((Try.prog.funcs[52]?).bind (·.body)).getD .skip
def spec_l02Want.cfg : Nat → List Nat × List Nat := fun k => ([], [])
noncomputable def spec_l02Want.T  (n : Int) : Option (Bool × Unit) := cond (decide (n ≥ 0)) (some ((decide (n ≤ 1125899906842624)), ())) (some (false, ()))
theorem spec_l02Want.top (k0 : Nat) (n : Int) : runFn Try.prog spec_l02Want.tbl spec_l02Want.cfg k0 52 ins_spec_l02Want outs_spec_l02Want (n, ()) = spec_l02Want.T  n := by kernel_rfl
noncomputable def F_spec_l02Want : Int × Unit → Option (Bool × Unit) := fun x => spec_l02Want.T x.1
theorem spec_l02Want.tblOK : ∀ g fs S, spec_l02Want.tbl g fs = some S → SumOK Try.prog g S := by
  intro g fs S h
  unfold spec_l02Want.tbl at h
  cases h
theorem ok_spec_l02Want : SumOK Try.prog 52 ⟨ins_spec_l02Want, outs_spec_l02Want, F_spec_l02Want⟩ := runFn_ok (by kernel_rfl) spec_l02Want.tblOK (by kernel_rfl) fun x y h => ⟨spec_l02Want.cfg, 0, (spec_l02Want.top 0 x.1).trans h⟩
abbrev ins_spec_l02Id : List Par := [.v false [CT.int .i64]]
abbrev outs_spec_l02Id : List (Bool × List CT) := [(false, [CT.bool])]
/-! ### loop.example/g00095/spec.l02Id (function 53) -/
noncomputable def spec_l02Id.tbl : Tbl := fun g fs => none
noncomputable def spec_l02Id.body : Code := ((Try.prog.funcs[53]?).bind (·.body)).getD .skip
def spec_l02Id.cfg : Nat → List Nat × List Nat := fun k => ([], [])
noncomputable def spec_l02Id.T  (n : Int) : Option (Bool × Unit) := cond (decide (n ≥ 1)) (some ((decide (n ≤ 1000000)), ())) (some (false, ()))
theorem spec_l02Id.top (k0 : Nat) (n : Int) : runFn Try.prog spec_l02Id.tbl spec_l02Id.cfg k0 53 ins_spec_l02Id outs_spec_l02Id (n, ()) = spec_l02Id.T  n := by kernel_rfl
noncomputable def F_spec_l02Id : Int × Unit → Option (Bool × Unit) := fun x => spec_l02Id.T x.1
theorem spec_l02Id.tblOK : ∀ g fs S, spec_l02Id.tbl g fs = some S → SumOK Try.prog g S := by
  intro g fs S h
  unfold spec_l02Id.tbl at h
  cases h
theorem ok_spec_l02Id : SumOK Try.prog 53 ⟨ins_spec_l02Id, outs_spec_l02Id, F_spec_l02Id⟩ := runFn_ok (by kernel_rfl) spec_l02Id.tblOK (by kernel_rfl) fun x y h => ⟨spec_l02Id.cfg, 0, (spec_l02Id.top 0 x.1).trans h⟩
abbrev ins_spec_l02Weight : List Par := [.v false [CT.int .i64]]
abbrev outs_spec_l02Weight : List (Bool × List CT) := [(false, [CT.bool])]
/-! ### loop.example/g00095/spec.l02Weight (function 54) -/
noncomputable def spec_l02Weight.tbl : Tbl := fun g fs => none
noncomputable def spec_l02Weight.body : Code := ((Try.prog.funcs[54]?).bind (·.body)).getD .skip
def spec_l02Weight.cfg : Nat → List Nat × List Nat := fun k => ([], [])
noncomputable def spec_l02Weight.T  (n : Int) : Option (Bool × Unit) := cond (decide (n ≥ 1)) (some ((decide (n ≤ 1073741824)), ())) (some (false, ()))
theorem spec_l02Weight.top (k0 : Nat) (n : Int) : runFn Try.prog spec_l02Weight.tbl spec_l02Weight.cfg k0 54 ins_spec_l02Weight outs_spec_l02Weight (n, ()) = spec_l02Weight.T  n := by kernel_rfl
noncomputable def F_spec_l02Weight : Int × Unit → Option (Bool × Unit) := fun x => spec_l02Weight.T x.1
theorem spec_l02Weight.tblOK : ∀ g fs S, spec_l02Weight.tbl g fs = some S → SumOK Try.prog g S := by
  intro g fs S h
  unfold spec_l02Weight.tbl at h
  cases h
theorem ok_spec_l02Weight : SumOK Try.prog 54 ⟨ins_spec_l02Weight, outs_spec_l02Weight, F_spec_l02Weight⟩ := runFn_ok (by kernel_rfl) spec_l02Weight.tblOK (by kernel_rfl) fun x y h => ⟨spec_l02Weight.cfg, 0, (spec_l02Weight.top 0 x.1).trans h⟩
abbrev ins_spec_FarmRight : List Par := [.v true ct4]
abbrev outs_spec_FarmRight : List (Bool × List CT) := [(false, [CT.bool])]
/-! ### loop.example/g00095/spec.FarmRight (function 25) -/
noncomputable def spec_FarmRight.tbl : Tbl := fun g fs => if g = 27 ∧ fs = [] then some ⟨ins_spec_l05Group, outs_spec_l05Group, F_spec_l05Group⟩ else if g = 52 ∧ fs = [] then some ⟨ins_spec_l02Want, outs_spec_l02Want, F_spec_l02Want⟩ else if g = 53 ∧ fs = [] then some ⟨ins_spec_l02Id, outs_spec_l02Id, F_spec_l02Id⟩ else if g = 54 ∧ fs = [] then some ⟨ins_spec_l02Weight, outs_spec_l02Weight, F_spec_l02Weight⟩ else none
noncomputable def spec_FarmRight.body : Code := ((Try.prog.funcs[25]?).bind (·.body)).getD .skip
def spec_FarmRight.cfg : Nat → List Nat × List Nat := fun k => if k = 4 then ([1, 3], [1, 2]) else if k = 10 then ([1, 5], [2]) else ([], [])
noncomputable def spec_FarmRight.R0 {R : Type} (nx0 : (Int → Int → (List (Int × Int × Int × Int × Unit)) → (List (Int × Int × Int × Int × Unit)) → Option R)) (ex0 : (Bool → Int → (List (Int × Int × Int × Int × Unit)) → (List (Int × Int × Int × Int × Unit)) → Option R)) (ex1 : (Int → (List (Int × Int × Int × Int × Unit)) → (List (Int × Int × Int × Int × Unit)) → Option R)) (i : Int) (f : Int) (f3 : List (Int × Int × Int × Int × Unit)) (f4 : List (Int × Int × Int × Int × Unit)) : Option R := cond (decide (i < (f3.length : Int))) (if 0 ≤ i ∧ i < (f3.length : Int) then (F_spec_l02Id ((rd (0, 0, 0, 0, ()) f3 i).1, ())).bind fun y1 => cond (!y1.1) (ex0 false f f3 f4) (cond (decide (i > 0)) (if 0 ≤ (w64 (i - 1)) ∧ (w64 (i - 1)) < (f3.length : Int) then cond (decide ((rd (0, 0, 0, 0, ()) f3 i).1 ≤ (rd (0, 0, 0, 0, ()) f3 (w64 (i - 1))).1)) (ex0 false f f3 f4) (cond ((rd (0, 0, 0, 0, ()) f3 i).2.1 != 0) ((F_spec_l05Group (f, f3, f4, (rd (0, 0, 0, 0, ()) f3 i).2.1, ())).bind fun y2 => cond (decide (y2.1 < 0)) (ex0 false f f3 f4) (cond (decide ((rd (0, 0, 0, 0, ()) f3 i).2.1 ≥ (rd (0, 0, 0, 0, ()) f3 i).1)) (ex0 false f f3 f4) ((F_spec_l02Want ((rd (0, 0, 0, 0, ()) f3 i).2.2.1, ())).bind fun y3 => cond (!y3.1) (ex0 false f f3 f4) ((F_spec_l02Weight ((rd (0, 0, 0, 0, ()) f3 i).2.2.2.1, ())).bind fun y4 => cond (!y4.1) (ex0 false f f3 f4) (nx0 (w64 (i + 1)) f f3 f4))))) ((F_spec_l02Want ((rd (0, 0, 0, 0, ()) f3 i).2.2.1, ())).bind fun y5 => cond (!y5.1) (ex0 false f f3 f4) ((F_spec_l02Weight ((rd (0, 0, 0, 0, ()) f3 i).2.2.2.1, ())).bind fun y6 => cond (!y6.1) (ex0 false f f3 f4) (nx0 (w64 (i + 1)) f f3 f4)))) else none) (cond ((rd (0, 0, 0, 0, ()) f3 i).2.1 != 0) ((F_spec_l05Group (f, f3, f4, (rd (0, 0, 0, 0, ()) f3 i).2.1, ())).bind fun y7 => cond (decide (y7.1 < 0)) (ex0 false f f3 f4) (cond (decide ((rd (0, 0, 0, 0, ()) f3 i).2.1 ≥ (rd (0, 0, 0, 0, ()) f3 i).1)) (ex0 false f f3 f4) ((F_spec_l02Want ((rd (0, 0, 0, 0, ()) f3 i).2.2.1, ())).bind fun y8 => cond (!y8.1) (ex0 false f f3 f4) ((F_spec_l02Weight ((rd (0, 0, 0, 0, ()) f3 i).2.2.2.1, ())).bind fun y9 => cond (!y9.1) (ex0 false f f3 f4) (nx0 (w64 (i + 1)) f f3 f4))))) ((F_spec_l02Want ((rd (0, 0, 0, 0, ()) f3 i).2.2.1, ())).bind fun y10 => cond (!y10.1) (ex0 false f f3 f4) ((F_spec_l02Weight ((rd (0, 0, 0, 0, ()) f3 i).2.2.2.1, ())).bind fun y11 => cond (!y11.1) (ex0 false f f3 f4) (nx0 (w64 (i + 1)) f f3 f4))))) else none) (ex1 f f3 f4)
noncomputable def spec_FarmRight.R1 {R : Type} (nx1 : (Int → Int → (List (Int × Int × Int × Int × Unit)) → (List (Int × Int × Int × Int × Unit)) → Option R)) (ex2 : (Bool → Option R)) (ex3 : (Unit → Option R)) (i : Int) (f : Int) (f3 : List (Int × Int × Int × Int × Unit)) (f4 : List (Int × Int × Int × Int × Unit)) : Option R := cond (decide (i < (f4.length : Int))) (if 0 ≤ i ∧ i < (f4.length : Int) then (F_spec_l02Id ((rd (0, 0, 0, 0, ()) f4 i).1, ())).bind fun y1 => cond (!y1.1) (ex2 false) (cond (decide (i > 0)) (if 0 ≤ (w64 (i - 1)) ∧ (w64 (i - 1)) < (f4.length : Int) then cond (decide ((rd (0, 0, 0, 0, ()) f4 i).1 ≤ (rd (0, 0, 0, 0, ()) f4 (w64 (i - 1))).1)) (ex2 false) (cond ((rd (0, 0, 0, 0, ()) f4 i).2.1 != 0) ((F_spec_l05Group (f, f3, f4, (rd (0, 0, 0, 0, ()) f4 i).2.1, ())).bind fun y2 => cond (decide (y2.1 < 0)) (ex2 false) ((F_spec_l02Want ((rd (0, 0, 0, 0, ()) f4 i).2.2.1, ())).bind fun y3 => cond (!y3.1) (ex2 false) ((F_spec_l02Weight ((rd (0, 0, 0, 0, ()) f4 i).2.2.2.1, ())).bind fun y4 => cond (!y4.1) (ex2 false) (nx1 (w64 (i + 1)) f f3 f4)))) ((F_spec_l02Want ((rd (0, 0, 0, 0, ()) f4 i).2.2.1, ())).bind fun y5 => cond (!y5.1) (ex2 false) ((F_spec_l02Weight ((rd (0, 0, 0, 0, ()) f4 i).2.2.2.1, ())).bind fun y6 => cond (!y6.1) (ex2 false) (nx1 (w64 (i + 1)) f f3 f4)))) else none) (cond ((rd (0, 0, 0, 0, ()) f4 i).2.1 != 0) ((F_spec_l05Group (f, f3, f4, (rd (0, 0, 0, 0, ()) f4 i).2.1, ())).bind fun y7 => cond (decide (y7.1 < 0)) (ex2 false) ((F_spec_l02Want ((rd (0, 0, 0, 0, ()) f4 i).2.2.1, ())).bind fun y8 => cond (!y8.1) (ex2 false) ((F_spec_l02Weight ((rd (0, 0, 0, 0, ()) f4 i).2.2.2.1, ())).bind fun y9 => cond (!y9.1) (ex2 false) (nx1 (w64 (i + 1)) f f3 f4)))) ((F_spec_l02Want ((rd (0, 0, 0, 0, ()) f4 i).2.2.1, ())).bind fun y10 => cond (!y10.1) (ex2 false) ((F_spec_l02Weight ((rd (0, 0, 0, 0, ()) f4 i).2.2.2.1, ())).bind fun y11 => cond (!y11.1) (ex2 false) (nx1 (w64 (i + 1)) f f3 f4))))) else none) (ex3 ())
noncomputable def spec_FarmRight.A0  (f0 : Int) (f1 : List (Int × Int × Int × Int × Unit)) (f2 : List (Int × Int × Int × Int × Unit)) (t2x : Bool) (f : Int) (f3 : List (Int × Int × Int × Int × Unit)) (f4 : List (Int × Int × Int × Int × Unit)) : Option (Bool × Unit) := some (t2x, ())
noncomputable def spec_FarmRight.A1 (lo1 : (Int → Int → (List (Int × Int × Int × Int × Unit)) → (List (Int × Int × Int × Int × Unit)) → Option (Bool × Unit))) (f0 : Int) (f1 : List (Int × Int × Int × Int × Unit)) (f2 : List (Int × Int × Int × Int × Unit)) (f : Int) (f3 : List (Int × Int × Int × Int × Unit)) (f4 : List (Int × Int × Int × Int × Unit)) : Option (Bool × Unit) := lo1 0 f f3 f4
noncomputable def spec_FarmRight.A2  (f0 : Int) (f1 : List (Int × Int × Int × Int × Unit)) (f2 : List (Int × Int × Int × Int × Unit)) (t2x : Bool) : Option (Bool × Unit) := some (t2x, ())
noncomputable def spec_FarmRight.A3  (f0 : Int) (f1 : List (Int × Int × Int × Int × Unit)) (f2 : List (Int × Int × Int × Int × Unit)) (_u : Unit) : Option (Bool × Unit) := some (true, ())
noncomputable def spec_FarmRight.T (lo0 : (Int → Int → (List (Int × Int × Int × Int × Unit)) → (List (Int × Int × Int × Int × Unit)) → Option (Bool × Unit))) (f0 : Int) (f1 : List (Int × Int × Int × Int × Unit)) (f2 : List (Int × Int × Int × Int × Unit)) : Option (Bool × Unit) := (F_spec_l02Want (f0, ())).bind fun y1 => cond (!y1.1) (some (false, ())) (cond (decide ((f1.length : Int) > 30)) (some (false, ())) (cond (decide ((f2.length : Int) > 60)) (some (false, ())) (lo0 0 f0 f1 f2)))
noncomputable def spec_FarmRight.st0 {R : Type} (k0 : Nat) : Env → List Ob → Kont R → Option R := fun env ob K => runCode Try.prog spec_FarmRight.tbl 142 0 spec_FarmRight.cfg k0 (codeAt [1, 1, 0, 1, 0, 0] spec_FarmRight.body) env ob K
noncomputable def spec_FarmRight.K0 {R : Type} (k0 : Nat) (K : Kont R) : Kont R := blockK 0 (seqK (fun env ob => runCode Try.prog spec_FarmRight.tbl 142 0 spec_FarmRight.cfg k0 (codeAt [1, 1, 1] spec_FarmRight.body) env ob (K)) (K))
noncomputable def spec_FarmRight.st1 {R : Type} (k0 : Nat) : Env → List Ob → Kont R → Option R := fun env ob K => runCode Try.prog spec_FarmRight.tbl 142 0 spec_FarmRight.cfg k0 (codeAt [1, 1, 1, 0, 1, 0, 0] spec_FarmRight.body) env ob K
noncomputable def spec_FarmRight.K1 {R : Type} (k0 : Nat) (K : Kont R) : Kont R := blockK 2 (seqK (fun env ob => runCode Try.prog spec_FarmRight.tbl 142 0 spec_FarmRight.cfg k0 (codeAt [1, 1, 1, 1] spec_FarmRight.body) env ob (K)) (K))
noncomputable def spec_FarmRight.L0 {R : Type} (k0 k : Nat) (K : Kont R) (i : Int) (f : Int) (f3 : List (Int × Int × Int × Int × Unit)) (f4 : List (Int × Int × Int × Int × Unit)) : Option R := iter 0 [1, 3] [1, 2] (spec_FarmRight.st0 k0) k [(1, .ptr 0 0 0 0), (3, .int .i64 i)] [.box [.int .i64 f, .sl ct0 f3, .sl ct0 f4]] K
noncomputable def spec_FarmRight.L1 {R : Type} (k0 k : Nat) (K : Kont R) (i : Int) (f : Int) (f3 : List (Int × Int × Int × Int × Unit)) (f4 : List (Int × Int × Int × Int × Unit)) : Option R := iter 0 [1, 5] [2] (spec_FarmRight.st1 k0) k [(1, .ptr 0 0 0 0), (5, .int .i64 i)] [.box [.int .i64 f, .sl ct0 f3, .sl ct0 f4]] K
theorem spec_FarmRight.s0 {R : Type} (k0 k : Nat) (K : Kont R) (i : Int) (f : Int) (f3 : List (Int × Int × Int × Int × Unit)) (f4 : List (Int × Int × Int × Int × Unit)) : spec_FarmRight.L0 k0 (k + 1) K i f f3 f4 = spec_FarmRight.R0 (fun (i : Int) (f : Int) (f3 : List (Int × Int × Int × Int × Unit)) (f4 : List (Int × Int × Int × Int × Unit)) => spec_FarmRight.L0 k0 k K i f f3 f4) (fun (t2x : Bool) (f : Int) (f3 : List (Int × Int × Int × Int × Unit)) (f4 : List (Int × Int × Int × Int × Unit)) => K .ret [(1, .ptr 0 0 0 0), (2, .bool t2x)] [.box [.int .i64 f, .sl ct0 f3, .sl ct0 f4]]) (fun (f : Int) (f3 : List (Int × Int × Int × Int × Unit)) (f4 : List (Int × Int × Int × Int × Unit)) => K (.exit 0) [(1, .ptr 0 0 0 0), (2, .undef)] [.box [.int .i64 f, .sl ct0 f3, .sl ct0 f4]]) i f f3 f4 := by kernel_rfl
theorem spec_FarmRight.s1 {R : Type} (k0 k : Nat) (K : Kont R) (i : Int) (f : Int) (f3 : List (Int × Int × Int × Int × Unit)) (f4 : List (Int × Int × Int × Int × Unit)) : spec_FarmRight.L1 k0 (k + 1) K i f f3 f4 = spec_FarmRight.R1 (fun (i : Int) (f : Int) (f3 : List (Int × Int × Int × Int × Unit)) (f4 : List (Int × Int × Int × Int × Unit)) => spec_FarmRight.L1 k0 k K i f f3 f4) (fun (t2x : Bool) => K .ret [(2, .bool t2x)] []) (fun (_ : Unit) => K (.exit 2) [(2, .undef)] []) i f f3 f4 := by kernel_rfl
theorem spec_FarmRight.a0 (k0 : Nat) (f0 : Int) (f1 : List (Int × Int × Int × Int × Unit)) (f2 : List (Int × Int × Int × Int × Unit)) (t2x : Bool) (f : Int) (f3 : List (Int × Int × Int × Int × Unit)) (f4 : List (Int × Int × Int × Int × Unit)) : spec_FarmRight.K0 (R := (Bool × Unit)) k0 (finK Try.prog [.tmp 2] ins_spec_FarmRight outs_spec_FarmRight (f0, f1, f2, ())) .ret [(1, .ptr 0 0 0 0), (2, .bool t2x)] [.box [.int .i64 f, .sl ct0 f3, .sl ct0 f4]] = spec_FarmRight.A0  f0 f1 f2 t2x f f3 f4 := by kernel_rfl
theorem spec_FarmRight.a1 (k0 : Nat) (f0 : Int) (f1 : List (Int × Int × Int × Int × Unit)) (f2 : List (Int × Int × Int × Int × Unit)) (f : Int) (f3 : List (Int × Int × Int × Int × Unit)) (f4 : List (Int × Int × Int × Int × Unit)) : spec_FarmRight.K0 (R := (Bool × Unit)) k0 (finK Try.prog [.tmp 2] ins_spec_FarmRight outs_spec_FarmRight (f0, f1, f2, ())) (.exit 0) [(1, .ptr 0 0 0 0), (2, .undef)] [.box [.int .i64 f, .sl ct0 f3, .sl ct0 f4]] = spec_FarmRight.A1 (fun (i : Int) (f : Int) (f3 : List (Int × Int × Int × Int × Unit)) (f4 : List (Int × Int × Int × Int × Unit)) => spec_FarmRight.L1 (R := (Bool × Unit)) k0 k0 (spec_FarmRight.K1 (R := (Bool × Unit)) k0 ((finK Try.prog [.tmp 2] ins_spec_FarmRight outs_spec_FarmRight (f0, f1, f2, ())))) i f f3 f4) f0 f1 f2 f f3 f4 := by kernel_rfl
theorem spec_FarmRight.a2 (k0 : Nat) (f0 : Int) (f1 : List (Int × Int × Int × Int × Unit)) (f2 : List (Int × Int × Int × Int × Unit)) (t2x : Bool) : spec_FarmRight.K1 (R := (Bool × Unit)) k0 (finK Try.prog [.tmp 2] ins_spec_FarmRight outs_spec_FarmRight (f0, f1, f2, ())) .ret [(2, .bool t2x)] [] = spec_FarmRight.A2  f0 f1 f2 t2x := by kernel_rfl
theorem spec_FarmRight.a3 (k0 : Nat) (f0 : Int) (f1 : List (Int × Int × Int × Int × Unit)) (f2 : List (Int × Int × Int × Int × Unit))  : spec_FarmRight.K1 (R := (Bool × Unit)) k0 (finK Try.prog [.tmp 2] ins_spec_FarmRight outs_spec_FarmRight (f0, f1, f2, ())) (.exit 2) [(2, .undef)] [] = spec_FarmRight.A3  f0 f1 f2 () := by kernel_rfl
theorem spec_FarmRight.top (k0 : Nat) (f0 : Int) (f1 : List (Int × Int × Int × Int × Unit)) (f2 : List (Int × Int × Int × Int × Unit)) : runFn Try.prog spec_FarmRight.tbl spec_FarmRight.cfg k0 25 ins_spec_FarmRight outs_spec_FarmRight (f0, f1, f2, ()) = spec_FarmRight.T (fun (i : Int) (f : Int) (f3 : List (Int × Int × Int × Int × Unit)) (f4 : List (Int × Int × Int × Int × Unit)) => spec_FarmRight.L0 (R := (Bool × Unit)) k0 k0 (spec_FarmRight.K0 (R := (Bool × Unit)) k0 ((finK Try.prog [.tmp 2] ins_spec_FarmRight outs_spec_FarmRight (f0, f1, f2, ())))) i f f3 f4) f0 f1 f2 := by kernel_rfl
noncomputable def spec_FarmRight.G0 {R : Type} (k0 : Nat) (hx0 : (Bool → Int → (List (Int × Int × Int × Int × Unit)) → (List (Int × Int × Int × Int × Unit)) → Option R)) (hx1 : (Int → (List (Int × Int × Int × Int × Unit)) → (List (Int × Int × Int × Int × Unit)) → Option R)) : Nat → Int → Int → (List (Int × Int × Int × Int × Unit)) → (List (Int × Int × Int × Int × Unit)) → Option R
  | 0, _, _, _, _ => none
  | k + 1, i, f, f3, f4 => spec_FarmRight.R0 (fun (i : Int) (f : Int) (f3 : List (Int × Int × Int × Int × Unit)) (f4 : List (Int × Int × Int × Int × Unit)) => spec_FarmRight.G0 k0 hx0 hx1 k i f f3 f4) (fun (t2x : Bool) (f : Int) (f3 : List (Int × Int × Int × Int × Unit)) (f4 : List (Int × Int × Int × Int × Unit)) => hx0 t2x f f3 f4) (fun (f : Int) (f3 : List (Int × Int × Int × Int × Unit)) (f4 : List (Int × Int × Int × Int × Unit)) => hx1 f f3 f4) i f f3 f4
theorem spec_FarmRight.g0 {R : Type} (k0 : Nat) (K : Kont R) : ∀ (k : Nat) (i : Int) (f : Int) (f3 : List (Int × Int × Int × Int × Unit)) (f4 : List (Int × Int × Int × Int × Unit)), spec_FarmRight.L0 k0 k K i f f3 f4 = spec_FarmRight.G0 k0 (fun (t2x : Bool) (f : Int) (f3 : List (Int × Int × Int × Int × Unit)) (f4 : List (Int × Int × Int × Int × Unit)) => K .ret [(1, .ptr 0 0 0 0), (2, .bool t2x)] [.box [.int .i64 f, .sl ct0 f3, .sl ct0 f4]]) (fun (f : Int) (f3 : List (Int × Int × Int × Int × Unit)) (f4 : List (Int × Int × Int × Int × Unit)) => K (.exit 0) [(1, .ptr 0 0 0 0), (2, .undef)] [.box [.int .i64 f, .sl ct0 f3, .sl ct0 f4]]) k i f f3 f4 := by
  intro k
  induction k with
  | zero => intros; rfl
  | succ k ih => intros; rw [spec_FarmRight.s0, spec_FarmRight.G0]; (try simp only [ih]); try rfl
noncomputable def spec_FarmRight.G1 {R : Type} (k0 : Nat) (hx2 : (Bool → Option R)) (hx3 : (Unit → Option R)) : Nat → Int → Int → (List (Int × Int × Int × Int × Unit)) → (List (Int × Int × Int × Int × Unit)) → Option R
  | 0, _, _, _, _ => none
  | k + 1, i, f, f3, f4 => spec_FarmRight.R1 (fun (i : Int) (f : Int) (f3 : List (Int × Int × Int × Int × Unit)) (f4 : List (Int × Int × Int × Int × Unit)) => spec_FarmRight.G1 k0 hx2 hx3 k i f f3 f4) (fun (t2x : Bool) => hx2 t2x) (fun (_ : Unit) => hx3 ()) i f f3 f4
theorem spec_FarmRight.g1 {R : Type} (k0 : Nat) (K : Kont R) : ∀ (k : Nat) (i : Int) (f : Int) (f3 : List (Int × Int × Int × Int × Unit)) (f4 : List (Int × Int × Int × Int × Unit)), spec_FarmRight.L1 k0 k K i f f3 f4 = spec_FarmRight.G1 k0 (fun (t2x : Bool) => K .ret [(2, .bool t2x)] []) (fun (_ : Unit) => K (.exit 2) [(2, .undef)] []) k i f f3 f4 := by
  intro k
  induction k with
  | zero => intros; rfl
  | succ k ih => intros; rw [spec_FarmRight.s1, spec_FarmRight.G1]; (try simp only [ih, spec_FarmRight.g0]); try rfl
noncomputable def spec_FarmRight.FF (k0 : Nat) (f0 : Int) (f1 : List (Int × Int × Int × Int × Unit)) (f2 : List (Int × Int × Int × Int × Unit)) : Option (Bool × Unit) := spec_FarmRight.T (fun (i : Int) (f : Int) (f3 : List (Int × Int × Int × Int × Unit)) (f4 : List (Int × Int × Int × Int × Unit)) => spec_FarmRight.G0 k0 (fun (t2x : Bool) (f : Int) (f3 : List (Int × Int × Int × Int × Unit)) (f4 : List (Int × Int × Int × Int × Unit)) => spec_FarmRight.A0  f0 f1 f2 t2x f f3 f4) (fun (f : Int) (f3 : List (Int × Int × Int × Int × Unit)) (f4 : List (Int × Int × Int × Int × Unit)) => spec_FarmRight.A1 (fun (i : Int) (f : Int) (f3 : List (Int × Int × Int × Int × Unit)) (f4 : List (Int × Int × Int × Int × Unit)) => spec_FarmRight.G1 k0 (fun (t2x : Bool) => spec_FarmRight.A2  f0 f1 f2 t2x) (fun (_ : Unit) => spec_FarmRight.A3  f0 f1 f2 ()) k0 i f f3 f4) f0 f1 f2 f f3 f4) k0 i f f3 f4) f0 f1 f2
theorem spec_FarmRight.run (k0 : Nat) (f0 : Int) (f1 : List (Int × Int × Int × Int × Unit)) (f2 : List (Int × Int × Int × Int × Unit)) : runFn Try.prog spec_FarmRight.tbl spec_FarmRight.cfg k0 25 ins_spec_FarmRight outs_spec_FarmRight (f0, f1, f2, ()) = spec_FarmRight.FF k0 f0 f1 f2 := by
  rw [spec_FarmRight.top, spec_FarmRight.FF]; (try simp only [spec_FarmRight.g0, spec_FarmRight.g1, spec_FarmRight.a0, spec_FarmRight.a1, spec_FarmRight.a2, spec_FarmRight.a3]); try rfl
noncomputable def F_spec_FarmRight : Int × (List (Int × Int × Int × Int × Unit)) × (List (Int × Int × Int × Int × Unit)) × Unit → Option (Bool × Unit) := fun x => (fun (f0 : Int) (f1 : List (Int × Int × Int × Int × Unit)) (f2 : List (Int × Int × Int × Int × Unit)) => spec_FarmRight.FF (300 + f1.length + f2.length) f0 f1 f2) x.1 x.2.1 x.2.2.1
theorem spec_FarmRight.tblOK : ∀ g fs S, spec_FarmRight.tbl g fs = some S → SumOK Try.prog g S := by
  intro g fs S h
  unfold spec_FarmRight.tbl at h
  split at h
  · rename_i hc; obtain ⟨rfl, rfl⟩ := hc; have := Option.some.inj h; subst this; exact ok_spec_l05Group
  split at h
  · rename_i hc; obtain ⟨rfl, rfl⟩ := hc; have := Option.some.inj h; subst this; exact ok_spec_l02Want
  split at h
  · rename_i hc; obtain ⟨rfl, rfl⟩ := hc; have := Option.some.inj h; subst this; exact ok_spec_l02Id
  split at h
  · rename_i hc; obtain ⟨rfl, rfl⟩ := hc; have := Option.some.inj h; subst this; exact ok_spec_l02Weight
  cases h
theorem ok_spec_FarmRight : SumOK Try.prog 25 ⟨ins_spec_FarmRight, outs_spec_FarmRight, F_spec_FarmRight⟩ := runFn_ok (by kernel_rfl) spec_FarmRight.tblOK (by kernel_rfl) fun x y h => ⟨spec_FarmRight.cfg, _, (spec_FarmRight.run _ x.1 x.2.1 x.2.2.1).trans h⟩
abbrev ins_spec_l10Length : List Par := [.v false [CT.int .i64]]
abbrev outs_spec_l10Length : List (Bool × List CT) := [(false, [CT.bool])]
/-! ### loop.example/g00095/spec.l10Length (function 65) -/
noncomputable def spec_l10Length.tbl : Tbl := fun g fs => none
noncomputable def spec_l10Length.body : Code := ((Try.prog.funcs[65]?).bind (·.body)).getD .skip
def spec_l10Length.cfg : Nat → List Nat × List Nat := fun k => ([], [])
noncomputable def spec_l10Length.T  (n : Int) : Option (Bool × Unit) := cond (decide (n ≥ 1)) (some ((decide (n ≤ 1000)), ())) (some (false, ()))
theorem spec_l10Length.top (k0 : Nat) (n : Int) : runFn Try.prog spec_l10Length.tbl spec_l10Length.cfg k0 65 ins_spec_l10Length outs_spec_l10Length (n, ()) = spec_l10Length.T  n := by kernel_rfl
noncomputable def F_spec_l10Length : Int × Unit → Option (Bool × Unit) := fun x => spec_l10Length.T x.1
theorem spec_l10Length.tblOK : ∀ g fs S, spec_l10Length.tbl g fs = some S → SumOK Try.prog g S := by
  intro g fs S h
  unfold spec_l10Length.tbl at h
  cases h
theorem ok_spec_l10Length : SumOK Try.prog 65 ⟨ins_spec_l10Length, outs_spec_l10Length, F_spec_l10Length⟩ := runFn_ok (by kernel_rfl) spec_l10Length.tblOK (by kernel_rfl) fun x y h => ⟨spec_l10Length.cfg, 0, (spec_l10Length.top 0 x.1).trans h⟩
abbrev ins_spec_l07Time : List Par := [.v false [CT.int .i64]]
abbrev outs_spec_l07Time : List (Bool × List CT) := [(false, [CT.bool])]
/-! ### loop.example/g00095/spec.l07Time (function 67) -/
noncomputable def spec_l07Time.tbl : Tbl := fun g fs => none
noncomputable def spec_l07Time.body : Code := ((Try.prog.funcs[67]?).bind (·.body)).getD .skip
def spec_l07Time.cfg : Nat → List Nat × List Nat := fun k => ([], [])
noncomputable def spec_l07Time.T  (n : Int) : Option (Bool × Unit) := cond (decide (n ≥ 0)) (some ((decide (n ≤ 1000000)), ())) (some (false, ()))
theorem spec_l07Time.top (k0 : Nat) (n : Int) : runFn Try.prog spec_l07Time.tbl spec_l07Time.cfg k0 67 ins_spec_l07Time outs_spec_l07Time (n, ()) = spec_l07Time.T  n := by kernel_rfl
noncomputable def F_spec_l07Time : Int × Unit → Option (Bool × Unit) := fun x => spec_l07Time.T x.1
theorem spec_l07Time.tblOK : ∀ g fs S, spec_l07Time.tbl g fs = some S → SumOK Try.prog g S := by
  intro g fs S h
  unfold spec_l07Time.tbl at h
  cases h
theorem ok_spec_l07Time : SumOK Try.prog 67 ⟨ins_spec_l07Time, outs_spec_l07Time, F_spec_l07Time⟩ := runFn_ok (by kernel_rfl) spec_l07Time.tblOK (by kernel_rfl) fun x y h => ⟨spec_l07Time.cfg, 0, (spec_l07Time.top 0 x.1).trans h⟩
abbrev ins_spec_l07Lease : List Par := [.v true ct1]
abbrev outs_spec_l07Lease : List (Bool × List CT) := [(false, [CT.bool])]
/-! ### loop.example/g00095/spec.l07Lease (function 81) -/
noncomputable def spec_l07Lease.tbl : Tbl := fun g fs => if g = 52 ∧ fs = [] then some ⟨ins_spec_l02Want, outs_spec_l02Want, F_spec_l02Want⟩ else if g = 53 ∧ fs = [] then some ⟨ins_spec_l02Id, outs_spec_l02Id, F_spec_l02Id⟩ else if g = 67 ∧ fs = [] then some ⟨ins_spec_l07Time, outs_spec_l07Time, F_spec_l07Time⟩ else none
noncomputable def spec_l07Lease.body : Code := ((Try.prog.funcs[81]?).bind (·.body)).getD .skip
def spec_l07Lease.cfg : Nat → List Nat × List Nat := fun k => ([], [])
noncomputable def spec_l07Lease.T  (l0 : Int) (l1 : Int) (l2 : Int) : Option (Bool × Unit) := (F_spec_l02Id (l0, ())).bind fun y1 => cond y1.1 ((F_spec_l02Want (l1, ())).bind fun y2 => cond y2.1 ((F_spec_l07Time (l2, ())).bind fun y3 => some (y3.1, ())) (some (false, ()))) (some (false, ()))
theorem spec_l07Lease.top (k0 : Nat) (l0 : Int) (l1 : Int) (l2 : Int) : runFn Try.prog spec_l07Lease.tbl spec_l07Lease.cfg k0 81 ins_spec_l07Lease outs_spec_l07Lease (l0, l1, l2, ()) = spec_l07Lease.T  l0 l1 l2 := by kernel_rfl
noncomputable def F_spec_l07Lease : Int × Int × Int × Unit → Option (Bool × Unit) := fun x => spec_l07Lease.T x.1 x.2.1 x.2.2.1
theorem spec_l07Lease.tblOK : ∀ g fs S, spec_l07Lease.tbl g fs = some S → SumOK Try.prog g S := by
  intro g fs S h
  unfold spec_l07Lease.tbl at h
  split at h
  · rename_i hc; obtain ⟨rfl, rfl⟩ := hc; have := Option.some.inj h; subst this; exact ok_spec_l02Want
  split at h
  · rename_i hc; obtain ⟨rfl, rfl⟩ := hc; have := Option.some.inj h; subst this; exact ok_spec_l02Id
  split at h
  · rename_i hc; obtain ⟨rfl, rfl⟩ := hc; have := Option.some.inj h; subst this; exact ok_spec_l07Time
  cases h
theorem ok_spec_l07Lease : SumOK Try.prog 81 ⟨ins_spec_l07Lease, outs_spec_l07Lease, F_spec_l07Lease⟩ := runFn_ok (by kernel_rfl) spec_l07Lease.tblOK (by kernel_rfl) fun x y h => ⟨spec_l07Lease.cfg, 0, (spec_l07Lease.top 0 x.1 x.2.1 x.2.2.1).trans h⟩
abbrev ins_spec_LeasesRight : List Par := [.v false [CT.sl ct1]]
abbrev outs_spec_LeasesRight : List (Bool × List CT) := [(false, [CT.bool])]
/-! ### loop.example/g00095/spec.LeasesRight (function 66) -/
noncomputable def spec_LeasesRight.tbl : Tbl := fun g fs => if g = 81 ∧ fs = [] then some ⟨ins_spec_l07Lease, outs_spec_l07Lease, F_spec_l07Lease⟩ else none
noncomputable def spec_LeasesRight.body : Code := ((Try.prog.funcs[66]?).bind (·.body)).getD .skip
def spec_LeasesRight.cfg : Nat → List Nat × List Nat := fun k => if k = 4 then ([0, 3], [2]) else ([], [])
noncomputable def spec_LeasesRight.R0 {R : Type} (nx0 : ((List (Int × Int × Int × Unit)) → Int → Option R)) (ex0 : (Bool → Option R)) (ex1 : (Unit → Option R)) (list2 : List (Int × Int × Int × Unit)) (i : Int) : Option R := cond (decide (i < (list2.length : Int))) (if 0 ≤ i ∧ i < (list2.length : Int) then (F_spec_l07Lease ((rd (0, 0, 0, ()) list2 i).1, (rd (0, 0, 0, ()) list2 i).2.1, (rd (0, 0, 0, ()) list2 i).2.2.1, ())).bind fun y1 => cond (!y1.1) (ex0 false) (cond (decide (i > 0)) (if 0 ≤ i ∧ i < (list2.length : Int) then if 0 ≤ (w64 (i - 1)) ∧ (w64 (i - 1)) < (list2.length : Int) then cond (decide ((rd (0, 0, 0, ()) list2 i).1 ≤ (rd (0, 0, 0, ()) list2 (w64 (i - 1))).1)) (ex0 false) (nx0 list2 (w64 (i + 1))) else none else none) (nx0 list2 (w64 (i + 1)))) else none) (ex1 ())
noncomputable def spec_LeasesRight.A0  (list : List (Int × Int × Int × Unit)) (t2x : Bool) : Option (Bool × Unit) := some (t2x, ())
noncomputable def spec_LeasesRight.A1  (list : List (Int × Int × Int × Unit)) (_u : Unit) : Option (Bool × Unit) := some (true, ())
noncomputable def spec_LeasesRight.T (lo0 : ((List (Int × Int × Int × Unit)) → Int → Option (Bool × Unit))) (list : List (Int × Int × Int × Unit)) : Option (Bool × Unit) := cond (decide ((list.length : Int) > 60)) (some (false, ())) (lo0 list 0)
noncomputable def spec_LeasesRight.st0 {R : Type} (k0 : Nat) : Env → List Ob → Kont R → Option R := fun env ob K => runCode Try.prog spec_LeasesRight.tbl 37 0 spec_LeasesRight.cfg k0 (codeAt [1, 1, 0, 1, 0, 0] spec_LeasesRight.body) env ob K
noncomputable def spec_LeasesRight.K0 {R : Type} (k0 : Nat) (K : Kont R) : Kont R := blockK 0 (seqK (fun env ob => runCode Try.prog spec_LeasesRight.tbl 37 0 spec_LeasesRight.cfg k0 (codeAt [1, 1, 1] spec_LeasesRight.body) env ob (K)) (K))
noncomputable def spec_LeasesRight.L0 {R : Type} (k0 k : Nat) (K : Kont R) (list2 : List (Int × Int × Int × Unit)) (i : Int) : Option R := iter 0 [0, 3] [2] (spec_LeasesRight.st0 k0) k [(0, .sl ct1 list2), (3, .int .i64 i)] [] K
theorem spec_LeasesRight.s0 {R : Type} (k0 k : Nat) (K : Kont R) (list2 : List (Int × Int × Int × Unit)) (i : Int) : spec_LeasesRight.L0 k0 (k + 1) K list2 i = spec_LeasesRight.R0 (fun (list2 : List (Int × Int × Int × Unit)) (i : Int) => spec_LeasesRight.L0 k0 k K list2 i) (fun (t2x : Bool) => K .ret [(2, .bool t2x)] []) (fun (_ : Unit) => K (.exit 0) [(2, .undef)] []) list2 i := by kernel_rfl
theorem spec_LeasesRight.a0 (k0 : Nat) (list : List (Int × Int × Int × Unit)) (t2x : Bool) : spec_LeasesRight.K0 (R := (Bool × Unit)) k0 (finK Try.prog [.tmp 2] ins_spec_LeasesRight outs_spec_LeasesRight (list, ())) .ret [(2, .bool t2x)] [] = spec_LeasesRight.A0  list t2x := by kernel_rfl
theorem spec_LeasesRight.a1 (k0 : Nat) (list : List (Int × Int × Int × Unit))  : spec_LeasesRight.K0 (R := (Bool × Unit)) k0 (finK Try.prog [.tmp 2] ins_spec_LeasesRight outs_spec_LeasesRight (list, ())) (.exit 0) [(2, .undef)] [] = spec_LeasesRight.A1  list () := by kernel_rfl
theorem spec_LeasesRight.top (k0 : Nat) (list : List (Int × Int × Int × Unit)) : runFn Try.prog spec_LeasesRight.tbl spec_LeasesRight.cfg k0 66 ins_spec_LeasesRight outs_spec_LeasesRight (list, ()) = spec_LeasesRight.T (fun (list2 : List (Int × Int × Int × Unit)) (i : Int) => spec_LeasesRight.L0 (R := (Bool × Unit)) k0 k0 (spec_LeasesRight.K0 (R := (Bool × Unit)) k0 ((finK Try.prog [.tmp 2] ins_spec_LeasesRight outs_spec_LeasesRight (list, ())))) list2 i) list := by kernel_rfl
noncomputable def spec_LeasesRight.G0 {R : Type} (k0 : Nat) (hx0 : (Bool → Option R)) (hx1 : (Unit → Option R)) : Nat → (List (Int × Int × Int × Unit)) → Int → Option R
  | 0, _, _ => none
  | k + 1, list2, i => spec_LeasesRight.R0 (fun (list2 : List (Int × Int × Int × Unit)) (i : Int) => spec_LeasesRight.G0 k0 hx0 hx1 k list2 i) (fun (t2x : Bool) => hx0 t2x) (fun (_ : Unit) => hx1 ()) list2 i
theorem spec_LeasesRight.g0 {R : Type} (k0 : Nat) (K : Kont R) : ∀ (k : Nat) (list2 : List (Int × Int × Int × Unit)) (i : Int), spec_LeasesRight.L0 k0 k K list2 i = spec_LeasesRight.G0 k0 (fun (t2x : Bool) => K .ret [(2, .bool t2x)] []) (fun (_ : Unit) => K (.exit 0) [(2, .undef)] []) k list2 i := by
  intro k
  induction k with
  | zero => intros; rfl
  | succ k ih => intros; rw [spec_LeasesRight.s0, spec_LeasesRight.G0]; (try simp only [ih]); try rfl
noncomputable def spec_LeasesRight.FF (k0 : Nat) (list : List (Int × Int × Int × Unit)) : Option (Bool × Unit) := spec_LeasesRight.T (fun (list2 : List (Int × Int × Int × Unit)) (i : Int) => spec_LeasesRight.G0 k0 (fun (t2x : Bool) => spec_LeasesRight.A0  list t2x) (fun (_ : Unit) => spec_LeasesRight.A1  list ()) k0 list2 i) list
theorem spec_LeasesRight.run (k0 : Nat) (list : List (Int × Int × Int × Unit)) : runFn Try.prog spec_LeasesRight.tbl spec_LeasesRight.cfg k0 66 ins_spec_LeasesRight outs_spec_LeasesRight (list, ()) = spec_LeasesRight.FF k0 list := by
  rw [spec_LeasesRight.top, spec_LeasesRight.FF]; (try simp only [spec_LeasesRight.g0, spec_LeasesRight.a0, spec_LeasesRight.a1]); try rfl
noncomputable def F_spec_LeasesRight : (List (Int × Int × Int × Unit)) × Unit → Option (Bool × Unit) := fun x => (fun (list : List (Int × Int × Int × Unit)) => spec_LeasesRight.FF (300 + list.length) list) x.1
theorem spec_LeasesRight.tblOK : ∀ g fs S, spec_LeasesRight.tbl g fs = some S → SumOK Try.prog g S := by
  intro g fs S h
  unfold spec_LeasesRight.tbl at h
  split at h
  · rename_i hc; obtain ⟨rfl, rfl⟩ := hc; have := Option.some.inj h; subst this; exact ok_spec_l07Lease
  cases h
theorem ok_spec_LeasesRight : SumOK Try.prog 66 ⟨ins_spec_LeasesRight, outs_spec_LeasesRight, F_spec_LeasesRight⟩ := runFn_ok (by kernel_rfl) spec_LeasesRight.tblOK (by kernel_rfl) fun x y h => ⟨spec_LeasesRight.cfg, _, (spec_LeasesRight.run _ x.1).trans h⟩
abbrev ins_spec_ServerRight : List Par := [.v true ct3]
abbrev outs_spec_ServerRight : List (Bool × List CT) := [(false, [CT.bool])]
/-! ### loop.example/g00095/spec.ServerRight (function 37) -/
noncomputable def spec_ServerRight.tbl : Tbl := fun g fs => if g = 25 ∧ fs = [] then some ⟨ins_spec_FarmRight, outs_spec_FarmRight, F_spec_FarmRight⟩ else if g = 65 ∧ fs = [] then some ⟨ins_spec_l10Length, outs_spec_l10Length, F_spec_l10Length⟩ else if g = 66 ∧ fs = [] then some ⟨ins_spec_LeasesRight, outs_spec_LeasesRight, F_spec_LeasesRight⟩ else none
noncomputable def spec_ServerRight.body : Code := ((Try.prog.funcs[37]?).bind (·.body)).getD .skip
def spec_ServerRight.cfg : Nat → List Nat × List Nat := fun k => if k = 4 then ([1, 3], [2]) else ([], [])
noncomputable def spec_ServerRight.R0 {R : Type} (nx0 : (Int → Int → Int → Int → Int → (List (Int × Int × Int × Int × Unit)) → (List (Int × Int × Int × Int × Unit)) → (List (Int × Int × Int × Unit)) → Option R)) (ex0 : (Bool → Option R)) (ex1 : (Unit → Option R)) (i : Int) (s : Int) (s7 : Int) (s8 : Int) (s9 : Int) (s10 : List (Int × Int × Int × Int × Unit)) (s11 : List (Int × Int × Int × Int × Unit)) (s12 : List (Int × Int × Int × Unit)) : Option R := cond (decide (i < (s12.length : Int))) (if 0 ≤ i ∧ i < (s12.length : Int) then if 0 ≤ i ∧ i < (s11.length : Int) then cond ((rd (0, 0, 0, ()) s12 i).1 != (rd (0, 0, 0, 0, ()) s11 i).1) (ex0 false) (if 0 ≤ i ∧ i < (s12.length : Int) then cond (decide ((rd (0, 0, 0, ()) s12 i).2.2.1 ≤ s8)) (ex0 false) (if 0 ≤ i ∧ i < (s12.length : Int) then cond (decide ((rd (0, 0, 0, ()) s12 i).2.2.1 > (w64 (s8 + s)))) (ex0 false) (nx0 (w64 (i + 1)) s s7 s8 s9 s10 s11 s12) else none) else none) else none else none) (ex1 ())
noncomputable def spec_ServerRight.A0  (s0 : Int) (s1 : Int) (s2 : Int) (s3 : Int) (s4 : List (Int × Int × Int × Int × Unit)) (s5 : List (Int × Int × Int × Int × Unit)) (s6 : List (Int × Int × Int × Unit)) (t2x : Bool) : Option (Bool × Unit) := some (t2x, ())
noncomputable def spec_ServerRight.A1  (s0 : Int) (s1 : Int) (s2 : Int) (s3 : Int) (s4 : List (Int × Int × Int × Int × Unit)) (s5 : List (Int × Int × Int × Int × Unit)) (s6 : List (Int × Int × Int × Unit)) (_u : Unit) : Option (Bool × Unit) := some (true, ())
noncomputable def spec_ServerRight.T (lo0 : (Int → Int → Int → Int → Int → (List (Int × Int × Int × Int × Unit)) → (List (Int × Int × Int × Int × Unit)) → (List (Int × Int × Int × Unit)) → Option (Bool × Unit))) (s0 : Int) (s1 : Int) (s2 : Int) (s3 : Int) (s4 : List (Int × Int × Int × Int × Unit)) (s5 : List (Int × Int × Int × Int × Unit)) (s6 : List (Int × Int × Int × Unit)) : Option (Bool × Unit) := (F_spec_l10Length (s0, ())).bind fun y1 => cond (!y1.1) (some (false, ())) (cond (decide (s1 < 0)) (some (false, ())) (cond (decide (s1 > s2)) (some (false, ())) (cond (decide (s2 > 999000)) (some (false, ())) ((F_spec_FarmRight (s3, s4, s5, ())).bind fun y2 => cond (!y2.1) (some (false, ())) ((F_spec_LeasesRight (s6, ())).bind fun y3 => cond (!y3.1) (some (false, ())) (cond ((s6.length : Int) != (s5.length : Int)) (some (false, ())) (lo0 0 s0 s1 s2 s3 s4 s5 s6)))))))
noncomputable def spec_ServerRight.st0 {R : Type} (k0 : Nat) : Env → List Ob → Kont R → Option R := fun env ob K => runCode Try.prog spec_ServerRight.tbl 93 0 spec_ServerRight.cfg k0 (codeAt [1, 1, 0, 1, 0, 0] spec_ServerRight.body) env ob K
noncomputable def spec_ServerRight.K0 {R : Type} (k0 : Nat) (K : Kont R) : Kont R := blockK 0 (seqK (fun env ob => runCode Try.prog spec_ServerRight.tbl 93 0 spec_ServerRight.cfg k0 (codeAt [1, 1, 1] spec_ServerRight.body) env ob (K)) (K))
noncomputable def spec_ServerRight.L0 {R : Type} (k0 k : Nat) (K : Kont R) (i : Int) (s : Int) (s7 : Int) (s8 : Int) (s9 : Int) (s10 : List (Int × Int × Int × Int × Unit)) (s11 : List (Int × Int × Int × Int × Unit)) (s12 : List (Int × Int × Int × Unit)) : Option R := iter 0 [1, 3] [2] (spec_ServerRight.st0 k0) k [(1, .ptr 0 0 0 0), (3, .int .i64 i)] [.box [.int .i64 s, .int .i64 s7, .int .i64 s8, .int .i64 s9, .sl ct0 s10, .sl ct0 s11, .sl ct1 s12]] K
theorem spec_ServerRight.s0 {R : Type} (k0 k : Nat) (K : Kont R) (i : Int) (s : Int) (s7 : Int) (s8 : Int) (s9 : Int) (s10 : List (Int × Int × Int × Int × Unit)) (s11 : List (Int × Int × Int × Int × Unit)) (s12 : List (Int × Int × Int × Unit)) : spec_ServerRight.L0 k0 (k + 1) K i s s7 s8 s9 s10 s11 s12 = spec_ServerRight.R0 (fun (i : Int) (s : Int) (s7 : Int) (s8 : Int) (s9 : Int) (s10 : List (Int × Int × Int × Int × Unit)) (s11 : List (Int × Int × Int × Int × Unit)) (s12 : List (Int × Int × Int × Unit)) => spec_ServerRight.L0 k0 k K i s s7 s8 s9 s10 s11 s12) (fun (t2x : Bool) => K .ret [(2, .bool t2x)] []) (fun (_ : Unit) => K (.exit 0) [(2, .undef)] []) i s s7 s8 s9 s10 s11 s12 := by kernel_rfl
theorem spec_ServerRight.a0 (k0 : Nat) (s0 : Int) (s1 : Int) (s2 : Int) (s3 : Int) (s4 : List (Int × Int × Int × Int × Unit)) (s5 : List (Int × Int × Int × Int × Unit)) (s6 : List (Int × Int × Int × Unit)) (t2x : Bool) : spec_ServerRight.K0 (R := (Bool × Unit)) k0 (finK Try.prog [.tmp 2] ins_spec_ServerRight outs_spec_ServerRight (s0, s1, s2, s3, s4, s5, s6, ())) .ret [(2, .bool t2x)] [] = spec_ServerRight.A0  s0 s1 s2 s3 s4 s5 s6 t2x := by kernel_rfl
theorem spec_ServerRight.a1 (k0 : Nat) (s0 : Int) (s1 : Int) (s2 : Int) (s3 : Int) (s4 : List (Int × Int × Int × Int × Unit)) (s5 : List (Int × Int × Int × Int × Unit)) (s6 : List (Int × Int × Int × Unit))  : spec_ServerRight.K0 (R := (Bool × Unit)) k0 (finK Try.prog [.tmp 2] ins_spec_ServerRight outs_spec_ServerRight (s0, s1, s2, s3, s4, s5, s6, ())) (.exit 0) [(2, .undef)] [] = spec_ServerRight.A1  s0 s1 s2 s3 s4 s5 s6 () := by kernel_rfl
theorem spec_ServerRight.top (k0 : Nat) (s0 : Int) (s1 : Int) (s2 : Int) (s3 : Int) (s4 : List (Int × Int × Int × Int × Unit)) (s5 : List (Int × Int × Int × Int × Unit)) (s6 : List (Int × Int × Int × Unit)) : runFn Try.prog spec_ServerRight.tbl spec_ServerRight.cfg k0 37 ins_spec_ServerRight outs_spec_ServerRight (s0, s1, s2, s3, s4, s5, s6, ()) = spec_ServerRight.T (fun (i : Int) (s : Int) (s7 : Int) (s8 : Int) (s9 : Int) (s10 : List (Int × Int × Int × Int × Unit)) (s11 : List (Int × Int × Int × Int × Unit)) (s12 : List (Int × Int × Int × Unit)) => spec_ServerRight.L0 (R := (Bool × Unit)) k0 k0 (spec_ServerRight.K0 (R := (Bool × Unit)) k0 ((finK Try.prog [.tmp 2] ins_spec_ServerRight outs_spec_ServerRight (s0, s1, s2, s3, s4, s5, s6, ())))) i s s7 s8 s9 s10 s11 s12) s0 s1 s2 s3 s4 s5 s6 := by kernel_rfl
noncomputable def spec_ServerRight.G0 {R : Type} (k0 : Nat) (hx0 : (Bool → Option R)) (hx1 : (Unit → Option R)) : Nat → Int → Int → Int → Int → Int → (List (Int × Int × Int × Int × Unit)) → (List (Int × Int × Int × Int × Unit)) → (List (Int × Int × Int × Unit)) → Option R
  | 0, _, _, _, _, _, _, _, _ => none
  | k + 1, i, s, s7, s8, s9, s10, s11, s12 => spec_ServerRight.R0 (fun (i : Int) (s : Int) (s7 : Int) (s8 : Int) (s9 : Int) (s10 : List (Int × Int × Int × Int × Unit)) (s11 : List (Int × Int × Int × Int × Unit)) (s12 : List (Int × Int × Int × Unit)) => spec_ServerRight.G0 k0 hx0 hx1 k i s s7 s8 s9 s10 s11 s12) (fun (t2x : Bool) => hx0 t2x) (fun (_ : Unit) => hx1 ()) i s s7 s8 s9 s10 s11 s12
theorem spec_ServerRight.g0 {R : Type} (k0 : Nat) (K : Kont R) : ∀ (k : Nat) (i : Int) (s : Int) (s7 : Int) (s8 : Int) (s9 : Int) (s10 : List (Int × Int × Int × Int × Unit)) (s11 : List (Int × Int × Int × Int × Unit)) (s12 : List (Int × Int × Int × Unit)), spec_ServerRight.L0 k0 k K i s s7 s8 s9 s10 s11 s12 = spec_ServerRight.G0 k0 (fun (t2x : Bool) => K .ret [(2, .bool t2x)] []) (fun (_ : Unit) => K (.exit 0) [(2, .undef)] []) k i s s7 s8 s9 s10 s11 s12 := by
  intro k
  induction k with
  | zero => intros; rfl
  | succ k ih => intros; rw [spec_ServerRight.s0, spec_ServerRight.G0]; (try simp only [ih]); try rfl
noncomputable def spec_ServerRight.FF (k0 : Nat) (s0 : Int) (s1 : Int) (s2 : Int) (s3 : Int) (s4 : List (Int × Int × Int × Int × Unit)) (s5 : List (Int × Int × Int × Int × Unit)) (s6 : List (Int × Int × Int × Unit)) : Option (Bool × Unit) := spec_ServerRight.T (fun (i : Int) (s : Int) (s7 : Int) (s8 : Int) (s9 : Int) (s10 : List (Int × Int × Int × Int × Unit)) (s11 : List (Int × Int × Int × Int × Unit)) (s12 : List (Int × Int × Int × Unit)) => spec_ServerRight.G0 k0 (fun (t2x : Bool) => spec_ServerRight.A0  s0 s1 s2 s3 s4 s5 s6 t2x) (fun (_ : Unit) => spec_ServerRight.A1  s0 s1 s2 s3 s4 s5 s6 ()) k0 i s s7 s8 s9 s10 s11 s12) s0 s1 s2 s3 s4 s5 s6
theorem spec_ServerRight.run (k0 : Nat) (s0 : Int) (s1 : Int) (s2 : Int) (s3 : Int) (s4 : List (Int × Int × Int × Int × Unit)) (s5 : List (Int × Int × Int × Int × Unit)) (s6 : List (Int × Int × Int × Unit)) : runFn Try.prog spec_ServerRight.tbl spec_ServerRight.cfg k0 37 ins_spec_ServerRight outs_spec_ServerRight (s0, s1, s2, s3, s4, s5, s6, ()) = spec_ServerRight.FF k0 s0 s1 s2 s3 s4 s5 s6 := by
  rw [spec_ServerRight.top, spec_ServerRight.FF]; (try simp only [spec_ServerRight.g0, spec_ServerRight.a0, spec_ServerRight.a1]); try rfl
noncomputable def F_spec_ServerRight : Int × Int × Int × Int × (List (Int × Int × Int × Int × Unit)) × (List (Int × Int × Int × Int × Unit)) × (List (Int × Int × Int × Unit)) × Unit → Option (Bool × Unit) := fun x => (fun (s0 : Int) (s1 : Int) (s2 : Int) (s3 : Int) (s4 : List (Int × Int × Int × Int × Unit)) (s5 : List (Int × Int × Int × Int × Unit)) (s6 : List (Int × Int × Int × Unit)) => spec_ServerRight.FF (300 + s4.length + s5.length + s6.length) s0 s1 s2 s3 s4 s5 s6) x.1 x.2.1 x.2.2.1 x.2.2.2.1 x.2.2.2.2.1 x.2.2.2.2.2.1 x.2.2.2.2.2.2.1
theorem spec_ServerRight.tblOK : ∀ g fs S, spec_ServerRight.tbl g fs = some S → SumOK Try.prog g S := by
  intro g fs S h
  unfold spec_ServerRight.tbl at h
  split at h
  · rename_i hc; obtain ⟨rfl, rfl⟩ := hc; have := Option.some.inj h; subst this; exact ok_spec_FarmRight
  split at h
  · rename_i hc; obtain ⟨rfl, rfl⟩ := hc; have := Option.some.inj h; subst this; exact ok_spec_l10Length
  split at h
  · rename_i hc; obtain ⟨rfl, rfl⟩ := hc; have := Option.some.inj h; subst this; exact ok_spec_LeasesRight
  cases h
theorem ok_spec_ServerRight : SumOK Try.prog 37 ⟨ins_spec_ServerRight, outs_spec_ServerRight, F_spec_ServerRight⟩ := runFn_ok (by kernel_rfl) spec_ServerRight.tblOK (by kernel_rfl) fun x y h => ⟨spec_ServerRight.cfg, _, (spec_ServerRight.run _ x.1 x.2.1 x.2.2.1 x.2.2.2.1 x.2.2.2.2.1 x.2.2.2.2.2.1 x.2.2.2.2.2.2.1).trans h⟩
abbrev ins_spec_ClientRight : List Par := [.v true ct5]
abbrev outs_spec_ClientRight : List (Bool × List CT) := [(false, [CT.bool])]
/-! ### loop.example/g00095/spec.ClientRight (function 38) -/
noncomputable def spec_ClientRight.tbl : Tbl := fun g fs => if g = 52 ∧ fs = [] then some ⟨ins_spec_l02Want, outs_spec_l02Want, F_spec_l02Want⟩ else if g = 53 ∧ fs = [] then some ⟨ins_spec_l02Id, outs_spec_l02Id, F_spec_l02Id⟩ else if g = 54 ∧ fs = [] then some ⟨ins_spec_l02Weight, outs_spec_l02Weight, F_spec_l02Weight⟩ else if g = 67 ∧ fs = [] then some ⟨ins_spec_l07Time, outs_spec_l07Time, F_spec_l07Time⟩ else none
noncomputable def spec_ClientRight.body : Code := ((Try.prog.funcs[38]?).bind (·.body)).getD .skip
def spec_ClientRight.cfg : Nat → List Nat × List Nat := fun k => ([], [])
noncomputable def spec_ClientRight.T  (c0 : Int) (c1 : Int) (c2 : Int) (c3 : Int) (c4 : Int) (c5 : Int) (c6 : Int) (c7 : Int) (c8 : Int) (c9 : Int) : Option (Bool × Unit) := (F_spec_l02Id (c0, ())).bind fun y1 => cond y1.1 (cond (c1 == 0) ((F_spec_l02Want (c2, ())).bind fun y2 => cond y2.1 ((F_spec_l02Weight (c3, ())).bind fun y3 => cond y3.1 ((F_spec_l02Want (c4, ())).bind fun y4 => cond y4.1 ((F_spec_l07Time (c5, ())).bind fun y5 => cond y5.1 ((F_spec_l07Time (c6, ())).bind fun y6 => cond y6.1 ((F_spec_l07Time (c7, ())).bind fun y7 => cond y7.1 ((F_spec_l07Time (c9, ())).bind fun y8 => cond y8.1 (cond (decide (c8 ≥ 1)) (some ((decide (c8 ≤ 64)), ())) (some (false, ()))) (some (false, ()))) (some (false, ()))) (some (false, ()))) (some (false, ()))) (some (false, ()))) (some (false, ()))) (some (false, ()))) ((F_spec_l02Id (c1, ())).bind fun y9 => cond y9.1 ((F_spec_l02Want (c2, ())).bind fun y10 => cond y10.1 ((F_spec_l02Weight (c3, ())).bind fun y11 => cond y11.1 ((F_spec_l02Want (c4, ())).bind fun y12 => cond y12.1 ((F_spec_l07Time (c5, ())).bind fun y13 => cond y13.1 ((F_spec_l07Time (c6, ())).bind fun y14 => cond y14.1 ((F_spec_l07Time (c7, ())).bind fun y15 => cond y15.1 ((F_spec_l07Time (c9, ())).bind fun y16 => cond y16.1 (cond (decide (c8 ≥ 1)) (some ((decide (c8 ≤ 64)), ())) (some (false, ()))) (some (false, ()))) (some (false, ()))) (some (false, ()))) (some (false, ()))) (some (false, ()))) (some (false, ()))) (some (false, ()))) (some (false, ())))) (some (false, ()))
theorem spec_ClientRight.top (k0 : Nat) (c0 : Int) (c1 : Int) (c2 : Int) (c3 : Int) (c4 : Int) (c5 : Int) (c6 : Int) (c7 : Int) (c8 : Int) (c9 : Int) : runFn Try.prog spec_ClientRight.tbl spec_ClientRight.cfg k0 38 ins_spec_ClientRight outs_spec_ClientRight (c0, c1, c2, c3, c4, c5, c6, c7, c8, c9, ()) = spec_ClientRight.T  c0 c1 c2 c3 c4 c5 c6 c7 c8 c9 := by kernel_rfl
noncomputable def F_spec_ClientRight : Int × Int × Int × Int × Int × Int × Int × Int × Int × Int × Unit → Option (Bool × Unit) := fun x => spec_ClientRight.T x.1 x.2.1 x.2.2.1 x.2.2.2.1 x.2.2.2.2.1 x.2.2.2.2.2.1 x.2.2.2.2.2.2.1 x.2.2.2.2.2.2.2.1 x.2.2.2.2.2.2.2.2.1 x.2.2.2.2.2.2.2.2.2.1
theorem spec_ClientRight.tblOK : ∀ g fs S, spec_ClientRight.tbl g fs = some S → SumOK Try.prog g S := by
  intro g fs S h
  unfold spec_ClientRight.tbl at h
  split at h
  · rename_i hc; obtain ⟨rfl, rfl⟩ := hc; have := Option.some.inj h; subst this; exact ok_spec_l02Want
  split at h
  · rename_i hc; obtain ⟨rfl, rfl⟩ := hc; have := Option.some.inj h; subst this; exact ok_spec_l02Id
  split at h
  · rename_i hc; obtain ⟨rfl, rfl⟩ := hc; have := Option.some.inj h; subst this; exact ok_spec_l02Weight
  split at h
  · rename_i hc; obtain ⟨rfl, rfl⟩ := hc; have := Option.some.inj h; subst this; exact ok_spec_l07Time
  cases h
theorem ok_spec_ClientRight : SumOK Try.prog 38 ⟨ins_spec_ClientRight, outs_spec_ClientRight, F_spec_ClientRight⟩ := runFn_ok (by kernel_rfl) spec_ClientRight.tblOK (by kernel_rfl) fun x y h => ⟨spec_ClientRight.cfg, 0, (spec_ClientRight.top 0 x.1 x.2.1 x.2.2.1 x.2.2.2.1 x.2.2.2.2.1 x.2.2.2.2.2.1 x.2.2.2.2.2.2.1 x.2.2.2.2.2.2.2.1 x.2.2.2.2.2.2.2.2.1 x.2.2.2.2.2.2.2.2.2.1).trans h⟩
abbrev ins_spec_RelayRight : List Par := [.v true ct2]
abbrev outs_spec_RelayRight : List (Bool × List CT) := [(false, [CT.bool])]
/-! ### loop.example/g00095/spec.RelayRight (function 13) -/
noncomputable def spec_RelayRight.tbl : Tbl := fun g fs => if g = 37 ∧ fs = [] then some ⟨ins_spec_ServerRight, outs_spec_ServerRight, F_spec_ServerRight⟩ else if g = 38 ∧ fs = [] then some ⟨ins_spec_ClientRight, outs_spec_ClientRight, F_spec_ClientRight⟩ else none
noncomputable def spec_RelayRight.body : Code := ((Try.prog.funcs[13]?).bind (·.body)).getD .skip
def spec_RelayRight.cfg : Nat → List Nat × List Nat := fun k => ([], [])
noncomputable def spec_RelayRight.T  (r0 : Int) (r1 : Int) (r2 : Int) (r3 : Int) (r4 : List (Int × Int × Int × Int × Unit)) (r5 : List (Int × Int × Int × Int × Unit)) (r6 : List (Int × Int × Int × Unit)) (r7 : Int) (r8 : Int) (r9 : Int) (r10 : Int) (r11 : Int) (r12 : Int) (r13 : Int) (r14 : Int) (r15 : Int) (r16 : Int) : Option (Bool × Unit) := (F_spec_ServerRight (r0, r1, r2, r3, r4, r5, r6, ())).bind fun y1 => cond y1.1 ((F_spec_ClientRight (r7, r8, r9, r10, r11, r12, r13, r14, r15, r16, ())).bind fun y2 => some (y2.1, ())) (some (false, ()))
theorem spec_RelayRight.top (k0 : Nat) (r0 : Int) (r1 : Int) (r2 : Int) (r3 : Int) (r4 : List (Int × Int × Int × Int × Unit)) (r5 : List (Int × Int × Int × Int × Unit)) (r6 : List (Int × Int × Int × Unit)) (r7 : Int) (r8 : Int) (r9 : Int) (r10 : Int) (r11 : Int) (r12 : Int) (r13 : Int) (r14 : Int) (r15 : Int) (r16 : Int) : runFn Try.prog spec_RelayRight.tbl spec_RelayRight.cfg k0 13 ins_spec_RelayRight outs_spec_RelayRight (r0, r1, r2, r3, r4, r5, r6, r7, r8, r9, r10, r11, r12, r13, r14, r15, r16, ()) = spec_RelayRight.T  r0 r1 r2 r3 r4 r5 r6 r7 r8 r9 r10 r11 r12 r13 r14 r15 r16 := by kernel_rfl
noncomputable def F_spec_RelayRight : Int × Int × Int × Int × (List (Int × Int × Int × Int × Unit)) × (List (Int × Int × Int × Int × Unit)) × (List (Int × Int × Int × Unit)) × Int × Int × Int × Int × Int × Int × Int × Int × Int × Int × Unit → Option (Bool × Unit) := fun x => spec_RelayRight.T x.1 x.2.1 x.2.2.1 x.2.2.2.1 x.2.2.2.2.1 x.2.2.2.2.2.1 x.2.2.2.2.2.2.1 x.2.2.2.2.2.2.2.1 x.2.2.2.2.2.2.2.2.1 x.2.2.2.2.2.2.2.2.2.1 x.2.2.2.2.2.2.2.2.2.2.1 x.2.2.2.2.2.2.2.2.2.2.2.1 x.2.2.2.2.2.2.2.2.2.2.2.2.1 x.2.2.2.2.2.2.2.2.2.2.2.2.2.1 x.2.2.2.2.2.2.2.2.2.2.2.2.2.2.1 x.2.2.2.2.2.2.2.2.2.2.2.2.2.2.2.1 x.2.2.2.2.2.2.2.2.2.2.2.2.2.2.2.2.1
theorem spec_RelayRight.tblOK : ∀ g fs S, spec_RelayRight.tbl g fs = some S → SumOK Try.prog g S := by
  intro g fs S h
  unfold spec_RelayRight.tbl at h
  split at h
  · rename_i hc; obtain ⟨rfl, rfl⟩ := hc; have := Option.some.inj h; subst this; exact ok_spec_ServerRight
  split at h
  · rename_i hc; obtain ⟨rfl, rfl⟩ := hc; have := Option.some.inj h; subst this; exact ok_spec_ClientRight
  cases h
theorem ok_spec_RelayRight : SumOK Try.prog 13 ⟨ins_spec_RelayRight, outs_spec_RelayRight, F_spec_RelayRight⟩ := runFn_ok (by kernel_rfl) spec_RelayRight.tblOK (by kernel_rfl) fun x y h => ⟨spec_RelayRight.cfg, 0, (spec_RelayRight.top 0 x.1 x.2.1 x.2.2.1 x.2.2.2.1 x.2.2.2.2.1 x.2.2.2.2.2.1 x.2.2.2.2.2.2.1 x.2.2.2.2.2.2.2.1 x.2.2.2.2.2.2.2.2.1 x.2.2.2.2.2.2.2.2.2.1 x.2.2.2.2.2.2.2.2.2.2.1 x.2.2.2.2.2.2.2.2.2.2.2.1 x.2.2.2.2.2.2.2.2.2.2.2.2.1 x.2.2.2.2.2.2.2.2.2.2.2.2.2.1 x.2.2.2.2.2.2.2.2.2.2.2.2.2.2.1 x.2.2.2.2.2.2.2.2.2.2.2.2.2.2.2.1 x.2.2.2.2.2.2.2.2.2.2.2.2.2.2.2.2.1).trans h⟩
abbrev ins_spec_ServerNew : List Par := [.v false [CT.int .i64], .v false [CT.int .i64]]
abbrev outs_spec_ServerNew : List (Bool × List CT) := [(true, ct3)]
/-! ### loop.example/g00095/spec.ServerNew (function 45) -/
noncomputable def spec_ServerNew.tbl : Tbl := fun g fs => if g = 52 ∧ fs = [] then some ⟨ins_spec_l02Want, outs_spec_l02Want, F_spec_l02Want⟩ else if g = 65 ∧ fs = [] then some ⟨ins_spec_l10Length, outs_spec_l10Length, F_spec_l10Length⟩ else none
noncomputable def spec_ServerNew.body : Code := ((Try.prog.funcs[45]?).bind (·.body)).getD .skip
def spec_ServerNew.cfg : Nat → List Nat × List Nat := fun k => ([], [])
noncomputable def spec_ServerNew.T  (length : Int) (cap : Int) : Option (Int × Int × Int × Int × (List (Int × Int × Int × Int × Unit)) × (List (Int × Int × Int × Int × Unit)) × (List (Int × Int × Int × Unit)) × Unit) := (F_spec_l10Length (length, ())).bind fun y1 => cond (!y1.1) (some (0, 0, 0, 0, [], [], [], ())) ((F_spec_l02Want (cap, ())).bind fun y2 => cond (!y2.1) (some (0, 0, 0, 0, [], [], [], ())) (some (length, 0, 0, cap, [], [], [], ())))
theorem spec_ServerNew.top (k0 : Nat) (length : Int) (cap : Int) : runFn Try.prog spec_ServerNew.tbl spec_ServerNew.cfg k0 45 ins_spec_ServerNew outs_spec_ServerNew (length, cap, ()) = spec_ServerNew.T  length cap := by kernel_rfl
noncomputable def F_spec_ServerNew : Int × Int × Unit → Option (Int × Int × Int × Int × (List (Int × Int × Int × Int × Unit)) × (List (Int × Int × Int × Int × Unit)) × (List (Int × Int × Int × Unit)) × Unit) := fun x => spec_ServerNew.T x.1 x.2.1
theorem spec_ServerNew.tblOK : ∀ g fs S, spec_ServerNew.tbl g fs = some S → SumOK Try.prog g S := by
  intro g fs S h
  unfold spec_ServerNew.tbl at h
  split at h
  · rename_i hc; obtain ⟨rfl, rfl⟩ := hc; have := Option.some.inj h; subst this; exact ok_spec_l02Want
  split at h
  · rename_i hc; obtain ⟨rfl, rfl⟩ := hc; have := Option.some.inj h; subst this; exact ok_spec_l10Length
  cases h
theorem ok_spec_ServerNew : SumOK Try.prog 45 ⟨ins_spec_ServerNew, outs_spec_ServerNew, F_spec_ServerNew⟩ := runFn_ok (by kernel_rfl) spec_ServerNew.tblOK (by kernel_rfl) fun x y h => ⟨spec_ServerNew.cfg, 0, (spec_ServerNew.top 0 x.1 x.2.1).trans h⟩
abbrev ins_spec_ClientNew : List Par := [.v false [CT.int .i64], .v false [CT.int .i64], .v false [CT.int .i64], .v false [CT.int .i64]]
abbrev outs_spec_ClientNew : List (Bool × List CT) := [(true, ct5)]
/-! ### loop.example/g00095/spec.ClientNew (function 46) -/
noncomputable def spec_ClientNew.tbl : Tbl := fun g fs => if g = 52 ∧ fs = [] then some ⟨ins_spec_l02Want, outs_spec_l02Want, F_spec_l02Want⟩ else if g = 53 ∧ fs = [] then some ⟨ins_spec_l02Id, outs_spec_l02Id, F_spec_l02Id⟩ else if g = 54 ∧ fs = [] then some ⟨ins_spec_l02Weight, outs_spec_l02Weight, F_spec_l02Weight⟩ else none
noncomputable def spec_ClientNew.body : Code := ((Try.prog.funcs[46]?).bind (·.body)).getD .skip
def spec_ClientNew.cfg : Nat → List Nat × List Nat := fun k => ([], [])
noncomputable def spec_ClientNew.T  (id : Int) (group : Int) (want : Int) (weight : Int) : Option (Int × Int × Int × Int × Int × Int × Int × Int × Int × Int × Unit) := (F_spec_l02Id (id, ())).bind fun y1 => cond (!y1.1) (some (0, 0, 0, 0, 0, 0, 0, 0, 0, 0, ())) (cond (group != 0) ((F_spec_l02Id (group, ())).bind fun y2 => cond (!y2.1) (some (0, 0, 0, 0, 0, 0, 0, 0, 0, 0, ())) ((F_spec_l02Want (want, ())).bind fun y3 => cond (!y3.1) (some (0, 0, 0, 0, 0, 0, 0, 0, 0, 0, ())) ((F_spec_l02Weight (weight, ())).bind fun y4 => cond (!y4.1) (some (0, 0, 0, 0, 0, 0, 0, 0, 0, 0, ())) (some (id, group, want, weight, 0, 0, 0, 0, 1, 0, ()))))) ((F_spec_l02Want (want, ())).bind fun y5 => cond (!y5.1) (some (0, 0, 0, 0, 0, 0, 0, 0, 0, 0, ())) ((F_spec_l02Weight (weight, ())).bind fun y6 => cond (!y6.1) (some (0, 0, 0, 0, 0, 0, 0, 0, 0, 0, ())) (some (id, group, want, weight, 0, 0, 0, 0, 1, 0, ())))))
theorem spec_ClientNew.top (k0 : Nat) (id : Int) (group : Int) (want : Int) (weight : Int) : runFn Try.prog spec_ClientNew.tbl spec_ClientNew.cfg k0 46 ins_spec_ClientNew outs_spec_ClientNew (id, group, want, weight, ()) = spec_ClientNew.T  id group want weight := by kernel_rfl
noncomputable def F_spec_ClientNew : Int × Int × Int × Int × Unit → Option (Int × Int × Int × Int × Int × Int × Int × Int × Int × Int × Unit) := fun x => spec_ClientNew.T x.1 x.2.1 x.2.2.1 x.2.2.2.1
theorem spec_ClientNew.tblOK : ∀ g fs S, spec_ClientNew.tbl g fs = some S → SumOK Try.prog g S := by
  intro g fs S h
  unfold spec_ClientNew.tbl at h
  split at h
  · rename_i hc; obtain ⟨rfl, rfl⟩ := hc; have := Option.some.inj h; subst this; exact ok_spec_l02Want
  split at h
  · rename_i hc; obtain ⟨rfl, rfl⟩ := hc; have := Option.some.inj h; subst this; exact ok_spec_l02Id
  split at h
  · rename_i hc; obtain ⟨rfl, rfl⟩ := hc; have := Option.some.inj h; subst this; exact ok_spec_l02Weight
  cases h
theorem ok_spec_ClientNew : SumOK Try.prog 46 ⟨ins_spec_ClientNew, outs_spec_ClientNew, F_spec_ClientNew⟩ := runFn_ok (by kernel_rfl) spec_ClientNew.tblOK (by kernel_rfl) fun x y h => ⟨spec_ClientNew.cfg, 0, (spec_ClientNew.top 0 x.1 x.2.1 x.2.2.1 x.2.2.2.1).trans h⟩
abbrev ins_spec_RelayNew : List Par := [.v false [CT.int .i64], .v false [CT.int .i64], .v false [CT.int .i64]]
abbrev outs_spec_RelayNew : List (Bool × List CT) := [(true, ct2)]
/-! ### loop.example/g00095/spec.RelayNew (function 17) -/
noncomputable def spec_RelayNew.tbl : Tbl := fun g fs => if g = 13 ∧ fs = [] then some ⟨ins_spec_RelayRight, outs_spec_RelayRight, F_spec_RelayRight⟩ else if g = 45 ∧ fs = [] then some ⟨ins_spec_ServerNew, outs_spec_ServerNew, F_spec_ServerNew⟩ else if g = 46 ∧ fs = [] then some ⟨ins_spec_ClientNew, outs_spec_ClientNew, F_spec_ClientNew⟩ else none
noncomputable def spec_RelayNew.body : Code := ((Try.prog.funcs[17]?).bind (·.body)).getD .skip
def spec_RelayNew.cfg : Nat → List Nat × List Nat := fun k => ([], [])
noncomputable def spec_RelayNew.T  (id : Int) (weight : Int) (length : Int) : Option (Int × Int × Int × Int × (List (Int × Int × Int × Int × Unit)) × (List (Int × Int × Int × Int × Unit)) × (List (Int × Int × Int × Unit)) × Int × Int × Int × Int × Int × Int × Int × Int × Int × Int × Unit) := (F_spec_ServerNew (length, 0, ())).bind fun y1 => (F_spec_ClientNew (id, 0, 0, weight, ())).bind fun y2 => (F_spec_RelayRight (y1.1, y1.2.1, y1.2.2.1, y1.2.2.2.1, y1.2.2.2.2.1, y1.2.2.2.2.2.1, y1.2.2.2.2.2.2.1, y2.1, y2.2.1, y2.2.2.1, y2.2.2.2.1, y2.2.2.2.2.1, y2.2.2.2.2.2.1, y2.2.2.2.2.2.2.1, y2.2.2.2.2.2.2.2.1, y2.2.2.2.2.2.2.2.2.1, y2.2.2.2.2.2.2.2.2.2.1, ())).bind fun y3 => cond (!y3.1) (some (0, 0, 0, 0, [], [], [], 0, 0, 0, 0, 0, 0, 0, 0, 0, 0, ())) (some (y1.1, y1.2.1, y1.2.2.1, y1.2.2.2.1, y1.2.2.2.2.1, y1.2.2.2.2.2.1, y1.2.2.2.2.2.2.1, y2.1, y2.2.1, y2.2.2.1, y2.2.2.2.1, y2.2.2.2.2.1, y2.2.2.2.2.2.1, y2.2.2.2.2.2.2.1, y2.2.2.2.2.2.2.2.1, y2.2.2.2.2.2.2.2.2.1, y2.2.2.2.2.2.2.2.2.2.1, ()))
theorem spec_RelayNew.top (k0 : Nat) (id : Int) (weight : Int) (length : Int) : runFn Try.prog spec_RelayNew.tbl spec_RelayNew.cfg k0 17 ins_spec_RelayNew outs_spec_RelayNew (id, weight, length, ()) = spec_RelayNew.T  id weight length := by kernel_rfl
noncomputable def F_spec_RelayNew : Int × Int × Int × Unit → Option (Int × Int × Int × Int × (List (Int × Int × Int × Int × Unit)) × (List (Int × Int × Int × Int × Unit)) × (List (Int × Int × Int × Unit)) × Int × Int × Int × Int × Int × Int × Int × Int × Int × Int × Unit) := fun x => spec_RelayNew.T x.1 x.2.1 x.2.2.1
theorem spec_RelayNew.tblOK : ∀ g fs S, spec_RelayNew.tbl g fs = some S → SumOK Try.prog g S := by
  intro g fs S h
  unfold spec_RelayNew.tbl at h
  split at h
  · rename_i hc; obtain ⟨rfl, rfl⟩ := hc; have := Option.some.inj h; subst this; exact ok_spec_RelayRight
  split at h
  · rename_i hc; obtain ⟨rfl, rfl⟩ := hc; have := Option.some.inj h; subst this; exact ok_spec_ServerNew
  split at h
  · rename_i hc; obtain ⟨rfl, rfl⟩ := hc; have := Option.some.inj h; subst this; exact ok_spec_ClientNew
  cases h
theorem ok_spec_RelayNew : SumOK Try.prog 17 ⟨ins_spec_RelayNew, outs_spec_RelayNew, F_spec_RelayNew⟩ := runFn_ok (by kernel_rfl) spec_RelayNew.tblOK (by kernel_rfl) fun x y h => ⟨spec_RelayNew.cfg, 0, (spec_RelayNew.top 0 x.1 x.2.1 x.2.2.1).trans h⟩
abbrev ins_cmp_isNaN_int64 : List Par := [.v false [CT.int .i64]]
abbrev outs_cmp_isNaN_int64 : List (Bool × List CT) := [(false, [CT.bool])]
/-! ### cmp.isNaN[int64] (function 89) -/
noncomputable def cmp_isNaN_int64.tbl : Tbl := fun g fs => none
noncomputable def cmp_isNaN_int64.body : Code := ((Try.prog.funcs[89]?).bind (·.body)).getD .skip
def cmp_isNaN_int64.cfg : Nat → List Nat × List Nat := fun k => ([], [])
noncomputable def cmp_isNaN_int64.T  (x : Int) : Option (Bool × Unit) := some ((x != x), ())
theorem cmp_isNaN_int64.top (k0 : Nat) (x : Int) : runFn Try.prog cmp_isNaN_int64.tbl cmp_isNaN_int64.cfg k0 89 ins_cmp_isNaN_int64 outs_cmp_isNaN_int64 (x, ()) = cmp_isNaN_int64.T  x := by kernel_rfl
noncomputable def F_cmp_isNaN_int64 : Int × Unit → Option (Bool × Unit) := fun x => cmp_isNaN_int64.T x.1
theorem cmp_isNaN_int64.tblOK : ∀ g fs S, cmp_isNaN_int64.tbl g fs = some S → SumOK Try.prog g S := by
  intro g fs S h
  unfold cmp_isNaN_int64.tbl at h
  cases h
theorem ok_cmp_isNaN_int64 : SumOK Try.prog 89 ⟨ins_cmp_isNaN_int64, outs_cmp_isNaN_int64, F_cmp_isNaN_int64⟩ := runFn_ok (by kernel_rfl) cmp_isNaN_int64.tblOK (by kernel_rfl) fun x y h => ⟨cmp_isNaN_int64.cfg, 0, (cmp_isNaN_int64.top 0 x.1).trans h⟩
abbrev ins_cmp_Compare_int64 : List Par := [.v false [CT.int .i64], .v false [CT.int .i64]]
abbrev outs_cmp_Compare_int64 : List (Bool × List CT) := [(false, [CT.int .i64])]
/-! ### cmp.Compare[int64] (function 80) -/
noncomputable def cmp_Compare_int64.tbl : Tbl := fun g fs => if g = 89 ∧ fs = [] then some ⟨ins_cmp_isNaN_int64, outs_cmp_isNaN_int64, F_cmp_isNaN_int64⟩ else none
noncomputable def cmp_Compare_int64.body : Code := ((Try.prog.funcs[80]?).bind (·.body)).getD .skip
def cmp_Compare_int64.cfg : Nat → List Nat × List Nat := fun k => ([], [])
noncomputable def cmp_Compare_int64.T  (x : Int) (y : Int) : Option (Int × Unit) := (F_cmp_isNaN_int64 (x, ())).bind fun y1 => (F_cmp_isNaN_int64 (y, ())).bind fun y2 => cond y1.1 (cond y2.1 (some (0, ())) (some ((-1), ()))) (cond y2.1 (some (1, ())) (cond (decide (x < y)) (some ((-1), ())) (cond (decide (x > y)) (some (1, ())) (some (0, ())))))
theorem cmp_Compare_int64.top (k0 : Nat) (x : Int) (y : Int) : runFn Try.prog cmp_Compare_int64.tbl cmp_Compare_int64.cfg k0 80 ins_cmp_Compare_int64 outs_cmp_Compare_int64 (x, y, ()) = cmp_Compare_int64.T  x y := by kernel_rfl
noncomputable def F_cmp_Compare_int64 : Int × Int × Unit → Option (Int × Unit) := fun x => cmp_Compare_int64.T x.1 x.2.1
theorem cmp_Compare_int64.tblOK : ∀ g fs S, cmp_Compare_int64.tbl g fs = some S → SumOK Try.prog g S := by
  intro g fs S h
  unfold cmp_Compare_int64.tbl at h
  split at h
  · rename_i hc; obtain ⟨rfl, rfl⟩ := hc; have := Option.some.inj h; subst this; exact ok_cmp_isNaN_int64
  cases h
theorem ok_cmp_Compare_int64 : SumOK Try.prog 80 ⟨ins_cmp_Compare_int64, outs_cmp_Compare_int64, F_cmp_Compare_int64⟩ := runFn_ok (by kernel_rfl) cmp_Compare_int64.tblOK (by kernel_rfl) fun x y h => ⟨cmp_Compare_int64.cfg, 0, (cmp_Compare_int64.top 0 x.1 x.2.1).trans h⟩
abbrev ins_impl_Farm_group_1 : List Par := [.v true ct0, .v false [CT.int .i64]]
abbrev outs_impl_Farm_group_1 : List (Bool × List CT) := [(false, [CT.int .i64])]
/-! ### (loop.example/g00095/impl.Farm).group$1 (function 79) -/
noncomputable def impl_Farm_group_1.tbl : Tbl := fun g fs => if g = 80 ∧ fs = [] then some ⟨ins_cmp_Compare_int64, outs_cmp_Compare_int64, F_cmp_Compare_int64⟩ else none
noncomputable def impl_Farm_group_1.body : Code := ((Try.prog.funcs[79]?).bind (·.body)).getD .skip
def impl_Farm_group_1.cfg : Nat → List Nat × List Nat := fun k => ([], [])
noncomputable def impl_Farm_group_1.T  (g0 : Int) (g1 : Int) (g2 : Int) (g3 : Int) (id : Int) : Option (Int × Unit) := (F_cmp_Compare_int64 (g0, id, ())).bind fun y1 => some (y1.1, ())
theorem impl_Farm_group_1.top (k0 : Nat) (g0 : Int) (g1 : Int) (g2 : Int) (g3 : Int) (id : Int) : runFn Try.prog impl_Farm_group_1.tbl impl_Farm_group_1.cfg k0 79 ins_impl_Farm_group_1 outs_impl_Farm_group_1 (g0, g1, g2, g3, id, ()) = impl_Farm_group_1.T  g0 g1 g2 g3 id := by kernel_rfl
noncomputable def F_impl_Farm_group_1 : Int × Int × Int × Int × Int × Unit → Option (Int × Unit) := fun x => impl_Farm_group_1.T x.1 x.2.1 x.2.2.1 x.2.2.2.1 x.2.2.2.2.1
theorem impl_Farm_group_1.tblOK : ∀ g fs S, impl_Farm_group_1.tbl g fs = some S → SumOK Try.prog g S := by
  intro g fs S h
  unfold impl_Farm_group_1.tbl at h
  split at h
  · rename_i hc; obtain ⟨rfl, rfl⟩ := hc; have := Option.some.inj h; subst this; exact ok_cmp_Compare_int64
  cases h
theorem ok_impl_Farm_group_1 : SumOK Try.prog 79 ⟨ins_impl_Farm_group_1, outs_impl_Farm_group_1, F_impl_Farm_group_1⟩ := runFn_ok (by kernel_rfl) impl_Farm_group_1.tblOK (by kernel_rfl) fun x y h => ⟨impl_Farm_group_1.cfg, 0, (impl_Farm_group_1.top 0 x.1 x.2.1 x.2.2.1 x.2.2.2.1 x.2.2.2.2.1).trans h⟩
abbrev ins_slices_BinarySearchFunc_impl_Group_impl_Group_int64_at_impl_Farm_group_1 : List Par := [.v false [CT.sl ct0], .v false [CT.int .i64], .cl 79 []]
abbrev outs_slices_BinarySearchFunc_impl_Group_impl_Group_int64_at_impl_Farm_group_1 : List (Bool × List CT) := [(false, [CT.int .i64]), (false, [CT.bool])]
/-! ### slices.BinarySearchFunc[[]loop.example/g00095/impl.Group,loop.example/g00095/impl.Group,int64] (function 78) -/
noncomputable def slices_BinarySearchFunc_impl_Group_impl_Group_int64_at_impl_Farm_group_1.tbl : Tbl := fun g fs => if g = 79 ∧ fs = [] then some ⟨ins_impl_Farm_group_1, outs_impl_Farm_group_1, F_impl_Farm_group_1⟩ else none
noncomputable def slices_BinarySearchFunc_impl_Group_impl_Group_int64_at_impl_Farm_group_1.body : Code := ((Try.prog.funcs[78]?).bind (·.body)).getD .skip
def slices_BinarySearchFunc_impl_Group_impl_Group_int64_at_impl_Farm_group_1.cfg : Nat → List Nat × List Nat := fun k => if k = 3 then ([0, 1, 2, 8, 9, 10], [0, 1, 2, 8, 9]) else ([], [])
noncomputable def slices_BinarySearchFunc_impl_Group_impl_Group_int64_at_impl_Farm_group_1.R0 {R : Type} (nx0 : ((List (Int × Int × Int × Int × Unit)) → Int → Int → Int → Int → Option R)) (ex0 : ((List (Int × Int × Int × Int × Unit)) → Int → Int → Int → Option R)) (x2 : List (Int × Int × Int × Int × Unit)) (target2 : Int) (n : Int) (i : Int) (j : Int) : Option R := cond (decide (i < j)) (if 0 ≤ (w64 ((Int.fdiv (IntKind.u64.wrap ((w64 (i + j)))) (2 ^ 1)))) ∧ (w64 ((Int.fdiv (IntKind.u64.wrap ((w64 (i + j)))) (2 ^ 1)))) < (x2.length : Int) then (F_impl_Farm_group_1 ((rd (0, 0, 0, 0, ()) x2 (w64 ((Int.fdiv (IntKind.u64.wrap ((w64 (i + j)))) (2 ^ 1))))).1, (rd (0, 0, 0, 0, ()) x2 (w64 ((Int.fdiv (IntKind.u64.wrap ((w64 (i + j)))) (2 ^ 1))))).2.1, (rd (0, 0, 0, 0, ()) x2 (w64 ((Int.fdiv (IntKind.u64.wrap ((w64 (i + j)))) (2 ^ 1))))).2.2.1, (rd (0, 0, 0, 0, ()) x2 (w64 ((Int.fdiv (IntKind.u64.wrap ((w64 (i + j)))) (2 ^ 1))))).2.2.2.1, target2, ())).bind fun y1 => cond (decide (y1.1 < 0)) (nx0 x2 target2 n (w64 ((w64 ((Int.fdiv (IntKind.u64.wrap ((w64 (i + j)))) (2 ^ 1)))) + 1)) j) (nx0 x2 target2 n i (w64 ((Int.fdiv (IntKind.u64.wrap ((w64 (i + j)))) (2 ^ 1))))) else none) (ex0 x2 target2 n i)
noncomputable def slices_BinarySearchFunc_impl_Group_impl_Group_int64_at_impl_Farm_group_1.A0  (x : List (Int × Int × Int × Int × Unit)) (target : Int) (x2 : List (Int × Int × Int × Int × Unit)) (target2 : Int) (n : Int) (i : Int) : Option (Int × Bool × Unit) := cond (decide (i < n)) (if 0 ≤ i ∧ i < (x2.length : Int) then (F_impl_Farm_group_1 ((rd (0, 0, 0, 0, ()) x2 i).1, (rd (0, 0, 0, 0, ()) x2 i).2.1, (rd (0, 0, 0, 0, ()) x2 i).2.2.1, (rd (0, 0, 0, 0, ()) x2 i).2.2.2.1, target2, ())).bind fun y1 => some (i, (y1.1 == 0), ()) else none) (some (i, false, ()))
noncomputable def slices_BinarySearchFunc_impl_Group_impl_Group_int64_at_impl_Farm_group_1.T (lo0 : ((List (Int × Int × Int × Int × Unit)) → Int → Int → Int → Int → Option (Int × Bool × Unit))) (x : List (Int × Int × Int × Int × Unit)) (target : Int) : Option (Int × Bool × Unit) := lo0 x target (x.length : Int) 0 (x.length : Int)
noncomputable def slices_BinarySearchFunc_impl_Group_impl_Group_int64_at_impl_Farm_group_1.st0 {R : Type} (k0 : Nat) : Env → List Ob → Kont R → Option R := fun env ob K => runCode Try.prog slices_BinarySearchFunc_impl_Group_impl_Group_int64_at_impl_Farm_group_1.tbl 49 0 slices_BinarySearchFunc_impl_Group_impl_Group_int64_at_impl_Farm_group_1.cfg k0 (codeAt [1, 1, 1, 0, 0, 0] slices_BinarySearchFunc_impl_Group_impl_Group_int64_at_impl_Farm_group_1.body) env ob K
noncomputable def slices_BinarySearchFunc_impl_Group_impl_Group_int64_at_impl_Farm_group_1.K0 {R : Type} (k0 : Nat) (K : Kont R) : Kont R := blockK 0 (seqK (fun env ob => runCode Try.prog slices_BinarySearchFunc_impl_Group_impl_Group_int64_at_impl_Farm_group_1.tbl 49 0 slices_BinarySearchFunc_impl_Group_impl_Group_int64_at_impl_Farm_group_1.cfg k0 (codeAt [1, 1, 1, 1] slices_BinarySearchFunc_impl_Group_impl_Group_int64_at_impl_Farm_group_1.body) env ob (K)) (K))
noncomputable def slices_BinarySearchFunc_impl_Group_impl_Group_int64_at_impl_Farm_group_1.L0 {R : Type} (k0 k : Nat) (K : Kont R) (x2 : List (Int × Int × Int × Int × Unit)) (target2 : Int) (n : Int) (i : Int) (j : Int) : Option R := iter 0 [0, 1, 2, 8, 9, 10] [0, 1, 2, 8, 9] (slices_BinarySearchFunc_impl_Group_impl_Group_int64_at_impl_Farm_group_1.st0 k0) k [(0, .sl ct0 x2), (1, .int .i64 target2), (2, .fn 79 []), (8, .int .i64 n), (9, .int .i64 i), (10, .int .i64 j)] [] K
theorem slices_BinarySearchFunc_impl_Group_impl_Group_int64_at_impl_Farm_group_1.s0 {R : Type} (k0 k : Nat) (K : Kont R) (x2 : List (Int × Int × Int × Int × Unit)) (target2 : Int) (n : Int) (i : Int) (j : Int) : slices_BinarySearchFunc_impl_Group_impl_Group_int64_at_impl_Farm_group_1.L0 k0 (k + 1) K x2 target2 n i j = slices_BinarySearchFunc_impl_Group_impl_Group_int64_at_impl_Farm_group_1.R0 (fun (x2 : List (Int × Int × Int × Int × Unit)) (target2 : Int) (n : Int) (i : Int) (j : Int) => slices_BinarySearchFunc_impl_Group_impl_Group_int64_at_impl_Farm_group_1.L0 k0 k K x2 target2 n i j) (fun (x2 : List (Int × Int × Int × Int × Unit)) (target2 : Int) (n : Int) (i : Int) => K (.exit 0) [(0, .sl ct0 x2), (1, .int .i64 target2), (2, .fn 79 []), (8, .int .i64 n), (9, .int .i64 i)] []) x2 target2 n i j := by kernel_rfl
theorem slices_BinarySearchFunc_impl_Group_impl_Group_int64_at_impl_Farm_group_1.a0 (k0 : Nat) (x : List (Int × Int × Int × Int × Unit)) (target : Int) (x2 : List (Int × Int × Int × Int × Unit)) (target2 : Int) (n : Int) (i : Int) : slices_BinarySearchFunc_impl_Group_impl_Group_int64_at_impl_Farm_group_1.K0 (R := (Int × Bool × Unit)) k0 (finK Try.prog [.tmp 6, .tmp 7] ins_slices_BinarySearchFunc_impl_Group_impl_Group_int64_at_impl_Farm_group_1 outs_slices_BinarySearchFunc_impl_Group_impl_Group_int64_at_impl_Farm_group_1 (x, target, ())) (.exit 0) [(0, .sl ct0 x2), (1, .int .i64 target2), (2, .fn 79 []), (8, .int .i64 n), (9, .int .i64 i)] [] = slices_BinarySearchFunc_impl_Group_impl_Group_int64_at_impl_Farm_group_1.A0  x target x2 target2 n i := by kernel_rfl
theorem slices_BinarySearchFunc_impl_Group_impl_Group_int64_at_impl_Farm_group_1.top (k0 : Nat) (x : List (Int × Int × Int × Int × Unit)) (target : Int) : runFn Try.prog slices_BinarySearchFunc_impl_Group_impl_Group_int64_at_impl_Farm_group_1.tbl slices_BinarySearchFunc_impl_Group_impl_Group_int64_at_impl_Farm_group_1.cfg k0 78 ins_slices_BinarySearchFunc_impl_Group_impl_Group_int64_at_impl_Farm_group_1 outs_slices_BinarySearchFunc_impl_Group_impl_Group_int64_at_impl_Farm_group_1 (x, target, ()) = slices_BinarySearchFunc_impl_Group_impl_Group_int64_at_impl_Farm_group_1.T (fun (x2 : List (Int × Int × Int × Int × Unit)) (target2 : Int) (n : Int) (i : Int) (j : Int) => slices_BinarySearchFunc_impl_Group_impl_Group_int64_at_impl_Farm_group_1.L0 (R := (Int × Bool × Unit)) k0 k0 (slices_BinarySearchFunc_impl_Group_impl_Group_int64_at_impl_Farm_group_1.K0 (R := (Int × Bool × Unit)) k0 ((finK Try.prog [.tmp 6, .tmp 7] ins_slices_BinarySearchFunc_impl_Group_impl_Group_int64_at_impl_Farm_group_1 outs_slices_BinarySearchFunc_impl_Group_impl_Group_int64_at_impl_Farm_group_1 (x, target, ())))) x2 target2 n i j) x target := by kernel_rfl
noncomputable def slices_BinarySearchFunc_impl_Group_impl_Group_int64_at_impl_Farm_group_1.G0 {R : Type} (k0 : Nat) (hx0 : ((List (Int × Int × Int × Int × Unit)) → Int → Int → Int → Option R)) : Nat → (List (Int × Int × Int × Int × Unit)) → Int → Int → Int → Int → Option R
  | 0, _, _, _, _, _ => none
  | k + 1, x2, target2, n, i, j => slices_BinarySearchFunc_impl_Group_impl_Group_int64_at_impl_Farm_group_1.R0 (fun (x2 : List (Int × Int × Int × Int × Unit)) (target2 : Int) (n : Int) (i : Int) (j : Int) => slices_BinarySearchFunc_impl_Group_impl_Group_int64_at_impl_Farm_group_1.G0 k0 hx0 k x2 target2 n i j) (fun (x2 : List (Int × Int × Int × Int × Unit)) (target2 : Int) (n : Int) (i : Int) => hx0 x2 target2 n i) x2 target2 n i j
theorem slices_BinarySearchFunc_impl_Group_impl_Group_int64_at_impl_Farm_group_1.g0 {R : Type} (k0 : Nat) (K : Kont R) : ∀ (k : Nat) (x2 : List (Int × Int × Int × Int × Unit)) (target2 : Int) (n : Int) (i : Int) (j : Int), slices_BinarySearchFunc_impl_Group_impl_Group_int64_at_impl_Farm_group_1.L0 k0 k K x2 target2 n i j = slices_BinarySearchFunc_impl_Group_impl_Group_int64_at_impl_Farm_group_1.G0 k0 (fun (x2 : List (Int × Int × Int × Int × Unit)) (target2 : Int) (n : Int) (i : Int) => K (.exit 0) [(0, .sl ct0 x2), (1, .int .i64 target2), (2, .fn 79 []), (8, .int .i64 n), (9, .int .i64 i)] []) k x2 target2 n i j := by
  intro k
  induction k with
  | zero => intros; rfl
  | succ k ih => intros; rw [slices_BinarySearchFunc_impl_Group_impl_Group_int64_at_impl_Farm_group_1.s0, slices_BinarySearchFunc_impl_Group_impl_Group_int64_at_impl_Farm_group_1.G0]; (try simp only [ih]); try rfl
noncomputable def slices_BinarySearchFunc_impl_Group_impl_Group_int64_at_impl_Farm_group_1.FF (k0 : Nat) (x : List (Int × Int × Int × Int × Unit)) (target : Int) : Option (Int × Bool × Unit) := slices_BinarySearchFunc_impl_Group_impl_Group_int64_at_impl_Farm_group_1.T (fun (x2 : List (Int × Int × Int × Int × Unit)) (target2 : Int) (n : Int) (i : Int) (j : Int) => slices_BinarySearchFunc_impl_Group_impl_Group_int64_at_impl_Farm_group_1.G0 k0 (fun (x2 : List (Int × Int × Int × Int × Unit)) (target2 : Int) (n : Int) (i : Int) => slices_BinarySearchFunc_impl_Group_impl_Group_int64_at_impl_Farm_group_1.A0  x target x2 target2 n i) k0 x2 target2 n i j) x target
theorem slices_BinarySearchFunc_impl_Group_impl_Group_int64_at_impl_Farm_group_1.run (k0 : Nat) (x : List (Int × Int × Int × Int × Unit)) (target : Int) : runFn Try.prog slices_BinarySearchFunc_impl_Group_impl_Group_int64_at_impl_Farm_group_1.tbl slices_BinarySearchFunc_impl_Group_impl_Group_int64_at_impl_Farm_group_1.cfg k0 78 ins_slices_BinarySearchFunc_impl_Group_impl_Group_int64_at_impl_Farm_group_1 outs_slices_BinarySearchFunc_impl_Group_impl_Group_int64_at_impl_Farm_group_1 (x, target, ()) = slices_BinarySearchFunc_impl_Group_impl_Group_int64_at_impl_Farm_group_1.FF k0 x target := by
  rw [slices_BinarySearchFunc_impl_Group_impl_Group_int64_at_impl_Farm_group_1.top, slices_BinarySearchFunc_impl_Group_impl_Group_int64_at_impl_Farm_group_1.FF]; (try simp only [slices_BinarySearchFunc_impl_Group_impl_Group_int64_at_impl_Farm_group_1.g0, slices_BinarySearchFunc_impl_Group_impl_Group_int64_at_impl_Farm_group_1.a0]); try rfl
noncomputable def F_slices_BinarySearchFunc_impl_Group_impl_Group_int64_at_impl_Farm_group_1 : (List (Int × Int × Int × Int × Unit)) × Int × Unit → Option (Int × Bool × Unit) := fun x => (fun (x : List (Int × Int × Int × Int × Unit)) (target : Int) => slices_BinarySearchFunc_impl_Group_impl_Group_int64_at_impl_Farm_group_1.FF (300 + x.length) x target) x.1 x.2.1
theorem slices_BinarySearchFunc_impl_Group_impl_Group_int64_at_impl_Farm_group_1.tblOK : ∀ g fs S, slices_BinarySearchFunc_impl_Group_impl_Group_int64_at_impl_Farm_group_1.tbl g fs = some S → SumOK Try.prog g S := by
  intro g fs S h
  unfold slices_BinarySearchFunc_impl_Group_impl_Group_int64_at_impl_Farm_group_1.tbl at h
  split at h
  · rename_i hc; obtain ⟨rfl, rfl⟩ := hc; have := Option.some.inj h; subst this; exact ok_impl_Farm_group_1
  cases h
theorem ok_slices_BinarySearchFunc_impl_Group_impl_Group_int64_at_impl_Farm_group_1 : SumOK Try.prog 78 ⟨ins_slices_BinarySearchFunc_impl_Group_impl_Group_int64_at_impl_Farm_group_1, outs_slices_BinarySearchFunc_impl_Group_impl_Group_int64_at_impl_Farm_group_1, F_slices_BinarySearchFunc_impl_Group_impl_Group_int64_at_impl_Farm_group_1⟩ := runFn_ok (by kernel_rfl) slices_BinarySearchFunc_impl_Group_impl_Group_int64_at_impl_Farm_group_1.tblOK (by kernel_rfl) fun x y h => ⟨slices_BinarySearchFunc_impl_Group_impl_Group_int64_at_impl_Farm_group_1.cfg, _, (slices_BinarySearchFunc_impl_Group_impl_Group_int64_at_impl_Farm_group_1.run _ x.1 x.2.1).trans h⟩
abbrev ins_impl_Farm_group : List Par := [.v true ct4, .v false [CT.int .i64]]
abbrev outs_impl_Farm_group : List (Bool × List CT) := [(false, [CT.int .i64]), (false, [CT.bool])]
/-! ### (loop.example/g00095/impl.Farm).group (function 60) -/
noncomputable def impl_Farm_group.tbl : Tbl := fun g fs => if g = 78 ∧ fs = [79] then some ⟨ins_slices_BinarySearchFunc_impl_Group_impl_Group_int64_at_impl_Farm_group_1, outs_slices_BinarySearchFunc_impl_Group_impl_Group_int64_at_impl_Farm_group_1, F_slices_BinarySearchFunc_impl_Group_impl_Group_int64_at_impl_Farm_group_1⟩ else none
noncomputable def impl_Farm_group.body : Code := ((Try.prog.funcs[60]?).bind (·.body)).getD .skip
def impl_Farm_group.cfg : Nat → List Nat × List Nat := fun k => ([], [])
noncomputable def impl_Farm_group.T  (f0 : Int) (f1 : List (Int × Int × Int × Int × Unit)) (f2 : List (Int × Int × Int × Int × Unit)) (id : Int) : Option (Int × Bool × Unit) := (F_slices_BinarySearchFunc_impl_Group_impl_Group_int64_at_impl_Farm_group_1 (f1, id, ())).bind fun y1 => some (y1.1, y1.2.1, ())
theorem impl_Farm_group.top (k0 : Nat) (f0 : Int) (f1 : List (Int × Int × Int × Int × Unit)) (f2 : List (Int × Int × Int × Int × Unit)) (id : Int) : runFn Try.prog impl_Farm_group.tbl impl_Farm_group.cfg k0 60 ins_impl_Farm_group outs_impl_Farm_group (f0, f1, f2, id, ()) = impl_Farm_group.T  f0 f1 f2 id := by kernel_rfl
noncomputable def F_impl_Farm_group : Int × (List (Int × Int × Int × Int × Unit)) × (List (Int × Int × Int × Int × Unit)) × Int × Unit → Option (Int × Bool × Unit) := fun x => impl_Farm_group.T x.1 x.2.1 x.2.2.1 x.2.2.2.1
theorem impl_Farm_group.tblOK : ∀ g fs S, impl_Farm_group.tbl g fs = some S → SumOK Try.prog g S := by
  intro g fs S h
  unfold impl_Farm_group.tbl at h
  split at h
  · rename_i hc; obtain ⟨rfl, rfl⟩ := hc; have := Option.some.inj h; subst this; exact ok_slices_BinarySearchFunc_impl_Group_impl_Group_int64_at_impl_Farm_group_1
  cases h
theorem ok_impl_Farm_group : SumOK Try.prog 60 ⟨ins_impl_Farm_group, outs_impl_Farm_group, F_impl_Farm_group⟩ := runFn_ok (by kernel_rfl) impl_Farm_group.tblOK (by kernel_rfl) fun x y h => ⟨impl_Farm_group.cfg, 0, (impl_Farm_group.top 0 x.1 x.2.1 x.2.2.1 x.2.2.2.1).trans h⟩
abbrev ins_impl_Farm_hasGroup : List Par := [.v true ct4, .v false [CT.int .i64]]
abbrev outs_impl_Farm_hasGroup : List (Bool × List CT) := [(false, [CT.bool])]
/-! ### (loop.example/g00095/impl.Farm).hasGroup (function 32) -/
noncomputable def impl_Farm_hasGroup.tbl : Tbl := fun g fs => if g = 60 ∧ fs = [] then some ⟨ins_impl_Farm_group, outs_impl_Farm_group, F_impl_Farm_group⟩ else none
noncomputable def impl_Farm_hasGroup.body : Code := ((Try.prog.funcs[32]?).bind (·.body)).getD .skip
def impl_Farm_hasGroup.cfg : Nat → List Nat × List Nat := fun k => ([], [])
noncomputable def impl_Farm_hasGroup.T  (f0 : Int) (f1 : List (Int × Int × Int × Int × Unit)) (f2 : List (Int × Int × Int × Int × Unit)) (id : Int) : Option (Bool × Unit) := (F_impl_Farm_group (f0, f1, f2, id, ())).bind fun y1 => cond y1.2.1 (some (true, ())) (some ((id == 0), ()))
theorem impl_Farm_hasGroup.top (k0 : Nat) (f0 : Int) (f1 : List (Int × Int × Int × Int × Unit)) (f2 : List (Int × Int × Int × Int × Unit)) (id : Int) : runFn Try.prog impl_Farm_hasGroup.tbl impl_Farm_hasGroup.cfg k0 32 ins_impl_Farm_hasGroup outs_impl_Farm_hasGroup (f0, f1, f2, id, ()) = impl_Farm_hasGroup.T  f0 f1 f2 id := by kernel_rfl
noncomputable def F_impl_Farm_hasGroup : Int × (List (Int × Int × Int × Int × Unit)) × (List (Int × Int × Int × Int × Unit)) × Int × Unit → Option (Bool × Unit) := fun x => impl_Farm_hasGroup.T x.1 x.2.1 x.2.2.1 x.2.2.2.1
theorem impl_Farm_hasGroup.tblOK : ∀ g fs S, impl_Farm_hasGroup.tbl g fs = some S → SumOK Try.prog g S := by
  intro g fs S h
  unfold impl_Farm_hasGroup.tbl at h
  split at h
  · rename_i hc; obtain ⟨rfl, rfl⟩ := hc; have := Option.some.inj h; subst this; exact ok_impl_Farm_group
  cases h
theorem ok_impl_Farm_hasGroup : SumOK Try.prog 32 ⟨ins_impl_Farm_hasGroup, outs_impl_Farm_hasGroup, F_impl_Farm_hasGroup⟩ := runFn_ok (by kernel_rfl) impl_Farm_hasGroup.tblOK (by kernel_rfl) fun x y h => ⟨impl_Farm_hasGroup.cfg, 0, (impl_Farm_hasGroup.top 0 x.1 x.2.1 x.2.2.1 x.2.2.2.1).trans h⟩
abbrev ins_impl_in : List Par := [.v false [CT.int .i64], .v false [CT.int .i64], .v false [CT.int .i64]]
abbrev outs_impl_in : List (Bool × List CT) := [(false, [CT.bool])]
/-! ### loop.example/g00095/impl.in (function 69) -/
noncomputable def impl_in.tbl : Tbl := fun g fs => none
noncomputable def impl_in.body : Code := ((Try.prog.funcs[69]?).bind (·.body)).getD .skip
def impl_in.cfg : Nat → List Nat × List Nat := fun k => ([], [])
noncomputable def impl_in.T  (n : Int) (low : Int) (high : Int) : Option (Bool × Unit) := cond (decide (low ≤ n)) (some ((decide (n ≤ high)), ())) (some (false, ()))
theorem impl_in.top (k0 : Nat) (n : Int) (low : Int) (high : Int) : runFn Try.prog impl_in.tbl impl_in.cfg k0 69 ins_impl_in outs_impl_in (n, low, high, ()) = impl_in.T  n low high := by kernel_rfl
noncomputable def F_impl_in : Int × Int × Int × Unit → Option (Bool × Unit) := fun x => impl_in.T x.1 x.2.1 x.2.2.1
theorem impl_in.tblOK : ∀ g fs S, impl_in.tbl g fs = some S → SumOK Try.prog g S := by
  intro g fs S h
  unfold impl_in.tbl at h
  cases h
theorem ok_impl_in : SumOK Try.prog 69 ⟨ins_impl_in, outs_impl_in, F_impl_in⟩ := runFn_ok (by kernel_rfl) impl_in.tblOK (by kernel_rfl) fun x y h => ⟨impl_in.cfg, 0, (impl_in.top 0 x.1 x.2.1 x.2.2.1).trans h⟩
abbrev ins_impl_isWant : List Par := [.v false [CT.int .i64]]
abbrev outs_impl_isWant : List (Bool × List CT) := [(false, [CT.bool])]
/-! ### loop.example/g00095/impl.isWant (function 57) -/
noncomputable def impl_isWant.tbl : Tbl := fun g fs => if g = 69 ∧ fs = [] then some ⟨ins_impl_in, outs_impl_in, F_impl_in⟩ else none
noncomputable def impl_isWant.body : Code := ((Try.prog.funcs[57]?).bind (·.body)).getD .skip
def impl_isWant.cfg : Nat → List Nat × List Nat := fun k => ([], [])
noncomputable def impl_isWant.T  (n : Int) : Option (Bool × Unit) := (F_impl_in (n, 0, 1125899906842624, ())).bind fun y1 => some (y1.1, ())
theorem impl_isWant.top (k0 : Nat) (n : Int) : runFn Try.prog impl_isWant.tbl impl_isWant.cfg k0 57 ins_impl_isWant outs_impl_isWant (n, ()) = impl_isWant.T  n := by kernel_rfl
noncomputable def F_impl_isWant : Int × Unit → Option (Bool × Unit) := fun x => impl_isWant.T x.1
theorem impl_isWant.tblOK : ∀ g fs S, impl_isWant.tbl g fs = some S → SumOK Try.prog g S := by
  intro g fs S h
  unfold impl_isWant.tbl at h
  split at h
  · rename_i hc; obtain ⟨rfl, rfl⟩ := hc; have := Option.some.inj h; subst this; exact ok_impl_in
  cases h
theorem ok_impl_isWant : SumOK Try.prog 57 ⟨ins_impl_isWant, outs_impl_isWant, F_impl_isWant⟩ := runFn_ok (by kernel_rfl) impl_isWant.tblOK (by kernel_rfl) fun x y h => ⟨impl_isWant.cfg, 0, (impl_isWant.top 0 x.1).trans h⟩
abbrev ins_impl_isId : List Par := [.v false [CT.int .i64]]
abbrev outs_impl_isId : List (Bool × List CT) := [(false, [CT.bool])]
/-! ### loop.example/g00095/impl.isId (function 58) -/
noncomputable def impl_isId.tbl : Tbl := fun g fs => if g = 69 ∧ fs = [] then some ⟨ins_impl_in, outs_impl_in, F_impl_in⟩ else none
noncomputable def impl_isId.body : Code := ((Try.prog.funcs[58]?).bind (·.body)).getD .skip
def impl_isId.cfg : Nat → List Nat × List Nat := fun k => ([], [])
noncomputable def impl_isId.T  (n : Int) : Option (Bool × Unit) := (F_impl_in (n, 1, 1000000, ())).bind fun y1 => some (y1.1, ())
theorem impl_isId.top (k0 : Nat) (n : Int) : runFn Try.prog impl_isId.tbl impl_isId.cfg k0 58 ins_impl_isId outs_impl_isId (n, ()) = impl_isId.T  n := by kernel_rfl
noncomputable def F_impl_isId : Int × Unit → Option (Bool × Unit) := fun x => impl_isId.T x.1
theorem impl_isId.tblOK : ∀ g fs S, impl_isId.tbl g fs = some S → SumOK Try.prog g S := by
  intro g fs S h
  unfold impl_isId.tbl at h
  split at h
  · rename_i hc; obtain ⟨rfl, rfl⟩ := hc; have := Option.some.inj h; subst this; exact ok_impl_in
  cases h
theorem ok_impl_isId : SumOK Try.prog 58 ⟨ins_impl_isId, outs_impl_isId, F_impl_isId⟩ := runFn_ok (by kernel_rfl) impl_isId.tblOK (by kernel_rfl) fun x y h => ⟨impl_isId.cfg, 0, (impl_isId.top 0 x.1).trans h⟩
abbrev ins_impl_isWeight : List Par := [.v false [CT.int .i64]]
abbrev outs_impl_isWeight : List (Bool × List CT) := [(false, [CT.bool])]
/-! ### loop.example/g00095/impl.isWeight (function 59) -/
noncomputable def impl_isWeight.tbl : Tbl := fun g fs => if g = 69 ∧ fs = [] then some ⟨ins_impl_in, outs_impl_in, F_impl_in⟩ else none
noncomputable def impl_isWeight.body : Code := ((Try.prog.funcs[59]?).bind (·.body)).getD .skip
def impl_isWeight.cfg : Nat → List Nat × List Nat := fun k => ([], [])
noncomputable def impl_isWeight.T  (n : Int) : Option (Bool × Unit) := (F_impl_in (n, 1, 1073741824, ())).bind fun y1 => some (y1.1, ())
theorem impl_isWeight.top (k0 : Nat) (n : Int) : runFn Try.prog impl_isWeight.tbl impl_isWeight.cfg k0 59 ins_impl_isWeight outs_impl_isWeight (n, ()) = impl_isWeight.T  n := by kernel_rfl
noncomputable def F_impl_isWeight : Int × Unit → Option (Bool × Unit) := fun x => impl_isWeight.T x.1
theorem impl_isWeight.tblOK : ∀ g fs S, impl_isWeight.tbl g fs = some S → SumOK Try.prog g S := by
  intro g fs S h
  unfold impl_isWeight.tbl at h
  split at h
  · rename_i hc; obtain ⟨rfl, rfl⟩ := hc; have := Option.some.inj h; subst this; exact ok_impl_in
  cases h
theorem ok_impl_isWeight : SumOK Try.prog 59 ⟨ins_impl_isWeight, outs_impl_isWeight, F_impl_isWeight⟩ := runFn_ok (by kernel_rfl) impl_isWeight.tblOK (by kernel_rfl) fun x y h => ⟨impl_isWeight.cfg, 0, (impl_isWeight.top 0 x.1).trans h⟩
abbrev ins_impl_FarmRight : List Par := [.v true ct4]
abbrev outs_impl_FarmRight : List (Bool × List CT) := [(false, [CT.bool])]
/-! ### loop.example/g00095/impl.FarmRight (function 31) -/
noncomputable def impl_FarmRight.tbl : Tbl := fun g fs => if g = 32 ∧ fs = [] then some ⟨ins_impl_Farm_hasGroup, outs_impl_Farm_hasGroup, F_impl_Farm_hasGroup⟩ else if g = 57 ∧ fs = [] then some ⟨ins_impl_isWant, outs_impl_isWant, F_impl_isWant⟩ else if g = 58 ∧ fs = [] then some ⟨ins_impl_isId, outs_impl_isId, F_impl_isId⟩ else if g = 59 ∧ fs = [] then some ⟨ins_impl_isWeight, outs_impl_isWeight, F_impl_isWeight⟩ else none
noncomputable def impl_FarmRight.body : Code := ((Try.prog.funcs[31]?).bind (·.body)).getD .skip
def impl_FarmRight.cfg : Nat → List Nat × List Nat := fun k => if k = 4 then ([1, 25, 26, 27], [1, 2]) else if k = 11 then ([1, 78, 79, 80], [2]) else ([], [])
noncomputable def impl_FarmRight.R0 {R : Type} (nx0 : ((List (Int × Int × Int × Int × Unit)) → Int → Int → Int → (List (Int × Int × Int × Int × Unit)) → (List (Int × Int × Int × Int × Unit)) → Option R)) (ex0 : (Bool → Int → (List (Int × Int × Int × Int × Unit)) → (List (Int × Int × Int × Int × Unit)) → Option R)) (ex1 : (Int → (List (Int × Int × Int × Int × Unit)) → (List (Int × Int × Int × Int × Unit)) → Option R)) (t25x : List (Int × Int × Int × Int × Unit)) (t26x : Int) (t27x : Int) (f : Int) (f3 : List (Int × Int × Int × Int × Unit)) (f4 : List (Int × Int × Int × Int × Unit)) : Option R := cond (decide (t27x < t26x)) (if 0 ≤ t27x ∧ t27x < (t25x.length : Int) then if 0 ≤ t27x ∧ t27x ≤ (f3.length : Int) then (F_impl_isId ((rd (0, 0, 0, 0, ()) t25x t27x).1, ())).bind fun y1 => cond (!y1.1) (ex0 false f f3 f4) (cond (decide (t27x > 0)) (if 0 ≤ (w64 (t27x - 1)) ∧ (w64 (t27x - 1)) < (f3.length : Int) then cond (decide ((rd (0, 0, 0, 0, ()) f3 (w64 (t27x - 1))).1 ≥ (rd (0, 0, 0, 0, ()) t25x t27x).1)) (ex0 false f f3 f4) ((F_impl_Farm_hasGroup (0, (f3.take (t27x.toNat)), [], (rd (0, 0, 0, 0, ()) t25x t27x).2.1, ())).bind fun y2 => cond (!y2.1) (ex0 false f f3 f4) ((F_impl_isWant ((rd (0, 0, 0, 0, ()) t25x t27x).2.2.1, ())).bind fun y3 => cond (!y3.1) (ex0 false f f3 f4) ((F_impl_isWeight ((rd (0, 0, 0, 0, ()) t25x t27x).2.2.2.1, ())).bind fun y4 => cond (!y4.1) (ex0 false f f3 f4) (nx0 t25x t26x (w64 (t27x + 1)) f f3 f4)))) else none) ((F_impl_Farm_hasGroup (0, (f3.take (t27x.toNat)), [], (rd (0, 0, 0, 0, ()) t25x t27x).2.1, ())).bind fun y5 => cond (!y5.1) (ex0 false f f3 f4) ((F_impl_isWant ((rd (0, 0, 0, 0, ()) t25x t27x).2.2.1, ())).bind fun y6 => cond (!y6.1) (ex0 false f f3 f4) ((F_impl_isWeight ((rd (0, 0, 0, 0, ()) t25x t27x).2.2.2.1, ())).bind fun y7 => cond (!y7.1) (ex0 false f f3 f4) (nx0 t25x t26x (w64 (t27x + 1)) f f3 f4))))) else none else none) (ex1 f f3 f4)
noncomputable def impl_FarmRight.R1 {R : Type} (nx1 : ((List (Int × Int × Int × Int × Unit)) → Int → Int → Int → (List (Int × Int × Int × Int × Unit)) → (List (Int × Int × Int × Int × Unit)) → Option R)) (ex2 : (Bool → Option R)) (ex3 : (Unit → Option R)) (t78x : List (Int × Int × Int × Int × Unit)) (t79x : Int) (t80x : Int) (f : Int) (f3 : List (Int × Int × Int × Int × Unit)) (f4 : List (Int × Int × Int × Int × Unit)) : Option R := cond (decide (t80x < t79x)) (if 0 ≤ t80x ∧ t80x < (t78x.length : Int) then (F_impl_isId ((rd (0, 0, 0, 0, ()) t78x t80x).1, ())).bind fun y1 => cond (!y1.1) (ex2 false) (cond (decide (t80x > 0)) (if 0 ≤ (w64 (t80x - 1)) ∧ (w64 (t80x - 1)) < (f4.length : Int) then cond (decide ((rd (0, 0, 0, 0, ()) f4 (w64 (t80x - 1))).1 ≥ (rd (0, 0, 0, 0, ()) t78x t80x).1)) (ex2 false) ((F_impl_Farm_hasGroup (f, f3, f4, (rd (0, 0, 0, 0, ()) t78x t80x).2.1, ())).bind fun y2 => cond (!y2.1) (ex2 false) ((F_impl_isWant ((rd (0, 0, 0, 0, ()) t78x t80x).2.2.1, ())).bind fun y3 => cond (!y3.1) (ex2 false) ((F_impl_isWeight ((rd (0, 0, 0, 0, ()) t78x t80x).2.2.2.1, ())).bind fun y4 => cond (!y4.1) (ex2 false) (nx1 t78x t79x (w64 (t80x + 1)) f f3 f4)))) else none) ((F_impl_Farm_hasGroup (f, f3, f4, (rd (0, 0, 0, 0, ()) t78x t80x).2.1, ())).bind fun y5 => cond (!y5.1) (ex2 false) ((F_impl_isWant ((rd (0, 0, 0, 0, ()) t78x t80x).2.2.1, ())).bind fun y6 => cond (!y6.1) (ex2 false) ((F_impl_isWeight ((rd (0, 0, 0, 0, ()) t78x t80x).2.2.2.1, ())).bind fun y7 => cond (!y7.1) (ex2 false) (nx1 t78x t79x (w64 (t80x + 1)) f f3 f4))))) else none) (ex3 ())
noncomputable def impl_FarmRight.A0  (f0 : Int) (f1 : List (Int × Int × Int × Int × Unit)) (f2 : List (Int × Int × Int × Int × Unit)) (t2x : Bool) (f : Int) (f3 : List (Int × Int × Int × Int × Unit)) (f4 : List (Int × Int × Int × Int × Unit)) : Option (Bool × Unit) := some (t2x, ())
noncomputable def impl_FarmRight.A1 (lo1 : ((List (Int × Int × Int × Int × Unit)) → Int → Int → Int → (List (Int × Int × Int × Int × Unit)) → (List (Int × Int × Int × Int × Unit)) → Option (Bool × Unit))) (f0 : Int) (f1 : List (Int × Int × Int × Int × Unit)) (f2 : List (Int × Int × Int × Int × Unit)) (f : Int) (f3 : List (Int × Int × Int × Int × Unit)) (f4 : List (Int × Int × Int × Int × Unit)) : Option (Bool × Unit) := lo1 f4 (f4.length : Int) 0 f f3 f4
noncomputable def impl_FarmRight.A2  (f0 : Int) (f1 : List (Int × Int × Int × Int × Unit)) (f2 : List (Int × Int × Int × Int × Unit)) (t2x : Bool) : Option (Bool × Unit) := some (t2x, ())
noncomputable def impl_FarmRight.A3  (f0 : Int) (f1 : List (Int × Int × Int × Int × Unit)) (f2 : List (Int × Int × Int × Int × Unit)) (_u : Unit) : Option (Bool × Unit) := some (true, ())
noncomputable def impl_FarmRight.T (lo0 : ((List (Int × Int × Int × Int × Unit)) → Int → Int → Int → (List (Int × Int × Int × Int × Unit)) → (List (Int × Int × Int × Int × Unit)) → Option (Bool × Unit))) (f0 : Int) (f1 : List (Int × Int × Int × Int × Unit)) (f2 : List (Int × Int × Int × Int × Unit)) : Option (Bool × Unit) := (F_impl_isWant (f0, ())).bind fun y1 => cond (!y1.1) (some (false, ())) (cond (decide ((f1.length : Int) > 30)) (some (false, ())) (cond (decide ((f2.length : Int) > 60)) (some (false, ())) (lo0 f1 (f1.length : Int) 0 f0 f1 f2)))
noncomputable def impl_FarmRight.st0 {R : Type} (k0 : Nat) : Env → List Ob → Kont R → Option R := fun env ob K => runCode Try.prog impl_FarmRight.tbl 125 0 impl_FarmRight.cfg k0 (codeAt [1, 1, 0, 1, 0, 0] impl_FarmRight.body) env ob K
noncomputable def impl_FarmRight.K0 {R : Type} (k0 : Nat) (K : Kont R) : Kont R := blockK 0 (seqK (fun env ob => runCode Try.prog impl_FarmRight.tbl 125 0 impl_FarmRight.cfg k0 (codeAt [1, 1, 1] impl_FarmRight.body) env ob (K)) (K))
noncomputable def impl_FarmRight.st1 {R : Type} (k0 : Nat) : Env → List Ob → Kont R → Option R := fun env ob K => runCode Try.prog impl_FarmRight.tbl 125 0 impl_FarmRight.cfg k0 (codeAt [1, 1, 1, 0, 1, 0, 0] impl_FarmRight.body) env ob K
noncomputable def impl_FarmRight.K1 {R : Type} (k0 : Nat) (K : Kont R) : Kont R := blockK 2 (seqK (fun env ob => runCode Try.prog impl_FarmRight.tbl 125 0 impl_FarmRight.cfg k0 (codeAt [1, 1, 1, 1] impl_FarmRight.body) env ob (K)) (K))
noncomputable def impl_FarmRight.L0 {R : Type} (k0 k : Nat) (K : Kont R) (t25x : List (Int × Int × Int × Int × Unit)) (t26x : Int) (t27x : Int) (f : Int) (f3 : List (Int × Int × Int × Int × Unit)) (f4 : List (Int × Int × Int × Int × Unit)) : Option R := iter 0 [1, 25, 26, 27] [1, 2] (impl_FarmRight.st0 k0) k [(1, .ptr 0 0 0 0), (25, .sl ct0 t25x), (26, .int .i64 t26x), (27, .int .i64 t27x)] [.box [.int .i64 f, .sl ct0 f3, .sl ct0 f4]] K
noncomputable def impl_FarmRight.L1 {R : Type} (k0 k : Nat) (K : Kont R) (t78x : List (Int × Int × Int × Int × Unit)) (t79x : Int) (t80x : Int) (f : Int) (f3 : List (Int × Int × Int × Int × Unit)) (f4 : List (Int × Int × Int × Int × Unit)) : Option R := iter 0 [1, 78, 79, 80] [2] (impl_FarmRight.st1 k0) k [(1, .ptr 0 0 0 0), (78, .sl ct0 t78x), (79, .int .i64 t79x), (80, .int .i64 t80x)] [.box [.int .i64 f, .sl ct0 f3, .sl ct0 f4]] K
theorem impl_FarmRight.s0 {R : Type} (k0 k : Nat) (K : Kont R) (t25x : List (Int × Int × Int × Int × Unit)) (t26x : Int) (t27x : Int) (f : Int) (f3 : List (Int × Int × Int × Int × Unit)) (f4 : List (Int × Int × Int × Int × Unit)) : impl_FarmRight.L0 k0 (k + 1) K t25x t26x t27x f f3 f4 = impl_FarmRight.R0 (fun (t25x : List (Int × Int × Int × Int × Unit)) (t26x : Int) (t27x : Int) (f : Int) (f3 : List (Int × Int × Int × Int × Unit)) (f4 : List (Int × Int × Int × Int × Unit)) => impl_FarmRight.L0 k0 k K t25x t26x t27x f f3 f4) (fun (t2x : Bool) (f : Int) (f3 : List (Int × Int × Int × Int × Unit)) (f4 : List (Int × Int × Int × Int × Unit)) => K .ret [(1, .ptr 0 0 0 0), (2, .bool t2x)] [.box [.int .i64 f, .sl ct0 f3, .sl ct0 f4]]) (fun (f : Int) (f3 : List (Int × Int × Int × Int × Unit)) (f4 : List (Int × Int × Int × Int × Unit)) => K (.exit 0) [(1, .ptr 0 0 0 0), (2, .undef)] [.box [.int .i64 f, .sl ct0 f3, .sl ct0 f4]]) t25x t26x t27x f f3 f4 := by kernel_rfl
theorem impl_FarmRight.s1 {R : Type} (k0 k : Nat) (K : Kont R) (t78x : List (Int × Int × Int × Int × Unit)) (t79x : Int) (t80x : Int) (f : Int) (f3 : List (Int × Int × Int × Int × Unit)) (f4 : List (Int × Int × Int × Int × Unit)) : impl_FarmRight.L1 k0 (k + 1) K t78x t79x t80x f f3 f4 = impl_FarmRight.R1 (fun (t78x : List (Int × Int × Int × Int × Unit)) (t79x : Int) (t80x : Int) (f : Int) (f3 : List (Int × Int × Int × Int × Unit)) (f4 : List (Int × Int × Int × Int × Unit)) => impl_FarmRight.L1 k0 k K t78x t79x t80x f f3 f4) (fun (t2x : Bool) => K .ret [(2, .bool t2x)] []) (fun (_ : Unit) => K (.exit 2) [(2, .undef)] []) t78x t79x t80x f f3 f4 := by kernel_rfl
theorem impl_FarmRight.a0 (k0 : Nat) (f0 : Int) (f1 : List (Int × Int × Int × Int × Unit)) (f2 : List (Int × Int × Int × Int × Unit)) (t2x : Bool) (f : Int) (f3 : List (Int × Int × Int × Int × Unit)) (f4 : List (Int × Int × Int × Int × Unit)) : impl_FarmRight.K0 (R := (Bool × Unit)) k0 (finK Try.prog [.tmp 2] ins_impl_FarmRight outs_impl_FarmRight (f0, f1, f2, ())) .ret [(1, .ptr 0 0 0 0), (2, .bool t2x)] [.box [.int .i64 f, .sl ct0 f3, .sl ct0 f4]] = impl_FarmRight.A0  f0 f1 f2 t2x f f3 f4 := by kernel_rfl
theorem impl_FarmRight.a1 (k0 : Nat) (f0 : Int) (f1 : List (Int × Int × Int × Int × Unit)) (f2 : List (Int × Int × Int × Int × Unit)) (f : Int) (f3 : List (Int × Int × Int × Int × Unit)) (f4 : List (Int × Int × Int × Int × Unit)) : impl_FarmRight.K0 (R := (Bool × Unit)) k0 (finK Try.prog [.tmp 2] ins_impl_FarmRight outs_impl_FarmRight (f0, f1, f2, ())) (.exit 0) [(1, .ptr 0 0 0 0), (2, .undef)] [.box [.int .i64 f, .sl ct0 f3, .sl ct0 f4]] = impl_FarmRight.A1 (fun (t78x : List (Int × Int × Int × Int × Unit)) (t79x : Int) (t80x : Int) (f : Int) (f3 : List (Int × Int × Int × Int × Unit)) (f4 : List (Int × Int × Int × Int × Unit)) => impl_FarmRight.L1 (R := (Bool × Unit)) k0 k0 (impl_FarmRight.K1 (R := (Bool × Unit)) k0 ((finK Try.prog [.tmp 2] ins_impl_FarmRight outs_impl_FarmRight (f0, f1, f2, ())))) t78x t79x t80x f f3 f4) f0 f1 f2 f f3 f4 := by kernel_rfl
theorem impl_FarmRight.a2 (k0 : Nat) (f0 : Int) (f1 : List (Int × Int × Int × Int × Unit)) (f2 : List (Int × Int × Int × Int × Unit)) (t2x : Bool) : impl_FarmRight.K1 (R := (Bool × Unit)) k0 (finK Try.prog [.tmp 2] ins_impl_FarmRight outs_impl_FarmRight (f0, f1, f2, ())) .ret [(2, .bool t2x)] [] = impl_FarmRight.A2  f0 f1 f2 t2x := by kernel_rfl
theorem impl_FarmRight.a3 (k0 : Nat) (f0 : Int) (f1 : List (Int × Int × Int × Int × Unit)) (f2 : List (Int × Int × Int × Int × Unit))  : impl_FarmRight.K1 (R := (Bool × Unit)) k0 (finK Try.prog [.tmp 2] ins_impl_FarmRight outs_impl_FarmRight (f0, f1, f2, ())) (.exit 2) [(2, .undef)] [] = impl_FarmRight.A3  f0 f1 f2 () := by kernel_rfl
theorem impl_FarmRight.top (k0 : Nat) (f0 : Int) (f1 : List (Int × Int × Int × Int × Unit)) (f2 : List (Int × Int × Int × Int × Unit)) : runFn Try.prog impl_FarmRight.tbl impl_FarmRight.cfg k0 31 ins_impl_FarmRight outs_impl_FarmRight (f0, f1, f2, ()) = impl_FarmRight.T (fun (t25x : List (Int × Int × Int × Int × Unit)) (t26x : Int) (t27x : Int) (f : Int) (f3 : List (Int × Int × Int × Int × Unit)) (f4 : List (Int × Int × Int × Int × Unit)) => impl_FarmRight.L0 (R := (Bool × Unit)) k0 k0 (impl_FarmRight.K0 (R := (Bool × Unit)) k0 ((finK Try.prog [.tmp 2] ins_impl_FarmRight outs_impl_FarmRight (f0, f1, f2, ())))) t25x t26x t27x f f3 f4) f0 f1 f2 := by kernel_rfl
noncomputable def impl_FarmRight.G0 {R : Type} (k0 : Nat) (hx0 : (Bool → Int → (List (Int × Int × Int × Int × Unit)) → (List (Int × Int × Int × Int × Unit)) → Option R)) (hx1 : (Int → (List (Int × Int × Int × Int × Unit)) → (List (Int × Int × Int × Int × Unit)) → Option R)) : Nat → (List (Int × Int × Int × Int × Unit)) → Int → Int → Int → (List (Int × Int × Int × Int × Unit)) → (List (Int × Int × Int × Int × Unit)) → Option R
  | 0, _, _, _, _, _, _ => none
  | k + 1, t25x, t26x, t27x, f, f3, f4 => impl_FarmRight.R0 (fun (t25x : List (Int × Int × Int × Int × Unit)) (t26x : Int) (t27x : Int) (f : Int) (f3 : List (Int × Int × Int × Int × Unit)) (f4 : List (Int × Int × Int × Int × Unit)) => impl_FarmRight.G0 k0 hx0 hx1 k t25x t26x t27x f f3 f4) (fun (t2x : Bool) (f : Int) (f3 : List (Int × Int × Int × Int × Unit)) (f4 : List (Int × Int × Int × Int × Unit)) => hx0 t2x f f3 f4) (fun (f : Int) (f3 : List (Int × Int × Int × Int × Unit)) (f4 : List (Int × Int × Int × Int × Unit)) => hx1 f f3 f4) t25x t26x t27x f f3 f4
theorem impl_FarmRight.g0 {R : Type} (k0 : Nat) (K : Kont R) : ∀ (k : Nat) (t25x : List (Int × Int × Int × Int × Unit)) (t26x : Int) (t27x : Int) (f : Int) (f3 : List (Int × Int × Int × Int × Unit)) (f4 : List (Int × Int × Int × Int × Unit)), impl_FarmRight.L0 k0 k K t25x t26x t27x f f3 f4 = impl_FarmRight.G0 k0 (fun (t2x : Bool) (f : Int) (f3 : List (Int × Int × Int × Int × Unit)) (f4 : List (Int × Int × Int × Int × Unit)) => K .ret [(1, .ptr 0 0 0 0), (2, .bool t2x)] [.box [.int .i64 f, .sl ct0 f3, .sl ct0 f4]]) (fun (f : Int) (f3 : List (Int × Int × Int × Int × Unit)) (f4 : List (Int × Int × Int × Int × Unit)) => K (.exit 0) [(1, .ptr 0 0 0 0), (2, .undef)] [.box [.int .i64 f, .sl ct0 f3, .sl ct0 f4]]) k t25x t26x t27x f f3 f4 := by
  intro k
  induction k with
  | zero => intros; rfl
  | succ k ih => intros; rw [impl_FarmRight.s0, impl_FarmRight.G0]; (try simp only [ih]); try rfl
noncomputable def impl_FarmRight.G1 {R : Type} (k0 : Nat) (hx2 : (Bool → Option R)) (hx3 : (Unit → Option R)) : Nat → (List (Int × Int × Int × Int × Unit)) → Int → Int → Int → (List (Int × Int × Int × Int × Unit)) → (List (Int × Int × Int × Int × Unit)) → Option R
  | 0, _, _, _, _, _, _ => none
  | k + 1, t78x, t79x, t80x, f, f3, f4 => impl_FarmRight.R1 (fun (t78x : List (Int × Int × Int × Int × Unit)) (t79x : Int) (t80x : Int) (f : Int) (f3 : List (Int × Int × Int × Int × Unit)) (f4 : List (Int × Int × Int × Int × Unit)) => impl_FarmRight.G1 k0 hx2 hx3 k t78x t79x t80x f f3 f4) (fun (t2x : Bool) => hx2 t2x) (fun (_ : Unit) => hx3 ()) t78x t79x t80x f f3 f4
theorem impl_FarmRight.g1 {R : Type} (k0 : Nat) (K : Kont R) : ∀ (k : Nat) (t78x : List (Int × Int × Int × Int × Unit)) (t79x : Int) (t80x : Int) (f : Int) (f3 : List (Int × Int × Int × Int × Unit)) (f4 : List (Int × Int × Int × Int × Unit)), impl_FarmRight.L1 k0 k K t78x t79x t80x f f3 f4 = impl_FarmRight.G1 k0 (fun (t2x : Bool) => K .ret [(2, .bool t2x)] []) (fun (_ : Unit) => K (.exit 2) [(2, .undef)] []) k t78x t79x t80x f f3 f4 := by
  intro k
  induction k with
  | zero => intros; rfl
  | succ k ih => intros; rw [impl_FarmRight.s1, impl_FarmRight.G1]; (try simp only [ih, impl_FarmRight.g0]); try rfl
noncomputable def impl_FarmRight.FF (k0 : Nat) (f0 : Int) (f1 : List (Int × Int × Int × Int × Unit)) (f2 : List (Int × Int × Int × Int × Unit)) : Option (Bool × Unit) := impl_FarmRight.T (fun (t25x : List (Int × Int × Int × Int × Unit)) (t26x : Int) (t27x : Int) (f : Int) (f3 : List (Int × Int × Int × Int × Unit)) (f4 : List (Int × Int × Int × Int × Unit)) => impl_FarmRight.G0 k0 (fun (t2x : Bool) (f : Int) (f3 : List (Int × Int × Int × Int × Unit)) (f4 : List (Int × Int × Int × Int × Unit)) => impl_FarmRight.A0  f0 f1 f2 t2x f f3 f4) (fun (f : Int) (f3 : List (Int × Int × Int × Int × Unit)) (f4 : List (Int × Int × Int × Int × Unit)) => impl_FarmRight.A1 (fun (t78x : List (Int × Int × Int × Int × Unit)) (t79x : Int) (t80x : Int) (f : Int) (f3 : List (Int × Int × Int × Int × Unit)) (f4 : List (Int × Int × Int × Int × Unit)) => impl_FarmRight.G1 k0 (fun (t2x : Bool) => impl_FarmRight.A2  f0 f1 f2 t2x) (fun (_ : Unit) => impl_FarmRight.A3  f0 f1 f2 ()) k0 t78x t79x t80x f f3 f4) f0 f1 f2 f f3 f4) k0 t25x t26x t27x f f3 f4) f0 f1 f2
theorem impl_FarmRight.run (k0 : Nat) (f0 : Int) (f1 : List (Int × Int × Int × Int × Unit)) (f2 : List (Int × Int × Int × Int × Unit)) : runFn Try.prog impl_FarmRight.tbl impl_FarmRight.cfg k0 31 ins_impl_FarmRight outs_impl_FarmRight (f0, f1, f2, ()) = impl_FarmRight.FF k0 f0 f1 f2 := by
  rw [impl_FarmRight.top, impl_FarmRight.FF]; (try simp only [impl_FarmRight.g0, impl_FarmRight.g1, impl_FarmRight.a0, impl_FarmRight.a1, impl_FarmRight.a2, impl_FarmRight.a3]); try rfl
noncomputable def F_impl_FarmRight : Int × (List (Int × Int × Int × Int × Unit)) × (List (Int × Int × Int × Int × Unit)) × Unit → Option (Bool × Unit) := fun x => (fun (f0 : Int) (f1 : List (Int × Int × Int × Int × Unit)) (f2 : List (Int × Int × Int × Int × Unit)) => impl_FarmRight.FF (300 + f1.length + f2.length) f0 f1 f2) x.1 x.2.1 x.2.2.1
theorem impl_FarmRight.tblOK : ∀ g fs S, impl_FarmRight.tbl g fs = some S → SumOK Try.prog g S := by
  intro g fs S h
  unfold impl_FarmRight.tbl at h
  split at h
  · rename_i hc; obtain ⟨rfl, rfl⟩ := hc; have := Option.some.inj h; subst this; exact ok_impl_Farm_hasGroup
  split at h
  · rename_i hc; obtain ⟨rfl, rfl⟩ := hc; have := Option.some.inj h; subst this; exact ok_impl_isWant
  split at h
  · rename_i hc; obtain ⟨rfl, rfl⟩ := hc; have := Option.some.inj h; subst this; exact ok_impl_isId
  split at h
  · rename_i hc; obtain ⟨rfl, rfl⟩ := hc; have := Option.some.inj h; subst this; exact ok_impl_isWeight
  cases h
theorem ok_impl_FarmRight : SumOK Try.prog 31 ⟨ins_impl_FarmRight, outs_impl_FarmRight, F_impl_FarmRight⟩ := runFn_ok (by kernel_rfl) impl_FarmRight.tblOK (by kernel_rfl) fun x y h => ⟨impl_FarmRight.cfg, _, (impl_FarmRight.run _ x.1 x.2.1 x.2.2.1).trans h⟩
abbrev ins_impl_isTime : List Par := [.v false [CT.int .i64]]
abbrev outs_impl_isTime : List (Bool × List CT) := [(false, [CT.bool])]
/-! ### loop.example/g00095/impl.isTime (function 71) -/
noncomputable def impl_isTime.tbl : Tbl := fun g fs => if g = 69 ∧ fs = [] then some ⟨ins_impl_in, outs_impl_in, F_impl_in⟩ else none
noncomputable def impl_isTime.body : Code := ((Try.prog.funcs[71]?).bind (·.body)).getD .skip
def impl_isTime.cfg : Nat → List Nat × List Nat := fun k => ([], [])
noncomputable def impl_isTime.T  (n : Int) : Option (Bool × Unit) := (F_impl_in (n, 0, 1000000, ())).bind fun y1 => some (y1.1, ())
theorem impl_isTime.top (k0 : Nat) (n : Int) : runFn Try.prog impl_isTime.tbl impl_isTime.cfg k0 71 ins_impl_isTime outs_impl_isTime (n, ()) = impl_isTime.T  n := by kernel_rfl
noncomputable def F_impl_isTime : Int × Unit → Option (Bool × Unit) := fun x => impl_isTime.T x.1
theorem impl_isTime.tblOK : ∀ g fs S, impl_isTime.tbl g fs = some S → SumOK Try.prog g S := by
  intro g fs S h
  unfold impl_isTime.tbl at h
  split at h
  · rename_i hc; obtain ⟨rfl, rfl⟩ := hc; have := Option.some.inj h; subst this; exact ok_impl_in
  cases h
theorem ok_impl_isTime : SumOK Try.prog 71 ⟨ins_impl_isTime, outs_impl_isTime, F_impl_isTime⟩ := runFn_ok (by kernel_rfl) impl_isTime.tblOK (by kernel_rfl) fun x y h => ⟨impl_isTime.cfg, 0, (impl_isTime.top 0 x.1).trans h⟩
abbrev ins_impl_Lease_isRight : List Par := [.v true ct1]
abbrev outs_impl_Lease_isRight : List (Bool × List CT) := [(false, [CT.bool])]
/-! ### (loop.example/g00095/impl.Lease).isRight (function 83) -/
noncomputable def impl_Lease_isRight.tbl : Tbl := fun g fs => if g = 57 ∧ fs = [] then some ⟨ins_impl_isWant, outs_impl_isWant, F_impl_isWant⟩ else if g = 58 ∧ fs = [] then some ⟨ins_impl_isId, outs_impl_isId, F_impl_isId⟩ else if g = 71 ∧ fs = [] then some ⟨ins_impl_isTime, outs_impl_isTime, F_impl_isTime⟩ else none
noncomputable def impl_Lease_isRight.body : Code := ((Try.prog.funcs[83]?).bind (·.body)).getD .skip
def impl_Lease_isRight.cfg : Nat → List Nat × List Nat := fun k => ([], [])
noncomputable def impl_Lease_isRight.T  (l0 : Int) (l1 : Int) (l2 : Int) : Option (Bool × Unit) := (F_impl_isId (l0, ())).bind fun y1 => cond y1.1 ((F_impl_isWant (l1, ())).bind fun y2 => cond y2.1 ((F_impl_isTime (l2, ())).bind fun y3 => some (y3.1, ())) (some (false, ()))) (some (false, ()))
theorem impl_Lease_isRight.top (k0 : Nat) (l0 : Int) (l1 : Int) (l2 : Int) : runFn Try.prog impl_Lease_isRight.tbl impl_Lease_isRight.cfg k0 83 ins_impl_Lease_isRight outs_impl_Lease_isRight (l0, l1, l2, ()) = impl_Lease_isRight.T  l0 l1 l2 := by kernel_rfl
noncomputable def F_impl_Lease_isRight : Int × Int × Int × Unit → Option (Bool × Unit) := fun x => impl_Lease_isRight.T x.1 x.2.1 x.2.2.1
theorem impl_Lease_isRight.tblOK : ∀ g fs S, impl_Lease_isRight.tbl g fs = some S → SumOK Try.prog g S := by
  intro g fs S h
  unfold impl_Lease_isRight.tbl at h
  split at h
  · rename_i hc; obtain ⟨rfl, rfl⟩ := hc; have := Option.some.inj h; subst this; exact ok_impl_isWant
  split at h
  · rename_i hc; obtain ⟨rfl, rfl⟩ := hc; have := Option.some.inj h; subst this; exact ok_impl_isId
  split at h
  · rename_i hc; obtain ⟨rfl, rfl⟩ := hc; have := Option.some.inj h; subst this; exact ok_impl_isTime
  cases h
theorem ok_impl_Lease_isRight : SumOK Try.prog 83 ⟨ins_impl_Lease_isRight, outs_impl_Lease_isRight, F_impl_Lease_isRight⟩ := runFn_ok (by kernel_rfl) impl_Lease_isRight.tblOK (by kernel_rfl) fun x y h => ⟨impl_Lease_isRight.cfg, 0, (impl_Lease_isRight.top 0 x.1 x.2.1 x.2.2.1).trans h⟩
abbrev ins_impl_LeasesRight : List Par := [.v false [CT.sl ct1]]
abbrev outs_impl_LeasesRight : List (Bool × List CT) := [(false, [CT.bool])]
/-! ### loop.example/g00095/impl.LeasesRight (function 70) -/
noncomputable def impl_LeasesRight.tbl : Tbl := fun g fs => if g = 83 ∧ fs = [] then some ⟨ins_impl_Lease_isRight, outs_impl_Lease_isRight, F_impl_Lease_isRight⟩ else none
noncomputable def impl_LeasesRight.body : Code := ((Try.prog.funcs[70]?).bind (·.body)).getD .skip
def impl_LeasesRight.cfg : Nat → List Nat × List Nat := fun k => if k = 2 then ([0, 5, 6, 7], [0, 2]) else ([], [])
noncomputable def impl_LeasesRight.R0 {R : Type} (nx0 : ((List (Int × Int × Int × Unit)) → (List (Int × Int × Int × Unit)) → Int → Int → Option R)) (ex0 : ((List (Int × Int × Int × Unit)) → Bool → Option R)) (ex1 : ((List (Int × Int × Int × Unit)) → Option R)) (list2 : List (Int × Int × Int × Unit)) (t5x : List (Int × Int × Int × Unit)) (t6x : Int) (t7x : Int) : Option R := cond (decide (t7x < t6x)) (if 0 ≤ t7x ∧ t7x < (t5x.length : Int) then (F_impl_Lease_isRight ((rd (0, 0, 0, ()) t5x t7x).1, (rd (0, 0, 0, ()) t5x t7x).2.1, (rd (0, 0, 0, ()) t5x t7x).2.2.1, ())).bind fun y1 => cond (!y1.1) (ex0 list2 false) (cond (decide (t7x > 0)) (if 0 ≤ (w64 (t7x - 1)) ∧ (w64 (t7x - 1)) < (list2.length : Int) then cond (decide ((rd (0, 0, 0, ()) list2 (w64 (t7x - 1))).1 ≥ (rd (0, 0, 0, ()) t5x t7x).1)) (ex0 list2 false) (nx0 list2 t5x t6x (w64 (t7x + 1))) else none) (nx0 list2 t5x t6x (w64 (t7x + 1)))) else none) (ex1 list2)
noncomputable def impl_LeasesRight.A0  (list : List (Int × Int × Int × Unit)) (list2 : List (Int × Int × Int × Unit)) (t2x : Bool) : Option (Bool × Unit) := some (t2x, ())
noncomputable def impl_LeasesRight.A1  (list : List (Int × Int × Int × Unit)) (list2 : List (Int × Int × Int × Unit)) : Option (Bool × Unit) := some ((decide ((list2.length : Int) ≤ 60)), ())
noncomputable def impl_LeasesRight.T (lo0 : ((List (Int × Int × Int × Unit)) → (List (Int × Int × Int × Unit)) → Int → Int → Option (Bool × Unit))) (list : List (Int × Int × Int × Unit)) : Option (Bool × Unit) := lo0 list list (list.length : Int) 0
noncomputable def impl_LeasesRight.st0 {R : Type} (k0 : Nat) : Env → List Ob → Kont R → Option R := fun env ob K => runCode Try.prog impl_LeasesRight.tbl 34 0 impl_LeasesRight.cfg k0 (codeAt [1, 0, 1, 0, 0] impl_LeasesRight.body) env ob K
noncomputable def impl_LeasesRight.K0 {R : Type} (k0 : Nat) (K : Kont R) : Kont R := blockK 0 (seqK (fun env ob => runCode Try.prog impl_LeasesRight.tbl 34 0 impl_LeasesRight.cfg k0 (codeAt [1, 1] impl_LeasesRight.body) env ob (K)) (K))
noncomputable def impl_LeasesRight.L0 {R : Type} (k0 k : Nat) (K : Kont R) (list2 : List (Int × Int × Int × Unit)) (t5x : List (Int × Int × Int × Unit)) (t6x : Int) (t7x : Int) : Option R := iter 0 [0, 5, 6, 7] [0, 2] (impl_LeasesRight.st0 k0) k [(0, .sl ct1 list2), (5, .sl ct1 t5x), (6, .int .i64 t6x), (7, .int .i64 t7x)] [] K
theorem impl_LeasesRight.s0 {R : Type} (k0 k : Nat) (K : Kont R) (list2 : List (Int × Int × Int × Unit)) (t5x : List (Int × Int × Int × Unit)) (t6x : Int) (t7x : Int) : impl_LeasesRight.L0 k0 (k + 1) K list2 t5x t6x t7x = impl_LeasesRight.R0 (fun (list2 : List (Int × Int × Int × Unit)) (t5x : List (Int × Int × Int × Unit)) (t6x : Int) (t7x : Int) => impl_LeasesRight.L0 k0 k K list2 t5x t6x t7x) (fun (list2 : List (Int × Int × Int × Unit)) (t2x : Bool) => K .ret [(0, .sl ct1 list2), (2, .bool t2x)] []) (fun (list2 : List (Int × Int × Int × Unit)) => K (.exit 0) [(0, .sl ct1 list2), (2, .undef)] []) list2 t5x t6x t7x := by kernel_rfl
theorem impl_LeasesRight.a0 (k0 : Nat) (list : List (Int × Int × Int × Unit)) (list2 : List (Int × Int × Int × Unit)) (t2x : Bool) : impl_LeasesRight.K0 (R := (Bool × Unit)) k0 (finK Try.prog [.tmp 2] ins_impl_LeasesRight outs_impl_LeasesRight (list, ())) .ret [(0, .sl ct1 list2), (2, .bool t2x)] [] = impl_LeasesRight.A0  list list2 t2x := by kernel_rfl
theorem impl_LeasesRight.a1 (k0 : Nat) (list : List (Int × Int × Int × Unit)) (list2 : List (Int × Int × Int × Unit)) : impl_LeasesRight.K0 (R := (Bool × Unit)) k0 (finK Try.prog [.tmp 2] ins_impl_LeasesRight outs_impl_LeasesRight (list, ())) (.exit 0) [(0, .sl ct1 list2), (2, .undef)] [] = impl_LeasesRight.A1  list list2 := by kernel_rfl
theorem impl_LeasesRight.top (k0 : Nat) (list : List (Int × Int × Int × Unit)) : runFn Try.prog impl_LeasesRight.tbl impl_LeasesRight.cfg k0 70 ins_impl_LeasesRight outs_impl_LeasesRight (list, ()) = impl_LeasesRight.T (fun (list2 : List (Int × Int × Int × Unit)) (t5x : List (Int × Int × Int × Unit)) (t6x : Int) (t7x : Int) => impl_LeasesRight.L0 (R := (Bool × Unit)) k0 k0 (impl_LeasesRight.K0 (R := (Bool × Unit)) k0 ((finK Try.prog [.tmp 2] ins_impl_LeasesRight outs_impl_LeasesRight (list, ())))) list2 t5x t6x t7x) list := by kernel_rfl
noncomputable def impl_LeasesRight.G0 {R : Type} (k0 : Nat) (hx0 : ((List (Int × Int × Int × Unit)) → Bool → Option R)) (hx1 : ((List (Int × Int × Int × Unit)) → Option R)) : Nat → (List (Int × Int × Int × Unit)) → (List (Int × Int × Int × Unit)) → Int → Int → Option R
  | 0, _, _, _, _ => none
  | k + 1, list2, t5x, t6x, t7x => impl_LeasesRight.R0 (fun (list2 : List (Int × Int × Int × Unit)) (t5x : List (Int × Int × Int × Unit)) (t6x : Int) (t7x : Int) => impl_LeasesRight.G0 k0 hx0 hx1 k list2 t5x t6x t7x) (fun (list2 : List (Int × Int × Int × Unit)) (t2x : Bool) => hx0 list2 t2x) (fun (list2 : List (Int × Int × Int × Unit)) => hx1 list2) list2 t5x t6x t7x
theorem impl_LeasesRight.g0 {R : Type} (k0 : Nat) (K : Kont R) : ∀ (k : Nat) (list2 : List (Int × Int × Int × Unit)) (t5x : List (Int × Int × Int × Unit)) (t6x : Int) (t7x : Int), impl_LeasesRight.L0 k0 k K list2 t5x t6x t7x = impl_LeasesRight.G0 k0 (fun (list2 : List (Int × Int × Int × Unit)) (t2x : Bool) => K .ret [(0, .sl ct1 list2), (2, .bool t2x)] []) (fun (list2 : List (Int × Int × Int × Unit)) => K (.exit 0) [(0, .sl ct1 list2), (2, .undef)] []) k list2 t5x t6x t7x := by
  intro k
  induction k with
  | zero => intros; rfl
  | succ k ih => intros; rw [impl_LeasesRight.s0, impl_LeasesRight.G0]; (try simp only [ih]); try rfl
noncomputable def impl_LeasesRight.FF (k0 : Nat) (list : List (Int × Int × Int × Unit)) : Option (Bool × Unit) := impl_LeasesRight.T (fun (list2 : List (Int × Int × Int × Unit)) (t5x : List (Int × Int × Int × Unit)) (t6x : Int) (t7x : Int) => impl_LeasesRight.G0 k0 (fun (list2 : List (Int × Int × Int × Unit)) (t2x : Bool) => impl_LeasesRight.A0  list list2 t2x) (fun (list2 : List (Int × Int × Int × Unit)) => impl_LeasesRight.A1  list list2) k0 list2 t5x t6x t7x) list
theorem impl_LeasesRight.run (k0 : Nat) (list : List (Int × Int × Int × Unit)) : runFn Try.prog impl_LeasesRight.tbl impl_LeasesRight.cfg k0 70 ins_impl_LeasesRight outs_impl_LeasesRight (list, ()) = impl_LeasesRight.FF k0 list := by
  rw [impl_LeasesRight.top, impl_LeasesRight.FF]; (try simp only [impl_LeasesRight.g0, impl_LeasesRight.a0, impl_LeasesRight.a1]); try rfl
noncomputable def F_impl_LeasesRight : (List (Int × Int × Int × Unit)) × Unit → Option (Bool × Unit) := fun x => (fun (list : List (Int × Int × Int × Unit)) => impl_LeasesRight.FF (300 + list.length) list) x.1
theorem impl_LeasesRight.tblOK : ∀ g fs S, impl_LeasesRight.tbl g fs = some S → SumOK Try.prog g S := by
  intro g fs S h
  unfold impl_LeasesRight.tbl at h
  split at h
  · rename_i hc; obtain ⟨rfl, rfl⟩ := hc; have := Option.some.inj h; subst this; exact ok_impl_Lease_isRight
  cases h
theorem ok_impl_LeasesRight : SumOK Try.prog 70 ⟨ins_impl_LeasesRight, outs_impl_LeasesRight, F_impl_LeasesRight⟩ := runFn_ok (by kernel_rfl) impl_LeasesRight.tblOK (by kernel_rfl) fun x y h => ⟨impl_LeasesRight.cfg, _, (impl_LeasesRight.run _ x.1).trans h⟩
abbrev ins_impl_ServerRight : List Par := [.v true ct3]
abbrev outs_impl_ServerRight : List (Bool × List CT) := [(false, [CT.bool])]
/-! ### loop.example/g00095/impl.ServerRight (function 41) -/
noncomputable def impl_ServerRight.tbl : Tbl := fun g fs => if g = 31 ∧ fs = [] then some ⟨ins_impl_FarmRight, outs_impl_FarmRight, F_impl_FarmRight⟩ else if g = 69 ∧ fs = [] then some ⟨ins_impl_in, outs_impl_in, F_impl_in⟩ else if g = 70 ∧ fs = [] then some ⟨ins_impl_LeasesRight, outs_impl_LeasesRight, F_impl_LeasesRight⟩ else none
noncomputable def impl_ServerRight.body : Code := ((Try.prog.funcs[41]?).bind (·.body)).getD .skip
def impl_ServerRight.cfg : Nat → List Nat × List Nat := fun k => if k = 4 then ([1, 46, 47, 48], [2]) else ([], [])
noncomputable def impl_ServerRight.R0 {R : Type} (nx0 : ((List (Int × Int × Int × Unit)) → Int → Int → Int → Int → Int → Int → (List (Int × Int × Int × Int × Unit)) → (List (Int × Int × Int × Int × Unit)) → (List (Int × Int × Int × Unit)) → Option R)) (ex0 : (Bool → Option R)) (ex1 : (Unit → Option R)) (t46x : List (Int × Int × Int × Unit)) (t47x : Int) (t48x : Int) (s : Int) (s7 : Int) (s8 : Int) (s9 : Int) (s10 : List (Int × Int × Int × Int × Unit)) (s11 : List (Int × Int × Int × Int × Unit)) (s12 : List (Int × Int × Int × Unit)) : Option R := cond (decide (t48x < t47x)) (if 0 ≤ t48x ∧ t48x < (t46x.length : Int) then if 0 ≤ t48x ∧ t48x < (s11.length : Int) then cond ((rd (0, 0, 0, ()) t46x t48x).1 != (rd (0, 0, 0, 0, ()) s11 t48x).1) (ex0 false) ((F_impl_in ((rd (0, 0, 0, ()) t46x t48x).2.2.1, (w64 (s8 + 1)), (w64 (s8 + s)), ())).bind fun y1 => cond (!y1.1) (ex0 false) (nx0 t46x t47x (w64 (t48x + 1)) s s7 s8 s9 s10 s11 s12)) else none else none) (ex1 ())
noncomputable def impl_ServerRight.A0  (s0 : Int) (s1 : Int) (s2 : Int) (s3 : Int) (s4 : List (Int × Int × Int × Int × Unit)) (s5 : List (Int × Int × Int × Int × Unit)) (s6 : List (Int × Int × Int × Unit)) (t2x : Bool) : Option (Bool × Unit) := some (t2x, ())
noncomputable def impl_ServerRight.A1  (s0 : Int) (s1 : Int) (s2 : Int) (s3 : Int) (s4 : List (Int × Int × Int × Int × Unit)) (s5 : List (Int × Int × Int × Int × Unit)) (s6 : List (Int × Int × Int × Unit)) (_u : Unit) : Option (Bool × Unit) := some (true, ())
noncomputable def impl_ServerRight.T (lo0 : ((List (Int × Int × Int × Unit)) → Int → Int → Int → Int → Int → Int → (List (Int × Int × Int × Int × Unit)) → (List (Int × Int × Int × Int × Unit)) → (List (Int × Int × Int × Unit)) → Option (Bool × Unit))) (s0 : Int) (s1 : Int) (s2 : Int) (s3 : Int) (s4 : List (Int × Int × Int × Int × Unit)) (s5 : List (Int × Int × Int × Int × Unit)) (s6 : List (Int × Int × Int × Unit)) : Option (Bool × Unit) := (F_impl_in (s0, 1, 1000, ())).bind fun y1 => cond (!y1.1) (some (false, ())) ((F_impl_in (s2, 0, 999000, ())).bind fun y2 => cond (!y2.1) (some (false, ())) ((F_impl_in (s1, 0, s2, ())).bind fun y3 => cond (!y3.1) (some (false, ())) ((F_impl_FarmRight (s3, s4, s5, ())).bind fun y4 => cond (!y4.1) (some (false, ())) ((F_impl_LeasesRight (s6, ())).bind fun y5 => cond (!y5.1) (some (false, ())) (cond ((s6.length : Int) != (s5.length : Int)) (some (false, ())) (lo0 s6 (s6.length : Int) 0 s0 s1 s2 s3 s4 s5 s6))))))
noncomputable def impl_ServerRight.st0 {R : Type} (k0 : Nat) : Env → List Ob → Kont R → Option R := fun env ob K => runCode Try.prog impl_ServerRight.tbl 78 0 impl_ServerRight.cfg k0 (codeAt [1, 1, 0, 1, 0, 0] impl_ServerRight.body) env ob K
noncomputable def impl_ServerRight.K0 {R : Type} (k0 : Nat) (K : Kont R) : Kont R := blockK 0 (seqK (fun env ob => runCode Try.prog impl_ServerRight.tbl 78 0 impl_ServerRight.cfg k0 (codeAt [1, 1, 1] impl_ServerRight.body) env ob (K)) (K))
noncomputable def impl_ServerRight.L0 {R : Type} (k0 k : Nat) (K : Kont R) (t46x : List (Int × Int × Int × Unit)) (t47x : Int) (t48x : Int) (s : Int) (s7 : Int) (s8 : Int) (s9 : Int) (s10 : List (Int × Int × Int × Int × Unit)) (s11 : List (Int × Int × Int × Int × Unit)) (s12 : List (Int × Int × Int × Unit)) : Option R := iter 0 [1, 46, 47, 48] [2] (impl_ServerRight.st0 k0) k [(1, .ptr 0 0 0 0), (46, .sl ct1 t46x), (47, .int .i64 t47x), (48, .int .i64 t48x)] [.box [.int .i64 s, .int .i64 s7, .int .i64 s8, .int .i64 s9, .sl ct0 s10, .sl ct0 s11, .sl ct1 s12]] K
theorem impl_ServerRight.s0 {R : Type} (k0 k : Nat) (K : Kont R) (t46x : List (Int × Int × Int × Unit)) (t47x : Int) (t48x : Int) (s : Int) (s7 : Int) (s8 : Int) (s9 : Int) (s10 : List (Int × Int × Int × Int × Unit)) (s11 : List (Int × Int × Int × Int × Unit)) (s12 : List (Int × Int × Int × Unit)) : impl_ServerRight.L0 k0 (k + 1) K t46x t47x t48x s s7 s8 s9 s10 s11 s12 = impl_ServerRight.R0 (fun (t46x : List (Int × Int × Int × Unit)) (t47x : Int) (t48x : Int) (s : Int) (s7 : Int) (s8 : Int) (s9 : Int) (s10 : List (Int × Int × Int × Int × Unit)) (s11 : List (Int × Int × Int × Int × Unit)) (s12 : List (Int × Int × Int × Unit)) => impl_ServerRight.L0 k0 k K t46x t47x t48x s s7 s8 s9 s10 s11 s12) (fun (t2x : Bool) => K .ret [(2, .bool t2x)] []) (fun (_ : Unit) => K (.exit 0) [(2, .undef)] []) t46x t47x t48x s s7 s8 s9 s10 s11 s12 := by kernel_rfl
theorem impl_ServerRight.a0 (k0 : Nat) (s0 : Int) (s1 : Int) (s2 : Int) (s3 : Int) (s4 : List (Int × Int × Int × Int × Unit)) (s5 : List (Int × Int × Int × Int × Unit)) (s6 : List (Int × Int × Int × Unit)) (t2x : Bool) : impl_ServerRight.K0 (R := (Bool × Unit)) k0 (finK Try.prog [.tmp 2] ins_impl_ServerRight outs_impl_ServerRight (s0, s1, s2, s3, s4, s5, s6, ())) .ret [(2, .bool t2x)] [] = impl_ServerRight.A0  s0 s1 s2 s3 s4 s5 s6 t2x := by kernel_rfl
theorem impl_ServerRight.a1 (k0 : Nat) (s0 : Int) (s1 : Int) (s2 : Int) (s3 : Int) (s4 : List (Int × Int × Int × Int × Unit)) (s5 : List (Int × Int × Int × Int × Unit)) (s6 : List (Int × Int × Int × Unit))  : impl_ServerRight.K0 (R := (Bool × Unit)) k0 (finK Try.prog [.tmp 2] ins_impl_ServerRight outs_impl_ServerRight (s0, s1, s2, s3, s4, s5, s6, ())) (.exit 0) [(2, .undef)] [] = impl_ServerRight.A1  s0 s1 s2 s3 s4 s5 s6 () := by kernel_rfl
theorem impl_ServerRight.top (k0 : Nat) (s0 : Int) (s1 : Int) (s2 : Int) (s3 : Int) (s4 : List (Int × Int × Int × Int × Unit)) (s5 : List (Int × Int × Int × Int × Unit)) (s6 : List (Int × Int × Int × Unit)) : runFn Try.prog impl_ServerRight.tbl impl_ServerRight.cfg k0 41 ins_impl_ServerRight outs_impl_ServerRight (s0, s1, s2, s3, s4, s5, s6, ()) = impl_ServerRight.T (fun (t46x : List (Int × Int × Int × Unit)) (t47x : Int) (t48x : Int) (s : Int) (s7 : Int) (s8 : Int) (s9 : Int) (s10 : List (Int × Int × Int × Int × Unit)) (s11 : List (Int × Int × Int × Int × Unit)) (s12 : List (Int × Int × Int × Unit)) => impl_ServerRight.L0 (R := (Bool × Unit)) k0 k0 (impl_ServerRight.K0 (R := (Bool × Unit)) k0 ((finK Try.prog [.tmp 2] ins_impl_ServerRight outs_impl_ServerRight (s0, s1, s2, s3, s4, s5, s6, ())))) t46x t47x t48x s s7 s8 s9 s10 s11 s12) s0 s1 s2 s3 s4 s5 s6 := by kernel_rfl
noncomputable def impl_ServerRight.G0 {R : Type} (k0 : Nat) (hx0 : (Bool → Option R)) (hx1 : (Unit → Option R)) : Nat → (List (Int × Int × Int × Unit)) → Int → Int → Int → Int → Int → Int → (List (Int × Int × Int × Int × Unit)) → (List (Int × Int × Int × Int × Unit)) → (List (Int × Int × Int × Unit)) → Option R
  | 0, _, _, _, _, _, _, _, _, _, _ => none
  | k + 1, t46x, t47x, t48x, s, s7, s8, s9, s10, s11, s12 => impl_ServerRight.R0 (fun (t46x : List (Int × Int × Int × Unit)) (t47x : Int) (t48x : Int) (s : Int) (s7 : Int) (s8 : Int) (s9 : Int) (s10 : List (Int × Int × Int × Int × Unit)) (s11 : List (Int × Int × Int × Int × Unit)) (s12 : List (Int × Int × Int × Unit)) => impl_ServerRight.G0 k0 hx0 hx1 k t46x t47x t48x s s7 s8 s9 s10 s11 s12) (fun (t2x : Bool) => hx0 t2x) (fun (_ : Unit) => hx1 ()) t46x t47x t48x s s7 s8 s9 s10 s11 s12
theorem impl_ServerRight.g0 {R : Type} (k0 : Nat) (K : Kont R) : ∀ (k : Nat) (t46x : List (Int × Int × Int × Unit)) (t47x : Int) (t48x : Int) (s : Int) (s7 : Int) (s8 : Int) (s9 : Int) (s10 : List (Int × Int × Int × Int × Unit)) (s11 : List (Int × Int × Int × Int × Unit)) (s12 : List (Int × Int × Int × Unit)), impl_ServerRight.L0 k0 k K t46x t47x t48x s s7 s8 s9 s10 s11 s12 = impl_ServerRight.G0 k0 (fun (t2x : Bool) => K .ret [(2, .bool t2x)] []) (fun (_ : Unit) => K (.exit 0) [(2, .undef)] []) k t46x t47x t48x s s7 s8 s9 s10 s11 s12 := by
  intro k
  induction k with
  | zero => intros; rfl
  | succ k ih => intros; rw [impl_ServerRight.s0, impl_ServerRight.G0]; (try simp only [ih]); try rfl
noncomputable def impl_ServerRight.FF (k0 : Nat) (s0 : Int) (s1 : Int) (s2 : Int) (s3 : Int) (s4 : List (Int × Int × Int × Int × Unit)) (s5 : List (Int × Int × Int × Int × Unit)) (s6 : List (Int × Int × Int × Unit)) : Option (Bool × Unit) := impl_ServerRight.T (fun (t46x : List (Int × Int × Int × Unit)) (t47x : Int) (t48x : Int) (s : Int) (s7 : Int) (s8 : Int) (s9 : Int) (s10 : List (Int × Int × Int × Int × Unit)) (s11 : List (Int × Int × Int × Int × Unit)) (s12 : List (Int × Int × Int × Unit)) => impl_ServerRight.G0 k0 (fun (t2x : Bool) => impl_ServerRight.A0  s0 s1 s2 s3 s4 s5 s6 t2x) (fun (_ : Unit) => impl_ServerRight.A1  s0 s1 s2 s3 s4 s5 s6 ()) k0 t46x t47x t48x s s7 s8 s9 s10 s11 s12) s0 s1 s2 s3 s4 s5 s6
theorem impl_ServerRight.run (k0 : Nat) (s0 : Int) (s1 : Int) (s2 : Int) (s3 : Int) (s4 : List (Int × Int × Int × Int × Unit)) (s5 : List (Int × Int × Int × Int × Unit)) (s6 : List (Int × Int × Int × Unit)) : runFn Try.prog impl_ServerRight.tbl impl_ServerRight.cfg k0 41 ins_impl_ServerRight outs_impl_ServerRight (s0, s1, s2, s3, s4, s5, s6, ()) = impl_ServerRight.FF k0 s0 s1 s2 s3 s4 s5 s6 := by
  rw [impl_ServerRight.top, impl_ServerRight.FF]; (try simp only [impl_ServerRight.g0, impl_ServerRight.a0, impl_ServerRight.a1]); try rfl
noncomputable def F_impl_ServerRight : Int × Int × Int × Int × (List (Int × Int × Int × Int × Unit)) × (List (Int × Int × Int × Int × Unit)) × (List (Int × Int × Int × Unit)) × Unit → Option (Bool × Unit) := fun x => (fun (s0 : Int) (s1 : Int) (s2 : Int) (s3 : Int) (s4 : List (Int × Int × Int × Int × Unit)) (s5 : List (Int × Int × Int × Int × Unit)) (s6 : List (Int × Int × Int × Unit)) => impl_ServerRight.FF (300 + s4.length + s5.length + s6.length) s0 s1 s2 s3 s4 s5 s6) x.1 x.2.1 x.2.2.1 x.2.2.2.1 x.2.2.2.2.1 x.2.2.2.2.2.1 x.2.2.2.2.2.2.1
theorem impl_ServerRight.tblOK : ∀ g fs S, impl_ServerRight.tbl g fs = some S → SumOK Try.prog g S := by
  intro g fs S h
  unfold impl_ServerRight.tbl at h
  split at h
  · rename_i hc; obtain ⟨rfl, rfl⟩ := hc; have := Option.some.inj h; subst this; exact ok_impl_FarmRight
  split at h
  · rename_i hc; obtain ⟨rfl, rfl⟩ := hc; have := Option.some.inj h; subst this; exact ok_impl_in
  split at h
  · rename_i hc; obtain ⟨rfl, rfl⟩ := hc; have := Option.some.inj h; subst this; exact ok_impl_LeasesRight
  cases h
theorem ok_impl_ServerRight : SumOK Try.prog 41 ⟨ins_impl_ServerRight, outs_impl_ServerRight, F_impl_ServerRight⟩ := runFn_ok (by kernel_rfl) impl_ServerRight.tblOK (by kernel_rfl) fun x y h => ⟨impl_ServerRight.cfg, _, (impl_ServerRight.run _ x.1 x.2.1 x.2.2.1 x.2.2.2.1 x.2.2.2.2.1 x.2.2.2.2.2.1 x.2.2.2.2.2.2.1).trans h⟩
abbrev ins_impl_ClientRight : List Par := [.v true ct5]
abbrev outs_impl_ClientRight : List (Bool × List CT) := [(false, [CT.bool])]
/-! ### loop.example/g00095/impl.ClientRight (function 42) -/
noncomputable def impl_ClientRight.tbl : Tbl := fun g fs => if g = 57 ∧ fs = [] then some ⟨ins_impl_isWant, outs_impl_isWant, F_impl_isWant⟩ else if g = 58 ∧ fs = [] then some ⟨ins_impl_isId, outs_impl_isId, F_impl_isId⟩ else if g = 59 ∧ fs = [] then some ⟨ins_impl_isWeight, outs_impl_isWeight, F_impl_isWeight⟩ else if g = 69 ∧ fs = [] then some ⟨ins_impl_in, outs_impl_in, F_impl_in⟩ else if g = 71 ∧ fs = [] then some ⟨ins_impl_isTime, outs_impl_isTime, F_impl_isTime⟩ else none
noncomputable def impl_ClientRight.body : Code := ((Try.prog.funcs[42]?).bind (·.body)).getD .skip
def impl_ClientRight.cfg : Nat → List Nat × List Nat := fun k => ([], [])
noncomputable def impl_ClientRight.T  (c0 : Int) (c1 : Int) (c2 : Int) (c3 : Int) (c4 : Int) (c5 : Int) (c6 : Int) (c7 : Int) (c8 : Int) (c9 : Int) : Option (Bool × Unit) := (F_impl_isId (c0, ())).bind fun y1 => cond y1.1 (cond (c1 == 0) ((F_impl_isWant (c2, ())).bind fun y2 => cond y2.1 ((F_impl_isWeight (c3, ())).bind fun y3 => cond y3.1 ((F_impl_isWant (c4, ())).bind fun y4 => cond y4.1 ((F_impl_isTime (c5, ())).bind fun y5 => cond y5.1 ((F_impl_isTime (c6, ())).bind fun y6 => cond y6.1 ((F_impl_isTime (c7, ())).bind fun y7 => cond y7.1 ((F_impl_isTime (c9, ())).bind fun y8 => cond y8.1 ((F_impl_in (c8, 1, 64, ())).bind fun y9 => some (y9.1, ())) (some (false, ()))) (some (false, ()))) (some (false, ()))) (some (false, ()))) (some (false, ()))) (some (false, ()))) (some (false, ()))) ((F_impl_isId (c1, ())).bind fun y10 => cond y10.1 ((F_impl_isWant (c2, ())).bind fun y11 => cond y11.1 ((F_impl_isWeight (c3, ())).bind fun y12 => cond y12.1 ((F_impl_isWant (c4, ())).bind fun y13 => cond y13.1 ((F_impl_isTime (c5, ())).bind fun y14 => cond y14.1 ((F_impl_isTime (c6, ())).bind fun y15 => cond y15.1 ((F_impl_isTime (c7, ())).bind fun y16 => cond y16.1 ((F_impl_isTime (c9, ())).bind fun y17 => cond y17.1 ((F_impl_in (c8, 1, 64, ())).bind fun y18 => some (y18.1, ())) (some (false, ()))) (some (false, ()))) (some (false, ()))) (some (false, ()))) (some (false, ()))) (some (false, ()))) (some (false, ()))) (some (false, ())))) (some (false, ()))
theorem impl_ClientRight.top (k0 : Nat) (c0 : Int) (c1 : Int) (c2 : Int) (c3 : Int) (c4 : Int) (c5 : Int) (c6 : Int) (c7 : Int) (c8 : Int) (c9 : Int) : runFn Try.prog impl_ClientRight.tbl impl_ClientRight.cfg k0 42 ins_impl_ClientRight outs_impl_ClientRight (c0, c1, c2, c3, c4, c5, c6, c7, c8, c9, ()) = impl_ClientRight.T  c0 c1 c2 c3 c4 c5 c6 c7 c8 c9 := by kernel_rfl
noncomputable def F_impl_ClientRight : Int × Int × Int × Int × Int × Int × Int × Int × Int × Int × Unit → Option (Bool × Unit) := fun x => impl_ClientRight.T x.1 x.2.1 x.2.2.1 x.2.2.2.1 x.2.2.2.2.1 x.2.2.2.2.2.1 x.2.2.2.2.2.2.1 x.2.2.2.2.2.2.2.1 x.2.2.2.2.2.2.2.2.1 x.2.2.2.2.2.2.2.2.2.1
theorem impl_ClientRight.tblOK : ∀ g fs S, impl_ClientRight.tbl g fs = some S → SumOK Try.prog g S := by
  intro g fs S h
  unfold impl_ClientRight.tbl at h
  split at h
  · rename_i hc; obtain ⟨rfl, rfl⟩ := hc; have := Option.some.inj h; subst this; exact ok_impl_isWant
  split at h
  · rename_i hc; obtain ⟨rfl, rfl⟩ := hc; have := Option.some.inj h; subst this; exact ok_impl_isId
  split at h
  · rename_i hc; obtain ⟨rfl, rfl⟩ := hc; have := Option.some.inj h; subst this; exact ok_impl_isWeight
  split at h
  · rename_i hc; obtain ⟨rfl, rfl⟩ := hc; have := Option.some.inj h; subst this; exact ok_impl_in
  split at h
  · rename_i hc; obtain ⟨rfl, rfl⟩ := hc; have := Option.some.inj h; subst this; exact ok_impl_isTime
  cases h
theorem ok_impl_ClientRight : SumOK Try.prog 42 ⟨ins_impl_ClientRight, outs_impl_ClientRight, F_impl_ClientRight⟩ := runFn_ok (by kernel_rfl) impl_ClientRight.tblOK (by kernel_rfl) fun x y h => ⟨impl_ClientRight.cfg, 0, (impl_ClientRight.top 0 x.1 x.2.1 x.2.2.1 x.2.2.2.1 x.2.2.2.2.1 x.2.2.2.2.2.1 x.2.2.2.2.2.2.1 x.2.2.2.2.2.2.2.1 x.2.2.2.2.2.2.2.2.1 x.2.2.2.2.2.2.2.2.2.1).trans h⟩
abbrev ins_impl_RelayRight : List Par := [.v true ct2]
abbrev outs_impl_RelayRight : List (Bool × List CT) := [(false, [CT.bool])]
/-! ### loop.example/g00095/impl.RelayRight (function 15) -/
noncomputable def impl_RelayRight.tbl : Tbl := fun g fs => if g = 41 ∧ fs = [] then some ⟨ins_impl_ServerRight, outs_impl_ServerRight, F_impl_ServerRight⟩ else if g = 42 ∧ fs = [] then some ⟨ins_impl_ClientRight, outs_impl_ClientRight, F_impl_ClientRight⟩ else none
noncomputable def impl_RelayRight.body : Code := ((Try.prog.funcs[15]?).bind (·.body)).getD .skip
def impl_RelayRight.cfg : Nat → List Nat × List Nat := fun k => ([], [])
noncomputable def impl_RelayRight.T  (r0 : Int) (r1 : Int) (r2 : Int) (r3 : Int) (r4 : List (Int × Int × Int × Int × Unit)) (r5 : List (Int × Int × Int × Int × Unit)) (r6 : List (Int × Int × Int × Unit)) (r7 : Int) (r8 : Int) (r9 : Int) (r10 : Int) (r11 : Int) (r12 : Int) (r13 : Int) (r14 : Int) (r15 : Int) (r16 : Int) : Option (Bool × Unit) := (F_impl_ServerRight (r0, r1, r2, r3, r4, r5, r6, ())).bind fun y1 => cond y1.1 ((F_impl_ClientRight (r7, r8, r9, r10, r11, r12, r13, r14, r15, r16, ())).bind fun y2 => some (y2.1, ())) (some (false, ()))
theorem impl_RelayRight.top (k0 : Nat) (r0 : Int) (r1 : Int) (r2 : Int) (r3 : Int) (r4 : List (Int × Int × Int × Int × Unit)) (r5 : List (Int × Int × Int × Int × Unit)) (r6 : List (Int × Int × Int × Unit)) (r7 : Int) (r8 : Int) (r9 : Int) (r10 : Int) (r11 : Int) (r12 : Int) (r13 : Int) (r14 : Int) (r15 : Int) (r16 : Int) : runFn Try.prog impl_RelayRight.tbl impl_RelayRight.cfg k0 15 ins_impl_RelayRight outs_impl_RelayRight (r0, r1, r2, r3, r4, r5, r6, r7, r8, r9, r10, r11, r12, r13, r14, r15, r16, ()) = impl_RelayRight.T  r0 r1 r2 r3 r4 r5 r6 r7 r8 r9 r10 r11 r12 r13 r14 r15 r16 := by kernel_rfl
noncomputable def F_impl_RelayRight : Int × Int × Int × Int × (List (Int × Int × Int × Int × Unit)) × (List (Int × Int × Int × Int × Unit)) × (List (Int × Int × Int × Unit)) × Int × Int × Int × Int × Int × Int × Int × Int × Int × Int × Unit → Option (Bool × Unit) := fun x => impl_RelayRight.T x.1 x.2.1 x.2.2.1 x.2.2.2.1 x.2.2.2.2.1 x.2.2.2.2.2.1 x.2.2.2.2.2.2.1 x.2.2.2.2.2.2.2.1 x.2.2.2.2.2.2.2.2.1 x.2.2.2.2.2.2.2.2.2.1 x.2.2.2.2.2.2.2.2.2.2.1 x.2.2.2.2.2.2.2.2.2.2.2.1 x.2.2.2.2.2.2.2.2.2.2.2.2.1 x.2.2.2.2.2.2.2.2.2.2.2.2.2.1 x.2.2.2.2.2.2.2.2.2.2.2.2.2.2.1 x.2.2.2.2.2.2.2.2.2.2.2.2.2.2.2.1 x.2.2.2.2.2.2.2.2.2.2.2.2.2.2.2.2.1
theorem impl_RelayRight.tblOK : ∀ g fs S, impl_RelayRight.tbl g fs = some S → SumOK Try.prog g S := by
  intro g fs S h
  unfold impl_RelayRight.tbl at h
  split at h
  · rename_i hc; obtain ⟨rfl, rfl⟩ := hc; have := Option.some.inj h; subst this; exact ok_impl_ServerRight
  split at h
  · rename_i hc; obtain ⟨rfl, rfl⟩ := hc; have := Option.some.inj h; subst this; exact ok_impl_ClientRight
  cases h
theorem ok_impl_RelayRight : SumOK Try.prog 15 ⟨ins_impl_RelayRight, outs_impl_RelayRight, F_impl_RelayRight⟩ := runFn_ok (by kernel_rfl) impl_RelayRight.tblOK (by kernel_rfl) fun x y h => ⟨impl_RelayRight.cfg, 0, (impl_RelayRight.top 0 x.1 x.2.1 x.2.2.1 x.2.2.2.1 x.2.2.2.2.1 x.2.2.2.2.2.1 x.2.2.2.2.2.2.1 x.2.2.2.2.2.2.2.1 x.2.2.2.2.2.2.2.2.1 x.2.2.2.2.2.2.2.2.2.1 x.2.2.2.2.2.2.2.2.2.2.1 x.2.2.2.2.2.2.2.2.2.2.2.1 x.2.2.2.2.2.2.2.2.2.2.2.2.1 x.2.2.2.2.2.2.2.2.2.2.2.2.2.1 x.2.2.2.2.2.2.2.2.2.2.2.2.2.2.1 x.2.2.2.2.2.2.2.2.2.2.2.2.2.2.2.1 x.2.2.2.2.2.2.2.2.2.2.2.2.2.2.2.2.1).trans h⟩
abbrev ins_impl_mayStart : List Par := [.v false [CT.int .i64], .v false [CT.int .i64]]
abbrev outs_impl_mayStart : List (Bool × List CT) := [(false, [CT.bool])]
/-! ### loop.example/g00095/impl.mayStart (function 73) -/
noncomputable def impl_mayStart.tbl : Tbl := fun g fs => if g = 57 ∧ fs = [] then some ⟨ins_impl_isWant, outs_impl_isWant, F_impl_isWant⟩ else if g = 69 ∧ fs = [] then some ⟨ins_impl_in, outs_impl_in, F_impl_in⟩ else none
noncomputable def impl_mayStart.body : Code := ((Try.prog.funcs[73]?).bind (·.body)).getD .skip
def impl_mayStart.cfg : Nat → List Nat × List Nat := fun k => ([], [])
noncomputable def impl_mayStart.T  (length : Int) (cap : Int) : Option (Bool × Unit) := (F_impl_in (length, 1, 1000, ())).bind fun y1 => cond y1.1 ((F_impl_isWant (cap, ())).bind fun y2 => some (y2.1, ())) (some (false, ()))
theorem impl_mayStart.top (k0 : Nat) (length : Int) (cap : Int) : runFn Try.prog impl_mayStart.tbl impl_mayStart.cfg k0 73 ins_impl_mayStart outs_impl_mayStart (length, cap, ()) = impl_mayStart.T  length cap := by kernel_rfl
noncomputable def F_impl_mayStart : Int × Int × Unit → Option (Bool × Unit) := fun x => impl_mayStart.T x.1 x.2.1
theorem impl_mayStart.tblOK : ∀ g fs S, impl_mayStart.tbl g fs = some S → SumOK Try.prog g S := by
  intro g fs S h
  unfold impl_mayStart.tbl at h
  split at h
  · rename_i hc; obtain ⟨rfl, rfl⟩ := hc; have := Option.some.inj h; subst this; exact ok_impl_isWant
  split at h
  · rename_i hc; obtain ⟨rfl, rfl⟩ := hc; have := Option.some.inj h; subst this; exact ok_impl_in
  cases h
theorem ok_impl_mayStart : SumOK Try.prog 73 ⟨ins_impl_mayStart, outs_impl_mayStart, F_impl_mayStart⟩ := runFn_ok (by kernel_rfl) impl_mayStart.tblOK (by kernel_rfl) fun x y h => ⟨impl_mayStart.cfg, 0, (impl_mayStart.top 0 x.1 x.2.1).trans h⟩
abbrev ins_impl_ServerNew : List Par := [.v false [CT.int .i64], .v false [CT.int .i64]]
abbrev outs_impl_ServerNew : List (Bool × List CT) := [(true, ct3)]
/-! ### loop.example/g00095/impl.ServerNew (function 47) -/
noncomputable def impl_ServerNew.tbl : Tbl := fun g fs => if g = 73 ∧ fs = [] then some ⟨ins_impl_mayStart, outs_impl_mayStart, F_impl_mayStart⟩ else none
noncomputable def impl_ServerNew.body : Code := ((Try.prog.funcs[47]?).bind (·.body)).getD .skip
def impl_ServerNew.cfg : Nat → List Nat × List Nat := fun k => ([], [])
noncomputable def impl_ServerNew.T  (length : Int) (cap : Int) : Option (Int × Int × Int × Int × (List (Int × Int × Int × Int × Unit)) × (List (Int × Int × Int × Int × Unit)) × (List (Int × Int × Int × Unit)) × Unit) := (F_impl_mayStart (length, cap, ())).bind fun y1 => cond (!y1.1) (some (0, 0, 0, 0, [], [], [], ())) (some (length, 0, 0, cap, [], [], [], ()))
theorem impl_ServerNew.top (k0 : Nat) (length : Int) (cap : Int) : runFn Try.prog impl_ServerNew.tbl impl_ServerNew.cfg k0 47 ins_impl_ServerNew outs_impl_ServerNew (length, cap, ()) = impl_ServerNew.T  length cap := by kernel_rfl
noncomputable def F_impl_ServerNew : Int × Int × Unit → Option (Int × Int × Int × Int × (List (Int × Int × Int × Int × Unit)) × (List (Int × Int × Int × Int × Unit)) × (List (Int × Int × Int × Unit)) × Unit) := fun x => impl_ServerNew.T x.1 x.2.1
theorem impl_ServerNew.tblOK : ∀ g fs S, impl_ServerNew.tbl g fs = some S → SumOK Try.prog g S := by
  intro g fs S h
  unfold impl_ServerNew.tbl at h
  split at h
  · rename_i hc; obtain ⟨rfl, rfl⟩ := hc; have := Option.some.inj h; subst this; exact ok_impl_mayStart
  cases h
theorem ok_impl_ServerNew : SumOK Try.prog 47 ⟨ins_impl_ServerNew, outs_impl_ServerNew, F_impl_ServerNew⟩ := runFn_ok (by kernel_rfl) impl_ServerNew.tblOK (by kernel_rfl) fun x y h => ⟨impl_ServerNew.cfg, 0, (impl_ServerNew.top 0 x.1 x.2.1).trans h⟩
abbrev ins_impl_ClientNew : List Par := [.v false [CT.int .i64], .v false [CT.int .i64], .v false [CT.int .i64], .v false [CT.int .i64]]
abbrev outs_impl_ClientNew : List (Bool × List CT) := [(true, ct5)]
/-! ### loop.example/g00095/impl.ClientNew (function 48) -/
noncomputable def impl_ClientNew.tbl : Tbl := fun g fs => if g = 42 ∧ fs = [] then some ⟨ins_impl_ClientRight, outs_impl_ClientRight, F_impl_ClientRight⟩ else none
noncomputable def impl_ClientNew.body : Code := ((Try.prog.funcs[48]?).bind (·.body)).getD .skip
def impl_ClientNew.cfg : Nat → List Nat × List Nat := fun k => ([], [])
noncomputable def impl_ClientNew.T  (id : Int) (group : Int) (want : Int) (weight : Int) : Option (Int × Int × Int × Int × Int × Int × Int × Int × Int × Int × Unit) := (F_impl_ClientRight (id, group, want, weight, 0, 0, 0, 0, 1, 0, ())).bind fun y1 => cond (!y1.1) (some (0, 0, 0, 0, 0, 0, 0, 0, 0, 0, ())) (some (id, group, want, weight, 0, 0, 0, 0, 1, 0, ()))
theorem impl_ClientNew.top (k0 : Nat) (id : Int) (group : Int) (want : Int) (weight : Int) : runFn Try.prog impl_ClientNew.tbl impl_ClientNew.cfg k0 48 ins_impl_ClientNew outs_impl_ClientNew (id, group, want, weight, ()) = impl_ClientNew.T  id group want weight := by kernel_rfl
noncomputable def F_impl_ClientNew : Int × Int × Int × Int × Unit → Option (Int × Int × Int × Int × Int × Int × Int × Int × Int × Int × Unit) := fun x => impl_ClientNew.T x.1 x.2.1 x.2.2.1 x.2.2.2.1
theorem impl_ClientNew.tblOK : ∀ g fs S, impl_ClientNew.tbl g fs = some S → SumOK Try.prog g S := by
  intro g fs S h
  unfold impl_ClientNew.tbl at h
  split at h
  · rename_i hc; obtain ⟨rfl, rfl⟩ := hc; have := Option.some.inj h; subst this; exact ok_impl_ClientRight
  cases h
theorem ok_impl_ClientNew : SumOK Try.prog 48 ⟨ins_impl_ClientNew, outs_impl_ClientNew, F_impl_ClientNew⟩ := runFn_ok (by kernel_rfl) impl_ClientNew.tblOK (by kernel_rfl) fun x y h => ⟨impl_ClientNew.cfg, 0, (impl_ClientNew.top 0 x.1 x.2.1 x.2.2.1 x.2.2.2.1).trans h⟩
abbrev ins_impl_RelayNew : List Par := [.v false [CT.int .i64], .v false [CT.int .i64], .v false [CT.int .i64]]
abbrev outs_impl_RelayNew : List (Bool × List CT) := [(true, ct2)]
/-! ### loop.example/g00095/impl.RelayNew (function 18) -/
noncomputable def impl_RelayNew.tbl : Tbl := fun g fs => if g = 15 ∧ fs = [] then some ⟨ins_impl_RelayRight, outs_impl_RelayRight, F_impl_RelayRight⟩ else if g = 47 ∧ fs = [] then some ⟨ins_impl_ServerNew, outs_impl_ServerNew, F_impl_ServerNew⟩ else if g = 48 ∧ fs = [] then some ⟨ins_impl_ClientNew, outs_impl_ClientNew, F_impl_ClientNew⟩ else none
noncomputable def impl_RelayNew.body : Code := ((Try.prog.funcs[18]?).bind (·.body)).getD .skip
def impl_RelayNew.cfg : Nat → List Nat × List Nat := fun k => ([], [])
noncomputable def impl_RelayNew.T  (id : Int) (weight : Int) (length : Int) : Option (Int × Int × Int × Int × (List (Int × Int × Int × Int × Unit)) × (List (Int × Int × Int × Int × Unit)) × (List (Int × Int × Int × Unit)) × Int × Int × Int × Int × Int × Int × Int × Int × Int × Int × Unit) := (F_impl_ServerNew (length, 0, ())).bind fun y1 => (F_impl_ClientNew (id, 0, 0, weight, ())).bind fun y2 => (F_impl_RelayRight (y1.1, y1.2.1, y1.2.2.1, y1.2.2.2.1, y1.2.2.2.2.1, y1.2.2.2.2.2.1, y1.2.2.2.2.2.2.1, y2.1, y2.2.1, y2.2.2.1, y2.2.2.2.1, y2.2.2.2.2.1, y2.2.2.2.2.2.1, y2.2.2.2.2.2.2.1, y2.2.2.2.2.2.2.2.1, y2.2.2.2.2.2.2.2.2.1, y2.2.2.2.2.2.2.2.2.2.1, ())).bind fun y3 => cond (!y3.1) (some (0, 0, 0, 0, [], [], [], 0, 0, 0, 0, 0, 0, 0, 0, 0, 0, ())) (some (y1.1, y1.2.1, y1.2.2.1, y1.2.2.2.1, y1.2.2.2.2.1, y1.2.2.2.2.2.1, y1.2.2.2.2.2.2.1, y2.1, y2.2.1, y2.2.2.1, y2.2.2.2.1, y2.2.2.2.2.1, y2.2.2.2.2.2.1, y2.2.2.2.2.2.2.1, y2.2.2.2.2.2.2.2.1, y2.2.2.2.2.2.2.2.2.1, y2.2.2.2.2.2.2.2.2.2.1, ()))
theorem impl_RelayNew.top (k0 : Nat) (id : Int) (weight : Int) (length : Int) : runFn Try.prog impl_RelayNew.tbl impl_RelayNew.cfg k0 18 ins_impl_RelayNew outs_impl_RelayNew (id, weight, length, ()) = impl_RelayNew.T  id weight length := by kernel_rfl
noncomputable def F_impl_RelayNew : Int × Int × Int × Unit → Option (Int × Int × Int × Int × (List (Int × Int × Int × Int × Unit)) × (List (Int × Int × Int × Int × Unit)) × (List (Int × Int × Int × Unit)) × Int × Int × Int × Int × Int × Int × Int × Int × Int × Int × Unit) := fun x => impl_RelayNew.T x.1 x.2.1 x.2.2.1
theorem impl_RelayNew.tblOK : ∀ g fs S, impl_RelayNew.tbl g fs = some S → SumOK Try.prog g S := by
  intro g fs S h
  unfold impl_RelayNew.tbl at h
  split at h
  · rename_i hc; obtain ⟨rfl, rfl⟩ := hc; have := Option.some.inj h; subst this; exact ok_impl_RelayRight
  split at h
  · rename_i hc; obtain ⟨rfl, rfl⟩ := hc; have := Option.some.inj h; subst this; exact ok_impl_ServerNew
  split at h
  · rename_i hc; obtain ⟨rfl, rfl⟩ := hc; have := Option.some.inj h; subst this; exact ok_impl_ClientNew
  cases h
theorem ok_impl_RelayNew : SumOK Try.prog 18 ⟨ins_impl_RelayNew, outs_impl_RelayNew, F_impl_RelayNew⟩ := runFn_ok (by kernel_rfl) impl_RelayNew.tblOK (by kernel_rfl) fun x y h => ⟨impl_RelayNew.cfg, 0, (impl_RelayNew.top 0 x.1 x.2.1 x.2.2.1).trans h⟩
abbrev ins_laws_markGroupS : List Par := [.w false [CT.sl ct0], .v false [CT.int .i64]]
abbrev outs_laws_markGroupS : List (Bool × List CT) := [(false, [CT.int .i64])]
/-! ### loop.example/g00095/laws.markGroupS (function 85) -/
noncomputable def laws_markGroupS.tbl : Tbl := fun g fs => none
noncomputable def laws_markGroupS.body : Code := ((Try.prog.funcs[85]?).bind (·.body)).getD .skip
def laws_markGroupS.cfg : Nat → List Nat × List Nat := fun k => if k = 2 then ([0, 1, 5], [1]) else ([], [])
noncomputable def laws_markGroupS.R0 {R : Type} (nx0 : (Int → Int → (List (Int × Int × Int × Int × Unit)) → Option R)) (ex0 : (Int → (List (Int × Int × Int × Int × Unit)) → Option R)) (kx : Int) (i : Int) (a2 : List (Int × Int × Int × Int × Unit)) : Option R := cond (decide (i < (a2.length : Int))) (if 0 ≤ i ∧ i < (a2.length : Int) then if 0 ≤ i ∧ i < ((a2.set i.toNat (kx, (a2.getD i.toNat (0, 0, 0, 0, ())).2.1, (a2.getD i.toNat (0, 0, 0, 0, ())).2.2.1, (a2.getD i.toNat (0, 0, 0, 0, ())).2.2.2.1, ())).length : Int) then if 0 ≤ i ∧ i < (((a2.set i.toNat (kx, (a2.getD i.toNat (0, 0, 0, 0, ())).2.1, (a2.getD i.toNat (0, 0, 0, 0, ())).2.2.1, (a2.getD i.toNat (0, 0, 0, 0, ())).2.2.2.1, ())).set i.toNat (((a2.set i.toNat (kx, (a2.getD i.toNat (0, 0, 0, 0, ())).2.1, (a2.getD i.toNat (0, 0, 0, 0, ())).2.2.1, (a2.getD i.toNat (0, 0, 0, 0, ())).2.2.2.1, ())).getD i.toNat (0, 0, 0, 0, ())).1, (w64 (kx + 1)), ((a2.set i.toNat (kx, (a2.getD i.toNat (0, 0, 0, 0, ())).2.1, (a2.getD i.toNat (0, 0, 0, 0, ())).2.2.1, (a2.getD i.toNat (0, 0, 0, 0, ())).2.2.2.1, ())).getD i.toNat (0, 0, 0, 0, ())).2.2.1, ((a2.set i.toNat (kx, (a2.getD i.toNat (0, 0, 0, 0, ())).2.1, (a2.getD i.toNat (0, 0, 0, 0, ())).2.2.1, (a2.getD i.toNat (0, 0, 0, 0, ())).2.2.2.1, ())).getD i.toNat (0, 0, 0, 0, ())).2.2.2.1, ())).length : Int) then if 0 ≤ i ∧ i < ((((a2.set i.toNat (kx, (a2.getD i.toNat (0, 0, 0, 0, ())).2.1, (a2.getD i.toNat (0, 0, 0, 0, ())).2.2.1, (a2.getD i.toNat (0, 0, 0, 0, ())).2.2.2.1, ())).set i.toNat (((a2.set i.toNat (kx, (a2.getD i.toNat (0, 0, 0, 0, ())).2.1, (a2.getD i.toNat (0, 0, 0, 0, ())).2.2.1, (a2.getD i.toNat (0, 0, 0, 0, ())).2.2.2.1, ())).getD i.toNat (0, 0, 0, 0, ())).1, (w64 (kx + 1)), ((a2.set i.toNat (kx, (a2.getD i.toNat (0, 0, 0, 0, ())).2.1, (a2.getD i.toNat (0, 0, 0, 0, ())).2.2.1, (a2.getD i.toNat (0, 0, 0, 0, ())).2.2.2.1, ())).getD i.toNat (0, 0, 0, 0, ())).2.2.1, ((a2.set i.toNat (kx, (a2.getD i.toNat (0, 0, 0, 0, ())).2.1, (a2.getD i.toNat (0, 0, 0, 0, ())).2.2.1, (a2.getD i.toNat (0, 0, 0, 0, ())).2.2.2.1, ())).getD i.toNat (0, 0, 0, 0, ())).2.2.2.1, ())).set i.toNat ((((a2.set i.toNat (kx, (a2.getD i.toNat (0, 0, 0, 0, ())).2.1, (a2.getD i.toNat (0, 0, 0, 0, ())).2.2.1, (a2.getD i.toNat (0, 0, 0, 0, ())).2.2.2.1, ())).set i.toNat (((a2.set i.toNat (kx, (a2.getD i.toNat (0, 0, 0, 0, ())).2.1, (a2.getD i.toNat (0, 0, 0, 0, ())).2.2.1, (a2.getD i.toNat (0, 0, 0, 0, ())).2.2.2.1, ())).getD i.toNat (0, 0, 0, 0, ())).1, (w64 (kx + 1)), ((a2.set i.toNat (kx, (a2.getD i.toNat (0, 0, 0, 0, ())).2.1, (a2.getD i.toNat (0, 0, 0, 0, ())).2.2.1, (a2.getD i.toNat (0, 0, 0, 0, ())).2.2.2.1, ())).getD i.toNat (0, 0, 0, 0, ())).2.2.1, ((a2.set i.toNat (kx, (a2.getD i.toNat (0, 0, 0, 0, ())).2.1, (a2.getD i.toNat (0, 0, 0, 0, ())).2.2.1, (a2.getD i.toNat (0, 0, 0, 0, ())).2.2.2.1, ())).getD i.toNat (0, 0, 0, 0, ())).2.2.2.1, ())).getD i.toNat (0, 0, 0, 0, ())).1, (((a2.set i.toNat (kx, (a2.getD i.toNat (0, 0, 0, 0, ())).2.1, (a2.getD i.toNat (0, 0, 0, 0, ())).2.2.1, (a2.getD i.toNat (0, 0, 0, 0, ())).2.2.2.1, ())).set i.toNat (((a2.set i.toNat (kx, (a2.getD i.toNat (0, 0, 0, 0, ())).2.1, (a2.getD i.toNat (0, 0, 0, 0, ())).2.2.1, (a2.getD i.toNat (0, 0, 0, 0, ())).2.2.2.1, ())).getD i.toNat (0, 0, 0, 0, ())).1, (w64 (kx + 1)), ((a2.set i.toNat (kx, (a2.getD i.toNat (0, 0, 0, 0, ())).2.1, (a2.getD i.toNat (0, 0, 0, 0, ())).2.2.1, (a2.getD i.toNat (0, 0, 0, 0, ())).2.2.2.1, ())).getD i.toNat (0, 0, 0, 0, ())).2.2.1, ((a2.set i.toNat (kx, (a2.getD i.toNat (0, 0, 0, 0, ())).2.1, (a2.getD i.toNat (0, 0, 0, 0, ())).2.2.1, (a2.getD i.toNat (0, 0, 0, 0, ())).2.2.2.1, ())).getD i.toNat (0, 0, 0, 0, ())).2.2.2.1, ())).getD i.toNat (0, 0, 0, 0, ())).2.1, (w64 ((w64 (kx + 1)) + 1)), (((a2.set i.toNat (kx, (a2.getD i.toNat (0, 0, 0, 0, ())).2.1, (a2.getD i.toNat (0, 0, 0, 0, ())).2.2.1, (a2.getD i.toNat (0, 0, 0, 0, ())).2.2.2.1, ())).set i.toNat (((a2.set i.toNat (kx, (a2.getD i.toNat (0, 0, 0, 0, ())).2.1, (a2.getD i.toNat (0, 0, 0, 0, ())).2.2.1, (a2.getD i.toNat (0, 0, 0, 0, ())).2.2.2.1, ())).getD i.toNat (0, 0, 0, 0, ())).1, (w64 (kx + 1)), ((a2.set i.toNat (kx, (a2.getD i.toNat (0, 0, 0, 0, ())).2.1, (a2.getD i.toNat (0, 0, 0, 0, ())).2.2.1, (a2.getD i.toNat (0, 0, 0, 0, ())).2.2.2.1, ())).getD i.toNat (0, 0, 0, 0, ())).2.2.1, ((a2.set i.toNat (kx, (a2.getD i.toNat (0, 0, 0, 0, ())).2.1, (a2.getD i.toNat (0, 0, 0, 0, ())).2.2.1, (a2.getD i.toNat (0, 0, 0, 0, ())).2.2.2.1, ())).getD i.toNat (0, 0, 0, 0, ())).2.2.2.1, ())).getD i.toNat (0, 0, 0, 0, ())).2.2.2.1, ())).length : Int) then nx0 (w64 ((w64 ((w64 ((w64 (kx + 1)) + 1)) + 1)) + 1)) (w64 (i + 1)) ((((a2.set i.toNat (kx, (a2.getD i.toNat (0, 0, 0, 0, ())).2.1, (a2.getD i.toNat (0, 0, 0, 0, ())).2.2.1, (a2.getD i.toNat (0, 0, 0, 0, ())).2.2.2.1, ())).set i.toNat (((a2.set i.toNat (kx, (a2.getD i.toNat (0, 0, 0, 0, ())).2.1, (a2.getD i.toNat (0, 0, 0, 0, ())).2.2.1, (a2.getD i.toNat (0, 0, 0, 0, ())).2.2.2.1, ())).getD i.toNat (0, 0, 0, 0, ())).1, (w64 (kx + 1)), ((a2.set i.toNat (kx, (a2.getD i.toNat (0, 0, 0, 0, ())).2.1, (a2.getD i.toNat (0, 0, 0, 0, ())).2.2.1, (a2.getD i.toNat (0, 0, 0, 0, ())).2.2.2.1, ())).getD i.toNat (0, 0, 0, 0, ())).2.2.1, ((a2.set i.toNat (kx, (a2.getD i.toNat (0, 0, 0, 0, ())).2.1, (a2.getD i.toNat (0, 0, 0, 0, ())).2.2.1, (a2.getD i.toNat (0, 0, 0, 0, ())).2.2.2.1, ())).getD i.toNat (0, 0, 0, 0, ())).2.2.2.1, ())).set i.toNat ((((a2.set i.toNat (kx, (a2.getD i.toNat (0, 0, 0, 0, ())).2.1, (a2.getD i.toNat (0, 0, 0, 0, ())).2.2.1, (a2.getD i.toNat (0, 0, 0, 0, ())).2.2.2.1, ())).set i.toNat (((a2.set i.toNat (kx, (a2.getD i.toNat (0, 0, 0, 0, ())).2.1, (a2.getD i.toNat (0, 0, 0, 0, ())).2.2.1, (a2.getD i.toNat (0, 0, 0, 0, ())).2.2.2.1, ())).getD i.toNat (0, 0, 0, 0, ())).1, (w64 (kx + 1)), ((a2.set i.toNat (kx, (a2.getD i.toNat (0, 0, 0, 0, ())).2.1, (a2.getD i.toNat (0, 0, 0, 0, ())).2.2.1, (a2.getD i.toNat (0, 0, 0, 0, ())).2.2.2.1, ())).getD i.toNat (0, 0, 0, 0, ())).2.2.1, ((a2.set i.toNat (kx, (a2.getD i.toNat (0, 0, 0, 0, ())).2.1, (a2.getD i.toNat (0, 0, 0, 0, ())).2.2.1, (a2.getD i.toNat (0, 0, 0, 0, ())).2.2.2.1, ())).getD i.toNat (0, 0, 0, 0, ())).2.2.2.1, ())).getD i.toNat (0, 0, 0, 0, ())).1, (((a2.set i.toNat (kx, (a2.getD i.toNat (0, 0, 0, 0, ())).2.1, (a2.getD i.toNat (0, 0, 0, 0, ())).2.2.1, (a2.getD i.toNat (0, 0, 0, 0, ())).2.2.2.1, ())).set i.toNat (((a2.set i.toNat (kx, (a2.getD i.toNat (0, 0, 0, 0, ())).2.1, (a2.getD i.toNat (0, 0, 0, 0, ())).2.2.1, (a2.getD i.toNat (0, 0, 0, 0, ())).2.2.2.1, ())).getD i.toNat (0, 0, 0, 0, ())).1, (w64 (kx + 1)), ((a2.set i.toNat (kx, (a2.getD i.toNat (0, 0, 0, 0, ())).2.1, (a2.getD i.toNat (0, 0, 0, 0, ())).2.2.1, (a2.getD i.toNat (0, 0, 0, 0, ())).2.2.2.1, ())).getD i.toNat (0, 0, 0, 0, ())).2.2.1, ((a2.set i.toNat (kx, (a2.getD i.toNat (0, 0, 0, 0, ())).2.1, (a2.getD i.toNat (0, 0, 0, 0, ())).2.2.1, (a2.getD i.toNat (0, 0, 0, 0, ())).2.2.2.1, ())).getD i.toNat (0, 0, 0, 0, ())).2.2.2.1, ())).getD i.toNat (0, 0, 0, 0, ())).2.1, (w64 ((w64 (kx + 1)) + 1)), (((a2.set i.toNat (kx, (a2.getD i.toNat (0, 0, 0, 0, ())).2.1, (a2.getD i.toNat (0, 0, 0, 0, ())).2.2.1, (a2.getD i.toNat (0, 0, 0, 0, ())).2.2.2.1, ())).set i.toNat (((a2.set i.toNat (kx, (a2.getD i.toNat (0, 0, 0, 0, ())).2.1, (a2.getD i.toNat (0, 0, 0, 0, ())).2.2.1, (a2.getD i.toNat (0, 0, 0, 0, ())).2.2.2.1, ())).getD i.toNat (0, 0, 0, 0, ())).1, (w64 (kx + 1)), ((a2.set i.toNat (kx, (a2.getD i.toNat (0, 0, 0, 0, ())).2.1, (a2.getD i.toNat (0, 0, 0, 0, ())).2.2.1, (a2.getD i.toNat (0, 0, 0, 0, ())).2.2.2.1, ())).getD i.toNat (0, 0, 0, 0, ())).2.2.1, ((a2.set i.toNat (kx, (a2.getD i.toNat (0, 0, 0, 0, ())).2.1, (a2.getD i.toNat (0, 0, 0, 0, ())).2.2.1, (a2.getD i.toNat (0, 0, 0, 0, ())).2.2.2.1, ())).getD i.toNat (0, 0, 0, 0, ())).2.2.2.1, ())).getD i.toNat (0, 0, 0, 0, ())).2.2.2.1, ())).set i.toNat (((((a2.set i.toNat (kx, (a2.getD i.toNat (0, 0, 0, 0, ())).2.1, (a2.getD i.toNat (0, 0, 0, 0, ())).2.2.1, (a2.getD i.toNat (0, 0, 0, 0, ())).2.2.2.1, ())).set i.toNat (((a2.set i.toNat (kx, (a2.getD i.toNat (0, 0, 0, 0, ())).2.1, (a2.getD i.toNat (0, 0, 0, 0, ())).2.2.1, (a2.getD i.toNat (0, 0, 0, 0, ())).2.2.2.1, ())).getD i.toNat (0, 0, 0, 0, ())).1, (w64 (kx + 1)), ((a2.set i.toNat (kx, (a2.getD i.toNat (0, 0, 0, 0, ())).2.1, (a2.getD i.toNat (0, 0, 0, 0, ())).2.2.1, (a2.getD i.toNat (0, 0, 0, 0, ())).2.2.2.1, ())).getD i.toNat (0, 0, 0, 0, ())).2.2.1, ((a2.set i.toNat (kx, (a2.getD i.toNat (0, 0, 0, 0, ())).2.1, (a2.getD i.toNat (0, 0, 0, 0, ())).2.2.1, (a2.getD i.toNat (0, 0, 0, 0, ())).2.2.2.1, ())).getD i.toNat (0, 0, 0, 0, ())).2.2.2.1, ())).set i.toNat ((((a2.set i.toNat (kx, (a2.getD i.toNat (0, 0, 0, 0, ())).2.1, (a2.getD i.toNat (0, 0, 0, 0, ())).2.2.1, (a2.getD i.toNat (0, 0, 0, 0, ())).2.2.2.1, ())).set i.toNat (((a2.set i.toNat (kx, (a2.getD i.toNat (0, 0, 0, 0, ())).2.1, (a2.getD i.toNat (0, 0, 0, 0, ())).2.2.1, (a2.getD i.toNat (0, 0, 0, 0, ())).2.2.2.1, ())).getD i.toNat (0, 0, 0, 0, ())).1, (w64 (kx + 1)), ((a2.set i.toNat (kx, (a2.getD i.toNat (0, 0, 0, 0, ())).2.1, (a2.getD i.toNat (0, 0, 0, 0, ())).2.2.1, (a2.getD i.toNat (0, 0, 0, 0, ())).2.2.2.1, ())).getD i.toNat (0, 0, 0, 0, ())).2.2.1, ((a2.set i.toNat (kx, (a2.getD i.toNat (0, 0, 0, 0, ())).2.1, (a2.getD i.toNat (0, 0, 0, 0, ())).2.2.1, (a2.getD i.toNat (0, 0, 0, 0, ())).2.2.2.1, ())).getD i.toNat (0, 0, 0, 0, ())).2.2.2.1, ())).getD i.toNat (0, 0, 0, 0, ())).1, (((a2.set i.toNat (kx, (a2.getD i.toNat (0, 0, 0, 0, ())).2.1, (a2.getD i.toNat (0, 0, 0, 0, ())).2.2.1, (a2.getD i.toNat (0, 0, 0, 0, ())).2.2.2.1, ())).set i.toNat (((a2.set i.toNat (kx, (a2.getD i.toNat (0, 0, 0, 0, ())).2.1, (a2.getD i.toNat (0, 0, 0, 0, ())).2.2.1, (a2.getD i.toNat (0, 0, 0, 0, ())).2.2.2.1, ())).getD i.toNat (0, 0, 0, 0, ())).1, (w64 (kx + 1)), ((a2.set i.toNat (kx, (a2.getD i.toNat (0, 0, 0, 0, ())).2.1, (a2.getD i.toNat (0, 0, 0, 0, ())).2.2.1, (a2.getD i.toNat (0, 0, 0, 0, ())).2.2.2.1, ())).getD i.toNat (0, 0, 0, 0, ())).2.2.1, ((a2.set i.toNat (kx, (a2.getD i.toNat (0, 0, 0, 0, ())).2.1, (a2.getD i.toNat (0, 0, 0, 0, ())).2.2.1, (a2.getD i.toNat (0, 0, 0, 0, ())).2.2.2.1, ())).getD i.toNat (0, 0, 0, 0, ())).2.2.2.1, ())).getD i.toNat (0, 0, 0, 0, ())).2.1, (w64 ((w64 (kx + 1)) + 1)), (((a2.set i.toNat (kx, (a2.getD i.toNat (0, 0, 0, 0, ())).2.1, (a2.getD i.toNat (0, 0, 0, 0, ())).2.2.1, (a2.getD i.toNat (0, 0, 0, 0, ())).2.2.2.1, ())).set i.toNat (((a2.set i.toNat (kx, (a2.getD i.toNat (0, 0, 0, 0, ())).2.1, (a2.getD i.toNat (0, 0, 0, 0, ())).2.2.1, (a2.getD i.toNat (0, 0, 0, 0, ())).2.2.2.1, ())).getD i.toNat (0, 0, 0, 0, ())).1, (w64 (kx + 1)), ((a2.set i.toNat (kx, (a2.getD i.toNat (0, 0, 0, 0, ())).2.1, (a2.getD i.toNat (0, 0, 0, 0, ())).2.2.1, (a2.getD i.toNat (0, 0, 0, 0, ())).2.2.2.1, ())).getD i.toNat (0, 0, 0, 0, ())).2.2.1, ((a2.set i.toNat (kx, (a2.getD i.toNat (0, 0, 0, 0, ())).2.1, (a2.getD i.toNat (0, 0, 0, 0, ())).2.2.1, (a2.getD i.toNat (0, 0, 0, 0, ())).2.2.2.1, ())).getD i.toNat (0, 0, 0, 0, ())).2.2.2.1, ())).getD i.toNat (0, 0, 0, 0, ())).2.2.2.1, ())).getD i.toNat (0, 0, 0, 0, ())).1, ((((a2.set i.toNat (kx, (a2.getD i.toNat (0, 0, 0, 0, ())).2.1, (a2.getD i.toNat (0, 0, 0, 0, ())).2.2.1, (a2.getD i.toNat (0, 0, 0, 0, ())).2.2.2.1, ())).set i.toNat (((a2.set i.toNat (kx, (a2.getD i.toNat (0, 0, 0, 0, ())).2.1, (a2.getD i.toNat (0, 0, 0, 0, ())).2.2.1, (a2.getD i.toNat (0, 0, 0, 0, ())).2.2.2.1, ())).getD i.toNat (0, 0, 0, 0, ())).1, (w64 (kx + 1)), ((a2.set i.toNat (kx, (a2.getD i.toNat (0, 0, 0, 0, ())).2.1, (a2.getD i.toNat (0, 0, 0, 0, ())).2.2.1, (a2.getD i.toNat (0, 0, 0, 0, ())).2.2.2.1, ())).getD i.toNat (0, 0, 0, 0, ())).2.2.1, ((a2.set i.toNat (kx, (a2.getD i.toNat (0, 0, 0, 0, ())).2.1, (a2.getD i.toNat (0, 0, 0, 0, ())).2.2.1, (a2.getD i.toNat (0, 0, 0, 0, ())).2.2.2.1, ())).getD i.toNat (0, 0, 0, 0, ())).2.2.2.1, ())).set i.toNat ((((a2.set i.toNat (kx, (a2.getD i.toNat (0, 0, 0, 0, ())).2.1, (a2.getD i.toNat (0, 0, 0, 0, ())).2.2.1, (a2.getD i.toNat (0, 0, 0, 0, ())).2.2.2.1, ())).set i.toNat (((a2.set i.toNat (kx, (a2.getD i.toNat (0, 0, 0, 0, ())).2.1, (a2.getD i.toNat (0, 0, 0, 0, ())).2.2.1, (a2.getD i.toNat (0, 0, 0, 0, ())).2.2.2.1, ())).getD i.toNat (0, 0, 0, 0, ())).1, (w64 (kx + 1)), ((a2.set i.toNat (kx, (a2.getD i.toNat (0, 0, 0, 0, ())).2.1, (a2.getD i.toNat (0, 0, 0, 0, ())).2.2.1, (a2.getD i.toNat (0, 0, 0, 0, ())).2.2.2.1, ())).getD i.toNat (0, 0, 0, 0, ())).2.2.1, ((a2.set i.toNat (kx, (a2.getD i.toNat (0, 0, 0, 0, ())).2.1, (a2.getD i.toNat (0, 0, 0, 0, ())).2.2.1, (a2.getD i.toNat (0, 0, 0, 0, ())).2.2.2.1, ())).getD i.toNat (0, 0, 0, 0, ())).2.2.2.1, ())).getD i.toNat (0, 0, 0, 0, ())).1, (((a2.set i.toNat (kx, (a2.getD i.toNat (0, 0, 0, 0, ())).2.1, (a2.getD i.toNat (0, 0, 0, 0, ())).2.2.1, (a2.getD i.toNat (0, 0, 0, 0, ())).2.2.2.1, ())).set i.toNat (((a2.set i.toNat (kx, (a2.getD i.toNat (0, 0, 0, 0, ())).2.1, (a2.getD i.toNat (0, 0, 0, 0, ())).2.2.1, (a2.getD i.toNat (0, 0, 0, 0, ())).2.2.2.1, ())).getD i.toNat (0, 0, 0, 0, ())).1, (w64 (kx + 1)), ((a2.set i.toNat (kx, (a2.getD i.toNat (0, 0, 0, 0, ())).2.1, (a2.getD i.toNat (0, 0, 0, 0, ())).2.2.1, (a2.getD i.toNat (0, 0, 0, 0, ())).2.2.2.1, ())).getD i.toNat (0, 0, 0, 0, ())).2.2.1, ((a2.set i.toNat (kx, (a2.getD i.toNat (0, 0, 0, 0, ())).2.1, (a2.getD i.toNat (0, 0, 0, 0, ())).2.2.1, (a2.getD i.toNat (0, 0, 0, 0, ())).2.2.2.1, ())).getD i.toNat (0, 0, 0, 0, ())).2.2.2.1, ())).getD i.toNat (0, 0, 0, 0, ())).2.1, (w64 ((w64 (kx + 1)) + 1)), (((a2.set i.toNat (kx, (a2.getD i.toNat (0, 0, 0, 0, ())).2.1, (a2.getD i.toNat (0, 0, 0, 0, ())).2.2.1, (a2.getD i.toNat (0, 0, 0, 0, ())).2.2.2.1, ())).set i.toNat (((a2.set i.toNat (kx, (a2.getD i.toNat (0, 0, 0, 0, ())).2.1, (a2.getD i.toNat (0, 0, 0, 0, ())).2.2.1, (a2.getD i.toNat (0, 0, 0, 0, ())).2.2.2.1, ())).getD i.toNat (0, 0, 0, 0, ())).1, (w64 (kx + 1)), ((a2.set i.toNat (kx, (a2.getD i.toNat (0, 0, 0, 0, ())).2.1, (a2.getD i.toNat (0, 0, 0, 0, ())).2.2.1, (a2.getD i.toNat (0, 0, 0, 0, ())).2.2.2.1, ())).getD i.toNat (0, 0, 0, 0, ())).2.2.1, ((a2.set i.toNat (kx, (a2.getD i.toNat (0, 0, 0, 0, ())).2.1, (a2.getD i.toNat (0, 0, 0, 0, ())).2.2.1, (a2.getD i.toNat (0, 0, 0, 0, ())).2.2.2.1, ())).getD i.toNat (0, 0, 0, 0, ())).2.2.2.1, ())).getD i.toNat (0, 0, 0, 0, ())).2.2.2.1, ())).getD i.toNat (0, 0, 0, 0, ())).2.1, ((((a2.set i.toNat (kx, (a2.getD i.toNat (0, 0, 0, 0, ())).2.1, (a2.getD i.toNat (0, 0, 0, 0, ())).2.2.1, (a2.getD i.toNat (0, 0, 0, 0, ())).2.2.2.1, ())).set i.toNat (((a2.set i.toNat (kx, (a2.getD i.toNat (0, 0, 0, 0, ())).2.1, (a2.getD i.toNat (0, 0, 0, 0, ())).2.2.1, (a2.getD i.toNat (0, 0, 0, 0, ())).2.2.2.1, ())).getD i.toNat (0, 0, 0, 0, ())).1, (w64 (kx + 1)), ((a2.set i.toNat (kx, (a2.getD i.toNat (0, 0, 0, 0, ())).2.1, (a2.getD i.toNat (0, 0, 0, 0, ())).2.2.1, (a2.getD i.toNat (0, 0, 0, 0, ())).2.2.2.1, ())).getD i.toNat (0, 0, 0, 0, ())).2.2.1, ((a2.set i.toNat (kx, (a2.getD i.toNat (0, 0, 0, 0, ())).2.1, (a2.getD i.toNat (0, 0, 0, 0, ())).2.2.1, (a2.getD i.toNat (0, 0, 0, 0, ())).2.2.2.1, ())).getD i.toNat (0, 0, 0, 0, ())).2.2.2.1, ())).set i.toNat ((((a2.set i.toNat (kx, (a2.getD i.toNat (0, 0, 0, 0, ())).2.1, (a2.getD i.toNat (0, 0, 0, 0, ())).2.2.1, (a2.getD i.toNat (0, 0, 0, 0, ())).2.2.2.1, ())).set i.toNat (((a2.set i.toNat (kx, (a2.getD i.toNat (0, 0, 0, 0, ())).2.1, (a2.getD i.toNat (0, 0, 0, 0, ())).2.2.1, (a2.getD i.toNat (0, 0, 0, 0, ())).2.2.2.1, ())).getD i.toNat (0, 0, 0, 0, ())).1, (w64 (kx + 1)), ((a2.set i.toNat (kx, (a2.getD i.toNat (0, 0, 0, 0, ())).2.1, (a2.getD i.toNat (0, 0, 0, 0, ())).2.2.1, (a2.getD i.toNat (0, 0, 0, 0, ())).2.2.2.1, ())).getD i.toNat (0, 0, 0, 0, ())).2.2.1, ((a2.set i.toNat (kx, (a2.getD i.toNat (0, 0, 0, 0, ())).2.1, (a2.getD i.toNat (0, 0, 0, 0, ())).2.2.1, (a2.getD i.toNat (0, 0, 0, 0, ())).2.2.2.1, ())).getD i.toNat (0, 0, 0, 0, ())).2.2.2.1, ())).getD i.toNat (0, 0, 0, 0, ())).1, (((a2.set i.toNat (kx, (a2.getD i.toNat (0, 0, 0, 0, ())).2.1, (a2.getD i.toNat (0, 0, 0, 0, ())).2.2.1, (a2.getD i.toNat (0, 0, 0, 0, ())).2.2.2.1, ())).set i.toNat (((a2.set i.toNat (kx, (a2.getD i.toNat (0, 0, 0, 0, ())).2.1, (a2.getD i.toNat (0, 0, 0, 0, ())).2.2.1, (a2.getD i.toNat (0, 0, 0, 0, ())).2.2.2.1, ())).getD i.toNat (0, 0, 0, 0, ())).1, (w64 (kx + 1)), ((a2.set i.toNat (kx, (a2.getD i.toNat (0, 0, 0, 0, ())).2.1, (a2.getD i.toNat (0, 0, 0, 0, ())).2.2.1, (a2.getD i.toNat (0, 0, 0, 0, ())).2.2.2.1, ())).getD i.toNat (0, 0, 0, 0, ())).2.2.1, ((a2.set i.toNat (kx, (a2.getD i.toNat (0, 0, 0, 0, ())).2.1, (a2.getD i.toNat (0, 0, 0, 0, ())).2.2.1, (a2.getD i.toNat (0, 0, 0, 0, ())).2.2.2.1, ())).getD i.toNat (0, 0, 0, 0, ())).2.2.2.1, ())).getD i.toNat (0, 0, 0, 0, ())).2.1, (w64 ((w64 (kx + 1)) + 1)), (((a2.set i.toNat (kx, (a2.getD i.toNat (0, 0, 0, 0, ())).2.1, (a2.getD i.toNat (0, 0, 0, 0, ())).2.2.1, (a2.getD i.toNat (0, 0, 0, 0, ())).2.2.2.1, ())).set i.toNat (((a2.set i.toNat (kx, (a2.getD i.toNat (0, 0, 0, 0, ())).2.1, (a2.getD i.toNat (0, 0, 0, 0, ())).2.2.1, (a2.getD i.toNat (0, 0, 0, 0, ())).2.2.2.1, ())).getD i.toNat (0, 0, 0, 0, ())).1, (w64 (kx + 1)), ((a2.set i.toNat (kx, (a2.getD i.toNat (0, 0, 0, 0, ())).2.1, (a2.getD i.toNat (0, 0, 0, 0, ())).2.2.1, (a2.getD i.toNat (0, 0, 0, 0, ())).2.2.2.1, ())).getD i.toNat (0, 0, 0, 0, ())).2.2.1, ((a2.set i.toNat (kx, (a2.getD i.toNat (0, 0, 0, 0, ())).2.1, (a2.getD i.toNat (0, 0, 0, 0, ())).2.2.1, (a2.getD i.toNat (0, 0, 0, 0, ())).2.2.2.1, ())).getD i.toNat (0, 0, 0, 0, ())).2.2.2.1, ())).getD i.toNat (0, 0, 0, 0, ())).2.2.2.1, ())).getD i.toNat (0, 0, 0, 0, ())).2.2.1, (w64 ((w64 ((w64 (kx + 1)) + 1)) + 1)), ())) else none else none else none else none) (ex0 kx a2)
noncomputable def laws_markGroupS.A0  (a : List (Int × Int × Int × Int × Unit)) (ak : Int) (kx : Int) (o0 : List (Int × Int × Int × Int × Unit)) : Option (Int × (List (Int × Int × Int × Int × Unit)) × Unit) := some (kx, o0, ())
noncomputable def laws_markGroupS.T (lo0 : (Int → Int → (List (Int × Int × Int × Int × Unit)) → Option (Int × (List (Int × Int × Int × Int × Unit)) × Unit))) (a : List (Int × Int × Int × Int × Unit)) (ak : Int) : Option (Int × (List (Int × Int × Int × Int × Unit)) × Unit) := lo0 ak 0 a
noncomputable def laws_markGroupS.st0 {R : Type} (k0 : Nat) : Env → List Ob → Kont R → Option R := fun env ob K => runCode Try.prog laws_markGroupS.tbl 41 1 laws_markGroupS.cfg k0 (codeAt [1, 0, 1, 0, 0] laws_markGroupS.body) env ob K
noncomputable def laws_markGroupS.K0 {R : Type} (k0 : Nat) (K : Kont R) : Kont R := blockK 0 (seqK (fun env ob => runCode Try.prog laws_markGroupS.tbl 41 1 laws_markGroupS.cfg k0 (codeAt [1, 1] laws_markGroupS.body) env ob (K)) (K))
noncomputable def laws_markGroupS.L0 {R : Type} (k0 k : Nat) (K : Kont R) (kx : Int) (i : Int) (a2 : List (Int × Int × Int × Int × Unit)) : Option R := iter 1 [0, 1, 5] [1] (laws_markGroupS.st0 k0) k [(0, .own 0), (1, .int .i64 kx), (5, .int .i64 i)] [.arr ct0 a2] K
theorem laws_markGroupS.s0 {R : Type} (k0 k : Nat) (K : Kont R) (kx : Int) (i : Int) (a2 : List (Int × Int × Int × Int × Unit)) : laws_markGroupS.L0 k0 (k + 1) K kx i a2 = laws_markGroupS.R0 (fun (kx : Int) (i : Int) (a2 : List (Int × Int × Int × Int × Unit)) => laws_markGroupS.L0 k0 k K kx i a2) (fun (kx : Int) (o0 : List (Int × Int × Int × Int × Unit)) => K (.exit 0) [(1, .int .i64 kx)] [.arr ct0 o0]) kx i a2 := by kernel_rfl
theorem laws_markGroupS.a0 (k0 : Nat) (a : List (Int × Int × Int × Int × Unit)) (ak : Int) (kx : Int) (o0 : List (Int × Int × Int × Int × Unit)) : laws_markGroupS.K0 (R := (Int × (List (Int × Int × Int × Int × Unit)) × Unit)) k0 (finK Try.prog [.tmp 4] ins_laws_markGroupS outs_laws_markGroupS (a, ak, ())) (.exit 0) [(1, .int .i64 kx)] [.arr ct0 o0] = laws_markGroupS.A0  a ak kx o0 := by kernel_rfl
theorem laws_markGroupS.top (k0 : Nat) (a : List (Int × Int × Int × Int × Unit)) (ak : Int) : runFn Try.prog laws_markGroupS.tbl laws_markGroupS.cfg k0 85 ins_laws_markGroupS outs_laws_markGroupS (a, ak, ()) = laws_markGroupS.T (fun (kx : Int) (i : Int) (a2 : List (Int × Int × Int × Int × Unit)) => laws_markGroupS.L0 (R := (Int × (List (Int × Int × Int × Int × Unit)) × Unit)) k0 k0 (laws_markGroupS.K0 (R := (Int × (List (Int × Int × Int × Int × Unit)) × Unit)) k0 ((finK Try.prog [.tmp 4] ins_laws_markGroupS outs_laws_markGroupS (a, ak, ())))) kx i a2) a ak := by kernel_rfl
noncomputable def laws_markGroupS.G0 {R : Type} (k0 : Nat) (hx0 : (Int → (List (Int × Int × Int × Int × Unit)) → Option R)) : Nat → Int → Int → (List (Int × Int × Int × Int × Unit)) → Option R
  | 0, _, _, _ => none
  | k + 1, kx, i, a2 => laws_markGroupS.R0 (fun (kx : Int) (i : Int) (a2 : List (Int × Int × Int × Int × Unit)) => laws_markGroupS.G0 k0 hx0 k kx i a2) (fun (kx : Int) (o0 : List (Int × Int × Int × Int × Unit)) => hx0 kx o0) kx i a2
theorem laws_markGroupS.g0 {R : Type} (k0 : Nat) (K : Kont R) : ∀ (k : Nat) (kx : Int) (i : Int) (a2 : List (Int × Int × Int × Int × Unit)), laws_markGroupS.L0 k0 k K kx i a2 = laws_markGroupS.G0 k0 (fun (kx : Int) (o0 : List (Int × Int × Int × Int × Unit)) => K (.exit 0) [(1, .int .i64 kx)] [.arr ct0 o0]) k kx i a2 := by
  intro k
  induction k with
  | zero => intros; rfl
  | succ k ih => intros; rw [laws_markGroupS.s0, laws_markGroupS.G0]; (try simp only [ih]); try rfl
noncomputable def laws_markGroupS.FF (k0 : Nat) (a : List (Int × Int × Int × Int × Unit)) (ak : Int) : Option (Int × (List (Int × Int × Int × Int × Unit)) × Unit) := laws_markGroupS.T (fun (kx : Int) (i : Int) (a2 : List (Int × Int × Int × Int × Unit)) => laws_markGroupS.G0 k0 (fun (kx : Int) (o0 : List (Int × Int × Int × Int × Unit)) => laws_markGroupS.A0  a ak kx o0) k0 kx i a2) a ak
theorem laws_markGroupS.run (k0 : Nat) (a : List (Int × Int × Int × Int × Unit)) (ak : Int) : runFn Try.prog laws_markGroupS.tbl laws_markGroupS.cfg k0 85 ins_laws_markGroupS outs_laws_markGroupS (a, ak, ()) = laws_markGroupS.FF k0 a ak := by
  rw [laws_markGroupS.top, laws_markGroupS.FF]; (try simp only [laws_markGroupS.g0, laws_markGroupS.a0]); try rfl
noncomputable def F_laws_markGroupS : (List (Int × Int × Int × Int × Unit)) × Int × Unit → Option (Int × (List (Int × Int × Int × Int × Unit)) × Unit) := fun x => (fun (a : List (Int × Int × Int × Int × Unit)) (ak : Int) => laws_markGroupS.FF (300 + a.length) a ak) x.1 x.2.1
theorem laws_markGroupS.tblOK : ∀ g fs S, laws_markGroupS.tbl g fs = some S → SumOK Try.prog g S := by
  intro g fs S h
  unfold laws_markGroupS.tbl at h
  cases h
theorem ok_laws_markGroupS : SumOK Try.prog 85 ⟨ins_laws_markGroupS, outs_laws_markGroupS, F_laws_markGroupS⟩ := runFn_ok (by kernel_rfl) laws_markGroupS.tblOK (by kernel_rfl) fun x y h => ⟨laws_markGroupS.cfg, _, (laws_markGroupS.run _ x.1 x.2.1).trans h⟩
end Go.Rv
