/- What each function that FnExactRelayRight reaches comes to on pure values (printed by a program of ours). -/
import Derived.Test.YtcdmhjnofdoobaaGFnExactRelayRight0
import Derived.Test.YtcdmhjnofdoobaaProg
import Derived.KernelRfl
set_option linter.unusedVariables false
set_option linter.unusedSimpArgs false
set_option maxRecDepth 100000
namespace Go.Rv
open Go.Proofs
abbrev ins_laws_eqFarm : List Par := [.v true ct4, .v true ct4]
abbrev outs_laws_eqFarm : List (Bool × List CT) := [(false, [CT.bool])]
/-! ### loop.example/g00095/laws.eqFarm (function 11) -/
noncomputable def laws_eqFarm.tbl : Tbl := fun g fs => if g = 34 ∧ fs = [] then some ⟨ins_laws_eqGroupS, outs_laws_eqGroupS, F_laws_eqGroupS⟩ else if g = 35 ∧ fs = [] then some ⟨ins_laws_eqMemberS, outs_laws_eqMemberS, F_laws_eqMemberS⟩ else none
noncomputable def laws_eqFarm.body : Code := ((Try.prog.funcs[11]?).bind (·.body)).getD .skip
def laws_eqFarm.cfg : Nat → List Nat × List Nat := fun k => ([], [])
noncomputable def laws_eqFarm.T  (a0 : Int) (a1 : List (Int × Int × Int × Int × Unit)) (a2 : List (Int × Int × Int × Int × Unit)) (b0 : Int) (b1 : List (Int × Int × Int × Int × Unit)) (b2 : List (Int × Int × Int × Int × Unit)) : Option (Bool × Unit) := cond (a0 != b0) (some (false, ())) ((F_laws_eqGroupS (a1, b1, ())).bind fun y1 => cond (!y1.1) (some (false, ())) ((F_laws_eqMemberS (a2, b2, ())).bind fun y2 => cond (!y2.1) (some (false, ())) (some (true, ()))))
theorem laws_eqFarm.top (k0 : Nat) (a0 : Int) (a1 : List (Int × Int × Int × Int × Unit)) (a2 : List (Int × Int × Int × Int × Unit)) (b0 : Int) (b1 : List (Int × Int × Int × Int × Unit)) (b2 : List (Int × Int × Int × Int × Unit)) : runFn Try.prog laws_eqFarm.tbl laws_eqFarm.cfg k0 11 ins_laws_eqFarm outs_laws_eqFarm (a0, a1, a2, b0, b1, b2, ()) = laws_eqFarm.T  a0 a1 a2 b0 b1 b2 := by kernel_rfl
noncomputable def F_laws_eqFarm : Int × (List (Int × Int × Int × Int × Unit)) × (List (Int × Int × Int × Int × Unit)) × Int × (List (Int × Int × Int × Int × Unit)) × (List (Int × Int × Int × Int × Unit)) × Unit → Option (Bool × Unit) := fun x => laws_eqFarm.T x.1 x.2.1 x.2.2.1 x.2.2.2.1 x.2.2.2.2.1 x.2.2.2.2.2.1
theorem laws_eqFarm.tblOK : ∀ g fs S, laws_eqFarm.tbl g fs = some S → SumOK Try.prog g S := by
  intro g fs S h
  unfold laws_eqFarm.tbl at h
  split at h
  · rename_i hc; obtain ⟨rfl, rfl⟩ := hc; have := Option.some.inj h; subst this; exact ok_laws_eqGroupS
  split at h
  · rename_i hc; obtain ⟨rfl, rfl⟩ := hc; have := Option.some.inj h; subst this; exact ok_laws_eqMemberS
  cases h
theorem ok_laws_eqFarm : SumOK Try.prog 11 ⟨ins_laws_eqFarm, outs_laws_eqFarm, F_laws_eqFarm⟩ := runFn_ok (by kernel_rfl) laws_eqFarm.tblOK (by kernel_rfl) fun x y h => ⟨laws_eqFarm.cfg, 0, (laws_eqFarm.top 0 x.1 x.2.1 x.2.2.1 x.2.2.2.1 x.2.2.2.2.1 x.2.2.2.2.2.1).trans h⟩
abbrev ins_laws_eqLease : List Par := [.v true ct1, .v true ct1]
abbrev outs_laws_eqLease : List (Bool × List CT) := [(false, [CT.bool])]
/-! ### loop.example/g00095/laws.eqLease (function 84) -/
noncomputable def laws_eqLease.tbl : Tbl := fun g fs => none
noncomputable def laws_eqLease.body : Code := ((Try.prog.funcs[84]?).bind (·.body)).getD .skip
def laws_eqLease.cfg : Nat → List Nat × List Nat := fun k => ([], [])
noncomputable def laws_eqLease.T  (a0 : Int) (a1 : Int) (a2 : Int) (b0 : Int) (b1 : Int) (b2 : Int) : Option (Bool × Unit) := cond (a0 != b0) (some (false, ())) (cond (a1 != b1) (some (false, ())) (cond (a2 != b2) (some (false, ())) (some (true, ()))))
theorem laws_eqLease.top (k0 : Nat) (a0 : Int) (a1 : Int) (a2 : Int) (b0 : Int) (b1 : Int) (b2 : Int) : runFn Try.prog laws_eqLease.tbl laws_eqLease.cfg k0 84 ins_laws_eqLease outs_laws_eqLease (a0, a1, a2, b0, b1, b2, ()) = laws_eqLease.T  a0 a1 a2 b0 b1 b2 := by kernel_rfl
noncomputable def F_laws_eqLease : Int × Int × Int × Int × Int × Int × Unit → Option (Bool × Unit) := fun x => laws_eqLease.T x.1 x.2.1 x.2.2.1 x.2.2.2.1 x.2.2.2.2.1 x.2.2.2.2.2.1
theorem laws_eqLease.tblOK : ∀ g fs S, laws_eqLease.tbl g fs = some S → SumOK Try.prog g S := by
  intro g fs S h
  unfold laws_eqLease.tbl at h
  cases h
theorem ok_laws_eqLease : SumOK Try.prog 84 ⟨ins_laws_eqLease, outs_laws_eqLease, F_laws_eqLease⟩ := runFn_ok (by kernel_rfl) laws_eqLease.tblOK (by kernel_rfl) fun x y h => ⟨laws_eqLease.cfg, 0, (laws_eqLease.top 0 x.1 x.2.1 x.2.2.1 x.2.2.2.1 x.2.2.2.2.1 x.2.2.2.2.2.1).trans h⟩
abbrev ins_laws_eqLeaseS : List Par := [.v false [CT.sl ct1], .v false [CT.sl ct1]]
abbrev outs_laws_eqLeaseS : List (Bool × List CT) := [(false, [CT.bool])]
/-! ### loop.example/g00095/laws.eqLeaseS (function 72) -/
noncomputable def laws_eqLeaseS.tbl : Tbl := fun g fs => if g = 84 ∧ fs = [] then some ⟨ins_laws_eqLease, outs_laws_eqLease, F_laws_eqLease⟩ else none
noncomputable def laws_eqLeaseS.body : Code := ((Try.prog.funcs[72]?).bind (·.body)).getD .skip
def laws_eqLeaseS.cfg : Nat → List Nat × List Nat := fun k => if k = 4 then ([0, 1, 5], [4]) else ([], [])
noncomputable def laws_eqLeaseS.R0 {R : Type} (nx0 : ((List (Int × Int × Int × Unit)) → (List (Int × Int × Int × Unit)) → Int → Option R)) (ex0 : (Bool → Option R)) (ex1 : (Unit → Option R)) (a2 : List (Int × Int × Int × Unit)) (b2 : List (Int × Int × Int × Unit)) (i : Int) : Option R := cond (decide (i < (a2.length : Int))) (if 0 ≤ i ∧ i < (a2.length : Int) then if 0 ≤ i ∧ i < (b2.length : Int) then (F_laws_eqLease ((rd (0, 0, 0, ()) a2 i).1, (rd (0, 0, 0, ()) a2 i).2.1, (rd (0, 0, 0, ()) a2 i).2.2.1, (rd (0, 0, 0, ()) b2 i).1, (rd (0, 0, 0, ()) b2 i).2.1, (rd (0, 0, 0, ()) b2 i).2.2.1, ())).bind fun y1 => cond (!y1.1) (ex0 false) (nx0 a2 b2 (w64 (i + 1))) else none else none) (ex1 ())
noncomputable def laws_eqLeaseS.A0  (a : List (Int × Int × Int × Unit)) (b : List (Int × Int × Int × Unit)) (t4x : Bool) : Option (Bool × Unit) := some (t4x, ())
noncomputable def laws_eqLeaseS.A1  (a : List (Int × Int × Int × Unit)) (b : List (Int × Int × Int × Unit)) (_u : Unit) : Option (Bool × Unit) := some (true, ())
noncomputable def laws_eqLeaseS.T (lo0 : ((List (Int × Int × Int × Unit)) → (List (Int × Int × Int × Unit)) → Int → Option (Bool × Unit))) (a : List (Int × Int × Int × Unit)) (b : List (Int × Int × Int × Unit)) : Option (Bool × Unit) := cond ((a.length : Int) != (b.length : Int)) (some (false, ())) (lo0 a b 0)
noncomputable def laws_eqLeaseS.st0 {R : Type} (k0 : Nat) : Env → List Ob → Kont R → Option R := fun env ob K => runCode Try.prog laws_eqLeaseS.tbl 27 0 laws_eqLeaseS.cfg k0 (codeAt [1, 1, 0, 1, 0, 0] laws_eqLeaseS.body) env ob K
noncomputable def laws_eqLeaseS.K0 {R : Type} (k0 : Nat) (K : Kont R) : Kont R := blockK 0 (seqK (fun env ob => runCode Try.prog laws_eqLeaseS.tbl 27 0 laws_eqLeaseS.cfg k0 (codeAt [1, 1, 1] laws_eqLeaseS.body) env ob (K)) (K))
noncomputable def laws_eqLeaseS.L0 {R : Type} (k0 k : Nat) (K : Kont R) (a2 : List (Int × Int × Int × Unit)) (b2 : List (Int × Int × Int × Unit)) (i : Int) : Option R := iter 0 [0, 1, 5] [4] (laws_eqLeaseS.st0 k0) k [(0, .sl ct1 a2), (1, .sl ct1 b2), (5, .int .i64 i)] [] K
theorem laws_eqLeaseS.s0 {R : Type} (k0 k : Nat) (K : Kont R) (a2 : List (Int × Int × Int × Unit)) (b2 : List (Int × Int × Int × Unit)) (i : Int) : laws_eqLeaseS.L0 k0 (k + 1) K a2 b2 i = laws_eqLeaseS.R0 (fun (a2 : List (Int × Int × Int × Unit)) (b2 : List (Int × Int × Int × Unit)) (i : Int) => laws_eqLeaseS.L0 k0 k K a2 b2 i) (fun (t4x : Bool) => K .ret [(4, .bool t4x)] []) (fun (_ : Unit) => K (.exit 0) [(4, .undef)] []) a2 b2 i := by kernel_rfl
theorem laws_eqLeaseS.a0 (k0 : Nat) (a : List (Int × Int × Int × Unit)) (b : List (Int × Int × Int × Unit)) (t4x : Bool) : laws_eqLeaseS.K0 (R := (Bool × Unit)) k0 (finK Try.prog [.tmp 4] ins_laws_eqLeaseS outs_laws_eqLeaseS (a, b, ())) .ret [(4, .bool t4x)] [] = laws_eqLeaseS.A0  a b t4x := by kernel_rfl
theorem laws_eqLeaseS.a1 (k0 : Nat) (a : List (Int × Int × Int × Unit)) (b : List (Int × Int × Int × Unit))  : laws_eqLeaseS.K0 (R := (Bool × Unit)) k0 (finK Try.prog [.tmp 4] ins_laws_eqLeaseS outs_laws_eqLeaseS (a, b, ())) (.exit 0) [(4, .undef)] [] = laws_eqLeaseS.A1  a b () := by kernel_rfl
theorem laws_eqLeaseS.top (k0 : Nat) (a : List (Int × Int × Int × Unit)) (b : List (Int × Int × Int × Unit)) : runFn Try.prog laws_eqLeaseS.tbl laws_eqLeaseS.cfg k0 72 ins_laws_eqLeaseS outs_laws_eqLeaseS (a, b, ()) = laws_eqLeaseS.T (fun (a2 : List (Int × Int × Int × Unit)) (b2 : List (Int × Int × Int × Unit)) (i : Int) => laws_eqLeaseS.L0 (R := (Bool × Unit)) k0 k0 (laws_eqLeaseS.K0 (R := (Bool × Unit)) k0 ((finK Try.prog [.tmp 4] ins_laws_eqLeaseS outs_laws_eqLeaseS (a, b, ())))) a2 b2 i) a b := by kernel_rfl
noncomputable def laws_eqLeaseS.G0 {R : Type} (k0 : Nat) (hx0 : (Bool → Option R)) (hx1 : (Unit → Option R)) : Nat → (List (Int × Int × Int × Unit)) → (List (Int × Int × Int × Unit)) → Int → Option R
  | 0, _, _, _ => none
  | k + 1, a2, b2, i => laws_eqLeaseS.R0 (fun (a2 : List (Int × Int × Int × Unit)) (b2 : List (Int × Int × Int × Unit)) (i : Int) => laws_eqLeaseS.G0 k0 hx0 hx1 k a2 b2 i) (fun (t4x : Bool) => hx0 t4x) (fun (_ : Unit) => hx1 ()) a2 b2 i
theorem laws_eqLeaseS.g0 {R : Type} (k0 : Nat) (K : Kont R) : ∀ (k : Nat) (a2 : List (Int × Int × Int × Unit)) (b2 : List (Int × Int × Int × Unit)) (i : Int), laws_eqLeaseS.L0 k0 k K a2 b2 i = laws_eqLeaseS.G0 k0 (fun (t4x : Bool) => K .ret [(4, .bool t4x)] []) (fun (_ : Unit) => K (.exit 0) [(4, .undef)] []) k a2 b2 i := by
  intro k
  induction k with
  | zero => intros; rfl
  | succ k ih => intros; rw [laws_eqLeaseS.s0, laws_eqLeaseS.G0]; (try simp only [ih]); try rfl
noncomputable def laws_eqLeaseS.FF (k0 : Nat) (a : List (Int × Int × Int × Unit)) (b : List (Int × Int × Int × Unit)) : Option (Bool × Unit) := laws_eqLeaseS.T (fun (a2 : List (Int × Int × Int × Unit)) (b2 : List (Int × Int × Int × Unit)) (i : Int) => laws_eqLeaseS.G0 k0 (fun (t4x : Bool) => laws_eqLeaseS.A0  a b t4x) (fun (_ : Unit) => laws_eqLeaseS.A1  a b ()) k0 a2 b2 i) a b
theorem laws_eqLeaseS.run (k0 : Nat) (a : List (Int × Int × Int × Unit)) (b : List (Int × Int × Int × Unit)) : runFn Try.prog laws_eqLeaseS.tbl laws_eqLeaseS.cfg k0 72 ins_laws_eqLeaseS outs_laws_eqLeaseS (a, b, ()) = laws_eqLeaseS.FF k0 a b := by
  rw [laws_eqLeaseS.top, laws_eqLeaseS.FF]; (try simp only [laws_eqLeaseS.g0, laws_eqLeaseS.a0, laws_eqLeaseS.a1]); try rfl
noncomputable def F_laws_eqLeaseS : (List (Int × Int × Int × Unit)) × (List (Int × Int × Int × Unit)) × Unit → Option (Bool × Unit) := fun x => (fun (a : List (Int × Int × Int × Unit)) (b : List (Int × Int × Int × Unit)) => laws_eqLeaseS.FF (300 + a.length + b.length) a b) x.1 x.2.1
theorem laws_eqLeaseS.tblOK : ∀ g fs S, laws_eqLeaseS.tbl g fs = some S → SumOK Try.prog g S := by
  intro g fs S h
  unfold laws_eqLeaseS.tbl at h
  split at h
  · rename_i hc; obtain ⟨rfl, rfl⟩ := hc; have := Option.some.inj h; subst this; exact ok_laws_eqLease
  cases h
theorem ok_laws_eqLeaseS : SumOK Try.prog 72 ⟨ins_laws_eqLeaseS, outs_laws_eqLeaseS, F_laws_eqLeaseS⟩ := runFn_ok (by kernel_rfl) laws_eqLeaseS.tblOK (by kernel_rfl) fun x y h => ⟨laws_eqLeaseS.cfg, _, (laws_eqLeaseS.run _ x.1 x.2.1).trans h⟩
abbrev ins_laws_eqServer : List Par := [.v true ct3, .v true ct3]
abbrev outs_laws_eqServer : List (Bool × List CT) := [(false, [CT.bool])]
/-! ### loop.example/g00095/laws.eqServer (function 43) -/
noncomputable def laws_eqServer.tbl : Tbl := fun g fs => if g = 11 ∧ fs = [] then some ⟨ins_laws_eqFarm, outs_laws_eqFarm, F_laws_eqFarm⟩ else if g = 72 ∧ fs = [] then some ⟨ins_laws_eqLeaseS, outs_laws_eqLeaseS, F_laws_eqLeaseS⟩ else none
noncomputable def laws_eqServer.body : Code := ((Try.prog.funcs[43]?).bind (·.body)).getD .skip
def laws_eqServer.cfg : Nat → List Nat × List Nat := fun k => ([], [])
noncomputable def laws_eqServer.T  (a0 : Int) (a1 : Int) (a2 : Int) (a3 : Int) (a4 : List (Int × Int × Int × Int × Unit)) (a5 : List (Int × Int × Int × Int × Unit)) (a6 : List (Int × Int × Int × Unit)) (b0 : Int) (b1 : Int) (b2 : Int) (b3 : Int) (b4 : List (Int × Int × Int × Int × Unit)) (b5 : List (Int × Int × Int × Int × Unit)) (b6 : List (Int × Int × Int × Unit)) : Option (Bool × Unit) := cond (a0 != b0) (some (false, ())) (cond (a1 != b1) (some (false, ())) (cond (a2 != b2) (some (false, ())) ((F_laws_eqFarm (a3, a4, a5, b3, b4, b5, ())).bind fun y1 => cond (!y1.1) (some (false, ())) ((F_laws_eqLeaseS (a6, b6, ())).bind fun y2 => cond (!y2.1) (some (false, ())) (some (true, ()))))))
theorem laws_eqServer.top (k0 : Nat) (a0 : Int) (a1 : Int) (a2 : Int) (a3 : Int) (a4 : List (Int × Int × Int × Int × Unit)) (a5 : List (Int × Int × Int × Int × Unit)) (a6 : List (Int × Int × Int × Unit)) (b0 : Int) (b1 : Int) (b2 : Int) (b3 : Int) (b4 : List (Int × Int × Int × Int × Unit)) (b5 : List (Int × Int × Int × Int × Unit)) (b6 : List (Int × Int × Int × Unit)) : runFn Try.prog laws_eqServer.tbl laws_eqServer.cfg k0 43 ins_laws_eqServer outs_laws_eqServer (a0, a1, a2, a3, a4, a5, a6, b0, b1, b2, b3, b4, b5, b6, ()) = laws_eqServer.T  a0 a1 a2 a3 a4 a5 a6 b0 b1 b2 b3 b4 b5 b6 := by kernel_rfl
noncomputable def F_laws_eqServer : Int × Int × Int × Int × (List (Int × Int × Int × Int × Unit)) × (List (Int × Int × Int × Int × Unit)) × (List (Int × Int × Int × Unit)) × Int × Int × Int × Int × (List (Int × Int × Int × Int × Unit)) × (List (Int × Int × Int × Int × Unit)) × (List (Int × Int × Int × Unit)) × Unit → Option (Bool × Unit) := fun x => laws_eqServer.T x.1 x.2.1 x.2.2.1 x.2.2.2.1 x.2.2.2.2.1 x.2.2.2.2.2.1 x.2.2.2.2.2.2.1 x.2.2.2.2.2.2.2.1 x.2.2.2.2.2.2.2.2.1 x.2.2.2.2.2.2.2.2.2.1 x.2.2.2.2.2.2.2.2.2.2.1 x.2.2.2.2.2.2.2.2.2.2.2.1 x.2.2.2.2.2.2.2.2.2.2.2.2.1 x.2.2.2.2.2.2.2.2.2.2.2.2.2.1
theorem laws_eqServer.tblOK : ∀ g fs S, laws_eqServer.tbl g fs = some S → SumOK Try.prog g S := by
  intro g fs S h
  unfold laws_eqServer.tbl at h
  split at h
  · rename_i hc; obtain ⟨rfl, rfl⟩ := hc; have := Option.some.inj h; subst this; exact ok_laws_eqFarm
  split at h
  · rename_i hc; obtain ⟨rfl, rfl⟩ := hc; have := Option.some.inj h; subst this; exact ok_laws_eqLeaseS
  cases h
theorem ok_laws_eqServer : SumOK Try.prog 43 ⟨ins_laws_eqServer, outs_laws_eqServer, F_laws_eqServer⟩ := runFn_ok (by kernel_rfl) laws_eqServer.tblOK (by kernel_rfl) fun x y h => ⟨laws_eqServer.cfg, 0, (laws_eqServer.top 0 x.1 x.2.1 x.2.2.1 x.2.2.2.1 x.2.2.2.2.1 x.2.2.2.2.2.1 x.2.2.2.2.2.2.1 x.2.2.2.2.2.2.2.1 x.2.2.2.2.2.2.2.2.1 x.2.2.2.2.2.2.2.2.2.1 x.2.2.2.2.2.2.2.2.2.2.1 x.2.2.2.2.2.2.2.2.2.2.2.1 x.2.2.2.2.2.2.2.2.2.2.2.2.1 x.2.2.2.2.2.2.2.2.2.2.2.2.2.1).trans h⟩
abbrev ins_laws_eqClient : List Par := [.v true ct5, .v true ct5]
abbrev outs_laws_eqClient : List (Bool × List CT) := [(false, [CT.bool])]
/-! ### loop.example/g00095/laws.eqClient (function 44) -/
noncomputable def laws_eqClient.tbl : Tbl := fun g fs => none
noncomputable def laws_eqClient.body : Code := ((Try.prog.funcs[44]?).bind (·.body)).getD .skip
def laws_eqClient.cfg : Nat → List Nat × List Nat := fun k => ([], [])
noncomputable def laws_eqClient.T  (a0 : Int) (a1 : Int) (a2 : Int) (a3 : Int) (a4 : Int) (a5 : Int) (a6 : Int) (a7 : Int) (a8 : Int) (a9 : Int) (b0 : Int) (b1 : Int) (b2 : Int) (b3 : Int) (b4 : Int) (b5 : Int) (b6 : Int) (b7 : Int) (b8 : Int) (b9 : Int) : Option (Bool × Unit) := cond (a0 != b0) (some (false, ())) (cond (a1 != b1) (some (false, ())) (cond (a2 != b2) (some (false, ())) (cond (a3 != b3) (some (false, ())) (cond (a4 != b4) (some (false, ())) (cond (a5 != b5) (some (false, ())) (cond (a6 != b6) (some (false, ())) (cond (a7 != b7) (some (false, ())) (cond (a8 != b8) (some (false, ())) (cond (a9 != b9) (some (false, ())) (some (true, ())))))))))))
theorem laws_eqClient.top (k0 : Nat) (a0 : Int) (a1 : Int) (a2 : Int) (a3 : Int) (a4 : Int) (a5 : Int) (a6 : Int) (a7 : Int) (a8 : Int) (a9 : Int) (b0 : Int) (b1 : Int) (b2 : Int) (b3 : Int) (b4 : Int) (b5 : Int) (b6 : Int) (b7 : Int) (b8 : Int) (b9 : Int) : runFn Try.prog laws_eqClient.tbl laws_eqClient.cfg k0 44 ins_laws_eqClient outs_laws_eqClient (a0, a1, a2, a3, a4, a5, a6, a7, a8, a9, b0, b1, b2, b3, b4, b5, b6, b7, b8, b9, ()) = laws_eqClient.T  a0 a1 a2 a3 a4 a5 a6 a7 a8 a9 b0 b1 b2 b3 b4 b5 b6 b7 b8 b9 := by kernel_rfl
noncomputable def F_laws_eqClient : Int × Int × Int × Int × Int × Int × Int × Int × Int × Int × Int × Int × Int × Int × Int × Int × Int × Int × Int × Int × Unit → Option (Bool × Unit) := fun x => laws_eqClient.T x.1 x.2.1 x.2.2.1 x.2.2.2.1 x.2.2.2.2.1 x.2.2.2.2.2.1 x.2.2.2.2.2.2.1 x.2.2.2.2.2.2.2.1 x.2.2.2.2.2.2.2.2.1 x.2.2.2.2.2.2.2.2.2.1 x.2.2.2.2.2.2.2.2.2.2.1 x.2.2.2.2.2.2.2.2.2.2.2.1 x.2.2.2.2.2.2.2.2.2.2.2.2.1 x.2.2.2.2.2.2.2.2.2.2.2.2.2.1 x.2.2.2.2.2.2.2.2.2.2.2.2.2.2.1 x.2.2.2.2.2.2.2.2.2.2.2.2.2.2.2.1 x.2.2.2.2.2.2.2.2.2.2.2.2.2.2.2.2.1 x.2.2.2.2.2.2.2.2.2.2.2.2.2.2.2.2.2.1 x.2.2.2.2.2.2.2.2.2.2.2.2.2.2.2.2.2.2.1 x.2.2.2.2.2.2.2.2.2.2.2.2.2.2.2.2.2.2.2.1
theorem laws_eqClient.tblOK : ∀ g fs S, laws_eqClient.tbl g fs = some S → SumOK Try.prog g S := by
  intro g fs S h
  unfold laws_eqClient.tbl at h
  cases h
theorem ok_laws_eqClient : SumOK Try.prog 44 ⟨ins_laws_eqClient, outs_laws_eqClient, F_laws_eqClient⟩ := runFn_ok (by kernel_rfl) laws_eqClient.tblOK (by kernel_rfl) fun x y h => ⟨laws_eqClient.cfg, 0, (laws_eqClient.top 0 x.1 x.2.1 x.2.2.1 x.2.2.2.1 x.2.2.2.2.1 x.2.2.2.2.2.1 x.2.2.2.2.2.2.1 x.2.2.2.2.2.2.2.1 x.2.2.2.2.2.2.2.2.1 x.2.2.2.2.2.2.2.2.2.1 x.2.2.2.2.2.2.2.2.2.2.1 x.2.2.2.2.2.2.2.2.2.2.2.1 x.2.2.2.2.2.2.2.2.2.2.2.2.1 x.2.2.2.2.2.2.2.2.2.2.2.2.2.1 x.2.2.2.2.2.2.2.2.2.2.2.2.2.2.1 x.2.2.2.2.2.2.2.2.2.2.2.2.2.2.2.1 x.2.2.2.2.2.2.2.2.2.2.2.2.2.2.2.2.1 x.2.2.2.2.2.2.2.2.2.2.2.2.2.2.2.2.2.1 x.2.2.2.2.2.2.2.2.2.2.2.2.2.2.2.2.2.2.1 x.2.2.2.2.2.2.2.2.2.2.2.2.2.2.2.2.2.2.2.1).trans h⟩
abbrev ins_laws_eqRelay : List Par := [.v true ct2, .v true ct2]
abbrev outs_laws_eqRelay : List (Bool × List CT) := [(false, [CT.bool])]
/-! ### loop.example/g00095/laws.eqRelay (function 16) -/
noncomputable def laws_eqRelay.tbl : Tbl := fun g fs => if g = 43 ∧ fs = [] then some ⟨ins_laws_eqServer, outs_laws_eqServer, F_laws_eqServer⟩ else if g = 44 ∧ fs = [] then some ⟨ins_laws_eqClient, outs_laws_eqClient, F_laws_eqClient⟩ else none
noncomputable def laws_eqRelay.body : Code := ((Try.prog.funcs[16]?).bind (·.body)).getD .skip
def laws_eqRelay.cfg : Nat → List Nat × List Nat := fun k => ([], [])
noncomputable def laws_eqRelay.T  (a0 : Int) (a1 : Int) (a2 : Int) (a3 : Int) (a4 : List (Int × Int × Int × Int × Unit)) (a5 : List (Int × Int × Int × Int × Unit)) (a6 : List (Int × Int × Int × Unit)) (a7 : Int) (a8 : Int) (a9 : Int) (a10 : Int) (a11 : Int) (a12 : Int) (a13 : Int) (a14 : Int) (a15 : Int) (a16 : Int) (b0 : Int) (b1 : Int) (b2 : Int) (b3 : Int) (b4 : List (Int × Int × Int × Int × Unit)) (b5 : List (Int × Int × Int × Int × Unit)) (b6 : List (Int × Int × Int × Unit)) (b7 : Int) (b8 : Int) (b9 : Int) (b10 : Int) (b11 : Int) (b12 : Int) (b13 : Int) (b14 : Int) (b15 : Int) (b16 : Int) : Option (Bool × Unit) := (F_laws_eqServer (a0, a1, a2, a3, a4, a5, a6, b0, b1, b2, b3, b4, b5, b6, ())).bind fun y1 => cond (!y1.1) (some (false, ())) ((F_laws_eqClient (a7, a8, a9, a10, a11, a12, a13, a14, a15, a16, b7, b8, b9, b10, b11, b12, b13, b14, b15, b16, ())).bind fun y2 => cond (!y2.1) (some (false, ())) (some (true, ())))
theorem laws_eqRelay.top (k0 : Nat) (a0 : Int) (a1 : Int) (a2 : Int) (a3 : Int) (a4 : List (Int × Int × Int × Int × Unit)) (a5 : List (Int × Int × Int × Int × Unit)) (a6 : List (Int × Int × Int × Unit)) (a7 : Int) (a8 : Int) (a9 : Int) (a10 : Int) (a11 : Int) (a12 : Int) (a13 : Int) (a14 : Int) (a15 : Int) (a16 : Int) (b0 : Int) (b1 : Int) (b2 : Int) (b3 : Int) (b4 : List (Int × Int × Int × Int × Unit)) (b5 : List (Int × Int × Int × Int × Unit)) (b6 : List (Int × Int × Int × Unit)) (b7 : Int) (b8 : Int) (b9 : Int) (b10 : Int) (b11 : Int) (b12 : Int) (b13 : Int) (b14 : Int) (b15 : Int) (b16 : Int) : runFn Try.prog laws_eqRelay.tbl laws_eqRelay.cfg k0 16 ins_laws_eqRelay outs_laws_eqRelay (a0, a1, a2, a3, a4, a5, a6, a7, a8, a9, a10, a11, a12, a13, a14, a15, a16, b0, b1, b2, b3, b4, b5, b6, b7, b8, b9, b10, b11, b12, b13, b14, b15, b16, ()) = laws_eqRelay.T  a0 a1 a2 a3 a4 a5 a6 a7 a8 a9 a10 a11 a12 a13 a14 a15 a16 b0 b1 b2 b3 b4 b5 b6 b7 b8 b9 b10 b11 b12 b13 b14 b15 b16 := by kernel_rfl
noncomputable def F_laws_eqRelay : Int × Int × Int × Int × (List (Int × Int × Int × Int × Unit)) × (List (Int × Int × Int × Int × Unit)) × (List (Int × Int × Int × Unit)) × Int × Int × Int × Int × Int × Int × Int × Int × Int × Int × Int × Int × Int × Int × (List (Int × Int × Int × Int × Unit)) × (List (Int × Int × Int × Int × Unit)) × (List (Int × Int × Int × Unit)) × Int × Int × Int × Int × Int × Int × Int × Int × Int × Int × Unit → Option (Bool × Unit) := fun x => laws_eqRelay.T x.1 x.2.1 x.2.2.1 x.2.2.2.1 x.2.2.2.2.1 x.2.2.2.2.2.1 x.2.2.2.2.2.2.1 x.2.2.2.2.2.2.2.1 x.2.2.2.2.2.2.2.2.1 x.2.2.2.2.2.2.2.2.2.1 x.2.2.2.2.2.2.2.2.2.2.1 x.2.2.2.2.2.2.2.2.2.2.2.1 x.2.2.2.2.2.2.2.2.2.2.2.2.1 x.2.2.2.2.2.2.2.2.2.2.2.2.2.1 x.2.2.2.2.2.2.2.2.2.2.2.2.2.2.1 x.2.2.2.2.2.2.2.2.2.2.2.2.2.2.2.1 x.2.2.2.2.2.2.2.2.2.2.2.2.2.2.2.2.1 x.2.2.2.2.2.2.2.2.2.2.2.2.2.2.2.2.2.1 x.2.2.2.2.2.2.2.2.2.2.2.2.2.2.2.2.2.2.1 x.2.2.2.2.2.2.2.2.2.2.2.2.2.2.2.2.2.2.2.1 x.2.2.2.2.2.2.2.2.2.2.2.2.2.2.2.2.2.2.2.2.1 x.2.2.2.2.2.2.2.2.2.2.2.2.2.2.2.2.2.2.2.2.2.1 x.2.2.2.2.2.2.2.2.2.2.2.2.2.2.2.2.2.2.2.2.2.2.1 x.2.2.2.2.2.2.2.2.2.2.2.2.2.2.2.2.2.2.2.2.2.2.2.1 x.2.2.2.2.2.2.2.2.2.2.2.2.2.2.2.2.2.2.2.2.2.2.2.2.1 x.2.2.2.2.2.2.2.2.2.2.2.2.2.2.2.2.2.2.2.2.2.2.2.2.2.1 x.2.2.2.2.2.2.2.2.2.2.2.2.2.2.2.2.2.2.2.2.2.2.2.2.2.2.1 x.2.2.2.2.2.2.2.2.2.2.2.2.2.2.2.2.2.2.2.2.2.2.2.2.2.2.2.1 x.2.2.2.2.2.2.2.2.2.2.2.2.2.2.2.2.2.2.2.2.2.2.2.2.2.2.2.2.1 x.2.2.2.2.2.2.2.2.2.2.2.2.2.2.2.2.2.2.2.2.2.2.2.2.2.2.2.2.2.1 x.2.2.2.2.2.2.2.2.2.2.2.2.2.2.2.2.2.2.2.2.2.2.2.2.2.2.2.2.2.2.1 x.2.2.2.2.2.2.2.2.2.2.2.2.2.2.2.2.2.2.2.2.2.2.2.2.2.2.2.2.2.2.2.1 x.2.2.2.2.2.2.2.2.2.2.2.2.2.2.2.2.2.2.2.2.2.2.2.2.2.2.2.2.2.2.2.2.1 x.2.2.2.2.2.2.2.2.2.2.2.2.2.2.2.2.2.2.2.2.2.2.2.2.2.2.2.2.2.2.2.2.2.1
theorem laws_eqRelay.tblOK : ∀ g fs S, laws_eqRelay.tbl g fs = some S → SumOK Try.prog g S := by
  intro g fs S h
  unfold laws_eqRelay.tbl at h
  split at h
  · rename_i hc; obtain ⟨rfl, rfl⟩ := hc; have := Option.some.inj h; subst this; exact ok_laws_eqServer
  split at h
  · rename_i hc; obtain ⟨rfl, rfl⟩ := hc; have := Option.some.inj h; subst this; exact ok_laws_eqClient
  cases h
theorem ok_laws_eqRelay : SumOK Try.prog 16 ⟨ins_laws_eqRelay, outs_laws_eqRelay, F_laws_eqRelay⟩ := runFn_ok (by kernel_rfl) laws_eqRelay.tblOK (by kernel_rfl) fun x y h => ⟨laws_eqRelay.cfg, 0, (laws_eqRelay.top 0 x.1 x.2.1 x.2.2.1 x.2.2.2.1 x.2.2.2.2.1 x.2.2.2.2.2.1 x.2.2.2.2.2.2.1 x.2.2.2.2.2.2.2.1 x.2.2.2.2.2.2.2.2.1 x.2.2.2.2.2.2.2.2.2.1 x.2.2.2.2.2.2.2.2.2.2.1 x.2.2.2.2.2.2.2.2.2.2.2.1 x.2.2.2.2.2.2.2.2.2.2.2.2.1 x.2.2.2.2.2.2.2.2.2.2.2.2.2.1 x.2.2.2.2.2.2.2.2.2.2.2.2.2.2.1 x.2.2.2.2.2.2.2.2.2.2.2.2.2.2.2.1 x.2.2.2.2.2.2.2.2.2.2.2.2.2.2.2.2.1 x.2.2.2.2.2.2.2.2.2.2.2.2.2.2.2.2.2.1 x.2.2.2.2.2.2.2.2.2.2.2.2.2.2.2.2.2.2.1 x.2.2.2.2.2.2.2.2.2.2.2.2.2.2.2.2.2.2.2.1 x.2.2.2.2.2.2.2.2.2.2.2.2.2.2.2.2.2.2.2.2.1 x.2.2.2.2.2.2.2.2.2.2.2.2.2.2.2.2.2.2.2.2.2.1 x.2.2.2.2.2.2.2.2.2.2.2.2.2.2.2.2.2.2.2.2.2.2.1 x.2.2.2.2.2.2.2.2.2.2.2.2.2.2.2.2.2.2.2.2.2.2.2.1 x.2.2.2.2.2.2.2.2.2.2.2.2.2.2.2.2.2.2.2.2.2.2.2.2.1 x.2.2.2.2.2.2.2.2.2.2.2.2.2.2.2.2.2.2.2.2.2.2.2.2.2.1 x.2.2.2.2.2.2.2.2.2.2.2.2.2.2.2.2.2.2.2.2.2.2.2.2.2.2.1 x.2.2.2.2.2.2.2.2.2.2.2.2.2.2.2.2.2.2.2.2.2.2.2.2.2.2.2.1 x.2.2.2.2.2.2.2.2.2.2.2.2.2.2.2.2.2.2.2.2.2.2.2.2.2.2.2.2.1 x.2.2.2.2.2.2.2.2.2.2.2.2.2.2.2.2.2.2.2.2.2.2.2.2.2.2.2.2.2.1 x.2.2.2.2.2.2.2.2.2.2.2.2.2.2.2.2.2.2.2.2.2.2.2.2.2.2.2.2.2.2.1 x.2.2.2.2.2.2.2.2.2.2.2.2.2.2.2.2.2.2.2.2.2.2.2.2.2.2.2.2.2.2.2.1 x.2.2.2.2.2.2.2.2.2.2.2.2.2.2.2.2.2.2.2.2.2.2.2.2.2.2.2.2.2.2.2.2.1 x.2.2.2.2.2.2.2.2.2.2.2.2.2.2.2.2.2.2.2.2.2.2.2.2.2.2.2.2.2.2.2.2.2.1).trans h⟩
abbrev ins_laws_FnExactRelayRight : List Par := [.v true ct2]
abbrev outs_laws_FnExactRelayRight : List (Bool × List CT) := [(false, [CT.bool])]
/-! ### loop.example/g00095/laws.FnExactRelayRight (function 4) -/
noncomputable def laws_FnExactRelayRight.tbl : Tbl := fun g fs => if g = 12 ∧ fs = [] then some ⟨ins_laws_szRelay, outs_laws_szRelay, F_laws_szRelay⟩ else if g = 13 ∧ fs = [] then some ⟨ins_spec_RelayRight, outs_spec_RelayRight, F_spec_RelayRight⟩ else if g = 14 ∧ fs = [] then some ⟨ins_laws_toRelay, outs_laws_toRelay, F_laws_toRelay⟩ else if g = 15 ∧ fs = [] then some ⟨ins_impl_RelayRight, outs_impl_RelayRight, F_impl_RelayRight⟩ else if g = 16 ∧ fs = [] then some ⟨ins_laws_eqRelay, outs_laws_eqRelay, F_laws_eqRelay⟩ else none
noncomputable def laws_FnExactRelayRight.body : Code := ((Try.prog.funcs[4]?).bind (·.body)).getD .skip
def laws_FnExactRelayRight.cfg : Nat → List Nat × List Nat := fun k => ([], [])
noncomputable def laws_FnExactRelayRight.T  (aR0 : Int) (aR1 : Int) (aR2 : Int) (aR3 : Int) (aR4 : List (Int × Int × Int × Int × Unit)) (aR5 : List (Int × Int × Int × Int × Unit)) (aR6 : List (Int × Int × Int × Unit)) (aR7 : Int) (aR8 : Int) (aR9 : Int) (aR10 : Int) (aR11 : Int) (aR12 : Int) (aR13 : Int) (aR14 : Int) (aR15 : Int) (aR16 : Int) : Option (Bool × Unit) := (F_laws_szRelay (aR0, aR1, aR2, aR3, aR4, aR5, aR6, aR7, aR8, aR9, aR10, aR11, aR12, aR13, aR14, aR15, aR16, 1048576, ())).bind fun y1 => cond (decide (y1.1 < 0)) (some (true, ())) ((F_laws_toRelay (aR0, aR1, aR2, aR3, aR4, aR5, aR6, aR7, aR8, aR9, aR10, aR11, aR12, aR13, aR14, aR15, aR16, ())).bind fun y2 => (F_spec_RelayRight (y2.1, y2.2.1, y2.2.2.1, y2.2.2.2.1, y2.2.2.2.2.1, y2.2.2.2.2.2.1, y2.2.2.2.2.2.2.1, y2.2.2.2.2.2.2.2.1, y2.2.2.2.2.2.2.2.2.1, y2.2.2.2.2.2.2.2.2.2.1, y2.2.2.2.2.2.2.2.2.2.2.1, y2.2.2.2.2.2.2.2.2.2.2.2.1, y2.2.2.2.2.2.2.2.2.2.2.2.2.1, y2.2.2.2.2.2.2.2.2.2.2.2.2.2.1, y2.2.2.2.2.2.2.2.2.2.2.2.2.2.2.1, y2.2.2.2.2.2.2.2.2.2.2.2.2.2.2.2.1, y2.2.2.2.2.2.2.2.2.2.2.2.2.2.2.2.2.1, ())).bind fun y3 => (F_laws_toRelay (aR0, aR1, aR2, aR3, aR4, aR5, aR6, aR7, aR8, aR9, aR10, aR11, aR12, aR13, aR14, aR15, aR16, ())).bind fun y4 => (F_impl_RelayRight (y4.1, y4.2.1, y4.2.2.1, y4.2.2.2.1, y4.2.2.2.2.1, y4.2.2.2.2.2.1, y4.2.2.2.2.2.2.1, y4.2.2.2.2.2.2.2.1, y4.2.2.2.2.2.2.2.2.1, y4.2.2.2.2.2.2.2.2.2.1, y4.2.2.2.2.2.2.2.2.2.2.1, y4.2.2.2.2.2.2.2.2.2.2.2.1, y4.2.2.2.2.2.2.2.2.2.2.2.2.1, y4.2.2.2.2.2.2.2.2.2.2.2.2.2.1, y4.2.2.2.2.2.2.2.2.2.2.2.2.2.2.1, y4.2.2.2.2.2.2.2.2.2.2.2.2.2.2.2.1, y4.2.2.2.2.2.2.2.2.2.2.2.2.2.2.2.2.1, ())).bind fun y5 => cond (!(y5.1 == y3.1)) (some (false, ())) ((F_laws_toRelay (aR0, aR1, aR2, aR3, aR4, aR5, aR6, aR7, aR8, aR9, aR10, aR11, aR12, aR13, aR14, aR15, aR16, ())).bind fun y6 => (F_laws_eqRelay (y4.1, y4.2.1, y4.2.2.1, y4.2.2.2.1, y4.2.2.2.2.1, y4.2.2.2.2.2.1, y4.2.2.2.2.2.2.1, y4.2.2.2.2.2.2.2.1, y4.2.2.2.2.2.2.2.2.1, y4.2.2.2.2.2.2.2.2.2.1, y4.2.2.2.2.2.2.2.2.2.2.1, y4.2.2.2.2.2.2.2.2.2.2.2.1, y4.2.2.2.2.2.2.2.2.2.2.2.2.1, y4.2.2.2.2.2.2.2.2.2.2.2.2.2.1, y4.2.2.2.2.2.2.2.2.2.2.2.2.2.2.1, y4.2.2.2.2.2.2.2.2.2.2.2.2.2.2.2.1, y4.2.2.2.2.2.2.2.2.2.2.2.2.2.2.2.2.1, y6.1, y6.2.1, y6.2.2.1, y6.2.2.2.1, y6.2.2.2.2.1, y6.2.2.2.2.2.1, y6.2.2.2.2.2.2.1, y6.2.2.2.2.2.2.2.1, y6.2.2.2.2.2.2.2.2.1, y6.2.2.2.2.2.2.2.2.2.1, y6.2.2.2.2.2.2.2.2.2.2.1, y6.2.2.2.2.2.2.2.2.2.2.2.1, y6.2.2.2.2.2.2.2.2.2.2.2.2.1, y6.2.2.2.2.2.2.2.2.2.2.2.2.2.1, y6.2.2.2.2.2.2.2.2.2.2.2.2.2.2.1, y6.2.2.2.2.2.2.2.2.2.2.2.2.2.2.2.1, y6.2.2.2.2.2.2.2.2.2.2.2.2.2.2.2.2.1, ())).bind fun y7 => cond (!y7.1) (some (false, ())) (some (true, ()))))
theorem laws_FnExactRelayRight.top (k0 : Nat) (aR0 : Int) (aR1 : Int) (aR2 : Int) (aR3 : Int) (aR4 : List (Int × Int × Int × Int × Unit)) (aR5 : List (Int × Int × Int × Int × Unit)) (aR6 : List (Int × Int × Int × Unit)) (aR7 : Int) (aR8 : Int) (aR9 : Int) (aR10 : Int) (aR11 : Int) (aR12 : Int) (aR13 : Int) (aR14 : Int) (aR15 : Int) (aR16 : Int) : runFn Try.prog laws_FnExactRelayRight.tbl laws_FnExactRelayRight.cfg k0 4 ins_laws_FnExactRelayRight outs_laws_FnExactRelayRight (aR0, aR1, aR2, aR3, aR4, aR5, aR6, aR7, aR8, aR9, aR10, aR11, aR12, aR13, aR14, aR15, aR16, ()) = laws_FnExactRelayRight.T  aR0 aR1 aR2 aR3 aR4 aR5 aR6 aR7 aR8 aR9 aR10 aR11 aR12 aR13 aR14 aR15 aR16 := by kernel_rfl
noncomputable def F_laws_FnExactRelayRight : Int × Int × Int × Int × (List (Int × Int × Int × Int × Unit)) × (List (Int × Int × Int × Int × Unit)) × (List (Int × Int × Int × Unit)) × Int × Int × Int × Int × Int × Int × Int × Int × Int × Int × Unit → Option (Bool × Unit) := fun x => laws_FnExactRelayRight.T x.1 x.2.1 x.2.2.1 x.2.2.2.1 x.2.2.2.2.1 x.2.2.2.2.2.1 x.2.2.2.2.2.2.1 x.2.2.2.2.2.2.2.1 x.2.2.2.2.2.2.2.2.1 x.2.2.2.2.2.2.2.2.2.1 x.2.2.2.2.2.2.2.2.2.2.1 x.2.2.2.2.2.2.2.2.2.2.2.1 x.2.2.2.2.2.2.2.2.2.2.2.2.1 x.2.2.2.2.2.2.2.2.2.2.2.2.2.1 x.2.2.2.2.2.2.2.2.2.2.2.2.2.2.1 x.2.2.2.2.2.2.2.2.2.2.2.2.2.2.2.1 x.2.2.2.2.2.2.2.2.2.2.2.2.2.2.2.2.1
theorem laws_FnExactRelayRight.tblOK : ∀ g fs S, laws_FnExactRelayRight.tbl g fs = some S → SumOK Try.prog g S := by
  intro g fs S h
  unfold laws_FnExactRelayRight.tbl at h
  split at h
  · rename_i hc; obtain ⟨rfl, rfl⟩ := hc; have := Option.some.inj h; subst this; exact ok_laws_szRelay
  split at h
  · rename_i hc; obtain ⟨rfl, rfl⟩ := hc; have := Option.some.inj h; subst this; exact ok_spec_RelayRight
  split at h
  · rename_i hc; obtain ⟨rfl, rfl⟩ := hc; have := Option.some.inj h; subst this; exact ok_laws_toRelay
  split at h
  · rename_i hc; obtain ⟨rfl, rfl⟩ := hc; have := Option.some.inj h; subst this; exact ok_impl_RelayRight
  split at h
  · rename_i hc; obtain ⟨rfl, rfl⟩ := hc; have := Option.some.inj h; subst this; exact ok_laws_eqRelay
  cases h
theorem ok_laws_FnExactRelayRight : SumOK Try.prog 4 ⟨ins_laws_FnExactRelayRight, outs_laws_FnExactRelayRight, F_laws_FnExactRelayRight⟩ := runFn_ok (by kernel_rfl) laws_FnExactRelayRight.tblOK (by kernel_rfl) fun x y h => ⟨laws_FnExactRelayRight.cfg, 0, (laws_FnExactRelayRight.top 0 x.1 x.2.1 x.2.2.1 x.2.2.2.1 x.2.2.2.2.1 x.2.2.2.2.2.1 x.2.2.2.2.2.2.1 x.2.2.2.2.2.2.2.1 x.2.2.2.2.2.2.2.2.1 x.2.2.2.2.2.2.2.2.2.1 x.2.2.2.2.2.2.2.2.2.2.1 x.2.2.2.2.2.2.2.2.2.2.2.1 x.2.2.2.2.2.2.2.2.2.2.2.2.1 x.2.2.2.2.2.2.2.2.2.2.2.2.2.1 x.2.2.2.2.2.2.2.2.2.2.2.2.2.2.1 x.2.2.2.2.2.2.2.2.2.2.2.2.2.2.2.1 x.2.2.2.2.2.2.2.2.2.2.2.2.2.2.2.2.1).trans h⟩

end Go.Rv
