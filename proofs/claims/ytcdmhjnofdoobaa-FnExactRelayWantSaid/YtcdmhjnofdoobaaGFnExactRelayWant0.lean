/- What each function that FnExactRelayWant reaches comes to on pure values (printed by a program of ours). -/
import Derived.Test.YtcdmhjnofdoobaaRvC
import Derived.Test.YtcdmhjnofdoobaaProg
import Derived.KernelRfl
set_option linter.unusedVariables false
set_option linter.unusedSimpArgs false
set_option maxRecDepth 100000
namespace Go.Rv
open Go.Proofs
abbrev ct0 : List CT := [CT.int .i64, CT.int .i64, CT.int .i64, CT.int .i64]
abbrev ct1 : List CT := [CT.int .i64, CT.int .i64, CT.int .i64]
abbrev ct2 : List CT := [CT.int .i64, CT.int .i64, CT.int .i64, CT.int .i64, CT.sl ct0, CT.sl ct0, CT.sl ct1, CT.int .i64, CT.int .i64, CT.int .i64, CT.int .i64, CT.int .i64, CT.int .i64, CT.int .i64, CT.int .i64, CT.int .i64, CT.int .i64]
abbrev ct3 : List CT := [CT.int .i64, CT.int .i64, CT.int .i64, CT.int .i64, CT.sl ct0, CT.sl ct0, CT.sl ct1]
abbrev ct4 : List CT := [CT.int .i64, CT.sl ct0, CT.sl ct0]
abbrev ct5 : List CT := [CT.int .i64, CT.int .i64, CT.int .i64, CT.int .i64, CT.int .i64, CT.int .i64, CT.int .i64, CT.int .i64, CT.int .i64, CT.int .i64]
abbrev ins_laws_szGroupS : List Par := [.v false [CT.sl ct0], .v false [CT.int .i64]]
abbrev outs_laws_szGroupS : List (Bool × List CT) := [(false, [CT.int .i64])]
/-! ### loop.example/g00095/laws.szGroupS (function 23) -/
noncomputable def laws_szGroupS.tbl : Tbl := fun g fs => none
noncomputable def laws_szGroupS.body : Code := ((Try.prog.funcs[23]?).bind (·.body)).getD .skip
def laws_szGroupS.cfg : Nat → List Nat × List Nat := fun k => ([], [])
noncomputable def laws_szGroupS.T  (a : List (Int × Int × Int × Int × Unit)) (left : Int) : Option (Int × Unit) := cond (decide ((w64 (left - (a.length : Int))) < 0)) (some ((-1), ())) (some ((w64 (left - (a.length : Int))), ()))
theorem laws_szGroupS.top (k0 : Nat) (a : List (Int × Int × Int × Int × Unit)) (left : Int) : runFn Try.prog laws_szGroupS.tbl laws_szGroupS.cfg k0 23 ins_laws_szGroupS outs_laws_szGroupS (a, left, ()) = laws_szGroupS.T  a left := by kernel_rfl
noncomputable def F_laws_szGroupS : (List (Int × Int × Int × Int × Unit)) × Int × Unit → Option (Int × Unit) := fun x => laws_szGroupS.T x.1 x.2.1
theorem laws_szGroupS.tblOK : ∀ g fs S, laws_szGroupS.tbl g fs = some S → SumOK Try.prog g S := by
  intro g fs S h
  unfold laws_szGroupS.tbl at h
  cases h
theorem ok_laws_szGroupS : SumOK Try.prog 23 ⟨ins_laws_szGroupS, outs_laws_szGroupS, F_laws_szGroupS⟩ := runFn_ok (by kernel_rfl) laws_szGroupS.tblOK (by kernel_rfl) fun x y h => ⟨laws_szGroupS.cfg, 0, (laws_szGroupS.top 0 x.1 x.2.1).trans h⟩
abbrev ins_laws_szMemberS : List Par := [.v false [CT.sl ct0], .v false [CT.int .i64]]
abbrev outs_laws_szMemberS : List (Bool × List CT) := [(false, [CT.int .i64])]
/-! ### loop.example/g00095/laws.szMemberS (function 24) -/
noncomputable def laws_szMemberS.tbl : Tbl := fun g fs => none
noncomputable def laws_szMemberS.body : Code := ((Try.prog.funcs[24]?).bind (·.body)).getD .skip
def laws_szMemberS.cfg : Nat → List Nat × List Nat := fun k => ([], [])
noncomputable def laws_szMemberS.T  (a : List (Int × Int × Int × Int × Unit)) (left : Int) : Option (Int × Unit) := cond (decide ((w64 (left - (a.length : Int))) < 0)) (some ((-1), ())) (some ((w64 (left - (a.length : Int))), ()))
theorem laws_szMemberS.top (k0 : Nat) (a : List (Int × Int × Int × Int × Unit)) (left : Int) : runFn Try.prog laws_szMemberS.tbl laws_szMemberS.cfg k0 24 ins_laws_szMemberS outs_laws_szMemberS (a, left, ()) = laws_szMemberS.T  a left := by kernel_rfl
noncomputable def F_laws_szMemberS : (List (Int × Int × Int × Int × Unit)) × Int × Unit → Option (Int × Unit) := fun x => laws_szMemberS.T x.1 x.2.1
theorem laws_szMemberS.tblOK : ∀ g fs S, laws_szMemberS.tbl g fs = some S → SumOK Try.prog g S := by
  intro g fs S h
  unfold laws_szMemberS.tbl at h
  cases h
theorem ok_laws_szMemberS : SumOK Try.prog 24 ⟨ins_laws_szMemberS, outs_laws_szMemberS, F_laws_szMemberS⟩ := runFn_ok (by kernel_rfl) laws_szMemberS.tblOK (by kernel_rfl) fun x y h => ⟨laws_szMemberS.cfg, 0, (laws_szMemberS.top 0 x.1 x.2.1).trans h⟩
abbrev ins_laws_szFarm : List Par := [.v true ct4, .v false [CT.int .i64]]
abbrev outs_laws_szFarm : List (Bool × List CT) := [(false, [CT.int .i64])]
/-! ### loop.example/g00095/laws.szFarm (function 7) -/
noncomputable def laws_szFarm.tbl : Tbl := fun g fs => if g = 23 ∧ fs = [] then some ⟨ins_laws_szGroupS, outs_laws_szGroupS, F_laws_szGroupS⟩ else if g = 24 ∧ fs = [] then some ⟨ins_laws_szMemberS, outs_laws_szMemberS, F_laws_szMemberS⟩ else none
noncomputable def laws_szFarm.body : Code := ((Try.prog.funcs[7]?).bind (·.body)).getD .skip
def laws_szFarm.cfg : Nat → List Nat × List Nat := fun k => ([], [])
noncomputable def laws_szFarm.T  (a0 : Int) (a1 : List (Int × Int × Int × Int × Unit)) (a2 : List (Int × Int × Int × Int × Unit)) (left : Int) : Option (Int × Unit) := (F_laws_szGroupS (a1, left, ())).bind fun y1 => cond (decide (y1.1 < 0)) (some ((-1), ())) ((F_laws_szMemberS (a2, y1.1, ())).bind fun y2 => cond (decide (y2.1 < 0)) (some ((-1), ())) (some (y2.1, ())))
theorem laws_szFarm.top (k0 : Nat) (a0 : Int) (a1 : List (Int × Int × Int × Int × Unit)) (a2 : List (Int × Int × Int × Int × Unit)) (left : Int) : runFn Try.prog laws_szFarm.tbl laws_szFarm.cfg k0 7 ins_laws_szFarm outs_laws_szFarm (a0, a1, a2, left, ()) = laws_szFarm.T  a0 a1 a2 left := by kernel_rfl
noncomputable def F_laws_szFarm : Int × (List (Int × Int × Int × Int × Unit)) × (List (Int × Int × Int × Int × Unit)) × Int × Unit → Option (Int × Unit) := fun x => laws_szFarm.T x.1 x.2.1 x.2.2.1 x.2.2.2.1
theorem laws_szFarm.tblOK : ∀ g fs S, laws_szFarm.tbl g fs = some S → SumOK Try.prog g S := by
  intro g fs S h
  unfold laws_szFarm.tbl at h
  split at h
  · rename_i hc; obtain ⟨rfl, rfl⟩ := hc; have := Option.some.inj h; subst this; exact ok_laws_szGroupS
  split at h
  · rename_i hc; obtain ⟨rfl, rfl⟩ := hc; have := Option.some.inj h; subst this; exact ok_laws_szMemberS
  cases h
theorem ok_laws_szFarm : SumOK Try.prog 7 ⟨ins_laws_szFarm, outs_laws_szFarm, F_laws_szFarm⟩ := runFn_ok (by kernel_rfl) laws_szFarm.tblOK (by kernel_rfl) fun x y h => ⟨laws_szFarm.cfg, 0, (laws_szFarm.top 0 x.1 x.2.1 x.2.2.1 x.2.2.2.1).trans h⟩
abbrev ins_laws_szLeaseS : List Par := [.v false [CT.sl ct1], .v false [CT.int .i64]]
abbrev outs_laws_szLeaseS : List (Bool × List CT) := [(false, [CT.int .i64])]
/-! ### loop.example/g00095/laws.szLeaseS (function 64) -/
noncomputable def laws_szLeaseS.tbl : Tbl := fun g fs => none
noncomputable def laws_szLeaseS.body : Code := ((Try.prog.funcs[64]?).bind (·.body)).getD .skip
def laws_szLeaseS.cfg : Nat → List Nat × List Nat := fun k => ([], [])
noncomputable def laws_szLeaseS.T  (a : List (Int × Int × Int × Unit)) (left : Int) : Option (Int × Unit) := cond (decide ((w64 (left - (a.length : Int))) < 0)) (some ((-1), ())) (some ((w64 (left - (a.length : Int))), ()))
theorem laws_szLeaseS.top (k0 : Nat) (a : List (Int × Int × Int × Unit)) (left : Int) : runFn Try.prog laws_szLeaseS.tbl laws_szLeaseS.cfg k0 64 ins_laws_szLeaseS outs_laws_szLeaseS (a, left, ()) = laws_szLeaseS.T  a left := by kernel_rfl
noncomputable def F_laws_szLeaseS : (List (Int × Int × Int × Unit)) × Int × Unit → Option (Int × Unit) := fun x => laws_szLeaseS.T x.1 x.2.1
theorem laws_szLeaseS.tblOK : ∀ g fs S, laws_szLeaseS.tbl g fs = some S → SumOK Try.prog g S := by
  intro g fs S h
  unfold laws_szLeaseS.tbl at h
  cases h
theorem ok_laws_szLeaseS : SumOK Try.prog 64 ⟨ins_laws_szLeaseS, outs_laws_szLeaseS, F_laws_szLeaseS⟩ := runFn_ok (by kernel_rfl) laws_szLeaseS.tblOK (by kernel_rfl) fun x y h => ⟨laws_szLeaseS.cfg, 0, (laws_szLeaseS.top 0 x.1 x.2.1).trans h⟩
abbrev ins_laws_szServer : List Par := [.v true ct3, .v false [CT.int .i64]]
abbrev outs_laws_szServer : List (Bool × List CT) := [(false, [CT.int .i64])]
/-! ### loop.example/g00095/laws.szServer (function 36) -/
noncomputable def laws_szServer.tbl : Tbl := fun g fs => if g = 7 ∧ fs = [] then some ⟨ins_laws_szFarm, outs_laws_szFarm, F_laws_szFarm⟩ else if g = 64 ∧ fs = [] then some ⟨ins_laws_szLeaseS, outs_laws_szLeaseS, F_laws_szLeaseS⟩ else none
noncomputable def laws_szServer.body : Code := ((Try.prog.funcs[36]?).bind (·.body)).getD .skip
def laws_szServer.cfg : Nat → List Nat × List Nat := fun k => ([], [])
noncomputable def laws_szServer.T  (a0 : Int) (a1 : Int) (a2 : Int) (a3 : Int) (a4 : List (Int × Int × Int × Int × Unit)) (a5 : List (Int × Int × Int × Int × Unit)) (a6 : List (Int × Int × Int × Unit)) (left : Int) : Option (Int × Unit) := (F_laws_szFarm (a3, a4, a5, left, ())).bind fun y1 => cond (decide (y1.1 < 0)) (some ((-1), ())) ((F_laws_szLeaseS (a6, y1.1, ())).bind fun y2 => cond (decide (y2.1 < 0)) (some ((-1), ())) (some (y2.1, ())))
theorem laws_szServer.top (k0 : Nat) (a0 : Int) (a1 : Int) (a2 : Int) (a3 : Int) (a4 : List (Int × Int × Int × Int × Unit)) (a5 : List (Int × Int × Int × Int × Unit)) (a6 : List (Int × Int × Int × Unit)) (left : Int) : runFn Try.prog laws_szServer.tbl laws_szServer.cfg k0 36 ins_laws_szServer outs_laws_szServer (a0, a1, a2, a3, a4, a5, a6, left, ()) = laws_szServer.T  a0 a1 a2 a3 a4 a5 a6 left := by kernel_rfl
noncomputable def F_laws_szServer : Int × Int × Int × Int × (List (Int × Int × Int × Int × Unit)) × (List (Int × Int × Int × Int × Unit)) × (List (Int × Int × Int × Unit)) × Int × Unit → Option (Int × Unit) := fun x => laws_szServer.T x.1 x.2.1 x.2.2.1 x.2.2.2.1 x.2.2.2.2.1 x.2.2.2.2.2.1 x.2.2.2.2.2.2.1 x.2.2.2.2.2.2.2.1
theorem laws_szServer.tblOK : ∀ g fs S, laws_szServer.tbl g fs = some S → SumOK Try.prog g S := by
  intro g fs S h
  unfold laws_szServer.tbl at h
  split at h
  · rename_i hc; obtain ⟨rfl, rfl⟩ := hc; have := Option.some.inj h; subst this; exact ok_laws_szFarm
  split at h
  · rename_i hc; obtain ⟨rfl, rfl⟩ := hc; have := Option.some.inj h; subst this; exact ok_laws_szLeaseS
  cases h
theorem ok_laws_szServer : SumOK Try.prog 36 ⟨ins_laws_szServer, outs_laws_szServer, F_laws_szServer⟩ := runFn_ok (by kernel_rfl) laws_szServer.tblOK (by kernel_rfl) fun x y h => ⟨laws_szServer.cfg, 0, (laws_szServer.top 0 x.1 x.2.1 x.2.2.1 x.2.2.2.1 x.2.2.2.2.1 x.2.2.2.2.2.1 x.2.2.2.2.2.2.1 x.2.2.2.2.2.2.2.1).trans h⟩
abbrev ins_laws_szRelay : List Par := [.v true ct2, .v false [CT.int .i64]]
abbrev outs_laws_szRelay : List (Bool × List CT) := [(false, [CT.int .i64])]
/-! ### loop.example/g00095/laws.szRelay (function 12) -/
noncomputable def laws_szRelay.tbl : Tbl := fun g fs => if g = 36 ∧ fs = [] then some ⟨ins_laws_szServer, outs_laws_szServer, F_laws_szServer⟩ else none
noncomputable def laws_szRelay.body : Code := ((Try.prog.funcs[12]?).bind (·.body)).getD .skip
def laws_szRelay.cfg : Nat → List Nat × List Nat := fun k => ([], [])
noncomputable def laws_szRelay.T  (a0 : Int) (a1 : Int) (a2 : Int) (a3 : Int) (a4 : List (Int × Int × Int × Int × Unit)) (a5 : List (Int × Int × Int × Int × Unit)) (a6 : List (Int × Int × Int × Unit)) (a7 : Int) (a8 : Int) (a9 : Int) (a10 : Int) (a11 : Int) (a12 : Int) (a13 : Int) (a14 : Int) (a15 : Int) (a16 : Int) (left : Int) : Option (Int × Unit) := (F_laws_szServer (a0, a1, a2, a3, a4, a5, a6, left, ())).bind fun y1 => cond (decide (y1.1 < 0)) (some ((-1), ())) (some (y1.1, ()))
theorem laws_szRelay.top (k0 : Nat) (a0 : Int) (a1 : Int) (a2 : Int) (a3 : Int) (a4 : List (Int × Int × Int × Int × Unit)) (a5 : List (Int × Int × Int × Int × Unit)) (a6 : List (Int × Int × Int × Unit)) (a7 : Int) (a8 : Int) (a9 : Int) (a10 : Int) (a11 : Int) (a12 : Int) (a13 : Int) (a14 : Int) (a15 : Int) (a16 : Int) (left : Int) : runFn Try.prog laws_szRelay.tbl laws_szRelay.cfg k0 12 ins_laws_szRelay outs_laws_szRelay (a0, a1, a2, a3, a4, a5, a6, a7, a8, a9, a10, a11, a12, a13, a14, a15, a16, left, ()) = laws_szRelay.T  a0 a1 a2 a3 a4 a5 a6 a7 a8 a9 a10 a11 a12 a13 a14 a15 a16 left := by kernel_rfl
noncomputable def F_laws_szRelay : Int × Int × Int × Int × (List (Int × Int × Int × Int × Unit)) × (List (Int × Int × Int × Int × Unit)) × (List (Int × Int × Int × Unit)) × Int × Int × Int × Int × Int × Int × Int × Int × Int × Int × Int × Unit → Option (Int × Unit) := fun x => laws_szRelay.T x.1 x.2.1 x.2.2.1 x.2.2.2.1 x.2.2.2.2.1 x.2.2.2.2.2.1 x.2.2.2.2.2.2.1 x.2.2.2.2.2.2.2.1 x.2.2.2.2.2.2.2.2.1 x.2.2.2.2.2.2.2.2.2.1 x.2.2.2.2.2.2.2.2.2.2.1 x.2.2.2.2.2.2.2.2.2.2.2.1 x.2.2.2.2.2.2.2.2.2.2.2.2.1 x.2.2.2.2.2.2.2.2.2.2.2.2.2.1 x.2.2.2.2.2.2.2.2.2.2.2.2.2.2.1 x.2.2.2.2.2.2.2.2.2.2.2.2.2.2.2.1 x.2.2.2.2.2.2.2.2.2.2.2.2.2.2.2.2.1 x.2.2.2.2.2.2.2.2.2.2.2.2.2.2.2.2.2.1
theorem laws_szRelay.tblOK : ∀ g fs S, laws_szRelay.tbl g fs = some S → SumOK Try.prog g S := by
  intro g fs S h
  unfold laws_szRelay.tbl at h
  split at h
  · rename_i hc; obtain ⟨rfl, rfl⟩ := hc; have := Option.some.inj h; subst this; exact ok_laws_szServer
  cases h
theorem ok_laws_szRelay : SumOK Try.prog 12 ⟨ins_laws_szRelay, outs_laws_szRelay, F_laws_szRelay⟩ := runFn_ok (by kernel_rfl) laws_szRelay.tblOK (by kernel_rfl) fun x y h => ⟨laws_szRelay.cfg, 0, (laws_szRelay.top 0 x.1 x.2.1 x.2.2.1 x.2.2.2.1 x.2.2.2.2.1 x.2.2.2.2.2.1 x.2.2.2.2.2.2.1 x.2.2.2.2.2.2.2.1 x.2.2.2.2.2.2.2.2.1 x.2.2.2.2.2.2.2.2.2.1 x.2.2.2.2.2.2.2.2.2.2.1 x.2.2.2.2.2.2.2.2.2.2.2.1 x.2.2.2.2.2.2.2.2.2.2.2.2.1 x.2.2.2.2.2.2.2.2.2.2.2.2.2.1 x.2.2.2.2.2.2.2.2.2.2.2.2.2.2.1 x.2.2.2.2.2.2.2.2.2.2.2.2.2.2.2.1 x.2.2.2.2.2.2.2.2.2.2.2.2.2.2.2.2.1 x.2.2.2.2.2.2.2.2.2.2.2.2.2.2.2.2.2.1).trans h⟩
abbrev ins_laws_toGroup : List Par := [.v true ct0]
abbrev outs_laws_toGroup : List (Bool × List CT) := [(true, ct0)]
/-! ### loop.example/g00095/laws.toGroup (function 55) -/
noncomputable def laws_toGroup.tbl : Tbl := fun g fs => none
noncomputable def laws_toGroup.body : Code := ((Try.prog.funcs[55]?).bind (·.body)).getD .skip
def laws_toGroup.cfg : Nat → List Nat × List Nat := fun k => ([], [])
noncomputable def laws_toGroup.T  (a0 : Int) (a1 : Int) (a2 : Int) (a3 : Int) : Option (Int × Int × Int × Int × Unit) := some (a0, a1, a2, a3, ())
theorem laws_toGroup.top (k0 : Nat) (a0 : Int) (a1 : Int) (a2 : Int) (a3 : Int) : runFn Try.prog laws_toGroup.tbl laws_toGroup.cfg k0 55 ins_laws_toGroup outs_laws_toGroup (a0, a1, a2, a3, ()) = laws_toGroup.T  a0 a1 a2 a3 := by kernel_rfl
noncomputable def F_laws_toGroup : Int × Int × Int × Int × Unit → Option (Int × Int × Int × Int × Unit) := fun x => laws_toGroup.T x.1 x.2.1 x.2.2.1 x.2.2.2.1
theorem laws_toGroup.tblOK : ∀ g fs S, laws_toGroup.tbl g fs = some S → SumOK Try.prog g S := by
  intro g fs S h
  unfold laws_toGroup.tbl at h
  cases h
theorem ok_laws_toGroup : SumOK Try.prog 55 ⟨ins_laws_toGroup, outs_laws_toGroup, F_laws_toGroup⟩ := runFn_ok (by kernel_rfl) laws_toGroup.tblOK (by kernel_rfl) fun x y h => ⟨laws_toGroup.cfg, 0, (laws_toGroup.top 0 x.1 x.2.1 x.2.2.1 x.2.2.2.1).trans h⟩
abbrev ins_laws_toGroupS : List Par := [.v false [CT.sl ct0]]
abbrev outs_laws_toGroupS : List (Bool × List CT) := [(false, [CT.sl ct0])]
/-! ### loop.example/g00095/laws.toGroupS (function 29) -/
noncomputable def laws_toGroupS.tbl : Tbl := fun g fs => if g = 55 ∧ fs = [] then some ⟨ins_laws_toGroup, outs_laws_toGroup, F_laws_toGroup⟩ else none
noncomputable def laws_toGroupS.body : Code := ((Try.prog.funcs[29]?).bind (·.body)).getD .skip
def laws_toGroupS.cfg : Nat → List Nat × List Nat := fun k => if k = 3 then ([0, 3, 4], [3]) else ([], [])
noncomputable def laws_toGroupS.R0 {R : Type} (nx0 : ((List (Int × Int × Int × Int × Unit)) → Int → (List (Int × Int × Int × Int × Unit)) → Option R)) (ex0 : ((List (Int × Int × Int × Int × Unit)) → Option R)) (a2 : List (Int × Int × Int × Int × Unit)) (i : Int) (out : List (Int × Int × Int × Int × Unit)) : Option R := cond (decide (i < (a2.length : Int))) (if 0 ≤ i ∧ i < (a2.length : Int) then (F_laws_toGroup ((rd (0, 0, 0, 0, ()) a2 i).1, (rd (0, 0, 0, 0, ()) a2 i).2.1, (rd (0, 0, 0, 0, ()) a2 i).2.2.1, (rd (0, 0, 0, 0, ()) a2 i).2.2.2.1, ())).bind fun y1 => if 0 ≤ i ∧ i < (out.length : Int) then nx0 a2 (w64 (i + 1)) (out.set i.toNat (y1.1, y1.2.1, y1.2.2.1, y1.2.2.2.1, ())) else none else none) (ex0 out)
noncomputable def laws_toGroupS.A0  (a : List (Int × Int × Int × Int × Unit)) (out : List (Int × Int × Int × Int × Unit)) : Option ((List (Int × Int × Int × Int × Unit)) × Unit) := some (out, ())
noncomputable def laws_toGroupS.T (lo0 : ((List (Int × Int × Int × Int × Unit)) → Int → (List (Int × Int × Int × Int × Unit)) → Option ((List (Int × Int × Int × Int × Unit)) × Unit))) (a : List (Int × Int × Int × Int × Unit)) : Option ((List (Int × Int × Int × Int × Unit)) × Unit) := if 0 ≤ (a.length : Int) ∧ (32 : Int) * (a.length : Int) ≤ 281474976710656 ∧ (a.length : Int) ≤ 9223372036854775807 then lo0 a 0 (List.replicate (((a.length : Int) : Int)).toNat (0, 0, 0, 0, ())) else none
noncomputable def laws_toGroupS.st0 {R : Type} (k0 : Nat) : Env → List Ob → Kont R → Option R := fun env ob K => runCode Try.prog laws_toGroupS.tbl 23 0 laws_toGroupS.cfg k0 (codeAt [1, 1, 0, 1, 0, 0] laws_toGroupS.body) env ob K
noncomputable def laws_toGroupS.K0 {R : Type} (k0 : Nat) (K : Kont R) : Kont R := blockK 0 (seqK (fun env ob => runCode Try.prog laws_toGroupS.tbl 23 0 laws_toGroupS.cfg k0 (codeAt [1, 1, 1] laws_toGroupS.body) env ob (K)) (K))
noncomputable def laws_toGroupS.L0 {R : Type} (k0 k : Nat) (K : Kont R) (a2 : List (Int × Int × Int × Int × Unit)) (i : Int) (out : List (Int × Int × Int × Int × Unit)) : Option R := iter 0 [0, 3, 4] [3] (laws_toGroupS.st0 k0) k [(0, .sl ct0 a2), (3, .own 0), (4, .int .i64 i)] [.arr ct0 out] K
theorem laws_toGroupS.s0 {R : Type} (k0 k : Nat) (K : Kont R) (a2 : List (Int × Int × Int × Int × Unit)) (i : Int) (out : List (Int × Int × Int × Int × Unit)) : laws_toGroupS.L0 k0 (k + 1) K a2 i out = laws_toGroupS.R0 (fun (a2 : List (Int × Int × Int × Int × Unit)) (i : Int) (out : List (Int × Int × Int × Int × Unit)) => laws_toGroupS.L0 k0 k K a2 i out) (fun (out : List (Int × Int × Int × Int × Unit)) => K (.exit 0) [(3, .own 0)] [.arr ct0 out]) a2 i out := by kernel_rfl
theorem laws_toGroupS.a0 (k0 : Nat) (a : List (Int × Int × Int × Int × Unit)) (out : List (Int × Int × Int × Int × Unit)) : laws_toGroupS.K0 (R := ((List (Int × Int × Int × Int × Unit)) × Unit)) k0 (finK Try.prog [.tmp 2] ins_laws_toGroupS outs_laws_toGroupS (a, ())) (.exit 0) [(3, .own 0)] [.arr ct0 out] = laws_toGroupS.A0  a out := by kernel_rfl
theorem laws_toGroupS.top (k0 : Nat) (a : List (Int × Int × Int × Int × Unit)) : runFn Try.prog laws_toGroupS.tbl laws_toGroupS.cfg k0 29 ins_laws_toGroupS outs_laws_toGroupS (a, ()) = laws_toGroupS.T (fun (a2 : List (Int × Int × Int × Int × Unit)) (i : Int) (out : List (Int × Int × Int × Int × Unit)) => laws_toGroupS.L0 (R := ((List (Int × Int × Int × Int × Unit)) × Unit)) k0 k0 (laws_toGroupS.K0 (R := ((List (Int × Int × Int × Int × Unit)) × Unit)) k0 ((finK Try.prog [.tmp 2] ins_laws_toGroupS outs_laws_toGroupS (a, ())))) a2 i out) a := by kernel_rfl
noncomputable def laws_toGroupS.G0 {R : Type} (k0 : Nat) (hx0 : ((List (Int × Int × Int × Int × Unit)) → Option R)) : Nat → (List (Int × Int × Int × Int × Unit)) → Int → (List (Int × Int × Int × Int × Unit)) → Option R
  | 0, _, _, _ => none
  | k + 1, a2, i, out => laws_toGroupS.R0 (fun (a2 : List (Int × Int × Int × Int × Unit)) (i : Int) (out : List (Int × Int × Int × Int × Unit)) => laws_toGroupS.G0 k0 hx0 k a2 i out) (fun (out : List (Int × Int × Int × Int × Unit)) => hx0 out) a2 i out
theorem laws_toGroupS.g0 {R : Type} (k0 : Nat) (K : Kont R) : ∀ (k : Nat) (a2 : List (Int × Int × Int × Int × Unit)) (i : Int) (out : List (Int × Int × Int × Int × Unit)), laws_toGroupS.L0 k0 k K a2 i out = laws_toGroupS.G0 k0 (fun (out : List (Int × Int × Int × Int × Unit)) => K (.exit 0) [(3, .own 0)] [.arr ct0 out]) k a2 i out := by
  intro k
  induction k with
  | zero => intros; rfl
  | succ k ih => intros; rw [laws_toGroupS.s0, laws_toGroupS.G0]; (try simp only [ih]); try rfl
noncomputable def laws_toGroupS.FF (k0 : Nat) (a : List (Int × Int × Int × Int × Unit)) : Option ((List (Int × Int × Int × Int × Unit)) × Unit) := laws_toGroupS.T (fun (a2 : List (Int × Int × Int × Int × Unit)) (i : Int) (out : List (Int × Int × Int × Int × Unit)) => laws_toGroupS.G0 k0 (fun (out : List (Int × Int × Int × Int × Unit)) => laws_toGroupS.A0  a out) k0 a2 i out) a
theorem laws_toGroupS.run (k0 : Nat) (a : List (Int × Int × Int × Int × Unit)) : runFn Try.prog laws_toGroupS.tbl laws_toGroupS.cfg k0 29 ins_laws_toGroupS outs_laws_toGroupS (a, ()) = laws_toGroupS.FF k0 a := by
  rw [laws_toGroupS.top, laws_toGroupS.FF]; (try simp only [laws_toGroupS.g0, laws_toGroupS.a0]); try rfl
noncomputable def F_laws_toGroupS : (List (Int × Int × Int × Int × Unit)) × Unit → Option ((List (Int × Int × Int × Int × Unit)) × Unit) := fun x => (fun (a : List (Int × Int × Int × Int × Unit)) => laws_toGroupS.FF (300 + a.length) a) x.1
theorem laws_toGroupS.tblOK : ∀ g fs S, laws_toGroupS.tbl g fs = some S → SumOK Try.prog g S := by
  intro g fs S h
  unfold laws_toGroupS.tbl at h
  split at h
  · rename_i hc; obtain ⟨rfl, rfl⟩ := hc; have := Option.some.inj h; subst this; exact ok_laws_toGroup
  cases h
theorem ok_laws_toGroupS : SumOK Try.prog 29 ⟨ins_laws_toGroupS, outs_laws_toGroupS, F_laws_toGroupS⟩ := runFn_ok (by kernel_rfl) laws_toGroupS.tblOK (by kernel_rfl) fun x y h => ⟨laws_toGroupS.cfg, _, (laws_toGroupS.run _ x.1).trans h⟩
abbrev ins_laws_toMember : List Par := [.v true ct0]
abbrev outs_laws_toMember : List (Bool × List CT) := [(true, ct0)]
/-! ### loop.example/g00095/laws.toMember (function 56) -/
noncomputable def laws_toMember.tbl : Tbl := fun g fs => none
noncomputable def laws_toMember.body : Code := ((Try.prog.funcs[56]?).bind (·.body)).getD .skip
def laws_toMember.cfg : Nat → List Nat × List Nat := fun k => ([], [])
noncomputable def laws_toMember.T  (a0 : Int) (a1 : Int) (a2 : Int) (a3 : Int) : Option (Int × Int × Int × Int × Unit) := some (a0, a1, a2, a3, ())
theorem laws_toMember.top (k0 : Nat) (a0 : Int) (a1 : Int) (a2 : Int) (a3 : Int) : runFn Try.prog laws_toMember.tbl laws_toMember.cfg k0 56 ins_laws_toMember outs_laws_toMember (a0, a1, a2, a3, ()) = laws_toMember.T  a0 a1 a2 a3 := by kernel_rfl
noncomputable def F_laws_toMember : Int × Int × Int × Int × Unit → Option (Int × Int × Int × Int × Unit) := fun x => laws_toMember.T x.1 x.2.1 x.2.2.1 x.2.2.2.1
theorem laws_toMember.tblOK : ∀ g fs S, laws_toMember.tbl g fs = some S → SumOK Try.prog g S := by
  intro g fs S h
  unfold laws_toMember.tbl at h
  cases h
theorem ok_laws_toMember : SumOK Try.prog 56 ⟨ins_laws_toMember, outs_laws_toMember, F_laws_toMember⟩ := runFn_ok (by kernel_rfl) laws_toMember.tblOK (by kernel_rfl) fun x y h => ⟨laws_toMember.cfg, 0, (laws_toMember.top 0 x.1 x.2.1 x.2.2.1 x.2.2.2.1).trans h⟩
abbrev ins_laws_toMemberS : List Par := [.v false [CT.sl ct0]]
abbrev outs_laws_toMemberS : List (Bool × List CT) := [(false, [CT.sl ct0])]
/-! ### loop.example/g00095/laws.toMemberS (function 30) -/
noncomputable def laws_toMemberS.tbl : Tbl := fun g fs => if g = 56 ∧ fs = [] then some ⟨ins_laws_toMember, outs_laws_toMember, F_laws_toMember⟩ else none
noncomputable def laws_toMemberS.body : Code := ((Try.prog.funcs[30]?).bind (·.body)).getD .skip
def laws_toMemberS.cfg : Nat → List Nat × List Nat := fun k => if k = 3 then ([0, 3, 4], [3]) else ([], [])
noncomputable def laws_toMemberS.R0 {R : Type} (nx0 : ((List (Int × Int × Int × Int × Unit)) → Int → (List (Int × Int × Int × Int × Unit)) → Option R)) (ex0 : ((List (Int × Int × Int × Int × Unit)) → Option R)) (a2 : List (Int × Int × Int × Int × Unit)) (i : Int) (out : List (Int × Int × Int × Int × Unit)) : Option R := cond (decide (i < (a2.length : Int))) (if 0 ≤ i ∧ i < (a2.length : Int) then (F_laws_toMember ((rd (0, 0, 0, 0, ()) a2 i).1, (rd (0, 0, 0, 0, ()) a2 i).2.1, (rd (0, 0, 0, 0, ()) a2 i).2.2.1, (rd (0, 0, 0, 0, ()) a2 i).2.2.2.1, ())).bind fun y1 => if 0 ≤ i ∧ i < (out.length : Int) then nx0 a2 (w64 (i + 1)) (out.set i.toNat (y1.1, y1.2.1, y1.2.2.1, y1.2.2.2.1, ())) else none else none) (ex0 out)
noncomputable def laws_toMemberS.A0  (a : List (Int × Int × Int × Int × Unit)) (out : List (Int × Int × Int × Int × Unit)) : Option ((List (Int × Int × Int × Int × Unit)) × Unit) := some (out, ())
noncomputable def laws_toMemberS.T (lo0 : ((List (Int × Int × Int × Int × Unit)) → Int → (List (Int × Int × Int × Int × Unit)) → Option ((List (Int × Int × Int × Int × Unit)) × Unit))) (a : List (Int × Int × Int × Int × Unit)) : Option ((List (Int × Int × Int × Int × Unit)) × Unit) := if 0 ≤ (a.length : Int) ∧ (32 : Int) * (a.length : Int) ≤ 281474976710656 ∧ (a.length : Int) ≤ 9223372036854775807 then lo0 a 0 (List.replicate (((a.length : Int) : Int)).toNat (0, 0, 0, 0, ())) else none
noncomputable def laws_toMemberS.st0 {R : Type} (k0 : Nat) : Env → List Ob → Kont R → Option R := fun env ob K => runCode Try.prog laws_toMemberS.tbl 23 0 laws_toMemberS.cfg k0 (codeAt [1, 1, 0, 1, 0, 0] laws_toMemberS.body) env ob K
noncomputable def laws_toMemberS.K0 {R : Type} (k0 : Nat) (K : Kont R) : Kont R := blockK 0 (seqK (fun env ob => runCode Try.prog laws_toMemberS.tbl 23 0 laws_toMemberS.cfg k0 (codeAt [1, 1, 1] laws_toMemberS.body) env ob (K)) (K))
noncomputable def laws_toMemberS.L0 {R : Type} (k0 k : Nat) (K : Kont R) (a2 : List (Int × Int × Int × Int × Unit)) (i : Int) (out : List (Int × Int × Int × Int × Unit)) : Option R := iter 0 [0, 3, 4] [3] (laws_toMemberS.st0 k0) k [(0, .sl ct0 a2), (3, .own 0), (4, .int .i64 i)] [.arr ct0 out] K
theorem laws_toMemberS.s0 {R : Type} (k0 k : Nat) (K : Kont R) (a2 : List (Int × Int × Int × Int × Unit)) (i : Int) (out : List (Int × Int × Int × Int × Unit)) : laws_toMemberS.L0 k0 (k + 1) K a2 i out = laws_toMemberS.R0 (fun (a2 : List (Int × Int × Int × Int × Unit)) (i : Int) (out : List (Int × Int × Int × Int × Unit)) => laws_toMemberS.L0 k0 k K a2 i out) (fun (out : List (Int × Int × Int × Int × Unit)) => K (.exit 0) [(3, .own 0)] [.arr ct0 out]) a2 i out := by kernel_rfl
theorem laws_toMemberS.a0 (k0 : Nat) (a : List (Int × Int × Int × Int × Unit)) (out : List (Int × Int × Int × Int × Unit)) : laws_toMemberS.K0 (R := ((List (Int × Int × Int × Int × Unit)) × Unit)) k0 (finK Try.prog [.tmp 2] ins_laws_toMemberS outs_laws_toMemberS (a, ())) (.exit 0) [(3, .own 0)] [.arr ct0 out] = laws_toMemberS.A0  a out := by kernel_rfl
theorem laws_toMemberS.top (k0 : Nat) (a : List (Int × Int × Int × Int × Unit)) : runFn Try.prog laws_toMemberS.tbl laws_toMemberS.cfg k0 30 ins_laws_toMemberS outs_laws_toMemberS (a, ()) = laws_toMemberS.T (fun (a2 : List (Int × Int × Int × Int × Unit)) (i : Int) (out : List (Int × Int × Int × Int × Unit)) => laws_toMemberS.L0 (R := ((List (Int × Int × Int × Int × Unit)) × Unit)) k0 k0 (laws_toMemberS.K0 (R := ((List (Int × Int × Int × Int × Unit)) × Unit)) k0 ((finK Try.prog [.tmp 2] ins_laws_toMemberS outs_laws_toMemberS (a, ())))) a2 i out) a := by kernel_rfl
noncomputable def laws_toMemberS.G0 {R : Type} (k0 : Nat) (hx0 : ((List (Int × Int × Int × Int × Unit)) → Option R)) : Nat → (List (Int × Int × Int × Int × Unit)) → Int → (List (Int × Int × Int × Int × Unit)) → Option R
  | 0, _, _, _ => none
  | k + 1, a2, i, out => laws_toMemberS.R0 (fun (a2 : List (Int × Int × Int × Int × Unit)) (i : Int) (out : List (Int × Int × Int × Int × Unit)) => laws_toMemberS.G0 k0 hx0 k a2 i out) (fun (out : List (Int × Int × Int × Int × Unit)) => hx0 out) a2 i out
theorem laws_toMemberS.g0 {R : Type} (k0 : Nat) (K : Kont R) : ∀ (k : Nat) (a2 : List (Int × Int × Int × Int × Unit)) (i : Int) (out : List (Int × Int × Int × Int × Unit)), laws_toMemberS.L0 k0 k K a2 i out = laws_toMemberS.G0 k0 (fun (out : List (Int × Int × Int × Int × Unit)) => K (.exit 0) [(3, .own 0)] [.arr ct0 out]) k a2 i out := by
  intro k
  induction k with
  | zero => intros; rfl
  | succ k ih => intros; rw [laws_toMemberS.s0, laws_toMemberS.G0]; (try simp only [ih]); try rfl
noncomputable def laws_toMemberS.FF (k0 : Nat) (a : List (Int × Int × Int × Int × Unit)) : Option ((List (Int × Int × Int × Int × Unit)) × Unit) := laws_toMemberS.T (fun (a2 : List (Int × Int × Int × Int × Unit)) (i : Int) (out : List (Int × Int × Int × Int × Unit)) => laws_toMemberS.G0 k0 (fun (out : List (Int × Int × Int × Int × Unit)) => laws_toMemberS.A0  a out) k0 a2 i out) a
theorem laws_toMemberS.run (k0 : Nat) (a : List (Int × Int × Int × Int × Unit)) : runFn Try.prog laws_toMemberS.tbl laws_toMemberS.cfg k0 30 ins_laws_toMemberS outs_laws_toMemberS (a, ()) = laws_toMemberS.FF k0 a := by
  rw [laws_toMemberS.top, laws_toMemberS.FF]; (try simp only [laws_toMemberS.g0, laws_toMemberS.a0]); try rfl
noncomputable def F_laws_toMemberS : (List (Int × Int × Int × Int × Unit)) × Unit → Option ((List (Int × Int × Int × Int × Unit)) × Unit) := fun x => (fun (a : List (Int × Int × Int × Int × Unit)) => laws_toMemberS.FF (300 + a.length) a) x.1
theorem laws_toMemberS.tblOK : ∀ g fs S, laws_toMemberS.tbl g fs = some S → SumOK Try.prog g S := by
  intro g fs S h
  unfold laws_toMemberS.tbl at h
  split at h
  · rename_i hc; obtain ⟨rfl, rfl⟩ := hc; have := Option.some.inj h; subst this; exact ok_laws_toMember
  cases h
theorem ok_laws_toMemberS : SumOK Try.prog 30 ⟨ins_laws_toMemberS, outs_laws_toMemberS, F_laws_toMemberS⟩ := runFn_ok (by kernel_rfl) laws_toMemberS.tblOK (by kernel_rfl) fun x y h => ⟨laws_toMemberS.cfg, _, (laws_toMemberS.run _ x.1).trans h⟩
abbrev ins_laws_toFarm : List Par := [.v true ct4]
abbrev outs_laws_toFarm : List (Bool × List CT) := [(true, ct4)]
/-! ### loop.example/g00095/laws.toFarm (function 9) -/
noncomputable def laws_toFarm.tbl : Tbl := fun g fs => if g = 29 ∧ fs = [] then some ⟨ins_laws_toGroupS, outs_laws_toGroupS, F_laws_toGroupS⟩ else if g = 30 ∧ fs = [] then some ⟨ins_laws_toMemberS, outs_laws_toMemberS, F_laws_toMemberS⟩ else none
noncomputable def laws_toFarm.body : Code := ((Try.prog.funcs[9]?).bind (·.body)).getD .skip
def laws_toFarm.cfg : Nat → List Nat × List Nat := fun k => ([], [])
noncomputable def laws_toFarm.T  (a0 : Int) (a1 : List (Int × Int × Int × Int × Unit)) (a2 : List (Int × Int × Int × Int × Unit)) : Option (Int × (List (Int × Int × Int × Int × Unit)) × (List (Int × Int × Int × Int × Unit)) × Unit) := (F_laws_toGroupS (a1, ())).bind fun y1 => (F_laws_toMemberS (a2, ())).bind fun y2 => some (a0, y1.1, y2.1, ())
theorem laws_toFarm.top (k0 : Nat) (a0 : Int) (a1 : List (Int × Int × Int × Int × Unit)) (a2 : List (Int × Int × Int × Int × Unit)) : runFn Try.prog laws_toFarm.tbl laws_toFarm.cfg k0 9 ins_laws_toFarm outs_laws_toFarm (a0, a1, a2, ()) = laws_toFarm.T  a0 a1 a2 := by kernel_rfl
noncomputable def F_laws_toFarm : Int × (List (Int × Int × Int × Int × Unit)) × (List (Int × Int × Int × Int × Unit)) × Unit → Option (Int × (List (Int × Int × Int × Int × Unit)) × (List (Int × Int × Int × Int × Unit)) × Unit) := fun x => laws_toFarm.T x.1 x.2.1 x.2.2.1
theorem laws_toFarm.tblOK : ∀ g fs S, laws_toFarm.tbl g fs = some S → SumOK Try.prog g S := by
  intro g fs S h
  unfold laws_toFarm.tbl at h
  split at h
  · rename_i hc; obtain ⟨rfl, rfl⟩ := hc; have := Option.some.inj h; subst this; exact ok_laws_toGroupS
  split at h
  · rename_i hc; obtain ⟨rfl, rfl⟩ := hc; have := Option.some.inj h; subst this; exact ok_laws_toMemberS
  cases h
theorem ok_laws_toFarm : SumOK Try.prog 9 ⟨ins_laws_toFarm, outs_laws_toFarm, F_laws_toFarm⟩ := runFn_ok (by kernel_rfl) laws_toFarm.tblOK (by kernel_rfl) fun x y h => ⟨laws_toFarm.cfg, 0, (laws_toFarm.top 0 x.1 x.2.1 x.2.2.1).trans h⟩
abbrev ins_laws_toLease : List Par := [.v true ct1]
abbrev outs_laws_toLease : List (Bool × List CT) := [(true, ct1)]
/-! ### loop.example/g00095/laws.toLease (function 82) -/
noncomputable def laws_toLease.tbl : Tbl := fun g fs => none
noncomputable def laws_toLease.body : Code := ((Try.prog.funcs[82]?).bind (·.body)).getD .skip
def laws_toLease.cfg : Nat → List Nat × List Nat := fun k => ([], [])
noncomputable def laws_toLease.T  (a0 : Int) (a1 : Int) (a2 : Int) : Option (Int × Int × Int × Unit) := some (a0, a1, a2, ())
theorem laws_toLease.top (k0 : Nat) (a0 : Int) (a1 : Int) (a2 : Int) : runFn Try.prog laws_toLease.tbl laws_toLease.cfg k0 82 ins_laws_toLease outs_laws_toLease (a0, a1, a2, ()) = laws_toLease.T  a0 a1 a2 := by kernel_rfl
noncomputable def F_laws_toLease : Int × Int × Int × Unit → Option (Int × Int × Int × Unit) := fun x => laws_toLease.T x.1 x.2.1 x.2.2.1
theorem laws_toLease.tblOK : ∀ g fs S, laws_toLease.tbl g fs = some S → SumOK Try.prog g S := by
  intro g fs S h
  unfold laws_toLease.tbl at h
  cases h
theorem ok_laws_toLease : SumOK Try.prog 82 ⟨ins_laws_toLease, outs_laws_toLease, F_laws_toLease⟩ := runFn_ok (by kernel_rfl) laws_toLease.tblOK (by kernel_rfl) fun x y h => ⟨laws_toLease.cfg, 0, (laws_toLease.top 0 x.1 x.2.1 x.2.2.1).trans h⟩
abbrev ins_laws_toLeaseS : List Par := [.v false [CT.sl ct1]]
abbrev outs_laws_toLeaseS : List (Bool × List CT) := [(false, [CT.sl ct1])]
/-! ### loop.example/g00095/laws.toLeaseS (function 68) -/
noncomputable def laws_toLeaseS.tbl : Tbl := fun g fs => if g = 82 ∧ fs = [] then some ⟨ins_laws_toLease, outs_laws_toLease, F_laws_toLease⟩ else none
noncomputable def laws_toLeaseS.body : Code := ((Try.prog.funcs[68]?).bind (·.body)).getD .skip
def laws_toLeaseS.cfg : Nat → List Nat × List Nat := fun k => if k = 3 then ([0, 3, 4], [3]) else ([], [])
noncomputable def laws_toLeaseS.R0 {R : Type} (nx0 : ((List (Int × Int × Int × Unit)) → Int → (List (Int × Int × Int × Unit)) → Option R)) (ex0 : ((List (Int × Int × Int × Unit)) → Option R)) (a2 : List (Int × Int × Int × Unit)) (i : Int) (out : List (Int × Int × Int × Unit)) : Option R := cond (decide (i < (a2.length : Int))) (if 0 ≤ i ∧ i < (a2.length : Int) then (F_laws_toLease ((rd (0, 0, 0, ()) a2 i).1, (rd (0, 0, 0, ()) a2 i).2.1, (rd (0, 0, 0, ()) a2 i).2.2.1, ())).bind fun y1 => if 0 ≤ i ∧ i < (out.length : Int) then nx0 a2 (w64 (i + 1)) (out.set i.toNat (y1.1, y1.2.1, y1.2.2.1, ())) else none else none) (ex0 out)
noncomputable def laws_toLeaseS.A0  (a : List (Int × Int × Int × Unit)) (out : List (Int × Int × Int × Unit)) : Option ((List (Int × Int × Int × Unit)) × Unit) := some (out, ())
noncomputable def laws_toLeaseS.T (lo0 : ((List (Int × Int × Int × Unit)) → Int → (List (Int × Int × Int × Unit)) → Option ((List (Int × Int × Int × Unit)) × Unit))) (a : List (Int × Int × Int × Unit)) : Option ((List (Int × Int × Int × Unit)) × Unit) := if 0 ≤ (a.length : Int) ∧ (24 : Int) * (a.length : Int) ≤ 281474976710656 ∧ (a.length : Int) ≤ 9223372036854775807 then lo0 a 0 (List.replicate (((a.length : Int) : Int)).toNat (0, 0, 0, ())) else none
noncomputable def laws_toLeaseS.st0 {R : Type} (k0 : Nat) : Env → List Ob → Kont R → Option R := fun env ob K => runCode Try.prog laws_toLeaseS.tbl 23 0 laws_toLeaseS.cfg k0 (codeAt [1, 1, 0, 1, 0, 0] laws_toLeaseS.body) env ob K
noncomputable def laws_toLeaseS.K0 {R : Type} (k0 : Nat) (K : Kont R) : Kont R := blockK 0 (seqK (fun env ob => runCode Try.prog laws_toLeaseS.tbl 23 0 laws_toLeaseS.cfg k0 (codeAt [1, 1, 1] laws_toLeaseS.body) env ob (K)) (K))
noncomputable def laws_toLeaseS.L0 {R : Type} (k0 k : Nat) (K : Kont R) (a2 : List (Int × Int × Int × Unit)) (i : Int) (out : List (Int × Int × Int × Unit)) : Option R := iter 0 [0, 3, 4] [3] (laws_toLeaseS.st0 k0) k [(0, .sl ct1 a2), (3, .own 0), (4, .int .i64 i)] [.arr ct1 out] K
theorem laws_toLeaseS.s0 {R : Type} (k0 k : Nat) (K : Kont R) (a2 : List (Int × Int × Int × Unit)) (i : Int) (out : List (Int × Int × Int × Unit)) : laws_toLeaseS.L0 k0 (k + 1) K a2 i out = laws_toLeaseS.R0 (fun (a2 : List (Int × Int × Int × Unit)) (i : Int) (out : List (Int × Int × Int × Unit)) => laws_toLeaseS.L0 k0 k K a2 i out) (fun (out : List (Int × Int × Int × Unit)) => K (.exit 0) [(3, .own 0)] [.arr ct1 out]) a2 i out := by kernel_rfl
theorem laws_toLeaseS.a0 (k0 : Nat) (a : List (Int × Int × Int × Unit)) (out : List (Int × Int × Int × Unit)) : laws_toLeaseS.K0 (R := ((List (Int × Int × Int × Unit)) × Unit)) k0 (finK Try.prog [.tmp 2] ins_laws_toLeaseS outs_laws_toLeaseS (a, ())) (.exit 0) [(3, .own 0)] [.arr ct1 out] = laws_toLeaseS.A0  a out := by kernel_rfl
theorem laws_toLeaseS.top (k0 : Nat) (a : List (Int × Int × Int × Unit)) : runFn Try.prog laws_toLeaseS.tbl laws_toLeaseS.cfg k0 68 ins_laws_toLeaseS outs_laws_toLeaseS (a, ()) = laws_toLeaseS.T (fun (a2 : List (Int × Int × Int × Unit)) (i : Int) (out : List (Int × Int × Int × Unit)) => laws_toLeaseS.L0 (R := ((List (Int × Int × Int × Unit)) × Unit)) k0 k0 (laws_toLeaseS.K0 (R := ((List (Int × Int × Int × Unit)) × Unit)) k0 ((finK Try.prog [.tmp 2] ins_laws_toLeaseS outs_laws_toLeaseS (a, ())))) a2 i out) a := by kernel_rfl
noncomputable def laws_toLeaseS.G0 {R : Type} (k0 : Nat) (hx0 : ((List (Int × Int × Int × Unit)) → Option R)) : Nat → (List (Int × Int × Int × Unit)) → Int → (List (Int × Int × Int × Unit)) → Option R
  | 0, _, _, _ => none
  | k + 1, a2, i, out => laws_toLeaseS.R0 (fun (a2 : List (Int × Int × Int × Unit)) (i : Int) (out : List (Int × Int × Int × Unit)) => laws_toLeaseS.G0 k0 hx0 k a2 i out) (fun (out : List (Int × Int × Int × Unit)) => hx0 out) a2 i out
theorem laws_toLeaseS.g0 {R : Type} (k0 : Nat) (K : Kont R) : ∀ (k : Nat) (a2 : List (Int × Int × Int × Unit)) (i : Int) (out : List (Int × Int × Int × Unit)), laws_toLeaseS.L0 k0 k K a2 i out = laws_toLeaseS.G0 k0 (fun (out : List (Int × Int × Int × Unit)) => K (.exit 0) [(3, .own 0)] [.arr ct1 out]) k a2 i out := by
  intro k
  induction k with
  | zero => intros; rfl
  | succ k ih => intros; rw [laws_toLeaseS.s0, laws_toLeaseS.G0]; (try simp only [ih]); try rfl
noncomputable def laws_toLeaseS.FF (k0 : Nat) (a : List (Int × Int × Int × Unit)) : Option ((List (Int × Int × Int × Unit)) × Unit) := laws_toLeaseS.T (fun (a2 : List (Int × Int × Int × Unit)) (i : Int) (out : List (Int × Int × Int × Unit)) => laws_toLeaseS.G0 k0 (fun (out : List (Int × Int × Int × Unit)) => laws_toLeaseS.A0  a out) k0 a2 i out) a
theorem laws_toLeaseS.run (k0 : Nat) (a : List (Int × Int × Int × Unit)) : runFn Try.prog laws_toLeaseS.tbl laws_toLeaseS.cfg k0 68 ins_laws_toLeaseS outs_laws_toLeaseS (a, ()) = laws_toLeaseS.FF k0 a := by
  rw [laws_toLeaseS.top, laws_toLeaseS.FF]; (try simp only [laws_toLeaseS.g0, laws_toLeaseS.a0]); try rfl
noncomputable def F_laws_toLeaseS : (List (Int × Int × Int × Unit)) × Unit → Option ((List (Int × Int × Int × Unit)) × Unit) := fun x => (fun (a : List (Int × Int × Int × Unit)) => laws_toLeaseS.FF (300 + a.length) a) x.1
theorem laws_toLeaseS.tblOK : ∀ g fs S, laws_toLeaseS.tbl g fs = some S → SumOK Try.prog g S := by
  intro g fs S h
  unfold laws_toLeaseS.tbl at h
  split at h
  · rename_i hc; obtain ⟨rfl, rfl⟩ := hc; have := Option.some.inj h; subst this; exact ok_laws_toLease
  cases h
theorem ok_laws_toLeaseS : SumOK Try.prog 68 ⟨ins_laws_toLeaseS, outs_laws_toLeaseS, F_laws_toLeaseS⟩ := runFn_ok (by kernel_rfl) laws_toLeaseS.tblOK (by kernel_rfl) fun x y h => ⟨laws_toLeaseS.cfg, _, (laws_toLeaseS.run _ x.1).trans h⟩
abbrev ins_laws_toServer : List Par := [.v true ct3]
abbrev outs_laws_toServer : List (Bool × List CT) := [(true, ct3)]
/-! ### loop.example/g00095/laws.toServer (function 39) -/
noncomputable def laws_toServer.tbl : Tbl := fun g fs => if g = 9 ∧ fs = [] then some ⟨ins_laws_toFarm, outs_laws_toFarm, F_laws_toFarm⟩ else if g = 68 ∧ fs = [] then some ⟨ins_laws_toLeaseS, outs_laws_toLeaseS, F_laws_toLeaseS⟩ else none
noncomputable def laws_toServer.body : Code := ((Try.prog.funcs[39]?).bind (·.body)).getD .skip
def laws_toServer.cfg : Nat → List Nat × List Nat := fun k => ([], [])
noncomputable def laws_toServer.T  (a0 : Int) (a1 : Int) (a2 : Int) (a3 : Int) (a4 : List (Int × Int × Int × Int × Unit)) (a5 : List (Int × Int × Int × Int × Unit)) (a6 : List (Int × Int × Int × Unit)) : Option (Int × Int × Int × Int × (List (Int × Int × Int × Int × Unit)) × (List (Int × Int × Int × Int × Unit)) × (List (Int × Int × Int × Unit)) × Unit) := (F_laws_toFarm (a3, a4, a5, ())).bind fun y1 => (F_laws_toLeaseS (a6, ())).bind fun y2 => some (a0, a1, a2, y1.1, y1.2.1, y1.2.2.1, y2.1, ())
theorem laws_toServer.top (k0 : Nat) (a0 : Int) (a1 : Int) (a2 : Int) (a3 : Int) (a4 : List (Int × Int × Int × Int × Unit)) (a5 : List (Int × Int × Int × Int × Unit)) (a6 : List (Int × Int × Int × Unit)) : runFn Try.prog laws_toServer.tbl laws_toServer.cfg k0 39 ins_laws_toServer outs_laws_toServer (a0, a1, a2, a3, a4, a5, a6, ()) = laws_toServer.T  a0 a1 a2 a3 a4 a5 a6 := by kernel_rfl
noncomputable def F_laws_toServer : Int × Int × Int × Int × (List (Int × Int × Int × Int × Unit)) × (List (Int × Int × Int × Int × Unit)) × (List (Int × Int × Int × Unit)) × Unit → Option (Int × Int × Int × Int × (List (Int × Int × Int × Int × Unit)) × (List (Int × Int × Int × Int × Unit)) × (List (Int × Int × Int × Unit)) × Unit) := fun x => laws_toServer.T x.1 x.2.1 x.2.2.1 x.2.2.2.1 x.2.2.2.2.1 x.2.2.2.2.2.1 x.2.2.2.2.2.2.1
theorem laws_toServer.tblOK : ∀ g fs S, laws_toServer.tbl g fs = some S → SumOK Try.prog g S := by
  intro g fs S h
  unfold laws_toServer.tbl at h
  split at h
  · rename_i hc; obtain ⟨rfl, rfl⟩ := hc; have := Option.some.inj h; subst this; exact ok_laws_toFarm
  split at h
  · rename_i hc; obtain ⟨rfl, rfl⟩ := hc; have := Option.some.inj h; subst this; exact ok_laws_toLeaseS
  cases h
theorem ok_laws_toServer : SumOK Try.prog 39 ⟨ins_laws_toServer, outs_laws_toServer, F_laws_toServer⟩ := runFn_ok (by kernel_rfl) laws_toServer.tblOK (by kernel_rfl) fun x y h => ⟨laws_toServer.cfg, 0, (laws_toServer.top 0 x.1 x.2.1 x.2.2.1 x.2.2.2.1 x.2.2.2.2.1 x.2.2.2.2.2.1 x.2.2.2.2.2.2.1).trans h⟩
abbrev ins_laws_toClient : List Par := [.v true ct5]
abbrev outs_laws_toClient : List (Bool × List CT) := [(true, ct5)]
/-! ### loop.example/g00095/laws.toClient (function 40) -/
noncomputable def laws_toClient.tbl : Tbl := fun g fs => none
noncomputable def laws_toClient.body : Code := ((Try.prog.funcs[40]?).bind (·.body)).getD .skip
def laws_toClient.cfg : Nat → List Nat × List Nat := fun k => ([], [])
noncomputable def laws_toClient.T  (a0 : Int) (a1 : Int) (a2 : Int) (a3 : Int) (a4 : Int) (a5 : Int) (a6 : Int) (a7 : Int) (a8 : Int) (a9 : Int) : Option (Int × Int × Int × Int × Int × Int × Int × Int × Int × Int × Unit) := some (a0, a1, a2, a3, a4, a5, a6, a7, a8, a9, ())
theorem laws_toClient.top (k0 : Nat) (a0 : Int) (a1 : Int) (a2 : Int) (a3 : Int) (a4 : Int) (a5 : Int) (a6 : Int) (a7 : Int) (a8 : Int) (a9 : Int) : runFn Try.prog laws_toClient.tbl laws_toClient.cfg k0 40 ins_laws_toClient outs_laws_toClient (a0, a1, a2, a3, a4, a5, a6, a7, a8, a9, ()) = laws_toClient.T  a0 a1 a2 a3 a4 a5 a6 a7 a8 a9 := by kernel_rfl
noncomputable def F_laws_toClient : Int × Int × Int × Int × Int × Int × Int × Int × Int × Int × Unit → Option (Int × Int × Int × Int × Int × Int × Int × Int × Int × Int × Unit) := fun x => laws_toClient.T x.1 x.2.1 x.2.2.1 x.2.2.2.1 x.2.2.2.2.1 x.2.2.2.2.2.1 x.2.2.2.2.2.2.1 x.2.2.2.2.2.2.2.1 x.2.2.2.2.2.2.2.2.1 x.2.2.2.2.2.2.2.2.2.1
theorem laws_toClient.tblOK : ∀ g fs S, laws_toClient.tbl g fs = some S → SumOK Try.prog g S := by
  intro g fs S h
  unfold laws_toClient.tbl at h
  cases h
theorem ok_laws_toClient : SumOK Try.prog 40 ⟨ins_laws_toClient, outs_laws_toClient, F_laws_toClient⟩ := runFn_ok (by kernel_rfl) laws_toClient.tblOK (by kernel_rfl) fun x y h => ⟨laws_toClient.cfg, 0, (laws_toClient.top 0 x.1 x.2.1 x.2.2.1 x.2.2.2.1 x.2.2.2.2.1 x.2.2.2.2.2.1 x.2.2.2.2.2.2.1 x.2.2.2.2.2.2.2.1 x.2.2.2.2.2.2.2.2.1 x.2.2.2.2.2.2.2.2.2.1).trans h⟩
abbrev ins_laws_toRelay : List Par := [.v true ct2]
abbrev outs_laws_toRelay : List (Bool × List CT) := [(true, ct2)]
/-! ### loop.example/g00095/laws.toRelay (function 14) -/
noncomputable def laws_toRelay.tbl : Tbl := fun g fs => if g = 39 ∧ fs = [] then some ⟨ins_laws_toServer, outs_laws_toServer, F_laws_toServer⟩ else if g = 40 ∧ fs = [] then some ⟨ins_laws_toClient, outs_laws_toClient, F_laws_toClient⟩ else none
noncomputable def laws_toRelay.body : Code := ((Try.prog.funcs[14]?).bind (·.body)).getD .skip
def laws_toRelay.cfg : Nat → List Nat × List Nat := fun k => ([], [])
noncomputable def laws_toRelay.T  (a0 : Int) (a1 : Int) (a2 : Int) (a3 : Int) (a4 : List (Int × Int × Int × Int × Unit)) (a5 : List (Int × Int × Int × Int × Unit)) (a6 : List (Int × Int × Int × Unit)) (a7 : Int) (a8 : Int) (a9 : Int) (a10 : Int) (a11 : Int) (a12 : Int) (a13 : Int) (a14 : Int) (a15 : Int) (a16 : Int) : Option (Int × Int × Int × Int × (List (Int × Int × Int × Int × Unit)) × (List (Int × Int × Int × Int × Unit)) × (List (Int × Int × Int × Unit)) × Int × Int × Int × Int × Int × Int × Int × Int × Int × Int × Unit) := (F_laws_toServer (a0, a1, a2, a3, a4, a5, a6, ())).bind fun y1 => (F_laws_toClient (a7, a8, a9, a10, a11, a12, a13, a14, a15, a16, ())).bind fun y2 => some (y1.1, y1.2.1, y1.2.2.1, y1.2.2.2.1, y1.2.2.2.2.1, y1.2.2.2.2.2.1, y1.2.2.2.2.2.2.1, y2.1, y2.2.1, y2.2.2.1, y2.2.2.2.1, y2.2.2.2.2.1, y2.2.2.2.2.2.1, y2.2.2.2.2.2.2.1, y2.2.2.2.2.2.2.2.1, y2.2.2.2.2.2.2.2.2.1, y2.2.2.2.2.2.2.2.2.2.1, ())
theorem laws_toRelay.top (k0 : Nat) (a0 : Int) (a1 : Int) (a2 : Int) (a3 : Int) (a4 : List (Int × Int × Int × Int × Unit)) (a5 : List (Int × Int × Int × Int × Unit)) (a6 : List (Int × Int × Int × Unit)) (a7 : Int) (a8 : Int) (a9 : Int) (a10 : Int) (a11 : Int) (a12 : Int) (a13 : Int) (a14 : Int) (a15 : Int) (a16 : Int) : runFn Try.prog laws_toRelay.tbl laws_toRelay.cfg k0 14 ins_laws_toRelay outs_laws_toRelay (a0, a1, a2, a3, a4, a5, a6, a7, a8, a9, a10, a11, a12, a13, a14, a15, a16, ()) = laws_toRelay.T  a0 a1 a2 a3 a4 a5 a6 a7 a8 a9 a10 a11 a12 a13 a14 a15 a16 := by kernel_rfl
noncomputable def F_laws_toRelay : Int × Int × Int × Int × (List (Int × Int × Int × Int × Unit)) × (List (Int × Int × Int × Int × Unit)) × (List (Int × Int × Int × Unit)) × Int × Int × Int × Int × Int × Int × Int × Int × Int × Int × Unit → Option (Int × Int × Int × Int × (List (Int × Int × Int × Int × Unit)) × (List (Int × Int × Int × Int × Unit)) × (List (Int × Int × Int × Unit)) × Int × Int × Int × Int × Int × Int × Int × Int × Int × Int × Unit) := fun x => laws_toRelay.T x.1 x.2.1 x.2.2.1 x.2.2.2.1 x.2.2.2.2.1 x.2.2.2.2.2.1 x.2.2.2.2.2.2.1 x.2.2.2.2.2.2.2.1 x.2.2.2.2.2.2.2.2.1 x.2.2.2.2.2.2.2.2.2.1 x.2.2.2.2.2.2.2.2.2.2.1 x.2.2.2.2.2.2.2.2.2.2.2.1 x.2.2.2.2.2.2.2.2.2.2.2.2.1 x.2.2.2.2.2.2.2.2.2.2.2.2.2.1 x.2.2.2.2.2.2.2.2.2.2.2.2.2.2.1 x.2.2.2.2.2.2.2.2.2.2.2.2.2.2.2.1 x.2.2.2.2.2.2.2.2.2.2.2.2.2.2.2.2.1
theorem laws_toRelay.tblOK : ∀ g fs S, laws_toRelay.tbl g fs = some S → SumOK Try.prog g S := by
  intro g fs S h
  unfold laws_toRelay.tbl at h
  split at h
  · rename_i hc; obtain ⟨rfl, rfl⟩ := hc; have := Option.some.inj h; subst this; exact ok_laws_toServer
  split at h
  · rename_i hc; obtain ⟨rfl, rfl⟩ := hc; have := Option.some.inj h; subst this; exact ok_laws_toClient
  cases h
theorem ok_laws_toRelay : SumOK Try.prog 14 ⟨ins_laws_toRelay, outs_laws_toRelay, F_laws_toRelay⟩ := runFn_ok (by kernel_rfl) laws_toRelay.tblOK (by kernel_rfl) fun x y h => ⟨laws_toRelay.cfg, 0, (laws_toRelay.top 0 x.1 x.2.1 x.2.2.1 x.2.2.2.1 x.2.2.2.2.1 x.2.2.2.2.2.1 x.2.2.2.2.2.2.1 x.2.2.2.2.2.2.2.1 x.2.2.2.2.2.2.2.2.1 x.2.2.2.2.2.2.2.2.2.1 x.2.2.2.2.2.2.2.2.2.2.1 x.2.2.2.2.2.2.2.2.2.2.2.1 x.2.2.2.2.2.2.2.2.2.2.2.2.1 x.2.2.2.2.2.2.2.2.2.2.2.2.2.1 x.2.2.2.2.2.2.2.2.2.2.2.2.2.2.1 x.2.2.2.2.2.2.2.2.2.2.2.2.2.2.2.1 x.2.2.2.2.2.2.2.2.2.2.2.2.2.2.2.2.1).trans h⟩
abbrev ins_laws_eqGroup : List Par := [.v true ct0, .v true ct0]
abbrev outs_laws_eqGroup : List (Bool × List CT) := [(false, [CT.bool])]
/-! ### loop.example/g00095/laws.eqGroup (function 62) -/
noncomputable def laws_eqGroup.tbl : Tbl := fun g fs => none
noncomputable def laws_eqGroup.body : Code := ((Try.prog.funcs[62]?).bind (·.body)).getD .skip
def laws_eqGroup.cfg : Nat → List Nat × List Nat := fun k => ([], [])
noncomputable def laws_eqGroup.T  (a0 : Int) (a1 : Int) (a2 : Int) (a3 : Int) (b0 : Int) (b1 : Int) (b2 : Int) (b3 : Int) : Option (Bool × Unit) := cond (a0 != b0) (some (false, ())) (cond (a1 != b1) (some (false, ())) (cond (a2 != b2) (some (false, ())) (cond (a3 != b3) (some (false, ())) (some (true, ())))))
theorem laws_eqGroup.top (k0 : Nat) (a0 : Int) (a1 : Int) (a2 : Int) (a3 : Int) (b0 : Int) (b1 : Int) (b2 : Int) (b3 : Int) : runFn Try.prog laws_eqGroup.tbl laws_eqGroup.cfg k0 62 ins_laws_eqGroup outs_laws_eqGroup (a0, a1, a2, a3, b0, b1, b2, b3, ()) = laws_eqGroup.T  a0 a1 a2 a3 b0 b1 b2 b3 := by kernel_rfl
noncomputable def F_laws_eqGroup : Int × Int × Int × Int × Int × Int × Int × Int × Unit → Option (Bool × Unit) := fun x => laws_eqGroup.T x.1 x.2.1 x.2.2.1 x.2.2.2.1 x.2.2.2.2.1 x.2.2.2.2.2.1 x.2.2.2.2.2.2.1 x.2.2.2.2.2.2.2.1
theorem laws_eqGroup.tblOK : ∀ g fs S, laws_eqGroup.tbl g fs = some S → SumOK Try.prog g S := by
  intro g fs S h
  unfold laws_eqGroup.tbl at h
  cases h
theorem ok_laws_eqGroup : SumOK Try.prog 62 ⟨ins_laws_eqGroup, outs_laws_eqGroup, F_laws_eqGroup⟩ := runFn_ok (by kernel_rfl) laws_eqGroup.tblOK (by kernel_rfl) fun x y h => ⟨laws_eqGroup.cfg, 0, (laws_eqGroup.top 0 x.1 x.2.1 x.2.2.1 x.2.2.2.1 x.2.2.2.2.1 x.2.2.2.2.2.1 x.2.2.2.2.2.2.1 x.2.2.2.2.2.2.2.1).trans h⟩
abbrev ins_laws_eqGroupS : List Par := [.v false [CT.sl ct0], .v false [CT.sl ct0]]
abbrev outs_laws_eqGroupS : List (Bool × List CT) := [(false, [CT.bool])]
/-! ### loop.example/g00095/laws.eqGroupS (function 34) -/
noncomputable def laws_eqGroupS.tbl : Tbl := fun g fs => if g = 62 ∧ fs = [] then some ⟨ins_laws_eqGroup, outs_laws_eqGroup, F_laws_eqGroup⟩ else none
noncomputable def laws_eqGroupS.body : Code := ((Try.prog.funcs[34]?).bind (·.body)).getD .skip
def laws_eqGroupS.cfg : Nat → List Nat × List Nat := fun k => if k = 4 then ([0, 1, 5], [4]) else ([], [])
noncomputable def laws_eqGroupS.R0 {R : Type} (nx0 : ((List (Int × Int × Int × Int × Unit)) → (List (Int × Int × Int × Int × Unit)) → Int → Option R)) (ex0 : (Bool → Option R)) (ex1 : (Unit → Option R)) (a2 : List (Int × Int × Int × Int × Unit)) (b2 : List (Int × Int × Int × Int × Unit)) (i : Int) : Option R := cond (decide (i < (a2.length : Int))) (if 0 ≤ i ∧ i < (a2.length : Int) then if 0 ≤ i ∧ i < (b2.length : Int) then (F_laws_eqGroup ((rd (0, 0, 0, 0, ()) a2 i).1, (rd (0, 0, 0, 0, ()) a2 i).2.1, (rd (0, 0, 0, 0, ()) a2 i).2.2.1, (rd (0, 0, 0, 0, ()) a2 i).2.2.2.1, (rd (0, 0, 0, 0, ()) b2 i).1, (rd (0, 0, 0, 0, ()) b2 i).2.1, (rd (0, 0, 0, 0, ()) b2 i).2.2.1, (rd (0, 0, 0, 0, ()) b2 i).2.2.2.1, ())).bind fun y1 => cond (!y1.1) (ex0 false) (nx0 a2 b2 (w64 (i + 1))) else none else none) (ex1 ())
noncomputable def laws_eqGroupS.A0  (a : List (Int × Int × Int × Int × Unit)) (b : List (Int × Int × Int × Int × Unit)) (t4x : Bool) : Option (Bool × Unit) := some (t4x, ())
noncomputable def laws_eqGroupS.A1  (a : List (Int × Int × Int × Int × Unit)) (b : List (Int × Int × Int × Int × Unit)) (_u : Unit) : Option (Bool × Unit) := some (true, ())
noncomputable def laws_eqGroupS.T (lo0 : ((List (Int × Int × Int × Int × Unit)) → (List (Int × Int × Int × Int × Unit)) → Int → Option (Bool × Unit))) (a : List (Int × Int × Int × Int × Unit)) (b : List (Int × Int × Int × Int × Unit)) : Option (Bool × Unit) := cond ((a.length : Int) != (b.length : Int)) (some (false, ())) (lo0 a b 0)
noncomputable def laws_eqGroupS.st0 {R : Type} (k0 : Nat) : Env → List Ob → Kont R → Option R := fun env ob K => runCode Try.prog laws_eqGroupS.tbl 27 0 laws_eqGroupS.cfg k0 (codeAt [1, 1, 0, 1, 0, 0] laws_eqGroupS.body) env ob K
noncomputable def laws_eqGroupS.K0 {R : Type} (k0 : Nat) (K : Kont R) : Kont R := blockK 0 (seqK (fun env ob => runCode Try.prog laws_eqGroupS.tbl 27 0 laws_eqGroupS.cfg k0 (codeAt [1, 1, 1] laws_eqGroupS.body) env ob (K)) (K))
noncomputable def laws_eqGroupS.L0 {R : Type} (k0 k : Nat) (K : Kont R) (a2 : List (Int × Int × Int × Int × Unit)) (b2 : List (Int × Int × Int × Int × Unit)) (i : Int) : Option R := iter 0 [0, 1, 5] [4] (laws_eqGroupS.st0 k0) k [(0, .sl ct0 a2), (1, .sl ct0 b2), (5, .int .i64 i)] [] K
theorem laws_eqGroupS.s0 {R : Type} (k0 k : Nat) (K : Kont R) (a2 : List (Int × Int × Int × Int × Unit)) (b2 : List (Int × Int × Int × Int × Unit)) (i : Int) : laws_eqGroupS.L0 k0 (k + 1) K a2 b2 i = laws_eqGroupS.R0 (fun (a2 : List (Int × Int × Int × Int × Unit)) (b2 : List (Int × Int × Int × Int × Unit)) (i : Int) => laws_eqGroupS.L0 k0 k K a2 b2 i) (fun (t4x : Bool) => K .ret [(4, .bool t4x)] []) (fun (_ : Unit) => K (.exit 0) [(4, .undef)] []) a2 b2 i := by kernel_rfl
theorem laws_eqGroupS.a0 (k0 : Nat) (a : List (Int × Int × Int × Int × Unit)) (b : List (Int × Int × Int × Int × Unit)) (t4x : Bool) : laws_eqGroupS.K0 (R := (Bool × Unit)) k0 (finK Try.prog [.tmp 4] ins_laws_eqGroupS outs_laws_eqGroupS (a, b, ())) .ret [(4, .bool t4x)] [] = laws_eqGroupS.A0  a b t4x := by kernel_rfl
theorem laws_eqGroupS.a1 (k0 : Nat) (a : List (Int × Int × Int × Int × Unit)) (b : List (Int × Int × Int × Int × Unit))  : laws_eqGroupS.K0 (R := (Bool × Unit)) k0 (finK Try.prog [.tmp 4] ins_laws_eqGroupS outs_laws_eqGroupS (a, b, ())) (.exit 0) [(4, .undef)] [] = laws_eqGroupS.A1  a b () := by kernel_rfl
theorem laws_eqGroupS.top (k0 : Nat) (a : List (Int × Int × Int × Int × Unit)) (b : List (Int × Int × Int × Int × Unit)) : runFn Try.prog laws_eqGroupS.tbl laws_eqGroupS.cfg k0 34 ins_laws_eqGroupS outs_laws_eqGroupS (a, b, ()) = laws_eqGroupS.T (fun (a2 : List (Int × Int × Int × Int × Unit)) (b2 : List (Int × Int × Int × Int × Unit)) (i : Int) => laws_eqGroupS.L0 (R := (Bool × Unit)) k0 k0 (laws_eqGroupS.K0 (R := (Bool × Unit)) k0 ((finK Try.prog [.tmp 4] ins_laws_eqGroupS outs_laws_eqGroupS (a, b, ())))) a2 b2 i) a b := by kernel_rfl
noncomputable def laws_eqGroupS.G0 {R : Type} (k0 : Nat) (hx0 : (Bool → Option R)) (hx1 : (Unit → Option R)) : Nat → (List (Int × Int × Int × Int × Unit)) → (List (Int × Int × Int × Int × Unit)) → Int → Option R
  | 0, _, _, _ => none
  | k + 1, a2, b2, i => laws_eqGroupS.R0 (fun (a2 : List (Int × Int × Int × Int × Unit)) (b2 : List (Int × Int × Int × Int × Unit)) (i : Int) => laws_eqGroupS.G0 k0 hx0 hx1 k a2 b2 i) (fun (t4x : Bool) => hx0 t4x) (fun (_ : Unit) => hx1 ()) a2 b2 i
theorem laws_eqGroupS.g0 {R : Type} (k0 : Nat) (K : Kont R) : ∀ (k : Nat) (a2 : List (Int × Int × Int × Int × Unit)) (b2 : List (Int × Int × Int × Int × Unit)) (i : Int), laws_eqGroupS.L0 k0 k K a2 b2 i = laws_eqGroupS.G0 k0 (fun (t4x : Bool) => K .ret [(4, .bool t4x)] []) (fun (_ : Unit) => K (.exit 0) [(4, .undef)] []) k a2 b2 i := by
  intro k
  induction k with
  | zero => intros; rfl
  | succ k ih => intros; rw [laws_eqGroupS.s0, laws_eqGroupS.G0]; (try simp only [ih]); try rfl
noncomputable def laws_eqGroupS.FF (k0 : Nat) (a : List (Int × Int × Int × Int × Unit)) (b : List (Int × Int × Int × Int × Unit)) : Option (Bool × Unit) := laws_eqGroupS.T (fun (a2 : List (Int × Int × Int × Int × Unit)) (b2 : List (Int × Int × Int × Int × Unit)) (i : Int) => laws_eqGroupS.G0 k0 (fun (t4x : Bool) => laws_eqGroupS.A0  a b t4x) (fun (_ : Unit) => laws_eqGroupS.A1  a b ()) k0 a2 b2 i) a b
theorem laws_eqGroupS.run (k0 : Nat) (a : List (Int × Int × Int × Int × Unit)) (b : List (Int × Int × Int × Int × Unit)) : runFn Try.prog laws_eqGroupS.tbl laws_eqGroupS.cfg k0 34 ins_laws_eqGroupS outs_laws_eqGroupS (a, b, ()) = laws_eqGroupS.FF k0 a b := by
  rw [laws_eqGroupS.top, laws_eqGroupS.FF]; (try simp only [laws_eqGroupS.g0, laws_eqGroupS.a0, laws_eqGroupS.a1]); try rfl
noncomputable def F_laws_eqGroupS : (List (Int × Int × Int × Int × Unit)) × (List (Int × Int × Int × Int × Unit)) × Unit → Option (Bool × Unit) := fun x => (fun (a : List (Int × Int × Int × Int × Unit)) (b : List (Int × Int × Int × Int × Unit)) => laws_eqGroupS.FF (300 + a.length + b.length) a b) x.1 x.2.1
theorem laws_eqGroupS.tblOK : ∀ g fs S, laws_eqGroupS.tbl g fs = some S → SumOK Try.prog g S := by
  intro g fs S h
  unfold laws_eqGroupS.tbl at h
  split at h
  · rename_i hc; obtain ⟨rfl, rfl⟩ := hc; have := Option.some.inj h; subst this; exact ok_laws_eqGroup
  cases h
theorem ok_laws_eqGroupS : SumOK Try.prog 34 ⟨ins_laws_eqGroupS, outs_laws_eqGroupS, F_laws_eqGroupS⟩ := runFn_ok (by kernel_rfl) laws_eqGroupS.tblOK (by kernel_rfl) fun x y h => ⟨laws_eqGroupS.cfg, _, (laws_eqGroupS.run _ x.1 x.2.1).trans h⟩
abbrev ins_laws_eqMember : List Par := [.v true ct0, .v true ct0]
abbrev outs_laws_eqMember : List (Bool × List CT) := [(false, [CT.bool])]
/-! ### loop.example/g00095/laws.eqMember (function 63) -/
noncomputable def laws_eqMember.tbl : Tbl := fun g fs => none
noncomputable def laws_eqMember.body : Code := ((Try.prog.funcs[63]?).bind (·.body)).getD .skip
def laws_eqMember.cfg : Nat → List Nat × List Nat := fun k => ([], [])
noncomputable def laws_eqMember.T  (a0 : Int) (a1 : Int) (a2 : Int) (a3 : Int) (b0 : Int) (b1 : Int) (b2 : Int) (b3 : Int) : Option (Bool × Unit) := cond (a0 != b0) (some (false, ())) (cond (a1 != b1) (some (false, ())) (cond (a2 != b2) (some (false, ())) (cond (a3 != b3) (some (false, ())) (some (true, ())))))
theorem laws_eqMember.top (k0 : Nat) (a0 : Int) (a1 : Int) (a2 : Int) (a3 : Int) (b0 : Int) (b1 : Int) (b2 : Int) (b3 : Int) : runFn Try.prog laws_eqMember.tbl laws_eqMember.cfg k0 63 ins_laws_eqMember outs_laws_eqMember (a0, a1, a2, a3, b0, b1, b2, b3, ()) = laws_eqMember.T  a0 a1 a2 a3 b0 b1 b2 b3 := by kernel_rfl
noncomputable def F_laws_eqMember : Int × Int × Int × Int × Int × Int × Int × Int × Unit → Option (Bool × Unit) := fun x => laws_eqMember.T x.1 x.2.1 x.2.2.1 x.2.2.2.1 x.2.2.2.2.1 x.2.2.2.2.2.1 x.2.2.2.2.2.2.1 x.2.2.2.2.2.2.2.1
theorem laws_eqMember.tblOK : ∀ g fs S, laws_eqMember.tbl g fs = some S → SumOK Try.prog g S := by
  intro g fs S h
  unfold laws_eqMember.tbl at h
  cases h
theorem ok_laws_eqMember : SumOK Try.prog 63 ⟨ins_laws_eqMember, outs_laws_eqMember, F_laws_eqMember⟩ := runFn_ok (by kernel_rfl) laws_eqMember.tblOK (by kernel_rfl) fun x y h => ⟨laws_eqMember.cfg, 0, (laws_eqMember.top 0 x.1 x.2.1 x.2.2.1 x.2.2.2.1 x.2.2.2.2.1 x.2.2.2.2.2.1 x.2.2.2.2.2.2.1 x.2.2.2.2.2.2.2.1).trans h⟩
abbrev ins_laws_eqMemberS : List Par := [.v false [CT.sl ct0], .v false [CT.sl ct0]]
abbrev outs_laws_eqMemberS : List (Bool × List CT) := [(false, [CT.bool])]
/-! ### loop.example/g00095/laws.eqMemberS (function 35) -/
noncomputable def laws_eqMemberS.tbl : Tbl := fun g fs => if g = 63 ∧ fs = [] then some ⟨ins_laws_eqMember, outs_laws_eqMember, F_laws_eqMember⟩ else none
noncomputable def laws_eqMemberS.body : Code := ((Try.prog.funcs[35]?).bind (·.body)).getD .skip
def laws_eqMemberS.cfg : Nat → List Nat × List Nat := fun k => if k = 4 then ([0, 1, 5], [4]) else ([], [])
noncomputable def laws_eqMemberS.R0 {R : Type} (nx0 : ((List (Int × Int × Int × Int × Unit)) → (List (Int × Int × Int × Int × Unit)) → Int → Option R)) (ex0 : (Bool → Option R)) (ex1 : (Unit → Option R)) (a2 : List (Int × Int × Int × Int × Unit)) (b2 : List (Int × Int × Int × Int × Unit)) (i : Int) : Option R := cond (decide (i < (a2.length : Int))) (if 0 ≤ i ∧ i < (a2.length : Int) then if 0 ≤ i ∧ i < (b2.length : Int) then (F_laws_eqMember ((rd (0, 0, 0, 0, ()) a2 i).1, (rd (0, 0, 0, 0, ()) a2 i).2.1, (rd (0, 0, 0, 0, ()) a2 i).2.2.1, (rd (0, 0, 0, 0, ()) a2 i).2.2.2.1, (rd (0, 0, 0, 0, ()) b2 i).1, (rd (0, 0, 0, 0, ()) b2 i).2.1, (rd (0, 0, 0, 0, ()) b2 i).2.2.1, (rd (0, 0, 0, 0, ()) b2 i).2.2.2.1, ())).bind fun y1 => cond (!y1.1) (ex0 false) (nx0 a2 b2 (w64 (i + 1))) else none else none) (ex1 ())
noncomputable def laws_eqMemberS.A0  (a : List (Int × Int × Int × Int × Unit)) (b : List (Int × Int × Int × Int × Unit)) (t4x : Bool) : Option (Bool × Unit) := some (t4x, ())
noncomputable def laws_eqMemberS.A1  (a : List (Int × Int × Int × Int × Unit)) (b : List (Int × Int × Int × Int × Unit)) (_u : Unit) : Option (Bool × Unit) := some (true, ())
noncomputable def laws_eqMemberS.T (lo0 : ((List (Int × Int × Int × Int × Unit)) → (List (Int × Int × Int × Int × Unit)) → Int → Option (Bool × Unit))) (a : List (Int × Int × Int × Int × Unit)) (b : List (Int × Int × Int × Int × Unit)) : Option (Bool × Unit) := cond ((a.length : Int) != (b.length : Int)) (some (false, ())) (lo0 a b 0)
noncomputable def laws_eqMemberS.st0 {R : Type} (k0 : Nat) : Env → List Ob → Kont R → Option R := fun env ob K => runCode Try.prog laws_eqMemberS.tbl 27 0 laws_eqMemberS.cfg k0 (codeAt [1, 1, 0, 1, 0, 0] laws_eqMemberS.body) env ob K
noncomputable def laws_eqMemberS.K0 {R : Type} (k0 : Nat) (K : Kont R) : Kont R := blockK 0 (seqK (fun env ob => runCode Try.prog laws_eqMemberS.tbl 27 0 laws_eqMemberS.cfg k0 (codeAt [1, 1, 1] laws_eqMemberS.body) env ob (K)) (K))
noncomputable def laws_eqMemberS.L0 {R : Type} (k0 k : Nat) (K : Kont R) (a2 : List (Int × Int × Int × Int × Unit)) (b2 : List (Int × Int × Int × Int × Unit)) (i : Int) : Option R := iter 0 [0, 1, 5] [4] (laws_eqMemberS.st0 k0) k [(0, .sl ct0 a2), (1, .sl ct0 b2), (5, .int .i64 i)] [] K
theorem laws_eqMemberS.s0 {R : Type} (k0 k : Nat) (K : Kont R) (a2 : List (Int × Int × Int × Int × Unit)) (b2 : List (Int × Int × Int × Int × Unit)) (i : Int) : laws_eqMemberS.L0 k0 (k + 1) K a2 b2 i = laws_eqMemberS.R0 (fun (a2 : List (Int × Int × Int × Int × Unit)) (b2 : List (Int × Int × Int × Int × Unit)) (i : Int) => laws_eqMemberS.L0 k0 k K a2 b2 i) (fun (t4x : Bool) => K .ret [(4, .bool t4x)] []) (fun (_ : Unit) => K (.exit 0) [(4, .undef)] []) a2 b2 i := by kernel_rfl
theorem laws_eqMemberS.a0 (k0 : Nat) (a : List (Int × Int × Int × Int × Unit)) (b : List (Int × Int × Int × Int × Unit)) (t4x : Bool) : laws_eqMemberS.K0 (R := (Bool × Unit)) k0 (finK Try.prog [.tmp 4] ins_laws_eqMemberS outs_laws_eqMemberS (a, b, ())) .ret [(4, .bool t4x)] [] = laws_eqMemberS.A0  a b t4x := by kernel_rfl
theorem laws_eqMemberS.a1 (k0 : Nat) (a : List (Int × Int × Int × Int × Unit)) (b : List (Int × Int × Int × Int × Unit))  : laws_eqMemberS.K0 (R := (Bool × Unit)) k0 (finK Try.prog [.tmp 4] ins_laws_eqMemberS outs_laws_eqMemberS (a, b, ())) (.exit 0) [(4, .undef)] [] = laws_eqMemberS.A1  a b () := by kernel_rfl
theorem laws_eqMemberS.top (k0 : Nat) (a : List (Int × Int × Int × Int × Unit)) (b : List (Int × Int × Int × Int × Unit)) : runFn Try.prog laws_eqMemberS.tbl laws_eqMemberS.cfg k0 35 ins_laws_eqMemberS outs_laws_eqMemberS (a, b, ()) = laws_eqMemberS.T (fun (a2 : List (Int × Int × Int × Int × Unit)) (b2 : List (Int × Int × Int × Int × Unit)) (i : Int) => laws_eqMemberS.L0 (R := (Bool × Unit)) k0 k0 (laws_eqMemberS.K0 (R := (Bool × Unit)) k0 ((finK Try.prog [.tmp 4] ins_laws_eqMemberS outs_laws_eqMemberS (a, b, ())))) a2 b2 i) a b := by kernel_rfl
noncomputable def laws_eqMemberS.G0 {R : Type} (k0 : Nat) (hx0 : (Bool → Option R)) (hx1 : (Unit → Option R)) : Nat → (List (Int × Int × Int × Int × Unit)) → (List (Int × Int × Int × Int × Unit)) → Int → Option R
  | 0, _, _, _ => none
  | k + 1, a2, b2, i => laws_eqMemberS.R0 (fun (a2 : List (Int × Int × Int × Int × Unit)) (b2 : List (Int × Int × Int × Int × Unit)) (i : Int) => laws_eqMemberS.G0 k0 hx0 hx1 k a2 b2 i) (fun (t4x : Bool) => hx0 t4x) (fun (_ : Unit) => hx1 ()) a2 b2 i
theorem laws_eqMemberS.g0 {R : Type} (k0 : Nat) (K : Kont R) : ∀ (k : Nat) (a2 : List (Int × Int × Int × Int × Unit)) (b2 : List (Int × Int × Int × Int × Unit)) (i : Int), laws_eqMemberS.L0 k0 k K a2 b2 i = laws_eqMemberS.G0 k0 (fun (t4x : Bool) => K .ret [(4, .bool t4x)] []) (fun (_ : Unit) => K (.exit 0) [(4, .undef)] []) k a2 b2 i := by
  intro k
  induction k with
  | zero => intros; rfl
  | succ k ih => intros; rw [laws_eqMemberS.s0, laws_eqMemberS.G0]; (try simp only [ih]); try rfl
noncomputable def laws_eqMemberS.FF (k0 : Nat) (a : List (Int × Int × Int × Int × Unit)) (b : List (Int × Int × Int × Int × Unit)) : Option (Bool × Unit) := laws_eqMemberS.T (fun (a2 : List (Int × Int × Int × Int × Unit)) (b2 : List (Int × Int × Int × Int × Unit)) (i : Int) => laws_eqMemberS.G0 k0 (fun (t4x : Bool) => laws_eqMemberS.A0  a b t4x) (fun (_ : Unit) => laws_eqMemberS.A1  a b ()) k0 a2 b2 i) a b
theorem laws_eqMemberS.run (k0 : Nat) (a : List (Int × Int × Int × Int × Unit)) (b : List (Int × Int × Int × Int × Unit)) : runFn Try.prog laws_eqMemberS.tbl laws_eqMemberS.cfg k0 35 ins_laws_eqMemberS outs_laws_eqMemberS (a, b, ()) = laws_eqMemberS.FF k0 a b := by
  rw [laws_eqMemberS.top, laws_eqMemberS.FF]; (try simp only [laws_eqMemberS.g0, laws_eqMemberS.a0, laws_eqMemberS.a1]); try rfl
noncomputable def F_laws_eqMemberS : (List (Int × Int × Int × Int × Unit)) × (List (Int × Int × Int × Int × Unit)) × Unit → Option (Bool × Unit) := fun x => (fun (a : List (Int × Int × Int × Int × Unit)) (b : List (Int × Int × Int × Int × Unit)) => laws_eqMemberS.FF (300 + a.length + b.length) a b) x.1 x.2.1
theorem laws_eqMemberS.tblOK : ∀ g fs S, laws_eqMemberS.tbl g fs = some S → SumOK Try.prog g S := by
  intro g fs S h
  unfold laws_eqMemberS.tbl at h
  split at h
  · rename_i hc; obtain ⟨rfl, rfl⟩ := hc; have := Option.some.inj h; subst this; exact ok_laws_eqMember
  cases h
theorem ok_laws_eqMemberS : SumOK Try.prog 35 ⟨ins_laws_eqMemberS, outs_laws_eqMemberS, F_laws_eqMemberS⟩ := runFn_ok (by kernel_rfl) laws_eqMemberS.tblOK (by kernel_rfl) fun x y h => ⟨laws_eqMemberS.cfg, _, (laws_eqMemberS.run _ x.1 x.2.1).trans h⟩
abbrev ins_laws_eqFarm : List Par := [.v true ct4, .v true ct4]
abbrev outs_laws_eqFarm : List (Bool × List CT) := [(false, [CT.bool])]
/-! ### loop.example/g00095/laws.eqFarm (function 11) -/
noncomputable def laws_eqFarm.tbl : Tbl := fun g fs => if g = 34 ∧ fs = [] then some ⟨ins_laws_eqGroupS, outs_laws_eqGroupS, F_laws_eqGroupS⟩ else if g = 35 ∧ fs = [] then some ⟨ins_laws_eqMemberS, outs_laws_eqMemberS, F_laws_eqMemberS⟩ else none
noncomputable def laws_eqFarm.body : Code := ((Try.prog.funcs[11]?).bind (·.body)).getD .skip
def laws_eqFarm.cfg : Nat → List Nat × List Nat := fun k => ([], [])
noncomputable def laws_eqFarm.T  (a0 : Int) (a1 : List (Int × Int × Int × Int × Unit)) (a2 : List (Int × Int × Int × Int × Unit)) (b0 : Int) (b1 : List (Int × Int × Int × Int × Unit)) (b2 : List (Int × Int × Int × Int × Unit)) : Option (Bool × Unit) := cond (a0 != b0) (some (false, ())) ((F_laws_eqGroupS (a1, b1, ())).bind fun y1 => cond (!y1.1) (some (false, ())) ((F_laws_eqMemberS (a2, b2, ())).bind fun y2 => cond (!y2.1) (some (false, ())) (some (true, ()))))
theorem laws_eqFarm.top (k0 : Nat) (a0 : Int) (a1 : List (Int × Int × Int × Int × Unit)) (a2 : List (Int × Int × Int × Int × Unit)) (b0 : Int) (b1 : List (Int × Int × Int × Int × Unit)) (b2 : List (Int × Int × Int × Int × Unit)) : runFn Try.prog laws_eqFarm.tbl laws_eqFarm.cfg k0 11 ins_laws_eqFarm outs_laws_eqFarm (a0, a1, a2, b0, b1, b2, ()) = laws_eqFarm.T  a0 a1 a2 b0 b1 b2 := by kernel_rfl
noncomputable def F_laws_eqFarm : Int × (List (Int × Int × Int × Int × Unit)) × (List (Int × Int × Int × Int × Unit)) × Int × (List (Int × Int × Int × Int × Unit)) × (List (Int × Int × Int × Int × Unit)) × Unit → Option (Bool × Unit) := fun x => laws_eqFarm.T x.1 x.2.1 x.2.2.1 x.2.2.2.1 x.2.2.2.2.1 x.2.2.2.2.2.1
theorem laws_eqFarm.tblOK : ∀ g fs S, laws_eqFarm.tbl g fs = some S → SumOK Try.prog g S := by
  intro g fs S h
  unfold laws_eqFarm.tbl at h
  split at h
  · rename_i hc; obtain ⟨rfl, rfl⟩ := hc; have := Option.some.inj h; subst this; exact ok_laws_eqGroupS
  split at h
  · rename_i hc; obtain ⟨rfl, rfl⟩ := hc; have := Option.some.inj h; subst this; exact ok_laws_eqMemberS
  cases h
theorem ok_laws_eqFarm : SumOK Try.prog 11 ⟨ins_laws_eqFarm, outs_laws_eqFarm, F_laws_eqFarm⟩ := runFn_ok (by kernel_rfl) laws_eqFarm.tblOK (by kernel_rfl) fun x y h => ⟨laws_eqFarm.cfg, 0, (laws_eqFarm.top 0 x.1 x.2.1 x.2.2.1 x.2.2.2.1 x.2.2.2.2.1 x.2.2.2.2.2.1).trans h⟩
abbrev ins_laws_eqLease : List Par := [.v true ct1, .v true ct1]
abbrev outs_laws_eqLease : List (Bool × List CT) := [(false, [CT.bool])]
/-! ### loop.example/g00095/laws.eqLease (function 84) -/
noncomputable def laws_eqLease.tbl : Tbl := fun g fs => none
noncomputable def laws_eqLease.body : Code := ((Try.prog.funcs[84]?).bind (·.body)).getD .skip
def laws_eqLease.cfg : Nat → List Nat × List Nat := fun k => ([], [])
noncomputable def laws_eqLease.T  (a0 : Int) (a1 : Int) (a2 : Int) (b0 : Int) (b1 : Int) (b2 : Int) : Option (Bool × Unit) := cond (a0 != b0) (some (false, ())) (cond (a1 != b1) (some (false, ())) (cond (a2 != b2) (some (false, ())) (some (true, ()))))
theorem laws_eqLease.top (k0 : Nat) (a0 : Int) (a1 : Int) (a2 : Int) (b0 : Int) (b1 : Int) (b2 : Int) : runFn Try.prog laws_eqLease.tbl laws_eqLease.cfg k0 84 ins_laws_eqLease outs_laws_eqLease (a0, a1, a2, b0, b1, b2, ()) = laws_eqLease.T  a0 a1 a2 b0 b1 b2 := by kernel_rfl
noncomputable def F_laws_eqLease : Int × Int × Int × Int × Int × Int × Unit → Option (Bool × Unit) := fun x => laws_eqLease.T x.1 x.2.1 x.2.2.1 x.2.2.2.1 x.2.2.2.2.1 x.2.2.2.2.2.1
theorem laws_eqLease.tblOK : ∀ g fs S, laws_eqLease.tbl g fs = some S → SumOK Try.prog g S := by
  intro g fs S h
  unfold laws_eqLease.tbl at h
  cases h
theorem ok_laws_eqLease : SumOK Try.prog 84 ⟨ins_laws_eqLease, outs_laws_eqLease, F_laws_eqLease⟩ := runFn_ok (by kernel_rfl) laws_eqLease.tblOK (by kernel_rfl) fun x y h => ⟨laws_eqLease.cfg, 0, (laws_eqLease.top 0 x.1 x.2.1 x.2.2.1 x.2.2.2.1 x.2.2.2.2.1 x.2.2.2.2.2.1).trans h⟩
abbrev ins_laws_eqLeaseS : List Par := [.v false [CT.sl ct1], .v false [CT.sl ct1]]
abbrev outs_laws_eqLeaseS : List (Bool × List CT) := [(false, [CT.bool])]
/-! ### loop.example/g00095/laws.eqLeaseS (function 72) -/
noncomputable def laws_eqLeaseS.tbl : Tbl := fun g fs => if g = 84 ∧ fs = [] then some ⟨ins_laws_eqLease, outs_laws_eqLease, F_laws_eqLease⟩ else none
noncomputable def laws_eqLeaseS.body : Code := ((Try.prog.funcs[72]?).bind (·.body)).getD .skip
def laws_eqLeaseS.cfg : Nat → List Nat × List Nat := fun k => if k = 4 then ([0, 1, 5], [4]) else ([], [])
noncomputable def laws_eqLeaseS.R0 {R : Type} (nx0 : ((List (Int × Int × Int × Unit)) → (List (Int × Int × Int × Unit)) → Int → Option R)) (ex0 : (Bool → Option R)) (ex1 : (Unit → Option R)) (a2 : List (Int × Int × Int × Unit)) (b2 : List (Int × Int × Int × Unit)) (i : Int) : Option R := cond (decide (i < (a2.length : Int))) (if 0 ≤ i ∧ i < (a2.length : Int) then if 0 ≤ i ∧ i < (b2.length : Int) then (F_laws_eqLease ((rd (0, 0, 0, ()) a2 i).1, (rd (0, 0, 0, ()) a2 i).2.1, (rd (0, 0, 0, ()) a2 i).2.2.1, (rd (0, 0, 0, ()) b2 i).1, (rd (0, 0, 0, ()) b2 i).2.1, (rd (0, 0, 0, ()) b2 i).2.2.1, ())).bind fun y1 => cond (!y1.1) (ex0 false) (nx0 a2 b2 (w64 (i + 1))) else none else none) (ex1 ())
noncomputable def laws_eqLeaseS.A0  (a : List (Int × Int × Int × Unit)) (b : List (Int × Int × Int × Unit)) (t4x : Bool) : Option (Bool × Unit) := some (t4x, ())
noncomputable def laws_eqLeaseS.A1  (a : List (Int × Int × Int × Unit)) (b : List (Int × Int × Int × Unit)) (_u : Unit) : Option (Bool × Unit) := some (true, ())
noncomputable def laws_eqLeaseS.T (lo0 : ((List (Int × Int × Int × Unit)) → (List (Int × Int × Int × Unit)) → Int → Option (Bool × Unit))) (a : List (Int × Int × Int × Unit)) (b : List (Int × Int × Int × Unit)) : Option (Bool × Unit) := cond ((a.length : Int) != (b.length : Int)) (some (false, ())) (lo0 a b 0)
noncomputable def laws_eqLeaseS.st0 {R : Type} (k0 : Nat) : Env → List Ob → Kont R → Option R := fun env ob K => runCode Try.prog laws_eqLeaseS.tbl 27 0 laws_eqLeaseS.cfg k0 (codeAt [1, 1, 0, 1, 0, 0] laws_eqLeaseS.body) env ob K
noncomputable def laws_eqLeaseS.K0 {R : Type} (k0 : Nat) (K : Kont R) : Kont R := blockK 0 (seqK (fun env ob => runCode Try.prog laws_eqLeaseS.tbl 27 0 laws_eqLeaseS.cfg k0 (codeAt [1, 1, 1] laws_eqLeaseS.body) env ob (K)) (K))
noncomputable def laws_eqLeaseS.L0 {R : Type} (k0 k : Nat) (K : Kont R) (a2 : List (Int × Int × Int × Unit)) (b2 : List (Int × Int × Int × Unit)) (i : Int) : Option R := iter 0 [0, 1, 5] [4] (laws_eqLeaseS.st0 k0) k [(0, .sl ct1 a2), (1, .sl ct1 b2), (5, .int .i64 i)] [] K
theorem laws_eqLeaseS.s0 {R : Type} (k0 k : Nat) (K : Kont R) (a2 : List (Int × Int × Int × Unit)) (b2 : List (Int × Int × Int × Unit)) (i : Int) : laws_eqLeaseS.L0 k0 (k + 1) K a2 b2 i = laws_eqLeaseS.R0 (fun (a2 : List (Int × Int × Int × Unit)) (b2 : List (Int × Int × Int × Unit)) (i : Int) => laws_eqLeaseS.L0 k0 k K a2 b2 i) (fun (t4x : Bool) => K .ret [(4, .bool t4x)] []) (fun (_ : Unit) => K (.exit 0) [(4, .undef)] []) a2 b2 i := by kernel_rfl
theorem laws_eqLeaseS.a0 (k0 : Nat) (a : List (Int × Int × Int × Unit)) (b : List (Int × Int × Int × Unit)) (t4x : Bool) : laws_eqLeaseS.K0 (R := (Bool × Unit)) k0 (finK Try.prog [.tmp 4] ins_laws_eqLeaseS outs_laws_eqLeaseS (a, b, ())) .ret [(4, .bool t4x)] [] = laws_eqLeaseS.A0  a b t4x := by kernel_rfl
theorem laws_eqLeaseS.a1 (k0 : Nat) (a : List (Int × Int × Int × Unit)) (b : List (Int × Int × Int × Unit))  : laws_eqLeaseS.K0 (R := (Bool × Unit)) k0 (finK Try.prog [.tmp 4] ins_laws_eqLeaseS outs_laws_eqLeaseS (a, b, ())) (.exit 0) [(4, .undef)] [] = laws_eqLeaseS.A1  a b () := by kernel_rfl
theorem laws_eqLeaseS.top (k0 : Nat) (a : List (Int × Int × Int × Unit)) (b : List (Int × Int × Int × Unit)) : runFn Try.prog laws_eqLeaseS.tbl laws_eqLeaseS.cfg k0 72 ins_laws_eqLeaseS outs_laws_eqLeaseS (a, b, ()) = laws_eqLeaseS.T (fun (a2 : List (Int × Int × Int × Unit)) (b2 : List (Int × Int × Int × Unit)) (i : Int) => laws_eqLeaseS.L0 (R := (Bool × Unit)) k0 k0 (laws_eqLeaseS.K0 (R := (Bool × Unit)) k0 ((finK Try.prog [.tmp 4] ins_laws_eqLeaseS outs_laws_eqLeaseS (a, b, ())))) a2 b2 i) a b := by kernel_rfl
noncomputable def laws_eqLeaseS.G0 {R : Type} (k0 : Nat) (hx0 : (Bool → Option R)) (hx1 : (Unit → Option R)) : Nat → (List (Int × Int × Int × Unit)) → (List (Int × Int × Int × Unit)) → Int → Option R
  | 0, _, _, _ => none
  | k + 1, a2, b2, i => laws_eqLeaseS.R0 (fun (a2 : List (Int × Int × Int × Unit)) (b2 : List (Int × Int × Int × Unit)) (i : Int) => laws_eqLeaseS.G0 k0 hx0 hx1 k a2 b2 i) (fun (t4x : Bool) => hx0 t4x) (fun (_ : Unit) => hx1 ()) a2 b2 i
theorem laws_eqLeaseS.g0 {R : Type} (k0 : Nat) (K : Kont R) : ∀ (k : Nat) (a2 : List (Int × Int × Int × Unit)) (b2 : List (Int × Int × Int × Unit)) (i : Int), laws_eqLeaseS.L0 k0 k K a2 b2 i = laws_eqLeaseS.G0 k0 (fun (t4x : Bool) => K .ret [(4, .bool t4x)] []) (fun (_ : Unit) => K (.exit 0) [(4, .undef)] []) k a2 b2 i := by
  intro k
  induction k with
  | zero => intros; rfl
  | succ k ih => intros; rw [laws_eqLeaseS.s0, laws_eqLeaseS.G0]; (try simp only [ih]); try rfl
noncomputable def laws_eqLeaseS.FF (k0 : Nat) (a : List (Int × Int × Int × Unit)) (b : List (Int × Int × Int × Unit)) : Option (Bool × Unit) := laws_eqLeaseS.T (fun (a2 : List (Int × Int × Int × Unit)) (b2 : List (Int × Int × Int × Unit)) (i : Int) => laws_eqLeaseS.G0 k0 (fun (t4x : Bool) => laws_eqLeaseS.A0  a b t4x) (fun (_ : Unit) => laws_eqLeaseS.A1  a b ()) k0 a2 b2 i) a b
theorem laws_eqLeaseS.run (k0 : Nat) (a : List (Int × Int × Int × Unit)) (b : List (Int × Int × Int × Unit)) : runFn Try.prog laws_eqLeaseS.tbl laws_eqLeaseS.cfg k0 72 ins_laws_eqLeaseS outs_laws_eqLeaseS (a, b, ()) = laws_eqLeaseS.FF k0 a b := by
  rw [laws_eqLeaseS.top, laws_eqLeaseS.FF]; (try simp only [laws_eqLeaseS.g0, laws_eqLeaseS.a0, laws_eqLeaseS.a1]); try rfl
noncomputable def F_laws_eqLeaseS : (List (Int × Int × Int × Unit)) × (List (Int × Int × Int × Unit)) × Unit → Option (Bool × Unit) := fun x => (fun (a : List (Int × Int × Int × Unit)) (b : List (Int × Int × Int × Unit)) => laws_eqLeaseS.FF (300 + a.length + b.length) a b) x.1 x.2.1
theorem laws_eqLeaseS.tblOK : ∀ g fs S, laws_eqLeaseS.tbl g fs = some S → SumOK Try.prog g S := by
  intro g fs S h
  unfold laws_eqLeaseS.tbl at h
  split at h
  · rename_i hc; obtain ⟨rfl, rfl⟩ := hc; have := Option.some.inj h; subst this; exact ok_laws_eqLease
  cases h
theorem ok_laws_eqLeaseS : SumOK Try.prog 72 ⟨ins_laws_eqLeaseS, outs_laws_eqLeaseS, F_laws_eqLeaseS⟩ := runFn_ok (by kernel_rfl) laws_eqLeaseS.tblOK (by kernel_rfl) fun x y h => ⟨laws_eqLeaseS.cfg, _, (laws_eqLeaseS.run _ x.1 x.2.1).trans h⟩
abbrev ins_laws_eqServer : List Par := [.v true ct3, .v true ct3]
abbrev outs_laws_eqServer : List (Bool × List CT) := [(false, [CT.bool])]
/-! ### loop.example/g00095/laws.eqServer (function 43) -/
noncomputable def laws_eqServer.tbl : Tbl := fun g fs => if g = 11 ∧ fs = [] then some ⟨ins_laws_eqFarm, outs_laws_eqFarm, F_laws_eqFarm⟩ else if g = 72 ∧ fs = [] then some ⟨ins_laws_eqLeaseS, outs_laws_eqLeaseS, F_laws_eqLeaseS⟩ else none
noncomputable def laws_eqServer.body : Code := ((Try.prog.funcs[43]?).bind (·.body)).getD .skip
def laws_eqServer.cfg : Nat → List Nat × List Nat := fun k => ([], [])
noncomputable def laws_eqServer.T  (a0 : Int) (a1 : Int) (a2 : Int) (a3 : Int) (a4 : List (Int × Int × Int × Int × Unit)) (a5 : List (Int × Int × Int × Int × Unit)) (a6 : List (Int × Int × Int × Unit)) (b0 : Int) (b1 : Int) (b2 : Int) (b3 : Int) (b4 : List (Int × Int × Int × Int × Unit)) (b5 : List (Int × Int × Int × Int × Unit)) (b6 : List (Int × Int × Int × Unit)) : Option (Bool × Unit) := cond (a0 != b0) (some (false, ())) (cond (a1 != b1) (some (false, ())) (cond (a2 != b2) (some (false, ())) ((F_laws_eqFarm (a3, a4, a5, b3, b4, b5, ())).bind fun y1 => cond (!y1.1) (some (false, ())) ((F_laws_eqLeaseS (a6, b6, ())).bind fun y2 => cond (!y2.1) (some (false, ())) (some (true, ()))))))
theorem laws_eqServer.top (k0 : Nat) (a0 : Int) (a1 : Int) (a2 : Int) (a3 : Int) (a4 : List (Int × Int × Int × Int × Unit)) (a5 : List (Int × Int × Int × Int × Unit)) (a6 : List (Int × Int × Int × Unit)) (b0 : Int) (b1 : Int) (b2 : Int) (b3 : Int) (b4 : List (Int × Int × Int × Int × Unit)) (b5 : List (Int × Int × Int × Int × Unit)) (b6 : List (Int × Int × Int × Unit)) : runFn Try.prog laws_eqServer.tbl laws_eqServer.cfg k0 43 ins_laws_eqServer outs_laws_eqServer (a0, a1, a2, a3, a4, a5, a6, b0, b1, b2, b3, b4, b5, b6, ()) = laws_eqServer.T  a0 a1 a2 a3 a4 a5 a6 b0 b1 b2 b3 b4 b5 b6 := by kernel_rfl
noncomputable def F_laws_eqServer : Int × Int × Int × Int × (List (Int × Int × Int × Int × Unit)) × (List (Int × Int × Int × Int × Unit)) × (List (Int × Int × Int × Unit)) × Int × Int × Int × Int × (List (Int × Int × Int × Int × Unit)) × (List (Int × Int × Int × Int × Unit)) × (List (Int × Int × Int × Unit)) × Unit → Option (Bool × Unit) := fun x => laws_eqServer.T x.1 x.2.1 x.2.2.1 x.2.2.2.1 x.2.2.2.2.1 x.2.2.2.2.2.1 x.2.2.2.2.2.2.1 x.2.2.2.2.2.2.2.1 x.2.2.2.2.2.2.2.2.1 x.2.2.2.2.2.2.2.2.2.1 x.2.2.2.2.2.2.2.2.2.2.1 x.2.2.2.2.2.2.2.2.2.2.2.1 x.2.2.2.2.2.2.2.2.2.2.2.2.1 x.2.2.2.2.2.2.2.2.2.2.2.2.2.1
theorem laws_eqServer.tblOK : ∀ g fs S, laws_eqServer.tbl g fs = some S → SumOK Try.prog g S := by
  intro g fs S h
  unfold laws_eqServer.tbl at h
  split at h
  · rename_i hc; obtain ⟨rfl, rfl⟩ := hc; have := Option.some.inj h; subst this; exact ok_laws_eqFarm
  split at h
  · rename_i hc; obtain ⟨rfl, rfl⟩ := hc; have := Option.some.inj h; subst this; exact ok_laws_eqLeaseS
  cases h
theorem ok_laws_eqServer : SumOK Try.prog 43 ⟨ins_laws_eqServer, outs_laws_eqServer, F_laws_eqServer⟩ := runFn_ok (by kernel_rfl) laws_eqServer.tblOK (by kernel_rfl) fun x y h => ⟨laws_eqServer.cfg, 0, (laws_eqServer.top 0 x.1 x.2.1 x.2.2.1 x.2.2.2.1 x.2.2.2.2.1 x.2.2.2.2.2.1 x.2.2.2.2.2.2.1 x.2.2.2.2.2.2.2.1 x.2.2.2.2.2.2.2.2.1 x.2.2.2.2.2.2.2.2.2.1 x.2.2.2.2.2.2.2.2.2.2.1 x.2.2.2.2.2.2.2.2.2.2.2.1 x.2.2.2.2.2.2.2.2.2.2.2.2.1 x.2.2.2.2.2.2.2.2.2.2.2.2.2.1).trans h⟩
abbrev ins_laws_eqClient : List Par := [.v true ct5, .v true ct5]
abbrev outs_laws_eqClient : List (Bool × List CT) := [(false, [CT.bool])]
/-! ### loop.example/g00095/laws.eqClient (function 44) -/
noncomputable def laws_eqClient.tbl : Tbl := fun g fs => none
noncomputable def laws_eqClient.body : Code := ((Try.prog.funcs[44]?).bind (·.body)).getD .skip
def laws_eqClient.cfg : Nat → List Nat × List Nat := fun k => ([], [])
noncomputable def laws_eqClient.T  (a0 : Int) (a1 : Int) (a2 : Int) (a3 : Int) (a4 : Int) (a5 : Int) (a6 : Int) (a7 : Int) (a8 : Int) (a9 : Int) (b0 : Int) (b1 : Int) (b2 : Int) (b3 : Int) (b4 : Int) (b5 : Int) (b6 : Int) (b7 : Int) (b8 : Int) (b9 : Int) : Option (Bool × Unit) := cond (a0 != b0) (some (false, ())) (cond (a1 != b1) (some (false, ())) (cond (a2 != b2) (some (false, ())) (cond (a3 != b3) (some (false, ())) (cond (a4 != b4) (some (false, ())) (cond (a5 != b5) (some (false, ())) (cond (a6 != b6) (some (false, ())) (cond (a7 != b7) (some (false, ())) (cond (a8 != b8) (some (false, ())) (cond (a9 != b9) (some (false, ())) (some (true, ())))))))))))
theorem laws_eqClient.top (k0 : Nat) (a0 : Int) (a1 : Int) (a2 : Int) (a3 : Int) (a4 : Int) (a5 : Int) (a6 : Int) (a7 : Int) (a8 : Int) (a9 : Int) (b0 : Int) (b1 : Int) (b2 : Int) (b3 : Int) (b4 : Int) (b5 : Int) (b6 : Int) (b7 : Int) (b8 : Int) (b9 : Int) : runFn Try.prog laws_eqClient.tbl laws_eqClient.cfg k0 44 ins_laws_eqClient outs_laws_eqClient (a0, a1, a2, a3, a4, a5, a6, a7, a8, a9, b0, b1, b2, b3, b4, b5, b6, b7, b8, b9, ()) = laws_eqClient.T  a0 a1 a2 a3 a4 a5 a6 a7 a8 a9 b0 b1 b2 b3 b4 b5 b6 b7 b8 b9 := by kernel_rfl
noncomputable def F_laws_eqClient : Int × Int × Int × Int × Int × Int × Int × Int × Int × Int × Int × Int × Int × Int × Int × Int × Int × Int × Int × Int × Unit → Option (Bool × Unit) := fun x => laws_eqClient.T x.1 x.2.1 x.2.2.1 x.2.2.2.1 x.2.2.2.2.1 x.2.2.2.2.2.1 x.2.2.2.2.2.2.1 x.2.2.2.2.2.2.2.1 x.2.2.2.2.2.2.2.2.1 x.2.2.2.2.2.2.2.2.2.1 x.2.2.2.2.2.2.2.2.2.2.1 x.2.2.2.2.2.2.2.2.2.2.2.1 x.2.2.2.2.2.2.2.2.2.2.2.2.1 x.2.2.2.2.2.2.2.2.2.2.2.2.2.1 x.2.2.2.2.2.2.2.2.2.2.2.2.2.2.1 x.2.2.2.2.2.2.2.2.2.2.2.2.2.2.2.1 x.2.2.2.2.2.2.2.2.2.2.2.2.2.2.2.2.1 x.2.2.2.2.2.2.2.2.2.2.2.2.2.2.2.2.2.1 x.2.2.2.2.2.2.2.2.2.2.2.2.2.2.2.2.2.2.1 x.2.2.2.2.2.2.2.2.2.2.2.2.2.2.2.2.2.2.2.1
theorem laws_eqClient.tblOK : ∀ g fs S, laws_eqClient.tbl g fs = some S → SumOK Try.prog g S := by
  intro g fs S h
  unfold laws_eqClient.tbl at h
  cases h
theorem ok_laws_eqClient : SumOK Try.prog 44 ⟨ins_laws_eqClient, outs_laws_eqClient, F_laws_eqClient⟩ := runFn_ok (by kernel_rfl) laws_eqClient.tblOK (by kernel_rfl) fun x y h => ⟨laws_eqClient.cfg, 0, (laws_eqClient.top 0 x.1 x.2.1 x.2.2.1 x.2.2.2.1 x.2.2.2.2.1 x.2.2.2.2.2.1 x.2.2.2.2.2.2.1 x.2.2.2.2.2.2.2.1 x.2.2.2.2.2.2.2.2.1 x.2.2.2.2.2.2.2.2.2.1 x.2.2.2.2.2.2.2.2.2.2.1 x.2.2.2.2.2.2.2.2.2.2.2.1 x.2.2.2.2.2.2.2.2.2.2.2.2.1 x.2.2.2.2.2.2.2.2.2.2.2.2.2.1 x.2.2.2.2.2.2.2.2.2.2.2.2.2.2.1 x.2.2.2.2.2.2.2.2.2.2.2.2.2.2.2.1 x.2.2.2.2.2.2.2.2.2.2.2.2.2.2.2.2.1 x.2.2.2.2.2.2.2.2.2.2.2.2.2.2.2.2.2.1 x.2.2.2.2.2.2.2.2.2.2.2.2.2.2.2.2.2.2.1 x.2.2.2.2.2.2.2.2.2.2.2.2.2.2.2.2.2.2.2.1).trans h⟩
abbrev ins_laws_eqRelay : List Par := [.v true ct2, .v true ct2]
abbrev outs_laws_eqRelay : List (Bool × List CT) := [(false, [CT.bool])]
/-! ### loop.example/g00095/laws.eqRelay (function 16) -/
noncomputable def laws_eqRelay.tbl : Tbl := fun g fs => if g = 43 ∧ fs = [] then some ⟨ins_laws_eqServer, outs_laws_eqServer, F_laws_eqServer⟩ else if g = 44 ∧ fs = [] then some ⟨ins_laws_eqClient, outs_laws_eqClient, F_laws_eqClient⟩ else none
noncomputable def laws_eqRelay.body : Code := ((Try.prog.funcs[16]?).bind (·.body)).getD .skip
def laws_eqRelay.cfg : Nat → List Nat × List Nat := fun k => ([], [])
noncomputable def laws_eqRelay.T  (a0 : Int) (a1 : Int) (a2 : Int) (a3 : Int) (a4 : List (Int × Int × Int × Int × Unit)) (a5 : List (Int × Int × Int × Int × Unit)) (a6 : List (Int × Int × Int × Unit)) (a7 : Int) (a8 : Int) (a9 : Int) (a10 : Int) (a11 : Int) (a12 : Int) (a13 : Int) (a14 : Int) (a15 : Int) (a16 : Int) (b0 : Int) (b1 : Int) (b2 : Int) (b3 : Int) (b4 : List (Int × Int × Int × Int × Unit)) (b5 : List (Int × Int × Int × Int × Unit)) (b6 : List (Int × Int × Int × Unit)) (b7 : Int) (b8 : Int) (b9 : Int) (b10 : Int) (b11 : Int) (b12 : Int) (b13 : Int) (b14 : Int) (b15 : Int) (b16 : Int) : Option (Bool × Unit) := (F_laws_eqServer (a0, a1, a2, a3, a4, a5, a6, b0, b1, b2, b3, b4, b5, b6, ())).bind fun y1 => cond (!y1.1) (some (false, ())) ((F_laws_eqClient (a7, a8, a9, a10, a11, a12, a13, a14, a15, a16, b7, b8, b9, b10, b11, b12, b13, b14, b15, b16, ())).bind fun y2 => cond (!y2.1) (some (false, ())) (some (true, ())))
theorem laws_eqRelay.top (k0 : Nat) (a0 : Int) (a1 : Int) (a2 : Int) (a3 : Int) (a4 : List (Int × Int × Int × Int × Unit)) (a5 : List (Int × Int × Int × Int × Unit)) (a6 : List (Int × Int × Int × Unit)) (a7 : Int) (a8 : Int) (a9 : Int) (a10 : Int) (a11 : Int) (a12 : Int) (a13 : Int) (a14 : Int) (a15 : Int) (a16 : Int) (b0 : Int) (b1 : Int) (b2 : Int) (b3 : Int) (b4 : List (Int × Int × Int × Int × Unit)) (b5 : List (Int × Int × Int × Int × Unit)) (b6 : List (Int × Int × Int × Unit)) (b7 : Int) (b8 : Int) (b9 : Int) (b10 : Int) (b11 : Int) (b12 : Int) (b13 : Int) (b14 : Int) (b15 : Int) (b16 : Int) : runFn Try.prog laws_eqRelay.tbl laws_eqRelay.cfg k0 16 ins_laws_eqRelay outs_laws_eqRelay (a0, a1, a2, a3, a4, a5, a6, a7, a8, a9, a10, a11, a12, a13, a14, a15, a16, b0, b1, b2, b3, b4, b5, b6, b7, b8, b9, b10, b11, b12, b13, b14, b15, b16, ()) = laws_eqRelay.T  a0 a1 a2 a3 a4 a5 a6 a7 a8 a9 a10 a11 a12 a13 a14 a15 a16 b0 b1 b2 b3 b4 b5 b6 b7 b8 b9 b10 b11 b12 b13 b14 b15 b16 := by kernel_rfl
noncomputable def F_laws_eqRelay : Int × Int × Int × Int × (List (Int × Int × Int × Int × Unit)) × (List (Int × Int × Int × Int × Unit)) × (List (Int × Int × Int × Unit)) × Int × Int × Int × Int × Int × Int × Int × Int × Int × Int × Int × Int × Int × Int × (List (Int × Int × Int × Int × Unit)) × (List (Int × Int × Int × Int × Unit)) × (List (Int × Int × Int × Unit)) × Int × Int × Int × Int × Int × Int × Int × Int × Int × Int × Unit → Option (Bool × Unit) := fun x => laws_eqRelay.T x.1 x.2.1 x.2.2.1 x.2.2.2.1 x.2.2.2.2.1 x.2.2.2.2.2.1 x.2.2.2.2.2.2.1 x.2.2.2.2.2.2.2.1 x.2.2.2.2.2.2.2.2.1 x.2.2.2.2.2.2.2.2.2.1 x.2.2.2.2.2.2.2.2.2.2.1 x.2.2.2.2.2.2.2.2.2.2.2.1 x.2.2.2.2.2.2.2.2.2.2.2.2.1 x.2.2.2.2.2.2.2.2.2.2.2.2.2.1 x.2.2.2.2.2.2.2.2.2.2.2.2.2.2.1 x.2.2.2.2.2.2.2.2.2.2.2.2.2.2.2.1 x.2.2.2.2.2.2.2.2.2.2.2.2.2.2.2.2.1 x.2.2.2.2.2.2.2.2.2.2.2.2.2.2.2.2.2.1 x.2.2.2.2.2.2.2.2.2.2.2.2.2.2.2.2.2.2.1 x.2.2.2.2.2.2.2.2.2.2.2.2.2.2.2.2.2.2.2.1 x.2.2.2.2.2.2.2.2.2.2.2.2.2.2.2.2.2.2.2.2.1 x.2.2.2.2.2.2.2.2.2.2.2.2.2.2.2.2.2.2.2.2.2.1 x.2.2.2.2.2.2.2.2.2.2.2.2.2.2.2.2.2.2.2.2.2.2.1 x.2.2.2.2.2.2.2.2.2.2.2.2.2.2.2.2.2.2.2.2.2.2.2.1 x.2.2.2.2.2.2.2.2.2.2.2.2.2.2.2.2.2.2.2.2.2.2.2.2.1 x.2.2.2.2.2.2.2.2.2.2.2.2.2.2.2.2.2.2.2.2.2.2.2.2.2.1 x.2.2.2.2.2.2.2.2.2.2.2.2.2.2.2.2.2.2.2.2.2.2.2.2.2.2.1 x.2.2.2.2.2.2.2.2.2.2.2.2.2.2.2.2.2.2.2.2.2.2.2.2.2.2.2.1 x.2.2.2.2.2.2.2.2.2.2.2.2.2.2.2.2.2.2.2.2.2.2.2.2.2.2.2.2.1 x.2.2.2.2.2.2.2.2.2.2.2.2.2.2.2.2.2.2.2.2.2.2.2.2.2.2.2.2.2.1 x.2.2.2.2.2.2.2.2.2.2.2.2.2.2.2.2.2.2.2.2.2.2.2.2.2.2.2.2.2.2.1 x.2.2.2.2.2.2.2.2.2.2.2.2.2.2.2.2.2.2.2.2.2.2.2.2.2.2.2.2.2.2.2.1 x.2.2.2.2.2.2.2.2.2.2.2.2.2.2.2.2.2.2.2.2.2.2.2.2.2.2.2.2.2.2.2.2.1 x.2.2.2.2.2.2.2.2.2.2.2.2.2.2.2.2.2.2.2.2.2.2.2.2.2.2.2.2.2.2.2.2.2.1
theorem laws_eqRelay.tblOK : ∀ g fs S, laws_eqRelay.tbl g fs = some S → SumOK Try.prog g S := by
  intro g fs S h
  unfold laws_eqRelay.tbl at h
  split at h
  · rename_i hc; obtain ⟨rfl, rfl⟩ := hc; have := Option.some.inj h; subst this; exact ok_laws_eqServer
  split at h
  · rename_i hc; obtain ⟨rfl, rfl⟩ := hc; have := Option.some.inj h; subst this; exact ok_laws_eqClient
  cases h
theorem ok_laws_eqRelay : SumOK Try.prog 16 ⟨ins_laws_eqRelay, outs_laws_eqRelay, F_laws_eqRelay⟩ := runFn_ok (by kernel_rfl) laws_eqRelay.tblOK (by kernel_rfl) fun x y h => ⟨laws_eqRelay.cfg, 0, (laws_eqRelay.top 0 x.1 x.2.1 x.2.2.1 x.2.2.2.1 x.2.2.2.2.1 x.2.2.2.2.2.1 x.2.2.2.2.2.2.1 x.2.2.2.2.2.2.2.1 x.2.2.2.2.2.2.2.2.1 x.2.2.2.2.2.2.2.2.2.1 x.2.2.2.2.2.2.2.2.2.2.1 x.2.2.2.2.2.2.2.2.2.2.2.1 x.2.2.2.2.2.2.2.2.2.2.2.2.1 x.2.2.2.2.2.2.2.2.2.2.2.2.2.1 x.2.2.2.2.2.2.2.2.2.2.2.2.2.2.1 x.2.2.2.2.2.2.2.2.2.2.2.2.2.2.2.1 x.2.2.2.2.2.2.2.2.2.2.2.2.2.2.2.2.1 x.2.2.2.2.2.2.2.2.2.2.2.2.2.2.2.2.2.1 x.2.2.2.2.2.2.2.2.2.2.2.2.2.2.2.2.2.2.1 x.2.2.2.2.2.2.2.2.2.2.2.2.2.2.2.2.2.2.2.1 x.2.2.2.2.2.2.2.2.2.2.2.2.2.2.2.2.2.2.2.2.1 x.2.2.2.2.2.2.2.2.2.2.2.2.2.2.2.2.2.2.2.2.2.1 x.2.2.2.2.2.2.2.2.2.2.2.2.2.2.2.2.2.2.2.2.2.2.1 x.2.2.2.2.2.2.2.2.2.2.2.2.2.2.2.2.2.2.2.2.2.2.2.1 x.2.2.2.2.2.2.2.2.2.2.2.2.2.2.2.2.2.2.2.2.2.2.2.2.1 x.2.2.2.2.2.2.2.2.2.2.2.2.2.2.2.2.2.2.2.2.2.2.2.2.2.1 x.2.2.2.2.2.2.2.2.2.2.2.2.2.2.2.2.2.2.2.2.2.2.2.2.2.2.1 x.2.2.2.2.2.2.2.2.2.2.2.2.2.2.2.2.2.2.2.2.2.2.2.2.2.2.2.1 x.2.2.2.2.2.2.2.2.2.2.2.2.2.2.2.2.2.2.2.2.2.2.2.2.2.2.2.2.1 x.2.2.2.2.2.2.2.2.2.2.2.2.2.2.2.2.2.2.2.2.2.2.2.2.2.2.2.2.2.1 x.2.2.2.2.2.2.2.2.2.2.2.2.2.2.2.2.2.2.2.2.2.2.2.2.2.2.2.2.2.2.1 x.2.2.2.2.2.2.2.2.2.2.2.2.2.2.2.2.2.2.2.2.2.2.2.2.2.2.2.2.2.2.2.1 x.2.2.2.2.2.2.2.2.2.2.2.2.2.2.2.2.2.2.2.2.2.2.2.2.2.2.2.2.2.2.2.2.1 x.2.2.2.2.2.2.2.2.2.2.2.2.2.2.2.2.2.2.2.2.2.2.2.2.2.2.2.2.2.2.2.2.2.1).trans h⟩
abbrev ins_spec_l05Group : List Par := [.v true ct4, .v false [CT.int .i64]]
abbrev outs_spec_l05Group : List (Bool × List CT) := [(false, [CT.int .i64])]
/-! ### loop.example/g00095/spec.l05Group (function 27) -/
noncomputable def spec_l05Group.tbl : Tbl := fun g fs => none
noncomputable def spec_l05Group.body : Code := ((Try.prog.funcs[27]?).bind (·.body)).getD .skip
def spec_l05Group.cfg : Nat → List Nat × List Nat := fun k => if k = 2 then ([1, 2, 5], [4]) else ([], [])
noncomputable def spec_l05Group.R0 {R : Type} (nx0 : (Int → Int → Int → (List (Int × Int × Int × Int × Unit)) → (List (Int × Int × Int × Int × Unit)) → Option R)) (ex0 : (Int → Option R)) (ex1 : (Unit → Option R)) (id2 : Int) (i : Int) (f : Int) (f3 : List (Int × Int × Int × Int × Unit)) (f4 : List (Int × Int × Int × Int × Unit)) : Option R := cond (decide (i < (f3.length : Int))) (if 0 ≤ i ∧ i < (f3.length : Int) then cond ((rd (0, 0, 0, 0, ()) f3 i).1 == id2) (ex0 i) (nx0 id2 (w64 (i + 1)) f f3 f4) else none) (ex1 ())
noncomputable def spec_l05Group.A0  (f0 : Int) (f1 : List (Int × Int × Int × Int × Unit)) (f2 : List (Int × Int × Int × Int × Unit)) (id : Int) (t4x : Int) : Option (Int × Unit) := some (t4x, ())
noncomputable def spec_l05Group.A1  (f0 : Int) (f1 : List (Int × Int × Int × Int × Unit)) (f2 : List (Int × Int × Int × Int × Unit)) (id : Int) (_u : Unit) : Option (Int × Unit) := some ((-1), ())
noncomputable def spec_l05Group.T (lo0 : (Int → Int → Int → (List (Int × Int × Int × Int × Unit)) → (List (Int × Int × Int × Int × Unit)) → Option (Int × Unit))) (f0 : Int) (f1 : List (Int × Int × Int × Int × Unit)) (f2 : List (Int × Int × Int × Int × Unit)) (id : Int) : Option (Int × Unit) := lo0 id 0 f0 f1 f2
noncomputable def spec_l05Group.st0 {R : Type} (k0 : Nat) : Env → List Ob → Kont R → Option R := fun env ob K => runCode Try.prog spec_l05Group.tbl 22 0 spec_l05Group.cfg k0 (codeAt [1, 0, 1, 0, 0] spec_l05Group.body) env ob K
noncomputable def spec_l05Group.K0 {R : Type} (k0 : Nat) (K : Kont R) : Kont R := blockK 0 (seqK (fun env ob => runCode Try.prog spec_l05Group.tbl 22 0 spec_l05Group.cfg k0 (codeAt [1, 1] spec_l05Group.body) env ob (K)) (K))
noncomputable def spec_l05Group.L0 {R : Type} (k0 k : Nat) (K : Kont R) (id2 : Int) (i : Int) (f : Int) (f3 : List (Int × Int × Int × Int × Unit)) (f4 : List (Int × Int × Int × Int × Unit)) : Option R := iter 0 [1, 2, 5] [4] (spec_l05Group.st0 k0) k [(1, .int .i64 id2), (2, .ptr 0 0 0 0), (5, .int .i64 i)] [.box [.int .i64 f, .sl ct0 f3, .sl ct0 f4]] K
theorem spec_l05Group.s0 {R : Type} (k0 k : Nat) (K : Kont R) (id2 : Int) (i : Int) (f : Int) (f3 : List (Int × Int × Int × Int × Unit)) (f4 : List (Int × Int × Int × Int × Unit)) : spec_l05Group.L0 k0 (k + 1) K id2 i f f3 f4 = spec_l05Group.R0 (fun (id2 : Int) (i : Int) (f : Int) (f3 : List (Int × Int × Int × Int × Unit)) (f4 : List (Int × Int × Int × Int × Unit)) => spec_l05Group.L0 k0 k K id2 i f f3 f4) (fun (t4x : Int) => K .ret [(4, .int .i64 t4x)] []) (fun (_ : Unit) => K (.exit 0) [(4, .undef)] []) id2 i f f3 f4 := by kernel_rfl
theorem spec_l05Group.a0 (k0 : Nat) (f0 : Int) (f1 : List (Int × Int × Int × Int × Unit)) (f2 : List (Int × Int × Int × Int × Unit)) (id : Int) (t4x : Int) : spec_l05Group.K0 (R := (Int × Unit)) k0 (finK Try.prog [.tmp 4] ins_spec_l05Group outs_spec_l05Group (f0, f1, f2, id, ())) .ret [(4, .int .i64 t4x)] [] = spec_l05Group.A0  f0 f1 f2 id t4x := by kernel_rfl
theorem spec_l05Group.a1 (k0 : Nat) (f0 : Int) (f1 : List (Int × Int × Int × Int × Unit)) (f2 : List (Int × Int × Int × Int × Unit)) (id : Int)  : spec_l05Group.K0 (R := (Int × Unit)) k0 (finK Try.prog [.tmp 4] ins_spec_l05Group outs_spec_l05Group (f0, f1, f2, id, ())) (.exit 0) [(4, .undef)] [] = spec_l05Group.A1  f0 f1 f2 id () := by kernel_rfl
theorem spec_l05Group.top (k0 : Nat) (f0 : Int) (f1 : List (Int × Int × Int × Int × Unit)) (f2 : List (Int × Int × Int × Int × Unit)) (id : Int) : runFn Try.prog spec_l05Group.tbl spec_l05Group.cfg k0 27 ins_spec_l05Group outs_spec_l05Group (f0, f1, f2, id, ()) = spec_l05Group.T (fun (id2 : Int) (i : Int) (f : Int) (f3 : List (Int × Int × Int × Int × Unit)) (f4 : List (Int × Int × Int × Int × Unit)) => spec_l05Group.L0 (R := (Int × Unit)) k0 k0 (spec_l05Group.K0 (R := (Int × Unit)) k0 ((finK Try.prog [.tmp 4] ins_spec_l05Group outs_spec_l05Group (f0, f1, f2, id, ())))) id2 i f f3 f4) f0 f1 f2 id := by kernel_rfl
noncomputable def spec_l05Group.G0 {R : Type} (k0 : Nat) (hx0 : (Int → Option R)) (hx1 : (Unit → Option R)) : Nat → Int → Int → Int → (List (Int × Int × Int × Int × Unit)) → (List (Int × Int × Int × Int × Unit)) → Option R
  | 0, _, _, _, _, _ => none
  | k + 1, id2, i, f, f3, f4 => spec_l05Group.R0 (fun (id2 : Int) (i : Int) (f : Int) (f3 : List (Int × Int × Int × Int × Unit)) (f4 : List (Int × Int × Int × Int × Unit)) => spec_l05Group.G0 k0 hx0 hx1 k id2 i f f3 f4) (fun (t4x : Int) => hx0 t4x) (fun (_ : Unit) => hx1 ()) id2 i f f3 f4
theorem spec_l05Group.g0 {R : Type} (k0 : Nat) (K : Kont R) : ∀ (k : Nat) (id2 : Int) (i : Int) (f : Int) (f3 : List (Int × Int × Int × Int × Unit)) (f4 : List (Int × Int × Int × Int × Unit)), spec_l05Group.L0 k0 k K id2 i f f3 f4 = spec_l05Group.G0 k0 (fun (t4x : Int) => K .ret [(4, .int .i64 t4x)] []) (fun (_ : Unit) => K (.exit 0) [(4, .undef)] []) k id2 i f f3 f4 := by
  intro k
  induction k with
  | zero => intros; rfl
  | succ k ih => intros; rw [spec_l05Group.s0, spec_l05Group.G0]; (try simp only [ih]); try rfl
noncomputable def spec_l05Group.FF (k0 : Nat) (f0 : Int) (f1 : List (Int × Int × Int × Int × Unit)) (f2 : List (Int × Int × Int × Int × Unit)) (id : Int) : Option (Int × Unit) := spec_l05Group.T (fun (id2 : Int) (i : Int) (f : Int) (f3 : List (Int × Int × Int × Int × Unit)) (f4 : List (Int × Int × Int × Int × Unit)) => spec_l05Group.G0 k0 (fun (t4x : Int) => spec_l05Group.A0  f0 f1 f2 id t4x) (fun (_ : Unit) => spec_l05Group.A1  f0 f1 f2 id ()) k0 id2 i f f3 f4) f0 f1 f2 id
theorem spec_l05Group.run (k0 : Nat) (f0 : Int) (f1 : List (Int × Int × Int × Int × Unit)) (f2 : List (Int × Int × Int × Int × Unit)) (id : Int) : runFn Try.prog spec_l05Group.tbl spec_l05Group.cfg k0 27 ins_spec_l05Group outs_spec_l05Group (f0, f1, f2, id, ()) = spec_l05Group.FF k0 f0 f1 f2 id := by
  rw [spec_l05Group.top, spec_l05Group.FF]; (try simp only [spec_l05Group.g0, spec_l05Group.a0, spec_l05Group.a1]); try rfl
noncomputable def F_spec_l05Group : Int × (List (Int × Int × Int × Int × Unit)) × (List (Int × Int × Int × Int × Unit)) × Int × Unit → Option (Int × Unit) := fun x => (fun (f0 : Int) (f1 : List (Int × Int × Int × Int × Unit)) (f2 : List (Int × Int × Int × Int × Unit)) (id : Int) => spec_l05Group.FF (300 + f1.length + f2.length) f0 f1 f2 id) x.1 x.2.1 x.2.2.1 x.2.2.2.1
theorem spec_l05Group.tblOK : ∀ g fs S, spec_l05Group.tbl g fs = some S → SumOK Try.prog g S := by
  intro g fs S h
  unfold spec_l05Group.tbl at h
  cases h
theorem ok_spec_l05Group : SumOK Try.prog 27 ⟨ins_spec_l05Group, outs_spec_l05Group, F_spec_l05Group⟩ := runFn_ok (by kernel_rfl) spec_l05Group.tblOK (by kernel_rfl) fun x y h => ⟨spec_l05Group.cfg, _, (spec_l05Group.run _ x.1 x.2.1 x.2.2.1 x.2.2.2.1).trans h⟩
abbrev ins_spec_l02Want : List Par := [.v false [CT.int .i64]]
abbrev outs_spec_l02Want : List (Bool × List CT) := [(false, [CT.bool])]
/-! ### loop.example/g00095/spec.l02Want (function 52) -/
noncomputable def spec_l02Want.tbl : Tbl := fun g fs => none
noncomputable def spec_l02Want.body : Code := ((Try.prog.funcs[52]?).bind (·.body)).getD .skip
def spec_l02Want.cfg : Nat → List Nat × List Nat := fun k => ([], [])
noncomputable def spec_l02Want.T  (n : Int) : Option (Bool × Unit) := cond (decide (n ≥ 0)) (some ((decide (n ≤ 1125899906842624)), ())) (some (false, ()))
theorem spec_l02Want.top (k0 : Nat) (n : Int) : runFn Try.prog spec_l02Want.tbl spec_l02Want.cfg k0 52 ins_spec_l02Want outs_spec_l02Want (n, ()) = spec_l02Want.T  n := by kernel_rfl
noncomputable def F_spec_l02Want : Int × Unit → Option (Bool × Unit) := fun x => spec_l02Want.T x.1
theorem spec_l02Want.tblOK : ∀ g fs S, spec_l02Want.tbl g fs = some S → SumOK Try.prog g S := by
  intro g fs S h
  unfold spec_l02Want.tbl at h
  cases h
theorem ok_spec_l02Want : SumOK Try.prog 52 ⟨ins_spec_l02Want, outs_spec_l02Want, F_spec_l02Want⟩ := runFn_ok (by kernel_rfl) spec_l02Want.tblOK (by kernel_rfl) fun x y h => ⟨spec_l02Want.cfg, 0, (spec_l02Want.top 0 x.1).trans h⟩
abbrev ins_spec_l02Id : List Par := [.v false [CT.int .i64]]
abbrev outs_spec_l02Id : List (Bool × List CT) := [(false, [CT.bool])]
/-! ### loop.example/g00095/spec.l02Id (function 53) -/
noncomputable def spec_l02Id.tbl : Tbl := fun g fs => none
noncomputable def spec_l02Id.body : Code := ((Try.prog.funcs[53]?).bind (·.body)).getD .skip
def spec_l02Id.cfg : Nat → List Nat × List Nat := fun k => ([], [])
noncomputable def spec_l02Id.T  (n : Int) : Option (Bool × Unit) := cond (decide (n ≥ 1)) (some ((decide (n ≤ 1000000)), ())) (some (false, ()))
theorem spec_l02Id.top (k0 : Nat) (n : Int) : runFn Try.prog spec_l02Id.tbl spec_l02Id.cfg k0 53 ins_spec_l02Id outs_spec_l02Id (n, ()) = spec_l02Id.T  n := by kernel_rfl
noncomputable def F_spec_l02Id : Int × Unit → Option (Bool × Unit) := fun x => spec_l02Id.T x.1
theorem spec_l02Id.tblOK : ∀ g fs S, spec_l02Id.tbl g fs = some S → SumOK Try.prog g S := by
  intro g fs S h
  unfold spec_l02Id.tbl at h
  cases h
theorem ok_spec_l02Id : SumOK Try.prog 53 ⟨ins_spec_l02Id, outs_spec_l02Id, F_spec_l02Id⟩ := runFn_ok (by kernel_rfl) spec_l02Id.tblOK (by kernel_rfl) fun x y h => ⟨spec_l02Id.cfg, 0, (spec_l02Id.top 0 x.1).trans h⟩
abbrev ins_spec_l02Weight : List Par := [.v false [CT.int .i64]]
abbrev outs_spec_l02Weight : List (Bool × List CT) := [(false, [CT.bool])]
/-! ### loop.example/g00095/spec.l02Weight (function 54) -/
noncomputable def spec_l02Weight.tbl : Tbl := fun g fs => none
noncomputable def spec_l02Weight.body : Code := ((Try.prog.funcs[54]?).bind (·.body)).getD .skip
def spec_l02Weight.cfg : Nat → List Nat × List Nat := fun k => ([], [])
noncomputable def spec_l02Weight.T  (n : Int) : Option (Bool × Unit) := cond (decide (n ≥ 1)) (some ((decide (n ≤ 1073741824)), ())) (some (false, ()))
theorem spec_l02Weight.top (k0 : Nat) (n : Int) : runFn Try.prog spec_l02Weight.tbl spec_l02Weight.cfg k0 54 ins_spec_l02Weight outs_spec_l02Weight (n, ()) = spec_l02Weight.T  n := by kernel_rfl
noncomputable def F_spec_l02Weight : Int × Unit → Option (Bool × Unit) := fun x => spec_l02Weight.T x.1
theorem spec_l02Weight.tblOK : ∀ g fs S, spec_l02Weight.tbl g fs = some S → SumOK Try.prog g S := by
  intro g fs S h
  unfold spec_l02Weight.tbl at h
  cases h
theorem ok_spec_l02Weight : SumOK Try.prog 54 ⟨ins_spec_l02Weight, outs_spec_l02Weight, F_spec_l02Weight⟩ := runFn_ok (by kernel_rfl) spec_l02Weight.tblOK (by kernel_rfl) fun x y h => ⟨spec_l02Weight.cfg, 0, (spec_l02Weight.top 0 x.1).trans h⟩
abbrev ins_spec_FarmRight : List Par := [.v true ct4]
abbrev outs_spec_FarmRight : List (Bool × List CT) := [(false, [CT.bool])]
/-! ### loop.example/g00095/spec.FarmRight (function 25) -/
noncomputable def spec_FarmRight.tbl : Tbl := fun g fs => if g = 27 ∧ fs = [] then some ⟨ins_spec_l05Group, outs_spec_l05Group, F_spec_l05Group⟩ else if g = 52 ∧ fs = [] then some ⟨ins_spec_l02Want, outs_spec_l02Want, F_spec_l02Want⟩ else if g = 53 ∧ fs = [] then some ⟨ins_spec_l02Id, outs_spec_l02Id, F_spec_l02Id⟩ else if g = 54 ∧ fs = [] then some ⟨ins_spec_l02Weight, outs_spec_l02Weight, F_spec_l02Weight⟩ else none
noncomputable def spec_FarmRight.body : Code := ((Try.prog.funcs[25]?).bind (·.body)).getD .skip
def spec_FarmRight.cfg : Nat → List Nat × List Nat := fun k => if k = 4 then ([1, 3], [1, 2]) else if k = 10 then ([1, 5], [2]) else ([], [])
noncomputable def spec_FarmRight.R0 {R : Type} (nx0 : (Int → Int → (List (Int × Int × Int × Int × Unit)) → (List (Int × Int × Int × Int × Unit)) → Option R)) (ex0 : (Bool → Int → (List (Int × Int × Int × Int × Unit)) → (List (Int × Int × Int × Int × Unit)) → Option R)) (ex1 : (Int → (List (Int × Int × Int × Int × Unit)) → (List (Int × Int × Int × Int × Unit)) → Option R)) (i : Int) (f : Int) (f3 : List (Int × Int × Int × Int × Unit)) (f4 : List (Int × Int × Int × Int × Unit)) : Option R := cond (decide (i < (f3.length : Int))) (if 0 ≤ i ∧ i < (f3.length : Int) then (F_spec_l02Id ((rd (0, 0, 0, 0, ()) f3 i).1, ())).bind fun y1 => cond (!y1.1) (ex0 false f f3 f4) (cond (decide (i > 0)) (if 0 ≤ (w64 (i - 1)) ∧ (w64 (i - 1)) < (f3.length : Int) then cond (decide ((rd (0, 0, 0, 0, ()) f3 i).1 ≤ (rd (0, 0, 0, 0, ()) f3 (w64 (i - 1))).1)) (ex0 false f f3 f4) (cond ((rd (0, 0, 0, 0, ()) f3 i).2.1 != 0) ((F_spec_l05Group (f, f3, f4, (rd (0, 0, 0, 0, ()) f3 i).2.1, ())).bind fun y2 => cond (decide (y2.1 < 0)) (ex0 false f f3 f4) (cond (decide ((rd (0, 0, 0, 0, ()) f3 i).2.1 ≥ (rd (0, 0, 0, 0, ()) f3 i).1)) (ex0 false f f3 f4) ((F_spec_l02Want ((rd (0, 0, 0, 0, ()) f3 i).2.2.1, ())).bind fun y3 => cond (!y3.1) (ex0 false f f3 f4) ((F_spec_l02Weight ((rd (0, 0, 0, 0, ()) f3 i).2.2.2.1, ())).bind fun y4 => cond (!y4.1) (ex0 false f f3 f4) (nx0 (w64 (i + 1)) f f3 f4))))) ((F_spec_l02Want ((rd (0, 0, 0, 0, ()) f3 i).2.2.1, ())).bind fun y5 => cond (!y5.1) (ex0 false f f3 f4) ((F_spec_l02Weight ((rd (0, 0, 0, 0, ()) f3 i).2.2.2.1, ())).bind fun y6 => cond (!y6.1) (ex0 false f f3 f4) (nx0 (w64 (i + 1)) f f3 f4)))) else none) (cond ((rd (0, 0, 0, 0, ()) f3 i).2.1 != 0) ((F_spec_l05Group (f, f3, f4, (rd (0, 0, 0, 0, ()) f3 i).2.1, ())).bind fun y7 => cond (decide (y7.1 < 0)) (ex0 false f f3 f4) (cond (decide ((rd (0, 0, 0, 0, ()) f3 i).2.1 ≥ (rd (0, 0, 0, 0, ()) f3 i).1)) (ex0 false f f3 f4) ((F_spec_l02Want ((rd (0, 0, 0, 0, ()) f3 i).2.2.1, ())).bind fun y8 => cond (!y8.1) (ex0 false f f3 f4) ((F_spec_l02Weight ((rd (0, 0, 0, 0, ()) f3 i).2.2.2.1, ())).bind fun y9 => cond (!y9.1) (ex0 false f f3 f4) (nx0 (w64 (i + 1)) f f3 f4))))) ((F_spec_l02Want ((rd (0, 0, 0, 0, ()) f3 i).2.2.1, ())).bind fun y10 => cond (!y10.1) (ex0 false f f3 f4) ((F_spec_l02Weight ((rd (0, 0, 0, 0, ()) f3 i).2.2.2.1, ())).bind fun y11 => cond (!y11.1) (ex0 false f f3 f4) (nx0 (w64 (i + 1)) f f3 f4))))) else none) (ex1 f f3 f4)
noncomputable def spec_FarmRight.R1 {R : Type} (nx1 : (Int → Int → (List (Int × Int × Int × Int × Unit)) → (List (Int × Int × Int × Int × Unit)) → Option R)) (ex2 : (Bool → Option R)) (ex3 : (Unit → Option R)) (i : Int) (f : Int) (f3 : List (Int × Int × Int × Int × Unit)) (f4 : List (Int × Int × Int × Int × Unit)) : Option R := cond (decide (i < (f4.length : Int))) (if 0 ≤ i ∧ i < (f4.length : Int) then (F_spec_l02Id ((rd (0, 0, 0, 0, ()) f4 i).1, ())).bind fun y1 => cond (!y1.1) (ex2 false) (cond (decide (i > 0)) (if 0 ≤ (w64 (i - 1)) ∧ (w64 (i - 1)) < (f4.length : Int) then cond (decide ((rd (0, 0, 0, 0, ()) f4 i).1 ≤ (rd (0, 0, 0, 0, ()) f4 (w64 (i - 1))).1)) (ex2 false) (cond ((rd (0, 0, 0, 0, ()) f4 i).2.1 != 0) ((F_spec_l05Group (f, f3, f4, (rd (0, 0, 0, 0, ()) f4 i).2.1, ())).bind fun y2 => cond (decide (y2.1 < 0)) (ex2 false) ((F_spec_l02Want ((rd (0, 0, 0, 0, ()) f4 i).2.2.1, ())).bind fun y3 => cond (!y3.1) (ex2 false) ((F_spec_l02Weight ((rd (0, 0, 0, 0, ()) f4 i).2.2.2.1, ())).bind fun y4 => cond (!y4.1) (ex2 false) (nx1 (w64 (i + 1)) f f3 f4)))) ((F_spec_l02Want ((rd (0, 0, 0, 0, ()) f4 i).2.2.1, ())).bind fun y5 => cond (!y5.1) (ex2 false) ((F_spec_l02Weight ((rd (0, 0, 0, 0, ()) f4 i).2.2.2.1, ())).bind fun y6 => cond (!y6.1) (ex2 false) (nx1 (w64 (i + 1)) f f3 f4)))) else none) (cond ((rd (0, 0, 0, 0, ()) f4 i).2.1 != 0) ((F_spec_l05Group (f, f3, f4, (rd (0, 0, 0, 0, ()) f4 i).2.1, ())).bind fun y7 => cond (decide (y7.1 < 0)) (ex2 false) ((F_spec_l02Want ((rd (0, 0, 0, 0, ()) f4 i).2.2.1, ())).bind fun y8 => cond (!y8.1) (ex2 false) ((F_spec_l02Weight ((rd (0, 0, 0, 0, ()) f4 i).2.2.2.1, ())).bind fun y9 => cond (!y9.1) (ex2 false) (nx1 (w64 (i + 1)) f f3 f4)))) ((F_spec_l02Want ((rd (0, 0, 0, 0, ()) f4 i).2.2.1, ())).bind fun y10 => cond (!y10.1) (ex2 false) ((F_spec_l02Weight ((rd (0, 0, 0, 0, ()) f4 i).2.2.2.1, ())).bind fun y11 => cond (!y11.1) (ex2 false) (nx1 (w64 (i + 1)) f f3 f4))))) else none) (ex3 ())
noncomputable def spec_FarmRight.A0  (f0 : Int) (f1 : List (Int × Int × Int × Int × Unit)) (f2 : List (Int × Int × Int × Int × Unit)) (t2x : Bool) (f : Int) (f3 : List (Int × Int × Int × Int × Unit)) (f4 : List (Int × Int × Int × Int × Unit)) : Option (Bool × Unit) := some (t2x, ())
noncomputable def spec_FarmRight.A1 (lo1 : (Int → Int → (List (Int × Int × Int × Int × Unit)) → (List (Int × Int × Int × Int × Unit)) → Option (Bool × Unit))) (f0 : Int) (f1 : List (Int × Int × Int × Int × Unit)) (f2 : List (Int × Int × Int × Int × Unit)) (f : Int) (f3 : List (Int × Int × Int × Int × Unit)) (f4 : List (Int × Int × Int × Int × Unit)) : Option (Bool × Unit) := lo1 0 f f3 f4
noncomputable def spec_FarmRight.A2  (f0 : Int) (f1 : List (Int × Int × Int × Int × Unit)) (f2 : List (Int × Int × Int × Int × Unit)) (t2x : Bool) : Option (Bool × Unit) := some (t2x, ())
noncomputable def spec_FarmRight.A3  (f0 : Int) (f1 : List (Int × Int × Int × Int × Unit)) (f2 : List (Int × Int × Int × Int × Unit)) (_u : Unit) : Option (Bool × Unit) := some (true, ())
noncomputable def spec_FarmRight.T (lo0 : (Int → Int → (List (Int × Int × Int × Int × Unit)) → (List (Int × Int × Int × Int × Unit)) → Option (Bool × Unit))) (f0 : Int) (f1 : List (Int × Int × Int × Int × Unit)) (f2 : List (Int × Int × Int × Int × Unit)) : Option (Bool × Unit) := (F_spec_l02Want (f0, ())).bind fun y1 => cond (!y1.1) (some (false, ())) (cond (decide ((f1.length : Int) > 30)) (some (false, ())) (cond (decide ((f2.length : Int) > 60)) (some (false, ())) (lo0 0 f0 f1 f2)))
noncomputable def spec_FarmRight.st0 {R : Type} (k0 : Nat) : Env → List Ob → Kont R → Option R := fun env ob K => runCode Try.prog spec_FarmRight.tbl 142 0 spec_FarmRight.cfg k0 (codeAt [1, 1, 0, 1, 0, 0] spec_FarmRight.body) env ob K
noncomputable def spec_FarmRight.K0 {R : Type} (k0 : Nat) (K : Kont R) : Kont R := blockK 0 (seqK (fun env ob => runCode Try.prog spec_FarmRight.tbl 142 0 spec_FarmRight.cfg k0 (codeAt [1, 1, 1] spec_FarmRight.body) env ob (K)) (K))
noncomputable def spec_FarmRight.st1 {R : Type} (k0 : Nat) : Env → List Ob → Kont R → Option R := fun env ob K => runCode Try.prog spec_FarmRight.tbl 142 0 spec_FarmRight.cfg k0 (codeAt [1, 1, 1, 0, 1, 0, 0] spec_FarmRight.body) env ob K
noncomputable def spec_FarmRight.K1 {R : Type} (k0 : Nat) (K : Kont R) : Kont R := blockK 2 (seqK (fun env ob => runCode Try.prog spec_FarmRight.tbl 142 0 spec_FarmRight.cfg k0 (codeAt [1, 1, 1, 1] spec_FarmRight.body) env ob (K)) (K))
noncomputable def spec_FarmRight.L0 {R : Type} (k0 k : Nat) (K : Kont R) (i : Int) (f : Int) (f3 : List (Int × Int × Int × Int × Unit)) (f4 : List (Int × Int × Int × Int × Unit)) : Option R := iter 0 [1, 3] [1, 2] (spec_FarmRight.st0 k0) k [(1, .ptr 0 0 0 0), (3, .int .i64 i)] [.box [.int .i64 f, .sl ct0 f3, .sl ct0 f4]] K
noncomputable def spec_FarmRight.L1 {R : Type} (k0 k : Nat) (K : Kont R) (i : Int) (f : Int) (f3 : List (Int × Int × Int × Int × Unit)) (f4 : List (Int × Int × Int × Int × Unit)) : Option R := iter 0 [1, 5] [2] (spec_FarmRight.st1 k0) k [(1, .ptr 0 0 0 0), (5, .int .i64 i)] [.box [.int .i64 f, .sl ct0 f3, .sl ct0 f4]] K
theorem spec_FarmRight.s0 {R : Type} (k0 k : Nat) (K : Kont R) (i : Int) (f : Int) (f3 : List (Int × Int × Int × Int × Unit)) (f4 : List (Int × Int × Int × Int × Unit)) : spec_FarmRight.L0 k0 (k + 1) K i f f3 f4 = spec_FarmRight.R0 (fun (i : Int) (f : Int) (f3 : List (Int × Int × Int × Int × Unit)) (f4 : List (Int × Int × Int × Int × Unit)) => spec_FarmRight.L0 k0 k K i f f3 f4) (fun (t2x : Bool) (f : Int) (f3 : List (Int × Int × Int × Int × Unit)) (f4 : List (Int × Int × Int × Int × Unit)) => K .ret [(1, .ptr 0 0 0 0), (2, .bool t2x)] [.box [.int .i64 f, .sl ct0 f3, .sl ct0 f4]]) (fun (f : Int) (f3 : List (Int × Int × Int × Int × Unit)) (f4 : List (Int × Int × Int × Int × Unit)) => K (.exit 0) [(1, .ptr 0 0 0 0), (2, .undef)] [.box [.int .i64 f, .sl ct0 f3, .sl ct0 f4]]) i f f3 f4 := by kernel_rfl
theorem spec_FarmRight.s1 {R : Type} (k0 k : Nat) (K : Kont R) (i : Int) (f : Int) (f3 : List (Int × Int × Int × Int × Unit)) (f4 : List (Int × Int × Int × Int × Unit)) : spec_FarmRight.L1 k0 (k + 1) K i f f3 f4 = spec_FarmRight.R1 (fun (i : Int) (f : Int) (f3 : List (Int × Int × Int × Int × Unit)) (f4 : List (Int × Int × Int × Int × Unit)) => spec_FarmRight.L1 k0 k K i f f3 f4) (fun (t2x : Bool) => K .ret [(2, .bool t2x)] []) (fun (_ : Unit) => K (.exit 2) [(2, .undef)] []) i f f3 f4 := by kernel_rfl
theorem spec_FarmRight.a0 (k0 : Nat) (f0 : Int) (f1 : List (Int × Int × Int × Int × Unit)) (f2 : List (Int × Int × Int × Int × Unit)) (t2x : Bool) (f : Int) (f3 : List (Int × Int × Int × Int × Unit)) (f4 : List (Int × Int × Int × Int × Unit)) : spec_FarmRight.K0 (R := (Bool × Unit)) k0 (finK Try.prog [.tmp 2] ins_spec_FarmRight outs_spec_FarmRight (f0, f1, f2, ())) .ret [(1, .ptr 0 0 0 0), (2, .bool t2x)] [.box [.int .i64 f, .sl ct0 f3, .sl ct0 f4]] = spec_FarmRight.A0  f0 f1 f2 t2x f f3 f4 := by kernel_rfl
theorem spec_FarmRight.a1 (k0 : Nat) (f0 : Int) (f1 : List (Int × Int × Int × Int × Unit)) (f2 : List (Int × Int × Int × Int × Unit)) (f : Int) (f3 : List (Int × Int × Int × Int × Unit)) (f4 : List (Int × Int × Int × Int × Unit)) : spec_FarmRight.K0 (R := (Bool × Unit)) k0 (finK Try.prog [.tmp 2] ins_spec_FarmRight outs_spec_FarmRight (f0, f1, f2, ())) (.exit 0) [(1, .ptr 0 0 0 0), (2, .undef)] [.box [.int .i64 f, .sl ct0 f3, .sl ct0 f4]] = spec_FarmRight.A1 (fun (i : Int) (f : Int) (f3 : List (Int × Int × Int × Int × Unit)) (f4 : List (Int × Int × Int × Int × Unit)) => spec_FarmRight.L1 (R := (Bool × Unit)) k0 k0 (spec_FarmRight.K1 (R := (Bool × Unit)) k0 ((finK Try.prog [.tmp 2] ins_spec_FarmRight outs_spec_FarmRight (f0, f1, f2, ())))) i f f3 f4) f0 f1 f2 f f3 f4 := by kernel_rfl
theorem spec_FarmRight.a2 (k0 : Nat) (f0 : Int) (f1 : List (Int × Int × Int × Int × Unit)) (f2 : List (Int × Int × Int × Int × Unit)) (t2x : Bool) : spec_FarmRight.K1 (R := (Bool × Unit)) k0 (finK Try.prog [.tmp 2] ins_spec_FarmRight outs_spec_FarmRight (f0, f1, f2, ())) .ret [(2, .bool t2x)] [] = spec_FarmRight.A2  f0 f1 f2 t2x := by kernel_rfl
theorem spec_FarmRight.a3 (k0 : Nat) (f0 : Int) (f1 : List (Int × Int × Int × Int × Unit)) (f2 : List (Int × Int × Int × Int × Unit))  : spec_FarmRight.K1 (R := (Bool × Unit)) k0 (finK Try.prog [.tmp 2] ins_spec_FarmRight outs_spec_FarmRight (f0, f1, f2, ())) (.exit 2) [(2, .undef)] [] = spec_FarmRight.A3  f0 f1 f2 () := by kernel_rfl
theorem spec_FarmRight.top (k0 : Nat) (f0 : Int) (f1 : List (Int × Int × Int × Int × Unit)) (f2 : List (Int × Int × Int × Int × Unit)) : runFn Try.prog spec_FarmRight.tbl spec_FarmRight.cfg k0 25 ins_spec_FarmRight outs_spec_FarmRight (f0, f1, f2, ()) = spec_FarmRight.T (fun (i : Int) (f : Int) (f3 : List (Int × Int × Int × Int × Unit)) (f4 : List (Int × Int × Int × Int × Unit)) => spec_FarmRight.L0 (R := (Bool × Unit)) k0 k0 (spec_FarmRight.K0 (R := (Bool × Unit)) k0 ((finK Try.prog [.tmp 2] ins_spec_FarmRight outs_spec_FarmRight (f0, f1, f2, ())))) i f f3 f4) f0 f1 f2 := by kernel_rfl
noncomputable def spec_FarmRight.G0 {R : Type} (k0 : Nat) (hx0 : (Bool → Int → (List (Int × Int × Int × Int × Unit)) → (List (Int × Int × Int × Int × Unit)) → Option R)) (hx1 : (Int → (List (Int × Int × Int × Int × Unit)) → (List (Int × Int × Int × Int × Unit)) → Option R)) : Nat → Int → Int → (List (Int × Int × Int × Int × Unit)) → (List (Int × Int × Int × Int × Unit)) → Option R
  | 0, _, _, _, _ => none
  | k + 1, i, f, f3, f4 => spec_FarmRight.R0 (fun (i : Int) (f : Int) (f3 : List (Int × Int × Int × Int × Unit)) (f4 : List (Int × Int × Int × Int × Unit)) => spec_FarmRight.G0 k0 hx0 hx1 k i f f3 f4) (fun (t2x : Bool) (f : Int) (f3 : List (Int × Int × Int × Int × Unit)) (f4 : List (Int × Int × Int × Int × Unit)) => hx0 t2x f f3 f4) (fun (f : Int) (f3 : List (Int × Int × Int × Int × Unit)) (f4 : List (Int × Int × Int × Int × Unit)) => hx1 f f3 f4) i f f3 f4
theorem spec_FarmRight.g0 {R : Type} (k0 : Nat) (K : Kont R) : ∀ (k : Nat) (i : Int) (f : Int) (f3 : List (Int × Int × Int × Int × Unit)) (f4 : List (Int × Int × Int × Int × Unit)), spec_FarmRight.L0 k0 k K i f f3 f4 = spec_FarmRight.G0 k0 (fun (t2x : Bool) (f : Int) (f3 : List (Int × Int × Int × Int × Unit)) (f4 : List (Int × Int × Int × Int × Unit)) => K .ret [(1, .ptr 0 0 0 0), (2, .bool t2x)] [.box [.int .i64 f, .sl ct0 f3, .sl ct0 f4]]) (fun (f : Int) (f3 : List (Int × Int × Int × Int × Unit)) (f4 : List (Int × Int × Int × Int × Unit)) => K (.exit 0) [(1, .ptr 0 0 0 0), (2, .undef)] [.box [.int .i64 f, .sl ct0 f3, .sl ct0 f4]]) k i f f3 f4 := by
  intro k
  induction k with
  | zero => intros; rfl
  | succ k ih => intros; rw [spec_FarmRight.s0, spec_FarmRight.G0]; (try simp only [ih]); try rfl
noncomputable def spec_FarmRight.G1 {R : Type} (k0 : Nat) (hx2 : (Bool → Option R)) (hx3 : (Unit → Option R)) : Nat → Int → Int → (List (Int × Int × Int × Int × Unit)) → (List (Int × Int × Int × Int × Unit)) → Option R
  | 0, _, _, _, _ => none
  | k + 1, i, f, f3, f4 => spec_FarmRight.R1 (fun (i : Int) (f : Int) (f3 : List (Int × Int × Int × Int × Unit)) (f4 : List (Int × Int × Int × Int × Unit)) => spec_FarmRight.G1 k0 hx2 hx3 k i f f3 f4) (fun (t2x : Bool) => hx2 t2x) (fun (_ : Unit) => hx3 ()) i f f3 f4
theorem spec_FarmRight.g1 {R : Type} (k0 : Nat) (K : Kont R) : ∀ (k : Nat) (i : Int) (f : Int) (f3 : List (Int × Int × Int × Int × Unit)) (f4 : List (Int × Int × Int × Int × Unit)), spec_FarmRight.L1 k0 k K i f f3 f4 = spec_FarmRight.G1 k0 (fun (t2x : Bool) => K .ret [(2, .bool t2x)] []) (fun (_ : Unit) => K (.exit 2) [(2, .undef)] []) k i f f3 f4 := by
  intro k
  induction k with
  | zero => intros; rfl
  | succ k ih => intros; rw [spec_FarmRight.s1, spec_FarmRight.G1]; (try simp only [ih, spec_FarmRight.g0]); try rfl
noncomputable def spec_FarmRight.FF (k0 : Nat) (f0 : Int) (f1 : List (Int × Int × Int × Int × Unit)) (f2 : List (Int × Int × Int × Int × Unit)) : Option (Bool × Unit) := spec_FarmRight.T (fun (i : Int) (f : Int) (f3 : List (Int × Int × Int × Int × Unit)) (f4 : List (Int × Int × Int × Int × Unit)) => spec_FarmRight.G0 k0 (fun (t2x : Bool) (f : Int) (f3 : List (Int × Int × Int × Int × Unit)) (f4 : List (Int × Int × Int × Int × Unit)) => spec_FarmRight.A0  f0 f1 f2 t2x f f3 f4) (fun (f : Int) (f3 : List (Int × Int × Int × Int × Unit)) (f4 : List (Int × Int × Int × Int × Unit)) => spec_FarmRight.A1 (fun (i : Int) (f : Int) (f3 : List (Int × Int × Int × Int × Unit)) (f4 : List (Int × Int × Int × Int × Unit)) => spec_FarmRight.G1 k0 (fun (t2x : Bool) => spec_FarmRight.A2  f0 f1 f2 t2x) (fun (_ : Unit) => spec_FarmRight.A3  f0 f1 f2 ()) k0 i f f3 f4) f0 f1 f2 f f3 f4) k0 i f f3 f4) f0 f1 f2
theorem spec_FarmRight.run (k0 : Nat) (f0 : Int) (f1 : List (Int × Int × Int × Int × Unit)) (f2 : List (Int × Int × Int × Int × Unit)) : runFn Try.prog spec_FarmRight.tbl spec_FarmRight.cfg k0 25 ins_spec_FarmRight outs_spec_FarmRight (f0, f1, f2, ()) = spec_FarmRight.FF k0 f0 f1 f2 := by
  rw [spec_FarmRight.top, spec_FarmRight.FF]; (try simp only [spec_FarmRight.g0, spec_FarmRight.g1, spec_FarmRight.a0, spec_FarmRight.a1, spec_FarmRight.a2, spec_FarmRight.a3]); try rfl
noncomputable def F_spec_FarmRight : Int × (List (Int × Int × Int × Int × Unit)) × (List (Int × Int × Int × Int × Unit)) × Unit → Option (Bool × Unit) := fun x => (fun (f0 : Int) (f1 : List (Int × Int × Int × Int × Unit)) (f2 : List (Int × Int × Int × Int × Unit)) => spec_FarmRight.FF (300 + f1.length + f2.length) f0 f1 f2) x.1 x.2.1 x.2.2.1
theorem spec_FarmRight.tblOK : ∀ g fs S, spec_FarmRight.tbl g fs = some S → SumOK Try.prog g S := by
  intro g fs S h
  unfold spec_FarmRight.tbl at h
  split at h
  · rename_i hc; obtain ⟨rfl, rfl⟩ := hc; have := Option.some.inj h; subst this; exact ok_spec_l05Group
  split at h
  · rename_i hc; obtain ⟨rfl, rfl⟩ := hc; have := Option.some.inj h; subst this; exact ok_spec_l02Want
  split at h
  · rename_i hc; obtain ⟨rfl, rfl⟩ := hc; have := Option.some.inj h; subst this; exact ok_spec_l02Id
  split at h
  · rename_i hc; obtain ⟨rfl, rfl⟩ := hc; have := Option.some.inj h; subst this; exact ok_spec_l02Weight
  cases h
theorem ok_spec_FarmRight : SumOK Try.prog 25 ⟨ins_spec_FarmRight, outs_spec_FarmRight, F_spec_FarmRight⟩ := runFn_ok (by kernel_rfl) spec_FarmRight.tblOK (by kernel_rfl) fun x y h => ⟨spec_FarmRight.cfg, _, (spec_FarmRight.run _ x.1 x.2.1 x.2.2.1).trans h⟩
abbrev ins_spec_l01Min : List Par := [.v false [CT.int .i64], .v false [CT.int .i64]]
abbrev outs_spec_l01Min : List (Bool × List CT) := [(false, [CT.int .i64])]
/-! ### loop.example/g00095/spec.l01Min (function 28) -/
noncomputable def spec_l01Min.tbl : Tbl := fun g fs => none
noncomputable def spec_l01Min.body : Code := ((Try.prog.funcs[28]?).bind (·.body)).getD .skip
def spec_l01Min.cfg : Nat → List Nat × List Nat := fun k => ([], [])
noncomputable def spec_l01Min.T  (a : Int) (b : Int) : Option (Int × Unit) := cond (decide (a < b)) (some (a, ())) (some (b, ()))
theorem spec_l01Min.top (k0 : Nat) (a : Int) (b : Int) : runFn Try.prog spec_l01Min.tbl spec_l01Min.cfg k0 28 ins_spec_l01Min outs_spec_l01Min (a, b, ()) = spec_l01Min.T  a b := by kernel_rfl
noncomputable def F_spec_l01Min : Int × Int × Unit → Option (Int × Unit) := fun x => spec_l01Min.T x.1 x.2.1
theorem spec_l01Min.tblOK : ∀ g fs S, spec_l01Min.tbl g fs = some S → SumOK Try.prog g S := by
  intro g fs S h
  unfold spec_l01Min.tbl at h
  cases h
theorem ok_spec_l01Min : SumOK Try.prog 28 ⟨ins_spec_l01Min, outs_spec_l01Min, F_spec_l01Min⟩ := runFn_ok (by kernel_rfl) spec_l01Min.tblOK (by kernel_rfl) fun x y h => ⟨spec_l01Min.cfg, 0, (spec_l01Min.top 0 x.1 x.2.1).trans h⟩
abbrev ins_spec_l05Wants : List Par := [.v true ct4]
abbrev outs_spec_l05Wants : List (Bool × List CT) := [(false, [CT.sl [CT.int .i64]])]
/-! ### loop.example/g00095/spec.l05Wants (function 26) -/
noncomputable def spec_l05Wants.tbl : Tbl := fun g fs => if g = 28 ∧ fs = [] then some ⟨ins_spec_l01Min, outs_spec_l01Min, F_spec_l01Min⟩ else none
noncomputable def spec_l05Wants.body : Code := ((Try.prog.funcs[26]?).bind (·.body)).getD .skip
def spec_l05Wants.cfg : Nat → List Nat × List Nat := fun k => if k = 3 then ([1, 3, 4], [3]) else if k = 7 then ([1, 3, 4, 5, 6], [1, 3, 4, 5]) else if k = 12 then ([1, 3, 4, 5, 7], [1, 3, 4, 5]) else ([], [])
noncomputable def spec_l05Wants.R0 {R : Type} (ex0 : ((List (Int × Unit)) → Option R)) (lo1 : (Int → Int → Int → Int → (List (Int × Int × Int × Int × Unit)) → (List (Int × Int × Int × Int × Unit)) → (List (Int × Unit)) → Option R)) (i : Int) (f : Int) (f3 : List (Int × Int × Int × Int × Unit)) (f4 : List (Int × Int × Int × Int × Unit)) (out : List (Int × Unit)) : Option R := cond (decide (i ≥ 0)) (lo1 i 0 (w64 (i + 1)) f f3 f4 out) (ex0 out)
noncomputable def spec_l05Wants.R1 {R : Type} (nx1 : (Int → Int → Int → Int → (List (Int × Int × Int × Int × Unit)) → (List (Int × Int × Int × Int × Unit)) → (List (Int × Unit)) → Option R)) (ex1 : (Int → Int → Int → (List (Int × Int × Int × Int × Unit)) → (List (Int × Int × Int × Int × Unit)) → (List (Int × Unit)) → Option R)) (i : Int) (sum : Int) (kx : Int) (f : Int) (f3 : List (Int × Int × Int × Int × Unit)) (f4 : List (Int × Int × Int × Int × Unit)) (out : List (Int × Unit)) : Option R := cond (decide (kx < (f3.length : Int))) (if 0 ≤ kx ∧ kx < (f3.length : Int) then if 0 ≤ i ∧ i < (f3.length : Int) then cond ((rd (0, 0, 0, 0, ()) f3 kx).2.1 == (rd (0, 0, 0, 0, ()) f3 i).1) (if 0 ≤ kx ∧ kx < (out.length : Int) then nx1 i (w64 (sum + (out.getD kx.toNat (0, ())).1)) (w64 (kx + 1)) f f3 f4 out else none) (nx1 i sum (w64 (kx + 1)) f f3 f4 out) else none else none) (ex1 i sum f f3 f4 out)
noncomputable def spec_l05Wants.R2 {R : Type} (nx2 : (Int → Int → Int → Int → (List (Int × Int × Int × Int × Unit)) → (List (Int × Int × Int × Int × Unit)) → (List (Int × Unit)) → Option R)) (ex2 : (Int → Int → Int → (List (Int × Int × Int × Int × Unit)) → (List (Int × Int × Int × Int × Unit)) → (List (Int × Unit)) → Option R)) (i : Int) (sum : Int) (kx : Int) (f : Int) (f3 : List (Int × Int × Int × Int × Unit)) (f4 : List (Int × Int × Int × Int × Unit)) (out : List (Int × Unit)) : Option R := cond (decide (kx < (f4.length : Int))) (if 0 ≤ kx ∧ kx < (f4.length : Int) then if 0 ≤ i ∧ i < (f3.length : Int) then cond ((rd (0, 0, 0, 0, ()) f4 kx).2.1 == (rd (0, 0, 0, 0, ()) f3 i).1) (if 0 ≤ kx ∧ kx < (f4.length : Int) then nx2 i (w64 (sum + (rd (0, 0, 0, 0, ()) f4 kx).2.2.1)) (w64 (kx + 1)) f f3 f4 out else none) (nx2 i sum (w64 (kx + 1)) f f3 f4 out) else none else none) (ex2 i sum f f3 f4 out)
noncomputable def spec_l05Wants.A0  (f0 : Int) (f1 : List (Int × Int × Int × Int × Unit)) (f2 : List (Int × Int × Int × Int × Unit)) (out : List (Int × Unit)) : Option ((List (Int × Unit)) × Unit) := some (out, ())
noncomputable def spec_l05Wants.A1 {R : Type} (lo2 : (Int → Int → Int → Int → (List (Int × Int × Int × Int × Unit)) → (List (Int × Int × Int × Int × Unit)) → (List (Int × Unit)) → Option R)) (i : Int) (sum : Int) (f : Int) (f3 : List (Int × Int × Int × Int × Unit)) (f4 : List (Int × Int × Int × Int × Unit)) (out : List (Int × Unit)) : Option R := lo2 i sum 0 f f3 f4 out
noncomputable def spec_l05Wants.A2 {R : Type} (nx0 : (Int → Int → (List (Int × Int × Int × Int × Unit)) → (List (Int × Int × Int × Int × Unit)) → (List (Int × Unit)) → Option R)) (i : Int) (sum : Int) (f : Int) (f3 : List (Int × Int × Int × Int × Unit)) (f4 : List (Int × Int × Int × Int × Unit)) (out : List (Int × Unit)) : Option R := if 0 ≤ i ∧ i < (f3.length : Int) then (F_spec_l01Min (sum, (rd (0, 0, 0, 0, ()) f3 i).2.2.1, ())).bind fun y1 => if 0 ≤ i ∧ i < (out.length : Int) then nx0 (w64 (i - 1)) f f3 f4 (out.set i.toNat (y1.1, ())) else none else none
noncomputable def spec_l05Wants.T (lo0 : (Int → Int → (List (Int × Int × Int × Int × Unit)) → (List (Int × Int × Int × Int × Unit)) → (List (Int × Unit)) → Option ((List (Int × Unit)) × Unit))) (f0 : Int) (f1 : List (Int × Int × Int × Int × Unit)) (f2 : List (Int × Int × Int × Int × Unit)) : Option ((List (Int × Unit)) × Unit) := if 0 ≤ (f1.length : Int) ∧ (8 : Int) * (f1.length : Int) ≤ 281474976710656 ∧ (f1.length : Int) ≤ 9223372036854775807 then lo0 (w64 ((f1.length : Int) - 1)) f0 f1 f2 (List.replicate (((f1.length : Int) : Int)).toNat (0, ())) else none
noncomputable def spec_l05Wants.st0 {R : Type} (k0 : Nat) : Env → List Ob → Kont R → Option R := fun env ob K => runCode Try.prog spec_l05Wants.tbl 88 0 spec_l05Wants.cfg k0 (codeAt [1, 1, 0, 1, 0, 0] spec_l05Wants.body) env ob K
noncomputable def spec_l05Wants.K0 {R : Type} (k0 : Nat) (K : Kont R) : Kont R := blockK 0 (seqK (fun env ob => runCode Try.prog spec_l05Wants.tbl 88 0 spec_l05Wants.cfg k0 (codeAt [1, 1, 1] spec_l05Wants.body) env ob (K)) (K))
noncomputable def spec_l05Wants.st1 {R : Type} (k0 : Nat) : Env → List Ob → Kont R → Option R := fun env ob K => runCode Try.prog spec_l05Wants.tbl 88 0 spec_l05Wants.cfg k0 (codeAt [1, 1, 0, 1, 0, 0, 1, 0, 0, 1, 0, 1, 0, 0] spec_l05Wants.body) env ob K
noncomputable def spec_l05Wants.K1 {R : Type} (k0 : Nat) (K : Kont R) : Kont R := blockK 2 (seqK (fun env ob => runCode Try.prog spec_l05Wants.tbl 88 0 spec_l05Wants.cfg k0 (codeAt [1, 1, 0, 1, 0, 0, 1, 0, 0, 1, 1] spec_l05Wants.body) env ob (blockK 1 (seqK (fun env ob => runCode Try.prog spec_l05Wants.tbl 88 0 spec_l05Wants.cfg k0 (codeAt [1, 1, 0, 1, 0, 0, 1, 1] spec_l05Wants.body) env ob (K)) (K)))) (blockK 1 (seqK (fun env ob => runCode Try.prog spec_l05Wants.tbl 88 0 spec_l05Wants.cfg k0 (codeAt [1, 1, 0, 1, 0, 0, 1, 1] spec_l05Wants.body) env ob (K)) (K))))
noncomputable def spec_l05Wants.st2 {R : Type} (k0 : Nat) : Env → List Ob → Kont R → Option R := fun env ob K => runCode Try.prog spec_l05Wants.tbl 88 0 spec_l05Wants.cfg k0 (codeAt [1, 1, 0, 1, 0, 0, 1, 0, 0, 1, 1, 0, 1, 0, 0] spec_l05Wants.body) env ob K
noncomputable def spec_l05Wants.K2 {R : Type} (k0 : Nat) (K : Kont R) : Kont R := blockK 4 (seqK (fun env ob => runCode Try.prog spec_l05Wants.tbl 88 0 spec_l05Wants.cfg k0 (codeAt [1, 1, 0, 1, 0, 0, 1, 0, 0, 1, 1, 1] spec_l05Wants.body) env ob (blockK 1 (seqK (fun env ob => runCode Try.prog spec_l05Wants.tbl 88 0 spec_l05Wants.cfg k0 (codeAt [1, 1, 0, 1, 0, 0, 1, 1] spec_l05Wants.body) env ob (K)) (K)))) (blockK 1 (seqK (fun env ob => runCode Try.prog spec_l05Wants.tbl 88 0 spec_l05Wants.cfg k0 (codeAt [1, 1, 0, 1, 0, 0, 1, 1] spec_l05Wants.body) env ob (K)) (K))))
noncomputable def spec_l05Wants.L0 {R : Type} (k0 k : Nat) (K : Kont R) (i : Int) (f : Int) (f3 : List (Int × Int × Int × Int × Unit)) (f4 : List (Int × Int × Int × Int × Unit)) (out : List (Int × Unit)) : Option R := iter 0 [1, 3, 4] [3] (spec_l05Wants.st0 k0) k [(1, .ptr 0 0 0 0), (3, .own 1), (4, .int .i64 i)] [.box [.int .i64 f, .sl ct0 f3, .sl ct0 f4], .arr [CT.int .i64] out] K
noncomputable def spec_l05Wants.L1 {R : Type} (k0 k : Nat) (K : Kont R) (i : Int) (sum : Int) (kx : Int) (f : Int) (f3 : List (Int × Int × Int × Int × Unit)) (f4 : List (Int × Int × Int × Int × Unit)) (out : List (Int × Unit)) : Option R := iter 0 [1, 3, 4, 5, 6] [1, 3, 4, 5] (spec_l05Wants.st1 k0) k [(1, .ptr 0 0 0 0), (3, .own 1), (4, .int .i64 i), (5, .int .i64 sum), (6, .int .i64 kx)] [.box [.int .i64 f, .sl ct0 f3, .sl ct0 f4], .arr [CT.int .i64] out] K
noncomputable def spec_l05Wants.L2 {R : Type} (k0 k : Nat) (K : Kont R) (i : Int) (sum : Int) (kx : Int) (f : Int) (f3 : List (Int × Int × Int × Int × Unit)) (f4 : List (Int × Int × Int × Int × Unit)) (out : List (Int × Unit)) : Option R := iter 0 [1, 3, 4, 5, 7] [1, 3, 4, 5] (spec_l05Wants.st2 k0) k [(1, .ptr 0 0 0 0), (3, .own 1), (4, .int .i64 i), (5, .int .i64 sum), (7, .int .i64 kx)] [.box [.int .i64 f, .sl ct0 f3, .sl ct0 f4], .arr [CT.int .i64] out] K
theorem spec_l05Wants.s0 {R : Type} (k0 k : Nat) (K : Kont R) (i : Int) (f : Int) (f3 : List (Int × Int × Int × Int × Unit)) (f4 : List (Int × Int × Int × Int × Unit)) (out : List (Int × Unit)) : spec_l05Wants.L0 k0 (k + 1) K i f f3 f4 out = spec_l05Wants.R0 (fun (out : List (Int × Unit)) => K (.exit 0) [(3, .own 0)] [.arr [CT.int .i64] out]) (fun (i : Int) (sum : Int) (kx : Int) (f : Int) (f3 : List (Int × Int × Int × Int × Unit)) (f4 : List (Int × Int × Int × Int × Unit)) (out : List (Int × Unit)) => spec_l05Wants.L1 k0 k0 (spec_l05Wants.K1 k0 (loopK 0 [1, 3, 4] [3] (fun env ob => iter 0 [1, 3, 4] [3] (spec_l05Wants.st0 k0) k env ob K) K)) i sum kx f f3 f4 out) i f f3 f4 out := by kernel_rfl
theorem spec_l05Wants.s1 {R : Type} (k0 k : Nat) (K : Kont R) (i : Int) (sum : Int) (kx : Int) (f : Int) (f3 : List (Int × Int × Int × Int × Unit)) (f4 : List (Int × Int × Int × Int × Unit)) (out : List (Int × Unit)) : spec_l05Wants.L1 k0 (k + 1) K i sum kx f f3 f4 out = spec_l05Wants.R1 (fun (i : Int) (sum : Int) (kx : Int) (f : Int) (f3 : List (Int × Int × Int × Int × Unit)) (f4 : List (Int × Int × Int × Int × Unit)) (out : List (Int × Unit)) => spec_l05Wants.L1 k0 k K i sum kx f f3 f4 out) (fun (i : Int) (sum : Int) (f : Int) (f3 : List (Int × Int × Int × Int × Unit)) (f4 : List (Int × Int × Int × Int × Unit)) (out : List (Int × Unit)) => K (.exit 2) [(1, .ptr 0 0 0 0), (3, .own 1), (4, .int .i64 i), (5, .int .i64 sum)] [.box [.int .i64 f, .sl ct0 f3, .sl ct0 f4], .arr [CT.int .i64] out]) i sum kx f f3 f4 out := by kernel_rfl
theorem spec_l05Wants.s2 {R : Type} (k0 k : Nat) (K : Kont R) (i : Int) (sum : Int) (kx : Int) (f : Int) (f3 : List (Int × Int × Int × Int × Unit)) (f4 : List (Int × Int × Int × Int × Unit)) (out : List (Int × Unit)) : spec_l05Wants.L2 k0 (k + 1) K i sum kx f f3 f4 out = spec_l05Wants.R2 (fun (i : Int) (sum : Int) (kx : Int) (f : Int) (f3 : List (Int × Int × Int × Int × Unit)) (f4 : List (Int × Int × Int × Int × Unit)) (out : List (Int × Unit)) => spec_l05Wants.L2 k0 k K i sum kx f f3 f4 out) (fun (i : Int) (sum : Int) (f : Int) (f3 : List (Int × Int × Int × Int × Unit)) (f4 : List (Int × Int × Int × Int × Unit)) (out : List (Int × Unit)) => K (.exit 4) [(1, .ptr 0 0 0 0), (3, .own 1), (4, .int .i64 i), (5, .int .i64 sum)] [.box [.int .i64 f, .sl ct0 f3, .sl ct0 f4], .arr [CT.int .i64] out]) i sum kx f f3 f4 out := by kernel_rfl
theorem spec_l05Wants.a0 (k0 : Nat) (f0 : Int) (f1 : List (Int × Int × Int × Int × Unit)) (f2 : List (Int × Int × Int × Int × Unit)) (out : List (Int × Unit)) : spec_l05Wants.K0 (R := ((List (Int × Unit)) × Unit)) k0 (finK Try.prog [.tmp 2] ins_spec_l05Wants outs_spec_l05Wants (f0, f1, f2, ())) (.exit 0) [(3, .own 0)] [.arr [CT.int .i64] out] = spec_l05Wants.A0  f0 f1 f2 out := by kernel_rfl
theorem spec_l05Wants.a1 {R : Type} (k0 k : Nat) (K : Kont R) (i : Int) (sum : Int) (f : Int) (f3 : List (Int × Int × Int × Int × Unit)) (f4 : List (Int × Int × Int × Int × Unit)) (out : List (Int × Unit)) : spec_l05Wants.K1 k0 (loopK 0 [1, 3, 4] [3] (fun env ob => iter 0 [1, 3, 4] [3] (spec_l05Wants.st0 k0) k env ob K) K) (.exit 2) [(1, .ptr 0 0 0 0), (3, .own 1), (4, .int .i64 i), (5, .int .i64 sum)] [.box [.int .i64 f, .sl ct0 f3, .sl ct0 f4], .arr [CT.int .i64] out] = spec_l05Wants.A1 (fun (i : Int) (sum : Int) (kx : Int) (f : Int) (f3 : List (Int × Int × Int × Int × Unit)) (f4 : List (Int × Int × Int × Int × Unit)) (out : List (Int × Unit)) => spec_l05Wants.L2 k0 k0 (spec_l05Wants.K2 k0 (loopK 0 [1, 3, 4] [3] (fun env ob => iter 0 [1, 3, 4] [3] (spec_l05Wants.st0 k0) k env ob K) K)) i sum kx f f3 f4 out) i sum f f3 f4 out := by kernel_rfl
theorem spec_l05Wants.a2 {R : Type} (k0 k : Nat) (K : Kont R) (i : Int) (sum : Int) (f : Int) (f3 : List (Int × Int × Int × Int × Unit)) (f4 : List (Int × Int × Int × Int × Unit)) (out : List (Int × Unit)) : spec_l05Wants.K2 k0 (loopK 0 [1, 3, 4] [3] (fun env ob => iter 0 [1, 3, 4] [3] (spec_l05Wants.st0 k0) k env ob K) K) (.exit 4) [(1, .ptr 0 0 0 0), (3, .own 1), (4, .int .i64 i), (5, .int .i64 sum)] [.box [.int .i64 f, .sl ct0 f3, .sl ct0 f4], .arr [CT.int .i64] out] = spec_l05Wants.A2 (fun (i : Int) (f : Int) (f3 : List (Int × Int × Int × Int × Unit)) (f4 : List (Int × Int × Int × Int × Unit)) (out : List (Int × Unit)) => spec_l05Wants.L0 k0 k K i f f3 f4 out) i sum f f3 f4 out := by kernel_rfl
theorem spec_l05Wants.top (k0 : Nat) (f0 : Int) (f1 : List (Int × Int × Int × Int × Unit)) (f2 : List (Int × Int × Int × Int × Unit)) : runFn Try.prog spec_l05Wants.tbl spec_l05Wants.cfg k0 26 ins_spec_l05Wants outs_spec_l05Wants (f0, f1, f2, ()) = spec_l05Wants.T (fun (i : Int) (f : Int) (f3 : List (Int × Int × Int × Int × Unit)) (f4 : List (Int × Int × Int × Int × Unit)) (out : List (Int × Unit)) => spec_l05Wants.L0 (R := ((List (Int × Unit)) × Unit)) k0 k0 (spec_l05Wants.K0 (R := ((List (Int × Unit)) × Unit)) k0 ((finK Try.prog [.tmp 2] ins_spec_l05Wants outs_spec_l05Wants (f0, f1, f2, ())))) i f f3 f4 out) f0 f1 f2 := by kernel_rfl
noncomputable def spec_l05Wants.G1 {R : Type} (k0 : Nat) (hx1 : (Int → Int → Int → (List (Int × Int × Int × Int × Unit)) → (List (Int × Int × Int × Int × Unit)) → (List (Int × Unit)) → Option R)) : Nat → Int → Int → Int → Int → (List (Int × Int × Int × Int × Unit)) → (List (Int × Int × Int × Int × Unit)) → (List (Int × Unit)) → Option R
  | 0, _, _, _, _, _, _, _ => none
  | k + 1, i, sum, kx, f, f3, f4, out => spec_l05Wants.R1 (fun (i : Int) (sum : Int) (kx : Int) (f : Int) (f3 : List (Int × Int × Int × Int × Unit)) (f4 : List (Int × Int × Int × Int × Unit)) (out : List (Int × Unit)) => spec_l05Wants.G1 k0 hx1 k i sum kx f f3 f4 out) (fun (i : Int) (sum : Int) (f : Int) (f3 : List (Int × Int × Int × Int × Unit)) (f4 : List (Int × Int × Int × Int × Unit)) (out : List (Int × Unit)) => hx1 i sum f f3 f4 out) i sum kx f f3 f4 out
theorem spec_l05Wants.g1 {R : Type} (k0 : Nat) (K : Kont R) : ∀ (k : Nat) (i : Int) (sum : Int) (kx : Int) (f : Int) (f3 : List (Int × Int × Int × Int × Unit)) (f4 : List (Int × Int × Int × Int × Unit)) (out : List (Int × Unit)), spec_l05Wants.L1 k0 k K i sum kx f f3 f4 out = spec_l05Wants.G1 k0 (fun (i : Int) (sum : Int) (f : Int) (f3 : List (Int × Int × Int × Int × Unit)) (f4 : List (Int × Int × Int × Int × Unit)) (out : List (Int × Unit)) => K (.exit 2) [(1, .ptr 0 0 0 0), (3, .own 1), (4, .int .i64 i), (5, .int .i64 sum)] [.box [.int .i64 f, .sl ct0 f3, .sl ct0 f4], .arr [CT.int .i64] out]) k i sum kx f f3 f4 out := by
  intro k
  induction k with
  | zero => intros; rfl
  | succ k ih => intros; rw [spec_l05Wants.s1, spec_l05Wants.G1]; (try simp only [ih]); try rfl
noncomputable def spec_l05Wants.G2 {R : Type} (k0 : Nat) (hx2 : (Int → Int → Int → (List (Int × Int × Int × Int × Unit)) → (List (Int × Int × Int × Int × Unit)) → (List (Int × Unit)) → Option R)) : Nat → Int → Int → Int → Int → (List (Int × Int × Int × Int × Unit)) → (List (Int × Int × Int × Int × Unit)) → (List (Int × Unit)) → Option R
  | 0, _, _, _, _, _, _, _ => none
  | k + 1, i, sum, kx, f, f3, f4, out => spec_l05Wants.R2 (fun (i : Int) (sum : Int) (kx : Int) (f : Int) (f3 : List (Int × Int × Int × Int × Unit)) (f4 : List (Int × Int × Int × Int × Unit)) (out : List (Int × Unit)) => spec_l05Wants.G2 k0 hx2 k i sum kx f f3 f4 out) (fun (i : Int) (sum : Int) (f : Int) (f3 : List (Int × Int × Int × Int × Unit)) (f4 : List (Int × Int × Int × Int × Unit)) (out : List (Int × Unit)) => hx2 i sum f f3 f4 out) i sum kx f f3 f4 out
theorem spec_l05Wants.g2 {R : Type} (k0 : Nat) (K : Kont R) : ∀ (k : Nat) (i : Int) (sum : Int) (kx : Int) (f : Int) (f3 : List (Int × Int × Int × Int × Unit)) (f4 : List (Int × Int × Int × Int × Unit)) (out : List (Int × Unit)), spec_l05Wants.L2 k0 k K i sum kx f f3 f4 out = spec_l05Wants.G2 k0 (fun (i : Int) (sum : Int) (f : Int) (f3 : List (Int × Int × Int × Int × Unit)) (f4 : List (Int × Int × Int × Int × Unit)) (out : List (Int × Unit)) => K (.exit 4) [(1, .ptr 0 0 0 0), (3, .own 1), (4, .int .i64 i), (5, .int .i64 sum)] [.box [.int .i64 f, .sl ct0 f3, .sl ct0 f4], .arr [CT.int .i64] out]) k i sum kx f f3 f4 out := by
  intro k
  induction k with
  | zero => intros; rfl
  | succ k ih => intros; rw [spec_l05Wants.s2, spec_l05Wants.G2]; (try simp only [ih, spec_l05Wants.g1]); try rfl
noncomputable def spec_l05Wants.G0 {R : Type} (k0 : Nat) (hx0 : ((List (Int × Unit)) → Option R)) : Nat → Int → Int → (List (Int × Int × Int × Int × Unit)) → (List (Int × Int × Int × Int × Unit)) → (List (Int × Unit)) → Option R
  | 0, _, _, _, _, _ => none
  | k + 1, i, f, f3, f4, out => spec_l05Wants.R0 (fun (out : List (Int × Unit)) => hx0 out) (fun (i : Int) (sum : Int) (kx : Int) (f : Int) (f3 : List (Int × Int × Int × Int × Unit)) (f4 : List (Int × Int × Int × Int × Unit)) (out : List (Int × Unit)) => spec_l05Wants.G1 k0 (fun (i : Int) (sum : Int) (f : Int) (f3 : List (Int × Int × Int × Int × Unit)) (f4 : List (Int × Int × Int × Int × Unit)) (out : List (Int × Unit)) => spec_l05Wants.A1 (fun (i : Int) (sum : Int) (kx : Int) (f : Int) (f3 : List (Int × Int × Int × Int × Unit)) (f4 : List (Int × Int × Int × Int × Unit)) (out : List (Int × Unit)) => spec_l05Wants.G2 k0 (fun (i : Int) (sum : Int) (f : Int) (f3 : List (Int × Int × Int × Int × Unit)) (f4 : List (Int × Int × Int × Int × Unit)) (out : List (Int × Unit)) => spec_l05Wants.A2 (fun (i : Int) (f : Int) (f3 : List (Int × Int × Int × Int × Unit)) (f4 : List (Int × Int × Int × Int × Unit)) (out : List (Int × Unit)) => spec_l05Wants.G0 k0 hx0 k i f f3 f4 out) i sum f f3 f4 out) k0 i sum kx f f3 f4 out) i sum f f3 f4 out) k0 i sum kx f f3 f4 out) i f f3 f4 out
theorem spec_l05Wants.g0 {R : Type} (k0 : Nat) (K : Kont R) : ∀ (k : Nat) (i : Int) (f : Int) (f3 : List (Int × Int × Int × Int × Unit)) (f4 : List (Int × Int × Int × Int × Unit)) (out : List (Int × Unit)), spec_l05Wants.L0 k0 k K i f f3 f4 out = spec_l05Wants.G0 k0 (fun (out : List (Int × Unit)) => K (.exit 0) [(3, .own 0)] [.arr [CT.int .i64] out]) k i f f3 f4 out := by
  intro k
  induction k with
  | zero => intros; rfl
  | succ k ih => intros; rw [spec_l05Wants.s0, spec_l05Wants.G0]; (try simp only [ih, spec_l05Wants.g1, spec_l05Wants.g2, spec_l05Wants.a1, spec_l05Wants.a2]); try rfl
noncomputable def spec_l05Wants.FF (k0 : Nat) (f0 : Int) (f1 : List (Int × Int × Int × Int × Unit)) (f2 : List (Int × Int × Int × Int × Unit)) : Option ((List (Int × Unit)) × Unit) := spec_l05Wants.T (fun (i : Int) (f : Int) (f3 : List (Int × Int × Int × Int × Unit)) (f4 : List (Int × Int × Int × Int × Unit)) (out : List (Int × Unit)) => spec_l05Wants.G0 k0 (fun (out : List (Int × Unit)) => spec_l05Wants.A0  f0 f1 f2 out) k0 i f f3 f4 out) f0 f1 f2
theorem spec_l05Wants.run (k0 : Nat) (f0 : Int) (f1 : List (Int × Int × Int × Int × Unit)) (f2 : List (Int × Int × Int × Int × Unit)) : runFn Try.prog spec_l05Wants.tbl spec_l05Wants.cfg k0 26 ins_spec_l05Wants outs_spec_l05Wants (f0, f1, f2, ()) = spec_l05Wants.FF k0 f0 f1 f2 := by
  rw [spec_l05Wants.top, spec_l05Wants.FF]; (try simp only [spec_l05Wants.g1, spec_l05Wants.g2, spec_l05Wants.g0, spec_l05Wants.a0]); try rfl
noncomputable def F_spec_l05Wants : Int × (List (Int × Int × Int × Int × Unit)) × (List (Int × Int × Int × Int × Unit)) × Unit → Option ((List (Int × Unit)) × Unit) := fun x => (fun (f0 : Int) (f1 : List (Int × Int × Int × Int × Unit)) (f2 : List (Int × Int × Int × Int × Unit)) => spec_l05Wants.FF (300 + f1.length + f2.length) f0 f1 f2) x.1 x.2.1 x.2.2.1
theorem spec_l05Wants.tblOK : ∀ g fs S, spec_l05Wants.tbl g fs = some S → SumOK Try.prog g S := by
  intro g fs S h
  unfold spec_l05Wants.tbl at h
  split at h
  · rename_i hc; obtain ⟨rfl, rfl⟩ := hc; have := Option.some.inj h; subst this; exact ok_spec_l01Min
  cases h
theorem ok_spec_l05Wants : SumOK Try.prog 26 ⟨ins_spec_l05Wants, outs_spec_l05Wants, F_spec_l05Wants⟩ := runFn_ok (by kernel_rfl) spec_l05Wants.tblOK (by kernel_rfl) fun x y h => ⟨spec_l05Wants.cfg, _, (spec_l05Wants.run _ x.1 x.2.1 x.2.2.1).trans h⟩
abbrev ins_spec_FarmWant : List Par := [.v true ct4, .v false [CT.int .i64]]
abbrev outs_spec_FarmWant : List (Bool × List CT) := [(false, [CT.int .i64])]
/-! ### loop.example/g00095/spec.FarmWant (function 8) -/
noncomputable def spec_FarmWant.tbl : Tbl := fun g fs => if g = 25 ∧ fs = [] then some ⟨ins_spec_FarmRight, outs_spec_FarmRight, F_spec_FarmRight⟩ else if g = 26 ∧ fs = [] then some ⟨ins_spec_l05Wants, outs_spec_l05Wants, F_spec_l05Wants⟩ else if g = 27 ∧ fs = [] then some ⟨ins_spec_l05Group, outs_spec_l05Group, F_spec_l05Group⟩ else if g = 28 ∧ fs = [] then some ⟨ins_spec_l01Min, outs_spec_l01Min, F_spec_l01Min⟩ else none
noncomputable def spec_FarmWant.body : Code := ((Try.prog.funcs[8]?).bind (·.body)).getD .skip
def spec_FarmWant.cfg : Nat → List Nat × List Nat := fun k => if k = 11 then ([2, 5, 7, 8], [2, 7]) else if k = 16 then ([2, 7, 9], [2, 7]) else ([], [])
noncomputable def spec_FarmWant.R0 {R : Type} (nx0 : (Int → Int → Int → (List (Int × Int × Int × Int × Unit)) → (List (Int × Int × Int × Int × Unit)) → (List (Int × Unit)) → Option R)) (ex0 : (Int → Int → (List (Int × Int × Int × Int × Unit)) → (List (Int × Int × Int × Int × Unit)) → Option R)) (sum : Int) (i : Int) (f : Int) (f3 : List (Int × Int × Int × Int × Unit)) (f4 : List (Int × Int × Int × Int × Unit)) (wants : List (Int × Unit)) : Option R := cond (decide (i < (f3.length : Int))) (if 0 ≤ i ∧ i < (f3.length : Int) then cond ((rd (0, 0, 0, 0, ()) f3 i).2.1 == 0) (if 0 ≤ i ∧ i < (wants.length : Int) then nx0 (w64 (sum + (wants.getD i.toNat (0, ())).1)) (w64 (i + 1)) f f3 f4 wants else none) (nx0 sum (w64 (i + 1)) f f3 f4 wants) else none) (ex0 sum f f3 f4)
noncomputable def spec_FarmWant.R1 {R : Type} (nx1 : (Int → Int → Int → (List (Int × Int × Int × Int × Unit)) → (List (Int × Int × Int × Int × Unit)) → Option R)) (ex1 : (Int → Int → (List (Int × Int × Int × Int × Unit)) → (List (Int × Int × Int × Int × Unit)) → Option R)) (sum : Int) (i : Int) (f : Int) (f3 : List (Int × Int × Int × Int × Unit)) (f4 : List (Int × Int × Int × Int × Unit)) : Option R := cond (decide (i < (f4.length : Int))) (if 0 ≤ i ∧ i < (f4.length : Int) then cond ((rd (0, 0, 0, 0, ()) f4 i).2.1 == 0) (if 0 ≤ i ∧ i < (f4.length : Int) then nx1 (w64 (sum + (rd (0, 0, 0, 0, ()) f4 i).2.2.1)) (w64 (i + 1)) f f3 f4 else none) (nx1 sum (w64 (i + 1)) f f3 f4) else none) (ex1 sum f f3 f4)
noncomputable def spec_FarmWant.A0 (lo1 : (Int → Int → Int → (List (Int × Int × Int × Int × Unit)) → (List (Int × Int × Int × Int × Unit)) → Option (Int × Unit))) (f0 : Int) (f1 : List (Int × Int × Int × Int × Unit)) (f2 : List (Int × Int × Int × Int × Unit)) (group : Int) (sum : Int) (f : Int) (f3 : List (Int × Int × Int × Int × Unit)) (f4 : List (Int × Int × Int × Int × Unit)) : Option (Int × Unit) := lo1 sum 0 f f3 f4
noncomputable def spec_FarmWant.A1  (f0 : Int) (f1 : List (Int × Int × Int × Int × Unit)) (f2 : List (Int × Int × Int × Int × Unit)) (group : Int) (sum : Int) (f : Int) (f3 : List (Int × Int × Int × Int × Unit)) (f4 : List (Int × Int × Int × Int × Unit)) : Option (Int × Unit) := (F_spec_l01Min (sum, f, ())).bind fun y1 => some (y1.1, ())
noncomputable def spec_FarmWant.T (lo0 : (Int → Int → Int → (List (Int × Int × Int × Int × Unit)) → (List (Int × Int × Int × Int × Unit)) → (List (Int × Unit)) → Option (Int × Unit))) (f0 : Int) (f1 : List (Int × Int × Int × Int × Unit)) (f2 : List (Int × Int × Int × Int × Unit)) (group : Int) : Option (Int × Unit) := (F_spec_FarmRight (f0, f1, f2, ())).bind fun y1 => cond (!y1.1) (some (0, ())) ((F_spec_l05Wants (f0, f1, f2, ())).bind fun y2 => cond (group != 0) ((F_spec_l05Group (f0, f1, f2, group, ())).bind fun y3 => cond (decide (y3.1 < 0)) (some (0, ())) (if 0 ≤ y3.1 ∧ y3.1 < (y2.1.length : Int) then some ((y2.1.getD ((y3.1).toNat) (0, ())).1, ()) else none)) (lo0 0 0 f0 f1 f2 y2.1))
noncomputable def spec_FarmWant.st0 {R : Type} (k0 : Nat) : Env → List Ob → Kont R → Option R := fun env ob K => runCode Try.prog spec_FarmWant.tbl 72 0 spec_FarmWant.cfg k0 (codeAt [1, 1, 1, 1, 1, 0, 1, 0, 0] spec_FarmWant.body) env ob K
noncomputable def spec_FarmWant.K0 {R : Type} (k0 : Nat) (K : Kont R) : Kont R := blockK 0 (seqK (fun env ob => runCode Try.prog spec_FarmWant.tbl 72 0 spec_FarmWant.cfg k0 (codeAt [1, 1, 1, 1, 1, 1] spec_FarmWant.body) env ob (K)) (K))
noncomputable def spec_FarmWant.st1 {R : Type} (k0 : Nat) : Env → List Ob → Kont R → Option R := fun env ob K => runCode Try.prog spec_FarmWant.tbl 72 0 spec_FarmWant.cfg k0 (codeAt [1, 1, 1, 1, 1, 1, 0, 1, 0, 0] spec_FarmWant.body) env ob K
noncomputable def spec_FarmWant.K1 {R : Type} (k0 : Nat) (K : Kont R) : Kont R := blockK 2 (seqK (fun env ob => runCode Try.prog spec_FarmWant.tbl 72 0 spec_FarmWant.cfg k0 (codeAt [1, 1, 1, 1, 1, 1, 1] spec_FarmWant.body) env ob (K)) (K))
noncomputable def spec_FarmWant.L0 {R : Type} (k0 k : Nat) (K : Kont R) (sum : Int) (i : Int) (f : Int) (f3 : List (Int × Int × Int × Int × Unit)) (f4 : List (Int × Int × Int × Int × Unit)) (wants : List (Int × Unit)) : Option R := iter 0 [2, 5, 7, 8] [2, 7] (spec_FarmWant.st0 k0) k [(2, .ptr 0 0 0 0), (5, .own 1), (7, .int .i64 sum), (8, .int .i64 i)] [.box [.int .i64 f, .sl ct0 f3, .sl ct0 f4], .arr [CT.int .i64] wants] K
noncomputable def spec_FarmWant.L1 {R : Type} (k0 k : Nat) (K : Kont R) (sum : Int) (i : Int) (f : Int) (f3 : List (Int × Int × Int × Int × Unit)) (f4 : List (Int × Int × Int × Int × Unit)) : Option R := iter 0 [2, 7, 9] [2, 7] (spec_FarmWant.st1 k0) k [(2, .ptr 0 0 0 0), (7, .int .i64 sum), (9, .int .i64 i)] [.box [.int .i64 f, .sl ct0 f3, .sl ct0 f4]] K
theorem spec_FarmWant.s0 {R : Type} (k0 k : Nat) (K : Kont R) (sum : Int) (i : Int) (f : Int) (f3 : List (Int × Int × Int × Int × Unit)) (f4 : List (Int × Int × Int × Int × Unit)) (wants : List (Int × Unit)) : spec_FarmWant.L0 k0 (k + 1) K sum i f f3 f4 wants = spec_FarmWant.R0 (fun (sum : Int) (i : Int) (f : Int) (f3 : List (Int × Int × Int × Int × Unit)) (f4 : List (Int × Int × Int × Int × Unit)) (wants : List (Int × Unit)) => spec_FarmWant.L0 k0 k K sum i f f3 f4 wants) (fun (sum : Int) (f : Int) (f3 : List (Int × Int × Int × Int × Unit)) (f4 : List (Int × Int × Int × Int × Unit)) => K (.exit 0) [(2, .ptr 0 0 0 0), (7, .int .i64 sum)] [.box [.int .i64 f, .sl ct0 f3, .sl ct0 f4]]) sum i f f3 f4 wants := by kernel_rfl
theorem spec_FarmWant.s1 {R : Type} (k0 k : Nat) (K : Kont R) (sum : Int) (i : Int) (f : Int) (f3 : List (Int × Int × Int × Int × Unit)) (f4 : List (Int × Int × Int × Int × Unit)) : spec_FarmWant.L1 k0 (k + 1) K sum i f f3 f4 = spec_FarmWant.R1 (fun (sum : Int) (i : Int) (f : Int) (f3 : List (Int × Int × Int × Int × Unit)) (f4 : List (Int × Int × Int × Int × Unit)) => spec_FarmWant.L1 k0 k K sum i f f3 f4) (fun (sum : Int) (f : Int) (f3 : List (Int × Int × Int × Int × Unit)) (f4 : List (Int × Int × Int × Int × Unit)) => K (.exit 2) [(2, .ptr 0 0 0 0), (7, .int .i64 sum)] [.box [.int .i64 f, .sl ct0 f3, .sl ct0 f4]]) sum i f f3 f4 := by kernel_rfl
theorem spec_FarmWant.a0 (k0 : Nat) (f0 : Int) (f1 : List (Int × Int × Int × Int × Unit)) (f2 : List (Int × Int × Int × Int × Unit)) (group : Int) (sum : Int) (f : Int) (f3 : List (Int × Int × Int × Int × Unit)) (f4 : List (Int × Int × Int × Int × Unit)) : spec_FarmWant.K0 (R := (Int × Unit)) k0 (finK Try.prog [.tmp 4] ins_spec_FarmWant outs_spec_FarmWant (f0, f1, f2, group, ())) (.exit 0) [(2, .ptr 0 0 0 0), (7, .int .i64 sum)] [.box [.int .i64 f, .sl ct0 f3, .sl ct0 f4]] = spec_FarmWant.A0 (fun (sum : Int) (i : Int) (f : Int) (f3 : List (Int × Int × Int × Int × Unit)) (f4 : List (Int × Int × Int × Int × Unit)) => spec_FarmWant.L1 (R := (Int × Unit)) k0 k0 (spec_FarmWant.K1 (R := (Int × Unit)) k0 ((finK Try.prog [.tmp 4] ins_spec_FarmWant outs_spec_FarmWant (f0, f1, f2, group, ())))) sum i f f3 f4) f0 f1 f2 group sum f f3 f4 := by kernel_rfl
theorem spec_FarmWant.a1 (k0 : Nat) (f0 : Int) (f1 : List (Int × Int × Int × Int × Unit)) (f2 : List (Int × Int × Int × Int × Unit)) (group : Int) (sum : Int) (f : Int) (f3 : List (Int × Int × Int × Int × Unit)) (f4 : List (Int × Int × Int × Int × Unit)) : spec_FarmWant.K1 (R := (Int × Unit)) k0 (finK Try.prog [.tmp 4] ins_spec_FarmWant outs_spec_FarmWant (f0, f1, f2, group, ())) (.exit 2) [(2, .ptr 0 0 0 0), (7, .int .i64 sum)] [.box [.int .i64 f, .sl ct0 f3, .sl ct0 f4]] = spec_FarmWant.A1  f0 f1 f2 group sum f f3 f4 := by kernel_rfl
theorem spec_FarmWant.top (k0 : Nat) (f0 : Int) (f1 : List (Int × Int × Int × Int × Unit)) (f2 : List (Int × Int × Int × Int × Unit)) (group : Int) : runFn Try.prog spec_FarmWant.tbl spec_FarmWant.cfg k0 8 ins_spec_FarmWant outs_spec_FarmWant (f0, f1, f2, group, ()) = spec_FarmWant.T (fun (sum : Int) (i : Int) (f : Int) (f3 : List (Int × Int × Int × Int × Unit)) (f4 : List (Int × Int × Int × Int × Unit)) (wants : List (Int × Unit)) => spec_FarmWant.L0 (R := (Int × Unit)) k0 k0 (spec_FarmWant.K0 (R := (Int × Unit)) k0 ((finK Try.prog [.tmp 4] ins_spec_FarmWant outs_spec_FarmWant (f0, f1, f2, group, ())))) sum i f f3 f4 wants) f0 f1 f2 group := by kernel_rfl
noncomputable def spec_FarmWant.G0 {R : Type} (k0 : Nat) (hx0 : (Int → Int → (List (Int × Int × Int × Int × Unit)) → (List (Int × Int × Int × Int × Unit)) → Option R)) : Nat → Int → Int → Int → (List (Int × Int × Int × Int × Unit)) → (List (Int × Int × Int × Int × Unit)) → (List (Int × Unit)) → Option R
  | 0, _, _, _, _, _, _ => none
  | k + 1, sum, i, f, f3, f4, wants => spec_FarmWant.R0 (fun (sum : Int) (i : Int) (f : Int) (f3 : List (Int × Int × Int × Int × Unit)) (f4 : List (Int × Int × Int × Int × Unit)) (wants : List (Int × Unit)) => spec_FarmWant.G0 k0 hx0 k sum i f f3 f4 wants) (fun (sum : Int) (f : Int) (f3 : List (Int × Int × Int × Int × Unit)) (f4 : List (Int × Int × Int × Int × Unit)) => hx0 sum f f3 f4) sum i f f3 f4 wants
theorem spec_FarmWant.g0 {R : Type} (k0 : Nat) (K : Kont R) : ∀ (k : Nat) (sum : Int) (i : Int) (f : Int) (f3 : List (Int × Int × Int × Int × Unit)) (f4 : List (Int × Int × Int × Int × Unit)) (wants : List (Int × Unit)), spec_FarmWant.L0 k0 k K sum i f f3 f4 wants = spec_FarmWant.G0 k0 (fun (sum : Int) (f : Int) (f3 : List (Int × Int × Int × Int × Unit)) (f4 : List (Int × Int × Int × Int × Unit)) => K (.exit 0) [(2, .ptr 0 0 0 0), (7, .int .i64 sum)] [.box [.int .i64 f, .sl ct0 f3, .sl ct0 f4]]) k sum i f f3 f4 wants := by
  intro k
  induction k with
  | zero => intros; rfl
  | succ k ih => intros; rw [spec_FarmWant.s0, spec_FarmWant.G0]; (try simp only [ih]); try rfl
noncomputable def spec_FarmWant.G1 {R : Type} (k0 : Nat) (hx1 : (Int → Int → (List (Int × Int × Int × Int × Unit)) → (List (Int × Int × Int × Int × Unit)) → Option R)) : Nat → Int → Int → Int → (List (Int × Int × Int × Int × Unit)) → (List (Int × Int × Int × Int × Unit)) → Option R
  | 0, _, _, _, _, _ => none
  | k + 1, sum, i, f, f3, f4 => spec_FarmWant.R1 (fun (sum : Int) (i : Int) (f : Int) (f3 : List (Int × Int × Int × Int × Unit)) (f4 : List (Int × Int × Int × Int × Unit)) => spec_FarmWant.G1 k0 hx1 k sum i f f3 f4) (fun (sum : Int) (f : Int) (f3 : List (Int × Int × Int × Int × Unit)) (f4 : List (Int × Int × Int × Int × Unit)) => hx1 sum f f3 f4) sum i f f3 f4
theorem spec_FarmWant.g1 {R : Type} (k0 : Nat) (K : Kont R) : ∀ (k : Nat) (sum : Int) (i : Int) (f : Int) (f3 : List (Int × Int × Int × Int × Unit)) (f4 : List (Int × Int × Int × Int × Unit)), spec_FarmWant.L1 k0 k K sum i f f3 f4 = spec_FarmWant.G1 k0 (fun (sum : Int) (f : Int) (f3 : List (Int × Int × Int × Int × Unit)) (f4 : List (Int × Int × Int × Int × Unit)) => K (.exit 2) [(2, .ptr 0 0 0 0), (7, .int .i64 sum)] [.box [.int .i64 f, .sl ct0 f3, .sl ct0 f4]]) k sum i f f3 f4 := by
  intro k
  induction k with
  | zero => intros; rfl
  | succ k ih => intros; rw [spec_FarmWant.s1, spec_FarmWant.G1]; (try simp only [ih, spec_FarmWant.g0]); try rfl
noncomputable def spec_FarmWant.FF (k0 : Nat) (f0 : Int) (f1 : List (Int × Int × Int × Int × Unit)) (f2 : List (Int × Int × Int × Int × Unit)) (group : Int) : Option (Int × Unit) := spec_FarmWant.T (fun (sum : Int) (i : Int) (f : Int) (f3 : List (Int × Int × Int × Int × Unit)) (f4 : List (Int × Int × Int × Int × Unit)) (wants : List (Int × Unit)) => spec_FarmWant.G0 k0 (fun (sum : Int) (f : Int) (f3 : List (Int × Int × Int × Int × Unit)) (f4 : List (Int × Int × Int × Int × Unit)) => spec_FarmWant.A0 (fun (sum : Int) (i : Int) (f : Int) (f3 : List (Int × Int × Int × Int × Unit)) (f4 : List (Int × Int × Int × Int × Unit)) => spec_FarmWant.G1 k0 (fun (sum : Int) (f : Int) (f3 : List (Int × Int × Int × Int × Unit)) (f4 : List (Int × Int × Int × Int × Unit)) => spec_FarmWant.A1  f0 f1 f2 group sum f f3 f4) k0 sum i f f3 f4) f0 f1 f2 group sum f f3 f4) k0 sum i f f3 f4 wants) f0 f1 f2 group
theorem spec_FarmWant.run (k0 : Nat) (f0 : Int) (f1 : List (Int × Int × Int × Int × Unit)) (f2 : List (Int × Int × Int × Int × Unit)) (group : Int) : runFn Try.prog spec_FarmWant.tbl spec_FarmWant.cfg k0 8 ins_spec_FarmWant outs_spec_FarmWant (f0, f1, f2, group, ()) = spec_FarmWant.FF k0 f0 f1 f2 group := by
  rw [spec_FarmWant.top, spec_FarmWant.FF]; (try simp only [spec_FarmWant.g0, spec_FarmWant.g1, spec_FarmWant.a0, spec_FarmWant.a1]); try rfl
noncomputable def F_spec_FarmWant : Int × (List (Int × Int × Int × Int × Unit)) × (List (Int × Int × Int × Int × Unit)) × Int × Unit → Option (Int × Unit) := fun x => (fun (f0 : Int) (f1 : List (Int × Int × Int × Int × Unit)) (f2 : List (Int × Int × Int × Int × Unit)) (group : Int) => spec_FarmWant.FF (300 + f1.length + f2.length) f0 f1 f2 group) x.1 x.2.1 x.2.2.1 x.2.2.2.1
theorem spec_FarmWant.tblOK : ∀ g fs S, spec_FarmWant.tbl g fs = some S → SumOK Try.prog g S := by
  intro g fs S h
  unfold spec_FarmWant.tbl at h
  split at h
  · rename_i hc; obtain ⟨rfl, rfl⟩ := hc; have := Option.some.inj h; subst this; exact ok_spec_FarmRight
  split at h
  · rename_i hc; obtain ⟨rfl, rfl⟩ := hc; have := Option.some.inj h; subst this; exact ok_spec_l05Wants
  split at h
  · rename_i hc; obtain ⟨rfl, rfl⟩ := hc; have := Option.some.inj h; subst this; exact ok_spec_l05Group
  split at h
  · rename_i hc; obtain ⟨rfl, rfl⟩ := hc; have := Option.some.inj h; subst this; exact ok_spec_l01Min
  cases h
theorem ok_spec_FarmWant : SumOK Try.prog 8 ⟨ins_spec_FarmWant, outs_spec_FarmWant, F_spec_FarmWant⟩ := runFn_ok (by kernel_rfl) spec_FarmWant.tblOK (by kernel_rfl) fun x y h => ⟨spec_FarmWant.cfg, _, (spec_FarmWant.run _ x.1 x.2.1 x.2.2.1 x.2.2.2.1).trans h⟩
abbrev ins_spec_l10Length : List Par := [.v false [CT.int .i64]]
abbrev outs_spec_l10Length : List (Bool × List CT) := [(false, [CT.bool])]
/-! ### loop.example/g00095/spec.l10Length (function 65) -/
noncomputable def spec_l10Length.tbl : Tbl := fun g fs => none
noncomputable def spec_l10Length.body : Code := ((Try.prog.funcs[65]?).bind (·.body)).getD .skip
def spec_l10Length.cfg : Nat → List Nat × List Nat := fun k => ([], [])
noncomputable def spec_l10Length.T  (n : Int) : Option (Bool × Unit) := cond (decide (n ≥ 1)) (some ((decide (n ≤ 1000)), ())) (some (false, ()))
theorem spec_l10Length.top (k0 : Nat) (n : Int) : runFn Try.prog spec_l10Length.tbl spec_l10Length.cfg k0 65 ins_spec_l10Length outs_spec_l10Length (n, ()) = spec_l10Length.T  n := by kernel_rfl
noncomputable def F_spec_l10Length : Int × Unit → Option (Bool × Unit) := fun x => spec_l10Length.T x.1
theorem spec_l10Length.tblOK : ∀ g fs S, spec_l10Length.tbl g fs = some S → SumOK Try.prog g S := by
  intro g fs S h
  unfold spec_l10Length.tbl at h
  cases h
theorem ok_spec_l10Length : SumOK Try.prog 65 ⟨ins_spec_l10Length, outs_spec_l10Length, F_spec_l10Length⟩ := runFn_ok (by kernel_rfl) spec_l10Length.tblOK (by kernel_rfl) fun x y h => ⟨spec_l10Length.cfg, 0, (spec_l10Length.top 0 x.1).trans h⟩
abbrev ins_spec_l07Time : List Par := [.v false [CT.int .i64]]
abbrev outs_spec_l07Time : List (Bool × List CT) := [(false, [CT.bool])]
/-! ### loop.example/g00095/spec.l07Time (function 67) -/
noncomputable def spec_l07Time.tbl : Tbl := fun g fs => none
noncomputable def spec_l07Time.body : Code := ((Try.prog.funcs[67]?).bind (·.body)).getD .skip
def spec_l07Time.cfg : Nat → List Nat × List Nat := fun k => ([], [])
noncomputable def spec_l07Time.T  (n : Int) : Option (Bool × Unit) := cond (decide (n ≥ 0)) (some ((decide (n ≤ 1000000)), ())) (some (false, ()))
theorem spec_l07Time.top (k0 : Nat) (n : Int) : runFn Try.prog spec_l07Time.tbl spec_l07Time.cfg k0 67 ins_spec_l07Time outs_spec_l07Time (n, ()) = spec_l07Time.T  n := by kernel_rfl
noncomputable def F_spec_l07Time : Int × Unit → Option (Bool × Unit) := fun x => spec_l07Time.T x.1
theorem spec_l07Time.tblOK : ∀ g fs S, spec_l07Time.tbl g fs = some S → SumOK Try.prog g S := by
  intro g fs S h
  unfold spec_l07Time.tbl at h
  cases h
theorem ok_spec_l07Time : SumOK Try.prog 67 ⟨ins_spec_l07Time, outs_spec_l07Time, F_spec_l07Time⟩ := runFn_ok (by kernel_rfl) spec_l07Time.tblOK (by kernel_rfl) fun x y h => ⟨spec_l07Time.cfg, 0, (spec_l07Time.top 0 x.1).trans h⟩
abbrev ins_spec_l07Lease : List Par := [.v true ct1]
abbrev outs_spec_l07Lease : List (Bool × List CT) := [(false, [CT.bool])]
/-! ### loop.example/g00095/spec.l07Lease (function 81) -/
noncomputable def spec_l07Lease.tbl : Tbl := fun g fs => if g = 52 ∧ fs = [] then some ⟨ins_spec_l02Want, outs_spec_l02Want, F_spec_l02Want⟩ else if g = 53 ∧ fs = [] then some ⟨ins_spec_l02Id, outs_spec_l02Id, F_spec_l02Id⟩ else if g = 67 ∧ fs = [] then some ⟨ins_spec_l07Time, outs_spec_l07Time, F_spec_l07Time⟩ else none
noncomputable def spec_l07Lease.body : Code := ((Try.prog.funcs[81]?).bind (·.body)).getD .skip
def spec_l07Lease.cfg : Nat → List Nat × List Nat := fun k => ([], [])
noncomputable def spec_l07Lease.T  (l0 : Int) (l1 : Int) (l2 : Int) : Option (Bool × Unit) := (F_spec_l02Id (l0, ())).bind fun y1 => cond y1.1 ((F_spec_l02Want (l1, ())).bind fun y2 => cond y2.1 ((F_spec_l07Time (l2, ())).bind fun y3 => some (y3.1, ())) (some (false, ()))) (some (false, ()))
theorem spec_l07Lease.top (k0 : Nat) (l0 : Int) (l1 : Int) (l2 : Int) : runFn Try.prog spec_l07Lease.tbl spec_l07Lease.cfg k0 81 ins_spec_l07Lease outs_spec_l07Lease (l0, l1, l2, ()) = spec_l07Lease.T  l0 l1 l2 := by kernel_rfl
noncomputable def F_spec_l07Lease : Int × Int × Int × Unit → Option (Bool × Unit) := fun x => spec_l07Lease.T x.1 x.2.1 x.2.2.1
theorem spec_l07Lease.tblOK : ∀ g fs S, spec_l07Lease.tbl g fs = some S → SumOK Try.prog g S := by
  intro g fs S h
  unfold spec_l07Lease.tbl at h
  split at h
  · rename_i hc; obtain ⟨rfl, rfl⟩ := hc; have := Option.some.inj h; subst this; exact ok_spec_l02Want
  split at h
  · rename_i hc; obtain ⟨rfl, rfl⟩ := hc; have := Option.some.inj h; subst this; exact ok_spec_l02Id
  split at h
  · rename_i hc; obtain ⟨rfl, rfl⟩ := hc; have := Option.some.inj h; subst this; exact ok_spec_l07Time
  cases h
theorem ok_spec_l07Lease : SumOK Try.prog 81 ⟨ins_spec_l07Lease, outs_spec_l07Lease, F_spec_l07Lease⟩ := runFn_ok (by kernel_rfl) spec_l07Lease.tblOK (by kernel_rfl) fun x y h => ⟨spec_l07Lease.cfg, 0, (spec_l07Lease.top 0 x.1 x.2.1 x.2.2.1).trans h⟩
abbrev ins_spec_LeasesRight : List Par := [.v false [CT.sl ct1]]
abbrev outs_spec_LeasesRight : List (Bool × List CT) := [(false, [CT.bool])]
/-! ### loop.example/g00095/spec.LeasesRight (function 66) -/
noncomputable def spec_LeasesRight.tbl : Tbl := fun g fs => if g = 81 ∧ fs = [] then some ⟨ins_spec_l07Lease, outs_spec_l07Lease, F_spec_l07Lease⟩ else none
noncomputable def spec_LeasesRight.body : Code := ((Try.prog.funcs[66]?).bind (·.body)).getD .skip
def spec_LeasesRight.cfg : Nat → List Nat × List Nat := fun k => if k = 4 then ([0, 3], [2]) else ([], [])
noncomputable def spec_LeasesRight.R0 {R : Type} (nx0 : ((List (Int × Int × Int × Unit)) → Int → Option R)) (ex0 : (Bool → Option R)) (ex1 : (Unit → Option R)) (list2 : List (Int × Int × Int × Unit)) (i : Int) : Option R := cond (decide (i < (list2.length : Int))) (if 0 ≤ i ∧ i < (list2.length : Int) then (F_spec_l07Lease ((rd (0, 0, 0, ()) list2 i).1, (rd (0, 0, 0, ()) list2 i).2.1, (rd (0, 0, 0, ()) list2 i).2.2.1, ())).bind fun y1 => cond (!y1.1) (ex0 false) (cond (decide (i > 0)) (if 0 ≤ i ∧ i < (list2.length : Int) then if 0 ≤ (w64 (i - 1)) ∧ (w64 (i - 1)) < (list2.length : Int) then cond (decide ((rd (0, 0, 0, ()) list2 i).1 ≤ (rd (0, 0, 0, ()) list2 (w64 (i - 1))).1)) (ex0 false) (nx0 list2 (w64 (i + 1))) else none else none) (nx0 list2 (w64 (i + 1)))) else none) (ex1 ())
noncomputable def spec_LeasesRight.A0  (list : List (Int × Int × Int × Unit)) (t2x : Bool) : Option (Bool × Unit) := some (t2x, ())
noncomputable def spec_LeasesRight.A1  (list : List (Int × Int × Int × Unit)) (_u : Unit) : Option (Bool × Unit) := some (true, ())
noncomputable def spec_LeasesRight.T (lo0 : ((List (Int × Int × Int × Unit)) → Int → Option (Bool × Unit))) (list : List (Int × Int × Int × Unit)) : Option (Bool × Unit) := cond (decide ((list.length : Int) > 60)) (some (false, ())) (lo0 list 0)
noncomputable def spec_LeasesRight.st0 {R : Type} (k0 : Nat) : Env → List Ob → Kont R → Option R := fun env ob K => runCode Try.prog spec_LeasesRight.tbl 37 0 spec_LeasesRight.cfg k0 (codeAt [1, 1, 0, 1, 0, 0] spec_LeasesRight.body) env ob K
noncomputable def spec_LeasesRight.K0 {R : Type} (k0 : Nat) (K : Kont R) : Kont R := blockK 0 (seqK (fun env ob => runCode Try.prog spec_LeasesRight.tbl 37 0 spec_LeasesRight.cfg k0 (codeAt [1, 1, 1] spec_LeasesRight.body) env ob (K)) (K))
noncomputable def spec_LeasesRight.L0 {R : Type} (k0 k : Nat) (K : Kont R) (list2 : List (Int × Int × Int × Unit)) (i : Int) : Option R := iter 0 [0, 3] [2] (spec_LeasesRight.st0 k0) k [(0, .sl ct1 list2), (3, .int .i64 i)] [] K
theorem spec_LeasesRight.s0 {R : Type} (k0 k : Nat) (K : Kont R) (list2 : List (Int × Int × Int × Unit)) (i : Int) : spec_LeasesRight.L0 k0 (k + 1) K list2 i = spec_LeasesRight.R0 (fun (list2 : List (Int × Int × Int × Unit)) (i : Int) => spec_LeasesRight.L0 k0 k K list2 i) (fun (t2x : Bool) => K .ret [(2, .bool t2x)] []) (fun (_ : Unit) => K (.exit 0) [(2, .undef)] []) list2 i := by kernel_rfl
theorem spec_LeasesRight.a0 (k0 : Nat) (list : List (Int × Int × Int × Unit)) (t2x : Bool) : spec_LeasesRight.K0 (R := (Bool × Unit)) k0 (finK Try.prog [.tmp 2] ins_spec_LeasesRight outs_spec_LeasesRight (list, ())) .ret [(2, .bool t2x)] [] = spec_LeasesRight.A0  list t2x := by kernel_rfl
theorem spec_LeasesRight.a1 (k0 : Nat) (list : List (Int × Int × Int × Unit))  : spec_LeasesRight.K0 (R := (Bool × Unit)) k0 (finK Try.prog [.tmp 2] ins_spec_LeasesRight outs_spec_LeasesRight (list, ())) (.exit 0) [(2, .undef)] [] = spec_LeasesRight.A1  list () := by kernel_rfl
theorem spec_LeasesRight.top (k0 : Nat) (list : List (Int × Int × Int × Unit)) : runFn Try.prog spec_LeasesRight.tbl spec_LeasesRight.cfg k0 66 ins_spec_LeasesRight outs_spec_LeasesRight (list, ()) = spec_LeasesRight.T (fun (list2 : List (Int × Int × Int × Unit)) (i : Int) => spec_LeasesRight.L0 (R := (Bool × Unit)) k0 k0 (spec_LeasesRight.K0 (R := (Bool × Unit)) k0 ((finK Try.prog [.tmp 2] ins_spec_LeasesRight outs_spec_LeasesRight (list, ())))) list2 i) list := by kernel_rfl
noncomputable def spec_LeasesRight.G0 {R : Type} (k0 : Nat) (hx0 : (Bool → Option R)) (hx1 : (Unit → Option R)) : Nat → (List (Int × Int × Int × Unit)) → Int → Option R
  | 0, _, _ => none
  | k + 1, list2, i => spec_LeasesRight.R0 (fun (list2 : List (Int × Int × Int × Unit)) (i : Int) => spec_LeasesRight.G0 k0 hx0 hx1 k list2 i) (fun (t2x : Bool) => hx0 t2x) (fun (_ : Unit) => hx1 ()) list2 i
theorem spec_LeasesRight.g0 {R : Type} (k0 : Nat) (K : Kont R) : ∀ (k : Nat) (list2 : List (Int × Int × Int × Unit)) (i : Int), spec_LeasesRight.L0 k0 k K list2 i = spec_LeasesRight.G0 k0 (fun (t2x : Bool) => K .ret [(2, .bool t2x)] []) (fun (_ : Unit) => K (.exit 0) [(2, .undef)] []) k list2 i := by
  intro k
  induction k with
  | zero => intros; rfl
  | succ k ih => intros; rw [spec_LeasesRight.s0, spec_LeasesRight.G0]; (try simp only [ih]); try rfl
noncomputable def spec_LeasesRight.FF (k0 : Nat) (list : List (Int × Int × Int × Unit)) : Option (Bool × Unit) := spec_LeasesRight.T (fun (list2 : List (Int × Int × Int × Unit)) (i : Int) => spec_LeasesRight.G0 k0 (fun (t2x : Bool) => spec_LeasesRight.A0  list t2x) (fun (_ : Unit) => spec_LeasesRight.A1  list ()) k0 list2 i) list
theorem spec_LeasesRight.run (k0 : Nat) (list : List (Int × Int × Int × Unit)) : runFn Try.prog spec_LeasesRight.tbl spec_LeasesRight.cfg k0 66 ins_spec_LeasesRight outs_spec_LeasesRight (list, ()) = spec_LeasesRight.FF k0 list := by
  rw [spec_LeasesRight.top, spec_LeasesRight.FF]; (try simp only [spec_LeasesRight.g0, spec_LeasesRight.a0, spec_LeasesRight.a1]); try rfl
noncomputable def F_spec_LeasesRight : (List (Int × Int × Int × Unit)) × Unit → Option (Bool × Unit) := fun x => (fun (list : List (Int × Int × Int × Unit)) => spec_LeasesRight.FF (300 + list.length) list) x.1
theorem spec_LeasesRight.tblOK : ∀ g fs S, spec_LeasesRight.tbl g fs = some S → SumOK Try.prog g S := by
  intro g fs S h
  unfold spec_LeasesRight.tbl at h
  split at h
  · rename_i hc; obtain ⟨rfl, rfl⟩ := hc; have := Option.some.inj h; subst this; exact ok_spec_l07Lease
  cases h
theorem ok_spec_LeasesRight : SumOK Try.prog 66 ⟨ins_spec_LeasesRight, outs_spec_LeasesRight, F_spec_LeasesRight⟩ := runFn_ok (by kernel_rfl) spec_LeasesRight.tblOK (by kernel_rfl) fun x y h => ⟨spec_LeasesRight.cfg, _, (spec_LeasesRight.run _ x.1).trans h⟩
abbrev ins_spec_ServerRight : List Par := [.v true ct3]
abbrev outs_spec_ServerRight : List (Bool × List CT) := [(false, [CT.bool])]
/-! ### loop.example/g00095/spec.ServerRight (function 37) -/
noncomputable def spec_ServerRight.tbl : Tbl := fun g fs => if g = 25 ∧ fs = [] then some ⟨ins_spec_FarmRight, outs_spec_FarmRight, F_spec_FarmRight⟩ else if g = 65 ∧ fs = [] then some ⟨ins_spec_l10Length, outs_spec_l10Length, F_spec_l10Length⟩ else if g = 66 ∧ fs = [] then some ⟨ins_spec_LeasesRight, outs_spec_LeasesRight, F_spec_LeasesRight⟩ else none
noncomputable def spec_ServerRight.body : Code := ((Try.prog.funcs[37]?).bind (·.body)).getD .skip
def spec_ServerRight.cfg : Nat → List Nat × List Nat := fun k => if k = 4 then ([1, 3], [2]) else ([], [])
noncomputable def spec_ServerRight.R0 {R : Type} (nx0 : (Int → Int → Int → Int → Int → (List (Int × Int × Int × Int × Unit)) → (List (Int × Int × Int × Int × Unit)) → (List (Int × Int × Int × Unit)) → Option R)) (ex0 : (Bool → Option R)) (ex1 : (Unit → Option R)) (i : Int) (s : Int) (s7 : Int) (s8 : Int) (s9 : Int) (s10 : List (Int × Int × Int × Int × Unit)) (s11 : List (Int × Int × Int × Int × Unit)) (s12 : List (Int × Int × Int × Unit)) : Option R := cond (decide (i < (s12.length : Int))) (if 0 ≤ i ∧ i < (s12.length : Int) then if 0 ≤ i ∧ i < (s11.length : Int) then cond ((rd (0, 0, 0, ()) s12 i).1 != (rd (0, 0, 0, 0, ()) s11 i).1) (ex0 false) (if 0 ≤ i ∧ i < (s12.length : Int) then cond (decide ((rd (0, 0, 0, ()) s12 i).2.2.1 ≤ s8)) (ex0 false) (if 0 ≤ i ∧ i < (s12.length : Int) then cond (decide ((rd (0, 0, 0, ()) s12 i).2.2.1 > (w64 (s8 + s)))) (ex0 false) (nx0 (w64 (i + 1)) s s7 s8 s9 s10 s11 s12) else none) else none) else none else none) (ex1 ())
noncomputable def spec_ServerRight.A0  (s0 : Int) (s1 : Int) (s2 : Int) (s3 : Int) (s4 : List (Int × Int × Int × Int × Unit)) (s5 : List (Int × Int × Int × Int × Unit)) (s6 : List (Int × Int × Int × Unit)) (t2x : Bool) : Option (Bool × Unit) := some (t2x, ())
noncomputable def spec_ServerRight.A1  (s0 : Int) (s1 : Int) (s2 : Int) (s3 : Int) (s4 : List (Int × Int × Int × Int × Unit)) (s5 : List (Int × Int × Int × Int × Unit)) (s6 : List (Int × Int × Int × Unit)) (_u : Unit) : Option (Bool × Unit) := some (true, ())
noncomputable def spec_ServerRight.T (lo0 : (Int → Int → Int → Int → Int → (List (Int × Int × Int × Int × Unit)) → (List (Int × Int × Int × Int × Unit)) → (List (Int × Int × Int × Unit)) → Option (Bool × Unit))) (s0 : Int) (s1 : Int) (s2 : Int) (s3 : Int) (s4 : List (Int × Int × Int × Int × Unit)) (s5 : List (Int × Int × Int × Int × Unit)) (s6 : List (Int × Int × Int × Unit)) : Option (Bool × Unit) := (F_spec_l10Length (s0, ())).bind fun y1 => cond (!y1.1) (some (false, ())) (cond (decide (s1 < 0)) (some (false, ())) (cond (decide (s1 > s2)) (some (false, ())) (cond (decide (s2 > 999000)) (some (false, ())) ((F_spec_FarmRight (s3, s4, s5, ())).bind fun y2 => cond (!y2.1) (some (false, ())) ((F_spec_LeasesRight (s6, ())).bind fun y3 => cond (!y3.1) (some (false, ())) (cond ((s6.length : Int) != (s5.length : Int)) (some (false, ())) (lo0 0 s0 s1 s2 s3 s4 s5 s6)))))))
noncomputable def spec_ServerRight.st0 {R : Type} (k0 : Nat) : Env → List Ob → Kont R → Option R := fun env ob K => runCode Try.prog spec_ServerRight.tbl 93 0 spec_ServerRight.cfg k0 (codeAt [1, 1, 0, 1, 0, 0] spec_ServerRight.body) env ob K
noncomputable def spec_ServerRight.K0 {R : Type} (k0 : Nat) (K : Kont R) : Kont R := blockK 0 (seqK (fun env ob => runCode Try.prog spec_ServerRight.tbl 93 0 spec_ServerRight.cfg k0 (codeAt [1, 1, 1] spec_ServerRight.body) env ob (K)) (K))
noncomputable def spec_ServerRight.L0 {R : Type} (k0 k : Nat) (K : Kont R) (i : Int) (s : Int) (s7 : Int) (s8 : Int) (s9 : Int) (s10 : List (Int × Int × Int × Int × Unit)) (s11 : List (Int × Int × Int × Int × Unit)) (s12 : List (Int × Int × Int × Unit)) : Option R := iter 0 [1, 3] [2] (spec_ServerRight.st0 k0) k [(1, .ptr 0 0 0 0), (3, .int .i64 i)] [.box [.int .i64 s, .int .i64 s7, .int .i64 s8, .int .i64 s9, .sl ct0 s10, .sl ct0 s11, .sl ct1 s12]] K
theorem spec_ServerRight.s0 {R : Type} (k0 k : Nat) (K : Kont R) (i : Int) (s : Int) (s7 : Int) (s8 : Int) (s9 : Int) (s10 : List (Int × Int × Int × Int × Unit)) (s11 : List (Int × Int × Int × Int × Unit)) (s12 : List (Int × Int × Int × Unit)) : spec_ServerRight.L0 k0 (k + 1) K i s s7 s8 s9 s10 s11 s12 = spec_ServerRight.R0 (fun (i : Int) (s : Int) (s7 : Int) (s8 : Int) (s9 : Int) (s10 : List (Int × Int × Int × Int × Unit)) (s11 : List (Int × Int × Int × Int × Unit)) (s12 : List (Int × Int × Int × Unit)) => spec_ServerRight.L0 k0 k K i s s7 s8 s9 s10 s11 s12) (fun (t2x : Bool) => K .ret [(2, .bool t2x)] []) (fun (_ : Unit) => K (.exit 0) [(2, .undef)] []) i s s7 s8 s9 s10 s11 s12 := by kernel_rfl
theorem spec_ServerRight.a0 (k0 : Nat) (s0 : Int) (s1 : Int) (s2 : Int) (s3 : Int) (s4 : List (Int × Int × Int × Int × Unit)) (s5 : List (Int × Int × Int × Int × Unit)) (s6 : List (Int × Int × Int × Unit)) (t2x : Bool) : spec_ServerRight.K0 (R := (Bool × Unit)) k0 (finK Try.prog [.tmp 2] ins_spec_ServerRight outs_spec_ServerRight (s0, s1, s2, s3, s4, s5, s6, ())) .ret [(2, .bool t2x)] [] = spec_ServerRight.A0  s0 s1 s2 s3 s4 s5 s6 t2x := by kernel_rfl
theorem spec_ServerRight.a1 (k0 : Nat) (s0 : Int) (s1 : Int) (s2 : Int) (s3 : Int) (s4 : List (Int × Int × Int × Int × Unit)) (s5 : List (Int × Int × Int × Int × Unit)) (s6 : List (Int × Int × Int × Unit))  : spec_ServerRight.K0 (R := (Bool × Unit)) k0 (finK Try.prog [.tmp 2] ins_spec_ServerRight outs_spec_ServerRight (s0, s1, s2, s3, s4, s5, s6, ())) (.exit 0) [(2, .undef)] [] = spec_ServerRight.A1  s0 s1 s2 s3 s4 s5 s6 () := by kernel_rfl
theorem spec_ServerRight.top (k0 : Nat) (s0 : Int) (s1 : Int) (s2 : Int) (s3 : Int) (s4 : List (Int × Int × Int × Int × Unit)) (s5 : List (Int × Int × Int × Int × Unit)) (s6 : List (Int × Int × Int × Unit)) : runFn Try.prog spec_ServerRight.tbl spec_ServerRight.cfg k0 37 ins_spec_ServerRight outs_spec_ServerRight (s0, s1, s2, s3, s4, s5, s6, ()) = spec_ServerRight.T (fun (i : Int) (s : Int) (s7 : Int) (s8 : Int) (s9 : Int) (s10 : List (Int × Int × Int × Int × Unit)) (s11 : List (Int × Int × Int × Int × Unit)) (s12 : List (Int × Int × Int × Unit)) => spec_ServerRight.L0 (R := (Bool × Unit)) k0 k0 (spec_ServerRight.K0 (R := (Bool × Unit)) k0 ((finK Try.prog [.tmp 2] ins_spec_ServerRight outs_spec_ServerRight (s0, s1, s2, s3, s4, s5, s6, ())))) i s s7 s8 s9 s10 s11 s12) s0 s1 s2 s3 s4 s5 s6 := by kernel_rfl
noncomputable def spec_ServerRight.G0 {R : Type} (k0 : Nat) (hx0 : (Bool → Option R)) (hx1 : (Unit → Option R)) : Nat → Int → Int → Int → Int → Int → (List (Int × Int × Int × Int × Unit)) → (List (Int × Int × Int × Int × Unit)) → (List (Int × Int × Int × Unit)) → Option R
  | 0, _, _, _, _, _, _, _, _ => none
  | k + 1, i, s, s7, s8, s9, s10, s11, s12 => spec_ServerRight.R0 (fun (i : Int) (s : Int) (s7 : Int) (s8 : Int) (s9 : Int) (s10 : List (Int × Int × Int × Int × Unit)) (s11 : List (Int × Int × Int × Int × Unit)) (s12 : List (Int × Int × Int × Unit)) => spec_ServerRight.G0 k0 hx0 hx1 k i s s7 s8 s9 s10 s11 s12) (fun (t2x : Bool) => hx0 t2x) (fun (_ : Unit) => hx1 ()) i s s7 s8 s9 s10 s11 s12
theorem spec_ServerRight.g0 {R : Type} (k0 : Nat) (K : Kont R) : ∀ (k : Nat) (i : Int) (s : Int) (s7 : Int) (s8 : Int) (s9 : Int) (s10 : List (Int × Int × Int × Int × Unit)) (s11 : List (Int × Int × Int × Int × Unit)) (s12 : List (Int × Int × Int × Unit)), spec_ServerRight.L0 k0 k K i s s7 s8 s9 s10 s11 s12 = spec_ServerRight.G0 k0 (fun (t2x : Bool) => K .ret [(2, .bool t2x)] []) (fun (_ : Unit) => K (.exit 0) [(2, .undef)] []) k i s s7 s8 s9 s10 s11 s12 := by
  intro k
  induction k with
  | zero => intros; rfl
  | succ k ih => intros; rw [spec_ServerRight.s0, spec_ServerRight.G0]; (try simp only [ih]); try rfl
noncomputable def spec_ServerRight.FF (k0 : Nat) (s0 : Int) (s1 : Int) (s2 : Int) (s3 : Int) (s4 : List (Int × Int × Int × Int × Unit)) (s5 : List (Int × Int × Int × Int × Unit)) (s6 : List (Int × Int × Int × Unit)) : Option (Bool × Unit) := spec_ServerRight.T (fun (i : Int) (s : Int) (s7 : Int) (s8 : Int) (s9 : Int) (s10 : List (Int × Int × Int × Int × Unit)) (s11 : List (Int × Int × Int × Int × Unit)) (s12 : List (Int × Int × Int × Unit)) => spec_ServerRight.G0 k0 (fun (t2x : Bool) => spec_ServerRight.A0  s0 s1 s2 s3 s4 s5 s6 t2x) (fun (_ : Unit) => spec_ServerRight.A1  s0 s1 s2 s3 s4 s5 s6 ()) k0 i s s7 s8 s9 s10 s11 s12) s0 s1 s2 s3 s4 s5 s6
theorem spec_ServerRight.run (k0 : Nat) (s0 : Int) (s1 : Int) (s2 : Int) (s3 : Int) (s4 : List (Int × Int × Int × Int × Unit)) (s5 : List (Int × Int × Int × Int × Unit)) (s6 : List (Int × Int × Int × Unit)) : runFn Try.prog spec_ServerRight.tbl spec_ServerRight.cfg k0 37 ins_spec_ServerRight outs_spec_ServerRight (s0, s1, s2, s3, s4, s5, s6, ()) = spec_ServerRight.FF k0 s0 s1 s2 s3 s4 s5 s6 := by
  rw [spec_ServerRight.top, spec_ServerRight.FF]; (try simp only [spec_ServerRight.g0, spec_ServerRight.a0, spec_ServerRight.a1]); try rfl
noncomputable def F_spec_ServerRight : Int × Int × Int × Int × (List (Int × Int × Int × Int × Unit)) × (List (Int × Int × Int × Int × Unit)) × (List (Int × Int × Int × Unit)) × Unit → Option (Bool × Unit) := fun x => (fun (s0 : Int) (s1 : Int) (s2 : Int) (s3 : Int) (s4 : List (Int × Int × Int × Int × Unit)) (s5 : List (Int × Int × Int × Int × Unit)) (s6 : List (Int × Int × Int × Unit)) => spec_ServerRight.FF (300 + s4.length + s5.length + s6.length) s0 s1 s2 s3 s4 s5 s6) x.1 x.2.1 x.2.2.1 x.2.2.2.1 x.2.2.2.2.1 x.2.2.2.2.2.1 x.2.2.2.2.2.2.1
theorem spec_ServerRight.tblOK : ∀ g fs S, spec_ServerRight.tbl g fs = some S → SumOK Try.prog g S := by
  intro g fs S h
  unfold spec_ServerRight.tbl at h
  split at h
  · rename_i hc; obtain ⟨rfl, rfl⟩ := hc; have := Option.some.inj h; subst this; exact ok_spec_FarmRight
  split at h
  · rename_i hc; obtain ⟨rfl, rfl⟩ := hc; have := Option.some.inj h; subst this; exact ok_spec_l10Length
  split at h
  · rename_i hc; obtain ⟨rfl, rfl⟩ := hc; have := Option.some.inj h; subst this; exact ok_spec_LeasesRight
  cases h
theorem ok_spec_ServerRight : SumOK Try.prog 37 ⟨ins_spec_ServerRight, outs_spec_ServerRight, F_spec_ServerRight⟩ := runFn_ok (by kernel_rfl) spec_ServerRight.tblOK (by kernel_rfl) fun x y h => ⟨spec_ServerRight.cfg, _, (spec_ServerRight.run _ x.1 x.2.1 x.2.2.1 x.2.2.2.1 x.2.2.2.2.1 x.2.2.2.2.2.1 x.2.2.2.2.2.2.1).trans h⟩
abbrev ins_spec_ClientRight : List Par := [.v true ct5]
abbrev outs_spec_ClientRight : List (Bool × List CT) := [(false, [CT.bool])]
/-! ### loop.example/g00095/spec.ClientRight (function 38) -/
noncomputable def spec_ClientRight.tbl : Tbl := fun g fs => if g = 52 ∧ fs = [] then some ⟨ins_spec_l02Want, outs_spec_l02Want, F_spec_l02Want⟩ else if g = 53 ∧ fs = [] then some ⟨ins_spec_l02Id, outs_spec_l02Id, F_spec_l02Id⟩ else if g = 54 ∧ fs = [] then some ⟨ins_spec_l02Weight, outs_spec_l02Weight, F_spec_l02Weight⟩ else if g = 67 ∧ fs = [] then some ⟨ins_spec_l07Time, outs_spec_l07Time, F_spec_l07Time⟩ else none
noncomputable def spec_ClientRight.body : Code := ((Try.prog.funcs[38]?).bind (·.body)).getD .skip
def spec_ClientRight.cfg : Nat → List Nat × List Nat := fun k => ([], [])
noncomputable def spec_ClientRight.T  (c0 : Int) (c1 : Int) (c2 : Int) (c3 : Int) (c4 : Int) (c5 : Int) (c6 : Int) (c7 : Int) (c8 : Int) (c9 : Int) : Option (Bool × Unit) := (F_spec_l02Id (c0, ())).bind fun y1 => cond y1.1 (cond (c1 == 0) ((F_spec_l02Want (c2, ())).bind fun y2 => cond y2.1 ((F_spec_l02Weight (c3, ())).bind fun y3 => cond y3.1 ((F_spec_l02Want (c4, ())).bind fun y4 => cond y4.1 ((F_spec_l07Time (c5, ())).bind fun y5 => cond y5.1 ((F_spec_l07Time (c6, ())).bind fun y6 => cond y6.1 ((F_spec_l07Time (c7, ())).bind fun y7 => cond y7.1 ((F_spec_l07Time (c9, ())).bind fun y8 => cond y8.1 (cond (decide (c8 ≥ 1)) (some ((decide (c8 ≤ 64)), ())) (some (false, ()))) (some (false, ()))) (some (false, ()))) (some (false, ()))) (some (false, ()))) (some (false, ()))) (some (false, ()))) (some (false, ()))) ((F_spec_l02Id (c1, ())).bind fun y9 => cond y9.1 ((F_spec_l02Want (c2, ())).bind fun y10 => cond y10.1 ((F_spec_l02Weight (c3, ())).bind fun y11 => cond y11.1 ((F_spec_l02Want (c4, ())).bind fun y12 => cond y12.1 ((F_spec_l07Time (c5, ())).bind fun y13 => cond y13.1 ((F_spec_l07Time (c6, ())).bind fun y14 => cond y14.1 ((F_spec_l07Time (c7, ())).bind fun y15 => cond y15.1 ((F_spec_l07Time (c9, ())).bind fun y16 => cond y16.1 (cond (decide (c8 ≥ 1)) (some ((decide (c8 ≤ 64)), ())) (some (false, ()))) (some (false, ()))) (some (false, ()))) (some (false, ()))) (some (false, ()))) (some (false, ()))) (some (false, ()))) (some (false, ()))) (some (false, ())))) (some (false, ()))
theorem spec_ClientRight.top (k0 : Nat) (c0 : Int) (c1 : Int) (c2 : Int) (c3 : Int) (c4 : Int) (c5 : Int) (c6 : Int) (c7 : Int) (c8 : Int) (c9 : Int) : runFn Try.prog spec_ClientRight.tbl spec_ClientRight.cfg k0 38 ins_spec_ClientRight outs_spec_ClientRight (c0, c1, c2, c3, c4, c5, c6, c7, c8, c9, ()) = spec_ClientRight.T  c0 c1 c2 c3 c4 c5 c6 c7 c8 c9 := by kernel_rfl
noncomputable def F_spec_ClientRight : Int × Int × Int × Int × Int × Int × Int × Int × Int × Int × Unit → Option (Bool × Unit) := fun x => spec_ClientRight.T x.1 x.2.1 x.2.2.1 x.2.2.2.1 x.2.2.2.2.1 x.2.2.2.2.2.1 x.2.2.2.2.2.2.1 x.2.2.2.2.2.2.2.1 x.2.2.2.2.2.2.2.2.1 x.2.2.2.2.2.2.2.2.2.1
theorem spec_ClientRight.tblOK : ∀ g fs S, spec_ClientRight.tbl g fs = some S → SumOK Try.prog g S := by
  intro g fs S h
  unfold spec_ClientRight.tbl at h
  split at h
  · rename_i hc; obtain ⟨rfl, rfl⟩ := hc; have := Option.some.inj h; subst this; exact ok_spec_l02Want
  split at h
  · rename_i hc; obtain ⟨rfl, rfl⟩ := hc; have := Option.some.inj h; subst this; exact ok_spec_l02Id
  split at h
  · rename_i hc; obtain ⟨rfl, rfl⟩ := hc; have := Option.some.inj h; subst this; exact ok_spec_l02Weight
  split at h
  · rename_i hc; obtain ⟨rfl, rfl⟩ := hc; have := Option.some.inj h; subst this; exact ok_spec_l07Time
  cases h
theorem ok_spec_ClientRight : SumOK Try.prog 38 ⟨ins_spec_ClientRight, outs_spec_ClientRight, F_spec_ClientRight⟩ := runFn_ok (by kernel_rfl) spec_ClientRight.tblOK (by kernel_rfl) fun x y h => ⟨spec_ClientRight.cfg, 0, (spec_ClientRight.top 0 x.1 x.2.1 x.2.2.1 x.2.2.2.1 x.2.2.2.2.1 x.2.2.2.2.2.1 x.2.2.2.2.2.2.1 x.2.2.2.2.2.2.2.1 x.2.2.2.2.2.2.2.2.1 x.2.2.2.2.2.2.2.2.2.1).trans h⟩
abbrev ins_spec_RelayRight : List Par := [.v true ct2]
abbrev outs_spec_RelayRight : List (Bool × List CT) := [(false, [CT.bool])]
/-! ### loop.example/g00095/spec.RelayRight (function 13) -/
noncomputable def spec_RelayRight.tbl : Tbl := fun g fs => if g = 37 ∧ fs = [] then some ⟨ins_spec_ServerRight, outs_spec_ServerRight, F_spec_ServerRight⟩ else if g = 38 ∧ fs = [] then some ⟨ins_spec_ClientRight, outs_spec_ClientRight, F_spec_ClientRight⟩ else none
noncomputable def spec_RelayRight.body : Code := ((Try.prog.funcs[13]?).bind (·.body)).getD .skip
def spec_RelayRight.cfg : Nat → List Nat × List Nat := fun k => ([], [])
noncomputable def spec_RelayRight.T  (r0 : Int) (r1 : Int) (r2 : Int) (r3 : Int) (r4 : List (Int × Int × Int × Int × Unit)) (r5 : List (Int × Int × Int × Int × Unit)) (r6 : List (Int × Int × Int × Unit)) (r7 : Int) (r8 : Int) (r9 : Int) (r10 : Int) (r11 : Int) (r12 : Int) (r13 : Int) (r14 : Int) (r15 : Int) (r16 : Int) : Option (Bool × Unit) := (F_spec_ServerRight (r0, r1, r2, r3, r4, r5, r6, ())).bind fun y1 => cond y1.1 ((F_spec_ClientRight (r7, r8, r9, r10, r11, r12, r13, r14, r15, r16, ())).bind fun y2 => some (y2.1, ())) (some (false, ()))
theorem spec_RelayRight.top (k0 : Nat) (r0 : Int) (r1 : Int) (r2 : Int) (r3 : Int) (r4 : List (Int × Int × Int × Int × Unit)) (r5 : List (Int × Int × Int × Int × Unit)) (r6 : List (Int × Int × Int × Unit)) (r7 : Int) (r8 : Int) (r9 : Int) (r10 : Int) (r11 : Int) (r12 : Int) (r13 : Int) (r14 : Int) (r15 : Int) (r16 : Int) : runFn Try.prog spec_RelayRight.tbl spec_RelayRight.cfg k0 13 ins_spec_RelayRight outs_spec_RelayRight (r0, r1, r2, r3, r4, r5, r6, r7, r8, r9, r10, r11, r12, r13, r14, r15, r16, ()) = spec_RelayRight.T  r0 r1 r2 r3 r4 r5 r6 r7 r8 r9 r10 r11 r12 r13 r14 r15 r16 := by kernel_rfl
noncomputable def F_spec_RelayRight : Int × Int × Int × Int × (List (Int × Int × Int × Int × Unit)) × (List (Int × Int × Int × Int × Unit)) × (List (Int × Int × Int × Unit)) × Int × Int × Int × Int × Int × Int × Int × Int × Int × Int × Unit → Option (Bool × Unit) := fun x => spec_RelayRight.T x.1 x.2.1 x.2.2.1 x.2.2.2.1 x.2.2.2.2.1 x.2.2.2.2.2.1 x.2.2.2.2.2.2.1 x.2.2.2.2.2.2.2.1 x.2.2.2.2.2.2.2.2.1 x.2.2.2.2.2.2.2.2.2.1 x.2.2.2.2.2.2.2.2.2.2.1 x.2.2.2.2.2.2.2.2.2.2.2.1 x.2.2.2.2.2.2.2.2.2.2.2.2.1 x.2.2.2.2.2.2.2.2.2.2.2.2.2.1 x.2.2.2.2.2.2.2.2.2.2.2.2.2.2.1 x.2.2.2.2.2.2.2.2.2.2.2.2.2.2.2.1 x.2.2.2.2.2.2.2.2.2.2.2.2.2.2.2.2.1
theorem spec_RelayRight.tblOK : ∀ g fs S, spec_RelayRight.tbl g fs = some S → SumOK Try.prog g S := by
  intro g fs S h
  unfold spec_RelayRight.tbl at h
  split at h
  · rename_i hc; obtain ⟨rfl, rfl⟩ := hc; have := Option.some.inj h; subst this; exact ok_spec_ServerRight
  split at h
  · rename_i hc; obtain ⟨rfl, rfl⟩ := hc; have := Option.some.inj h; subst this; exact ok_spec_ClientRight
  cases h
theorem ok_spec_RelayRight : SumOK Try.prog 13 ⟨ins_spec_RelayRight, outs_spec_RelayRight, F_spec_RelayRight⟩ := runFn_ok (by kernel_rfl) spec_RelayRight.tblOK (by kernel_rfl) fun x y h => ⟨spec_RelayRight.cfg, 0, (spec_RelayRight.top 0 x.1 x.2.1 x.2.2.1 x.2.2.2.1 x.2.2.2.2.1 x.2.2.2.2.2.1 x.2.2.2.2.2.2.1 x.2.2.2.2.2.2.2.1 x.2.2.2.2.2.2.2.2.1 x.2.2.2.2.2.2.2.2.2.1 x.2.2.2.2.2.2.2.2.2.2.1 x.2.2.2.2.2.2.2.2.2.2.2.1 x.2.2.2.2.2.2.2.2.2.2.2.2.1 x.2.2.2.2.2.2.2.2.2.2.2.2.2.1 x.2.2.2.2.2.2.2.2.2.2.2.2.2.2.1 x.2.2.2.2.2.2.2.2.2.2.2.2.2.2.2.1 x.2.2.2.2.2.2.2.2.2.2.2.2.2.2.2.2.1).trans h⟩
abbrev ins_spec_RelayWant : List Par := [.v true ct2]
abbrev outs_spec_RelayWant : List (Bool × List CT) := [(false, [CT.int .i64])]
/-! ### loop.example/g00095/spec.RelayWant (function 21) -/
noncomputable def spec_RelayWant.tbl : Tbl := fun g fs => if g = 8 ∧ fs = [] then some ⟨ins_spec_FarmWant, outs_spec_FarmWant, F_spec_FarmWant⟩ else if g = 13 ∧ fs = [] then some ⟨ins_spec_RelayRight, outs_spec_RelayRight, F_spec_RelayRight⟩ else none
noncomputable def spec_RelayWant.body : Code := ((Try.prog.funcs[21]?).bind (·.body)).getD .skip
def spec_RelayWant.cfg : Nat → List Nat × List Nat := fun k => ([], [])
noncomputable def spec_RelayWant.T  (r0 : Int) (r1 : Int) (r2 : Int) (r3 : Int) (r4 : List (Int × Int × Int × Int × Unit)) (r5 : List (Int × Int × Int × Int × Unit)) (r6 : List (Int × Int × Int × Unit)) (r7 : Int) (r8 : Int) (r9 : Int) (r10 : Int) (r11 : Int) (r12 : Int) (r13 : Int) (r14 : Int) (r15 : Int) (r16 : Int) : Option (Int × Unit) := (F_spec_RelayRight (r0, r1, r2, r3, r4, r5, r6, r7, r8, r9, r10, r11, r12, r13, r14, r15, r16, ())).bind fun y1 => cond (!y1.1) (some (0, ())) ((F_spec_FarmWant (1125899906842624, r4, r5, 0, ())).bind fun y2 => some (y2.1, ()))
theorem spec_RelayWant.top (k0 : Nat) (r0 : Int) (r1 : Int) (r2 : Int) (r3 : Int) (r4 : List (Int × Int × Int × Int × Unit)) (r5 : List (Int × Int × Int × Int × Unit)) (r6 : List (Int × Int × Int × Unit)) (r7 : Int) (r8 : Int) (r9 : Int) (r10 : Int) (r11 : Int) (r12 : Int) (r13 : Int) (r14 : Int) (r15 : Int) (r16 : Int) : runFn Try.prog spec_RelayWant.tbl spec_RelayWant.cfg k0 21 ins_spec_RelayWant outs_spec_RelayWant (r0, r1, r2, r3, r4, r5, r6, r7, r8, r9, r10, r11, r12, r13, r14, r15, r16, ()) = spec_RelayWant.T  r0 r1 r2 r3 r4 r5 r6 r7 r8 r9 r10 r11 r12 r13 r14 r15 r16 := by kernel_rfl
noncomputable def F_spec_RelayWant : Int × Int × Int × Int × (List (Int × Int × Int × Int × Unit)) × (List (Int × Int × Int × Int × Unit)) × (List (Int × Int × Int × Unit)) × Int × Int × Int × Int × Int × Int × Int × Int × Int × Int × Unit → Option (Int × Unit) := fun x => spec_RelayWant.T x.1 x.2.1 x.2.2.1 x.2.2.2.1 x.2.2.2.2.1 x.2.2.2.2.2.1 x.2.2.2.2.2.2.1 x.2.2.2.2.2.2.2.1 x.2.2.2.2.2.2.2.2.1 x.2.2.2.2.2.2.2.2.2.1 x.2.2.2.2.2.2.2.2.2.2.1 x.2.2.2.2.2.2.2.2.2.2.2.1 x.2.2.2.2.2.2.2.2.2.2.2.2.1 x.2.2.2.2.2.2.2.2.2.2.2.2.2.1 x.2.2.2.2.2.2.2.2.2.2.2.2.2.2.1 x.2.2.2.2.2.2.2.2.2.2.2.2.2.2.2.1 x.2.2.2.2.2.2.2.2.2.2.2.2.2.2.2.2.1
theorem spec_RelayWant.tblOK : ∀ g fs S, spec_RelayWant.tbl g fs = some S → SumOK Try.prog g S := by
  intro g fs S h
  unfold spec_RelayWant.tbl at h
  split at h
  · rename_i hc; obtain ⟨rfl, rfl⟩ := hc; have := Option.some.inj h; subst this; exact ok_spec_FarmWant
  split at h
  · rename_i hc; obtain ⟨rfl, rfl⟩ := hc; have := Option.some.inj h; subst this; exact ok_spec_RelayRight
  cases h
theorem ok_spec_RelayWant : SumOK Try.prog 21 ⟨ins_spec_RelayWant, outs_spec_RelayWant, F_spec_RelayWant⟩ := runFn_ok (by kernel_rfl) spec_RelayWant.tblOK (by kernel_rfl) fun x y h => ⟨spec_RelayWant.cfg, 0, (spec_RelayWant.top 0 x.1 x.2.1 x.2.2.1 x.2.2.2.1 x.2.2.2.2.1 x.2.2.2.2.2.1 x.2.2.2.2.2.2.1 x.2.2.2.2.2.2.2.1 x.2.2.2.2.2.2.2.2.1 x.2.2.2.2.2.2.2.2.2.1 x.2.2.2.2.2.2.2.2.2.2.1 x.2.2.2.2.2.2.2.2.2.2.2.1 x.2.2.2.2.2.2.2.2.2.2.2.2.1 x.2.2.2.2.2.2.2.2.2.2.2.2.2.1 x.2.2.2.2.2.2.2.2.2.2.2.2.2.2.1 x.2.2.2.2.2.2.2.2.2.2.2.2.2.2.2.1 x.2.2.2.2.2.2.2.2.2.2.2.2.2.2.2.2.1).trans h⟩
abbrev ins_cmp_isNaN_int64 : List Par := [.v false [CT.int .i64]]
abbrev outs_cmp_isNaN_int64 : List (Bool × List CT) := [(false, [CT.bool])]
/-! ### cmp.isNaN[int64] (function 89) -/
noncomputable def cmp_isNaN_int64.tbl : Tbl := fun g fs => none
noncomputable def cmp_isNaN_int64.body : Code := ((Try.prog.funcs[89]?).bind (·.body)).getD .skip
def cmp_isNaN_int64.cfg : Nat → List Nat × List Nat := fun k => ([], [])
noncomputable def cmp_isNaN_int64.T  (x : Int) : Option (Bool × Unit) := some ((x != x), ())
theorem cmp_isNaN_int64.top (k0 : Nat) (x : Int) : runFn Try.prog cmp_isNaN_int64.tbl cmp_isNaN_int64.cfg k0 89 ins_cmp_isNaN_int64 outs_cmp_isNaN_int64 (x, ()) = cmp_isNaN_int64.T  x := by kernel_rfl
noncomputable def F_cmp_isNaN_int64 : Int × Unit → Option (Bool × Unit) := fun x => cmp_isNaN_int64.T x.1
theorem cmp_isNaN_int64.tblOK : ∀ g fs S, cmp_isNaN_int64.tbl g fs = some S → SumOK Try.prog g S := by
  intro g fs S h
  unfold cmp_isNaN_int64.tbl at h
  cases h
theorem ok_cmp_isNaN_int64 : SumOK Try.prog 89 ⟨ins_cmp_isNaN_int64, outs_cmp_isNaN_int64, F_cmp_isNaN_int64⟩ := runFn_ok (by kernel_rfl) cmp_isNaN_int64.tblOK (by kernel_rfl) fun x y h => ⟨cmp_isNaN_int64.cfg, 0, (cmp_isNaN_int64.top 0 x.1).trans h⟩
abbrev ins_cmp_Compare_int64 : List Par := [.v false [CT.int .i64], .v false [CT.int .i64]]
abbrev outs_cmp_Compare_int64 : List (Bool × List CT) := [(false, [CT.int .i64])]
/-! ### cmp.Compare[int64] (function 80) -/
noncomputable def cmp_Compare_int64.tbl : Tbl := fun g fs => if g = 89 ∧ fs = [] then some ⟨ins_cmp_isNaN_int64, outs_cmp_isNaN_int64, F_cmp_isNaN_int64⟩ else none
noncomputable def cmp_Compare_int64.body : Code := ((Try.prog.funcs[80]?).bind (·.body)).getD .skip
def cmp_Compare_int64.cfg : Nat → List Nat × List Nat := fun k => ([], [])
noncomputable def cmp_Compare_int64.T  (x : Int) (y : Int) : Option (Int × Unit) := (F_cmp_isNaN_int64 (x, ())).bind fun y1 => (F_cmp_isNaN_int64 (y, ())).bind fun y2 => cond y1.1 (cond y2.1 (some (0, ())) (some ((-1), ()))) (cond y2.1 (some (1, ())) (cond (decide (x < y)) (some ((-1), ())) (cond (decide (x > y)) (some (1, ())) (some (0, ())))))
theorem cmp_Compare_int64.top (k0 : Nat) (x : Int) (y : Int) : runFn Try.prog cmp_Compare_int64.tbl cmp_Compare_int64.cfg k0 80 ins_cmp_Compare_int64 outs_cmp_Compare_int64 (x, y, ()) = cmp_Compare_int64.T  x y := by kernel_rfl
noncomputable def F_cmp_Compare_int64 : Int × Int × Unit → Option (Int × Unit) := fun x => cmp_Compare_int64.T x.1 x.2.1
theorem cmp_Compare_int64.tblOK : ∀ g fs S, cmp_Compare_int64.tbl g fs = some S → SumOK Try.prog g S := by
  intro g fs S h
  unfold cmp_Compare_int64.tbl at h
  split at h
  · rename_i hc; obtain ⟨rfl, rfl⟩ := hc; have := Option.some.inj h; subst this; exact ok_cmp_isNaN_int64
  cases h
theorem ok_cmp_Compare_int64 : SumOK Try.prog 80 ⟨ins_cmp_Compare_int64, outs_cmp_Compare_int64, F_cmp_Compare_int64⟩ := runFn_ok (by kernel_rfl) cmp_Compare_int64.tblOK (by kernel_rfl) fun x y h => ⟨cmp_Compare_int64.cfg, 0, (cmp_Compare_int64.top 0 x.1 x.2.1).trans h⟩
abbrev ins_impl_Farm_group_1 : List Par := [.v true ct0, .v false [CT.int .i64]]
abbrev outs_impl_Farm_group_1 : List (Bool × List CT) := [(false, [CT.int .i64])]
/-! ### (loop.example/g00095/impl.Farm).group$1 (function 79) -/
noncomputable def impl_Farm_group_1.tbl : Tbl := fun g fs => if g = 80 ∧ fs = [] then some ⟨ins_cmp_Compare_int64, outs_cmp_Compare_int64, F_cmp_Compare_int64⟩ else none
noncomputable def impl_Farm_group_1.body : Code := ((Try.prog.funcs[79]?).bind (·.body)).getD .skip
def impl_Farm_group_1.cfg : Nat → List Nat × List Nat := fun k => ([], [])
noncomputable def impl_Farm_group_1.T  (g0 : Int) (g1 : Int) (g2 : Int) (g3 : Int) (id : Int) : Option (Int × Unit) := (F_cmp_Compare_int64 (g0, id, ())).bind fun y1 => some (y1.1, ())
theorem impl_Farm_group_1.top (k0 : Nat) (g0 : Int) (g1 : Int) (g2 : Int) (g3 : Int) (id : Int) : runFn Try.prog impl_Farm_group_1.tbl impl_Farm_group_1.cfg k0 79 ins_impl_Farm_group_1 outs_impl_Farm_group_1 (g0, g1, g2, g3, id, ()) = impl_Farm_group_1.T  g0 g1 g2 g3 id := by kernel_rfl
noncomputable def F_impl_Farm_group_1 : Int × Int × Int × Int × Int × Unit → Option (Int × Unit) := fun x => impl_Farm_group_1.T x.1 x.2.1 x.2.2.1 x.2.2.2.1 x.2.2.2.2.1
theorem impl_Farm_group_1.tblOK : ∀ g fs S, impl_Farm_group_1.tbl g fs = some S → SumOK Try.prog g S := by
  intro g fs S h
  unfold impl_Farm_group_1.tbl at h
  split at h
  · rename_i hc; obtain ⟨rfl, rfl⟩ := hc; have := Option.some.inj h; subst this; exact ok_cmp_Compare_int64
  cases h
theorem ok_impl_Farm_group_1 : SumOK Try.prog 79 ⟨ins_impl_Farm_group_1, outs_impl_Farm_group_1, F_impl_Farm_group_1⟩ := runFn_ok (by kernel_rfl) impl_Farm_group_1.tblOK (by kernel_rfl) fun x y h => ⟨impl_Farm_group_1.cfg, 0, (impl_Farm_group_1.top 0 x.1 x.2.1 x.2.2.1 x.2.2.2.1 x.2.2.2.2.1).trans h⟩
abbrev ins_slices_BinarySearchFunc_impl_Group_impl_Group_int64_at_impl_Farm_group_1 : List Par := [.v false [CT.sl ct0], .v false [CT.int .i64], .cl 79 []]
abbrev outs_slices_BinarySearchFunc_impl_Group_impl_Group_int64_at_impl_Farm_group_1 : List (Bool × List CT) := [(false, [CT.int .i64]), (false, [CT.bool])]
/-! ### slices.BinarySearchFunc[[]loop.example/g00095/impl.Group,loop.example/g00095/impl.Group,int64] (function 78) -/
noncomputable def slices_BinarySearchFunc_impl_Group_impl_Group_int64_at_impl_Farm_group_1.tbl : Tbl := fun g fs => if g = 79 ∧ fs = [] then some ⟨ins_impl_Farm_group_1, outs_impl_Farm_group_1, F_impl_Farm_group_1⟩ else none
noncomputable def slices_BinarySearchFunc_impl_Group_impl_Group_int64_at_impl_Farm_group_1.body : Code := ((Try.prog.funcs[78]?).bind (·.body)).getD .skip
def slices_BinarySearchFunc_impl_Group_impl_Group_int64_at_impl_Farm_group_1.cfg : Nat → List Nat × List Nat := fun k => if k = 3 then ([0, 1, 2, 8, 9, 10], [0, 1, 2, 8, 9]) else ([], [])
noncomputable def slices_BinarySearchFunc_impl_Group_impl_Group_int64_at_impl_Farm_group_1.R0 {R : Type} (nx0 : ((List (Int × Int × Int × Int × Unit)) → Int → Int → Int → Int → Option R)) (ex0 : ((List (Int × Int × Int × Int × Unit)) → Int → Int → Int → Option R)) (x2 : List (Int × Int × Int × Int × Unit)) (target2 : Int) (n : Int) (i : Int) (j : Int) : Option R := cond (decide (i < j)) (if 0 ≤ (w64 ((Int.fdiv (IntKind.u64.wrap ((w64 (i + j)))) (2 ^ 1)))) ∧ (w64 ((Int.fdiv (IntKind.u64.wrap ((w64 (i + j)))) (2 ^ 1)))) < (x2.length : Int) then (F_impl_Farm_group_1 ((rd (0, 0, 0, 0, ()) x2 (w64 ((Int.fdiv (IntKind.u64.wrap ((w64 (i + j)))) (2 ^ 1))))).1, (rd (0, 0, 0, 0, ()) x2 (w64 ((Int.fdiv (IntKind.u64.wrap ((w64 (i + j)))) (2 ^ 1))))).2.1, (rd (0, 0, 0, 0, ()) x2 (w64 ((Int.fdiv (IntKind.u64.wrap ((w64 (i + j)))) (2 ^ 1))))).2.2.1, (rd (0, 0, 0, 0, ()) x2 (w64 ((Int.fdiv (IntKind.u64.wrap ((w64 (i + j)))) (2 ^ 1))))).2.2.2.1, target2, ())).bind fun y1 => cond (decide (y1.1 < 0)) (nx0 x2 target2 n (w64 ((w64 ((Int.fdiv (IntKind.u64.wrap ((w64 (i + j)))) (2 ^ 1)))) + 1)) j) (nx0 x2 target2 n i (w64 ((Int.fdiv (IntKind.u64.wrap ((w64 (i + j)))) (2 ^ 1))))) else none) (ex0 x2 target2 n i)
noncomputable def slices_BinarySearchFunc_impl_Group_impl_Group_int64_at_impl_Farm_group_1.A0  (x : List (Int × Int × Int × Int × Unit)) (target : Int) (x2 : List (Int × Int × Int × Int × Unit)) (target2 : Int) (n : Int) (i : Int) : Option (Int × Bool × Unit) := cond (decide (i < n)) (if 0 ≤ i ∧ i < (x2.length : Int) then (F_impl_Farm_group_1 ((rd (0, 0, 0, 0, ()) x2 i).1, (rd (0, 0, 0, 0, ()) x2 i).2.1, (rd (0, 0, 0, 0, ()) x2 i).2.2.1, (rd (0, 0, 0, 0, ()) x2 i).2.2.2.1, target2, ())).bind fun y1 => some (i, (y1.1 == 0), ()) else none) (some (i, false, ()))
noncomputable def slices_BinarySearchFunc_impl_Group_impl_Group_int64_at_impl_Farm_group_1.T (lo0 : ((List (Int × Int × Int × Int × Unit)) → Int → Int → Int → Int → Option (Int × Bool × Unit))) (x : List (Int × Int × Int × Int × Unit)) (target : Int) : Option (Int × Bool × Unit) := lo0 x target (x.length : Int) 0 (x.length : Int)
noncomputable def slices_BinarySearchFunc_impl_Group_impl_Group_int64_at_impl_Farm_group_1.st0 {R : Type} (k0 : Nat) : Env → List Ob → Kont R → Option R := fun env ob K => runCode Try.prog slices_BinarySearchFunc_impl_Group_impl_Group_int64_at_impl_Farm_group_1.tbl 49 0 slices_BinarySearchFunc_impl_Group_impl_Group_int64_at_impl_Farm_group_1.cfg k0 (codeAt [1, 1, 1, 0, 0, 0] slices_BinarySearchFunc_impl_Group_impl_Group_int64_at_impl_Farm_group_1.body) env ob K
noncomputable def slices_BinarySearchFunc_impl_Group_impl_Group_int64_at_impl_Farm_group_1.K0 {R : Type} (k0 : Nat) (K : Kont R) : Kont R := blockK 0 (seqK (fun env ob => runCode Try.prog slices_BinarySearchFunc_impl_Group_impl_Group_int64_at_impl_Farm_group_1.tbl 49 0 slices_BinarySearchFunc_impl_Group_impl_Group_int64_at_impl_Farm_group_1.cfg k0 (codeAt [1, 1, 1, 1] slices_BinarySearchFunc_impl_Group_impl_Group_int64_at_impl_Farm_group_1.body) env ob (K)) (K))
noncomputable def slices_BinarySearchFunc_impl_Group_impl_Group_int64_at_impl_Farm_group_1.L0 {R : Type} (k0 k : Nat) (K : Kont R) (x2 : List (Int × Int × Int × Int × Unit)) (target2 : Int) (n : Int) (i : Int) (j : Int) : Option R := iter 0 [0, 1, 2, 8, 9, 10] [0, 1, 2, 8, 9] (slices_BinarySearchFunc_impl_Group_impl_Group_int64_at_impl_Farm_group_1.st0 k0) k [(0, .sl ct0 x2), (1, .int .i64 target2), (2, .fn 79 []), (8, .int .i64 n), (9, .int .i64 i), (10, .int .i64 j)] [] K
theorem slices_BinarySearchFunc_impl_Group_impl_Group_int64_at_impl_Farm_group_1.s0 {R : Type} (k0 k : Nat) (K : Kont R) (x2 : List (Int × Int × Int × Int × Unit)) (target2 : Int) (n : Int) (i : Int) (j : Int) : slices_BinarySearchFunc_impl_Group_impl_Group_int64_at_impl_Farm_group_1.L0 k0 (k + 1) K x2 target2 n i j = slices_BinarySearchFunc_impl_Group_impl_Group_int64_at_impl_Farm_group_1.R0 (fun (x2 : List (Int × Int × Int × Int × Unit)) (target2 : Int) (n : Int) (i : Int) (j : Int) => slices_BinarySearchFunc_impl_Group_impl_Group_int64_at_impl_Farm_group_1.L0 k0 k K x2 target2 n i j) (fun (x2 : List (Int × Int × Int × Int × Unit)) (target2 : Int) (n : Int) (i : Int) => K (.exit 0) [(0, .sl ct0 x2), (1, .int .i64 target2), (2, .fn 79 []), (8, .int .i64 n), (9, .int .i64 i)] []) x2 target2 n i j := by kernel_rfl
theorem slices_BinarySearchFunc_impl_Group_impl_Group_int64_at_impl_Farm_group_1.a0 (k0 : Nat) (x : List (Int × Int × Int × Int × Unit)) (target : Int) (x2 : List (Int × Int × Int × Int × Unit)) (target2 : Int) (n : Int) (i : Int) : slices_BinarySearchFunc_impl_Group_impl_Group_int64_at_impl_Farm_group_1.K0 (R := (Int × Bool × Unit)) k0 (finK Try.prog [.tmp 6, .tmp 7] ins_slices_BinarySearchFunc_impl_Group_impl_Group_int64_at_impl_Farm_group_1 outs_slices_BinarySearchFunc_impl_Group_impl_Group_int64_at_impl_Farm_group_1 (x, target, ())) (.exit 0) [(0, .sl ct0 x2), (1, .int .i64 target2), (2, .fn 79 []), (8, .int .i64 n), (9, .int .i64 i)] [] = slices_BinarySearchFunc_impl_Group_impl_Group_int64_at_impl_Farm_group_1.A0  x target x2 target2 n i := by kernel_rfl
theorem slices_BinarySearchFunc_impl_Group_impl_Group_int64_at_impl_Farm_group_1.top (k0 : Nat) (x : List (Int × Int × Int × Int × Unit)) (target : Int) : runFn Try.prog slices_BinarySearchFunc_impl_Group_impl_Group_int64_at_impl_Farm_group_1.tbl slices_BinarySearchFunc_impl_Group_impl_Group_int64_at_impl_Farm_group_1.cfg k0 78 ins_slices_BinarySearchFunc_impl_Group_impl_Group_int64_at_impl_Farm_group_1 outs_slices_BinarySearchFunc_impl_Group_impl_Group_int64_at_impl_Farm_group_1 (x, target, ()) = slices_BinarySearchFunc_impl_Group_impl_Group_int64_at_impl_Farm_group_1.T (fun (x2 : List (Int × Int × Int × Int × Unit)) (target2 : Int) (n : Int) (i : Int) (j : Int) => slices_BinarySearchFunc_impl_Group_impl_Group_int64_at_impl_Farm_group_1.L0 (R := (Int × Bool × Unit)) k0 k0 (slices_BinarySearchFunc_impl_Group_impl_Group_int64_at_impl_Farm_group_1.K0 (R := (Int × Bool × Unit)) k0 ((finK Try.prog [.tmp 6, .tmp 7] ins_slices_BinarySearchFunc_impl_Group_impl_Group_int64_at_impl_Farm_group_1 outs_slices_BinarySearchFunc_impl_Group_impl_Group_int64_at_impl_Farm_group_1 (x, target, ())))) x2 target2 n i j) x target := by kernel_rfl
noncomputable def slices_BinarySearchFunc_impl_Group_impl_Group_int64_at_impl_Farm_group_1.G0 {R : Type} (k0 : Nat) (hx0 : ((List (Int × Int × Int × Int × Unit)) → Int → Int → Int → Option R)) : Nat → (List (Int × Int × Int × Int × Unit)) → Int → Int → Int → Int → Option R
  | 0, _, _, _, _, _ => none
  | k + 1, x2, target2, n, i, j => slices_BinarySearchFunc_impl_Group_impl_Group_int64_at_impl_Farm_group_1.R0 (fun (x2 : List (Int × Int × Int × Int × Unit)) (target2 : Int) (n : Int) (i : Int) (j : Int) => slices_BinarySearchFunc_impl_Group_impl_Group_int64_at_impl_Farm_group_1.G0 k0 hx0 k x2 target2 n i j) (fun (x2 : List (Int × Int × Int × Int × Unit)) (target2 : Int) (n : Int) (i : Int) => hx0 x2 target2 n i) x2 target2 n i j
theorem slices_BinarySearchFunc_impl_Group_impl_Group_int64_at_impl_Farm_group_1.g0 {R : Type} (k0 : Nat) (K : Kont R) : ∀ (k : Nat) (x2 : List (Int × Int × Int × Int × Unit)) (target2 : Int) (n : Int) (i : Int) (j : Int), slices_BinarySearchFunc_impl_Group_impl_Group_int64_at_impl_Farm_group_1.L0 k0 k K x2 target2 n i j = slices_BinarySearchFunc_impl_Group_impl_Group_int64_at_impl_Farm_group_1.G0 k0 (fun (x2 : List (Int × Int × Int × Int × Unit)) (target2 : Int) (n : Int) (i : Int) => K (.exit 0) [(0, .sl ct0 x2), (1, .int .i64 target2), (2, .fn 79 []), (8, .int .i64 n), (9, .int .i64 i)] []) k x2 target2 n i j := by
  intro k
  induction k with
  | zero => intros; rfl
  | succ k ih => intros; rw [slices_BinarySearchFunc_impl_Group_impl_Group_int64_at_impl_Farm_group_1.s0, slices_BinarySearchFunc_impl_Group_impl_Group_int64_at_impl_Farm_group_1.G0]; (try simp only [ih]); try rfl
noncomputable def slices_BinarySearchFunc_impl_Group_impl_Group_int64_at_impl_Farm_group_1.FF (k0 : Nat) (x : List (Int × Int × Int × Int × Unit)) (target : Int) : Option (Int × Bool × Unit) := slices_BinarySearchFunc_impl_Group_impl_Group_int64_at_impl_Farm_group_1.T (fun (x2 : List (Int × Int × Int × Int × Unit)) (target2 : Int) (n : Int) (i : Int) (j : Int) => slices_BinarySearchFunc_impl_Group_impl_Group_int64_at_impl_Farm_group_1.G0 k0 (fun (x2 : List (Int × Int × Int × Int × Unit)) (target2 : Int) (n : Int) (i : Int) => slices_BinarySearchFunc_impl_Group_impl_Group_int64_at_impl_Farm_group_1.A0  x target x2 target2 n i) k0 x2 target2 n i j) x target
theorem slices_BinarySearchFunc_impl_Group_impl_Group_int64_at_impl_Farm_group_1.run (k0 : Nat) (x : List (Int × Int × Int × Int × Unit)) (target : Int) : runFn Try.prog slices_BinarySearchFunc_impl_Group_impl_Group_int64_at_impl_Farm_group_1.tbl slices_BinarySearchFunc_impl_Group_impl_Group_int64_at_impl_Farm_group_1.cfg k0 78 ins_slices_BinarySearchFunc_impl_Group_impl_Group_int64_at_impl_Farm_group_1 outs_slices_BinarySearchFunc_impl_Group_impl_Group_int64_at_impl_Farm_group_1 (x, target, ()) = slices_BinarySearchFunc_impl_Group_impl_Group_int64_at_impl_Farm_group_1.FF k0 x target := by
  rw [slices_BinarySearchFunc_impl_Group_impl_Group_int64_at_impl_Farm_group_1.top, slices_BinarySearchFunc_impl_Group_impl_Group_int64_at_impl_Farm_group_1.FF]; (try simp only [slices_BinarySearchFunc_impl_Group_impl_Group_int64_at_impl_Farm_group_1.g0, slices_BinarySearchFunc_impl_Group_impl_Group_int64_at_impl_Farm_group_1.a0]); try rfl
noncomputable def F_slices_BinarySearchFunc_impl_Group_impl_Group_int64_at_impl_Farm_group_1 : (List (Int × Int × Int × Int × Unit)) × Int × Unit → Option (Int × Bool × Unit) := fun x => (fun (x : List (Int × Int × Int × Int × Unit)) (target : Int) => slices_BinarySearchFunc_impl_Group_impl_Group_int64_at_impl_Farm_group_1.FF (300 + x.length) x target) x.1 x.2.1
theorem slices_BinarySearchFunc_impl_Group_impl_Group_int64_at_impl_Farm_group_1.tblOK : ∀ g fs S, slices_BinarySearchFunc_impl_Group_impl_Group_int64_at_impl_Farm_group_1.tbl g fs = some S → SumOK Try.prog g S := by
  intro g fs S h
  unfold slices_BinarySearchFunc_impl_Group_impl_Group_int64_at_impl_Farm_group_1.tbl at h
  split at h
  · rename_i hc; obtain ⟨rfl, rfl⟩ := hc; have := Option.some.inj h; subst this; exact ok_impl_Farm_group_1
  cases h
theorem ok_slices_BinarySearchFunc_impl_Group_impl_Group_int64_at_impl_Farm_group_1 : SumOK Try.prog 78 ⟨ins_slices_BinarySearchFunc_impl_Group_impl_Group_int64_at_impl_Farm_group_1, outs_slices_BinarySearchFunc_impl_Group_impl_Group_int64_at_impl_Farm_group_1, F_slices_BinarySearchFunc_impl_Group_impl_Group_int64_at_impl_Farm_group_1⟩ := runFn_ok (by kernel_rfl) slices_BinarySearchFunc_impl_Group_impl_Group_int64_at_impl_Farm_group_1.tblOK (by kernel_rfl) fun x y h => ⟨slices_BinarySearchFunc_impl_Group_impl_Group_int64_at_impl_Farm_group_1.cfg, _, (slices_BinarySearchFunc_impl_Group_impl_Group_int64_at_impl_Farm_group_1.run _ x.1 x.2.1).trans h⟩
end Go.Rv
