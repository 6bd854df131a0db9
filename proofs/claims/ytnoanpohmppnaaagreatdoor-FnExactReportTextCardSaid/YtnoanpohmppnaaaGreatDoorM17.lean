/- Plain facts: words_rtext. -/
import Derived.Test.YtnoanpohmppnaaaGreatDoorM16
set_option linter.unusedVariables false
set_option linter.unusedSimpArgs false
set_option linter.unusedSectionVars false
namespace Go.Rv
theorem toGroup (x0 : Int) (x1 : Int) (x2 : Int) (x3 : Int)  : F_laws_toGroup (x0, x1, x2, x3, ()) = some (x0, x1, x2, x3, ()) := by
 rfl
theorem toGroupS (l : List (Int × Int × Int × Int × Unit)) (hl : l.length ≤ 1048576) : F_laws_toGroupS (l, ()) = some (l, ()) := by
 show laws_toGroupS.FF (300 + l.length) l = _
 simp only [laws_toGroupS.FF, laws_toGroupS.T]
 rw [if_pos (by omega)]
 refine copies (n := l.length) (fun i => l.getD i (0, 0, 0, 0, ())) (fun k i out => laws_toGroupS.G0 (300 + l.length) (fun out => laws_toGroupS.A0 l out) k l (i : Nat) out) _ (fun k i out hi ho => ?_) (fun k => ?_) (300 + l.length) 0 _ (by omega) (by omega) (by simp) (by intro j h hj; omega)
 ·have hw : w64 ((i : Int) + 1) = ((i + 1 : Nat) : Int) := w64_in _ (by omega)
  simp only [laws_toGroupS.G0, laws_toGroupS.R0, rd_cast, toGroup, Option.bind_some, hw]
  rw [decide_eq_true (by omega), cond_true, if_pos (by omega), if_pos (by omega)]
  rfl
 ·simp only [laws_toGroupS.G0, laws_toGroupS.R0]
  rw [decide_eq_false (by omega), cond_false]
  exact congrArg (fun x => some (x, ())) (ofFn_getD l (0, 0, 0, 0, ()))
theorem toMember (x0 : Int) (x1 : Int) (x2 : Int) (x3 : Int)  : F_laws_toMember (x0, x1, x2, x3, ()) = some (x0, x1, x2, x3, ()) := by
 rfl
theorem toMemberS (l : List (Int × Int × Int × Int × Unit)) (hl : l.length ≤ 1048576) : F_laws_toMemberS (l, ()) = some (l, ()) := by
 show laws_toMemberS.FF (300 + l.length) l = _
 simp only [laws_toMemberS.FF, laws_toMemberS.T]
 rw [if_pos (by omega)]
 refine copies (n := l.length) (fun i => l.getD i (0, 0, 0, 0, ())) (fun k i out => laws_toMemberS.G0 (300 + l.length) (fun out => laws_toMemberS.A0 l out) k l (i : Nat) out) _ (fun k i out hi ho => ?_) (fun k => ?_) (300 + l.length) 0 _ (by omega) (by omega) (by simp) (by intro j h hj; omega)
 ·have hw : w64 ((i : Int) + 1) = ((i + 1 : Nat) : Int) := w64_in _ (by omega)
  simp only [laws_toMemberS.G0, laws_toMemberS.R0, rd_cast, toMember, Option.bind_some, hw]
  rw [decide_eq_true (by omega), cond_true, if_pos (by omega), if_pos (by omega)]
  rfl
 ·simp only [laws_toMemberS.G0, laws_toMemberS.R0]
  rw [decide_eq_false (by omega), cond_false]
  exact congrArg (fun x => some (x, ())) (ofFn_getD l (0, 0, 0, 0, ()))
theorem toFarm (x0 : Int) (x1 : List (Int × Int × Int × Int × Unit)) (x2 : List (Int × Int × Int × Int × Unit)) (h_x1 : x1.length ≤ 1048576) (h_x2 : x2.length ≤ 1048576) : F_laws_toFarm (x0, x1, x2, ()) = some (x0, x1, x2, ()) := by
 simp (disch := assumption) only [F_laws_toFarm, laws_toFarm.T, toGroupS, toMemberS, Option.bind_some]
theorem toLease (x0 : Int) (x1 : Int) (x2 : Int)  : F_laws_toLease (x0, x1, x2, ()) = some (x0, x1, x2, ()) := by
 rfl
theorem toLeaseS (l : List (Int × Int × Int × Unit)) (hl : l.length ≤ 1048576) : F_laws_toLeaseS (l, ()) = some (l, ()) := by
 show laws_toLeaseS.FF (300 + l.length) l = _
 simp only [laws_toLeaseS.FF, laws_toLeaseS.T]
 rw [if_pos (by omega)]
 refine copies (n := l.length) (fun i => l.getD i (0, 0, 0, ())) (fun k i out => laws_toLeaseS.G0 (300 + l.length) (fun out => laws_toLeaseS.A0 l out) k l (i : Nat) out) _ (fun k i out hi ho => ?_) (fun k => ?_) (300 + l.length) 0 _ (by omega) (by omega) (by simp) (by intro j h hj; omega)
 ·have hw : w64 ((i : Int) + 1) = ((i + 1 : Nat) : Int) := w64_in _ (by omega)
  simp only [laws_toLeaseS.G0, laws_toLeaseS.R0, rd_cast, toLease, Option.bind_some, hw]
  rw [decide_eq_true (by omega), cond_true, if_pos (by omega), if_pos (by omega)]
  rfl
 ·simp only [laws_toLeaseS.G0, laws_toLeaseS.R0]
  rw [decide_eq_false (by omega), cond_false]
  exact congrArg (fun x => some (x, ())) (ofFn_getD l (0, 0, 0, ()))
theorem toServer (x0 : Int) (x1 : Int) (x2 : Int) (x3 : Int) (x4 : List (Int × Int × Int × Int × Unit)) (x5 : List (Int × Int × Int × Int × Unit)) (x6 : List (Int × Int × Int × Unit)) (h_x4 : x4.length ≤ 1048576) (h_x5 : x5.length ≤ 1048576) (h_x6 : x6.length ≤ 1048576) : F_laws_toServer (x0, x1, x2, x3, x4, x5, x6, ()) = some (x0, x1, x2, x3, x4, x5, x6, ()) := by
 simp (disch := assumption) only [F_laws_toServer, laws_toServer.T, toFarm, toLeaseS, Option.bind_some]
theorem eqGroup (x0 : Int) (x1 : Int) (x2 : Int) (x3 : Int)  : F_laws_eqGroup (x0, x1, x2, x3, x0, x1, x2, x3, ()) = some (true, ()) := by
 simp (disch := assumption) only [F_laws_eqGroup, laws_eqGroup.T, Option.bind_some, bne_self_eq_false, cond_false, Bool.not_true]
theorem eqGroupS (l : List (Int × Int × Int × Int × Unit)) (hl : l.length ≤ 1048576) : F_laws_eqGroupS (l, l, ()) = some (true, ()) := by
 show laws_eqGroupS.FF (300 + l.length + l.length) l l = _
 simp only [laws_eqGroupS.FF, laws_eqGroupS.T, bne_self_eq_false, cond_false]
 rw [← bbAll l.length]
 refine scanB (g := fun k i => laws_eqGroupS.G0 (300 + l.length + l.length) (fun t => laws_eqGroupS.A0 l l t) (fun _ => laws_eqGroupS.A1 l l ()) k l l (i : Nat)) (fun k i hi _ => ?_) (fun _ k => ?_) _ (by omega)
 ·have hw : w64 ((i : Int) + 1) = ((i + 1 : Nat) : Int) := w64_in _ (by omega)
  simp only [laws_eqGroupS.G0, laws_eqGroupS.R0, rd_cast, eqGroup, Option.bind_some, hw]
  grind [= bb_iff]
 ·simp only [laws_eqGroupS.G0, laws_eqGroupS.R0, laws_eqGroupS.A1]; grind [= bb_iff]
theorem eqMember (x0 : Int) (x1 : Int) (x2 : Int) (x3 : Int)  : F_laws_eqMember (x0, x1, x2, x3, x0, x1, x2, x3, ()) = some (true, ()) := by
 simp (disch := assumption) only [F_laws_eqMember, laws_eqMember.T, Option.bind_some, bne_self_eq_false, cond_false, Bool.not_true]
theorem eqMemberS (l : List (Int × Int × Int × Int × Unit)) (hl : l.length ≤ 1048576) : F_laws_eqMemberS (l, l, ()) = some (true, ()) := by
 show laws_eqMemberS.FF (300 + l.length + l.length) l l = _
 simp only [laws_eqMemberS.FF, laws_eqMemberS.T, bne_self_eq_false, cond_false]
 rw [← bbAll l.length]
 refine scanB (g := fun k i => laws_eqMemberS.G0 (300 + l.length + l.length) (fun t => laws_eqMemberS.A0 l l t) (fun _ => laws_eqMemberS.A1 l l ()) k l l (i : Nat)) (fun k i hi _ => ?_) (fun _ k => ?_) _ (by omega)
 ·have hw : w64 ((i : Int) + 1) = ((i + 1 : Nat) : Int) := w64_in _ (by omega)
  simp only [laws_eqMemberS.G0, laws_eqMemberS.R0, rd_cast, eqMember, Option.bind_some, hw]
  grind [= bb_iff]
 ·simp only [laws_eqMemberS.G0, laws_eqMemberS.R0, laws_eqMemberS.A1]; grind [= bb_iff]
theorem eqFarm (x0 : Int) (x1 : List (Int × Int × Int × Int × Unit)) (x2 : List (Int × Int × Int × Int × Unit)) (h_x1 : x1.length ≤ 1048576) (h_x2 : x2.length ≤ 1048576) : F_laws_eqFarm (x0, x1, x2, x0, x1, x2, ()) = some (true, ()) := by
 simp (disch := assumption) only [F_laws_eqFarm, laws_eqFarm.T, eqGroupS, eqMemberS, Option.bind_some, bne_self_eq_false, cond_false, Bool.not_true]
theorem eqLease (x0 : Int) (x1 : Int) (x2 : Int)  : F_laws_eqLease (x0, x1, x2, x0, x1, x2, ()) = some (true, ()) := by
 simp (disch := assumption) only [F_laws_eqLease, laws_eqLease.T, Option.bind_some, bne_self_eq_false, cond_false, Bool.not_true]
theorem eqLeaseS (l : List (Int × Int × Int × Unit)) (hl : l.length ≤ 1048576) : F_laws_eqLeaseS (l, l, ()) = some (true, ()) := by
 show laws_eqLeaseS.FF (300 + l.length + l.length) l l = _
 simp only [laws_eqLeaseS.FF, laws_eqLeaseS.T, bne_self_eq_false, cond_false]
 rw [← bbAll l.length]
 refine scanB (g := fun k i => laws_eqLeaseS.G0 (300 + l.length + l.length) (fun t => laws_eqLeaseS.A0 l l t) (fun _ => laws_eqLeaseS.A1 l l ()) k l l (i : Nat)) (fun k i hi _ => ?_) (fun _ k => ?_) _ (by omega)
 ·have hw : w64 ((i : Int) + 1) = ((i + 1 : Nat) : Int) := w64_in _ (by omega)
  simp only [laws_eqLeaseS.G0, laws_eqLeaseS.R0, rd_cast, eqLease, Option.bind_some, hw]
  grind [= bb_iff]
 ·simp only [laws_eqLeaseS.G0, laws_eqLeaseS.R0, laws_eqLeaseS.A1]; grind [= bb_iff]
theorem eqServer (x0 : Int) (x1 : Int) (x2 : Int) (x3 : Int) (x4 : List (Int × Int × Int × Int × Unit)) (x5 : List (Int × Int × Int × Int × Unit)) (x6 : List (Int × Int × Int × Unit)) (h_x4 : x4.length ≤ 1048576) (h_x5 : x5.length ≤ 1048576) (h_x6 : x6.length ≤ 1048576) : F_laws_eqServer (x0, x1, x2, x3, x4, x5, x6, x0, x1, x2, x3, x4, x5, x6, ()) = some (true, ()) := by
 simp (disch := assumption) only [F_laws_eqServer, laws_eqServer.T, eqFarm, eqLeaseS, Option.bind_some, bne_self_eq_false, cond_false, Bool.not_true]
theorem szGroupS (l : List (Int × Int × Int × Int × Unit)) (left : Int) (h0 : 0 ≤ left) (h1 : left ≤ 1048576) (hl : l.length ≤ 140737488355328) : ∃ z, F_laws_szGroupS (l, left, ()) = some (z, ()) ∧ lft z left [l.length] := by
 simp only [F_laws_szGroupS, laws_szGroupS.T]
 rw [w64_in (left - l.length) (by omega)]
 by_cases h : left - (l.length : Int) < 0
 ·rw [decide_eq_true h]; exact ⟨_, rfl, by omega, by omega⟩
 ·rw [decide_eq_false h]; exact ⟨_, rfl, by omega, fun _ n hn => by simp at hn; omega⟩
theorem szMemberS (l : List (Int × Int × Int × Int × Unit)) (left : Int) (h0 : 0 ≤ left) (h1 : left ≤ 1048576) (hl : l.length ≤ 140737488355328) : ∃ z, F_laws_szMemberS (l, left, ()) = some (z, ()) ∧ lft z left [l.length] := by
 simp only [F_laws_szMemberS, laws_szMemberS.T]
 rw [w64_in (left - l.length) (by omega)]
 by_cases h : left - (l.length : Int) < 0
 ·rw [decide_eq_true h]; exact ⟨_, rfl, by omega, by omega⟩
 ·rw [decide_eq_false h]; exact ⟨_, rfl, by omega, fun _ n hn => by simp at hn; omega⟩
theorem szFarm (x0 : Int) (x1 : List (Int × Int × Int × Int × Unit)) (x2 : List (Int × Int × Int × Int × Unit)) (left : Int) (h0 : 0 ≤ left) (h1 : left ≤ 1048576) (h_x1 : x1.length ≤ 140737488355328) (h_x2 : x2.length ≤ 140737488355328) : ∃ z, F_laws_szFarm (x0, x1, x2, left, ()) = some (z, ()) ∧ lft z left [x1.length, x2.length] := by
 obtain ⟨z0, hz0, ha0, hb0⟩ := szGroupS x1 left (by omega) (by omega) h_x1
 simp only [List.mem_cons, List.not_mem_nil, or_false, forall_eq_or_imp, forall_eq] at hb0
 simp only [F_laws_szFarm, laws_szFarm.T, hz0, Option.bind_some, cond_false]
 by_cases g0 : z0 < 0
 ·rw [decide_eq_true g0]; exact ⟨_, rfl, by omega, by omega⟩
 rw [decide_eq_false g0]
 obtain ⟨z1, hz1, ha1, hb1⟩ := szMemberS x2 z0 (by omega) (by omega) h_x2
 simp only [List.mem_cons, List.not_mem_nil, or_false, forall_eq_or_imp, forall_eq] at hb1
 simp only [hz1, Option.bind_some, cond_false]
 by_cases g1 : z1 < 0
 ·rw [decide_eq_true g1]; exact ⟨_, rfl, by omega, by omega⟩
 rw [decide_eq_false g1]
 refine ⟨_, rfl, by omega, fun _ n hn => ?_⟩
 simp only [List.mem_cons, List.not_mem_nil, or_false] at hn
 omega
theorem szLeaseS (l : List (Int × Int × Int × Unit)) (left : Int) (h0 : 0 ≤ left) (h1 : left ≤ 1048576) (hl : l.length ≤ 140737488355328) : ∃ z, F_laws_szLeaseS (l, left, ()) = some (z, ()) ∧ lft z left [l.length] := by
 simp only [F_laws_szLeaseS, laws_szLeaseS.T]
 rw [w64_in (left - l.length) (by omega)]
 by_cases h : left - (l.length : Int) < 0
 ·rw [decide_eq_true h]; exact ⟨_, rfl, by omega, by omega⟩
 ·rw [decide_eq_false h]; exact ⟨_, rfl, by omega, fun _ n hn => by simp at hn; omega⟩
theorem szServer (x0 : Int) (x1 : Int) (x2 : Int) (x3 : Int) (x4 : List (Int × Int × Int × Int × Unit)) (x5 : List (Int × Int × Int × Int × Unit)) (x6 : List (Int × Int × Int × Unit)) (left : Int) (h0 : 0 ≤ left) (h1 : left ≤ 1048576) (h_x4 : x4.length ≤ 140737488355328) (h_x5 : x5.length ≤ 140737488355328) (h_x6 : x6.length ≤ 140737488355328) : ∃ z, F_laws_szServer (x0, x1, x2, x3, x4, x5, x6, left, ()) = some (z, ()) ∧ lft z left [x4.length, x5.length, x6.length] := by
 obtain ⟨z0, hz0, ha0, hb0⟩ := szFarm x3 x4 x5 left (by omega) (by omega) h_x4 h_x5
 simp only [List.mem_cons, List.not_mem_nil, or_false, forall_eq_or_imp, forall_eq] at hb0
 simp only [F_laws_szServer, laws_szServer.T, hz0, Option.bind_some, cond_false]
 by_cases g0 : z0 < 0
 ·rw [decide_eq_true g0]; exact ⟨_, rfl, by omega, by omega⟩
 rw [decide_eq_false g0]
 obtain ⟨z1, hz1, ha1, hb1⟩ := szLeaseS x6 z0 (by omega) (by omega) h_x6
 simp only [List.mem_cons, List.not_mem_nil, or_false, forall_eq_or_imp, forall_eq] at hb1
 simp only [hz1, Option.bind_some, cond_false]
 by_cases g1 : z1 < 0
 ·rw [decide_eq_true g1]; exact ⟨_, rfl, by omega, by omega⟩
 rw [decide_eq_false g1]
 refine ⟨_, rfl, by omega, fun _ n hn => ?_⟩
 simp only [List.mem_cons, List.not_mem_nil, or_false] at hn
 omega
end Go.Rv
