/- Plain facts: server. -/
import Derived.Test.YtnoanpohmppnaaaGreatDoorM21
set_option linter.unusedVariables false
set_option linter.unusedSimpArgs false
set_option linter.unusedSectionVars false
namespace Go.Rv
theorem F_l10Length (n : Int) : F_spec_l10Length (n, ()) = some (bb (1 ≤ n ∧ n ≤ 1000), ()) := by simp only [F_spec_l10Length, spec_l10Length.T]; grind [= bb_iff]
theorem F_l07Time (n : Int) : F_spec_l07Time (n, ()) = some (bb (timeP n), ()) := by simp only [F_spec_l07Time, spec_l07Time.T, timeP]; grind [= bb_iff]
theorem F_iTime (n : Int) : F_impl_isTime (n, ()) = some (bb (timeP n), ()) := by simp only [F_impl_isTime, impl_isTime.T, F_iin, Option.bind_some, timeP]
def leaseP (x : I3) : Prop := idP x.1 ∧ wantP x.2.1 ∧ timeP x.2.2.1
theorem F_l07Lease (a b c : Int) : F_spec_l07Lease (a, b, c, ()) = some (bb (leaseP (a, b, c, ())), ()) := by
 simp only [F_spec_l07Lease, spec_l07Lease.T, F_l02Id, F_l02Want, F_l07Time, Option.bind_some, leaseP]; grind [= bb_iff]
theorem F_iLease (a b c : Int) : F_impl_Lease_isRight (a, b, c, ()) = some (bb (leaseP (a, b, c, ())), ()) := by
 simp only [F_impl_Lease_isRight, impl_Lease_isRight.T, F_iId, F_iWant, F_iTime, Option.bind_some, leaseP]; grind [= bb_iff]
def lsP (l : List I3) (i : Nat) : Prop := leaseP (g3 l i) ∧ (0 < i → (g3 l (i - 1)).1 < (g3 l i).1)
def leasesP (l : List I3) : Prop := l.length ≤ 60 ∧ ∀ i, i < l.length → lsP l i
theorem specLeases (l : List I3) (hl : l.length ≤ 1048576) : F_spec_LeasesRight (l, ()) = some (bb (leasesP l), ()) := by
 show spec_LeasesRight.FF (300 + l.length) l = _
 simp only [spec_LeasesRight.FF, spec_LeasesRight.T]
 have e : ∀ k0, spec_LeasesRight.G0 k0 (fun t => spec_LeasesRight.A0 l t) (fun _ => spec_LeasesRight.A1 l ()) (300 + l.length) l 0 = some (bb (∀ j, j < l.length → lsP l j), ()) := by
  intro k0
  refine scanB (g := fun k i => spec_LeasesRight.G0 k0 (fun t => spec_LeasesRight.A0 l t) (fun _ => spec_LeasesRight.A1 l ()) k l (i : Nat)) (fun k i hi _ => ?_) (fun _ k => ?_) _ (by omega)
  ·have hw : w64 ((i : Int) + 1) = ((i + 1 : Nat) : Int) := w64_in _ (by omega)
   simp only [spec_LeasesRight.G0, spec_LeasesRight.R0, spec_LeasesRight.A0, rd_cast, F_l07Lease, Option.bind_some, hw]
   have hd : decide (i < (l.length : Int)) = true := decide_eq_true (by omega)
   unfold lsP
   by_cases h0 : 0 < i
   ·have hw' : w64 ((i : Int) - 1) = ((i - 1 : Nat) : Int) := (w64_in _ (by omega)).trans (by omega)
    rw [hw']
    simp only [rd_cast]
    grind [= bb_iff]
   ·have : i = 0 := by omega
    subst this
    grind [= bb_iff]
  ·simp only [spec_LeasesRight.G0, spec_LeasesRight.R0]
   rw [decide_eq_false (by omega), cond_false]; rfl
 rw [e]
 unfold leasesP
 grind [= bb_iff]
theorem implLeases (l : List I3) (hl : l.length ≤ 1048576) : F_impl_LeasesRight (l, ()) = some (bb (leasesP l), ()) := by
 show impl_LeasesRight.FF (300 + l.length) l = _
 simp only [impl_LeasesRight.FF, impl_LeasesRight.T]
 have e : ∀ k0, impl_LeasesRight.G0 k0 (fun l2 t => impl_LeasesRight.A0 l l2 t) (fun l2 => impl_LeasesRight.A1 l l2) (300 + l.length) l l l.length 0 = some (bb ((∀ j, j < l.length → lsP l j) ∧ l.length ≤ 60), ()) := by
  intro k0
  refine scanC (g := fun k i => impl_LeasesRight.G0 k0 (fun l2 t => impl_LeasesRight.A0 l l2 t) (fun l2 => impl_LeasesRight.A1 l l2) k l l l.length (i : Nat)) (fun k i hi _ => ?_) (fun _ k => ?_) _ (by omega)
  ·have hw : w64 ((i : Int) + 1) = ((i + 1 : Nat) : Int) := w64_in _ (by omega)
   simp only [impl_LeasesRight.G0, impl_LeasesRight.R0, impl_LeasesRight.A0, rd_cast, F_iLease, Option.bind_some, hw]
   have hd : decide (i < (l.length : Int)) = true := decide_eq_true (by omega)
   unfold lsP
   by_cases h0 : 0 < i
   ·have hw' : w64 ((i : Int) - 1) = ((i - 1 : Nat) : Int) := (w64_in _ (by omega)).trans (by omega)
    rw [hw']
    simp only [rd_cast]
    grind [= bb_iff]
   ·have : i = 0 := by omega
    subst this
    grind [= bb_iff]
  ·simp only [impl_LeasesRight.G0, impl_LeasesRight.R0, impl_LeasesRight.A1]
   grind [= bb_iff]
 rw [e]
 unfold leasesP
 congr 2
 exact bb_congr And.comm
def slP (s0 s2 : Int) (m : List I4) (l : List I3) (i : Nat) : Prop := (g3 l i).1 = (g4 m i).1 ∧ s2 < (g3 l i).2.2.1 ∧ (g3 l i).2.2.1 ≤ s2 + s0
def serverP (s0 s1 s2 s3 : Int) (s4 s5 : List I4) (s6 : List I3) : Prop :=
 (1 ≤ s0 ∧ s0 ≤ 1000) ∧ 0 ≤ s1 ∧ s1 ≤ s2 ∧ s2 ≤ 999000 ∧ farmP s3 s4 s5 ∧ leasesP s6 ∧ s6.length = s5.length ∧ ∀ i, i < s6.length → slP s0 s2 s5 s6 i
theorem specServer (s0 s1 s2 s3 : Int) (s4 s5 : List I4) (s6 : List I3) (h4 : s4.length ≤ 1048576) (h5 : s5.length ≤ 1048576) (h6 : s6.length ≤ 1048576) : F_spec_ServerRight (s0, s1, s2, s3, s4, s5, s6, ()) = some (bb (serverP s0 s1 s2 s3 s4 s5 s6), ()) := by
 show spec_ServerRight.FF (300 + s4.length + s5.length + s6.length) s0 s1 s2 s3 s4 s5 s6 = _
 simp only [spec_ServerRight.FF, spec_ServerRight.T, F_l10Length, specFarm s3 s4 s5 h4 h5, specLeases s6 h6, Option.bind_some]
 by_cases h : 1 ≤ s0 ∧ s0 ≤ 1000 ∧ 0 ≤ s2 ∧ s2 ≤ 999000 ∧ s6.length = s5.length
 ·have e : ∀ k0, spec_ServerRight.G0 k0 (fun t => spec_ServerRight.A0 s0 s1 s2 s3 s4 s5 s6 t) (fun _ => spec_ServerRight.A1 s0 s1 s2 s3 s4 s5 s6 ()) (300 + s4.length + s5.length + s6.length) 0 s0 s1 s2 s3 s4 s5 s6 = some (bb (∀ j, j < s6.length → slP s0 s2 s5 s6 j), ()) := by
   intro k0
   refine scanB (g := fun k i => spec_ServerRight.G0 k0 (fun t => spec_ServerRight.A0 s0 s1 s2 s3 s4 s5 s6 t) (fun _ => spec_ServerRight.A1 s0 s1 s2 s3 s4 s5 s6 ()) k (i : Nat) s0 s1 s2 s3 s4 s5 s6) (fun k i hi _ => ?_) (fun _ k => ?_) _ (by omega)
   ·have hw : w64 ((i : Int) + 1) = ((i + 1 : Nat) : Int) := w64_in _ (by omega)
    have hw2 : w64 (s2 + s0) = s2 + s0 := w64_in _ (by omega)
    simp only [spec_ServerRight.G0, spec_ServerRight.R0, spec_ServerRight.A0, rd_cast, hw, hw2]
    have hd : decide (i < (s6.length : Int)) = true := decide_eq_true (by omega)
    unfold slP
    grind [= bb_iff]
   ·simp only [spec_ServerRight.G0, spec_ServerRight.R0]
    rw [decide_eq_false (by omega), cond_false]; rfl
  rw [e]
  unfold serverP
  grind [= bb_iff]
 ·unfold serverP
  grind [= bb_iff]
theorem implServer (s0 s1 s2 s3 : Int) (s4 s5 : List I4) (s6 : List I3) (h4 : s4.length ≤ 1048576) (h5 : s5.length ≤ 1048576) (h6 : s6.length ≤ 1048576) : F_impl_ServerRight (s0, s1, s2, s3, s4, s5, s6, ()) = some (bb (serverP s0 s1 s2 s3 s4 s5 s6), ()) := by
 show impl_ServerRight.FF (300 + s4.length + s5.length + s6.length) s0 s1 s2 s3 s4 s5 s6 = _
 simp only [impl_ServerRight.FF, impl_ServerRight.T, F_iin, implFarm s3 s4 s5 h4 h5, implLeases s6 h6, Option.bind_some]
 by_cases h : 1 ≤ s0 ∧ s0 ≤ 1000 ∧ 0 ≤ s2 ∧ s2 ≤ 999000 ∧ s6.length = s5.length
 ·have e : ∀ k0, impl_ServerRight.G0 k0 (fun t => impl_ServerRight.A0 s0 s1 s2 s3 s4 s5 s6 t) (fun _ => impl_ServerRight.A1 s0 s1 s2 s3 s4 s5 s6 ()) (300 + s4.length + s5.length + s6.length) s6 s6.length 0 s0 s1 s2 s3 s4 s5 s6 = some (bb (∀ j, j < s6.length → slP s0 s2 s5 s6 j), ()) := by
   intro k0
   refine scanB (g := fun k i => impl_ServerRight.G0 k0 (fun t => impl_ServerRight.A0 s0 s1 s2 s3 s4 s5 s6 t) (fun _ => impl_ServerRight.A1 s0 s1 s2 s3 s4 s5 s6 ()) k s6 s6.length (i : Nat) s0 s1 s2 s3 s4 s5 s6) (fun k i hi _ => ?_) (fun _ k => ?_) _ (by omega)
   ·have hw : w64 ((i : Int) + 1) = ((i + 1 : Nat) : Int) := w64_in _ (by omega)
    have hw2 : w64 (s2 + s0) = s2 + s0 := w64_in _ (by omega)
    have hw3 : w64 (s2 + 1) = s2 + 1 := w64_in _ (by omega)
    simp only [impl_ServerRight.G0, impl_ServerRight.R0, impl_ServerRight.A0, rd_cast, hw, hw2, hw3, F_iin, Option.bind_some]
    have hd : decide (i < (s6.length : Int)) = true := decide_eq_true (by omega)
    unfold slP
    grind [= bb_iff]
   ·simp only [impl_ServerRight.G0, impl_ServerRight.R0]
    rw [decide_eq_false (by omega), cond_false]; rfl
  rw [e]
  unfold serverP
  grind [= bb_iff]
 ·unfold serverP
  grind [= bb_iff]
end Go.Rv
