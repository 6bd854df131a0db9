/- Plain facts: text2-jt. -/
import Derived.Test.YtipgjgcpfppeeaaDoorM10
set_option linter.unusedVariables false
set_option linter.unusedSimpArgs false
set_option linter.unusedSectionVars false
namespace Go.Rv
abbrev OpV := Int × Int × Int × Int × Int × Unit
abbrev gO (l : List OpV) (i : Nat) : OpV := l.getD i (0, 0, 0, 0, 0, ())
def opR (o : OpV) : Bool := opB o.1 o.2.1 o.2.2.1 o.2.2.2.1 o.2.2.2.2.1
def opS (o : OpV) : List UInt8 := opT o.1 o.2.1 o.2.2.1 o.2.2.2.1 o.2.2.2.2.1
def opsT (l : List OpV) : List UInt8 := l.flatMap fun o => opS o ++ [10]
theorem opS_le {o : OpV} (h : opR o = true) : (opS o).length ≤ 100 := opT_le (opB_rng h).2
theorem opsT_le : ∀ l : List OpV, (∀ o ∈ l, opR o = true) → (opsT l).length ≤ 101 * l.length
 | [], _ => by simp [opsT]
 | o :: r, h => by
  have h1 := opS_le (h o (by simp))
  have h2 := opsT_le r fun x hx => h x (by simp [hx])
  simp only [opsT] at h2
  simp only [opsT, List.flatMap_cons, List.length_append, List.length_cons, List.length_nil]
  omega
theorem opsT_snoc (l : List OpV) (o : OpV) : opsT (l ++ [o]) = opsT l ++ (opS o ++ [10]) := by simp [opsT]
theorem gO_at (d r : List OpV) (o : OpV) : rd (0, 0, 0, 0, 0, ()) (d ++ o :: r) (d.length : Int) = o := by
 show (d ++ o :: r).getD (d.length : Int).toNat (0, 0, 0, 0, 0, ()) = o
 rw [Int.toNat_natCast, List.getD_eq_getElem?_getD, List.getElem?_append_right (Nat.le_refl _), Nat.sub_self]
 rfl
def headT (length cap : Int) : List UInt8 := [115, 101, 114, 118, 101, 114] ++ (sp length ++ (sp cap ++ [10]))
def journT (length cap : Int) (l : List OpV) : List UInt8 := headT length cap ++ opsT l
theorem headT_le {length cap : Int} (h1 : i64P length) (h2 : i64P cap) : (headT length cap).length ≤ 60 := by
 have a := sp_le length h1
 have b := sp_le cap h2
 simp only [headT, List.length_append, List.length_cons, List.length_nil]
 omega
/-- a journal of the program's -/
theorem implJournal (length cap : Int) (l : List OpV) (h1 : i64P length) (h2 : i64P cap) (hl : l.length ≤ 400) (h : ∀ o ∈ l, opR o = true) : F_impl_journal (length, cap, l, ()) = some (strLit (journT length cap l), ()) := by
 have hh := headT_le h1 h2
 have a1 := itoa_le length h1
 have a2 := itoa_le cap h2
 have hs : F_impl_spaced ([(length, ()), (cap, ())], ()) = some (strLit (spT [(length, ()), (cap, ())]), ()) := spaced_ok _ (by simp) (by simp; exact ⟨h1, h2⟩)
 have hsl : (spT [(length, ()), (cap, ())]).length ≤ 22 * 2 := spT_le [(length, ()), (cap, ())] (by simp; exact ⟨h1, h2⟩)
 have hhead : F_impl_headText (length, cap, ()) = some (strLit (headT length cap), ()) := by
  show impl_headText.T length cap = _
  rw [impl_headText.T, hs, Option.bind_some]
  simp only [strLit_app, strLit_size, List.length_append, List.length_cons, List.length_nil]
  rw [if_pos (by omega), if_pos (by omega)]
  simp [headT, spT, sp]
 have key : ∀ (R : Type) (hx : ByteArray → Option R) (k0 : Nat) (rest done : List OpV) (k : Nat), l = done ++ rest → rest.length < k → impl_journal.G0 k0 hx k (strLit (headT length cap ++ opsT done)) l (l.length : Int) (done.length : Int) = hx (strLit (headT length cap ++ opsT l)) := by
  intro R hx k0 rest
  induction rest with
  | nil =>
   intro done k hd hk
   rw [List.append_nil] at hd
   subst hd
   cases k with
   | zero => simp at hk
   | succ k => rw [impl_journal.G0, impl_journal.R0, decide_eq_false (by omega), cond_false]
  | cons o rest ih =>
   intro done k hd hk
   cases k with
   | zero => simp at hk
   | succ k =>
    have hlen : l.length = done.length + (rest.length + 1) := by rw [hd, List.length_append, List.length_cons]
    have hg : rd (0, 0, 0, 0, 0, ()) l (done.length : Int) = o := by rw [hd]; exact gO_at done rest o
    have ho : opR o = true := h o (by rw [hd]; simp)
    have hol := opS_le ho
    have hdl := opsT_le done fun y hy => h y (by rw [hd]; simp [hy])
    rw [impl_journal.G0, impl_journal.R0, decide_eq_true (by omega), cond_true, if_pos (by omega), hg, implText ho, Option.bind_some]
    have ih' := ih (done ++ [o]) k (by rw [hd]; simp) (by simp only [List.length_cons] at hk; omega)
    have hw : w64 ((done.length : Int) + 1) = (((done ++ [o]).length : Nat) : Int) := (w64_in _ (by omega)).trans (by simp)
    have e0 : opT o.1 o.2.1 o.2.2.1 o.2.2.2.1 o.2.2.2.2.1 = opS o := rfl
    rw [e0, hw]
    simp only [strLit_app, strLit_size, List.length_append, List.length_cons, List.length_nil] at ih' ⊢
    rw [if_pos (by omega), if_pos (by omega)]
    rw [opsT_snoc, ← List.append_assoc] at ih'
    exact ih'
 show impl_journal.FF (300 + l.length) length cap l = _
 rw [impl_journal.FF, impl_journal.T, hhead, Option.bind_some]
 have := key _ (impl_journal.A0 length cap l) (300 + l.length) l [] (300 + l.length) rfl (by omega)
 simp only [opsT, List.flatMap_nil, List.append_nil] at this
 exact this
/-- a journal of the reference's -/
theorem specJournal (length cap : Int) (l : List OpV) (h1 : i64P length) (h2 : i64P cap) (hl : l.length ≤ 1048576) (hA : F_spec_l10Length (length, ()) = some (true, ())) (hB : wantB cap = true) (h3 : l.length ≤ 300) :
  ((∀ o ∈ l, opR o = true) → F_spec_JournalText (length, cap, l, ()) = some (strLit (journT length cap l), ())) ∧ ((¬ ∀ o ∈ l, opR o = true) → F_spec_JournalText (length, cap, l, ()) = some (strLit [], ())) := by
 have hh := headT_le h1 h2
 have a1 := itoa_le length h1
 have a2 := itoa_le cap h2
 have key : ∀ (R : Type) (hx0 : ByteArray → ByteArray → Option R) (hx1 : ByteArray → Option R) (k0 : Nat) (rest done : List OpV) (k : Nat), l = done ++ rest → rest.length < k → (∀ o ∈ done, opR o = true) →
   ((∀ o ∈ l, opR o = true) → spec_JournalText.G0 k0 hx0 hx1 k l (strLit (headT length cap ++ opsT done)) (done.length : Int) = hx1 (strLit (headT length cap ++ opsT l))) ∧ ((¬ ∀ o ∈ l, opR o = true) → ∃ t, spec_JournalText.G0 k0 hx0 hx1 k l (strLit (headT length cap ++ opsT done)) (done.length : Int) = hx0 (strLit []) t) := by
  intro R hx0 hx1 k0 rest
  induction rest with
  | nil =>
   intro done k hd hk hdone
   rw [List.append_nil] at hd
   subst hd
   cases k with
   | zero => simp at hk
   | succ k =>
    rw [spec_JournalText.G0, spec_JournalText.R0, decide_eq_false (by omega), cond_false]
    exact ⟨fun _ => rfl, fun h => absurd hdone h⟩
  | cons o rest ih =>
   intro done k hd hk hdone
   cases k with
   | zero => simp at hk
   | succ k =>
    have hlen : l.length = done.length + (rest.length + 1) := by rw [hd, List.length_append, List.length_cons]
    have hg : rd (0, 0, 0, 0, 0, ()) l (done.length : Int) = o := by rw [hd]; exact gO_at done rest o
    have hdl := opsT_le done hdone
    rw [spec_JournalText.G0, spec_JournalText.R0, decide_eq_true (by omega), cond_true, if_pos (by omega), hg, specOp, Option.bind_some]
    have e1 : opB o.1 o.2.1 o.2.2.1 o.2.2.2.1 o.2.2.2.2.1 = opR o := rfl
    rw [e1]
    by_cases ho : opR o = true
    ·have hol := opS_le ho
     rw [ho, Bool.not_true, cond_false, if_pos (by omega), specText ho, Option.bind_some]
     have ih' := ih (done ++ [o]) k (by rw [hd]; simp) (by simp only [List.length_cons] at hk; omega) (fun y hy => by
      rcases List.mem_append.1 hy with hy | hy
      ·exact hdone y hy
      ·rw [List.mem_singleton.1 hy]; exact ho)
     have hw : w64 ((done.length : Int) + 1) = (((done ++ [o]).length : Nat) : Int) := (w64_in _ (by omega)).trans (by simp)
     have e0 : opT o.1 o.2.1 o.2.2.1 o.2.2.2.1 o.2.2.2.2.1 = opS o := rfl
     rw [e0, hw]
     simp only [strLit_app, strLit_size, List.length_append, List.length_cons, List.length_nil] at ih' ⊢
     rw [if_pos (by omega), if_pos (by omega)]
     rw [opsT_snoc, ← List.append_assoc, ← List.append_assoc] at ih'
     exact ih'
    ·rw [Bool.not_eq_true] at ho
     rw [ho, Bool.not_false, cond_true]
     exact ⟨fun h => absurd (h o (by rw [hd]; simp)) (by rw [ho]; decide), fun _ => ⟨_, rfl⟩⟩
 have e : F_spec_JournalText (length, cap, l, ()) = spec_JournalText.G0 (300 + l.length) (spec_JournalText.A0 length cap l) (spec_JournalText.A1 length cap l) (300 + l.length) l (strLit (headT length cap)) 0 := by
  show spec_JournalText.FF (300 + l.length) length cap l = _
  rw [spec_JournalText.FF, spec_JournalText.T, hA, Option.bind_some, Bool.not_true, cond_false, sWant, hB, Option.bind_some, Bool.not_true, cond_false, decide_eq_false (by omega), cond_false, specDec length h1, Option.bind_some, specDec cap h2, Option.bind_some]
  simp only [strLit_app, strLit_size, List.length_append, List.length_cons, List.length_nil]
  rw [if_pos (by omega), if_pos (by omega), if_pos (by omega), if_pos (by omega)]
  congr 2
  simp [headT, sp]
 have hk := key _ (spec_JournalText.A0 length cap l) (spec_JournalText.A1 length cap l) (300 + l.length) l [] (300 + l.length) rfl (by omega) (by simp)
 simp only [opsT, List.flatMap_nil, List.append_nil] at hk
 rw [e]
 refine ⟨fun h => hk.1 h, fun h => ?_⟩
 obtain ⟨t, ht⟩ := hk.2 h
 exact ht
theorem lenB (n : Int) : F_spec_l10Length (n, ()) = some (decide (n ≥ 1) && decide (n ≤ 1000), ()) := condB _ _
theorem mayB (n c : Int) : F_impl_mayStart (n, c, ()) = some ((decide (n ≥ 1) && decide (n ≤ 1000)) && wantB c, ()) := by
 show impl_mayStart.T n c = _
 rw [impl_mayStart.T, iIn, Option.bind_some, iWant, Option.bind_some]
 exact condB _ _
end Go.Rv
