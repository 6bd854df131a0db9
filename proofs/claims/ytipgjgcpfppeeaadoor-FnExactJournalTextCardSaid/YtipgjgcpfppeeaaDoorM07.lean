/- Plain facts: text2. -/
import Derived.Test.YtipgjgcpfppeeaaDoorM06
set_option linter.unusedVariables false
set_option linter.unusedSimpArgs false
set_option linter.unusedSectionVars false
namespace Go.Rv
abbrev OpV := Int × Int × Int × Int × Int × Unit
abbrev gO (l : List OpV) (i : Nat) : OpV := l.getD i (0, 0, 0, 0, 0, ())
def opR (o : OpV) : Bool := opB o.1 o.2.1 o.2.2.1 o.2.2.2.1 o.2.2.2.2.1
def opS (o : OpV) : List UInt8 := opT o.1 o.2.1 o.2.2.1 o.2.2.2.1 o.2.2.2.2.1
def opsT (l : List OpV) : List UInt8 := l.flatMap fun o => opS o ++ [10]
theorem opS_le {o : OpV} (h : opR o = true) : (opS o).length ≤ 100 := opT_le (opB_rng h).2
theorem opsT_le : ∀ l : List OpV, (∀ o ∈ l, opR o = true) → (opsT l).length ≤ 101 * l.length
 | [], _ => by simp [opsT]
 | o :: r, h => by
  have h1 := opS_le (h o (by simp))
  have h2 := opsT_le r fun x hx => h x (by simp [hx])
  simp only [opsT] at h2
  simp only [opsT, List.flatMap_cons, List.length_append, List.length_cons, List.length_nil]
  omega
theorem opsT_snoc (l : List OpV) (o : OpV) : opsT (l ++ [o]) = opsT l ++ (opS o ++ [10]) := by simp [opsT]
theorem gO_at (d r : List OpV) (o : OpV) : rd (0, 0, 0, 0, 0, ()) (d ++ o :: r) (d.length : Int) = o := by
 show (d ++ o :: r).getD (d.length : Int).toNat (0, 0, 0, 0, 0, ()) = o
 rw [Int.toNat_natCast, List.getD_eq_getElem?_getD, List.getElem?_append_right (Nat.le_refl _), Nat.sub_self]
 rfl
def headT (length cap : Int) : List UInt8 := [115, 101, 114, 118, 101, 114] ++ (sp length ++ (sp cap ++ [10]))
def journT (length cap : Int) (l : List OpV) : List UInt8 := headT length cap ++ opsT l
theorem headT_le {length cap : Int} (h1 : i64P length) (h2 : i64P cap) : (headT length cap).length ≤ 60 := by
 have a := sp_le length h1
 have b := sp_le cap h2
 simp only [headT, List.length_append, List.length_cons, List.length_nil]
 omega
/-- a journal of the program's -/
theorem implJournal (length cap : Int) (l : List OpV) (h1 : i64P length) (h2 : i64P cap) (hl : l.length ≤ 400) (h : ∀ o ∈ l, opR o = true) : F_impl_journal (length, cap, l, ()) = some (strLit (journT length cap l), ()) := by
 have hh := headT_le h1 h2
 have a1 := itoa_le length h1
 have a2 := itoa_le cap h2
 have hs : F_impl_spaced ([(length, ()), (cap, ())], ()) = some (strLit (spT [(length, ()), (cap, ())]), ()) := spaced_ok _ (by simp) (by simp; exact ⟨h1, h2⟩)
 have hsl : (spT [(length, ()), (cap, ())]).length ≤ 22 * 2 := spT_le [(length, ()), (cap, ())] (by simp; exact ⟨h1, h2⟩)
 have hhead : F_impl_headText (length, cap, ()) = some (strLit (headT length cap), ()) := by
  show impl_headText.T length cap = _
  rw [impl_headText.T, hs, Option.bind_some]
  simp only [strLit_app, strLit_size, List.length_append, List.length_cons, List.length_nil]
  rw [if_pos (by omega), if_pos (by omega)]
  simp [headT, spT, sp]
 have key : ∀ (R : Type) (hx : ByteArray → Option R) (k0 : Nat) (rest done : List OpV) (k : Nat), l = done ++ rest → rest.length < k → impl_journal.G0 k0 hx k (strLit (headT length cap ++ opsT done)) l (l.length : Int) (done.length : Int) = hx (strLit (headT length cap ++ opsT l)) := by
  intro R hx k0 rest
  induction rest with
  | nil =>
   intro done k hd hk
   rw [List.append_nil] at hd
   subst hd
   cases k with
   | zero => simp at hk
   | succ k => rw [impl_journal.G0, impl_journal.R0, decide_eq_false (by omega), cond_false]
  | cons o rest ih =>
   intro done k hd hk
   cases k with
   | zero => simp at hk
   | succ k =>
    have hlen : l.length = done.length + (rest.length + 1) := by rw [hd, List.length_append, List.length_cons]
    have hg : rd (0, 0, 0, 0, 0, ()) l (done.length : Int) = o := by rw [hd]; exact gO_at done rest o
    have ho : opR o = true := h o (by rw [hd]; simp)
    have hol := opS_le ho
    have hdl := opsT_le done fun y hy => h y (by rw [hd]; simp [hy])
    rw [impl_journal.G0, impl_journal.R0, decide_eq_true (by omega), cond_true, if_pos (by omega), hg, implText ho, Option.bind_some]
    have ih' := ih (done ++ [o]) k (by rw [hd]; simp) (by simp only [List.length_cons] at hk; omega)
    have hw : w64 ((done.length : Int) + 1) = (((done ++ [o]).length : Nat) : Int) := (w64_in _ (by omega)).trans (by simp)
    have e0 : opT o.1 o.2.1 o.2.2.1 o.2.2.2.1 o.2.2.2.2.1 = opS o := rfl
    rw [e0, hw]
    simp only [strLit_app, strLit_size, List.length_append, List.length_cons, List.length_nil] at ih' ⊢
    rw [if_pos (by omega), if_pos (by omega)]
    rw [opsT_snoc, ← List.append_assoc] at ih'
    exact ih'
 show impl_journal.FF (300 + l.length) length cap l = _
 rw [impl_journal.FF, impl_journal.T, hhead, Option.bind_some]
 have := key _ (impl_journal.A0 length cap l) (300 + l.length) l [] (300 + l.length) rfl (by omega)
 simp only [opsT, List.flatMap_nil, List.append_nil] at this
 exact this
/-- a journal of the reference's -/
theorem specJournal (length cap : Int) (l : List OpV) (h1 : i64P length) (h2 : i64P cap) (hl : l.length ≤ 1048576) (hA : F_spec_l10Length (length, ()) = some (true, ())) (hB : wantB cap = true) (h3 : l.length ≤ 300) :
  ((∀ o ∈ l, opR o = true) → F_spec_JournalText (length, cap, l, ()) = some (strLit (journT length cap l), ())) ∧ ((¬ ∀ o ∈ l, opR o = true) → F_spec_JournalText (length, cap, l, ()) = some (strLit [], ())) := by
 have hh := headT_le h1 h2
 have a1 := itoa_le length h1
 have a2 := itoa_le cap h2
 have key : ∀ (R : Type) (hx0 : ByteArray → ByteArray → Option R) (hx1 : ByteArray → Option R) (k0 : Nat) (rest done : List OpV) (k : Nat), l = done ++ rest → rest.length < k → (∀ o ∈ done, opR o = true) →
   ((∀ o ∈ l, opR o = true) → spec_JournalText.G0 k0 hx0 hx1 k l (strLit (headT length cap ++ opsT done)) (done.length : Int) = hx1 (strLit (headT length cap ++ opsT l))) ∧ ((¬ ∀ o ∈ l, opR o = true) → ∃ t, spec_JournalText.G0 k0 hx0 hx1 k l (strLit (headT length cap ++ opsT done)) (done.length : Int) = hx0 (strLit []) t) := by
  intro R hx0 hx1 k0 rest
  induction rest with
  | nil =>
   intro done k hd hk hdone
   rw [List.append_nil] at hd
   subst hd
   cases k with
   | zero => simp at hk
   | succ k =>
    rw [spec_JournalText.G0, spec_JournalText.R0, decide_eq_false (by omega), cond_false]
    exact ⟨fun _ => rfl, fun h => absurd hdone h⟩
  | cons o rest ih =>
   intro done k hd hk hdone
   cases k with
   | zero => simp at hk
   | succ k =>
    have hlen : l.length = done.length + (rest.length + 1) := by rw [hd, List.length_append, List.length_cons]
    have hg : rd (0, 0, 0, 0, 0, ()) l (done.length : Int) = o := by rw [hd]; exact gO_at done rest o
    have hdl := opsT_le done hdone
    rw [spec_JournalText.G0, spec_JournalText.R0, decide_eq_true (by omega), cond_true, if_pos (by omega), hg, specOp, Option.bind_some]
    have e1 : opB o.1 o.2.1 o.2.2.1 o.2.2.2.1 o.2.2.2.2.1 = opR o := rfl
    rw [e1]
    by_cases ho : opR o = true
    ·have hol := opS_le ho
     rw [ho, Bool.not_true, cond_false, if_pos (by omega), specText ho, Option.bind_some]
     have ih' := ih (done ++ [o]) k (by rw [hd]; simp) (by simp only [List.length_cons] at hk; omega) (fun y hy => by
      rcases List.mem_append.1 hy with hy | hy
      ·exact hdone y hy
      ·rw [List.mem_singleton.1 hy]; exact ho)
     have hw : w64 ((done.length : Int) + 1) = (((done ++ [o]).length : Nat) : Int) := (w64_in _ (by omega)).trans (by simp)
     have e0 : opT o.1 o.2.1 o.2.2.1 o.2.2.2.1 o.2.2.2.2.1 = opS o := rfl
     rw [e0, hw]
     simp only [strLit_app, strLit_size, List.length_append, List.length_cons, List.length_nil] at ih' ⊢
     rw [if_pos (by omega), if_pos (by omega)]
     rw [opsT_snoc, ← List.append_assoc, ← List.append_assoc] at ih'
     exact ih'
    ·rw [Bool.not_eq_true] at ho
     rw [ho, Bool.not_false, cond_true]
     exact ⟨fun h => absurd (h o (by rw [hd]; simp)) (by rw [ho]; decide), fun _ => ⟨_, rfl⟩⟩
 have e : F_spec_JournalText (length, cap, l, ()) = spec_JournalText.G0 (300 + l.length) (spec_JournalText.A0 length cap l) (spec_JournalText.A1 length cap l) (300 + l.length) l (strLit (headT length cap)) 0 := by
  show spec_JournalText.FF (300 + l.length) length cap l = _
  rw [spec_JournalText.FF, spec_JournalText.T, hA, Option.bind_some, Bool.not_true, cond_false, sWant, hB, Option.bind_some, Bool.not_true, cond_false, decide_eq_false (by omega), cond_false, specDec length h1, Option.bind_some, specDec cap h2, Option.bind_some]
  simp only [strLit_app, strLit_size, List.length_append, List.length_cons, List.length_nil]
  rw [if_pos (by omega), if_pos (by omega), if_pos (by omega), if_pos (by omega)]
  congr 2
  simp [headT, sp]
 have hk := key _ (spec_JournalText.A0 length cap l) (spec_JournalText.A1 length cap l) (300 + l.length) l [] (300 + l.length) rfl (by omega) (by simp)
 simp only [opsT, List.flatMap_nil, List.append_nil] at hk
 rw [e]
 refine ⟨fun h => hk.1 h, fun h => ?_⟩
 obtain ⟨t, ht⟩ := hk.2 h
 exact ht
theorem implHas (l : List OpV) (hl : l.length ≤ 1048576) : F_slices_ContainsFunc_impl_Op_impl_Op_at_impl_JournalText_1 (l, ()) = some (bb (¬ ∀ o ∈ l, opR o = true), ()) := by
 have key : ∀ (k0 : Nat) (rest done : List OpV) (k : Nat), l = done ++ rest → rest.length < k → (∀ o ∈ done, opR o = true) →
   ∃ z : Int, slices_IndexFunc_impl_Op_impl_Op_at_impl_JournalText_1.G0 k0 (slices_IndexFunc_impl_Op_impl_Op_at_impl_JournalText_1.A0 l) (fun _ => slices_IndexFunc_impl_Op_impl_Op_at_impl_JournalText_1.A1 l ()) k l (l.length : Int) (done.length : Int) = some (z, ()) ∧ decide (z ≥ 0) = bb (¬ ∀ o ∈ l, opR o = true) := by
  intro k0 rest
  induction rest with
  | nil =>
   intro done k hd hk hdone
   rw [List.append_nil] at hd
   subst hd
   cases k with
   | zero => simp at hk
   | succ k =>
    rw [slices_IndexFunc_impl_Op_impl_Op_at_impl_JournalText_1.G0, slices_IndexFunc_impl_Op_impl_Op_at_impl_JournalText_1.R0, decide_eq_false (by omega), cond_false]
    exact ⟨-1, rfl, by rw [bb_neg fun h => h hdone]; rfl⟩
  | cons o rest ih =>
   intro done k hd hk hdone
   cases k with
   | zero => simp at hk
   | succ k =>
    have hlen : l.length = done.length + (rest.length + 1) := by rw [hd, List.length_append, List.length_cons]
    have hg : rd (0, 0, 0, 0, 0, ()) l (done.length : Int) = o := by rw [hd]; exact gO_at done rest o
    have hp : F_impl_JournalText_1 (o.1, o.2.1, o.2.2.1, o.2.2.2.1, o.2.2.2.2.1, ()) = some (!opR o, ()) := by
     show impl_JournalText_1.T _ _ _ _ _ = _
     rw [impl_JournalText_1.T, implOp]; rfl
    rw [slices_IndexFunc_impl_Op_impl_Op_at_impl_JournalText_1.G0, slices_IndexFunc_impl_Op_impl_Op_at_impl_JournalText_1.R0, decide_eq_true (by omega), cond_true, if_pos (by omega), hg, hp, Option.bind_some]
    by_cases ho : opR o = true
    ·rw [ho, Bool.not_true, cond_false]
     have ih' := ih (done ++ [o]) k (by rw [hd]; simp) (by simp only [List.length_cons] at hk; omega) (fun y hy => by
      rcases List.mem_append.1 hy with hy | hy
      ·exact hdone y hy
      ·rw [List.mem_singleton.1 hy]; exact ho)
     have hw : w64 ((done.length : Int) + 1) = (((done ++ [o]).length : Nat) : Int) := (w64_in _ (by omega)).trans (by simp)
     rw [hw]
     exact ih'
    ·rw [Bool.not_eq_true] at ho
     rw [ho, Bool.not_false, cond_true]
     refine ⟨done.length, rfl, ?_⟩
     rw [bb_true fun h => absurd (h o (by rw [hd]; simp)) (by rw [ho]; decide)]
     exact decide_eq_true (by omega)
 obtain ⟨z, h1, h2⟩ := key (300 + l.length) l [] (300 + l.length) rfl (by omega) (by simp)
 show slices_ContainsFunc_impl_Op_impl_Op_at_impl_JournalText_1.T l = _
 have e : F_slices_IndexFunc_impl_Op_impl_Op_at_impl_JournalText_1 (l, ()) = some (z, ()) := h1
 rw [slices_ContainsFunc_impl_Op_impl_Op_at_impl_JournalText_1.T, e, Option.bind_some, h2]
theorem lenB (n : Int) : F_spec_l10Length (n, ()) = some (decide (n ≥ 1) && decide (n ≤ 1000), ()) := condB _ _
theorem mayB (n c : Int) : F_impl_mayStart (n, c, ()) = some ((decide (n ≥ 1) && decide (n ≤ 1000)) && wantB c, ()) := by
 show impl_mayStart.T n c = _
 rw [impl_mayStart.T, iIn, Option.bind_some, iWant, Option.bind_some]
 exact condB _ _
theorem journEq (length cap : Int) (l : List OpV) (hl : l.length ≤ 1048576) : ∃ t, F_spec_JournalText (length, cap, l, ()) = some (t, ()) ∧ F_impl_JournalText (length, cap, l, ()) = some (t, ()) := by
 show ∃ t, _ ∧ impl_JournalText.T length cap l = _
 rw [impl_JournalText.T, mayB, Option.bind_some]
 by_cases hA : (decide (length ≥ 1) && decide (length ≤ 1000)) = true
 ·by_cases hB : wantB cap = true
  ·rw [hA, hB, Bool.and_self, Bool.not_true, cond_false]
   have r1 : i64P length := by simp at hA; unfold i64P; omega
   have r2 : i64P cap := by simp [wantB] at hB; unfold i64P; omega
   by_cases h3 : l.length ≤ 300
   ·rw [decide_eq_false (by omega), cond_false, implHas l hl, Option.bind_some]
    obtain ⟨s1, s2⟩ := specJournal length cap l r1 r2 hl (by rw [lenB, hA]) hB h3
    by_cases h : ∀ o ∈ l, opR o = true
    ·rw [bb_neg fun hn => hn h, cond_false, implJournal length cap l r1 r2 (by omega) h]
     exact ⟨_, s1 h, rfl⟩
    ·rw [bb_true h, cond_true]
     exact ⟨_, s2 h, rfl⟩
   ·rw [decide_eq_true (by omega), cond_true]
    refine ⟨_, ?_, rfl⟩
    show spec_JournalText.FF (300 + l.length) length cap l = _
    rw [spec_JournalText.FF, spec_JournalText.T, lenB, hA, Option.bind_some, Bool.not_true, cond_false, sWant, hB, Option.bind_some, Bool.not_true, cond_false, decide_eq_true (by omega), cond_true]
  ·rw [Bool.not_eq_true] at hB
   rw [hA, hB, Bool.and_false, Bool.not_false, cond_true]
   refine ⟨_, ?_, rfl⟩
   show spec_JournalText.FF (300 + l.length) length cap l = _
   rw [spec_JournalText.FF, spec_JournalText.T, lenB, hA, Option.bind_some, Bool.not_true, cond_false, sWant, hB, Option.bind_some, Bool.not_false, cond_true]
 ·rw [Bool.not_eq_true] at hA
  rw [hA, Bool.false_and, Bool.not_false, cond_true]
  refine ⟨_, ?_, rfl⟩
  show spec_JournalText.FF (300 + l.length) length cap l = _
  rw [spec_JournalText.FF, spec_JournalText.T, lenB, hA, Option.bind_some, Bool.not_false, cond_true]
theorem lawOpText (k i g a b : Int) : F_laws_FnExactOpText (k, i, g, a, b, ()) = some (true, ()) := by
 have hi : F_impl_OpText (k, i, g, a, b, ()) = F_spec_OpText (k, i, g, a, b, ()) := by
  show impl_OpText.T k i g a b = _
  rw [impl_OpText.T, implOp, Option.bind_some]
  by_cases h : opB k i g a b = true
  ·rw [h, Bool.not_true, cond_false, implText h, specText h]; rfl
  ·rw [Bool.not_eq_true] at h
   rw [h, Bool.not_false, cond_true, specTextNo h]
 have hs : ∃ t, F_spec_OpText (k, i, g, a, b, ()) = some (t, ()) := by
  by_cases h : opB k i g a b = true
  ·exact ⟨_, specText h⟩
  ·rw [Bool.not_eq_true] at h
   exact ⟨_, specTextNo h⟩
 obtain ⟨t, ht⟩ := hs
 show laws_FnExactOpText.T k i g a b = _
 simp only [laws_FnExactOpText.T, toOp, Option.bind_some, hi, ht, seq_self, Bool.not_true, cond_false]
theorem pureOpText : ∀ x : CTs.V (insC ins_laws_FnExactOpText), CTs.ok (insC ins_laws_FnExactOpText) x → F_laws_FnExactOpText x = some (true, ()) := by
 rintro ⟨k, i, g, a, b, ⟨⟩⟩ _
 exact lawOpText k i g a b
theorem lawJournalText (s0 s1 : Int) (s2 : List OpV) (h2 : s2.length ≤ 140737488355328) : F_laws_FnExactJournalText (s0, s1, s2, ()) = some (true, ()) := by
 obtain ⟨z, hz, g2, g3⟩ := szOpS s2 1048576 (by omega) (by omega) h2
 show laws_FnExactJournalText.T s0 s1 s2 = _
 simp only [laws_FnExactJournalText.T, hz, Option.bind_some]
 simp only [List.mem_cons, List.not_mem_nil, or_false, forall_eq] at g3
 by_cases h : z < 0
 ·rw [decide_eq_true h]; rfl
 ·rw [decide_eq_false h]
  have k2 := g3 (by omega)
  have k2' : s2.length ≤ 1048576 := by omega
  obtain ⟨t, e1, e2⟩ := journEq s0 s1 s2 k2'
  simp only [toOpS s2 k2', e1, e2, eqOpS s2 k2', seq_self, Option.bind_some, cond_false, Bool.not_true]
theorem pureJournalText : ∀ x : CTs.V (insC ins_laws_FnExactJournalText), CTs.ok (insC ins_laws_FnExactJournalText) x → F_laws_FnExactJournalText x = some (true, ()) := by
 rintro ⟨s0, s1, s2, ⟨⟩⟩ h
 obtain ⟨-, -, ⟨h2, -⟩, -⟩ := h
 exact lawJournalText s0 s1 s2 (len_of (α := OpV) 40 (by omega) h2)
end Go.Rv
