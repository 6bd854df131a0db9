/- Plain facts: ReportText. -/
import Derived.Test.YtnoanpohmppnaaaGreatDoorM25
set_option linter.unusedVariables false
set_option linter.unusedSimpArgs false
set_option linter.unusedSectionVars false
namespace Go.Rv
/-! ### what is leased, and the text of a server -/
noncomputable def leaTerm (l : List I3) (now id : Int) (i : Nat) : Int := if (g3 l i).2.2.1 > now then (if (g3 l i).1 = id then 0 else (g3 l i).2.1) else 0
noncomputable def leaSum (l : List I3) (now id : Int) (n : Nat) : Int := sumTo n (leaTerm l now id)
theorem leaTerm_bd {l : List I3} (h : leasesP l) (now id : Int) (i : Nat) (hi : i < l.length) : 0 ≤ leaTerm l now id i ∧ leaTerm l now id i ≤ 1125899906842624 := by
 have := (h.2 i hi).1
 unfold leaseP wantP at this
 unfold leaTerm
 repeat' split
 all_goals omega
theorem leaSum_bd {l : List I3} (h : leasesP l) (now id : Int) (n : Nat) (hn : n ≤ l.length) : 0 ≤ leaSum l now id n ∧ leaSum l now id n ≤ 67553994410557440 := by
 have h1 := sumTo_bd 1125899906842624 (leaTerm l now id) n fun q hq => leaTerm_bd h now id q (by omega)
 have h2 := h.1
 unfold leaSum
 omega
theorem specOthers (l : List I3) (h : leasesP l) (now id : Int) : F_spec_LeaseOthers (l, now, id, ()) = some (leaSum l now id l.length, ()) := by
 have hl := h.1
 show spec_LeaseOthers.FF (300 + l.length) l now id = _
 rw [spec_LeaseOthers.FF, spec_LeaseOthers.T, specLeases l (by omega), bb_true h, Option.bind_some, Bool.not_true, cond_false]
 refine run 0 l.length (fun k i => spec_LeaseOthers.G0 (300 + l.length) (spec_LeaseOthers.A0 l now id) k l now id (leaSum l now id i) (i : Nat)) _ (fun k i _ hi => ?_) (fun k => ?_) _ (by omega) (by omega)
 ·have hb := leaSum_bd h now id i (by omega)
  have ht := leaTerm_bd h now id i hi
  have hw : w64 ((i : Int) + 1) = ((i + 1 : Nat) : Int) := w64_in _ (by omega)
  have e : leaSum l now id (i + 1) = leaSum l now id i + leaTerm l now id i := rfl
  show spec_LeaseOthers.G0 _ _ (k + 1) l now id (leaSum l now id i) (i : Nat) = spec_LeaseOthers.G0 _ _ k l now id (leaSum l now id (i + 1)) ((i + 1 : Nat) : Int)
  have hc : (0 : Int) ≤ (i : Int) ∧ (i : Int) < (l.length : Int) := by omega
  simp only [spec_LeaseOthers.G0, spec_LeaseOthers.R0, rd_cast, hw, if_pos hc, decide_eq_true hc.2, cond_true]
  rw [e]
  unfold leaTerm at ht ⊢
  by_cases c1 : (g3 l i).2.2.1 > now
  ·rw [if_pos c1] at ht ⊢
   rw [decide_eq_true c1, cond_true]
   by_cases c2 : (g3 l i).1 = id
   ·rw [if_pos c2, show ((l.getD i (0, 0, 0, ())).1 != id) = false by rw [show (l.getD i (0, 0, 0, ())).1 = id from c2]; exact bne_self_eq_false _, cond_false, Int.add_zero]
   ·rw [if_neg c2] at ht ⊢
    rw [show ((l.getD i (0, 0, 0, ())).1 != id) = true from bne_iff_ne.2 c2, cond_true, show (l.getD i (0, 0, 0, ())).2.1 = (g3 l i).2.1 from rfl, w64_in _ (by omega)]
  ·rw [if_neg c1, decide_eq_false c1, cond_false, Int.add_zero]
 ·simp only [spec_LeaseOthers.G0, spec_LeaseOthers.R0]
  rw [decide_eq_false (by omega), cond_false]
  rfl
theorem implLeased (l : List I3) (h : leasesP l) (now id : Int) : F_impl_leased (l, now, id, ()) = some (leaSum l now id l.length, ()) := by
 have hl := h.1
 show impl_leased.FF (300 + l.length) l now id = _
 rw [impl_leased.FF, impl_leased.T]
 refine run 0 l.length (fun k i => impl_leased.G0 (300 + l.length) (impl_leased.A0 l now id) k now id (leaSum l now id i) l (l.length : Int) (i : Nat)) _ (fun k i _ hi => ?_) (fun k => ?_) _ (by omega) (by omega)
 ·have hb := leaSum_bd h now id i (by omega)
  have ht := leaTerm_bd h now id i hi
  have hw : w64 ((i : Int) + 1) = ((i + 1 : Nat) : Int) := w64_in _ (by omega)
  have e : leaSum l now id (i + 1) = leaSum l now id i + leaTerm l now id i := rfl
  show impl_leased.G0 _ _ (k + 1) now id (leaSum l now id i) l _ (i : Nat) = impl_leased.G0 _ _ k now id (leaSum l now id (i + 1)) l _ ((i + 1 : Nat) : Int)
  have hc : (0 : Int) ≤ (i : Int) ∧ (i : Int) < (l.length : Int) := by omega
  simp only [impl_leased.G0, impl_leased.R0, rd_cast, hw, if_pos hc, decide_eq_true hc.2, cond_true]
  rw [e]
  unfold leaTerm at ht ⊢
  by_cases c1 : (g3 l i).2.2.1 > now
  ·rw [if_pos c1] at ht ⊢
   rw [decide_eq_true c1, cond_true]
   by_cases c2 : (g3 l i).1 = id
   ·rw [if_pos c2, show ((l.getD i (0, 0, 0, ())).1 != id) = false by rw [show (l.getD i (0, 0, 0, ())).1 = id from c2]; exact bne_self_eq_false _, cond_false, Int.add_zero]
   ·rw [if_neg c2] at ht ⊢
    rw [show ((l.getD i (0, 0, 0, ())).1 != id) = true from bne_iff_ne.2 c2, cond_true, show (l.getD i (0, 0, 0, ())).2.1 = (g3 l i).2.1 from rfl, w64_in _ (by omega)]
  ·rw [if_neg c1, decide_eq_false c1, cond_false, Int.add_zero]
 ·simp only [impl_leased.G0, impl_leased.R0]
  rw [decide_eq_false (by omega), cond_false]
  rfl
abbrev RowV := Int × Int × Int × Int × Int × Int × Unit
def rT (r : RowV) : List UInt8 := spT [(r.1, ()), (r.2.1, ()), (r.2.2.1, ()), (r.2.2.2.1, ()), (r.2.2.2.2.1, ()), (r.2.2.2.2.2.1, ())] ++ [10]
def rsT (l : List RowV) : List UInt8 := l.flatMap rT
theorem row64 {r : RowV} (h : rowR r) : i64P r.1 ∧ i64P r.2.1 ∧ i64P r.2.2.1 ∧ i64P r.2.2.2.1 ∧ i64P r.2.2.2.2.1 ∧ i64P r.2.2.2.2.2.1 := by unfold rowR at h; unfold i64P; omega
theorem rT_le {r : RowV} (h : rowR r) : (rT r).length ≤ 140 := by
 obtain ⟨h1, h2, h3, h4, h5, h6⟩ := row64 h
 have := spT_le [(r.1, ()), (r.2.1, ()), (r.2.2.1, ()), (r.2.2.2.1, ()), (r.2.2.2.2.1, ()), (r.2.2.2.2.2.1, ())] (by simp; exact ⟨h1, h2, h3, h4, h5, h6⟩)
 simp only [List.length_cons, List.length_nil] at this
 simp only [rT, List.length_append, List.length_cons, List.length_nil]
 omega
theorem rsT_le : ∀ l : List RowV, (∀ r ∈ l, rowR r) → (rsT l).length ≤ 140 * l.length
 | [], _ => by simp [rsT]
 | r :: l, h => by
  have h1 := rT_le (h r (by simp))
  have h2 := rsT_le l fun x hx => h x (by simp [hx])
  simp only [rsT] at h2
  simp only [rsT, List.flatMap_cons, List.length_append, List.length_cons]
  omega
theorem rsT_snoc (l : List RowV) (r : RowV) : rsT (l ++ [r]) = rsT l ++ rT r := by simp [rsT]
theorem row_at (d r : List RowV) (o : RowV) : (d ++ o :: r).getD ((d.length : Int)).toNat (0, 0, 0, 0, 0, 0, ()) = o := by
 rw [Int.toNat_natCast, List.getD_eq_getElem?_getD, List.getElem?_append_right (Nat.le_refl _), Nat.sub_self]
 rfl
theorem specRowsT (R : Type) (hx : ByteArray → Int → Int → Int → Int → List I4 → List I4 → List I3 → Option R) (k0 : Nat) (s0 s1 s2 s3 : Int) (s4 s5 : List I4) (s6 : List I3) (L : List RowV) (hL : L.length ≤ 60) (hr : ∀ r ∈ L, rowR r) : ∀ (rest done : List RowV) (k : Nat), L = done ++ rest → rest.length < k →
  spec_ReportText.G0 k0 hx k (strLit (rsT done)) (done.length : Int) s0 s1 s2 s3 s4 s5 s6 L = hx (strLit (rsT L)) s0 s1 s2 s3 s4 s5 s6 := by
 intro rest
 induction rest with
 | nil =>
  intro done k hd hk
  rw [List.append_nil] at hd
  subst hd
  cases k with
  | zero => simp at hk
  | succ k => rw [spec_ReportText.G0, spec_ReportText.R0, decide_eq_false (by omega), cond_false]
 | cons o rest ih =>
  intro done k hd hk
  cases k with
  | zero => simp at hk
  | succ k =>
   have hlen : L.length = done.length + (rest.length + 1) := by rw [hd]; simp
   have hg : L.getD ((done.length : Int)).toNat (0, 0, 0, 0, 0, 0, ()) = o := by rw [hd]; exact row_at done rest o
   have ho : rowR o := hr o (by rw [hd]; simp)
   obtain ⟨h1, h2, h3, h4, h5, h6⟩ := row64 ho
   have q1 := itoa_le _ h1
   have q2 := itoa_le _ h2
   have q3 := itoa_le _ h3
   have q4 := itoa_le _ h4
   have q5 := itoa_le _ h5
   have q6 := itoa_le _ h6
   have hdl := rsT_le done fun y hy => hr y (by rw [hd]; simp [hy])
   have hc : (0 : Int) ≤ (done.length : Int) ∧ (done.length : Int) < (L.length : Int) := by omega
   have hw : w64 ((done.length : Int) + 1) = (((done ++ [o]).length : Nat) : Int) := (w64_in _ (by omega)).trans (by simp)
   have ih' := ih (done ++ [o]) k (by rw [hd]; simp) (by simp only [List.length_cons] at hk; omega)
   rw [spec_ReportText.G0, spec_ReportText.R0]
   simp only [hg, if_pos hc, decide_eq_true hc.2, cond_true, specDec _ h1, specDec _ h2, specDec _ h3, specDec _ h4, specDec _ h5, specDec _ h6, Option.bind_some, strLit_app, strLit_size, List.length_append, List.length_cons, List.length_nil, hw]
   rw [if_pos (by omega), if_pos (by omega), if_pos (by omega), if_pos (by omega), if_pos (by omega), if_pos (by omega), if_pos (by omega), if_pos (by omega), if_pos (by omega), if_pos (by omega), if_pos (by omega), if_pos (by omega)]
   rw [rsT_snoc] at ih'
   simp only [List.length_append, List.length_cons, List.length_nil] at ih'
   rw [← ih']
   congr 2
   simp [rT, spT, sp]
theorem implRowsT (R : Type) (hx : ByteArray → Int → Int → Int → Int → List I4 → List I4 → List I3 → Option R) (k0 : Nat) (s0 s1 s2 s3 : Int) (s4 s5 : List I4) (s6 : List I3) (L : List RowV) (hL : L.length ≤ 60) (hr : ∀ r ∈ L, rowR r) : ∀ (rest done : List RowV) (k : Nat), L = done ++ rest → rest.length < k →
  impl_Server_report.G0 k0 hx k (strLit (rsT done)) (L.length : Int) (done.length : Int) s0 s1 s2 s3 s4 s5 s6 L = hx (strLit (rsT L)) s0 s1 s2 s3 s4 s5 s6 := by
 intro rest
 induction rest with
 | nil =>
  intro done k hd hk
  rw [List.append_nil] at hd
  subst hd
  cases k with
  | zero => simp at hk
  | succ k => rw [impl_Server_report.G0, impl_Server_report.R0, decide_eq_false (by omega), cond_false]
 | cons o rest ih =>
  intro done k hd hk
  cases k with
  | zero => simp at hk
  | succ k =>
   have hlen : L.length = done.length + (rest.length + 1) := by rw [hd]; simp
   have hg : L.getD ((done.length : Int)).toNat (0, 0, 0, 0, 0, 0, ()) = o := by rw [hd]; exact row_at done rest o
   have ho : rowR o := hr o (by rw [hd]; simp)
   obtain ⟨h1, h2, h3, h4, h5, h6⟩ := row64 ho
   have hdl := rsT_le done fun y hy => hr y (by rw [hd]; simp [hy])
   have hol := rT_le ho
   have hc : (0 : Int) ≤ (done.length : Int) ∧ (done.length : Int) < (L.length : Int) := by omega
   have hw : w64 ((done.length : Int) + 1) = (((done ++ [o]).length : Nat) : Int) := (w64_in _ (by omega)).trans (by simp)
   have hs : F_impl_spaced ([(o.1, ()), (o.2.1, ()), (o.2.2.1, ()), (o.2.2.2.1, ()), (o.2.2.2.2.1, ()), (o.2.2.2.2.2.1, ())], ()) = some (strLit (spT [(o.1, ()), (o.2.1, ()), (o.2.2.1, ()), (o.2.2.2.1, ()), (o.2.2.2.2.1, ()), (o.2.2.2.2.2.1, ())]), ()) := spaced_ok _ (by simp) (by simp; exact ⟨h1, h2, h3, h4, h5, h6⟩)
   have ih' := ih (done ++ [o]) k (by rw [hd]; simp) (by simp only [List.length_cons] at hk; omega)
   rw [impl_Server_report.G0, impl_Server_report.R0]
   simp only [hg, if_pos hc, decide_eq_true hc.2, cond_true, hs, Option.bind_some, strLit_app, strLit_size, hw]
   have e : spT [(o.1, ()), (o.2.1, ()), (o.2.2.1, ()), (o.2.2.2.1, ()), (o.2.2.2.2.1, ()), (o.2.2.2.2.2.1, ())] ++ [10] = rT o := rfl
   rw [e]
   have e2 : (spT [(o.1, ()), (o.2.1, ()), (o.2.2.1, ()), (o.2.2.2.1, ()), (o.2.2.2.2.1, ()), (o.2.2.2.2.2.1, ())]).length + ([10] : List UInt8).length = (rT o).length := by rw [← e, List.length_append]
   rw [if_pos (by omega), if_pos (by omega), ← rsT_snoc]
   exact ih'
noncomputable def freeV (s2 s3 : Int) (s6 : List I3) : Int := mx (w64 (s3 - leaSum s6 s2 0 s6.length)) 0
def endT (f c : Int) : List UInt8 := [102, 114, 101, 101, 32] ++ (Lib.itoa f ++ ([32, 111, 102, 32] ++ (Lib.itoa c ++ [10])))
theorem textEq (s0 s1 s2 s3 : Int) (s4 s5 : List I4) (s6 : List I3) (h4 : s4.length ≤ 1048576) (h5 : s5.length ≤ 1048576) (h6 : s6.length ≤ 1048576) :
  ∃ t, F_spec_ReportText (s0, s1, s2, s3, s4, s5, s6, ()) = some (t, ()) ∧ F_impl_ReportText (s0, s1, s2, s3, s4, s5, s6, ()) = some (t, ()) := by
 show ∃ t, spec_ReportText.FF (300 + s4.length + s5.length + s6.length) s0 s1 s2 s3 s4 s5 s6 = some (t, ()) ∧ impl_ReportText.T s0 s1 s2 s3 s4 s5 s6 = some (t, ())
 rw [spec_ReportText.FF, spec_ReportText.T, impl_ReportText.T, specServer s0 s1 s2 s3 s4 s5 s6 h4 h5 h6, implServer s0 s1 s2 s3 s4 s5 s6 h4 h5 h6, Option.bind_some, Option.bind_some]
 by_cases h : serverP s0 s1 s2 s3 s4 s5 s6
 ·rw [bb_true h, Bool.not_true, cond_false, cond_false]
  obtain ⟨Y, e1, e3, e4⟩ := rowsCore s0 s1 s2 s3 s4 s5 s6 h4 h5 h6
  obtain ⟨r1, r2, r3⟩ := e4 h
  have hls := h.2.2.2.2.2.1
  have hcap := h.2.2.2.2.1.1
  have hb := leaSum_bd hls s2 0 s6.length (Nat.le_refl _)
  unfold wantP at hcap
  have hf : 0 ≤ freeV s2 s3 s6 ∧ freeV s2 s3 s6 ≤ 1125899906842624 := by
   unfold freeV
   rw [w64_in _ (by omega)]
   unfold mx
   split <;> omega
  have p1 : i64P (freeV s2 s3 s6) := by unfold i64P; omega
  have p2 : i64P s3 := by unfold i64P; omega
  have q1 := itoa_le _ p1
  have q2 := itoa_le _ p2
  have hY := rsT_le Y r3
  have fs : F_spec_ServerFree (s0, s1, s2, s3, s4, s5, s6, ()) = some (freeV s2 s3 s6, ()) := by
   show spec_ServerFree.T s0 s1 s2 s3 s4 s5 s6 = _
   rw [spec_ServerFree.T, specServer s0 s1 s2 s3 s4 s5 s6 h4 h5 h6, bb_true h, Option.bind_some, Bool.not_true, cond_false]
   have e : F_spec_LeaseSum (s6, s2, ()) = some (leaSum s6 s2 0 s6.length, ()) := by
    show spec_LeaseSum.T s6 s2 = _
    rw [spec_LeaseSum.T, specOthers s6 hls s2 0]
    rfl
   rw [e, Option.bind_some]
   have em : ∀ x : Int, F_spec_l01Max (0, x, ()) = some (mx x 0, ()) := fun x => by
    show spec_l01Max.T 0 x = _
    rw [spec_l01Max.T]
    show _ = some (if (0 : Int) > x then _ else _, ())
    by_cases q : (0 : Int) > x
    ·rw [decide_eq_true q, cond_true, if_pos q]
    ·rw [decide_eq_false q, cond_false, if_neg q]
   rw [em]
   rfl
  have fi : F_impl_Server_free (s0, s1, s2, s3, s4, s5, s6, ()) = some (freeV s2 s3 s6, ()) := by
   show impl_Server_free.T s0 s1 s2 s3 s4 s5 s6 = _
   rw [impl_Server_free.T, implLeased s6 hls s2 0]
   rfl
  refine ⟨strLit (rsT Y ++ endT (freeV s2 s3 s6) s3), ?_, ?_⟩
  ·rw [e1, Option.bind_some]
   refine (specRowsT _ (spec_ReportText.A0 s0 s1 s2 s3 s4 s5 s6) _ s0 s1 s2 s3 s4 s5 s6 Y r2 r3 Y [] _ rfl (by omega)).trans ?_
   rw [spec_ReportText.A0]
   simp only [fs, specDec _ p1, specDec _ p2, Option.bind_some, strLit_app, strLit_size, List.length_append, List.length_cons, List.length_nil]
   rw [if_pos (by omega), if_pos (by omega), if_pos (by omega), if_pos (by omega), if_pos (by omega)]
   congr 2
   simp [endT]
  ·have er : F_impl_Server_report (s0, s1, s2, s3, s4, s5, s6, ()) = some (strLit (rsT Y ++ endT (freeV s2 s3 s6) s3), ()) := by
    show impl_Server_report.FF (300 + s4.length + s5.length + s6.length) s0 s1 s2 s3 s4 s5 s6 = _
    rw [impl_Server_report.FF, impl_Server_report.T, r1, Option.bind_some]
    refine (implRowsT _ (impl_Server_report.A0 s0 s1 s2 s3 s4 s5 s6) _ s0 s1 s2 s3 s4 s5 s6 Y r2 r3 Y [] _ rfl (by omega)).trans ?_
    rw [impl_Server_report.A0]
    simp only [fi, F_idec _ p1, F_idec _ p2, Option.bind_some, strLit_app, strLit_size, List.length_append, List.length_cons, List.length_nil]
    rw [if_pos (by omega), if_pos (by omega), if_pos (by omega), if_pos (by omega), if_pos (by omega)]
    congr 2
    simp [endT]
   rw [er]
   rfl
 ·rw [bb_neg h, Bool.not_false, cond_true, cond_true]
  exact ⟨_, rfl, rfl⟩
theorem lawReportText (s0 s1 s2 s3 : Int) (s4 s5 : List I4) (s6 : List I3) (h4 : s4.length ≤ 140737488355328) (h5 : s5.length ≤ 140737488355328) (h6 : s6.length ≤ 140737488355328) : F_laws_FnExactReportText (s0, s1, s2, s3, s4, s5, s6, ()) = some (true, ()) := by
 obtain ⟨z, hz, h2, h3⟩ := szServer s0 s1 s2 s3 s4 s5 s6 1048576 (by omega) (by omega) h4 h5 h6
 show laws_FnExactReportText.T s0 s1 s2 s3 s4 s5 s6 = _
 simp only [laws_FnExactReportText.T, hz, Option.bind_some]
 simp only [List.mem_cons, List.not_mem_nil, or_false, forall_eq_or_imp, forall_eq] at h3
 by_cases h : z < 0
 ·rw [decide_eq_true h]; rfl
 ·rw [decide_eq_false h]
  obtain ⟨k4, k5, k6⟩ := h3 (by omega)
  have k4' : s4.length ≤ 1048576 := by omega
  have k5' : s5.length ≤ 1048576 := by omega
  have k6' : s6.length ≤ 1048576 := by omega
  obtain ⟨t, e1, e2⟩ := textEq s0 s1 s2 s3 s4 s5 s6 k4' k5' k6'
  simp only [toServer s0 s1 s2 s3 s4 s5 s6 k4' k5' k6', e1, e2, eqServer s0 s1 s2 s3 s4 s5 s6 k4' k5' k6', seq_self, Option.bind_some, cond_false, Bool.not_true]
theorem pureReportText : ∀ x : CTs.V (insC ins_laws_FnExactReportText), CTs.ok (insC ins_laws_FnExactReportText) x → F_laws_FnExactReportText x = some (true, ()) := by
 rintro ⟨s0, s1, s2, s3, s4, s5, s6, ⟨⟩⟩ h
 obtain ⟨-, -, -, -, ⟨h4, -⟩, ⟨h5, -⟩, ⟨h6, -⟩, -⟩ := h
 exact lawReportText s0 s1 s2 s3 s4 s5 s6 (len_of (α := I4) 32 (by omega) h4) (len_of (α := I4) 32 (by omega) h5) (len_of (α := I3) 24 (by omega) h6)
end Go.Rv
