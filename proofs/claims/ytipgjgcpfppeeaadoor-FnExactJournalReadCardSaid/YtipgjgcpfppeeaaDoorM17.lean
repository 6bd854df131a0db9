/- Plain facts: read4. -/
import Derived.Test.YtipgjgcpfppeeaaDoorM16
set_option linter.unusedVariables false
set_option linter.unusedSimpArgs false
set_option linter.unusedSectionVars false
namespace Go.Rv
/-! ### a journal read, on both sides -/
def hR (L C : Int) : Bool := (decide (L ≥ 1) && decide (L ≤ 1000)) && wantB C
def headL (L C : Int) : List UInt8 := [115, 101, 114, 118, 101, 114] ++ (sp L ++ sp C)
theorem headT_L (L C : Int) : headT L C = headL L C ++ [10] := by simp [headT, headL]
theorem hR_rng {L C : Int} (h : hR L C = true) : (0 ≤ L ∧ L ≤ 1000) ∧ (0 ≤ C ∧ C ≤ 1125899906842624) := by
 simp [hR, wantB] at h
 omega
theorem headL_join (L C : Int) : headL L C = joinL 32 [[115, 101, 114, 118, 101, 114], Lib.itoa L, Lib.itoa C] := by simp [headL, joinL, sp]
theorem headL_split (L C : Int) : splitL 32 (headL L C) = [[115, 101, 114, 118, 101, 114], Lib.itoa L, Lib.itoa C] := by
 rw [headL_join]
 refine split_join' 32 _ _ (by decide) fun x hx => ?_
 simp only [List.mem_cons, List.not_mem_nil, or_false] at hx
 rcases hx with rfl | rfl
 ·exact itoa_free L 32 (by decide)
 ·exact itoa_free C 32 (by decide)
theorem headL_inj {L C L' C' : Int} (h : hR L C = true) (h' : hR L' C' = true) (e : headL L C = headL L' C') : L = L' ∧ C = C' := by
 have h1 := headL_split L C
 rw [e, headL_split] at h1
 have r := hR_rng h
 have r' := hR_rng h'
 simp only [List.cons.injEq, and_true, true_and] at h1
 exact ⟨(itoa_inj (by unfold i64P; omega) (by unfold i64P; omega) h1.1).symm, (itoa_inj (by unfold i64P; omega) (by unfold i64P; omega) h1.2).symm⟩
theorem specJournal0 (L C : Int) (hL : i64P L) (hC : i64P C) : F_spec_JournalText (L, C, [], ()) = some (strLit (if hR L C = true then headL L C ++ [10] else []), ()) := by
 by_cases hA : (decide (L ≥ 1) && decide (L ≤ 1000)) = true
 ·by_cases hB : wantB C = true
  ·have := (specJournal L C [] hL hC (by simp) (by rw [lenB, hA]) hB (by simp)).1 (by simp)
   rw [this]
   unfold hR
   rw [hA, hB]
   simp only [Bool.and_self, if_true, journT, headT_L, opsT, List.flatMap_nil, List.append_nil]
  ·rw [Bool.not_eq_true] at hB
   unfold hR
   rw [hA, hB]
   show spec_JournalText.FF _ L C [] = _
   rw [spec_JournalText.FF, spec_JournalText.T, lenB, hA, Option.bind_some, Bool.not_true, cond_false, sWant, hB, Option.bind_some, Bool.not_false, cond_true]
   rfl
 ·rw [Bool.not_eq_true] at hA
  unfold hR
  rw [hA]
  show spec_JournalText.FF _ L C [] = _
  rw [spec_JournalText.FF, spec_JournalText.T, lenB, hA, Option.bind_some, Bool.not_false, cond_true]
  rfl
theorem specHead (l : List UInt8) (hl : l.length ≤ 1048576) {R : Type} (wr : Option R) (wr2 nx : Int → Int → Option R) (hw : ∀ a b, wr2 a b = wr) :
  ∃ X, ((F_spec_l01Split (strLit l, 32, ())).bind fun y1 => cond ((y1.1.length : Int) != 3) wr (if (0 : Int) ≤ 1 ∧ 1 < (y1.1.length : Int) then (F_spec_l01Num ((y1.1.getD ((1 : Int).toNat) (ByteArray.empty, ())).1, ())).bind fun y2 => if (0 : Int) ≤ 2 ∧ 2 < (y1.1.length : Int) then (F_spec_l01Num ((y1.1.getD ((2 : Int).toNat) (ByteArray.empty, ())).1, ())).bind fun y3 => (F_spec_JournalText (y2.1, y3.1, [], ())).bind fun y4 => cond (!seq y4.1 (strLit l ++ strLit [10])) (wr2 y2.1 y3.1) (nx y2.1 y3.1) else none else none)) = X ∧
   ((∃ L C, hR L C = true ∧ l = headL L C ∧ X = nx L C) ∨ ((¬ ∃ L C, hR L C = true ∧ l = headL L C) ∧ X = wr)) := by
 have hs := specSplit 32 l hl
 rw [show ((32 : UInt8).toNat : Int) = 32 from rfl] at hs
 refine ⟨_, rfl, ?_⟩
 rw [hs, Option.bind_some]
 simp only [List.length_map]
 by_cases h3 : (splitL 32 l).length = 3
 ·obtain ⟨w, x, y, hW⟩ : ∃ w x y, splitL 32 l = [w, x, y] := by
   match h : splitL 32 l, h3 with
   | [w, x, y], _ => exact ⟨w, x, y, rfl⟩
  rw [hW]
  obtain ⟨v1, b1, e1, r1⟩ := numTotal x
  obtain ⟨v2, b2, e2, r2⟩ := numTotal y
  have g1 : ((([w, x, y] : List (List UInt8)).map fun x => (strLit x, ())).getD (1 : Int).toNat (ByteArray.empty, ())).1 = strLit x := rfl
  have g2 : ((([w, x, y] : List (List UInt8)).map fun x => (strLit x, ())).getD (2 : Int).toNat (ByteArray.empty, ())).1 = strLit y := rfl
  simp only [List.length_cons, List.length_nil]
  rw [show (((0 + 1 + 1 + 1 : Nat) : Int) != 3) = false from rfl, cond_false, if_pos (by omega), g1, e1, Option.bind_some, if_pos (by omega), g2, e2, Option.bind_some, specJournal0 v1 v2 r1 r2, Option.bind_some, strLit_app]
  by_cases hr : hR v1 v2 = true
  ·rw [if_pos hr]
   by_cases e : l = headL v1 v2
   ·rw [(seq_lit _ _).2 (by rw [e]), Bool.not_true, cond_false]
    exact Or.inl ⟨v1, v2, hr, e, rfl⟩
   ·rw [seq_no (fun h => e (List.append_cancel_right h).symm), Bool.not_false, cond_true, hw]
    refine Or.inr ⟨fun ⟨L, C, h1, h2⟩ => ?_, rfl⟩
    have hsp := headL_split L C
    rw [← h2, hW] at hsp
    have rr := hR_rng h1
    simp only [List.cons.injEq, and_true] at hsp
    rw [hsp.2.1, numItoa L rr.1.1 (by omega)] at e1
    rw [hsp.2.2, numItoa C rr.2.1 rr.2.2] at e2
    have a1 := congrArg Prod.fst (Option.some.inj e1)
    have a2 := congrArg Prod.fst (Option.some.inj e2)
    simp only at a1 a2
    subst a1 a2
    exact e h2
  ·rw [if_neg hr, seq_no (by simp), Bool.not_false, cond_true, hw]
   refine Or.inr ⟨fun ⟨L, C, h1, h2⟩ => ?_, rfl⟩
   have hsp := headL_split L C
   rw [← h2, hW] at hsp
   have rr := hR_rng h1
   simp only [List.cons.injEq, and_true] at hsp
   rw [hsp.2.1, numItoa L rr.1.1 (by omega)] at e1
   rw [hsp.2.2, numItoa C rr.2.1 rr.2.2] at e2
   have a1 := congrArg Prod.fst (Option.some.inj e1)
   have a2 := congrArg Prod.fst (Option.some.inj e2)
   simp only at a1 a2
   subst a1 a2
   exact hr h1
 ·rw [show (((splitL 32 l).length : Int) != 3) = true from bne_iff_ne.2 (by omega), cond_true]
  refine Or.inr ⟨fun ⟨L, C, h1, h2⟩ => h3 ?_, rfl⟩
  rw [h2, headL_split]
  rfl
theorem implHead (l : List UInt8) (hl : l.length ≤ 1048576) : ∃ L C b, F_impl_readHead (strLit l, ()) = some (L, C, b, ()) ∧ (b = true → l = headL L C) ∧ ∀ L' C', hR L' C' = true → l = headL L' C' → b = true ∧ L = L' ∧ C = C' := by
 obtain ⟨w, ws, hW⟩ : ∃ w ws, splitL 32 l = w :: ws := by
  cases h : splitL 32 l with
  | nil => exact absurd h (splitL_ne 32 l)
  | cons w ws => exact ⟨w, ws, rfl⟩
 have hjoin : l = joinL 32 (w :: ws) := by rw [← hW, join_split]
 have hlen := split_len 32 l
 have hle := split_le 32 l
 rw [hW] at hlen hle
 simp only [List.length_cons] at hlen
 have hn := numsOK ws (by omega) fun x hx => Nat.le_trans (hle x (by simp [hx])) hl
 have g0 : (((w :: ws).map fun x => (strLit x, ())).getD (0 : Int).toNat (ByteArray.empty, ())).1 = strLit w := rfl
 have hl1 : ((w :: ws).map fun x => (strLit x, ())).length = ws.length + 1 := by simp
 have g1 : (((w :: ws).map fun x => (strLit x, ())).drop (1 : Int).toNat).take (((w :: ws).map fun x => (strLit x, ())).length - (1 : Int).toNat) = ws.map fun x => (strLit x, ()) := by
  rw [hl1]
  show (ws.map fun x => (strLit x, ())).take (ws.length + 1 - 1) = _
  rw [Nat.add_sub_cancel, List.take_of_length_le (by simp)]
 have back : ∀ L' C', hR L' C' = true → l = headL L' C' → w = [115, 101, 114, 118, 101, 114] ∧ ws = [Lib.itoa L', Lib.itoa C'] ∧ i64P L' ∧ i64P C' := fun L' C' h1 h2 => by
  have hsp := headL_split L' C'
  rw [← h2, hW] at hsp
  obtain ⟨a, b⟩ := List.cons.inj hsp
  have rr := hR_rng h1
  exact ⟨a, b, by unfold i64P; omega, by unfold i64P; omega⟩
 have hT : ∀ y2 : List (Int × Unit) × Bool × Unit, F_impl_readNums (ws.map (fun x => (strLit x, ())), ()) = some y2 → F_impl_readHead (strLit l, ()) = cond (!seq (strLit w) (strLit [115, 101, 114, 118, 101, 114])) (some (0, 0, false, ())) (cond (!y2.2.1) (some (0, 0, false, ())) (cond ((y2.1.length : Int) != 2) (some (0, 0, false, ())) (if (0 : Int) ≤ 0 ∧ 0 < (y2.1.length : Int) then if (0 : Int) ≤ 1 ∧ 1 < (y2.1.length : Int) then some ((y2.1.getD ((0 : Int).toNat) (0, ())).1, (y2.1.getD ((1 : Int).toNat) (0, ())).1, true, ()) else none else none))) := by
  intro y2 hy
  show impl_readHead.T (strLit l) = _
  rw [impl_readHead.T, implSplit 32 l hl, Option.bind_some, hW, g1, hy]
  simp only [g0, hl1]
  rw [if_pos (by omega), if_pos (by show 1 + (ws.length + 1 - 1) ≤ ws.length + 1; omega), Option.bind_some, if_pos (by omega)]
 have no : F_impl_readHead (strLit l, ()) = some (0, 0, false, ()) → (∀ L' C', hR L' C' = true → l = headL L' C' → False) → ∃ L C b, F_impl_readHead (strLit l, ()) = some (L, C, b, ()) ∧ (b = true → l = headL L C) ∧ ∀ L' C', hR L' C' = true → l = headL L' C' → b = true ∧ L = L' ∧ C = C' := fun h hn =>
  ⟨0, 0, false, h, fun h => (by cases h), fun L' C' h1 h2 => (hn L' C' h1 h2).elim⟩
 rcases hn with ⟨ms, a1, a2, a3⟩ | ⟨a1, a2⟩
 ·have hF := hT _ a3
  by_cases hw : w = [115, 101, 114, 118, 101, 114]
  ·rw [hw, (seq_lit _ _).2 rfl, Bool.not_true, cond_false] at hF
   simp only [Bool.not_true, cond_false, List.length_map] at hF
   by_cases hm : ms.length = 2
   ·obtain ⟨L, C, rfl⟩ : ∃ L C : Int, ms = [L, C] := by
     match ms, hm with
     | [L, C], _ => exact ⟨L, C, rfl⟩
    refine ⟨L, C, true, hF, fun _ => by rw [hjoin, hw, a2, headL_join]; rfl, fun L' C' h1 h2 => ⟨rfl, ?_⟩⟩
    obtain ⟨_, b2, b3, b4⟩ := back L' C' h1 h2
    have := itoas_inj [L, C] [L', C'] a1 (by simp; exact ⟨b3, b4⟩) (a2.symm.trans b2)
    simp only [List.cons.injEq, and_true] at this
    exact this
   ·rw [show ((ms.length : Int) != 2) = true from bne_iff_ne.2 (by omega), cond_true] at hF
    refine no hF fun L' C' h1 h2 => hm ?_
    obtain ⟨_, b2, b3, b4⟩ := back L' C' h1 h2
    have := itoas_inj ms [L', C'] a1 (by simp; exact ⟨b3, b4⟩) (a2.symm.trans b2)
    rw [this]; rfl
  ·rw [seq_no hw, Bool.not_false, cond_true] at hF
   exact no hF fun L' C' h1 h2 => hw (back L' C' h1 h2).1
 ·have hF := hT _ a2
  simp only [Bool.not_false, cond_true] at hF
  refine no (hF.trans ?_) fun L' C' h1 h2 => a1 ⟨[L', C'], ?_, (back L' C' h1 h2).2.1⟩
  ·cases (!seq (strLit w) (strLit [115, 101, 114, 118, 101, 114])) <;> rfl
  ·have := back L' C' h1 h2
   simp
   exact ⟨this.2.2.1, this.2.2.2⟩
abbrev JO := Int × Int × List OpV × Int × Int × Unit
def goodJ (Y : JO) : Prop := Y.2.2.1.length ≤ 400 ∧ (Y.2.2.2.2.1 = 0 → hR Y.1 Y.2.1 = true ∧ Y.2.2.1.length ≤ 300 ∧ ∀ o ∈ Y.2.2.1, opR o = true)
theorem goodJ_wrong (i : Int) : goodJ (0, 0, [], i, 3, ()) := ⟨by simp, fun h => by cases h⟩
theorem jStep1 (t : ByteArray) (K : Nat) (W : List (List UInt8)) (hW : ∀ x ∈ W, x.length ≤ 20000) (hWl : W.length ≤ 20001) (L C : Int) (hr : hR L C = true) (x : List UInt8) (rest done : List (List UInt8)) (ops : List OpV) (k k' : Nat) (hd : W = done ++ x :: rest) (hi : 1 ≤ done.length) (ho : ops.length < done.length) (ho3 : ops.length ≤ 300) (hor : ∀ o ∈ ops, opR o = true) :
  (∃ Y : JO, goodJ Y ∧ spec_JournalRead.G1 K (spec_JournalRead.A0 t) (spec_JournalRead.A1 t) (spec_JournalRead.A2 t) (spec_JournalRead.A3 t) (k + 1) ((done.length : Int)) 0 0 0 0 (W.map fun x => (strLit x, ())) L C 0 0 ops = some Y ∧ impl_journalRead.G1 K (impl_journalRead.A0 t) (impl_journalRead.A1 t) (impl_journalRead.A2 t) (impl_journalRead.A3 t) (impl_journalRead.A4 t) (k' + 1) ((W.length - 1 : Nat) : Int) (W.length : Int) ((done.length : Int)) 0 0 0 0 L C 0 0 (W.map fun x => (strLit x, ())) ops = some Y) ∨
  (rest ≠ [] ∧ ∃ r : OpV, opR r = true ∧ done.length ≤ 300 ∧ spec_JournalRead.G1 K (spec_JournalRead.A0 t) (spec_JournalRead.A1 t) (spec_JournalRead.A2 t) (spec_JournalRead.A3 t) (k + 1) ((done.length : Int)) 0 0 0 0 (W.map fun x => (strLit x, ())) L C 0 0 ops = spec_JournalRead.G1 K (spec_JournalRead.A0 t) (spec_JournalRead.A1 t) (spec_JournalRead.A2 t) (spec_JournalRead.A3 t) (k) (((done ++ [x]).length : Int)) 0 0 0 0 (W.map fun x => (strLit x, ())) L C 0 0 (ops ++ [r]) ∧ impl_journalRead.G1 K (impl_journalRead.A0 t) (impl_journalRead.A1 t) (impl_journalRead.A2 t) (impl_journalRead.A3 t) (impl_journalRead.A4 t) (k' + 1) ((W.length - 1 : Nat) : Int) (W.length : Int) ((done.length : Int)) 0 0 0 0 L C 0 0 (W.map fun x => (strLit x, ())) ops = impl_journalRead.G1 K (impl_journalRead.A0 t) (impl_journalRead.A1 t) (impl_journalRead.A2 t) (impl_journalRead.A3 t) (impl_journalRead.A4 t) (k') ((W.length - 1 : Nat) : Int) (W.length : Int) (((done ++ [x]).length : Int)) 0 0 0 0 L C 0 0 (W.map fun x => (strLit x, ())) (ops ++ [r])) := by
 have hlen : W.length = done.length + (rest.length + 1) := by rw [hd]; simp
 have hx : x.length ≤ 20000 := hW x (by rw [hd]; simp)
 have hg : (((W.map fun x => (strLit x, ())).getD ((done.length : Int)).toNat (ByteArray.empty, ())).1) = strLit x := by
  rw [Int.toNat_natCast, hd, List.getD_eq_getElem?_getD, List.getElem?_map, List.getElem?_append_right (Nat.le_refl _), Nat.sub_self]
  rfl
 have hws : w64 ((W.length : Int) - 1) = ((W.length - 1 : Nat) : Int) := (w64_in _ (by omega)).trans (by omega)
 have hi0 : ((done.length : Int) == 0) = false := beq_eq_false_iff_ne.2 (by omega)
 obtain ⟨r, b, s1, s2, s3⟩ := specReadOp x (by omega)
 obtain ⟨r', b', p1, p2, p3⟩ := implReadOp x (by omega)
 have hbb : b = b' ∧ (b = true → r = r') := by
  cases b with
  | true =>
   obtain ⟨h1, h2⟩ := s2 rfl
   have := p3 r h1 h2
   exact ⟨this.1.symm, fun _ => this.2.symm⟩
  | false =>
   cases b' with
   | false => exact ⟨rfl, fun h => by cases h⟩
   | true =>
    obtain ⟨h1, h2⟩ := p2 rfl
    have := (s3 r' h1 h2).1
    cases this
 obtain ⟨rfl, hrr⟩ := hbb
 have hng : ((W.map fun x => (strLit x, ())).length : Int) = (W.length : Int) := by rw [List.length_map]
 rw [spec_JournalRead.G1, spec_JournalRead.R1, impl_journalRead.G1, impl_journalRead.R1]
 have hc : (0 : Int) ≤ (done.length : Int) ∧ (done.length : Int) < (W.length : Int) := by omega
 have hdl : decide ((done.length : Int) < (W.length : Int)) = true := decide_eq_true hc.2
 simp only [hng, hg, hws, s1, p1, Option.bind_some, hi0, cond_false, hdl, cond_true, if_pos hc]
 by_cases hlast : rest = []
 ·subst hlast
  have hil : ((done.length : Int) == ((W.length - 1 : Nat) : Int)) = true := by rw [beq_iff_eq]; simp only [List.length_nil] at hlen; omega
  have hnl : decide ((done.length : Int) < ((W.length - 1 : Nat) : Int)) = false := decide_eq_false (by simp only [List.length_nil] at hlen; omega)
  rw [hil, cond_true, cond_true]
  by_cases he : x = []
  ·subst he
   refine Or.inl ⟨(L, C, ops, 0, 0, ()), ⟨by show ops.length ≤ 400; omega, fun _ => ⟨hr, by exact ho3, by exact hor⟩⟩, ?_, ?_⟩
   ·rw [(seq_lit [] []).2 rfl]; rfl
   ·rw [(seq_lit [] []).2 rfl, cond_true, decide_eq_true (by omega), cond_true]; rfl
  ·refine Or.inl ⟨(0, 0, [], (done.length : Int), 3, ()), goodJ_wrong _, ?_, ?_⟩
   ·rw [seq_no he]; rfl
   ·rw [seq_no he, cond_false]
    by_cases h3 : done.length > 300
    ·rw [decide_eq_true (by omega), cond_true]; rfl
    ·rw [decide_eq_false (by omega), cond_false, if_pos (by simp only [List.length_cons, List.length_nil, maxRow]; omega), hnl, cond_false]; rfl
 ·have hpos : 0 < rest.length := List.length_pos_iff.2 hlast
  have hil : ((done.length : Int) == ((W.length - 1 : Nat) : Int)) = false := beq_eq_false_iff_ne.2 (by omega)
  have hnl : decide ((done.length : Int) < ((W.length - 1 : Nat) : Int)) = true := decide_eq_true (by omega)
  rw [hil, cond_false, cond_false]
  by_cases h3 : done.length > 300
  ·refine Or.inl ⟨(0, 0, [], (done.length : Int), 3, ()), goodJ_wrong _, ?_, ?_⟩
   ·rw [decide_eq_true (by omega)]
    cases b <;> rfl
   ·rw [decide_eq_true (by omega), cond_true]; rfl
  ·rw [decide_eq_false (by omega)]
   simp only [cond_false]
   cases hb : b with
   | false =>
    refine Or.inl ⟨(0, 0, [], (done.length : Int), 3, ()), goodJ_wrong _, ?_, ?_⟩
    ·rfl
    ·rw [if_pos (by simp only [List.length_cons, List.length_nil, maxRow]; omega), hnl]
     rfl
   | true =>
    have e := hrr hb
    subst e
    refine Or.inr ⟨hlast, r, (s2 hb).1, by omega, ?_, ?_⟩
    ·rw [Bool.not_true, cond_false, if_pos (by simp only [List.length_cons, List.length_nil, maxRow]; omega), w64_in _ (by omega)]
     have e3 : ((done.length : Int) + 1) = ((done ++ [x]).length : Int) := by simp
     rw [e3]
     try rfl
    ·rw [if_pos (by simp only [List.length_cons, List.length_nil, maxRow]; omega), hnl, cond_true, Bool.not_true, cond_false, w64_in _ (by omega)]
     have e3 : ((done.length : Int) + 1) = ((done ++ [x]).length : Int) := by simp
     rw [e3]
     try rfl
theorem jStep0 (t : ByteArray) (K : Nat) (W : List (List UInt8)) (hW : ∀ x ∈ W, x.length ≤ 20000) (hWl : W.length ≤ 20001) (L C : Int) (hr : hR L C = true) (x : List UInt8) (rest done : List (List UInt8)) (ops : List OpV) (k k' : Nat) (hd : W = done ++ x :: rest) (hi : 1 ≤ done.length) (ho : ops.length < done.length) (ho3 : ops.length ≤ 300) (hor : ∀ o ∈ ops, opR o = true) (he : ops = []) :
  (∃ Y : JO, goodJ Y ∧ spec_JournalRead.G0 K (spec_JournalRead.A0 t) (spec_JournalRead.A1 t) (spec_JournalRead.A2 t) (spec_JournalRead.A3 t) (k + 1) ((done.length : Int)) 0 0 0 0 (W.map fun x => (strLit x, ())) L C 0 0 = some Y ∧ impl_journalRead.G0 K (impl_journalRead.A0 t) (impl_journalRead.A1 t) (impl_journalRead.A2 t) (impl_journalRead.A3 t) (impl_journalRead.A4 t) (k' + 1) ((W.length - 1 : Nat) : Int) (W.length : Int) ((done.length : Int)) 0 0 0 0 L C 0 0 (W.map fun x => (strLit x, ())) = some Y) ∨
  (rest ≠ [] ∧ ∃ r : OpV, opR r = true ∧ done.length ≤ 300 ∧ spec_JournalRead.G0 K (spec_JournalRead.A0 t) (spec_JournalRead.A1 t) (spec_JournalRead.A2 t) (spec_JournalRead.A3 t) (k + 1) ((done.length : Int)) 0 0 0 0 (W.map fun x => (strLit x, ())) L C 0 0 = spec_JournalRead.G1 K (spec_JournalRead.A0 t) (spec_JournalRead.A1 t) (spec_JournalRead.A2 t) (spec_JournalRead.A3 t) (k) (((done ++ [x]).length : Int)) 0 0 0 0 (W.map fun x => (strLit x, ())) L C 0 0 (ops ++ [r]) ∧ impl_journalRead.G0 K (impl_journalRead.A0 t) (impl_journalRead.A1 t) (impl_journalRead.A2 t) (impl_journalRead.A3 t) (impl_journalRead.A4 t) (k' + 1) ((W.length - 1 : Nat) : Int) (W.length : Int) ((done.length : Int)) 0 0 0 0 L C 0 0 (W.map fun x => (strLit x, ())) = impl_journalRead.G1 K (impl_journalRead.A0 t) (impl_journalRead.A1 t) (impl_journalRead.A2 t) (impl_journalRead.A3 t) (impl_journalRead.A4 t) (k') ((W.length - 1 : Nat) : Int) (W.length : Int) (((done ++ [x]).length : Int)) 0 0 0 0 L C 0 0 (W.map fun x => (strLit x, ())) (ops ++ [r])) := by
 subst he
 have hlen : W.length = done.length + (rest.length + 1) := by rw [hd]; simp
 have hx : x.length ≤ 20000 := hW x (by rw [hd]; simp)
 have hg : (((W.map fun x => (strLit x, ())).getD ((done.length : Int)).toNat (ByteArray.empty, ())).1) = strLit x := by
  rw [Int.toNat_natCast, hd, List.getD_eq_getElem?_getD, List.getElem?_map, List.getElem?_append_right (Nat.le_refl _), Nat.sub_self]
  rfl
 have hws : w64 ((W.length : Int) - 1) = ((W.length - 1 : Nat) : Int) := (w64_in _ (by omega)).trans (by omega)
 have hi0 : ((done.length : Int) == 0) = false := beq_eq_false_iff_ne.2 (by omega)
 obtain ⟨r, b, s1, s2, s3⟩ := specReadOp x (by omega)
 obtain ⟨r', b', p1, p2, p3⟩ := implReadOp x (by omega)
 have hbb : b = b' ∧ (b = true → r = r') := by
  cases b with
  | true =>
   obtain ⟨h1, h2⟩ := s2 rfl
   have := p3 r h1 h2
   exact ⟨this.1.symm, fun _ => this.2.symm⟩
  | false =>
   cases b' with
   | false => exact ⟨rfl, fun h => by cases h⟩
   | true =>
    obtain ⟨h1, h2⟩ := p2 rfl
    have := (s3 r' h1 h2).1
    cases this
 obtain ⟨rfl, hrr⟩ := hbb
 have hng : ((W.map fun x => (strLit x, ())).length : Int) = (W.length : Int) := by rw [List.length_map]
 rw [spec_JournalRead.G0, spec_JournalRead.R0, impl_journalRead.G0, impl_journalRead.R0]
 have hc : (0 : Int) ≤ (done.length : Int) ∧ (done.length : Int) < (W.length : Int) := by omega
 have hdl : decide ((done.length : Int) < (W.length : Int)) = true := decide_eq_true hc.2
 simp only [hng, hg, hws, s1, p1, Option.bind_some, hi0, cond_false, hdl, cond_true, if_pos hc]
 by_cases hlast : rest = []
 ·subst hlast
  have hil : ((done.length : Int) == ((W.length - 1 : Nat) : Int)) = true := by rw [beq_iff_eq]; simp only [List.length_nil] at hlen; omega
  have hnl : decide ((done.length : Int) < ((W.length - 1 : Nat) : Int)) = false := decide_eq_false (by simp only [List.length_nil] at hlen; omega)
  rw [hil, cond_true, cond_true]
  by_cases he : x = []
  ·subst he
   refine Or.inl ⟨(L, C, ([] : List OpV), 0, 0, ()), ⟨by show ([] : List OpV).length ≤ 400; simp, fun _ => ⟨hr, by simp, by simp⟩⟩, ?_, ?_⟩
   ·rw [(seq_lit [] []).2 rfl]; rfl
   ·rw [(seq_lit [] []).2 rfl, cond_true, decide_eq_true (by omega), cond_true]; rfl
  ·refine Or.inl ⟨(0, 0, [], (done.length : Int), 3, ()), goodJ_wrong _, ?_, ?_⟩
   ·rw [seq_no he]; rfl
   ·rw [seq_no he, cond_false]
    by_cases h3 : done.length > 300
    ·rw [decide_eq_true (by omega), cond_true]; rfl
    ·rw [decide_eq_false (by omega), cond_false, if_pos (by simp only [List.length_cons, List.length_nil, maxRow]; omega), hnl, cond_false]; rfl
 ·have hpos : 0 < rest.length := List.length_pos_iff.2 hlast
  have hil : ((done.length : Int) == ((W.length - 1 : Nat) : Int)) = false := beq_eq_false_iff_ne.2 (by omega)
  have hnl : decide ((done.length : Int) < ((W.length - 1 : Nat) : Int)) = true := decide_eq_true (by omega)
  rw [hil, cond_false, cond_false]
  by_cases h3 : done.length > 300
  ·refine Or.inl ⟨(0, 0, [], (done.length : Int), 3, ()), goodJ_wrong _, ?_, ?_⟩
   ·rw [decide_eq_true (by omega)]
    cases b <;> rfl
   ·rw [decide_eq_true (by omega), cond_true]; rfl
  ·rw [decide_eq_false (by omega)]
   simp only [cond_false]
   cases hb : b with
   | false =>
    refine Or.inl ⟨(0, 0, [], (done.length : Int), 3, ()), goodJ_wrong _, ?_, ?_⟩
    ·rfl
    ·rw [if_pos (by simp only [List.length_cons, List.length_nil, maxRow]; omega), hnl]
     rfl
   | true =>
    have e := hrr hb
    subst e
    refine Or.inr ⟨hlast, r, (s2 hb).1, by omega, ?_, ?_⟩
    ·rw [Bool.not_true, cond_false, if_pos (by simp only [List.length_cons, List.length_nil, maxRow]; omega), w64_in _ (by omega)]
     have e3 : ((done.length : Int) + 1) = ((done ++ [x]).length : Int) := by simp
     rw [e3]
     try rfl
    ·rw [if_pos (by simp only [List.length_cons, List.length_nil, maxRow]; omega), hnl, cond_true, Bool.not_true, cond_false, w64_in _ (by omega)]
     have e3 : ((done.length : Int) + 1) = ((done ++ [x]).length : Int) := by simp
     rw [e3]
     try rfl
theorem jLoop (t : ByteArray) (K : Nat) (W : List (List UInt8)) (hW : ∀ x ∈ W, x.length ≤ 20000) (hWl : W.length ≤ 20001) (L C : Int) (hr : hR L C = true) : ∀ (rest done : List (List UInt8)) (ops : List OpV) (k : Nat), W = done ++ rest → rest ≠ [] → rest.length < k → 1 ≤ done.length → ops.length < done.length → ops.length ≤ 300 → (∀ o ∈ ops, opR o = true) →
  ∃ Y : JO, goodJ Y ∧ spec_JournalRead.G1 K (spec_JournalRead.A0 t) (spec_JournalRead.A1 t) (spec_JournalRead.A2 t) (spec_JournalRead.A3 t) k (done.length : Int) 0 0 0 0 (W.map fun x => (strLit x, ())) L C 0 0 ops = some Y ∧ impl_journalRead.G1 K (impl_journalRead.A0 t) (impl_journalRead.A1 t) (impl_journalRead.A2 t) (impl_journalRead.A3 t) (impl_journalRead.A4 t) k ((W.length - 1 : Nat) : Int) (W.length : Int) (done.length : Int) 0 0 0 0 L C 0 0 (W.map fun x => (strLit x, ())) ops = some Y := by
 intro rest
 induction rest with
 | nil => intro done ops k hd hne; exact absurd rfl hne
 | cons x rest ih =>
  intro done ops k hd _ hk hi ho ho3 hor
  cases k with
  | zero => simp at hk
  | succ k =>
   rcases jStep1 t K W hW hWl L C hr x rest done ops k k hd hi ho ho3 hor with h | ⟨hne, r, hrr, h3, e1, e2⟩
   ·exact h
   ·rw [e1, e2]
    refine ih (done ++ [x]) (ops ++ [r]) k (by rw [hd]; simp) hne (by simp only [List.length_cons] at hk; omega) (by simp) (by simp; omega) (by simp; omega) fun o ho' => ?_
    rcases List.mem_append.1 ho' with h | h
    ·exact hor o h
    ·rw [List.mem_singleton.1 h]; exact hrr
theorem readEq (l : List UInt8) (hl : l.length ≤ 1048576) : ∃ Y : JO, goodJ Y ∧ F_spec_JournalRead (strLit l, ()) = some Y ∧ F_impl_JournalRead (strLit l, ()) = some Y := by
 show ∃ Y : JO, goodJ Y ∧ spec_JournalRead.FF (300 + (strLit l).size) (strLit l) = some Y ∧ impl_JournalRead.T (strLit l) = some Y
 rw [spec_JournalRead.FF, spec_JournalRead.T, impl_JournalRead.T, strLit_size]
 by_cases h2 : l.length > 20000
 ·rw [decide_eq_true (by omega)]
  exact ⟨(0, 0, [], 0, 2, ()), ⟨by simp, fun h => by cases h⟩, rfl, rfl⟩
 ·rw [decide_eq_false (by omega), cond_false, cond_false]
  have hs := specSplit 10 l hl
  rw [show ((10 : UInt8).toNat : Int) = 10 from rfl] at hs
  have hi : F_impl_journalRead (strLit l, ()) = impl_journalRead.G0 (300 + l.length) (impl_journalRead.A0 (strLit l)) (impl_journalRead.A1 (strLit l)) (impl_journalRead.A2 (strLit l)) (impl_journalRead.A3 (strLit l)) (impl_journalRead.A4 (strLit l)) (300 + l.length) (w64 (((splitL 10 l).length : Int) - 1)) ((splitL 10 l).length : Int) 0 0 0 0 0 0 0 0 0 ((splitL 10 l).map fun x => (strLit x, ())) := by
   show impl_journalRead.FF (300 + (strLit l).size) (strLit l) = _
   rw [impl_journalRead.FF, impl_journalRead.T, implSplit 10 l hl, Option.bind_some, strLit_size]
   simp only [List.length_map]
  rw [hs, Option.bind_some, hi]
  have hWl := split_len 10 l
  have hW := split_le 10 l
  have hne := splitL_ne 10 l
  generalize splitL 10 l = W at *
  have hW' : ∀ x ∈ W, x.length ≤ 20000 := fun x hx => Nat.le_trans (hW x hx) (by omega)
  obtain ⟨x, xs, rfl⟩ : ∃ x xs, W = x :: xs := by
   cases W with
   | nil => exact absurd rfl hne
   | cons x xs => exact ⟨x, xs, rfl⟩
  have wrapI : ∀ Y : JO, (some Y : Option JO).bind (fun y1 => some (y1.1, y1.2.1, y1.2.2.1, y1.2.2.2.1, y1.2.2.2.2.1, ())) = some Y := fun Y => rfl
  obtain ⟨k, hk⟩ : ∃ k, 300 + l.length = k + 1 + 1 := ⟨298 + l.length, by omega⟩
  have hws : w64 (((x :: xs).length : Int) - 1) = (((x :: xs).length - 1 : Nat) : Int) := (w64_in _ (by simp only [List.length_cons] at *; omega)).trans (by simp only [List.length_cons] at *; omega)
  have hng : (((x :: xs).map fun x => (strLit x, ())).length : Int) = ((x :: xs).length : Int) := by rw [List.length_map]
  have hg : ((((x :: xs).map fun x => (strLit x, ())).getD ((0 : Int)).toNat (ByteArray.empty, ())).1) = strLit x := rfl
  obtain ⟨L, C, b, ih1, ih2, ih3⟩ := implHead x (Nat.le_trans (hW x (by simp)) hl)
  have hxl : x.length ≤ 20000 := hW' x (by simp)
  suffices hh : ∃ Y : JO, goodJ Y ∧ spec_JournalRead.G0 (300 + l.length) (spec_JournalRead.A0 (strLit l)) (spec_JournalRead.A1 (strLit l)) (spec_JournalRead.A2 (strLit l)) (spec_JournalRead.A3 (strLit l)) (k + 1 + 1) 0 0 0 0 0 ((x :: xs).map fun x => (strLit x, ())) 0 0 0 0 = some Y ∧
    impl_journalRead.G0 (300 + l.length) (impl_journalRead.A0 (strLit l)) (impl_journalRead.A1 (strLit l)) (impl_journalRead.A2 (strLit l)) (impl_journalRead.A3 (strLit l)) (impl_journalRead.A4 (strLit l)) (k + 1 + 1) (((x :: xs).length - 1 : Nat) : Int) ((x :: xs).length : Int) 0 0 0 0 0 0 0 0 0 ((x :: xs).map fun x => (strLit x, ())) = some Y by
   obtain ⟨Y, h1, h2, h3⟩ := hh
   refine ⟨Y, h1, ?_, ?_⟩
   ·rw [← hk] at h2
    exact h2
   ·rw [← hk] at h3
    rw [hws, h3]
    exact wrapI Y
  rw [spec_JournalRead.G0, spec_JournalRead.R0, impl_journalRead.G0, impl_journalRead.R0]
  simp only [hng, hg, hws, ih1, Option.bind_some, beq_self_eq_true, cond_true]
  have hpos : (0 : Int) < ((x :: xs).length : Int) := by simp only [List.length_cons]; omega
  rw [decide_eq_true hpos, cond_true, cond_true, if_pos (show (0 : Int) ≤ 0 ∧ (0 : Int) < ((x :: xs).length : Int) from ⟨Int.le_refl _, hpos⟩), if_pos (show (0 : Int) ≤ 0 ∧ (0 : Int) < ((x :: xs).length : Int) from ⟨Int.le_refl _, hpos⟩), if_pos (show (0 : Int) ≤ 0 ∧ (0 : Int) < ((x :: xs).length : Int) from ⟨Int.le_refl _, hpos⟩)]
  by_cases hxs : xs = []
  ·subst hxs
   refine ⟨(0, 0, [], 0, 3, ()), goodJ_wrong _, ?_, ?_⟩
   ·rw [show ((0 : Int) == ((([x] : List (List UInt8)).length - 1 : Nat) : Int)) = true from rfl, cond_true]
    cases (!seq (strLit x) (strLit [])) <;> rfl
   ·rw [show ((0 : Int) == ((([x] : List (List UInt8)).length - 1 : Nat) : Int)) = true from rfl, cond_true]
    cases (seq (strLit x) (strLit [])) <;> rfl
  ·have hxp : 0 < xs.length := List.length_pos_iff.2 hxs
   have hl1 : (x :: xs).length - 1 = xs.length := by simp
   have hil : ((0 : Int) == (((x :: xs).length - 1 : Nat) : Int)) = false := beq_eq_false_iff_ne.2 (by rw [hl1]; omega)
   have hnl : decide ((0 : Int) < (((x :: xs).length - 1 : Nat) : Int)) = true := decide_eq_true (by rw [hl1]; omega)
   have hsz : (strLit x).size + (strLit [10]).size ≤ 9223372036854775807 := by rw [strLit_size, strLit_size]; simp only [List.length_cons, List.length_nil]; omega
   rw [hil, cond_false, cond_false, hnl, cond_true]
   simp only [if_pos hsz, if_pos (show (0 : Int) ≤ 0 ∧ (0 : Int) < ((x :: xs).length : Int) from ⟨Int.le_refl _, hpos⟩)]
   obtain ⟨X, hX, hX2⟩ := specHead x (Nat.le_trans (hW x (by simp)) hl) (some ((0, 0, [], 0, 3, ()) : JO)) (fun a b => spec_JournalRead.A0 (strLit l) 0 0 0 3 a b 0 0) (fun a b => spec_JournalRead.G0 (300 + l.length) (spec_JournalRead.A0 (strLit l)) (spec_JournalRead.A1 (strLit l)) (spec_JournalRead.A2 (strLit l)) (spec_JournalRead.A3 (strLit l)) (k + 1) (w64 (0 + 1)) 0 0 0 0 ((x :: xs).map fun x => (strLit x, ())) a b 0 0) (fun a b => rfl)
   have hspec := hX
   rcases hX2 with ⟨L', C', r1, r2, r3⟩ | ⟨r1, r2⟩
   ·obtain ⟨rfl, rfl, rfl⟩ := ih3 L' C' r1 r2
    have hm : F_impl_mayStart (L, C, ()) = some (true, ()) := by
     rw [mayB]
     unfold hR at r1
     rw [r1]
    rw [hm]
    simp only [Option.bind_some, cond_true, Bool.not_true, cond_false]
    rw [r3] at hX
    have hw1 : w64 ((0 : Int) + 1) = ((([x] : List (List UInt8)).length : Nat) : Int) := (w64_in _ (by omega)).trans rfl
    have core : ∃ Y : JO, goodJ Y ∧ spec_JournalRead.G0 (300 + l.length) (spec_JournalRead.A0 (strLit l)) (spec_JournalRead.A1 (strLit l)) (spec_JournalRead.A2 (strLit l)) (spec_JournalRead.A3 (strLit l)) (k + 1) (w64 (0 + 1)) 0 0 0 0 ((x :: xs).map fun x => (strLit x, ())) L C 0 0 = some Y ∧
      impl_journalRead.G0 (300 + l.length) (impl_journalRead.A0 (strLit l)) (impl_journalRead.A1 (strLit l)) (impl_journalRead.A2 (strLit l)) (impl_journalRead.A3 (strLit l)) (impl_journalRead.A4 (strLit l)) (k + 1) (((x :: xs).length - 1 : Nat) : Int) ((x :: xs).length : Int) (w64 (0 + 1)) 0 0 0 0 L C 0 0 ((x :: xs).map fun x => (strLit x, ())) = some Y := by
     rw [hw1]
     obtain ⟨y, ys, rfl⟩ : ∃ y ys, xs = y :: ys := by
      cases xs with
      | nil => exact absurd rfl hxs
      | cons y ys => exact ⟨y, ys, rfl⟩
     rcases jStep0 (strLit l) (300 + l.length) (x :: y :: ys) hW' (by simp only [List.length_cons] at *; omega) L C r1 y ys [x] [] k k rfl (by simp) (by simp) (by simp) (by simp) rfl with h | ⟨hne, r, hrr, h3, e1, e2⟩
     ·exact h
     ·rw [e1, e2]
      exact jLoop (strLit l) (300 + l.length) (x :: y :: ys) hW' (by simp only [List.length_cons] at *; omega) L C r1 ys ([x] ++ [y]) ([] ++ [r]) k rfl hne (by simp only [List.length_cons] at *; omega) (by simp) (by simp) (by simp) (by simp; exact hrr)
    obtain ⟨Y, g1, g2, g3⟩ := core
    exact ⟨Y, g1, hX.trans g2, g3⟩
   ·refine ⟨(0, 0, [], 0, 3, ()), goodJ_wrong _, hX.trans r2, ?_⟩
    cases hb : b with
    | false => rfl
    | true =>
     have hx := ih2 hb
     have hno : hR L C = false := by
      rw [← Bool.not_eq_true]
      intro h
      exact r1 ⟨L, C, h, hx⟩
     have hm : F_impl_mayStart (L, C, ()) = some (false, ()) := by
      rw [mayB]
      unfold hR at hno
      rw [hno]
     rw [hm]
     rfl
theorem eqJO (Y : JO) (h : Y.2.2.1.length ≤ 1048576) : F_laws_eqJournalOut (Y.1, Y.2.1, Y.2.2.1, Y.2.2.2.1, Y.2.2.2.2.1, Y.1, Y.2.1, Y.2.2.1, Y.2.2.2.1, Y.2.2.2.2.1, ()) = some (true, ()) := by
 show laws_eqJournalOut.T _ _ _ _ _ _ _ _ _ _ = _
 simp only [laws_eqJournalOut.T, bne_self_eq_false, cond_false, eqOpS _ h, Option.bind_some, Bool.not_true]
theorem lawJournalRead (s : ByteArray) : F_laws_FnExactJournalRead (s, ()) = some (true, ()) := by
 obtain ⟨l, rfl⟩ := strLit_toList s
 show laws_FnExactJournalRead.T (strLit l) = _
 rw [laws_FnExactJournalRead.T, strLit_size]
 by_cases h : l.length > 1048576
 ·rw [decide_eq_true (by omega)]; rfl
 ·rw [decide_eq_false (by omega), cond_false]
  obtain ⟨Y, ⟨g1, _⟩, g2, g3⟩ := readEq l (by omega)
  have hl : Y.2.2.1.length ≤ 1048576 := by omega
  obtain ⟨y, m1, m2⟩ := mhOpS Y.2.2.1 1 (by omega) (by omega) hl
  have hm : F_laws_markJournalOut (Y.1, Y.2.1, Y.2.2.1, Y.2.2.2.1, Y.2.2.2.2.1, 1, ()) = some (1 + 5 * (Y.2.2.1.length : Int), Y.1, Y.2.1, y, Y.2.2.2.1, Y.2.2.2.2.1, ()) := by
   show laws_markJournalOut.T _ _ _ _ _ _ = _
   rw [laws_markJournalOut.T, m1]; rfl
  have n2 : decide (1 + 5 * (Y.2.2.1.length : Int) < 0) = false := decide_eq_false (by omega)
  have hh : F_laws_heldJournalOut (Y.1, Y.2.1, y, Y.2.2.2.1, Y.2.2.2.2.1, 1, ()) = some (1 + 5 * (Y.2.2.1.length : Int), ()) := by
   show laws_heldJournalOut.T _ _ _ _ _ _ = _
   rw [laws_heldJournalOut.T, m2, Option.bind_some]
   simp only [n2, cond_false]
  simp only [g2, g3, eqJO Y hl, hm, hh, n2, Option.bind_some, Bool.not_true, cond_false, bne_self_eq_false]
theorem pureJournalRead : ∀ x : CTs.V (insC ins_laws_FnExactJournalRead), CTs.ok (insC ins_laws_FnExactJournalRead) x → F_laws_FnExactJournalRead x = some (true, ()) := by
 rintro ⟨s, ⟨⟩⟩ _
 exact lawJournalRead s
theorem lawJournalCut (s : ByteArray) (count : Int) : F_laws_FnExactJournalCut (s, count, ()) = some (true, ()) := by
 obtain ⟨l, rfl⟩ := strLit_toList s
 show laws_FnExactJournalCut.T (strLit l) count = _
 rw [laws_FnExactJournalCut.T, strLit_size]
 by_cases h : l.length > 1048576
 ·rw [decide_eq_true (by omega)]; rfl
 ·rw [decide_eq_false (by omega), cond_false]
  obtain ⟨Y, ⟨g1, g4⟩, g2, g3⟩ := readEq l (by omega)
  have core : ∃ t, F_spec_JournalCut (strLit l, count, ()) = some (t, ()) ∧ F_impl_JournalCut (strLit l, count, ()) = some (t, ()) := by
   show ∃ t, spec_JournalCut.T (strLit l) count = some (t, ()) ∧ impl_JournalCut.T (strLit l) count = some (t, ())
   rw [spec_JournalCut.T, impl_JournalCut.T, g2, g3, Option.bind_some, Option.bind_some]
   by_cases hc : Y.2.2.2.2.1 = 0
   ·rw [hc]
    simp only [bne_self_eq_false, cond_false]
    obtain ⟨hr, h300, hor⟩ := g4 hc
    have rr := hR_rng hr
    have emin : F_spec_l01Min (count, (Y.2.2.1.length : Int), ()) = some (mn count (Y.2.2.1.length : Int), ()) := by
     show spec_l01Min.T _ _ = _
     rw [spec_l01Min.T]
     show _ = some (if (Y.2.2.1.length : Int) < count then _ else _, ())
     by_cases q : count < (Y.2.2.1.length : Int)
     ·rw [decide_eq_true q, cond_true, if_neg (by omega)]
     ·rw [decide_eq_false q, cond_false]
      split
      ·rfl
      ·rw [show count = (Y.2.2.1.length : Int) by omega]
    rw [emin, Option.bind_some]
    have emax : F_spec_l01Max (0, mn count (Y.2.2.1.length : Int), ()) = some (mx (mn count (Y.2.2.1.length : Int)) 0, ()) := by
     show spec_l01Max.T _ _ = _
     rw [spec_l01Max.T]
     show _ = some (if (0 : Int) > mn count (Y.2.2.1.length : Int) then _ else _, ())
     by_cases q : (0 : Int) > mn count (Y.2.2.1.length : Int)
     ·rw [decide_eq_true q, cond_true, if_pos q]
     ·rw [decide_eq_false q, cond_false, if_neg q]
    rw [emax, Option.bind_some]
    have hm0 : 0 ≤ mx (mn count (Y.2.2.1.length : Int)) 0 := by unfold mx mn; repeat' split <;> omega
    have hm1 : mx (mn count (Y.2.2.1.length : Int)) 0 ≤ (Y.2.2.1.length : Int) := by unfold mx mn; repeat' split <;> omega
    simp only
    generalize mx (mn count (Y.2.2.1.length : Int)) 0 = m at hm0 hm1
    rw [if_pos ⟨hm0, hm1⟩, if_pos (by omega), if_pos ⟨hm0, hm1⟩, if_pos (by omega)]
    have hsub : ∀ o ∈ (Y.2.2.1.drop 0).take (m.toNat - 0), opR o = true := fun o ho => hor o (by
     have := List.mem_of_mem_take ho
     simpa using this)
    have hlen : ((Y.2.2.1.drop 0).take (m.toNat - 0)).length ≤ 300 := by rw [List.length_take]; simp; omega
    have h1 : i64P Y.1 := by unfold i64P; omega
    have h2 : i64P Y.2.1 := by unfold i64P; omega
    have hr' := hr
    simp only [hR, Bool.and_eq_true] at hr'
    have hA : F_spec_l10Length (Y.1, ()) = some (true, ()) := by rw [lenB]; simp only [hr'.1]; rfl
    rw [(specJournal Y.1 Y.2.1 _ h1 h2 (by omega) hA hr'.2 hlen).1 hsub, implJournal Y.1 Y.2.1 _ h1 h2 (by omega) hsub]
    exact ⟨_, rfl, rfl⟩
   ·rw [show (Y.2.2.2.2.1 != 0) = true from bne_iff_ne.2 hc]
    exact ⟨_, rfl, rfl⟩
  obtain ⟨t, e1, e2⟩ := core
  simp only [e1, e2, seq_self, Option.bind_some, Bool.not_true, cond_false]
theorem pureJournalCut : ∀ x : CTs.V (insC ins_laws_FnExactJournalCut), CTs.ok (insC ins_laws_FnExactJournalCut) x → F_laws_FnExactJournalCut x = some (true, ()) := by
 rintro ⟨s, c, ⟨⟩⟩ _
 exact lawJournalCut s c
end Go.Rv
