/- A function of the library by hand: RvHsplit. -/
import Derived.Test.YtipgjgcpfppeeaaDoorM02
import Derived.Shelf.Strings.Split
set_option linter.unusedVariables false
set_option linter.unusedSimpArgs false
set_option linter.unusedSectionVars false
namespace Go.Rv
open Go.Proofs Go.RowKit Go.Shelf Go.Sort
def laySplit_ren : Go.Shelf.Ren := ⟨fun | 146 => 55 | 221 => 60 | 268 => 64 | 138 => 65 | 143 => 66 | 195 => 69 | 197 => 70 | 218 => 71 | 219 => 72 | 260 => 78 | 217 => 79 | 225 => 80 | 224 => 81 | 267 => 82 | 266 => 90 | 314 => 91 | n => n, fun | 9 => 9 | 31 => 51 | 3 => 3 | 4 => 4 | 0 => 0 | 105 => 82 | 21 => 21 | 5 => 5 | 46 => 97 | 119 => 105 | 139 => 108 | 138 => 107 | 146 => 109 | 51 => 101 | n => n, fun | 1 => 0 | 3 => 2 | 4 => 3 | n => n⟩
theorem laySplit : Go.Proofs.Lays.n146 Tryd.prog laySplit_ren where
 mixed := by kernel_rfl
 f138 := Tryd.func65.trans (congrArg some (by kernel_rfl))
 f143 := Tryd.func66.trans (congrArg some (by kernel_rfl))
 f146 := Tryd.func55.trans (congrArg some (by kernel_rfl))
 f195 := Tryd.func69.trans (congrArg some (by kernel_rfl))
 f197 := Tryd.func70.trans (congrArg some (by kernel_rfl))
 f217 := Tryd.func79.trans (congrArg some (by kernel_rfl))
 f218 := Tryd.func71.trans (congrArg some (by kernel_rfl))
 f219 := Tryd.func72.trans (congrArg some (by kernel_rfl))
 f221 := Tryd.func60.trans (congrArg some (by kernel_rfl))
 f224 := Tryd.func81.trans (congrArg some (by kernel_rfl))
 f225 := Tryd.func80.trans (congrArg some (by kernel_rfl))
 f260 := Tryd.func78.trans (congrArg some (by kernel_rfl))
 f266 := Tryd.func90.trans (congrArg some (by kernel_rfl))
 f267 := Tryd.func82.trans (congrArg some (by kernel_rfl))
 f268 := Tryd.func64.trans (congrArg some (by kernel_rfl))
 f314 := Tryd.func91.trans (congrArg some (by kernel_rfl))
 t0 := Tryd.underlying0
 a0 := Tryd.isAgg0
 z0 := Tryd.sizeOf0
 v0 := Tryd.zeroValue0
 t3 := Tryd.underlying3
 a3 := Tryd.isAgg3
 z3 := Tryd.sizeOf3
 v3 := Tryd.zeroValue3
 t4 := Tryd.underlying4
 a4 := Tryd.isAgg4
 z4 := Tryd.sizeOf4
 v4 := Tryd.zeroValue4
 t5 := Tryd.underlying5
 a5 := Tryd.isAgg5
 z5 := Tryd.sizeOf5
 v5 := Tryd.zeroValue5
 t9 := Tryd.underlying9
 a9 := Tryd.isAgg9
 z9 := Tryd.sizeOf9
 v9 := Tryd.zeroValue9
 t21 := Tryd.underlying21
 a21 := Tryd.isAgg21
 z21 := Tryd.sizeOf21
 v21 := Tryd.zeroValue21
 t31 := Tryd.underlying51
 a31 := Tryd.isAgg51
 z31 := Tryd.sizeOf51
 v31 := Tryd.zeroValue51
 t46 := Tryd.underlying97
 a46 := Tryd.isAgg97
 z46 := Tryd.sizeOf97
 v46 := Tryd.zeroValue97
 t51 := Tryd.underlying101
 a51 := Tryd.isAgg101
 z51 := Tryd.sizeOf101
 v51 := Tryd.zeroValue101
 t105 := Tryd.underlying82
 a105 := Tryd.isAgg82
 z105 := Tryd.sizeOf82
 v105 := Tryd.zeroValue82
 t119 := Tryd.underlying105
 a119 := Tryd.isAgg105
 z119 := Tryd.sizeOf105
 t138 := Tryd.underlying107
 a138 := Tryd.isAgg107
 z138 := Tryd.sizeOf107
 v138 := Tryd.zeroValue107
 t139 := Tryd.underlying108
 a139 := Tryd.isAgg108
 z139 := Tryd.sizeOf108
 v139 := Tryd.zeroValue108
 t146 := Tryd.underlying109
 a146 := Tryd.isAgg109
 z146 := Tryd.sizeOf109
 v146 := Tryd.zeroValue109
 g1 := by kernel_rfl
 g3 := by kernel_rfl
 g4 := by kernel_rfl
abbrev ins_strings_Split : List Par := [.v false [CT.str], .v false [CT.str]]
abbrev outs_strings_Split : List (Bool × List CT) := [(false, [CT.sl [CT.str]])]
def splitV1 (s sep : ByteArray) : List (ByteArray × Unit) := (Lib.splitB sep 0 (Lib.countB s sep) s).map fun x => (x, ())
noncomputable def F_strings_Split : ByteArray × ByteArray × Unit → Option (List (ByteArray × Unit) × Unit) := fun x => if x.1.size ≤ 1048576 ∧ 1 ≤ x.2.1.size then some (splitV1 x.1 x.2.1, ()) else none
theorem F_split (s sep : ByteArray) (h : s.size ≤ 1048576) (h1 : 1 ≤ sep.size) : F_strings_Split (s, sep, ()) = some (splitV1 s sep, ()) := if_pos ⟨h, h1⟩
theorem ok_strings_Split : SumOK KN Tryd.prog 55 ⟨ins_strings_Split, outs_strings_Split, F_strings_Split, []⟩ := by
 refine ⟨fun args w => run_enter (by kernel_rfl) args w, fun w T J (x : ByteArray × ByteArray × Unit) (y : List (ByteArray × Unit) × Unit) vals avals _ _ htab hargs (hF : F_strings_Split x = some y) hp => ?_⟩
 obtain ⟨s, b, ⟨⟩⟩ := x
 obtain ⟨v1, t1, b1, b2, rfl, hb, ⟨us1, ⟨u1, t1', rfl, h4, h5⟩, h6, h7⟩, v2, t2, b3, b4, rfl, hb', ⟨us2, ⟨u2, t2', rfl, g4, g5⟩, g6, g7⟩, rfl, rfl⟩ := hargs
 have hp' : _ = avals := hp
 subst hp'
 by_cases hc : s.size ≤ 1048576 ∧ 1 ≤ b.size
 ·replace hF : some (splitV1 s b, ()) = some y := (if_pos hc).symm.trans hF
  obtain ⟨c1, c2⟩ := hc
  have e1 : u1 = .string s := h4
  have e2 : u2 = .string b := g4
  subst e1 e2
  have k1 : t1' = [] := h5
  have k2 : t2' = [] := g5
  subst k1 k2
  have k3 : [Value.string s] = [v1] := h6
  have k4 : [Value.string b] = [v2] := g6
  obtain rfl := (List.cons.inj k3).1
  obtain rfl := (List.cons.inj k4).1
  obtain ⟨_, _, ⟨m, hm⟩, _⟩ := htab
  have hy := Option.some.inj hF
  subst hy
  refine (Any.strings_Split laySplit (by kernel_rfl) s b m w (by omega) hm.get c2).mono ?_
  rintro e w' ⟨rfl, rfl⟩
  have hle : Lib.countB s b ≤ s.size := Lib.countB_le b c2 s.size s (Nat.le_refl _)
  have hlen : (Lib.splitB b 0 (Lib.countB s b) s).length = Lib.countB s b + 1 := Lib.splitB_all b c2 0 _ s rfl
  have hnew : (w.alloc (.cells ((Lib.splitB b 0 (Lib.countB s b) s).map Value.string).toArray 9)).heap[w.heap.size]? = some (.cells ((Lib.splitB b 0 (Lib.countB s b) s).map Value.string).toArray 9) := by show (w.heap.push _)[w.heap.size]? = _; exact Array.getElem?_push_size
  refine ⟨Upd.of_below (D := KN) (Below.alloc (Below.refl _ w) (Nat.le_refl _) _) T, [_], [_], [w.heap.size], [], rfl, ⟨_, _, rfl, Or.inr ⟨w.heap.size, [], rfl, ⟨?_, Lib.countB s b + 1, _, 9, ?_, ?_, ?_, hnew, ?_, ?_⟩, rfl, rfl⟩⟩, ⟨[_], [], _, [], rfl, rfl, rfl, rfl, rfl, rfl⟩, ⟨_, _, [], [], rfl, rfl, rfl, _, _, [], [], rfl, rfl, rfl, rfl, rfl⟩, by simp, fun b hb => Or.inr ?_⟩
  ·rintro ⟨a, ha⟩
   cases ha
  ·show Value.slice _ _ _ = .slice _ (splitV1 s b).length _
   rw [splitV1, List.length_map, hlen]
  ·show (splitV1 s b).length ≤ _
   rw [splitV1, List.length_map, hlen]
   exact Nat.le_refl _
  ·unfold maxLen; omega
  ·simp [hlen]
  ·intro i x hx
   have hx' : (splitV1 s b)[i]? = some x := hx
   rw [splitV1, List.getElem?_map] at hx'
   cases hq : (Lib.splitB b 0 (Lib.countB s b) s)[i]? with
   | none => rw [hq] at hx'; cases hx'
   | some q =>
    rw [hq] at hx'
    cases hx'
    have hc : ((Lib.splitB b 0 (Lib.countB s b) s).map Value.string)[i]? = some (.string q) := by rw [List.getElem?_map, hq]; rfl
    have e : (w.alloc (.cells ((Lib.splitB b 0 (Lib.countB s b) s).map Value.string).toArray 9)).cell? ⟨w.heap.size, i * [CT.str].length, none⟩ = some (.string q) := by
     have h1 : i * [CT.str].length = i := by simp
     rw [h1]
     simp only [World.cell?, hnew]
     simpa using hc
    exact ⟨⟨.string q, e, rfl⟩, trivial⟩
  ·simp only [List.append_nil, List.mem_singleton] at hb
   omega
 ·have hF' := (if_neg hc).symm.trans hF
  cases hF'
end Go.Rv
