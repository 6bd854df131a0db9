/- A function of the library by hand: RvHfmt. -/
import Derived.Test.YtipgjgcpfppeeaaDoorM01
import Derived.Shelf.Strconv.Itoa4
import Derived.LaidSub
import Derived.Lib.ItoaLen
import Derived.MakeChecks
set_option linter.unusedVariables false
set_option linter.unusedSimpArgs false
set_option linter.unusedSectionVars false
namespace Go.Rv
open Go.Proofs Go.RowKit Go.Shelf Go.Sort
theorem ten_tab {w : World} {t : TypeId} {f : Nat × Nat} (h : w.heap[tenB]? = some (.cells tenCells t f)) : Lib.TabIs Tryd.prog w "internal/strconv.uint64pow10" .u64 Lib.pow10Tab := by
 unfold Lib.TabIs World.var?
 rw [ten_named]
 simp only [Option.bind_some, h]
 rfl
def layFmt_ren : Go.Shelf.Ren := ⟨fun | 173 => 63 | 246 => 68 | 283 => 74 | 284 => 75 | 285 => 76 | 286 => 77 | 129 => 86 | 317 => 85 | 318 => 87 | 319 => 88 | 320 => 89 | 337 => 97 | 338 => 98 | n => n, fun | 2 => 2 | 3 => 3 | 9 => 9 | 4 => 4 | 171 => 90 | 0 => 0 | 53 => 91 | 37 => 61 | 5 => 5 | 173 => 94 | 212 => 100 | 51 => 101 | 20 => 20 | 213 => 102 | 46 => 97 | 232 => 123 | 233 => 124 | n => n, fun | 17 => 1 | 18 => 6 | 19 => 7 | n => n⟩
theorem layFmt : Go.Proofs.LaysM.n173 Tryd.prog layFmt_ren where
 mixed := by kernel_rfl
 f129 := Tryd.func86.trans (congrArg some (by kernel_rfl))
 f173 := Tryd.func63.trans (congrArg some (by kernel_rfl))
 f246 := Tryd.func68.trans (congrArg some (by kernel_rfl))
 f283 := Tryd.func74.trans (congrArg some (by kernel_rfl))
 f284 := Tryd.func75.trans (congrArg some (by kernel_rfl))
 f285 := Tryd.func76.trans (congrArg some (by kernel_rfl))
 f286 := Tryd.func77.trans (congrArg some (by kernel_rfl))
 f317 := Tryd.func85.trans (congrArg some (by kernel_rfl))
 f318 := Tryd.func87.trans (congrArg some (by kernel_rfl))
 f319 := Tryd.func88.trans (congrArg some (by kernel_rfl))
 f320 := Tryd.func89.trans (congrArg some (by kernel_rfl))
 f337 := Tryd.func97.trans (congrArg some (by kernel_rfl))
 f338 := Tryd.func98.trans (congrArg some (by kernel_rfl))
 t0 := Tryd.underlying0
 a0 := Tryd.isAgg0
 z0 := Tryd.sizeOf0
 v0 := Tryd.zeroValue0
 t2 := Tryd.underlying2
 a2 := Tryd.isAgg2
 z2 := Tryd.sizeOf2
 v2 := Tryd.zeroValue2
 t3 := Tryd.underlying3
 a3 := Tryd.isAgg3
 z3 := Tryd.sizeOf3
 v3 := Tryd.zeroValue3
 t4 := Tryd.underlying4
 a4 := Tryd.isAgg4
 z4 := Tryd.sizeOf4
 v4 := Tryd.zeroValue4
 t5 := Tryd.underlying5
 a5 := Tryd.isAgg5
 z5 := Tryd.sizeOf5
 v5 := Tryd.zeroValue5
 t9 := Tryd.underlying9
 a9 := Tryd.isAgg9
 z9 := Tryd.sizeOf9
 v9 := Tryd.zeroValue9
 t20 := Tryd.underlying20
 a20 := Tryd.isAgg20
 z20 := Tryd.sizeOf20
 v20 := Tryd.zeroValue20
 t37 := Tryd.underlying61
 a37 := Tryd.isAgg61
 z37 := Tryd.sizeOf61
 v37 := Tryd.zeroValue61
 t46 := Tryd.underlying97
 a46 := Tryd.isAgg97
 z46 := Tryd.sizeOf97
 v46 := Tryd.zeroValue97
 t51 := Tryd.underlying101
 a51 := Tryd.isAgg101
 z51 := Tryd.sizeOf101
 v51 := Tryd.zeroValue101
 t53 := Tryd.underlying91
 a53 := Tryd.isAgg91
 z53 := Tryd.sizeOf91
 v53 := Tryd.zeroValue91
 t171 := Tryd.underlying90
 a171 := Tryd.isAgg90
 z171 := Tryd.sizeOf90
 v171 := Tryd.zeroValue90
 t173 := Tryd.underlying94
 a173 := Tryd.isAgg94
 z173 := Tryd.sizeOf94
 v173 := Tryd.zeroValue94
 t212 := Tryd.underlying100
 a212 := Tryd.isAgg100
 z212 := Tryd.sizeOf100
 v212 := Tryd.zeroValue100
 t213 := Tryd.underlying102
 a213 := Tryd.isAgg102
 z213 := Tryd.sizeOf102
 t232 := Tryd.underlying123
 a232 := Tryd.isAgg123
 z232 := Tryd.sizeOf123
 v232 := Tryd.zeroValue123
 t233 := Tryd.underlying124
 a233 := Tryd.isAgg124
 z233 := Tryd.sizeOf124
 v233 := Tryd.zeroValue124
 g17 := by kernel_rfl
 g18 := by kernel_rfl
 g19 := by kernel_rfl
 i0 := by kernel_rfl
 i2 := by kernel_rfl
 i3 := by kernel_rfl
 i4 := by kernel_rfl
 i5 := by kernel_rfl
 i9 := by kernel_rfl
 i20 := by kernel_rfl
 i37 := by kernel_rfl
 i46 := by kernel_rfl
 i51 := by kernel_rfl
 i53 := by kernel_rfl
 i171 := by kernel_rfl
 i173 := by kernel_rfl
 i212 := by kernel_rfl
 i232 := by kernel_rfl
 i233 := by kernel_rfl
 m17 := by kernel_rfl
 m18 := by kernel_rfl
 m19 := by kernel_rfl
/-- a number in decimal digits -/
noncomputable def decS (n : Int) : ByteArray := ⟨(Lib.itoa n).toArray⟩
abbrev ins_strconv_FormatInt : List Par := [.v false [CT.int .i64], .v false [CT.int .i64]]
abbrev outs_strconv_FormatInt : List (Bool × List CT) := [(false, [CT.str])]
noncomputable def F_strconv_FormatInt : Int × Int × Unit → Option (ByteArray × Unit) := fun x => if (-9223372036854775808 ≤ x.1 ∧ x.1 ≤ 9223372036854775807) ∧ x.2.1 = 10 then some (decS x.1, ()) else none
theorem F_fmt (n : Int) (h : -9223372036854775808 ≤ n ∧ n ≤ 9223372036854775807) : F_strconv_FormatInt (n, 10, ()) = some (decS n, ()) := if_pos ⟨h, rfl⟩
theorem upd_grow {D : Kn} (hD : ¬ D.dr) (w : World) (k : Nat) (os : Array Obj) (T : List Nat) : Upd D w.heap.size T w (grow (w.drewN k) os) :=
 ⟨rfl, rfl, rfl, by show w.heap.size ≤ (w.heap ++ os).size; rw [Array.size_append]; omega, fun i hi _ => by show (w.heap ++ os)[i]? = _; rw [Array.getElem?_append_left hi], fun h => absurd h hD⟩
theorem ok_strconv_FormatInt : SumOK KN Tryd.prog 63 ⟨ins_strconv_FormatInt, outs_strconv_FormatInt, F_strconv_FormatInt, []⟩ := by
 refine ⟨fun args w => run_enter (by kernel_rfl) args w, fun w T J (x : Int × Int × Unit) (y : ByteArray × Unit) vals avals _ _ htab hargs (hF : F_strconv_FormatInt x = some y) hp => ?_⟩
 obtain ⟨n, b, ⟨⟩⟩ := x
 obtain ⟨v1, t1, b1, b2, rfl, hb, ⟨us1, ⟨u1, t1', rfl, h4, h5⟩, h6, h7⟩, v2, t2, b3, b4, rfl, hb', ⟨us2, ⟨u2, t2', rfl, g4, g5⟩, g6, g7⟩, rfl, rfl⟩ := hargs
 have hp' : _ = avals := hp
 subst hp'
 by_cases hc : (-9223372036854775808 ≤ n ∧ n ≤ 9223372036854775807) ∧ b = 10
 ·replace hF : some (decS n, ()) = some y := (if_pos hc).symm.trans hF
  obtain ⟨⟨c1, c2⟩, rfl⟩ := hc
  have e1 : u1 = .int .i64 n := h4
  have e2 : u2 = .int .i64 10 := g4
  subst e1 e2
  have k1 : t1' = [] := h5
  have k2 : t2' = [] := g5
  subst k1 k2
  have k3 : [Value.int .i64 n] = [v1] := h6
  have k4 : [Value.int .i64 10] = [v2] := g6
  obtain rfl := (List.cons.inj k3).1
  obtain rfl := (List.cons.inj k4).1
  obtain ⟨t, f, hcell⟩ := KN_ten htab
  have hy := Option.some.inj hF
  subst hy
  refine (Any.strconv_FormatInt_10 layFmt n c1 c2 w (ten_tab hcell)).mono ?_
  rintro e w' ⟨rfl, k, os, rfl⟩
  refine ⟨upd_grow (fun h => h) w k os T, [.string (decS n)], [.string (decS n)], [], [], rfl, ⟨_, _, rfl, rfl, rfl, rfl⟩, ⟨[.string (decS n)], [], _, [], rfl, rfl, rfl, rfl, rfl, rfl⟩, ⟨_, _, [], [], rfl, rfl, rfl, _, _, [], [], rfl, rfl, rfl, rfl, rfl⟩, List.nodup_nil, fun b hb => by cases hb⟩
 ·have hF' := (if_neg hc).symm.trans hF
  cases hF'
end Go.Rv
