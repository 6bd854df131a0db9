/- A function of the library by hand: RvHfmt. -/
import Derived.Test.YtnoanpohmppnaaaGreatDoorM01
import Derived.Shelf.Strconv.Itoa4
import Derived.LaidSub
import Derived.Lib.ItoaLen
import Derived.MakeChecks
set_option linter.unusedVariables false
set_option linter.unusedSimpArgs false
set_option linter.unusedSectionVars false
namespace Go.Rv
open Go.Proofs Go.RowKit Go.Shelf Go.Sort
theorem ten_tab {w : World} {t : TypeId} {f : Nat × Nat} (h : w.heap[tenB]? = some (.cells tenCells t f)) : Lib.TabIs Tryz.prog w "internal/strconv.uint64pow10" .u64 Lib.pow10Tab := by
 unfold Lib.TabIs World.var?
 rw [ten_named]
 simp only [Option.bind_some, h]
 rfl
def layFmt_ren : Go.Shelf.Ren := ⟨fun | 173 => 83 | 246 => 106 | 283 => 119 | 284 => 120 | 285 => 121 | 286 => 122 | 129 => 131 | 317 => 130 | 318 => 132 | 319 => 133 | 320 => 134 | 337 => 142 | 338 => 143 | n => n, fun | 2 => 2 | 3 => 3 | 9 => 9 | 4 => 4 | 171 => 163 | 0 => 0 | 53 => 135 | 37 => 91 | 5 => 5 | 173 => 166 | 212 => 177 | 51 => 178 | 20 => 20 | 213 => 179 | 46 => 145 | 232 => 194 | 233 => 195 | n => n, fun | 17 => 0 | 18 => 3 | 19 => 4 | n => n⟩
theorem layFmt : Go.Proofs.LaysM.n173 Tryz.prog layFmt_ren where
 mixed := by kernel_rfl
 f129 := Tryz.func131.trans (congrArg some (by kernel_rfl))
 f173 := Tryz.func83.trans (congrArg some (by kernel_rfl))
 f246 := Tryz.func106.trans (congrArg some (by kernel_rfl))
 f283 := Tryz.func119.trans (congrArg some (by kernel_rfl))
 f284 := Tryz.func120.trans (congrArg some (by kernel_rfl))
 f285 := Tryz.func121.trans (congrArg some (by kernel_rfl))
 f286 := Tryz.func122.trans (congrArg some (by kernel_rfl))
 f317 := Tryz.func130.trans (congrArg some (by kernel_rfl))
 f318 := Tryz.func132.trans (congrArg some (by kernel_rfl))
 f319 := Tryz.func133.trans (congrArg some (by kernel_rfl))
 f320 := Tryz.func134.trans (congrArg some (by kernel_rfl))
 f337 := Tryz.func142.trans (congrArg some (by kernel_rfl))
 f338 := Tryz.func143.trans (congrArg some (by kernel_rfl))
 t0 := Tryz.underlying0
 a0 := Tryz.isAgg0
 z0 := Tryz.sizeOf0
 v0 := Tryz.zeroValue0
 t2 := Tryz.underlying2
 a2 := Tryz.isAgg2
 z2 := Tryz.sizeOf2
 v2 := Tryz.zeroValue2
 t3 := Tryz.underlying3
 a3 := Tryz.isAgg3
 z3 := Tryz.sizeOf3
 v3 := Tryz.zeroValue3
 t4 := Tryz.underlying4
 a4 := Tryz.isAgg4
 z4 := Tryz.sizeOf4
 v4 := Tryz.zeroValue4
 t5 := Tryz.underlying5
 a5 := Tryz.isAgg5
 z5 := Tryz.sizeOf5
 v5 := Tryz.zeroValue5
 t9 := Tryz.underlying9
 a9 := Tryz.isAgg9
 z9 := Tryz.sizeOf9
 v9 := Tryz.zeroValue9
 t20 := Tryz.underlying20
 a20 := Tryz.isAgg20
 z20 := Tryz.sizeOf20
 v20 := Tryz.zeroValue20
 t37 := Tryz.underlying91
 a37 := Tryz.isAgg91
 z37 := Tryz.sizeOf91
 v37 := Tryz.zeroValue91
 t46 := Tryz.underlying145
 a46 := Tryz.isAgg145
 z46 := Tryz.sizeOf145
 v46 := Tryz.zeroValue145
 t51 := Tryz.underlying178
 a51 := Tryz.isAgg178
 z51 := Tryz.sizeOf178
 v51 := Tryz.zeroValue178
 t53 := Tryz.underlying135
 a53 := Tryz.isAgg135
 z53 := Tryz.sizeOf135
 v53 := Tryz.zeroValue135
 t171 := Tryz.underlying163
 a171 := Tryz.isAgg163
 z171 := Tryz.sizeOf163
 v171 := Tryz.zeroValue163
 t173 := Tryz.underlying166
 a173 := Tryz.isAgg166
 z173 := Tryz.sizeOf166
 v173 := Tryz.zeroValue166
 t212 := Tryz.underlying177
 a212 := Tryz.isAgg177
 z212 := Tryz.sizeOf177
 v212 := Tryz.zeroValue177
 t213 := Tryz.underlying179
 a213 := Tryz.isAgg179
 z213 := Tryz.sizeOf179
 t232 := Tryz.underlying194
 a232 := Tryz.isAgg194
 z232 := Tryz.sizeOf194
 v232 := Tryz.zeroValue194
 t233 := Tryz.underlying195
 a233 := Tryz.isAgg195
 z233 := Tryz.sizeOf195
 v233 := Tryz.zeroValue195
 g17 := by kernel_rfl
 g18 := by kernel_rfl
 g19 := by kernel_rfl
 i0 := by kernel_rfl
 i2 := by kernel_rfl
 i3 := by kernel_rfl
 i4 := by kernel_rfl
 i5 := by kernel_rfl
 i9 := by kernel_rfl
 i20 := by kernel_rfl
 i37 := by kernel_rfl
 i46 := by kernel_rfl
 i51 := by kernel_rfl
 i53 := by kernel_rfl
 i171 := by kernel_rfl
 i173 := by kernel_rfl
 i212 := by kernel_rfl
 i232 := by kernel_rfl
 i233 := by kernel_rfl
 m17 := by kernel_rfl
 m18 := by kernel_rfl
 m19 := by kernel_rfl
/-- a number in decimal digits -/
noncomputable def decS (n : Int) : ByteArray := ⟨(Lib.itoa n).toArray⟩
abbrev ins_strconv_FormatInt : List Par := [.v false [CT.int .i64], .v false [CT.int .i64]]
abbrev outs_strconv_FormatInt : List (Bool × List CT) := [(false, [CT.str])]
noncomputable def F_strconv_FormatInt : Int × Int × Unit → Option (ByteArray × Unit) := fun x => if (-9223372036854775808 ≤ x.1 ∧ x.1 ≤ 9223372036854775807) ∧ x.2.1 = 10 then some (decS x.1, ()) else none
theorem F_fmt (n : Int) (h : -9223372036854775808 ≤ n ∧ n ≤ 9223372036854775807) : F_strconv_FormatInt (n, 10, ()) = some (decS n, ()) := if_pos ⟨h, rfl⟩
theorem upd_grow {D : Kn} (hD : ¬ D.dr) (w : World) (k : Nat) (os : Array Obj) (T : List Nat) : Upd D w.heap.size T w (grow (w.drewN k) os) :=
 ⟨rfl, rfl, rfl, by show w.heap.size ≤ (w.heap ++ os).size; rw [Array.size_append]; omega, fun i hi _ => by show (w.heap ++ os)[i]? = _; rw [Array.getElem?_append_left hi], fun h => absurd h hD⟩
theorem ok_strconv_FormatInt : SumOK KN Tryz.prog 83 ⟨ins_strconv_FormatInt, outs_strconv_FormatInt, F_strconv_FormatInt, []⟩ := by
 refine ⟨fun args w => run_enter (by kernel_rfl) args w, fun w T J (x : Int × Int × Unit) (y : ByteArray × Unit) vals avals _ _ htab hargs (hF : F_strconv_FormatInt x = some y) hp => ?_⟩
 obtain ⟨n, b, ⟨⟩⟩ := x
 obtain ⟨v1, t1, b1, b2, rfl, hb, ⟨us1, ⟨u1, t1', rfl, h4, h5⟩, h6, h7⟩, v2, t2, b3, b4, rfl, hb', ⟨us2, ⟨u2, t2', rfl, g4, g5⟩, g6, g7⟩, rfl, rfl⟩ := hargs
 have hp' : _ = avals := hp
 subst hp'
 by_cases hc : (-9223372036854775808 ≤ n ∧ n ≤ 9223372036854775807) ∧ b = 10
 ·replace hF : some (decS n, ()) = some y := (if_pos hc).symm.trans hF
  obtain ⟨⟨c1, c2⟩, rfl⟩ := hc
  have e1 : u1 = .int .i64 n := h4
  have e2 : u2 = .int .i64 10 := g4
  subst e1 e2
  have k1 : t1' = [] := h5
  have k2 : t2' = [] := g5
  subst k1 k2
  have k3 : [Value.int .i64 n] = [v1] := h6
  have k4 : [Value.int .i64 10] = [v2] := g6
  obtain rfl := (List.cons.inj k3).1
  obtain rfl := (List.cons.inj k4).1
  obtain ⟨t, f, hcell⟩ := KN_ten htab
  have hy := Option.some.inj hF
  subst hy
  refine (Any.strconv_FormatInt_10 layFmt n c1 c2 w (ten_tab hcell)).mono ?_
  rintro e w' ⟨rfl, k, os, rfl⟩
  refine ⟨upd_grow (fun h => h) w k os T, [.string (decS n)], [.string (decS n)], [], [], rfl, ⟨_, _, rfl, rfl, rfl, rfl⟩, ⟨[.string (decS n)], [], _, [], rfl, rfl, rfl, rfl, rfl, rfl⟩, ⟨_, _, [], [], rfl, rfl, rfl, _, _, [], [], rfl, rfl, rfl, rfl, rfl⟩, List.nodup_nil, fun b hb => by cases hb⟩
 ·have hF' := (if_neg hc).symm.trans hF
  cases hF'
end Go.Rv
