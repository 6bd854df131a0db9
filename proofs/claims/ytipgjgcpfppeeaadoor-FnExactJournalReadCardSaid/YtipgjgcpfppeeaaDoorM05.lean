/- A function of the library by hand: RvHnum. -/
import Derived.Test.YtipgjgcpfppeeaaDoorM04
import Derived.Shelf.Strconv.ParseIntPublic10
set_option linter.unusedVariables false
set_option linter.unusedSimpArgs false
set_option linter.unusedSectionVars false
namespace Go.Rv
open Go.Proofs Go.RowKit Go.Shelf Go.Sort
def layParse_ren : Go.Shelf.Ren := ⟨fun | 174 => 73 | 247 => 83 | 245 => 84 | 287 => 92 | 279 => 93 | 280 => 94 | 281 => 95 | 282 => 96 | 321 => 99 | 322 => 100 | 316 => 101 | 171 => 103 | 205 => 102 | 243 => 104 | 246 => 68 | 283 => 74 | 284 => 75 | 285 => 76 | 286 => 77 | 129 => 86 | 317 => 85 | 318 => 87 | 319 => 88 | 320 => 89 | 337 => 97 | 338 => 98 | n => n, fun | 9 => 9 | 3 => 3 | 2 => 2 | 75 => 86 | 85 => 87 | 4 => 4 | 167 => 111 | 5 => 5 | 53 => 91 | 175 => 112 | 46 => 97 | 168 => 114 | 37 => 61 | 0 => 0 | 210 => 121 | 21 => 21 | 127 => 125 | 145 => 128 | 143 => 126 | 171 => 90 | 173 => 94 | 212 => 100 | 51 => 101 | 20 => 20 | 213 => 102 | 232 => 123 | 233 => 124 | 80 => 45 | n => n, fun | 15 => 4 | 16 => 5 | 17 => 1 | 18 => 6 | 19 => 7 | n => n⟩
theorem layParse : Go.Proofs.LaysC.n174 Tryd.prog layParse_ren where
 mixed := by kernel_rfl
 f129 := Tryd.func86.trans (congrArg some (by kernel_rfl))
 f171 := Tryd.func103.trans (congrArg some (by kernel_rfl))
 f174 := Tryd.func73.trans (congrArg some (by kernel_rfl))
 f205 := Tryd.func102.trans (congrArg some (by kernel_rfl))
 f243 := Tryd.func104.trans (congrArg some (by kernel_rfl))
 f245 := Tryd.func84.trans (congrArg some (by kernel_rfl))
 f246 := Tryd.func68.trans (congrArg some (by kernel_rfl))
 f247 := Tryd.func83.trans (congrArg some (by kernel_rfl))
 f279 := Tryd.func93.trans (congrArg some (by kernel_rfl))
 f280 := Tryd.func94.trans (congrArg some (by kernel_rfl))
 f281 := Tryd.func95.trans (congrArg some (by kernel_rfl))
 f282 := Tryd.func96.trans (congrArg some (by kernel_rfl))
 f283 := Tryd.func74.trans (congrArg some (by kernel_rfl))
 f284 := Tryd.func75.trans (congrArg some (by kernel_rfl))
 f285 := Tryd.func76.trans (congrArg some (by kernel_rfl))
 f286 := Tryd.func77.trans (congrArg some (by kernel_rfl))
 f287 := Tryd.func92.trans (congrArg some (by kernel_rfl))
 f316 := Tryd.func101.trans (congrArg some (by kernel_rfl))
 f317 := Tryd.func85.trans (congrArg some (by kernel_rfl))
 f318 := Tryd.func87.trans (congrArg some (by kernel_rfl))
 f319 := Tryd.func88.trans (congrArg some (by kernel_rfl))
 f320 := Tryd.func89.trans (congrArg some (by kernel_rfl))
 f321 := Tryd.func99.trans (congrArg some (by kernel_rfl))
 f322 := Tryd.func100.trans (congrArg some (by kernel_rfl))
 f337 := Tryd.func97.trans (congrArg some (by kernel_rfl))
 f338 := Tryd.func98.trans (congrArg some (by kernel_rfl))
 t0 := Tryd.underlying0
 a0 := Tryd.isAgg0
 z0 := Tryd.sizeOf0
 v0 := Tryd.zeroValue0
 t2 := Tryd.underlying2
 a2 := Tryd.isAgg2
 z2 := Tryd.sizeOf2
 v2 := Tryd.zeroValue2
 t3 := Tryd.underlying3
 a3 := Tryd.isAgg3
 z3 := Tryd.sizeOf3
 v3 := Tryd.zeroValue3
 t4 := Tryd.underlying4
 a4 := Tryd.isAgg4
 z4 := Tryd.sizeOf4
 v4 := Tryd.zeroValue4
 t5 := Tryd.underlying5
 a5 := Tryd.isAgg5
 z5 := Tryd.sizeOf5
 v5 := Tryd.zeroValue5
 t9 := Tryd.underlying9
 a9 := Tryd.isAgg9
 z9 := Tryd.sizeOf9
 v9 := Tryd.zeroValue9
 t20 := Tryd.underlying20
 a20 := Tryd.isAgg20
 z20 := Tryd.sizeOf20
 v20 := Tryd.zeroValue20
 t21 := Tryd.underlying21
 a21 := Tryd.isAgg21
 z21 := Tryd.sizeOf21
 v21 := Tryd.zeroValue21
 t37 := Tryd.underlying61
 a37 := Tryd.isAgg61
 z37 := Tryd.sizeOf61
 v37 := Tryd.zeroValue61
 t46 := Tryd.underlying97
 a46 := Tryd.isAgg97
 z46 := Tryd.sizeOf97
 v46 := Tryd.zeroValue97
 t51 := Tryd.underlying101
 a51 := Tryd.isAgg101
 z51 := Tryd.sizeOf101
 v51 := Tryd.zeroValue101
 t53 := Tryd.underlying91
 a53 := Tryd.isAgg91
 z53 := Tryd.sizeOf91
 v53 := Tryd.zeroValue91
 t75 := Tryd.underlying86
 a75 := Tryd.isAgg86
 z75 := Tryd.sizeOf86
 v75 := Tryd.zeroValue86
 t85 := Tryd.underlying87
 a85 := Tryd.isAgg87
 z85 := Tryd.sizeOf87
 v85 := Tryd.zeroValue87
 t127 := Tryd.underlying125
 a127 := Tryd.isAgg125
 z127 := Tryd.sizeOf125
 v127 := Tryd.zeroValue125
 t143 := Tryd.underlying126
 a143 := Tryd.isAgg126
 z143 := Tryd.sizeOf126
 v143 := Tryd.zeroValue126
 t145 := Tryd.underlying128
 a145 := Tryd.isAgg128
 z145 := Tryd.sizeOf128
 v145 := Tryd.zeroValue128
 t167 := Tryd.underlying111
 a167 := Tryd.isAgg111
 z167 := Tryd.sizeOf111
 v167 := Tryd.zeroValue111
 t168 := Tryd.underlying114
 a168 := Tryd.isAgg114
 z168 := Tryd.sizeOf114
 v168 := Tryd.zeroValue114
 t171 := Tryd.underlying90
 a171 := Tryd.isAgg90
 z171 := Tryd.sizeOf90
 v171 := Tryd.zeroValue90
 t173 := Tryd.underlying94
 a173 := Tryd.isAgg94
 z173 := Tryd.sizeOf94
 v173 := Tryd.zeroValue94
 t175 := Tryd.underlying112
 a175 := Tryd.isAgg112
 z175 := Tryd.sizeOf112
 v175 := Tryd.zeroValue112
 t210 := Tryd.underlying121
 a210 := Tryd.isAgg121
 z210 := Tryd.sizeOf121
 v210 := Tryd.zeroValue121
 t212 := Tryd.underlying100
 a212 := Tryd.isAgg100
 z212 := Tryd.sizeOf100
 v212 := Tryd.zeroValue100
 t213 := Tryd.underlying102
 a213 := Tryd.isAgg102
 z213 := Tryd.sizeOf102
 t232 := Tryd.underlying123
 a232 := Tryd.isAgg123
 z232 := Tryd.sizeOf123
 v232 := Tryd.zeroValue123
 t233 := Tryd.underlying124
 a233 := Tryd.isAgg124
 z233 := Tryd.sizeOf124
 v233 := Tryd.zeroValue124
 g15 := by kernel_rfl
 g16 := by kernel_rfl
 g17 := by kernel_rfl
 g18 := by kernel_rfl
 g19 := by kernel_rfl
 t80 := Tryd.underlying45
 a80 := Tryd.isAgg45
 z80 := Tryd.sizeOf45
 v80 := Tryd.zeroValue45
 i0 := by kernel_rfl
 i2 := by kernel_rfl
 i3 := by kernel_rfl
 i4 := by kernel_rfl
 i5 := by kernel_rfl
 i9 := by kernel_rfl
 i20 := by kernel_rfl
 i21 := by kernel_rfl
 i37 := by kernel_rfl
 i46 := by kernel_rfl
 i51 := by kernel_rfl
 i53 := by kernel_rfl
 i75 := by kernel_rfl
 i80 := by kernel_rfl
 i85 := by kernel_rfl
 i127 := by kernel_rfl
 i143 := by kernel_rfl
 i145 := by kernel_rfl
 i167 := by kernel_rfl
 i168 := by kernel_rfl
 i171 := by kernel_rfl
 i173 := by kernel_rfl
 i175 := by kernel_rfl
 i210 := by kernel_rfl
 i212 := by kernel_rfl
 i232 := by kernel_rfl
 i233 := by kernel_rfl
 m15 := by kernel_rfl
 m16 := by kernel_rfl
 m17 := by kernel_rfl
 m18 := by kernel_rfl
 m19 := by kernel_rfl
 c0 := by kernel_rfl
 c2 := by kernel_rfl
 c3 := by kernel_rfl
 c4 := by kernel_rfl
 c5 := by kernel_rfl
 c9 := by kernel_rfl
 c20 := by kernel_rfl
 c21 := by kernel_rfl
 c37 := by kernel_rfl
 c46 := by kernel_rfl
 c51 := by kernel_rfl
 c53 := by kernel_rfl
 c75 := by kernel_rfl
 c80 := by kernel_rfl
 c85 := by kernel_rfl
 c127 := by kernel_rfl
 c143 := by kernel_rfl
 c145 := by kernel_rfl
 c167 := by kernel_rfl
 c168 := by kernel_rfl
 c171 := by kernel_rfl
 c173 := by kernel_rfl
 c175 := by kernel_rfl
 c210 := by kernel_rfl
 c212 := by kernel_rfl
 c213 := by kernel_rfl
 c232 := by kernel_rfl
 c233 := by kernel_rfl
abbrev ins_impl_readNum : List Par := [.v false [CT.str]]
abbrev outs_impl_readNum : List (Bool × List CT) := [(false, [CT.int .i64]), (false, [CT.bool])]
/-- what a word tells: a number, and whether it is written as numbers are -/
noncomputable def numV (s : ByteArray) : Int × Bool :=
 match Lib.parseIntB 64 s.data.toList with
 | .ok v => (v, (decS v).toList == s.toList)
 | .range => (Lib.intSat 64 s.data.toList, false)
 | _ => (0, false)
noncomputable def F_impl_readNum : ByteArray × Unit → Option (Int × Bool × Unit) := fun x => if x.1.size ≤ 1048576 then some ((numV x.1).1, (numV x.1).2, ()) else none
theorem F_num (s : ByteArray) (h : s.size ≤ 1048576) : F_impl_readNum (s, ()) = some ((numV s).1, (numV s).2, ()) := if_pos h
theorem dec_calls (n : Int) (h : -9223372036854775808 ≤ n ∧ n ≤ 9223372036854775807) (w : World) (J : Nat → Prop) (hJ : ∀ b, J b → b < w.heap.size) (htab : KN.tab J w) :
  Calls Tryd.prog 59 #[.int .i64 n] w fun e w' => e = .returned (.string (decS n)) ∧ Upd KN w.heap.size [] w w' := by
 have h := ok_impl_dec.2 w [] J (n, ()) (decS n, ()) [.int .i64 n] [.int .i64 n] (fun b hb => ⟨hJ b hb, by simp⟩) List.nodup_nil htab
  ⟨_, _, [], [], rfl, rfl, ⟨[.int .i64 n], ⟨_, _, rfl, rfl, rfl⟩, rfl, rfl⟩, rfl, rfl⟩ (by show impl_dec.T n = _; rw [impl_dec.T, F_fmt n h]; rfl) rfl
 refine h.mono ?_
 rintro e w' ⟨hu, us, vs, bs, bs', rfl, hown, hgr, _⟩
 refine ⟨?_, hu⟩
 obtain ⟨u, t, rfl, hu', ht, _⟩ := hown
 obtain ⟨p, q, v, rest, hpq, hl, rfl, hg, rfl, rfl⟩ := hgr
 subst ht
 simp only [RepC] at hu'
 subst hu'
 cases hg
 simp only [List.append_nil, List.cons.injEq, and_true] at hpq
 subst hpq
 rfl
theorem upd_of {w w' : World} (h : Go.RowKit.Below w.heap.size w w') : Upd KN w.heap.size [] w w' := Upd.of_below (D := KN) ⟨h, fun hd => False.elim hd⟩ []
theorem kept_tab {J : Nat → Prop} {w w' : World} (hJ : ∀ b, J b → b < w.heap.size) (htab : KN.tab J w) (h : Upd KN w.heap.size [] w w') : KN.tab J w' := KN.stab (fun b hb => ⟨hb, h.block b (hJ b hb) (by simp)⟩) htab
set_option maxRecDepth 100000 in
theorem num_calls (s : ByteArray) (hs : s.size ≤ 1048576) (w : World) (J : Nat → Prop) (hJ : ∀ b, J b → b < w.heap.size) (htab : KN.tab J w) :
  Calls Tryd.prog 67 #[.string s] w fun e w' => e = .returned (.tuple #[.int .i64 (numV s).1, .bool (numV s).2]) ∧ Upd KN w.heap.size [] w w' := by
 have htab0 := htab
 obtain ⟨hJ4, hten, hml, ⟨ev, hev, hes⟩, er, her, herr⟩ := htab
 rcases hp : Lib.parseIntB 64 s.data.toList with v | _ | _
 ·have hb := Lib.parseIntB_bounds hp
  have e63 : (2 : Nat) ^ (64 - 1) = 9223372036854775808 := by decide
  rw [e63] at hb
  clear e63
  have hv : numV s = (v, (decS v).toList == s.toList) := by unfold numV; rw [hp]
  have c1 : Calls Tryd.prog 73 #[.string s, .int .i64 10, .int .i64 64] w fun e w' => e = .returned (.tuple #[.int .i64 v, .nilIface]) ∧ Upd KN w.heap.size [] w w' :=
   (Any.strconv_ParseInt_10_at64_ok layParse s (by omega) v hp w).mono fun e w' ⟨h1, h2⟩ => ⟨h1, by
    rcases h2 with rfl | ⟨t, rfl⟩
    ·exact Upd.refl _ _ _
    ·exact upd_of (Lib.bytesWorld_below _ _ _)⟩
  have c2 : ∀ w', Upd KN w.heap.size [] w w' → Calls Tryd.prog 59 #[.int .i64 v] w' fun e w'' => e = .returned (.string (decS v)) ∧ Upd KN w.heap.size [] w w'' := fun w' hu =>
   (dec_calls v (by omega) w' J (fun b hb => Nat.lt_of_lt_of_le (hJ b hb) hu.size) (kept_tab hJ htab0 hu)).mono fun e w'' ⟨h1, h2⟩ => ⟨h1, hu.trans ⟨h2.os, h2.tape, h2.output, h2.size, fun k hk hn => h2.block k (Nat.lt_of_lt_of_le hk hu.size) hn, h2.drawn⟩⟩
  rw [hv]
  go_enter Tryd.func67, Tryd.ntmps67
  go_wp2_with (first | (go_at_call 73; refine c1.mono ?_; rintro e w' ⟨rfl, hu⟩) | (go_at_call 59; refine (c2 _ hu).mono ?_; rintro e w'' ⟨rfl, hu2⟩))
  go_ret2
  exact ⟨rfl, hu2⟩
 ·have hv : numV s = (0, false) := by unfold numV; rw [hp]
  have c1 : Calls Tryd.prog 73 #[.string s, .int .i64 10, .int .i64 64] w fun e w' => ∃ t N, e = .returned (.tuple #[.int .i64 0, .iface t (.pointer (some ⟨N, 0, none⟩))]) ∧ Upd KN w.heap.size [] w w' :=
   (Any.strconv_ParseInt_10_at64_syntax layParse s (by omega) hp ev w hes.get hev).mono fun e w' ⟨N, h1, _, _, h4⟩ => ⟨_, N, h1, upd_of h4⟩
  rw [hv]
  go_enter Tryd.func67, Tryd.ntmps67
  go_wp2_with (go_at_call 73; refine c1.mono ?_; rintro e w' ⟨t, N, rfl, hu⟩)
  go_ret2
  exact ⟨rfl, hu⟩
 ·have hv : numV s = (Lib.intSat 64 s.data.toList, false) := by unfold numV; rw [hp]
  have c1 : Calls Tryd.prog 73 #[.string s, .int .i64 10, .int .i64 64] w fun e w' => ∃ t N, e = .returned (.tuple #[.int .i64 (Lib.intSat 64 s.data.toList), .iface t (.pointer (some ⟨N, 0, none⟩))]) ∧ Upd KN w.heap.size [] w w' :=
   (Any.strconv_ParseInt_10_at64_range layParse s (by omega) hp er w herr.get her).mono fun e w' ⟨N, h1, _, _, h4⟩ => ⟨_, N, h1, upd_of h4⟩
  rw [hv]
  go_enter Tryd.func67, Tryd.ntmps67
  go_wp2_with (go_at_call 73; refine c1.mono ?_; rintro e w' ⟨t, N, rfl, hu⟩)
  go_ret2
  exact ⟨rfl, hu⟩
theorem ok_impl_readNum : SumOK KN Tryd.prog 67 ⟨ins_impl_readNum, outs_impl_readNum, F_impl_readNum, []⟩ := by
 refine ⟨fun args w => run_enter (by kernel_rfl) args w, fun w T J (x : ByteArray × Unit) (y : Int × Bool × Unit) vals avals hJ _ htab hargs (hF : F_impl_readNum x = some y) hp => ?_⟩
 obtain ⟨s, ⟨⟩⟩ := x
 obtain ⟨v1, t1, b1, b2, rfl, hb, ⟨us1, ⟨u1, t1', rfl, h4, h5⟩, h6, h7⟩, rfl, rfl⟩ := hargs
 have hp' : _ = avals := hp
 subst hp'
 by_cases hc : s.size ≤ 1048576
 ·replace hF : some ((numV s).1, (numV s).2, ()) = some y := (if_pos hc).symm.trans hF
  have e1 : u1 = .string s := h4
  subst e1
  have k1 : t1' = [] := h5
  subst k1
  have k3 : [Value.string s] = [v1] := h6
  obtain rfl := (List.cons.inj k3).1
  have hy := Option.some.inj hF
  subst hy
  refine (num_calls s hc w J (fun b hb => (hJ b hb).1) htab).mono ?_
  rintro e w' ⟨rfl, hu⟩
  exact ⟨⟨hu.os, hu.tape, hu.output, hu.size, fun k hk _ => hu.block k hk (by simp), hu.drawn⟩, [.int .i64 (numV s).1, .bool (numV s).2], [.int .i64 (numV s).1, .bool (numV s).2], [], [], rfl, ⟨_, _, rfl, rfl, _, _, rfl, rfl, rfl, rfl⟩,
   ⟨[_], [_], _, _, rfl, rfl, rfl, rfl, [_], [], _, _, rfl, rfl, rfl, rfl, rfl, rfl⟩, ⟨_, _, [], [], rfl, rfl, rfl, rfl, rfl⟩, List.nodup_nil, fun b hb => by cases hb⟩
 ·have hF' := (if_neg hc).symm.trans hF
  cases hF'
end Go.Rv
