/- The law FnExactFarmWant: for every input the call returns true, and each argument reads afterwards as before. No condition. -/
import Derived.Test.YtcdmhjnofdoobaaRows
import Derived.Test.YtcdmhjnofdoobaaPFnExactFarmWantx
import Derived.Test.YtcdmhjnofdoobaaOpen
import Derived.Test.YtcdmhjnofdoobaaPureFnExactFarmWant
import Derived.WalkKit
import Derived.ProofKit
import Derived.OpenShut
import Derived.ShutString
import Derived.ChangeOld
import Derived.Below
import Derived.SizedLaws
namespace Go.Proofs.Ytcdmhjnofdoobaa.fnExactFarmWant
open Go.ChangeShapes Go.WideShapes Go.ChangeAt Go.RowKit Go.Proofs.Ytcdmhjnofdoobaa.Open
set_option linter.unusedVariables false
theorem own : ownKnob Try.prog.godebug = none := by kernel_rfl
theorem laidOut : laidOutB Try.prog = true := by kernel_rfl
theorem flatGroup : ∃ fs, Try.prog.underlying 86 = some (.struct fs) ∧ flatI64 Try.prog fs ∧ Try.prog.cellsOf 86 = fs.size ∧ fs.size = 4 := by
  refine ⟨_, Try.underlying86, ?_, by kernel_rfl, rfl⟩
  intro i f hf
  obtain ⟨hi, rfl⟩ := Array.getElem?_eq_some_iff.1 hf
  have hi' : i < 4 := hi
  match i, hi' with
  | 0, _ => exact ⟨Try.underlying2, rfl, by kernel_rfl⟩
  | 1, _ => exact ⟨Try.underlying2, rfl, by kernel_rfl⟩
  | 2, _ => exact ⟨Try.underlying2, rfl, by kernel_rfl⟩
  | 3, _ => exact ⟨Try.underlying2, rfl, by kernel_rfl⟩
def toSGroup : List Int → PFnExactFarmWant.S86
  | [x0, x1, x2, x3] => ⟨x0, x1, x2, x3⟩
  | _ => PFnExactFarmWant.z86
theorem readsGroup {w : World} {a : Option Addr} {zss : List (List Int)} (hm : zss.length ≤ 9223372036854775807) (hw : ∀ zs ∈ zss, zs.length = 4)
    (hc : 0 < zss.length → ∃ ad, a = some ad ∧ ∀ j zs, zss[j]? = some zs → ∀ i u, (zs.map (Value.int .i64))[i]? = some u → w.cell? (ad.add (j * 4 + i)) = some u) : Go.Proofs.YtcdmhjnofdoobaaW.PrintWords.Kd.C PFnExactFarmWant.k86 w a (zss.map toSGroup).length (zss.map toSGroup) := by
  refine ⟨rfl, by simpa using hm, fun h => ?_⟩
  obtain ⟨ad, rfl, hat⟩ := hc (by simpa using h)
  refine ⟨ad, rfl, fun j p hj => ?_⟩
  rw [List.getElem?_map] at hj
  obtain ⟨zs, hzs, rfl⟩ := Option.map_eq_some_iff.1 hj
  have hl := hw zs (List.mem_of_getElem? hzs)
  have h2 := hat j zs hzs
  refine ⟨zs.map (Value.int .i64), (List.length_map _).trans hl, ?_, fun i u hu => h2 i u hu⟩
  clear h2 hzs hj hat
  match zs, hl with
  | [x0, x1, x2, x3], _ => exact PFnExactFarmWant.k86_mk w ⟨x0, x1, x2, x3⟩
theorem flatMember : ∃ fs, Try.prog.underlying 88 = some (.struct fs) ∧ flatI64 Try.prog fs ∧ Try.prog.cellsOf 88 = fs.size ∧ fs.size = 4 := by
  refine ⟨_, Try.underlying88, ?_, by kernel_rfl, rfl⟩
  intro i f hf
  obtain ⟨hi, rfl⟩ := Array.getElem?_eq_some_iff.1 hf
  have hi' : i < 4 := hi
  match i, hi' with
  | 0, _ => exact ⟨Try.underlying2, rfl, by kernel_rfl⟩
  | 1, _ => exact ⟨Try.underlying2, rfl, by kernel_rfl⟩
  | 2, _ => exact ⟨Try.underlying2, rfl, by kernel_rfl⟩
  | 3, _ => exact ⟨Try.underlying2, rfl, by kernel_rfl⟩
def toSMember : List Int → PFnExactFarmWant.S88
  | [x0, x1, x2, x3] => ⟨x0, x1, x2, x3⟩
  | _ => PFnExactFarmWant.z88
theorem readsMember {w : World} {a : Option Addr} {zss : List (List Int)} (hm : zss.length ≤ 9223372036854775807) (hw : ∀ zs ∈ zss, zs.length = 4)
    (hc : 0 < zss.length → ∃ ad, a = some ad ∧ ∀ j zs, zss[j]? = some zs → ∀ i u, (zs.map (Value.int .i64))[i]? = some u → w.cell? (ad.add (j * 4 + i)) = some u) : Go.Proofs.YtcdmhjnofdoobaaW.PrintWords.Kd.C PFnExactFarmWant.k88 w a (zss.map toSMember).length (zss.map toSMember) := by
  refine ⟨rfl, by simpa using hm, fun h => ?_⟩
  obtain ⟨ad, rfl, hat⟩ := hc (by simpa using h)
  refine ⟨ad, rfl, fun j p hj => ?_⟩
  rw [List.getElem?_map] at hj
  obtain ⟨zs, hzs, rfl⟩ := Option.map_eq_some_iff.1 hj
  have hl := hw zs (List.mem_of_getElem? hzs)
  have h2 := hat j zs hzs
  refine ⟨zs.map (Value.int .i64), (List.length_map _).trans hl, ?_, fun i u hu => h2 i u hu⟩
  clear h2 hzs hj hat
  match zs, hl with
  | [x0, x1, x2, x3], _ => exact PFnExactFarmWant.k88_mk w ⟨x0, x1, x2, x3⟩
theorem split3 {α : Type} (l : List α) (h : l.length = 3) : ∃ c0 c1 c2, l = [c0, c1, c2] := by
  match l, h with
  | [c0, c1, c2], _ => exact ⟨c0, c1, c2, rfl⟩
set_option maxHeartbeats 2000000 in
set_option maxRecDepth 100000 in
theorem lifted (os : Os) (started : os.Started) (H : Type) (enc : TypeId × Value → H) :
    ReturnsInHanded {} Try.checked os 3 .any (Rows.fnExactFarmWantSpec.pre6 enc Try.prog Try.f3 Rows.fnExactFarmWantRow.domain false) (Rows.fnExactFarmWantSpec.post enc Try.prog Try.f3 false true false false) := by
  refine returnsInHanded_of_change_sized (C := Try.checked) own started (by kernel_rfl) Try.func3
    (ChangeSpec.witness6 (enc := enc) (C := Try.checked) false ⟨#[], #[.agg #[.int .i64 0, .slice none 0 0, .slice none 0 0], .int .i64 0], []⟩ 8 (by kernel_rfl) (by kernel_rfl) (by kernel_rfl) (by kernel_rfl)) ?_
  intro W base args ds gs before hval0 hW hcnd hsz0 _
  have hval : ∀ (j : Nat) t v, Try.f3.params[j]? = some t → args[j]? = some v → Value.okWide Try.prog W .any base t v := hval0
  have hW' := hW
  obtain ⟨p, q, hA0, hV, rfl, hfz, hnd⟩ := hW
  have hA : DataW.TrodAll enc Try.prog W 0 (fun _ => true) true Try.f3.params.toList args.toList ds p := hA0
  rw [Try.params3] at hA hval
  obtain ⟨v0, vs0, d0, ds0, p0, q0, hargs, rfl, rfl, h0, r0⟩ := trodAll_cons hA
  obtain ⟨v1, vs1, d1, ds1, p1, q1, rfl, rfl, rfl, h1, r1⟩ := trodAll_cons r0
  obtain ⟨rfl, rfl, rfl⟩ := trodAll_nil r1
  obtain rfl : args = #[v0, v1] := by cases args; simp_all
  obtain ⟨rfl, rfl⟩ := trodVars_none hV
  have k0 := h0
  have lt0 : ∀ x ∈ p0, x.block < W.heap.size := by obtain ⟨m, hm⟩ := k0; exact DataW.trod_lt m _ _ _ hm
  obtain ⟨cs0, fu0, x0, hv0, hcl0, ht0⟩ := open_agg Try.underlying25 (hval 0 25 v0 rfl rfl) h0
  have hcl0' : cs0.length = 3 := hcl0.trans (by kernel_rfl)
  subst hv0
  obtain ⟨c0_0, c0_1, c0_2, rfl⟩ := split3 cs0 hcl0'
  clear hcl0 hcl0'
  obtain ⟨fu0_0, y0_0, e0_0⟩ := field_at Try.underlying25 ht0 0 2 0 1 ⟨_, rfl, rfl, rfl, by kernel_rfl⟩
  obtain ⟨a0_0, rfl, w0_0, ww0_0⟩ := leaf_int Try.underlying2 e0_0
  obtain ⟨fu0_1, y0_1, e0_1⟩ := field_at Try.underlying25 ht0 1 22 1 1 ⟨_, rfl, rfl, rfl, by kernel_rfl⟩
  obtain ⟨fs0_1, hs0_1, hone0_1, hC0_1, hn0_1⟩ := flatGroup
  obtain ⟨A0_1, len0_1, cap0_1, zss0_1, rfl, hzl0_1, hl0_1, hm0_1, hw0_1, hc0_1⟩ := leaf_flat Try.underlying22 hs0_1 hone0_1 hC0_1 e0_1
  rw [hn0_1] at hw0_1 hc0_1
  have R0_1 := readsGroup (w := W) (by unfold maxLen at hm0_1; omega) (fun zs h => (hw0_1 zs h).1) (by rw [hzl0_1]; exact hc0_1)
  generalize hL0_1 : zss0_1.map toSGroup = l0_1 at R0_1
  obtain rfl : l0_1.length = len0_1 := by rw [← hL0_1, List.length_map, hzl0_1]
  obtain ⟨fu0_2, y0_2, e0_2⟩ := field_at Try.underlying25 ht0 2 23 2 1 ⟨_, rfl, rfl, rfl, by kernel_rfl⟩
  obtain ⟨fs0_2, hs0_2, hone0_2, hC0_2, hn0_2⟩ := flatMember
  obtain ⟨A0_2, len0_2, cap0_2, zss0_2, rfl, hzl0_2, hl0_2, hm0_2, hw0_2, hc0_2⟩ := leaf_flat Try.underlying23 hs0_2 hone0_2 hC0_2 e0_2
  rw [hn0_2] at hw0_2 hc0_2
  have R0_2 := readsMember (w := W) (by unfold maxLen at hm0_2; omega) (fun zs h => (hw0_2 zs h).1) (by rw [hzl0_2]; exact hc0_2)
  generalize hL0_2 : zss0_2.map toSMember = l0_2 at R0_2
  obtain rfl : l0_2.length = len0_2 := by rw [← hL0_2, List.length_map, hzl0_2]
  obtain ⟨a1, rfl, rfl, rfl, wf1⟩ := open_int Try.underlying2 (hval 1 2 v1 rfl rfl) h1
  have w1 := bd_i64 wf1
  clear hA0 hval0 hsz0
  obtain ⟨k, hk⟩ := Pure.FnExactFarmWant a0_0 l0_1 l0_2 a1 ⟨w0_0, ww0_0⟩ (by unfold maxLen at hm0_1; omega) (by unfold maxLen at hm0_2; omega) w1
  refine (PFnExactFarmWant.laws_FnExactFarmWant.calls k a0_0 A0_1 cap0_1 l0_1 A0_2 cap0_2 l0_2 a1 true W R0_1 hl0_1 R0_2 hl0_2 hk).mono fun e W' ⟨he, bel⟩ => ?_
  subst he
  exact ⟨_, rfl, _, _, _, [], _, [], hW', trodAll_mk1 (shut_bool Try.underlying4 _), (trodAll_cons_mk (Below.trod laidOut (by kernel_rfl) (of_decide_eq_true (by kernel_rfl)) k0 bel lt0) (trodAll_cons_mk (shut_int Try.underlying2 wf1) trodAll_mk0)), rfl, bel.frame _, fun h => by cases h⟩
theorem over : Rows.fnExactFarmWantRow.holds Try.pinned (OpenSpec.ofChange Rows.fnExactFarmWantSpec) :=
  OpenClaim.holds_of_wide 3 Try.f3 rfl rfl rfl rfl rfl rfl rfl ⟨rfl, rfl, rfl, rfl, rfl⟩ rfl rfl rfl rfl rfl (by kernel_rfl) Try.func3 (by kernel_rfl)
    (of_decide_eq_true (by kernel_rfl)) (by unfold Func.isWrapper; first | (rw [if_pos (by decide +kernel)]; kernel_rfl) | (rw [if_neg (by decide +kernel)]; exact ⟨rfl, rfl⟩))
    (fun os started H enc _ => lifted os started H enc)
end Go.Proofs.Ytcdmhjnofdoobaa.fnExactFarmWant
namespace Go.Proofs.Ytcdmhjnofdoobaa
/-- The row. -/
theorem fnExactFarmWant_holds : Rows.FnExactFarmWantSaid := fnExactFarmWant.over
#print axioms fnExactFarmWant_holds
end Go.Proofs.Ytcdmhjnofdoobaa
