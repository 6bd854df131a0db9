/- The law FnExactSmoothStep: for every input the call returns true, and each argument reads afterwards as before. No condition. -/
import Derived.Test.YtdobclaiebcmdaaRows
import Derived.Test.YtdobclaiebcmdaaStepWalks
import Derived.Test.YtdobclaiebcmdaaOpen
import Derived.Test.YtdobclaiebcmdaaPureFnExactSmoothStep
import Derived.WalkKit
import Derived.ProofKit
import Derived.OpenShut
import Derived.ShutString
import Derived.ChangeOld
import Derived.Below
import Derived.SizedLaws
namespace Go.Proofs.Ytdobclaiebcmdaa.fnExactSmoothStep
open Go.ChangeShapes Go.WideShapes Go.ChangeAt Go.RowKit Go.Proofs.Ytdobclaiebcmdaa.Open
set_option linter.unusedVariables false
theorem own : ownKnob Try.prog.godebug = none := by kernel_rfl
theorem laidOut : laidOutB Try.prog = true := by kernel_rfl
theorem flat0 : ∃ fs, Try.prog.underlying 23 = some (.struct fs) ∧ flatI64 Try.prog fs ∧ Try.prog.cellsOf 23 = fs.size ∧ fs.size = 5 := by
  refine ⟨_, Try.underlying23, ?_, by kernel_rfl, rfl⟩
  intro i f hf
  obtain ⟨hi, rfl⟩ := Array.getElem?_eq_some_iff.1 hf
  have hi' : i < 5 := hi
  match i, hi' with
  | 0, _ => exact ⟨Try.underlying2, rfl, by kernel_rfl⟩
  | 1, _ => exact ⟨Try.underlying2, rfl, by kernel_rfl⟩
  | 2, _ => exact ⟨Try.underlying2, rfl, by kernel_rfl⟩
  | 3, _ => exact ⟨Try.underlying2, rfl, by kernel_rfl⟩
  | 4, _ => exact ⟨Try.underlying2, rfl, by kernel_rfl⟩
set_option maxRecDepth 100000 in
theorem lifted (os : Os) (started : os.Started) (H : Type) (enc : TypeId × Value → H) :
    ReturnsInHanded {} Try.checked os 7 .any (Rows.fnExactSmoothStepSpec.pre6 enc Try.prog Try.f7 Rows.fnExactSmoothStepRow.domain false) (Rows.fnExactSmoothStepSpec.post enc Try.prog Try.f7 false true false false) := by
  refine returnsInHanded_of_change_sized (C := Try.checked) own started (by kernel_rfl) Try.func7
    (ChangeSpec.witness6 (enc := enc) (C := Try.checked) false ⟨#[], #[.agg #[.int .i64 0, .int .i64 0, .int .i64 0, .int .i64 0, .int .i64 0], .int .i64 0], []⟩ 8 (by kernel_rfl) (by kernel_rfl) (by kernel_rfl) (by kernel_rfl)) ?_
  intro W base args ds gs before hval0 hW hcnd hsz0 _
  have hval : ∀ (j : Nat) t v, Try.f7.params[j]? = some t → args[j]? = some v → Value.okWide Try.prog W .any base t v := hval0
  have hW' := hW
  obtain ⟨p, q, hA0, hV, rfl, hfz, hnd⟩ := hW
  have hA : DataW.TrodAll enc Try.prog W 0 (fun _ => true) true Try.f7.params.toList args.toList ds p := hA0
  rw [Try.params7] at hA hval
  obtain ⟨v0, vs0, d0, ds0, p0, q0, hargs, rfl, rfl, h0, r0⟩ := trodAll_cons hA
  obtain ⟨v1, vs1, d1, ds1, p1, q1, rfl, rfl, rfl, h1, r1⟩ := trodAll_cons r0
  obtain ⟨rfl, rfl, rfl⟩ := trodAll_nil r1
  obtain rfl : args = #[v0, v1] := by cases args; simp_all
  obtain ⟨rfl, rfl⟩ := trodVars_none hV
  have k0 := h0
  have lt0 : ∀ x ∈ p0, x.block < W.heap.size := by obtain ⟨m, hm⟩ := k0; exact DataW.trod_lt m _ _ _ hm
  obtain ⟨fs0, hs0, hone0, hC0, hn0⟩ := flat0
  obtain ⟨zs0, hl0, hv0, hd0, hp0, hw0⟩ := open_flat hs0 hone0 hC0 (hval 0 23 v0 rfl rfl) h0
  obtain ⟨a0_0, a0_1, a0_2, a0_3, a0_4, rfl⟩ : ∃ a0_0 a0_1 a0_2 a0_3 a0_4, zs0 = [a0_0, a0_1, a0_2, a0_3, a0_4] := by
    rw [hn0] at hl0
    match zs0, hl0 with
    | [a0_0, a0_1, a0_2, a0_3, a0_4], _ => exact ⟨a0_0, a0_1, a0_2, a0_3, a0_4, rfl⟩
  replace hv0 : v0 = .agg #[.int .i64 a0_0, .int .i64 a0_1, .int .i64 a0_2, .int .i64 a0_3, .int .i64 a0_4] := by simpa using hv0
  subst hv0
  clear hd0 hp0 hs0 hone0 hC0 hn0
  have w0_0 := bd_i64 (hw0 a0_0 (by simp))
  have w0_1 := bd_i64 (hw0 a0_1 (by simp))
  have w0_2 := bd_i64 (hw0 a0_2 (by simp))
  have w0_3 := bd_i64 (hw0 a0_3 (by simp))
  have w0_4 := bd_i64 (hw0 a0_4 (by simp))
  obtain ⟨a1, rfl, rfl, rfl, wf1⟩ := open_int Try.underlying2 (hval 1 2 v1 rfl rfl) h1
  have w1 := bd_i64 wf1
  clear hA0 hval0 hsz0
  obtain ⟨k, hk⟩ := Pure.FnExactSmoothStep a0_0 a0_1 a0_2 a0_3 a0_4 a1 w0_0 w0_1 w0_2 w0_3 w0_4 w1
  refine (PFnExactSmoothStep.laws_FnExactSmoothStep.calls k a0_0 a0_1 a0_2 a0_3 a0_4 a1 true W hk).mono fun e W' ⟨he, bel⟩ => ?_
  subst he
  exact ⟨_, rfl, _, _, _, [], _, [], hW', trodAll_mk1 (shut_bool Try.underlying4 _), (trodAll_cons_mk (Below.trod laidOut (by kernel_rfl) (of_decide_eq_true (by kernel_rfl)) k0 bel lt0) (trodAll_cons_mk (shut_int Try.underlying2 wf1) trodAll_mk0)), rfl, bel.frame _, fun h => by cases h⟩
theorem over : Rows.fnExactSmoothStepRow.holds Try.pinned (OpenSpec.ofChange Rows.fnExactSmoothStepSpec) :=
  OpenClaim.holds_of_wide 7 Try.f7 rfl rfl rfl rfl rfl rfl rfl ⟨rfl, rfl, rfl, rfl, rfl⟩ rfl rfl rfl rfl rfl (by kernel_rfl) Try.func7 (by kernel_rfl)
    (of_decide_eq_true (by kernel_rfl)) (by unfold Func.isWrapper; first | (rw [if_pos (by decide +kernel)]; kernel_rfl) | (rw [if_neg (by decide +kernel)]; exact ⟨rfl, rfl⟩))
    (fun os started H enc _ => lifted os started H enc)
end Go.Proofs.Ytdobclaiebcmdaa.fnExactSmoothStep
namespace Go.Proofs.Ytdobclaiebcmdaa
/-- The row. -/
theorem fnExactSmoothStep_holds : Rows.FnExactSmoothStepSaid := fnExactSmoothStep.over
#print axioms fnExactSmoothStep_holds
end Go.Proofs.Ytdobclaiebcmdaa
