/- The law FnExactSmoothRun: for every input the call returns true, and each argument reads afterwards as before. No condition. -/
import Derived.Test.YtppbocpmahhciaaRows
import Derived.Test.YtppbocpmahhciaaPFnExactSmoothRunx
import Derived.Test.YtppbocpmahhciaaOpen
import Derived.Test.YtppbocpmahhciaaPureFnExactSmoothRun
import Derived.WalkKit
import Derived.ProofKit
import Derived.OpenShut
import Derived.ShutString
import Derived.ChangeOld
import Derived.Below
import Derived.SizedLaws
namespace Go.Proofs.Ytppbocpmahhciaa.fnExactSmoothRun
open Go.ChangeShapes Go.WideShapes Go.ChangeAt Go.RowKit Go.Proofs.Ytppbocpmahhciaa.Open
set_option linter.unusedVariables false
theorem own : ownKnob Try.prog.godebug = none := by kernel_rfl
theorem laidOut : laidOutB Try.prog = true := by kernel_rfl
theorem flat0 : ∃ fs, Try.prog.underlying 42 = some (.struct fs) ∧ flatI64 Try.prog fs ∧ Try.prog.cellsOf 42 = fs.size ∧ fs.size = 5 := by
  refine ⟨_, Try.underlying42, ?_, by kernel_rfl, rfl⟩
  intro i f hf
  obtain ⟨hi, rfl⟩ := Array.getElem?_eq_some_iff.1 hf
  have hi' : i < 5 := hi
  match i, hi' with
  | 0, _ => exact ⟨Try.underlying2, rfl, by kernel_rfl⟩
  | 1, _ => exact ⟨Try.underlying2, rfl, by kernel_rfl⟩
  | 2, _ => exact ⟨Try.underlying2, rfl, by kernel_rfl⟩
  | 3, _ => exact ⟨Try.underlying2, rfl, by kernel_rfl⟩
  | 4, _ => exact ⟨Try.underlying2, rfl, by kernel_rfl⟩
set_option maxRecDepth 100000 in
theorem lifted (os : Os) (started : os.Started) (H : Type) (enc : TypeId × Value → H) :
    ReturnsInHanded {} Try.checked os 6 .any (Rows.fnExactSmoothRunSpec.pre6 enc Try.prog Try.f6 Rows.fnExactSmoothRunRow.domain false) (Rows.fnExactSmoothRunSpec.post enc Try.prog Try.f6 false true false false) := by
  refine returnsInHanded_of_change_sized (C := Try.checked) own started (by kernel_rfl) Try.func6
    (ChangeSpec.witness6 (enc := enc) (C := Try.checked) false ⟨#[], #[.agg #[.int .i64 0, .int .i64 0, .int .i64 0, .int .i64 0, .int .i64 0], .slice none 0 0], []⟩ 8 (by kernel_rfl) (by kernel_rfl) (by kernel_rfl) (by kernel_rfl)) ?_
  intro W base args ds gs before hval0 hW hcnd hsz0 _
  have hval : ∀ (j : Nat) t v, Try.f6.params[j]? = some t → args[j]? = some v → Value.okWide Try.prog W .any base t v := hval0
  have hW' := hW
  obtain ⟨p, q, hA0, hV, rfl, hfz, hnd⟩ := hW
  have hA : DataW.TrodAll enc Try.prog W 0 (fun _ => true) true Try.f6.params.toList args.toList ds p := hA0
  rw [Try.params6] at hA hval
  obtain ⟨v0, vs0, d0, ds0, p0, q0, hargs, rfl, rfl, h0, r0⟩ := trodAll_cons hA
  obtain ⟨v1, vs1, d1, ds1, p1, q1, rfl, rfl, rfl, h1, r1⟩ := trodAll_cons r0
  obtain ⟨rfl, rfl, rfl⟩ := trodAll_nil r1
  obtain rfl : args = #[v0, v1] := by cases args; simp_all
  obtain ⟨rfl, rfl⟩ := trodVars_none hV
  have k0 := h0
  have lt0 : ∀ x ∈ p0, x.block < W.heap.size := by obtain ⟨m, hm⟩ := k0; exact DataW.trod_lt m _ _ _ hm
  obtain ⟨fs0, hs0, hone0, hC0, hn0⟩ := flat0
  obtain ⟨zs0, hl0, hv0, hd0, hp0, hw0⟩ := open_flat hs0 hone0 hC0 (hval 0 42 v0 rfl rfl) h0
  obtain ⟨a0_0, a0_1, a0_2, a0_3, a0_4, rfl⟩ : ∃ a0_0 a0_1 a0_2 a0_3 a0_4, zs0 = [a0_0, a0_1, a0_2, a0_3, a0_4] := by
    rw [hn0] at hl0
    match zs0, hl0 with
    | [a0_0, a0_1, a0_2, a0_3, a0_4], _ => exact ⟨a0_0, a0_1, a0_2, a0_3, a0_4, rfl⟩
  replace hv0 : v0 = .agg #[.int .i64 a0_0, .int .i64 a0_1, .int .i64 a0_2, .int .i64 a0_3, .int .i64 a0_4] := by simpa using hv0
  subst hv0
  clear hd0 hp0 hs0 hone0 hC0 hn0
  have w0_0 := bd_i64 (hw0 a0_0 (by simp))
  have w0_1 := bd_i64 (hw0 a0_1 (by simp))
  have w0_2 := bd_i64 (hw0 a0_2 (by simp))
  have w0_3 := bd_i64 (hw0 a0_3 (by simp))
  have w0_4 := bd_i64 (hw0 a0_4 (by simp))
  have k1 := h1
  have lt1 : ∀ x ∈ p1, x.block < W.heap.size := by obtain ⟨m, hm⟩ := k1; exact DataW.trod_lt m _ _ _ hm
  obtain ⟨A1, len1, cap1, rfl⟩ := okWide_slice Try.underlying43 (hval 1 43 v1 rfl rfl)
  obtain ⟨fuel1, hf1⟩ := h1
  obtain ⟨l1, hzl1, hl1, hm1, hw1, hc1, _⟩ := slice_num Try.underlying43 Try.underlying2 (by kernel_rfl) (by simpa [Value.cells] using hf1)
  have R1 : Go.Proofs.YtppbocpmahhciaaW.PrintWords.Kd.C (Go.Proofs.YtppbocpmahhciaaW.PrintWords.Kd.int .i64) W A1 l1.length l1 := by
    refine ⟨rfl, by unfold maxLen at hm1; omega, fun h => ?_⟩
    obtain ⟨ad, rfl, hat⟩ := hc1 (by omega)
    refine ⟨ad, rfl, fun j p hj => ⟨[.int .i64 p], rfl, rfl, fun i u hu => ?_⟩⟩
    have hi : i = 0 := by have := (List.getElem?_eq_some_iff.1 hu).1; simp at this; omega
    subst hi
    have hu' : Value.int .i64 p = u := by simpa using hu
    rw [← hu']
    have := hat j p hj
    simpa [Go.Proofs.YtppbocpmahhciaaW.PrintWords.Kd.int, Go.Proofs.YtppbocpmahhciaaW.PrintWords.Kd.scalar] using this
  subst hzl1
  clear hA0 hval0 hsz0
  obtain ⟨k, hk⟩ := Pure.FnExactSmoothRun a0_0 a0_1 a0_2 a0_3 a0_4 l1 w0_0 w0_1 w0_2 w0_3 w0_4 (by unfold maxLen at hm1; omega) hw1
  refine (PFnExactSmoothRun.laws_FnExactSmoothRun.calls k a0_0 a0_1 a0_2 a0_3 a0_4 A1 cap1 l1 true W R1 hl1 hk).mono fun e W' ⟨he, bel⟩ => ?_
  subst he
  exact ⟨_, rfl, _, _, _, [], _, [], hW', trodAll_mk1 (shut_bool Try.underlying4 _), (trodAll_cons_mk (Below.trod laidOut (by kernel_rfl) (of_decide_eq_true (by kernel_rfl)) k0 bel lt0) (trodAll_cons_mk (Below.trod laidOut (by kernel_rfl) (of_decide_eq_true (by kernel_rfl)) k1 bel lt1) trodAll_mk0)), rfl, bel.frame _, fun h => by cases h⟩
theorem over : Rows.fnExactSmoothRunRow.holds Try.pinned (OpenSpec.ofChange Rows.fnExactSmoothRunSpec) :=
  OpenClaim.holds_of_wide 6 Try.f6 rfl rfl rfl rfl rfl rfl rfl ⟨rfl, rfl, rfl, rfl, rfl⟩ rfl rfl rfl rfl rfl (by kernel_rfl) Try.func6 (by kernel_rfl)
    (of_decide_eq_true (by kernel_rfl)) (by unfold Func.isWrapper; first | (rw [if_pos (by decide +kernel)]; kernel_rfl) | (rw [if_neg (by decide +kernel)]; exact ⟨rfl, rfl⟩))
    (fun os started H enc _ => lifted os started H enc)
end Go.Proofs.Ytppbocpmahhciaa.fnExactSmoothRun
namespace Go.Proofs.Ytppbocpmahhciaa
/-- The row. -/
theorem fnExactSmoothRun_holds : Rows.FnExactSmoothRunSaid := fnExactSmoothRun.over
#print axioms fnExactSmoothRun_holds
end Go.Proofs.Ytppbocpmahhciaa
