/- The law FnExactReportSum: for every input the call returns true, and each argument reads afterwards as before. No condition. -/
import Derived.Test.YtppbocpmahhciaaRows
import Derived.Test.YtppbocpmahhciaaPFnExactReportSumx
import Derived.Test.YtppbocpmahhciaaOpen
import Derived.Test.YtppbocpmahhciaaPureFnExactReportSum
import Derived.WalkKit
import Derived.ProofKit
import Derived.OpenShut
import Derived.ShutString
import Derived.ChangeOld
import Derived.Below
import Derived.SizedLaws
namespace Go.Proofs.Ytppbocpmahhciaa.fnExactReportSum
open Go.ChangeShapes Go.WideShapes Go.ChangeAt Go.RowKit Go.Proofs.Ytppbocpmahhciaa.Open
set_option linter.unusedVariables false
theorem own : ownKnob Try.prog.godebug = none := by kernel_rfl
theorem laidOut : laidOutB Try.prog = true := by kernel_rfl
theorem flat0 : ∃ fs, Try.prog.underlying 56 = some (.struct fs) ∧ flatI64 Try.prog fs ∧ Try.prog.cellsOf 56 = fs.size ∧ fs.size = 6 := by
  refine ⟨_, Try.underlying56, ?_, by kernel_rfl, rfl⟩
  intro i f hf
  obtain ⟨hi, rfl⟩ := Array.getElem?_eq_some_iff.1 hf
  have hi' : i < 6 := hi
  match i, hi' with
  | 0, _ => exact ⟨Try.underlying2, rfl, by kernel_rfl⟩
  | 1, _ => exact ⟨Try.underlying2, rfl, by kernel_rfl⟩
  | 2, _ => exact ⟨Try.underlying2, rfl, by kernel_rfl⟩
  | 3, _ => exact ⟨Try.underlying2, rfl, by kernel_rfl⟩
  | 4, _ => exact ⟨Try.underlying2, rfl, by kernel_rfl⟩
  | 5, _ => exact ⟨Try.underlying2, rfl, by kernel_rfl⟩
def toS0 : List Int → PFnExactReportSum.S56
  | [x0, x1, x2, x3, x4, x5] => ⟨x0, x1, x2, x3, x4, x5⟩
  | _ => PFnExactReportSum.z56
theorem reads0 {w : World} {a : Option Addr} {zss : List (List Int)} (hm : zss.length ≤ 9223372036854775807) (hw : ∀ zs ∈ zss, zs.length = 6)
    (hc : 0 < zss.length → ∃ ad, a = some ad ∧ ∀ j zs, zss[j]? = some zs → ∀ i u, (zs.map (Value.int .i64))[i]? = some u → w.cell? (ad.add (j * 6 + i)) = some u) : Go.Proofs.YtppbocpmahhciaaW.PrintWords.Kd.C PFnExactReportSum.k56 w a (zss.map toS0).length (zss.map toS0) := by
  refine ⟨rfl, by simpa using hm, fun h => ?_⟩
  obtain ⟨ad, rfl, hat⟩ := hc (by simpa using h)
  refine ⟨ad, rfl, fun j p hj => ?_⟩
  rw [List.getElem?_map] at hj
  obtain ⟨zs, hzs, rfl⟩ := Option.map_eq_some_iff.1 hj
  have hl := hw zs (List.mem_of_getElem? hzs)
  have h2 := hat j zs hzs
  refine ⟨zs.map (Value.int .i64), (List.length_map _).trans hl, ?_, fun i u hu => h2 i u hu⟩
  clear h2 hzs hj hat
  match zs, hl with
  | [x0, x1, x2, x3, x4, x5], _ => exact PFnExactReportSum.k56_mk w ⟨x0, x1, x2, x3, x4, x5⟩
set_option maxRecDepth 100000 in
theorem lifted (os : Os) (started : os.Started) (H : Type) (enc : TypeId × Value → H) :
    ReturnsInHanded {} Try.checked os 3 .any (Rows.fnExactReportSumSpec.pre6 enc Try.prog Try.f3 Rows.fnExactReportSumRow.domain false) (Rows.fnExactReportSumSpec.post enc Try.prog Try.f3 false true false false) := by
  refine returnsInHanded_of_change_sized (C := Try.checked) own started (by kernel_rfl) Try.func3
    (ChangeSpec.witness6 (enc := enc) (C := Try.checked) false ⟨#[], #[.slice none 0 0], []⟩ 8 (by kernel_rfl) (by kernel_rfl) (by kernel_rfl) (by kernel_rfl)) ?_
  intro W base args ds gs before hval0 hW hcnd hsz0 _
  have hval : ∀ (j : Nat) t v, Try.f3.params[j]? = some t → args[j]? = some v → Value.okWide Try.prog W .any base t v := hval0
  have hW' := hW
  obtain ⟨p, q, hA0, hV, rfl, hfz, hnd⟩ := hW
  have hA : DataW.TrodAll enc Try.prog W 0 (fun _ => true) true Try.f3.params.toList args.toList ds p := hA0
  rw [Try.params3] at hA hval
  obtain ⟨v0, vs0, d0, ds0, p0, q0, hargs, rfl, rfl, h0, r0⟩ := trodAll_cons hA
  obtain ⟨rfl, rfl, rfl⟩ := trodAll_nil r0
  obtain rfl : args = #[v0] := by cases args; simp_all
  obtain ⟨rfl, rfl⟩ := trodVars_none hV
  have k0 := h0
  have lt0 : ∀ x ∈ p0, x.block < W.heap.size := by obtain ⟨m, hm⟩ := k0; exact DataW.trod_lt m _ _ _ hm
  obtain ⟨A0, len0, cap0, rfl⟩ := okWide_slice Try.underlying22 (hval 0 22 v0 rfl rfl)
  obtain ⟨fuel0, hf0⟩ := h0
  obtain ⟨fs0, hs0, hone0, hC0, hn0⟩ := flat0
  obtain ⟨zss0, hzl0, hl0, hm0, hw0, hc0, _⟩ := slice_flat Try.underlying22 hs0 hone0 hC0 (by simpa [Value.cells] using hf0)
  rw [hn0] at hw0 hc0
  have R0 := reads0 (w := W) (by unfold maxLen at hm0; omega) (fun zs h => (hw0 zs h).1) (by rw [hzl0]; exact hc0)
  generalize hL0 : zss0.map toS0 = l0 at R0
  obtain rfl : l0.length = len0 := by rw [← hL0, List.length_map, hzl0]
  clear hA0 hval0 hsz0
  obtain ⟨k, hk⟩ := Pure.FnExactReportSum l0 (by unfold maxLen at hm0; omega)
  refine (PFnExactReportSum.laws_FnExactReportSum.calls k A0 cap0 l0 true W R0 hl0 hk).mono fun e W' ⟨he, bel⟩ => ?_
  subst he
  exact ⟨_, rfl, _, _, _, [], _, [], hW', trodAll_mk1 (shut_bool Try.underlying4 _), (trodAll_cons_mk (Below.trod laidOut (by kernel_rfl) (of_decide_eq_true (by kernel_rfl)) k0 bel lt0) trodAll_mk0), rfl, bel.frame _, fun h => by cases h⟩
theorem over : Rows.fnExactReportSumRow.holds Try.pinned (OpenSpec.ofChange Rows.fnExactReportSumSpec) :=
  OpenClaim.holds_of_wide 3 Try.f3 rfl rfl rfl rfl rfl rfl rfl ⟨rfl, rfl, rfl, rfl, rfl⟩ rfl rfl rfl rfl rfl (by kernel_rfl) Try.func3 (by kernel_rfl)
    (of_decide_eq_true (by kernel_rfl)) (by unfold Func.isWrapper; first | (rw [if_pos (by decide +kernel)]; kernel_rfl) | (rw [if_neg (by decide +kernel)]; exact ⟨rfl, rfl⟩))
    (fun os started H enc _ => lifted os started H enc)
end Go.Proofs.Ytppbocpmahhciaa.fnExactReportSum
namespace Go.Proofs.Ytppbocpmahhciaa
/-- The row. -/
theorem fnExactReportSum_holds : Rows.FnExactReportSumSaid := fnExactReportSum.over
#print axioms fnExactReportSum_holds
end Go.Proofs.Ytppbocpmahhciaa
