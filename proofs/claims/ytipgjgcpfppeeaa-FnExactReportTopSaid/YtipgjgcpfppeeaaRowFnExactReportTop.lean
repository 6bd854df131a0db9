/- The law FnExactReportTop: for every input the call returns true, and each argument reads afterwards as before. No condition. -/
import Derived.Test.YtipgjgcpfppeeaaM10
import Derived.Test.YtipgjgcpfppeeaaRows
namespace Go.Proofs.Ytipgjgcpfppeeaa.fnExactReportTop
open Go.Rv
set_option linter.unusedVariables false
theorem own : ownKnob Try.prog.godebug = none := by kernel_rfl
theorem laidOut : laidOutB Try.prog = true := by kernel_rfl
set_option maxHeartbeats 2000000 in
set_option maxRecDepth 100000 in
theorem lifted (os : Os) (started : os.Started) (H : Type) (enc : TypeId × Value → H) :
    ReturnsInHanded {} Try.checked os 3 .any (Rows.fnExactReportTopSpec.pre6 enc Try.prog Try.f3 Rows.fnExactReportTopRow.domain false) (Rows.fnExactReportTopSpec.post enc Try.prog Try.f3 false true false false) :=
  row_of (Dr := KN) (C := Try.checked) (S := ⟨ins_laws_FnExactReportTop, outs_laws_FnExactReportTop, F_laws_FnExactReportTop, []⟩) own started (by kernel_rfl) Try.func3 laidOut rfl ⟨4, by kernel_rfl, Try.underlying4⟩
    (fun ds h => by
      have h' : ds.length = 2 := h
      match ds, h' with
      | [d0, d1], _ => rfl)
    rfl (by kernel_rfl) rfl (fun _ _ => trivial) ok_laws_FnExactReportTop (fun x hx => ⟨(true, ()), pureReportTop x hx, fun us bs w J h => own_true h⟩)
    (ChangeSpec.witness6 (enc := enc) (C := Try.checked) false ⟨#[], #[.slice none 0 0, .int .i64 0], []⟩ 8 (by kernel_rfl) (by kernel_rfl) (by kernel_rfl) (by kernel_rfl))
theorem over : Rows.fnExactReportTopRow.holds Try.pinned (OpenSpec.ofChange Rows.fnExactReportTopSpec) :=
  OpenClaim.holds_of_wide 3 Try.f3 rfl rfl rfl rfl rfl rfl rfl ⟨rfl, rfl, rfl, rfl, rfl⟩ rfl rfl rfl rfl rfl (by kernel_rfl) Try.func3 (by kernel_rfl)
    (of_decide_eq_true (by kernel_rfl)) (by unfold Func.isWrapper; first | (rw [if_pos (by decide +kernel)]; kernel_rfl) | (rw [if_neg (by decide +kernel)]; exact ⟨rfl, rfl⟩))
    (fun os started H enc _ => lifted os started H enc)
end Go.Proofs.Ytipgjgcpfppeeaa.fnExactReportTop
namespace Go.Proofs.Ytipgjgcpfppeeaa
/-- The row. -/
theorem fnExactReportTop_holds : Rows.FnExactReportTopSaid := fnExactReportTop.over
#print axioms fnExactReportTop_holds
end Go.Proofs.Ytipgjgcpfppeeaa
