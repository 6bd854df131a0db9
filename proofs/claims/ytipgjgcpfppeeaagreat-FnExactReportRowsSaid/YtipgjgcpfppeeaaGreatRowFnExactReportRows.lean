/- The law FnExactReportRows: for every input the call returns true, and each argument reads afterwards as before. No condition. -/
import Derived.Test.YtipgjgcpfppeeaaGreatM22
import Derived.Test.YtipgjgcpfppeeaaGreatRows
namespace Go.Proofs.YtipgjgcpfppeeaaGreat.fnExactReportRows
open Go.Rv
set_option linter.unusedVariables false
theorem own : ownKnob Tryz.prog.godebug = none := by kernel_rfl
theorem laidOut : laidOutB Tryz.prog = true := by kernel_rfl
set_option maxHeartbeats 2000000 in
set_option maxRecDepth 100000 in
theorem lifted (os : Os) (started : os.Started) (H : Type) (enc : TypeId × Value → H) :
    ReturnsInHanded {} Tryz.checked os 3 .any (Rows.fnExactReportRowsSpec.pre6 enc Tryz.prog Tryz.f3 Rows.fnExactReportRowsRow.domain false) (Rows.fnExactReportRowsSpec.post enc Tryz.prog Tryz.f3 false true false false) :=
  row_of (Dr := KN) (C := Tryz.checked) (S := ⟨ins_laws_FnExactReportRows, outs_laws_FnExactReportRows, F_laws_FnExactReportRows, []⟩) own started (by kernel_rfl) Tryz.func3 laidOut rfl ⟨4, by kernel_rfl, Tryz.underlying4⟩
    (fun ds h => by
      have h' : ds.length = 1 := h
      match ds, h' with
      | [d0], _ => rfl)
    rfl (by kernel_rfl) rfl (fun _ _ => trivial) ok_laws_FnExactReportRows (fun x hx => ⟨(true, ()), pureReportRows x hx, fun us bs w J h => own_true h⟩)
    (ChangeSpec.witness6 (enc := enc) (C := Tryz.checked) false ⟨#[], #[.agg #[.int .i64 0, .int .i64 0, .int .i64 0, .int .i64 0, .slice none 0 0, .slice none 0 0, .slice none 0 0]], []⟩ 8 (by kernel_rfl) (by kernel_rfl) (by kernel_rfl) (by kernel_rfl))
theorem over : Rows.fnExactReportRowsRow.holds Tryz.pinned (OpenSpec.ofChange Rows.fnExactReportRowsSpec) :=
  OpenClaim.holds_of_wide 3 Tryz.f3 rfl rfl rfl rfl rfl rfl rfl ⟨rfl, rfl, rfl, rfl, rfl⟩ rfl rfl rfl rfl rfl (by kernel_rfl) Tryz.func3 (by kernel_rfl)
    (of_decide_eq_true (by kernel_rfl)) (by unfold Func.isWrapper; first | (rw [if_pos (by decide +kernel)]; kernel_rfl) | (rw [if_neg (by decide +kernel)]; exact ⟨rfl, rfl⟩))
    (fun os started H enc _ => lifted os started H enc)
end Go.Proofs.YtipgjgcpfppeeaaGreat.fnExactReportRows
namespace Go.Proofs.YtipgjgcpfppeeaaGreat
/-- The row. -/
theorem fnExactReportRows_holds : Rows.FnExactReportRowsSaid := fnExactReportRows.over
#print axioms fnExactReportRows_holds
end Go.Proofs.YtipgjgcpfppeeaaGreat
