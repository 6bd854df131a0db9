/- The law FnExactRelayRight: for every input the call returns true, and each argument reads afterwards as before. No condition. -/
import Derived.Test.YtcdmhjnofdoobaaRows
import Derived.Test.YtcdmhjnofdoobaaQFnExactRelayRight
namespace Go.Proofs.Ytcdmhjnofdoobaa.fnExactRelayRight
open Go.Rv
set_option linter.unusedVariables false
theorem own : ownKnob Try.prog.godebug = none := by kernel_rfl
theorem laidOut : laidOutB Try.prog = true := by kernel_rfl
set_option maxHeartbeats 2000000 in
set_option maxRecDepth 100000 in
theorem lifted (os : Os) (started : os.Started) (H : Type) (enc : TypeId × Value → H) :
    ReturnsInHanded {} Try.checked os 4 .any (Rows.fnExactRelayRightSpec.pre6 enc Try.prog Try.f4 Rows.fnExactRelayRightRow.domain false) (Rows.fnExactRelayRightSpec.post enc Try.prog Try.f4 false true false false) :=
  row_of (C := Try.checked) (S := ⟨ins_laws_FnExactRelayRight, outs_laws_FnExactRelayRight, F_laws_FnExactRelayRight⟩) own started (by kernel_rfl) Try.func4 laidOut rfl ⟨4, by kernel_rfl, Try.underlying4⟩
    (fun ds h => by
      have h' : ds.length = 1 := h
      match ds, h' with
      | [d0], _ => rfl)
    (by kernel_rfl) rfl ok_laws_FnExactRelayRight (fun x hx => ⟨(true, ()), pureRelayRight x hx, fun us bs w J h => own_true h⟩)
    (ChangeSpec.witness6 (enc := enc) (C := Try.checked) false ⟨#[], #[.agg #[.int .i64 0, .int .i64 0, .int .i64 0, .int .i64 0, .slice none 0 0, .slice none 0 0, .slice none 0 0, .int .i64 0, .int .i64 0, .int .i64 0, .int .i64 0, .int .i64 0, .int .i64 0, .int .i64 0, .int .i64 0, .int .i64 0, .int .i64 0]], []⟩ 8 (by kernel_rfl) (by kernel_rfl) (by kernel_rfl) (by kernel_rfl))
theorem over : Rows.fnExactRelayRightRow.holds Try.pinned (OpenSpec.ofChange Rows.fnExactRelayRightSpec) :=
  OpenClaim.holds_of_wide 4 Try.f4 rfl rfl rfl rfl rfl rfl rfl ⟨rfl, rfl, rfl, rfl, rfl⟩ rfl rfl rfl rfl rfl (by kernel_rfl) Try.func4 (by kernel_rfl)
    (of_decide_eq_true (by kernel_rfl)) (by unfold Func.isWrapper; first | (rw [if_pos (by decide +kernel)]; kernel_rfl) | (rw [if_neg (by decide +kernel)]; exact ⟨rfl, rfl⟩))
    (fun os started H enc _ => lifted os started H enc)
end Go.Proofs.Ytcdmhjnofdoobaa.fnExactRelayRight
namespace Go.Proofs.Ytcdmhjnofdoobaa
/-- The row. -/
theorem fnExactRelayRight_holds : Rows.FnExactRelayRightSaid := fnExactRelayRight.over
#print axioms fnExactRelayRight_holds
end Go.Proofs.Ytcdmhjnofdoobaa
