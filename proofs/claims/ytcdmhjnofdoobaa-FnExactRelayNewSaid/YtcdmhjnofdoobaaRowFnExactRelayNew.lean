/- The law FnExactRelayNew: for every input the call returns true, and each argument reads afterwards as before. No condition. -/
import Derived.Test.YtcdmhjnofdoobaaRows
import Derived.Test.YtcdmhjnofdoobaaQFnExactRelayNew
namespace Go.Proofs.Ytcdmhjnofdoobaa.fnExactRelayNew
open Go.Rv
set_option linter.unusedVariables false
theorem own : ownKnob Try.prog.godebug = none := by kernel_rfl
theorem laidOut : laidOutB Try.prog = true := by kernel_rfl
set_option maxHeartbeats 2000000 in
set_option maxRecDepth 100000 in
theorem lifted (os : Os) (started : os.Started) (H : Type) (enc : TypeId × Value → H) :
    ReturnsInHanded {} Try.checked os 5 .any (Rows.fnExactRelayNewSpec.pre6 enc Try.prog Try.f5 Rows.fnExactRelayNewRow.domain false) (Rows.fnExactRelayNewSpec.post enc Try.prog Try.f5 false true false false) :=
  row_of (C := Try.checked) (S := ⟨ins_laws_FnExactRelayNew, outs_laws_FnExactRelayNew, F_laws_FnExactRelayNew⟩) own started (by kernel_rfl) Try.func5 laidOut rfl ⟨4, by kernel_rfl, Try.underlying4⟩
    (fun ds h => by
      have h' : ds.length = 3 := h
      match ds, h' with
      | [d0, d1, d2], _ => rfl)
    (by kernel_rfl) rfl ok_laws_FnExactRelayNew (fun x hx => ⟨(true, ()), pureRelayNew x hx, fun us bs w J h => own_true h⟩)
    (ChangeSpec.witness6 (enc := enc) (C := Try.checked) false ⟨#[], #[.int .i64 0, .int .i64 0, .int .i64 0], []⟩ 8 (by kernel_rfl) (by kernel_rfl) (by kernel_rfl) (by kernel_rfl))
theorem over : Rows.fnExactRelayNewRow.holds Try.pinned (OpenSpec.ofChange Rows.fnExactRelayNewSpec) :=
  OpenClaim.holds_of_wide 5 Try.f5 rfl rfl rfl rfl rfl rfl rfl ⟨rfl, rfl, rfl, rfl, rfl⟩ rfl rfl rfl rfl rfl (by kernel_rfl) Try.func5 (by kernel_rfl)
    (of_decide_eq_true (by kernel_rfl)) (by unfold Func.isWrapper; first | (rw [if_pos (by decide +kernel)]; kernel_rfl) | (rw [if_neg (by decide +kernel)]; exact ⟨rfl, rfl⟩))
    (fun os started H enc _ => lifted os started H enc)
end Go.Proofs.Ytcdmhjnofdoobaa.fnExactRelayNew
namespace Go.Proofs.Ytcdmhjnofdoobaa
/-- The row. -/
theorem fnExactRelayNew_holds : Rows.FnExactRelayNewSaid := fnExactRelayNew.over
#print axioms fnExactRelayNew_holds
end Go.Proofs.Ytcdmhjnofdoobaa
