/- The law FnExactRelayWant: for every input the call returns true, and each argument reads afterwards as before. No condition. -/
import Derived.Test.YtcdmhjnofdoobaaRows
import Derived.Test.YtcdmhjnofdoobaaQFnExactRelayWant
namespace Go.Proofs.Ytcdmhjnofdoobaa.fnExactRelayWant
open Go.Rv
set_option linter.unusedVariables false
theorem own : ownKnob Try.prog.godebug = none := by kernel_rfl
theorem laidOut : laidOutB Try.prog = true := by kernel_rfl
set_option maxHeartbeats 2000000 in
set_option maxRecDepth 100000 in
theorem lifted (os : Os) (started : os.Started) (H : Type) (enc : TypeId × Value → H) :
    ReturnsInHanded {} Try.checked os 6 .any (Rows.fnExactRelayWantSpec.pre6 enc Try.prog Try.f6 Rows.fnExactRelayWantRow.domain false) (Rows.fnExactRelayWantSpec.post enc Try.prog Try.f6 false true false false) :=
  row_of (C := Try.checked) (S := ⟨ins_laws_FnExactRelayWant, outs_laws_FnExactRelayWant, F_laws_FnExactRelayWant⟩) own started (by kernel_rfl) Try.func6 laidOut rfl ⟨4, by kernel_rfl, Try.underlying4⟩
    (fun ds h => by
      have h' : ds.length = 1 := h
      match ds, h' with
      | [d0], _ => rfl)
    (by kernel_rfl) rfl ok_laws_FnExactRelayWant (fun x hx => ⟨(true, ()), pureRelayWant x hx, fun us bs w J h => own_true h⟩)
    (ChangeSpec.witness6 (enc := enc) (C := Try.checked) false ⟨#[], #[.agg #[.int .i64 0, .int .i64 0, .int .i64 0, .int .i64 0, .slice none 0 0, .slice none 0 0, .slice none 0 0, .int .i64 0, .int .i64 0, .int .i64 0, .int .i64 0, .int .i64 0, .int .i64 0, .int .i64 0, .int .i64 0, .int .i64 0, .int .i64 0]], []⟩ 8 (by kernel_rfl) (by kernel_rfl) (by kernel_rfl) (by kernel_rfl))
theorem over : Rows.fnExactRelayWantRow.holds Try.pinned (OpenSpec.ofChange Rows.fnExactRelayWantSpec) :=
  OpenClaim.holds_of_wide 6 Try.f6 rfl rfl rfl rfl rfl rfl rfl ⟨rfl, rfl, rfl, rfl, rfl⟩ rfl rfl rfl rfl rfl (by kernel_rfl) Try.func6 (by kernel_rfl)
    (of_decide_eq_true (by kernel_rfl)) (by unfold Func.isWrapper; first | (rw [if_pos (by decide +kernel)]; kernel_rfl) | (rw [if_neg (by decide +kernel)]; exact ⟨rfl, rfl⟩))
    (fun os started H enc _ => lifted os started H enc)
end Go.Proofs.Ytcdmhjnofdoobaa.fnExactRelayWant
namespace Go.Proofs.Ytcdmhjnofdoobaa
/-- The row. -/
theorem fnExactRelayWant_holds : Rows.FnExactRelayWantSaid := fnExactRelayWant.over
#print axioms fnExactRelayWant_holds
end Go.Proofs.Ytcdmhjnofdoobaa
