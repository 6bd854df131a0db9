/- The law FnFarmSums: for every input the call returns true, and each argument reads afterwards as before. No condition. -/
import Derived.Test.YtnebddbibpbloaaM21
import Derived.Test.YtnebddbibpbloaaRows
namespace Go.Proofs.Ytnebddbibpbloaa.fnFarmSums
open Go.Rv
set_option linter.unusedVariables false
theorem own : ownKnob Try.prog.godebug = none := by kernel_rfl
theorem laidOut : laidOutB Try.prog = true := by kernel_rfl
set_option maxHeartbeats 2000000 in
set_option maxRecDepth 100000 in
theorem lifted (os : Os) (started : os.Started) (H : Type) (enc : TypeId × Value → H) :
    ReturnsInHanded {} Try.checked os 3 .any (Rows.fnFarmSumsSpec.pre6 enc Try.prog Try.f3 Rows.fnFarmSumsRow.domain false) (Rows.fnFarmSumsSpec.post enc Try.prog Try.f3 false true false false) :=
  row_of2 (Dr := KN) (C := Try.checked) (S := ⟨ins_laws_FnFarmSums, outs_laws_FnFarmSums, F_laws_FnFarmSums, []⟩) own started (by kernel_rfl) Try.func3 laidOut rfl ⟨4, by kernel_rfl, Try.underlying4⟩
    (fun ds h => by
      have h' : ds.length = 1 := h
      match ds, h' with
      | [d0], _ => rfl)
    rfl [.v false [.sl [CT.int .u8]]] (by kernel_rfl) (fun W b => b < W.heap.size ∧ b ∉ ([] : List Nat)) (fun W b hb => hb.1) id (fun W x vs h => conv_sh _ W x vs h) rfl (fun _ _ => trivial) ok_laws_FnFarmSums (fun x hx => ⟨(true, ()), pureFarmSums x hx, fun us bs w J h => own_true h⟩)
    (ChangeSpec.witness6 (enc := enc) (C := Try.checked) false ⟨#[], #[.slice none 0 0], []⟩ 8 (by kernel_rfl) (by kernel_rfl) (by kernel_rfl) (by kernel_rfl))
theorem over : Rows.fnFarmSumsRow.holds Try.pinned (OpenSpec.ofChange Rows.fnFarmSumsSpec) :=
  OpenClaim.holds_of_wide 3 Try.f3 rfl rfl rfl rfl rfl rfl rfl ⟨rfl, rfl, rfl, rfl, rfl⟩ rfl rfl rfl rfl rfl (by kernel_rfl) Try.func3 (by kernel_rfl)
    (of_decide_eq_true (by kernel_rfl)) (by unfold Func.isWrapper; first | (rw [if_pos (by decide +kernel)]; kernel_rfl) | (rw [if_neg (by decide +kernel)]; exact ⟨rfl, rfl⟩))
    (fun os started H enc _ => lifted os started H enc)
end Go.Proofs.Ytnebddbibpbloaa.fnFarmSums
namespace Go.Proofs.Ytnebddbibpbloaa
/-- The row. -/
theorem fnFarmSums_holds : Rows.FnFarmSumsSaid := fnFarmSums.over
#print axioms fnFarmSums_holds
end Go.Proofs.Ytnebddbibpbloaa
