/- The law FnExactServerEnd: for every input the call returns true, and each argument reads afterwards as before. No condition. -/
import Derived.Test.YtmgahpicfjpjaaaGreatEM38
import Derived.Test.YtmgahpicfjpjaaaGreatRows
namespace Go.Proofs.YtmgahpicfjpjaaaGreat.fnExactServerEnd
open Go.Rv
set_option linter.unusedVariables false
theorem own:ownKnob Tryz.prog.godebug=none:=by kernel_rfl
theorem laidOut:laidOutB Tryz.prog=true:=by kernel_rfl
set_option maxHeartbeats 2000000 in
set_option maxRecDepth 100000 in
theorem lifted(os:Os)(started:os.Started)(H:Type)(enc:TypeId×Value→H):
  ReturnsInHanded {} Tryz.checked os 5 .any (Rows.fnExactServerEndSpec.pre6 enc Tryz.prog Tryz.f5 Rows.fnExactServerEndRow.domain false) (Rows.fnExactServerEndSpec.post enc Tryz.prog Tryz.f5 false true false false):=
 row_of (Dr:=KN) (C:=Tryz.checked) (S:=Ri) own started (by kernel_rfl) Tryz.func5 laidOut rfl ⟨4,by kernel_rfl,Tryz.underlying4⟩
  (fun ds h=>by
   have h':ds.length=2:=h
   match ds,h' with
   | [d0,d1],_=>rfl)
  rfl (by kernel_rfl) rfl (fun _ _=>trivial) Z4 (fun x hx=>⟨(true,()),ac1 x hx,fun us bs w J h=>ae6 h⟩)
  (ChangeSpec.witness6 (enc:=enc) (C:=Tryz.checked) false ⟨#[], #[.agg #[.int .i64 0,.int .i64 0,.int .i64 0,.int .i64 0,.slice none 0 0,.slice none 0 0,.slice none 0 0],.slice none 0 0],[]⟩ 8 (by kernel_rfl) (by kernel_rfl) (by kernel_rfl) (by kernel_rfl))
theorem over:Rows.fnExactServerEndRow.holds Tryz.pinned (OpenSpec.ofChange Rows.fnExactServerEndSpec):=
 OpenClaim.holds_of_wide 5 Tryz.f5 rfl rfl rfl rfl rfl rfl rfl ⟨rfl,rfl,rfl,rfl,rfl⟩ rfl rfl rfl rfl rfl (by kernel_rfl) Tryz.func5 (by kernel_rfl)
  (of_decide_eq_true (by kernel_rfl)) (by unfold Func.isWrapper;first | (rw[if_pos (by decide+kernel)];kernel_rfl) | (rw[if_neg (by decide+kernel)];exact⟨rfl,rfl⟩))
  (fun os started H enc _=>lifted os started H enc)
end Go.Proofs.YtmgahpicfjpjaaaGreat.fnExactServerEnd
namespace Go.Proofs.YtmgahpicfjpjaaaGreat
theorem fnExactServerEnd_holds:Rows.FnExactServerEndSaid:=fnExactServerEnd.over
#print axioms fnExactServerEnd_holds
end Go.Proofs.YtmgahpicfjpjaaaGreat
