/- The law FnExactServerRun: for every input the call returns true, and each argument reads afterwards as before. No condition. -/
import Derived.Test.YtmgahpicfjpjaaaGreatRM38
import Derived.Test.YtmgahpicfjpjaaaGreatRows
namespace Go.Proofs.YtmgahpicfjpjaaaGreat.fnExactServerRun
open Go.Rv
set_option linter.unusedVariables false
theorem own:ownKnob Tryz.prog.godebug=none:=by kernel_rfl
theorem laidOut:laidOutB Tryz.prog=true:=by kernel_rfl
set_option maxHeartbeats 2000000 in
set_option maxRecDepth 100000 in
theorem lifted(os:Os)(started:os.Started)(H:Type)(enc:TypeId×Value→H):
  ReturnsInHanded {} Tryz.checked os 4 .any (Rows.fnExactServerRunSpec.pre6 enc Tryz.prog Tryz.f4 Rows.fnExactServerRunRow.domain false) (Rows.fnExactServerRunSpec.post enc Tryz.prog Tryz.f4 false true false false):=
 row_of (Dr:=KN) (C:=Tryz.checked) (S:=Rh) own started (by kernel_rfl) Tryz.func4 laidOut rfl ⟨4,by kernel_rfl,Tryz.underlying4⟩
  (fun ds h=>by
   have h':ds.length=2:=h
   match ds,h' with
   | [d0,d1],_=>rfl)
  rfl (by kernel_rfl) rfl (fun _ _=>trivial) ZV (fun x hx=>⟨(true,()),acU x hx,fun us bs w J h=>ae1 h⟩)
  (ChangeSpec.witness6 (enc:=enc) (C:=Tryz.checked) false ⟨#[], #[.agg #[.int .i64 0,.int .i64 0,.int .i64 0,.int .i64 0,.slice none 0 0,.slice none 0 0,.slice none 0 0],.slice none 0 0],[]⟩ 8 (by kernel_rfl) (by kernel_rfl) (by kernel_rfl) (by kernel_rfl))
theorem over:Rows.fnExactServerRunRow.holds Tryz.pinned (OpenSpec.ofChange Rows.fnExactServerRunSpec):=
 OpenClaim.holds_of_wide 4 Tryz.f4 rfl rfl rfl rfl rfl rfl rfl ⟨rfl,rfl,rfl,rfl,rfl⟩ rfl rfl rfl rfl rfl (by kernel_rfl) Tryz.func4 (by kernel_rfl)
  (of_decide_eq_true (by kernel_rfl)) (by unfold Func.isWrapper;first | (rw[if_pos (by decide+kernel)];kernel_rfl) | (rw[if_neg (by decide+kernel)];exact⟨rfl,rfl⟩))
  (fun os started H enc _=>lifted os started H enc)
end Go.Proofs.YtmgahpicfjpjaaaGreat.fnExactServerRun
namespace Go.Proofs.YtmgahpicfjpjaaaGreat
theorem fnExactServerRun_holds:Rows.FnExactServerRunSaid:=fnExactServerRun.over
#print axioms fnExactServerRun_holds
end Go.Proofs.YtmgahpicfjpjaaaGreat
