/- The law FnExactServerDo: for every input the call returns true, and each argument reads afterwards as before. No condition. -/
import Derived.Test.YtmgahpicfjpjaaaGreatSM37
import Derived.Test.YtmgahpicfjpjaaaGreatRows
namespace Go.Proofs.YtmgahpicfjpjaaaGreat.fnExactServerDo
open Go.Rv
set_option linter.unusedVariables false
theorem own:ownKnob Tryz.prog.godebug=none:=by kernel_rfl
theorem laidOut:laidOutB Tryz.prog=true:=by kernel_rfl
set_option maxHeartbeats 2000000 in
set_option maxRecDepth 100000 in
theorem lifted(os:Os)(started:os.Started)(H:Type)(enc:TypeId×Value→H):
  ReturnsInHanded {} Tryz.checked os 3 .any (Rows.fnExactServerDoSpec.pre6 enc Tryz.prog Tryz.f3 Rows.fnExactServerDoRow.domain false) (Rows.fnExactServerDoSpec.post enc Tryz.prog Tryz.f3 false true false false):=
 row_of (Dr:=KN) (C:=Tryz.checked) (S:=⟨Ce,Qm,yZ,[]⟩) own started (by kernel_rfl) Tryz.func3 laidOut rfl ⟨4,by kernel_rfl,Tryz.underlying4⟩
  (fun ds h=>by
   have h':ds.length=2:=h
   match ds,h' with
   | [d0,d1],_=>rfl)
  rfl (by kernel_rfl) rfl (fun _ _=>trivial) Zb (fun x hx=>⟨(true,()),acz x hx,fun us bs w J h=>aeg h⟩)
  (ChangeSpec.witness6 (enc:=enc) (C:=Tryz.checked) false ⟨#[], #[.agg #[.int .i64 0,.int .i64 0,.int .i64 0,.int .i64 0,.slice none 0 0,.slice none 0 0,.slice none 0 0],.agg #[.int .i64 0,.int .i64 0,.int .i64 0,.int .i64 0,.int .i64 0]],[]⟩ 8 (by kernel_rfl) (by kernel_rfl) (by kernel_rfl) (by kernel_rfl))
theorem over:Rows.fnExactServerDoRow.holds Tryz.pinned (OpenSpec.ofChange Rows.fnExactServerDoSpec):=
 OpenClaim.holds_of_wide 3 Tryz.f3 rfl rfl rfl rfl rfl rfl rfl ⟨rfl,rfl,rfl,rfl,rfl⟩ rfl rfl rfl rfl rfl (by kernel_rfl) Tryz.func3 (by kernel_rfl)
  (of_decide_eq_true (by kernel_rfl)) (by unfold Func.isWrapper;first | (rw[if_pos (by decide+kernel)];kernel_rfl) | (rw[if_neg (by decide+kernel)];exact⟨rfl,rfl⟩))
  (fun os started H enc _=>lifted os started H enc)
end Go.Proofs.YtmgahpicfjpjaaaGreat.fnExactServerDo
namespace Go.Proofs.YtmgahpicfjpjaaaGreat
theorem fnExactServerDo_holds:Rows.FnExactServerDoSaid:=fnExactServerDo.over
#print axioms fnExactServerDo_holds
end Go.Proofs.YtmgahpicfjpjaaaGreat
