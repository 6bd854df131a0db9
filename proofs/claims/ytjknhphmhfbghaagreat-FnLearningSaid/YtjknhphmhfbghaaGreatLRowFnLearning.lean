/- The law FnLearning: for every input the call returns true, and each argument reads afterwards as before. No condition. -/
import Derived.Test.YtjknhphmhfbghaaGreatLM39
import Derived.Test.YtjknhphmhfbghaaGreatRows
namespace Go.Proofs.YtjknhphmhfbghaaGreat.fnLearning
open Go.Rv
set_option linter.unusedVariables false
theorem own:ownKnob Tryz.prog.godebug=none:=by kernel_rfl
theorem laidOut:laidOutB Tryz.prog=true:=by kernel_rfl
set_option maxHeartbeats 2000000 in
set_option maxRecDepth 100000 in
theorem lifted(os:Os)(started:os.Started)(H:Type)(enc:TypeId×Value→H):
  ReturnsInHanded {} Tryz.checked os 3 .any (Rows.fnLearningSpec.pre6 enc Tryz.prog Tryz.f3 Rows.fnLearningRow.domain false) (Rows.fnLearningSpec.post enc Tryz.prog Tryz.f3 false true false false):=
 acZ (Dr:=KN) (C:=Tryz.checked) (S:=Qd) own started (by kernel_rfl) Tryz.func3 laidOut rfl ⟨4,by kernel_rfl,Tryz.underlying4⟩
  (fun ds h=>by
   have h':ds.length=2:=h
   match ds,h' with
   | [d0,d1],_=>rfl)
  rfl [.v false [.sl [CT.int .u8]],.v false [.sl [CT.int .u8]]] (by kernel_rfl) (fun W b=>b<W.heap.size∧b∉([]:List Nat)) (fun W b hb=>hb.1) id (fun W x vs h=>acL _ _ W x vs h) rfl (fun _ _=>trivial) YU (fun x hx=>⟨(true,()),aaS x hx,fun us bs w J h=>acp h⟩)
  (ChangeSpec.witness6 (enc:=enc) (C:=Tryz.checked) false ⟨#[], #[.slice none 0 0,.slice none 0 0],[]⟩ 8 (by kernel_rfl) (by kernel_rfl) (by kernel_rfl) (by kernel_rfl))
theorem over:Rows.fnLearningRow.holds Tryz.pinned (OpenSpec.ofChange Rows.fnLearningSpec):=
 OpenClaim.holds_of_wide 3 Tryz.f3 rfl rfl rfl rfl rfl rfl rfl ⟨rfl,rfl,rfl,rfl,rfl⟩ rfl rfl rfl rfl rfl (by kernel_rfl) Tryz.func3 (by kernel_rfl)
  (of_decide_eq_true (by kernel_rfl)) (by unfold Func.isWrapper;first | (rw[if_pos (by decide+kernel)];kernel_rfl) | (rw[if_neg (by decide+kernel)];exact⟨rfl,rfl⟩))
  (fun os started H enc _=>lifted os started H enc)
end Go.Proofs.YtjknhphmhfbghaaGreat.fnLearning
namespace Go.Proofs.YtjknhphmhfbghaaGreat
theorem fnLearning_holds:Rows.FnLearningSaid:=fnLearning.over
#print axioms fnLearning_holds
end Go.Proofs.YtjknhphmhfbghaaGreat
