/- The law FnServerParts: for every input the call returns true, and each argument reads afterwards as before. No condition. -/
import Derived.Test.YtjknhphmhfbghaaGreatPM39
import Derived.Test.YtjknhphmhfbghaaGreatRows
namespace Go.Proofs.YtjknhphmhfbghaaGreat.fnServerParts
open Go.Rv
set_option linter.unusedVariables false
theorem own:ownKnob Tryz.prog.godebug=none:=by kernel_rfl
theorem laidOut:laidOutB Tryz.prog=true:=by kernel_rfl
set_option maxHeartbeats 2000000 in
set_option maxRecDepth 100000 in
theorem lifted(os:Os)(started:os.Started)(H:Type)(enc:TypeId×Value→H):
  ReturnsInHanded {} Tryz.checked os 5 .any (Rows.fnServerPartsSpec.pre6 enc Tryz.prog Tryz.f5 Rows.fnServerPartsRow.domain false) (Rows.fnServerPartsSpec.post enc Tryz.prog Tryz.f5 false true false false):=
 ad9 (Dr:=KN) (C:=Tryz.checked) (S:=QE) own started (by kernel_rfl) Tryz.func5 laidOut rfl ⟨4,by kernel_rfl,Tryz.underlying4⟩
  (fun ds h=>by
   have h':ds.length=1:=h
   match ds,h' with
   | [d0],_=>rfl)
  rfl [.v false [.sl [CT.int .u8]]] (by kernel_rfl) (fun W b=>b<W.heap.size∧b∉([]:List Nat)) (fun W b hb=>hb.1) id (fun W x vs h=>aeK _ W x vs h) rfl (fun _ _=>trivial) ZK (fun x hx=>⟨(true,()),aa7 x hx,fun us bs w J h=>adC h⟩)
  (ChangeSpec.witness6 (enc:=enc) (C:=Tryz.checked) false ⟨#[], #[.slice none 0 0],[]⟩ 8 (by kernel_rfl) (by kernel_rfl) (by kernel_rfl) (by kernel_rfl))
theorem over:Rows.fnServerPartsRow.holds Tryz.pinned (OpenSpec.ofChange Rows.fnServerPartsSpec):=
 OpenClaim.holds_of_wide 5 Tryz.f5 rfl rfl rfl rfl rfl rfl rfl ⟨rfl,rfl,rfl,rfl,rfl⟩ rfl rfl rfl rfl rfl (by kernel_rfl) Tryz.func5 (by kernel_rfl)
  (of_decide_eq_true (by kernel_rfl)) (by unfold Func.isWrapper;first | (rw[if_pos (by decide+kernel)];kernel_rfl) | (rw[if_neg (by decide+kernel)];exact⟨rfl,rfl⟩))
  (fun os started H enc _=>lifted os started H enc)
end Go.Proofs.YtjknhphmhfbghaaGreat.fnServerParts
namespace Go.Proofs.YtjknhphmhfbghaaGreat
theorem fnServerParts_holds:Rows.FnServerPartsSaid:=fnServerParts.over
#print axioms fnServerParts_holds
end Go.Proofs.YtjknhphmhfbghaaGreat
