/- The law FnGrants: for every input the call returns true, and each argument reads afterwards as before. No condition. -/
import Derived.Test.YtjknhphmhfbghaaGreatGM39
import Derived.Test.YtjknhphmhfbghaaGreatRows
namespace Go.Proofs.YtjknhphmhfbghaaGreat.fnGrants
open Go.Rv
set_option linter.unusedVariables false
theorem own:ownKnob Tryz.prog.godebug=none:=by kernel_rfl
theorem laidOut:laidOutB Tryz.prog=true:=by kernel_rfl
set_option maxHeartbeats 2000000 in
set_option maxRecDepth 100000 in
theorem lifted(os:Os)(started:os.Started)(H:Type)(enc:TypeId×Value→H):
  ReturnsInHanded {} Tryz.checked os 4 .any (Rows.fnGrantsSpec.pre6 enc Tryz.prog Tryz.f4 Rows.fnGrantsRow.domain false) (Rows.fnGrantsSpec.post enc Tryz.prog Tryz.f4 false true false false):=
 adl (Dr:=KN) (C:=Tryz.checked) (S:=Rf) own started (by kernel_rfl) Tryz.func4 laidOut rfl ⟨4,by kernel_rfl,Tryz.underlying4⟩
  (fun ds h=>by
   have h':ds.length=1:=h
   match ds,h' with
   | [d0],_=>rfl)
  rfl [.v false [.sl [CT.int .u8]]] (by kernel_rfl) (fun W b=>b<W.heap.size∧b∉([]:List Nat)) (fun W b hb=>hb.1) id (fun W x vs h=>adP _ W x vs h) rfl (fun _ _=>trivial) aad (fun x hx=>⟨(true,()),abI x hx,fun us bs w J h=>acN h⟩)
  (ChangeSpec.witness6 (enc:=enc) (C:=Tryz.checked) false ⟨#[], #[.slice none 0 0],[]⟩ 8 (by kernel_rfl) (by kernel_rfl) (by kernel_rfl) (by kernel_rfl))
theorem over:Rows.fnGrantsRow.holds Tryz.pinned (OpenSpec.ofChange Rows.fnGrantsSpec):=
 OpenClaim.holds_of_wide 4 Tryz.f4 rfl rfl rfl rfl rfl rfl rfl ⟨rfl,rfl,rfl,rfl,rfl⟩ rfl rfl rfl rfl rfl (by kernel_rfl) Tryz.func4 (by kernel_rfl)
  (of_decide_eq_true (by kernel_rfl)) (by unfold Func.isWrapper;first | (rw[if_pos (by decide+kernel)];kernel_rfl) | (rw[if_neg (by decide+kernel)];exact⟨rfl,rfl⟩))
  (fun os started H enc _=>lifted os started H enc)
end Go.Proofs.YtjknhphmhfbghaaGreat.fnGrants
namespace Go.Proofs.YtjknhphmhfbghaaGreat
theorem fnGrants_holds:Rows.FnGrantsSaid:=fnGrants.over
#print axioms fnGrants_holds
end Go.Proofs.YtjknhphmhfbghaaGreat
