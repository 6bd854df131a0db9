/- The law FnServerSafe: for every input the call returns true, and each argument reads afterwards as before. No condition. -/
import Derived.Test.YtjknhphmhfbghaaGreatFM40
import Derived.Test.YtjknhphmhfbghaaGreatRows
namespace Go.Proofs.YtjknhphmhfbghaaGreat.fnServerSafe
open Go.Rv
set_option linter.unusedVariables false
theorem own:ownKnob Tryz.prog.godebug=none:=by kernel_rfl
theorem laidOut:laidOutB Tryz.prog=true:=by kernel_rfl
set_option maxHeartbeats 2000000 in
set_option maxRecDepth 100000 in
theorem lifted(os:Os)(started:os.Started)(H:Type)(enc:TypeId×Value→H):
  ReturnsInHanded {} Tryz.checked os 6 .any (Rows.fnServerSafeSpec.pre6 enc Tryz.prog Tryz.f6 Rows.fnServerSafeRow.domain false) (Rows.fnServerSafeSpec.post enc Tryz.prog Tryz.f6 false true false false):=
 adG (Dr:=KN) (C:=Tryz.checked) (S:=Qm) own started (by kernel_rfl) Tryz.func6 laidOut rfl ⟨4,by kernel_rfl,Tryz.underlying4⟩
  (fun ds h=>by
   have h':ds.length=1:=h
   match ds,h' with
   | [d0],_=>rfl)
  rfl [.v false [.sl [CT.int .u8]]] (by kernel_rfl) (fun W b=>b<W.heap.size∧b∉([]:List Nat)) (fun W b hb=>hb.1) id (fun W x vs h=>aee _ W x vs h) rfl (fun _ _=>trivial) Zg (fun x hx=>⟨(true,()),aaO x hx,fun us bs w J h=>ac4 h⟩)
  (ChangeSpec.witness6 (enc:=enc) (C:=Tryz.checked) false ⟨#[], #[.slice none 0 0],[]⟩ 8 (by kernel_rfl) (by kernel_rfl) (by kernel_rfl) (by kernel_rfl))
theorem over:Rows.fnServerSafeRow.holds Tryz.pinned (OpenSpec.ofChange Rows.fnServerSafeSpec):=
 OpenClaim.holds_of_wide 6 Tryz.f6 rfl rfl rfl rfl rfl rfl rfl ⟨rfl,rfl,rfl,rfl,rfl⟩ rfl rfl rfl rfl rfl (by kernel_rfl) Tryz.func6 (by kernel_rfl)
  (of_decide_eq_true (by kernel_rfl)) (by unfold Func.isWrapper;first | (rw[if_pos (by decide+kernel)];kernel_rfl) | (rw[if_neg (by decide+kernel)];exact⟨rfl,rfl⟩))
  (fun os started H enc _=>lifted os started H enc)
end Go.Proofs.YtjknhphmhfbghaaGreat.fnServerSafe
namespace Go.Proofs.YtjknhphmhfbghaaGreat
theorem fnServerSafe_holds:Rows.FnServerSafeSaid:=fnServerSafe.over
#print axioms fnServerSafe_holds
end Go.Proofs.YtjknhphmhfbghaaGreat
