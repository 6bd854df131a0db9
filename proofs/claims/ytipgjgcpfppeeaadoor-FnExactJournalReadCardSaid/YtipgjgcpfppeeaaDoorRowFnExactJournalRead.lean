/- The law FnExactJournalRead: for every input the call returns true, and each argument reads afterwards as before; the tables that it reads are tied to the program's text. No condition. -/
import Derived.Test.YtipgjgcpfppeeaaDoorM17
import Derived.Test.YtipgjgcpfppeeaaDoorRows
import Derived.Test.YtipgjgcpfppeeaaDoorCards
import Derived.Test.YtipgjgcpfppeeaaDoorTie
import Derived.LaidMore
import Derived.Lay
import Derived.Stop.Joined
import Derived.SevenTiedAt
namespace Go.Proofs.YtipgjgcpfppeeaaDoor.fnExactJournalRead
open Go.Rv
set_option linter.unusedVariables false
theorem own : ownKnob Tryd.prog.godebug = none := by kernel_rfl
theorem laidOut : laidOutB Tryd.prog = true := by kernel_rfl
theorem door_met (os : Os) (args : Array Value) : laidMetH Tryd.prog Rows.fnExactJournalReadRow.laid ((World.laidAll Tryd.prog os Rows.fnExactJournalReadRow.laid).forCall (fun _ _ => 0) ⟨#[], args, []⟩).memory :=
 laidMetH_iff.2 ⟨by rw [show (Rows.fnExactJournalReadRow.laid.filter fun x => x.2.handleName?.isNone) = Rows.fnExactJournalReadRow.laid by kernel_rfl]; exact laidMet_laidAll args (by kernel_rfl) (by kernel_rfl), by rw [show (Rows.fnExactJournalReadRow.laid.filter fun x => x.2.handleName?.isSome) = [] by kernel_rfl]; exact fun x hx => by cases hx⟩
theorem tab_of (W : World) (h : laidMetH Tryd.prog Rows.fnExactJournalReadRow.laid W) (hs : W.ShapedOpen Tryd.prog) : KN.tab (fun b => b < W.heap.size ∧ b ∉ ([] : List Nat)) W := by
 have h1 : laidMetH Tryd.prog [("internal/strconv.uint64pow10", Lib.tabData .u64 Lib.pow10Tab)] W := h.filter fun x => x.1 == "internal/strconv.uint64pow10"
 have h2 : laidMetH Tryd.prog [("strconv.ErrSyntax", Rows.laid_strconv_ErrSyntax)] W := h.filter fun x => x.1 == "strconv.ErrSyntax"
 have h3 : laidMetH Tryd.prog [("strconv.ErrRange", Rows.laid_strconv_ErrRange)] W := h.filter fun x => x.1 == "strconv.ErrRange"
 have k1 := ten_of (laidMetH_iff.1 h1).1
 obtain ⟨e2, i2, k2⟩ := sent_of (g := esB) (t := 86) (by kernel_rfl) (by kernel_rfl) Tryd.underlying86 (laidMetH_iff.1 h2).1
 obtain ⟨e3, i3, k3⟩ := sent_of (g := erB) (t := 86) (by kernel_rfl) (by kernel_rfl) Tryd.underlying86 (laidMetH_iff.1 h3).1
 obtain ⟨m, k4⟩ := int_of (g := mlB) (t := 3) hs (of_decide_eq_true (by kernel_rfl)) (by kernel_rfl) (by kernel_rfl) (by kernel_rfl) (by kernel_rfl)
 exact ⟨⟨⟨k1.lt, by simp⟩, ⟨k4.lt, by simp⟩, ⟨k2.lt, by simp⟩, ⟨k3.lt, by simp⟩⟩, k1, ⟨m, k4⟩, ⟨e2, i2, k2⟩, e3, i3, k3⟩
set_option maxHeartbeats 2000000 in
set_option maxRecDepth 100000 in
theorem lifted (os : Os) (started : os.Started) (H : Type) (enc : TypeId × Value → H) :
  ReturnsInHanded {} Tryd.checked os 6 .any (fun w args => (Rows.fnExactJournalReadSpec.pre enc Tryd.prog Tryd.f6 Rows.fnExactJournalReadRow.domain false w args ∧ laidMetH Tryd.prog Rows.fnExactJournalReadRow.laid w) ∧ sizedMet enc Tryd.prog Tryd.f6 (OpenSpec.ofChange Rows.fnExactJournalReadSpec) false w args) (Rows.fnExactJournalReadSpec.post enc Tryd.prog Tryd.f6 false true false false) :=
 row_of3 (Dr := KN) (C := Tryd.checked) (X := fun w => laidMetH Tryd.prog Rows.fnExactJournalReadRow.laid w) (S := ⟨ins_laws_FnExactJournalRead, outs_laws_FnExactJournalRead, F_laws_FnExactJournalRead, []⟩) (fun _ _ hh h => h.of_heap hh) own started (by kernel_rfl) Tryd.func6 laidOut rfl ⟨4, by kernel_rfl, Tryd.underlying4⟩
  (fun ds h => by
   have h' : ds.length = 1 := h
   match ds, h' with
   | [d0], _ => rfl)
  rfl ins_laws_FnExactJournalRead (by kernel_rfl) (fun W b => b < W.heap.size ∧ b ∉ ([] : List Nat)) (fun W _ b hb => hb.1) id (fun W x vs h => argsP_J _ _ _ _ rfl h) rfl tab_of ok_laws_FnExactJournalRead (fun x hx => ⟨(true, ()), pureJournalRead x hx, fun us bs w J h => own_true h⟩)
  (ChangeSpec.witness_shaped (enc := enc) (C := Tryd.checked) (os := os) (X := fun w _ => laidMetH Tryd.prog Rows.fnExactJournalReadRow.laid w) false (World.laidAll Tryd.prog os Rows.fnExactJournalReadRow.laid) #[.string ⟨#[]⟩] 8 (World.laidAll_os _ _ _) (World.shaped_of_ZipB (by kernel_rfl) (by kernel_rfl)) (by kernel_rfl) (by kernel_rfl) (by kernel_rfl) (door_met os _))
theorem over : Rows.fnExactJournalReadRow.holds Tryd.pinned (OpenSpec.ofChange Rows.fnExactJournalReadSpec) :=
 OpenClaim.holds_of_wide 6 Tryd.f6 rfl rfl rfl rfl rfl rfl rfl ⟨rfl, rfl, rfl, rfl, rfl⟩ rfl rfl rfl rfl rfl (by kernel_rfl) Tryd.func6 (by kernel_rfl)
  (of_decide_eq_true (by kernel_rfl)) (by unfold Func.isWrapper; first | (rw [if_pos (by decide +kernel)]; kernel_rfl) | (rw [if_neg (by decide +kernel)]; exact ⟨rfl, rfl⟩))
  (fun os started H enc _ => lifted os started H enc)
end Go.Proofs.YtipgjgcpfppeeaaDoor.fnExactJournalRead
namespace Go.Proofs.YtipgjgcpfppeeaaDoor
/-- The tied card. -/
theorem fnExactJournalRead_holds : Rows.FnExactJournalReadCardSaid :=
 Claim7.holds_tied_plain_at .later [] [.data, .data, .data, .data, .sentinel, .sentinel, .pinned] true (true, "f4f87aca6647d9292c3873010a5e5aece1e5d143ab66fa14c4ce502f090f9750") true
  fnExactJournalRead.over (fun _ h => by cases h) (by kernel_rfl) (fun _ h => by cases h) fnExactJournalRead_row_tie rfl ⟨rfl, rfl⟩ (by kernel_rfl) rfl
  (fun f fn hf hfn => by
   obtain rfl : f = 6 := Option.some.inj ((show Tryd.prog.funcNamed "loop.example/g00095/laws.FnExactJournalRead" = some 6 by kernel_rfl).symm.trans hf) |>.symm
   obtain rfl : fn = Tryd.f6 := (Option.some.inj (Tryd.func6.symm.trans hfn)).symm
   exact ⟨by kernel_rfl, fun j t ht => by
    have hm : t ∈ Tryd.f6.params.toList := Array.mem_toList_iff.2 (Array.mem_of_getElem? ht)
    have hall : (Tryd.f6.params.toList.all fun u => !Tryd.prog.wantsStandIn u) = true := by kernel_rfl
    exact (show Tryd.prog.wantsStandIn t = false by simpa using List.all_eq_true.1 hall t hm)⟩)
  (by kernel_rfl)
#print axioms fnExactJournalRead_holds
end Go.Proofs.YtipgjgcpfppeeaaDoor
