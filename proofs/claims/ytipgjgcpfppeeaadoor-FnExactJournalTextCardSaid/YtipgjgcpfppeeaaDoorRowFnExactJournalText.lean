/- The law FnExactJournalText: for every input the call returns true, and each argument reads afterwards as before; the tables that it reads are tied to the program's text. No condition. -/
import Derived.Test.YtipgjgcpfppeeaaDoorM07
import Derived.Test.YtipgjgcpfppeeaaDoorRows
import Derived.Test.YtipgjgcpfppeeaaDoorCards
import Derived.Test.YtipgjgcpfppeeaaDoorTie
import Derived.LaidMore
import Derived.Stop.Joined
import Derived.SevenTiedAt
namespace Go.Proofs.YtipgjgcpfppeeaaDoor.fnExactJournalText
open Go.Rv
set_option linter.unusedVariables false
theorem own : ownKnob Tryd.prog.godebug = none := by kernel_rfl
theorem laidOut : laidOutB Tryd.prog = true := by kernel_rfl
theorem door_met (os : Os) (args : Array Value) : laidMetH Tryd.prog Rows.fnExactJournalTextRow.laid ((World.doorLaid Tryd.prog 600 os).forCall (fun _ _ => 0) ⟨#[], args, []⟩).memory :=
 laidMetH_of_parts3 (fuel := 8) (laidMet_of_run' 8 (by kernel_rfl) (by kernel_rfl)) (by kernel_rfl) (by kernel_rfl)
theorem tab_of (W : World) (h : laidMetH Tryd.prog Rows.fnExactJournalTextRow.laid W) : KN.tab (fun b => b < W.heap.size ∧ b ∉ ([] : List Nat)) W := by
 have h1 := h.filter fun x => x.1 == "internal/strconv.uint64pow10"
 have h2 : laidMetH Tryd.prog [("internal/strconv.uint64pow10", Lib.tabData .u64 Lib.pow10Tab)] W := h1
 have h3 : laidMet Tryd.prog [("internal/strconv.uint64pow10", Lib.tabData .u64 Lib.pow10Tab)] W := (laidMetH_iff.1 h2).1
 have hT := Lib.tabIs_of_head (g := tenB) (t := 100) (e := 91) (n := 20) ten_named (by kernel_rfl) (by kernel_rfl) (by kernel_rfl) (by kernel_rfl) (by kernel_rfl) h3
 unfold Lib.TabIs World.var? at hT
 rw [ten_named] at hT
 simp only [Option.bind_some] at hT
 split at hT
 ·rename_i cs t f hc
  have e := Option.some.inj hT
  subst e
  exact ⟨⟨(Array.getElem?_eq_some_iff.1 hc).1, by simp⟩, t, f, hc⟩
 ·cases hT
set_option maxHeartbeats 2000000 in
set_option maxRecDepth 100000 in
theorem lifted (os : Os) (started : os.Started) (H : Type) (enc : TypeId × Value → H) :
  ReturnsInHanded {} Tryd.checked os 4 .any (fun w args => (Rows.fnExactJournalTextSpec.pre enc Tryd.prog Tryd.f4 Rows.fnExactJournalTextRow.domain false w args ∧ laidMetH Tryd.prog Rows.fnExactJournalTextRow.laid w) ∧ sizedMet enc Tryd.prog Tryd.f4 (OpenSpec.ofChange Rows.fnExactJournalTextSpec) false w args) (Rows.fnExactJournalTextSpec.post enc Tryd.prog Tryd.f4 false true false false) :=
 row_of3 (Dr := KN) (C := Tryd.checked) (X := fun w => laidMetH Tryd.prog Rows.fnExactJournalTextRow.laid w) (S := ⟨ins_laws_FnExactJournalText, outs_laws_FnExactJournalText, F_laws_FnExactJournalText, []⟩) (fun _ _ hh h => h.of_heap hh) own started (by kernel_rfl) Tryd.func4 laidOut rfl ⟨4, by kernel_rfl, Tryd.underlying4⟩
  (fun ds h => by
   have h' : ds.length = 3 := h
   match ds, h' with
   | [d0, d1, d2], _ => rfl)
  rfl ins_laws_FnExactJournalText (by kernel_rfl) (fun W b => b < W.heap.size ∧ b ∉ ([] : List Nat)) (fun W _ b hb => hb.1) id (fun W x vs h => argsP_J _ _ _ _ rfl h) rfl tab_of ok_laws_FnExactJournalText (fun x hx => ⟨(true, ()), pureJournalText x hx, fun us bs w J h => own_true h⟩)
  (ChangeSpec.witness_shaped (enc := enc) (C := Tryd.checked) (os := os) (X := fun w _ => laidMetH Tryd.prog Rows.fnExactJournalTextRow.laid w) false (World.doorLaid Tryd.prog 600 os) #[.int .i64 0, .int .i64 0, .slice none 0 0] 8 rfl (World.shaped_of_RefB (by kernel_rfl) (by kernel_rfl)) (by kernel_rfl) (by kernel_rfl) (by kernel_rfl) (door_met os _))
theorem over : Rows.fnExactJournalTextRow.holds Tryd.pinned (OpenSpec.ofChange Rows.fnExactJournalTextSpec) :=
 OpenClaim.holds_of_wide 4 Tryd.f4 rfl rfl rfl rfl rfl rfl rfl ⟨rfl, rfl, rfl, rfl, rfl⟩ rfl rfl rfl rfl rfl (by kernel_rfl) Tryd.func4 (by kernel_rfl)
  (of_decide_eq_true (by kernel_rfl)) (by unfold Func.isWrapper; first | (rw [if_pos (by decide +kernel)]; kernel_rfl) | (rw [if_neg (by decide +kernel)]; exact ⟨rfl, rfl⟩))
  (fun os started H enc _ => lifted os started H enc)
end Go.Proofs.YtipgjgcpfppeeaaDoor.fnExactJournalText
namespace Go.Proofs.YtipgjgcpfppeeaaDoor
/-- The tied card. -/
theorem fnExactJournalText_holds : Rows.FnExactJournalTextCardSaid :=
 Claim7.holds_tied_plain_at .later [] [.data, .data, .data] true (true, "f4f87aca6647d9292c3873010a5e5aece1e5d143ab66fa14c4ce502f090f9750") true
  fnExactJournalText.over (fun _ h => by cases h) (by kernel_rfl) (fun _ h => by cases h) fnExactJournalText_row_tie rfl ⟨rfl, rfl⟩ (by kernel_rfl) rfl
  (fun f fn hf hfn => by
   obtain rfl : f = 4 := Option.some.inj ((show Tryd.prog.funcNamed "loop.example/g00095/laws.FnExactJournalText" = some 4 by kernel_rfl).symm.trans hf) |>.symm
   obtain rfl : fn = Tryd.f4 := (Option.some.inj (Tryd.func4.symm.trans hfn)).symm
   exact ⟨by kernel_rfl, fun j t ht => by
    have hm : t ∈ Tryd.f4.params.toList := Array.mem_toList_iff.2 (Array.mem_of_getElem? ht)
    have hall : (Tryd.f4.params.toList.all fun u => !Tryd.prog.wantsStandIn u) = true := by kernel_rfl
    exact (show Tryd.prog.wantsStandIn t = false by simpa using List.all_eq_true.1 hall t hm)⟩)
  (by kernel_rfl)
#print axioms fnExactJournalText_holds
end Go.Proofs.YtipgjgcpfppeeaaDoor
