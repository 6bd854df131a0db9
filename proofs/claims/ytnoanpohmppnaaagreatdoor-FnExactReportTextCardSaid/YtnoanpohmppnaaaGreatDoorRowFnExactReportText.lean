/- The law FnExactReportText: for every input the call returns true, and each argument reads afterwards as before; the tables that it reads are tied to the program's text. No condition. -/
import Derived.Test.YtnoanpohmppnaaaGreatDoorM26
import Derived.Test.YtnoanpohmppnaaaGreatDoorRows
import Derived.Test.YtnoanpohmppnaaaGreatDoorCards
import Derived.Test.YtnoanpohmppnaaaGreatDoorTie
import Derived.LaidMore
import Derived.Lay
import Derived.Stop.Joined
import Derived.SevenTiedAt
namespace Go.Proofs.YtnoanpohmppnaaaGreatDoor.fnExactReportText
open Go.Rv
set_option linter.unusedVariables false
theorem own : ownKnob Tryz.prog.godebug = none := by kernel_rfl
theorem laidOut : laidOutB Tryz.prog = true := by kernel_rfl
theorem door_met (os : Os) (args : Array Value) : laidMetH Tryz.prog Rows.fnExactReportTextRow.laid ((World.doorLaid Tryz.prog 600 os).forCall (fun _ _ => 0) ⟨#[], args, []⟩).memory :=
 laidMetH_of_parts3 (fuel := 8) (laidMet_of_run' 8 (by kernel_rfl) (by kernel_rfl)) (by kernel_rfl) (by kernel_rfl)
theorem tab_of (W : World) (h : laidMetH Tryz.prog Rows.fnExactReportTextRow.laid W) (_hs : W.ShapedOpen Tryz.prog) : KN.tab (fun b => b < W.heap.size ∧ b ∉ ([] : List Nat)) W := by
 have h1 := h.filter fun x => x.1 == "internal/strconv.uint64pow10"
 have h2 : laidMetH Tryz.prog [("internal/strconv.uint64pow10", Lib.tabData .u64 Lib.pow10Tab)] W := h1
 have h3 : laidMet Tryz.prog [("internal/strconv.uint64pow10", Lib.tabData .u64 Lib.pow10Tab)] W := (laidMetH_iff.1 h2).1
 have hT := Lib.tabIs_of_head (g := tenB) (t := 177) (e := 135) (n := 20) ten_named (by kernel_rfl) (by kernel_rfl) (by kernel_rfl) (by kernel_rfl) (by kernel_rfl) h3
 unfold Lib.TabIs World.var? at hT
 rw [ten_named] at hT
 simp only [Option.bind_some] at hT
 split at hT
 ·rename_i cs t f hc
  have e := Option.some.inj hT
  subst e
  exact ⟨⟨(Array.getElem?_eq_some_iff.1 hc).1, by simp⟩, t, f, hc⟩
 ·cases hT
set_option maxHeartbeats 2000000 in
set_option maxRecDepth 100000 in
theorem lifted (os : Os) (started : os.Started) (H : Type) (enc : TypeId × Value → H) :
  ReturnsInHanded {} Tryz.checked os 3 .any (fun w args => (Rows.fnExactReportTextSpec.pre enc Tryz.prog Tryz.f3 Rows.fnExactReportTextRow.domain false w args ∧ laidMetH Tryz.prog Rows.fnExactReportTextRow.laid w) ∧ sizedMet enc Tryz.prog Tryz.f3 (OpenSpec.ofChange Rows.fnExactReportTextSpec) false w args) (Rows.fnExactReportTextSpec.post enc Tryz.prog Tryz.f3 false true false false) :=
 row_of3 (Dr := KN) (C := Tryz.checked) (X := fun w => laidMetH Tryz.prog Rows.fnExactReportTextRow.laid w) (S := ⟨ins_laws_FnExactReportText, outs_laws_FnExactReportText, F_laws_FnExactReportText, []⟩) (fun _ _ hh h => h.of_heap hh) own started (by kernel_rfl) Tryz.func3 laidOut rfl ⟨4, by kernel_rfl, Tryz.underlying4⟩
  (fun ds h => by
   have h' : ds.length = 1 := h
   match ds, h' with
   | [d0], _ => rfl)
  rfl ins_laws_FnExactReportText (by kernel_rfl) (fun W b => b < W.heap.size ∧ b ∉ ([] : List Nat)) (fun W _ b hb => hb.1) id (fun W x vs h => argsP_J _ _ _ _ rfl h) rfl tab_of ok_laws_FnExactReportText (fun x hx => ⟨(true, ()), pureReportText x hx, fun us bs w J h => own_true h⟩)
  (ChangeSpec.witness_shaped (enc := enc) (C := Tryz.checked) (os := os) (X := fun w _ => laidMetH Tryz.prog Rows.fnExactReportTextRow.laid w) false (World.doorLaid Tryz.prog 600 os) #[.agg #[.int .i64 0, .int .i64 0, .int .i64 0, .int .i64 0, .slice none 0 0, .slice none 0 0, .slice none 0 0]] 8 rfl (World.shaped_of_RefB (by kernel_rfl) (by kernel_rfl)) (by kernel_rfl) (by kernel_rfl) (by kernel_rfl) (door_met os _))
theorem over : Rows.fnExactReportTextRow.holds Tryz.pinned (OpenSpec.ofChange Rows.fnExactReportTextSpec) :=
 OpenClaim.holds_of_wide 3 Tryz.f3 rfl rfl rfl rfl rfl rfl rfl ⟨rfl, rfl, rfl, rfl, rfl⟩ rfl rfl rfl rfl rfl (by kernel_rfl) Tryz.func3 (by kernel_rfl)
  (of_decide_eq_true (by kernel_rfl)) (by unfold Func.isWrapper; first | (rw [if_pos (by decide +kernel)]; kernel_rfl) | (rw [if_neg (by decide +kernel)]; exact ⟨rfl, rfl⟩))
  (fun os started H enc _ => lifted os started H enc)
end Go.Proofs.YtnoanpohmppnaaaGreatDoor.fnExactReportText
namespace Go.Proofs.YtnoanpohmppnaaaGreatDoor
/-- The tied card. -/
theorem fnExactReportText_holds : Rows.FnExactReportTextCardSaid :=
 Claim7.holds_tied_plain_at .later [] [.data, .data, .data] true (true, "ae5bd03edf76527fbb4ee59e1806aa51834def087223f0396836022bce0a3a5a") false
  fnExactReportText.over (fun _ h => by cases h) (by kernel_rfl) (fun _ h => by cases h) fnExactReportText_row_tie rfl ⟨rfl, rfl⟩ (by kernel_rfl) rfl
  (fun f fn hf hfn => by
   obtain rfl : f = 3 := Option.some.inj ((show Tryz.prog.funcNamed "loop.example/g00095/laws.FnExactReportText" = some 3 by kernel_rfl).symm.trans hf) |>.symm
   obtain rfl : fn = Tryz.f3 := (Option.some.inj (Tryz.func3.symm.trans hfn)).symm
   exact ⟨by kernel_rfl, fun j t ht => by
    have hm : t ∈ Tryz.f3.params.toList := Array.mem_toList_iff.2 (Array.mem_of_getElem? ht)
    have hall : (Tryz.f3.params.toList.all fun u => !Tryz.prog.wantsStandIn u) = true := by kernel_rfl
    exact (show Tryz.prog.wantsStandIn t = false by simpa using List.all_eq_true.1 hall t hm)⟩)
  (by kernel_rfl)
#print axioms fnExactReportText_holds
end Go.Proofs.YtnoanpohmppnaaaGreatDoor
