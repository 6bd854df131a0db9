/-
  No cell of these rows narrows 'for every input' (looked for: loops, veiled, ifaces, maps, wideKeys, modest, calm, conditions, laid).
  DERIVED. THE GIVEN ROWS OF THIS SEAT. 5 by the template 'for every input the law returns true; each argument reads behind the call as it read before'; 0 by the template 'total and deterministic' (their statements: YtdobclaiebcmdaaTotals.lean).
  GIVEN WITH THE SEED: the statements are not yours to turn. If you find one false, say at which input.
  Laid BY PROGRAM, IN A SANDBOX (cutbox-rows.mjs): the forced cells as the released guide's own fill.sh prints them over the translation 021bdcfffdc8814a… (all of the seat's roots in one cut). By AI agents, Wed Nov 11 2026. No macro, syntax, notation, axiom, sorry.
-/
import Derived.Test.YtdobclaiebcmdaaChecked
import GoSem.Claim
import GoSem.ClaimJoined
import GoSem.ClaimMapViews
import Derived.JoinedTies
import Derived.KernelRfl
namespace Go.Proofs.Ytdobclaiebcmdaa
/- THE CELL 'sum', in the pinned program and in every row, IS THE sha256 OF THE DUMP (.gsa) THAT YtdobclaiebcmdaaProg.lean LOADS. Nothing in Lean hashes anything: it is a label: what it is worth is what the hold of that sum in a sandbox is worth. -/
noncomputable def Try.pinned : Pinned := { name := "ytdobclaiebcmdaa", sum := "021bdcfffdc8814afd1a9d6407602d23cc551fc30ec1410d584116ebf3df46f3", checked := Try.checked }
namespace Rows
def none {H : Type} : Left H := { results := [], args := [] }

/-- 'laws.FnExactSmoothRight': WHATEVER THE INPUT: true; the input reads as it did. -/
def fnExactSmoothRightSpec : ChangeSpec := { name := "fnExactSmoothRight", fn := fun _ => fun
  | [d] => { results := [.lit (.bool true)], args := [d] }
  | _ => none }
def fnExactSmoothRightRow : OpenClaim := { program := "ytdobclaiebcmdaa", sum := "021bdcfffdc8814afd1a9d6407602d23cc551fc30ec1410d584116ebf3df46f3", func := "loop.example/g00095/laws.FnExactSmoothRight", spec := "fnExactSmoothRight", apart := false }
def FnExactSmoothRightSaid : Prop := fnExactSmoothRightRow.holds Try.pinned (OpenSpec.ofChange fnExactSmoothRightSpec)

/-- ITS FALSE NEIGHBOUR: 'it returns false'. Refute it at one input. -/
def fnExactSmoothRightWrong : ChangeSpec := { name := "fnExactSmoothRight", fn := fun _ => fun
  | [d] => { results := [.lit (.bool false)], args := [d] }
  | _ => none }
def FnExactSmoothRightWrongFalsely : Prop := fnExactSmoothRightRow.holds Try.pinned (OpenSpec.ofChange fnExactSmoothRightWrong)

/-- 'laws.FnExactSmoothWant': WHATEVER THE INPUT: true; the input reads as it did. -/
def fnExactSmoothWantSpec : ChangeSpec := { name := "fnExactSmoothWant", fn := fun _ => fun
  | [d] => { results := [.lit (.bool true)], args := [d] }
  | _ => none }
def fnExactSmoothWantRow : OpenClaim := { program := "ytdobclaiebcmdaa", sum := "021bdcfffdc8814afd1a9d6407602d23cc551fc30ec1410d584116ebf3df46f3", func := "loop.example/g00095/laws.FnExactSmoothWant", spec := "fnExactSmoothWant", apart := false }
def FnExactSmoothWantSaid : Prop := fnExactSmoothWantRow.holds Try.pinned (OpenSpec.ofChange fnExactSmoothWantSpec)

/-- ITS FALSE NEIGHBOUR: 'it returns false'. Refute it at one input. -/
def fnExactSmoothWantWrong : ChangeSpec := { name := "fnExactSmoothWant", fn := fun _ => fun
  | [d] => { results := [.lit (.bool false)], args := [d] }
  | _ => none }
def FnExactSmoothWantWrongFalsely : Prop := fnExactSmoothWantRow.holds Try.pinned (OpenSpec.ofChange fnExactSmoothWantWrong)

/-- 'laws.FnExactDeskWords': WHATEVER THE INPUT: true; the input reads as it did. -/
def fnExactDeskWordsSpec : ChangeSpec := { name := "fnExactDeskWords", fn := fun _ => fun
  | [] => { results := [.lit (.bool true)], args := [] }
  | _ => none }
def fnExactDeskWordsRow : OpenClaim := { program := "ytdobclaiebcmdaa", sum := "021bdcfffdc8814afd1a9d6407602d23cc551fc30ec1410d584116ebf3df46f3", func := "loop.example/g00095/laws.FnExactDeskWords", spec := "fnExactDeskWords", apart := false }
def FnExactDeskWordsSaid : Prop := fnExactDeskWordsRow.holds Try.pinned (OpenSpec.ofChange fnExactDeskWordsSpec)

/-- ITS FALSE NEIGHBOUR: 'it returns false'. Refute it at one input. -/
def fnExactDeskWordsWrong : ChangeSpec := { name := "fnExactDeskWords", fn := fun _ => fun
  | [] => { results := [.lit (.bool false)], args := [] }
  | _ => none }
def FnExactDeskWordsWrongFalsely : Prop := fnExactDeskWordsRow.holds Try.pinned (OpenSpec.ofChange fnExactDeskWordsWrong)

/-- 'laws.FnExactSmoothSteps': WHATEVER THE INPUT: true; the input reads as it did. -/
def fnExactSmoothStepsSpec : ChangeSpec := { name := "fnExactSmoothSteps", fn := fun _ => fun
  | [d1, d2] => { results := [.lit (.bool true)], args := [d1, d2] }
  | _ => none }
def fnExactSmoothStepsRow : OpenClaim := { program := "ytdobclaiebcmdaa", sum := "021bdcfffdc8814afd1a9d6407602d23cc551fc30ec1410d584116ebf3df46f3", func := "loop.example/g00095/laws.FnExactSmoothSteps", spec := "fnExactSmoothSteps", apart := false }
def FnExactSmoothStepsSaid : Prop := fnExactSmoothStepsRow.holds Try.pinned (OpenSpec.ofChange fnExactSmoothStepsSpec)

/-- ITS FALSE NEIGHBOUR: 'it returns false'. Refute it at one input. -/
def fnExactSmoothStepsWrong : ChangeSpec := { name := "fnExactSmoothSteps", fn := fun _ => fun
  | [d1, d2] => { results := [.lit (.bool false)], args := [d1, d2] }
  | _ => none }
def FnExactSmoothStepsWrongFalsely : Prop := fnExactSmoothStepsRow.holds Try.pinned (OpenSpec.ofChange fnExactSmoothStepsWrong)

/-- 'laws.FnExactSmoothStep': WHATEVER THE INPUT: true; the input reads as it did. -/
def fnExactSmoothStepSpec : ChangeSpec := { name := "fnExactSmoothStep", fn := fun _ => fun
  | [d1, d2] => { results := [.lit (.bool true)], args := [d1, d2] }
  | _ => none }
def fnExactSmoothStepRow : OpenClaim := { program := "ytdobclaiebcmdaa", sum := "021bdcfffdc8814afd1a9d6407602d23cc551fc30ec1410d584116ebf3df46f3", func := "loop.example/g00095/laws.FnExactSmoothStep", spec := "fnExactSmoothStep", apart := false }
def FnExactSmoothStepSaid : Prop := fnExactSmoothStepRow.holds Try.pinned (OpenSpec.ofChange fnExactSmoothStepSpec)

/-- ITS FALSE NEIGHBOUR: 'it returns false'. Refute it at one input. -/
def fnExactSmoothStepWrong : ChangeSpec := { name := "fnExactSmoothStep", fn := fun _ => fun
  | [d1, d2] => { results := [.lit (.bool false)], args := [d1, d2] }
  | _ => none }
def FnExactSmoothStepWrongFalsely : Prop := fnExactSmoothStepRow.holds Try.pinned (OpenSpec.ofChange fnExactSmoothStepWrong)

/- THE SECOND FORM. 'bulk': how many values and letters a reading holds, each counted each time it is reached (what is shared counts as often as it is met; a slice's spare places count too). A statement '..UptoSaid' is the law's where the arguments, and the package variables that the reading takes, are together of bulk at most 1048576: NARROWER than '..Said'. Prove '..Said' where nothing that the law and all that it calls make is longer than what came in: it says more and counts as full. Else prove '..UptoSaid'. A law counts once. -/
mutual
def uptoBulk {H : Type} : DataW H → Nat
  | .lit (.string bytes) => bytes.length + 1
  | .lit _ => 1
  | .nil => 1
  | .ptr d => uptoBulk d + 1
  | .slice elems spare => uptoBulkAll elems + uptoBulkAll spare + 1
  | .agg parts => uptoBulkAll parts + 1
  | .iface _ d => uptoBulk d + 1
  | .map entries => uptoBulkEntries entries + 1
  | .held _ => 1
def uptoBulkAll {H : Type} : List (DataW H) → Nat
  | [] => 0
  | d :: r => uptoBulk d + uptoBulkAll r
def uptoBulkEntries {H : Type} : List (Lit × DataW H) → Nat
  | [] => 0
  | x :: r => uptoBulkEntry x + uptoBulkEntries r
def uptoBulkEntry {H : Type} : Lit × DataW H → Nat
  | (.string bytes, d) => bytes.length + uptoBulk d + 1
  | (_, d) => uptoBulk d + 1
 end
def uptoSmall : (H : Type) → List (DataW H) → Bool := fun _ ds => decide (uptoBulkAll ds ≤ 1048576)
def OpenSpec.upto (s : _root_.Go.ChangeSpec) : _root_.Go.OpenSpec := { _root_.Go.OpenSpec.ofChange s with cond := some uptoSmall }

/-- 'laws.FnExactSmoothRight', WHERE WHAT IT READS IS OF BULK AT MOST 1048576: true; the input reads as it did. -/
def fnExactSmoothRightUptoRow : OpenClaim := { program := "ytdobclaiebcmdaa", sum := "021bdcfffdc8814afd1a9d6407602d23cc551fc30ec1410d584116ebf3df46f3", func := "loop.example/g00095/laws.FnExactSmoothRight", spec := "fnExactSmoothRight", apart := false, narrowed := true }
def FnExactSmoothRightUptoSaid : Prop := fnExactSmoothRightUptoRow.holds Try.pinned (OpenSpec.upto fnExactSmoothRightSpec)

/-- 'laws.FnExactSmoothWant', WHERE WHAT IT READS IS OF BULK AT MOST 1048576: true; the input reads as it did. -/
def fnExactSmoothWantUptoRow : OpenClaim := { program := "ytdobclaiebcmdaa", sum := "021bdcfffdc8814afd1a9d6407602d23cc551fc30ec1410d584116ebf3df46f3", func := "loop.example/g00095/laws.FnExactSmoothWant", spec := "fnExactSmoothWant", apart := false, narrowed := true }
def FnExactSmoothWantUptoSaid : Prop := fnExactSmoothWantUptoRow.holds Try.pinned (OpenSpec.upto fnExactSmoothWantSpec)

/-- 'laws.FnExactDeskWords', WHERE WHAT IT READS IS OF BULK AT MOST 1048576: true; the input reads as it did. -/
def fnExactDeskWordsUptoRow : OpenClaim := { program := "ytdobclaiebcmdaa", sum := "021bdcfffdc8814afd1a9d6407602d23cc551fc30ec1410d584116ebf3df46f3", func := "loop.example/g00095/laws.FnExactDeskWords", spec := "fnExactDeskWords", apart := false, narrowed := true }
def FnExactDeskWordsUptoSaid : Prop := fnExactDeskWordsUptoRow.holds Try.pinned (OpenSpec.upto fnExactDeskWordsSpec)

/-- 'laws.FnExactSmoothSteps', WHERE WHAT IT READS IS OF BULK AT MOST 1048576: true; the input reads as it did. -/
def fnExactSmoothStepsUptoRow : OpenClaim := { program := "ytdobclaiebcmdaa", sum := "021bdcfffdc8814afd1a9d6407602d23cc551fc30ec1410d584116ebf3df46f3", func := "loop.example/g00095/laws.FnExactSmoothSteps", spec := "fnExactSmoothSteps", apart := false, narrowed := true }
def FnExactSmoothStepsUptoSaid : Prop := fnExactSmoothStepsUptoRow.holds Try.pinned (OpenSpec.upto fnExactSmoothStepsSpec)

/-- 'laws.FnExactSmoothStep', WHERE WHAT IT READS IS OF BULK AT MOST 1048576: true; the input reads as it did. -/
def fnExactSmoothStepUptoRow : OpenClaim := { program := "ytdobclaiebcmdaa", sum := "021bdcfffdc8814afd1a9d6407602d23cc551fc30ec1410d584116ebf3df46f3", func := "loop.example/g00095/laws.FnExactSmoothStep", spec := "fnExactSmoothStep", apart := false, narrowed := true }
def FnExactSmoothStepUptoSaid : Prop := fnExactSmoothStepUptoRow.holds Try.pinned (OpenSpec.upto fnExactSmoothStepSpec)

end Rows
end Go.Proofs.Ytdobclaiebcmdaa
