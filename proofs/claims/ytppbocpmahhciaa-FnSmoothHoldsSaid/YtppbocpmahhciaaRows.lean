/-
  No cell of these rows narrows 'for every input' (looked for: loops, veiled, ifaces, maps, wideKeys, modest, calm, conditions, laid).
  DERIVED. THE GIVEN ROWS OF THIS SEAT. 6 by the template 'for every input the law returns true; each argument reads behind the call as it read before'; 0 by the template 'total and deterministic' (their statements: YtppbocpmahhciaaTotals.lean).
  GIVEN WITH THE SEED: the statements are not yours to turn. If you find one false, say at which input.
  Laid BY PROGRAM, IN A SANDBOX (cutbox-rows.mjs): the forced cells as the released guide's own fill.sh prints them over the translation 25270e858ccf9d0f… (all of the seat's roots in one cut). By AI agents, Wed Nov 11 2026. No macro, syntax, notation, axiom, sorry.
-/
import Derived.Test.YtppbocpmahhciaaChecked
import GoSem.Claim
import GoSem.ClaimJoined
import GoSem.ClaimMapViews
import Derived.JoinedTies
import Derived.KernelRfl
namespace Go.Proofs.Ytppbocpmahhciaa
/- THE CELL 'sum', in the pinned program and in every row, IS THE sha256 OF THE DUMP (.gsa) THAT YtppbocpmahhciaaProg.lean LOADS. Nothing in Lean hashes anything: it is a label: what it is worth is what the hold of that sum in a sandbox is worth. -/
noncomputable def Try.pinned : Pinned := { name := "ytppbocpmahhciaa", sum := "25270e858ccf9d0f17141ede1653a898ca6089717cd9203ea8e511434745ee5c", checked := Try.checked }
namespace Rows
def none {H : Type} : Left H := { results := [], args := [] }

/-- 'laws.FnExactReportSum': WHATEVER THE INPUT: true; the input reads as it did. -/
def fnExactReportSumSpec : ChangeSpec := { name := "fnExactReportSum", fn := fun _ => fun
  | [d] => { results := [.lit (.bool true)], args := [d] }
  | _ => none }
def fnExactReportSumRow : OpenClaim := { program := "ytppbocpmahhciaa", sum := "25270e858ccf9d0f17141ede1653a898ca6089717cd9203ea8e511434745ee5c", func := "loop.example/g00095/laws.FnExactReportSum", spec := "fnExactReportSum", apart := false }
def FnExactReportSumSaid : Prop := fnExactReportSumRow.holds Try.pinned (OpenSpec.ofChange fnExactReportSumSpec)

/-- ITS FALSE NEIGHBOUR: 'it returns false'. Refute it at one input. -/
def fnExactReportSumWrong : ChangeSpec := { name := "fnExactReportSum", fn := fun _ => fun
  | [d] => { results := [.lit (.bool false)], args := [d] }
  | _ => none }
def FnExactReportSumWrongFalsely : Prop := fnExactReportSumRow.holds Try.pinned (OpenSpec.ofChange fnExactReportSumWrong)

/-- 'laws.FnSmooth': WHATEVER THE INPUT: true; the input reads as it did. -/
def fnSmoothSpec : ChangeSpec := { name := "fnSmooth", fn := fun _ => fun
  | [d] => { results := [.lit (.bool true)], args := [d] }
  | _ => none }
def fnSmoothRow : OpenClaim := { program := "ytppbocpmahhciaa", sum := "25270e858ccf9d0f17141ede1653a898ca6089717cd9203ea8e511434745ee5c", func := "loop.example/g00095/laws.FnSmooth", spec := "fnSmooth", apart := false }
def FnSmoothSaid : Prop := fnSmoothRow.holds Try.pinned (OpenSpec.ofChange fnSmoothSpec)

/-- ITS FALSE NEIGHBOUR: 'it returns false'. Refute it at one input. -/
def fnSmoothWrong : ChangeSpec := { name := "fnSmooth", fn := fun _ => fun
  | [d] => { results := [.lit (.bool false)], args := [d] }
  | _ => none }
def FnSmoothWrongFalsely : Prop := fnSmoothRow.holds Try.pinned (OpenSpec.ofChange fnSmoothWrong)

/-- 'laws.FnSmoothRests': WHATEVER THE INPUT: true; the input reads as it did. -/
def fnSmoothRestsSpec : ChangeSpec := { name := "fnSmoothRests", fn := fun _ => fun
  | [d] => { results := [.lit (.bool true)], args := [d] }
  | _ => none }
def fnSmoothRestsRow : OpenClaim := { program := "ytppbocpmahhciaa", sum := "25270e858ccf9d0f17141ede1653a898ca6089717cd9203ea8e511434745ee5c", func := "loop.example/g00095/laws.FnSmoothRests", spec := "fnSmoothRests", apart := false }
def FnSmoothRestsSaid : Prop := fnSmoothRestsRow.holds Try.pinned (OpenSpec.ofChange fnSmoothRestsSpec)

/-- ITS FALSE NEIGHBOUR: 'it returns false'. Refute it at one input. -/
def fnSmoothRestsWrong : ChangeSpec := { name := "fnSmoothRests", fn := fun _ => fun
  | [d] => { results := [.lit (.bool false)], args := [d] }
  | _ => none }
def FnSmoothRestsWrongFalsely : Prop := fnSmoothRestsRow.holds Try.pinned (OpenSpec.ofChange fnSmoothRestsWrong)

/-- 'laws.FnExactSmoothRun': WHATEVER THE INPUT: true; the input reads as it did. -/
def fnExactSmoothRunSpec : ChangeSpec := { name := "fnExactSmoothRun", fn := fun _ => fun
  | [d1, d2] => { results := [.lit (.bool true)], args := [d1, d2] }
  | _ => none }
def fnExactSmoothRunRow : OpenClaim := { program := "ytppbocpmahhciaa", sum := "25270e858ccf9d0f17141ede1653a898ca6089717cd9203ea8e511434745ee5c", func := "loop.example/g00095/laws.FnExactSmoothRun", spec := "fnExactSmoothRun", unfollowed := true, recurses := true, apart := false }
def FnExactSmoothRunSaid : Prop := fnExactSmoothRunRow.holds Try.pinned (OpenSpec.ofChange fnExactSmoothRunSpec)

/-- ITS FALSE NEIGHBOUR: 'it returns false'. Refute it at one input. -/
def fnExactSmoothRunWrong : ChangeSpec := { name := "fnExactSmoothRun", fn := fun _ => fun
  | [d1, d2] => { results := [.lit (.bool false)], args := [d1, d2] }
  | _ => none }
def FnExactSmoothRunWrongFalsely : Prop := fnExactSmoothRunRow.holds Try.pinned (OpenSpec.ofChange fnExactSmoothRunWrong)

/-- 'laws.FnSmoothHolds': WHATEVER THE INPUT: true; the input reads as it did. -/
def fnSmoothHoldsSpec : ChangeSpec := { name := "fnSmoothHolds", fn := fun _ => fun
  | [d] => { results := [.lit (.bool true)], args := [d] }
  | _ => none }
def fnSmoothHoldsRow : OpenClaim := { program := "ytppbocpmahhciaa", sum := "25270e858ccf9d0f17141ede1653a898ca6089717cd9203ea8e511434745ee5c", func := "loop.example/g00095/laws.FnSmoothHolds", spec := "fnSmoothHolds", unfollowed := true, recurses := true, apart := false }
def FnSmoothHoldsSaid : Prop := fnSmoothHoldsRow.holds Try.pinned (OpenSpec.ofChange fnSmoothHoldsSpec)

/-- ITS FALSE NEIGHBOUR: 'it returns false'. Refute it at one input. -/
def fnSmoothHoldsWrong : ChangeSpec := { name := "fnSmoothHolds", fn := fun _ => fun
  | [d] => { results := [.lit (.bool false)], args := [d] }
  | _ => none }
def FnSmoothHoldsWrongFalsely : Prop := fnSmoothHoldsRow.holds Try.pinned (OpenSpec.ofChange fnSmoothHoldsWrong)

/-- 'laws.FnExactReportTop': WHATEVER THE INPUT: true; the input reads as it did. -/
def fnExactReportTopSpec : ChangeSpec := { name := "fnExactReportTop", fn := fun _ => fun
  | [d1, d2] => { results := [.lit (.bool true)], args := [d1, d2] }
  | _ => none }
def fnExactReportTopRow : OpenClaim := { program := "ytppbocpmahhciaa", sum := "25270e858ccf9d0f17141ede1653a898ca6089717cd9203ea8e511434745ee5c", func := "loop.example/g00095/laws.FnExactReportTop", spec := "fnExactReportTop", unfollowed := true, recurses := true, apart := false }
def FnExactReportTopSaid : Prop := fnExactReportTopRow.holds Try.pinned (OpenSpec.ofChange fnExactReportTopSpec)

/-- ITS FALSE NEIGHBOUR: 'it returns false'. Refute it at one input. -/
def fnExactReportTopWrong : ChangeSpec := { name := "fnExactReportTop", fn := fun _ => fun
  | [d1, d2] => { results := [.lit (.bool false)], args := [d1, d2] }
  | _ => none }
def FnExactReportTopWrongFalsely : Prop := fnExactReportTopRow.holds Try.pinned (OpenSpec.ofChange fnExactReportTopWrong)

/- THE SECOND FORM. 'bulk': how many values and letters a reading holds, each counted each time it is reached (what is shared counts as often as it is met; a slice's spare places count too). A statement '..UptoSaid' is the law's where the arguments, and the package variables that the reading takes, are together of bulk at most 1048576: NARROWER than '..Said'. Prove '..Said' where nothing that the law and all that it calls make is longer than what came in: it says more and counts as full. Else prove '..UptoSaid'. A law counts once. -/
mutual
def uptoBulk {H : Type} : DataW H → Nat
  | .lit (.string bytes) => bytes.length + 1
  | .lit _ => 1
  | .nil => 1
  | .ptr d => uptoBulk d + 1
  | .slice elems spare => uptoBulkAll elems + uptoBulkAll spare + 1
  | .agg parts => uptoBulkAll parts + 1
  | .iface _ d => uptoBulk d + 1
  | .map entries => uptoBulkEntries entries + 1
  | .held _ => 1
def uptoBulkAll {H : Type} : List (DataW H) → Nat
  | [] => 0
  | d :: r => uptoBulk d + uptoBulkAll r
def uptoBulkEntries {H : Type} : List (Lit × DataW H) → Nat
  | [] => 0
  | x :: r => uptoBulkEntry x + uptoBulkEntries r
def uptoBulkEntry {H : Type} : Lit × DataW H → Nat
  | (.string bytes, d) => bytes.length + uptoBulk d + 1
  | (_, d) => uptoBulk d + 1
 end
def uptoSmall : (H : Type) → List (DataW H) → Bool := fun _ ds => decide (uptoBulkAll ds ≤ 1048576)
def OpenSpec.upto (s : _root_.Go.ChangeSpec) : _root_.Go.OpenSpec := { _root_.Go.OpenSpec.ofChange s with cond := some uptoSmall }

/-- 'laws.FnExactReportSum', WHERE WHAT IT READS IS OF BULK AT MOST 1048576: true; the input reads as it did. -/
def fnExactReportSumUptoRow : OpenClaim := { program := "ytppbocpmahhciaa", sum := "25270e858ccf9d0f17141ede1653a898ca6089717cd9203ea8e511434745ee5c", func := "loop.example/g00095/laws.FnExactReportSum", spec := "fnExactReportSum", apart := false, narrowed := true }
def FnExactReportSumUptoSaid : Prop := fnExactReportSumUptoRow.holds Try.pinned (OpenSpec.upto fnExactReportSumSpec)

/-- 'laws.FnSmooth', WHERE WHAT IT READS IS OF BULK AT MOST 1048576: true; the input reads as it did. -/
def fnSmoothUptoRow : OpenClaim := { program := "ytppbocpmahhciaa", sum := "25270e858ccf9d0f17141ede1653a898ca6089717cd9203ea8e511434745ee5c", func := "loop.example/g00095/laws.FnSmooth", spec := "fnSmooth", apart := false, narrowed := true }
def FnSmoothUptoSaid : Prop := fnSmoothUptoRow.holds Try.pinned (OpenSpec.upto fnSmoothSpec)

/-- 'laws.FnSmoothRests', WHERE WHAT IT READS IS OF BULK AT MOST 1048576: true; the input reads as it did. -/
def fnSmoothRestsUptoRow : OpenClaim := { program := "ytppbocpmahhciaa", sum := "25270e858ccf9d0f17141ede1653a898ca6089717cd9203ea8e511434745ee5c", func := "loop.example/g00095/laws.FnSmoothRests", spec := "fnSmoothRests", apart := false, narrowed := true }
def FnSmoothRestsUptoSaid : Prop := fnSmoothRestsUptoRow.holds Try.pinned (OpenSpec.upto fnSmoothRestsSpec)

/-- 'laws.FnExactSmoothRun', WHERE WHAT IT READS IS OF BULK AT MOST 1048576: true; the input reads as it did. -/
def fnExactSmoothRunUptoRow : OpenClaim := { program := "ytppbocpmahhciaa", sum := "25270e858ccf9d0f17141ede1653a898ca6089717cd9203ea8e511434745ee5c", func := "loop.example/g00095/laws.FnExactSmoothRun", spec := "fnExactSmoothRun", unfollowed := true, recurses := true, apart := false, narrowed := true }
def FnExactSmoothRunUptoSaid : Prop := fnExactSmoothRunUptoRow.holds Try.pinned (OpenSpec.upto fnExactSmoothRunSpec)

/-- 'laws.FnSmoothHolds', WHERE WHAT IT READS IS OF BULK AT MOST 1048576: true; the input reads as it did. -/
def fnSmoothHoldsUptoRow : OpenClaim := { program := "ytppbocpmahhciaa", sum := "25270e858ccf9d0f17141ede1653a898ca6089717cd9203ea8e511434745ee5c", func := "loop.example/g00095/laws.FnSmoothHolds", spec := "fnSmoothHolds", unfollowed := true, recurses := true, apart := false, narrowed := true }
def FnSmoothHoldsUptoSaid : Prop := fnSmoothHoldsUptoRow.holds Try.pinned (OpenSpec.upto fnSmoothHoldsSpec)

/-- 'laws.FnExactReportTop', WHERE WHAT IT READS IS OF BULK AT MOST 1048576: true; the input reads as it did. -/
def fnExactReportTopUptoRow : OpenClaim := { program := "ytppbocpmahhciaa", sum := "25270e858ccf9d0f17141ede1653a898ca6089717cd9203ea8e511434745ee5c", func := "loop.example/g00095/laws.FnExactReportTop", spec := "fnExactReportTop", unfollowed := true, recurses := true, apart := false, narrowed := true }
def FnExactReportTopUptoSaid : Prop := fnExactReportTopUptoRow.holds Try.pinned (OpenSpec.upto fnExactReportTopSpec)

end Rows
end Go.Proofs.Ytppbocpmahhciaa
