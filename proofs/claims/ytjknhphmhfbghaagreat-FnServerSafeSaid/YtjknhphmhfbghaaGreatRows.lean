/-
  No cell of these rows narrows 'for every input' (looked for: loops, veiled, ifaces, maps, wideKeys, modest, calm, conditions, laid).
  DERIVED. THE GIVEN ROWS OF THIS SEAT. 4 by the template 'for every input the law returns true; each argument reads behind the call as it read before'; 0 by the template 'total and deterministic' (their statements: YtjknhphmhfbghaaGreatTotals.lean).
  GIVEN WITH THE SEED: the statements are not yours to turn. If you find one false, say at which input.
  Laid BY PROGRAM, IN A SANDBOX (cutbox-rows.mjs): the forced cells as the released guide's own fill.sh prints them over the translation 3a7bb7e64f3b08eb… (all of the seat's roots in one cut). By AI agents, Wed Nov 11 2026. No macro, syntax, notation, axiom, sorry.
-/
import Derived.Test.YtjknhphmhfbghaaGreatChecked
import GoSem.Claim
import GoSem.ClaimJoined
import GoSem.ClaimMapViews
import Derived.JoinedTies
import Derived.KernelRfl
namespace Go.Proofs.YtjknhphmhfbghaaGreat
/- THE CELL 'sum', in the pinned program and in every row, IS THE sha256 OF THE DUMP (.gsa) THAT YtjknhphmhfbghaaGreatProg.lean LOADS. Nothing in Lean hashes anything: it is a label: what it is worth is what the hold of that sum in a sandbox is worth. -/
noncomputable def Tryz.pinned : Pinned := { name := "ytjknhphmhfbghaagreat", sum := "3a7bb7e64f3b08ebc218599e258d295db0835aa9709b6ea592af27810afceb23", checked := Tryz.checked }
namespace Rows
def none {H : Type} : Left H := { results := [], args := [] }

/-- 'laws.FnLearning': WHATEVER THE INPUT: true; the input reads as it did. -/
def fnLearningSpec : ChangeSpec := { name := "fnLearning", fn := fun _ => fun
  | [d1, d2] => { results := [.lit (.bool true)], args := [d1, d2] }
  | _ => none }
def fnLearningRow : OpenClaim := { program := "ytjknhphmhfbghaagreat", sum := "3a7bb7e64f3b08ebc218599e258d295db0835aa9709b6ea592af27810afceb23", func := "loop.example/g00095/laws.FnLearning", spec := "fnLearning", inPlace := ["slices.overlaps[loop.example/g00095/impl.Member]", "slices.overlaps[loop.example/g00095/impl.Lease]", "slices.overlaps[loop.example/g00095/impl.Group]"], unfollowed := true, recurses := true, named := ["math/bits.divideError", "math/bits.overflowError"], apart := false }
def FnLearningSaid : Prop := fnLearningRow.holds Tryz.pinned (OpenSpec.ofChange fnLearningSpec)

/-- ITS FALSE NEIGHBOUR: 'it returns false'. Refute it at one input. -/
def fnLearningWrong : ChangeSpec := { name := "fnLearning", fn := fun _ => fun
  | [d1, d2] => { results := [.lit (.bool false)], args := [d1, d2] }
  | _ => none }
def FnLearningWrongFalsely : Prop := fnLearningRow.holds Tryz.pinned (OpenSpec.ofChange fnLearningWrong)

/-- 'laws.FnGrants': WHATEVER THE INPUT: true; the input reads as it did. -/
def fnGrantsSpec : ChangeSpec := { name := "fnGrants", fn := fun _ => fun
  | [d] => { results := [.lit (.bool true)], args := [d] }
  | _ => none }
def fnGrantsRow : OpenClaim := { program := "ytjknhphmhfbghaagreat", sum := "3a7bb7e64f3b08ebc218599e258d295db0835aa9709b6ea592af27810afceb23", func := "loop.example/g00095/laws.FnGrants", spec := "fnGrants", inPlace := ["slices.overlaps[loop.example/g00095/impl.Member]", "slices.overlaps[loop.example/g00095/impl.Lease]", "slices.overlaps[loop.example/g00095/impl.Group]"], unfollowed := true, recurses := true, named := ["math/bits.divideError", "math/bits.overflowError"], apart := false }
def FnGrantsSaid : Prop := fnGrantsRow.holds Tryz.pinned (OpenSpec.ofChange fnGrantsSpec)

/-- ITS FALSE NEIGHBOUR: 'it returns false'. Refute it at one input. -/
def fnGrantsWrong : ChangeSpec := { name := "fnGrants", fn := fun _ => fun
  | [d] => { results := [.lit (.bool false)], args := [d] }
  | _ => none }
def FnGrantsWrongFalsely : Prop := fnGrantsRow.holds Tryz.pinned (OpenSpec.ofChange fnGrantsWrong)

/-- 'laws.FnServerParts': WHATEVER THE INPUT: true; the input reads as it did. -/
def fnServerPartsSpec : ChangeSpec := { name := "fnServerParts", fn := fun _ => fun
  | [d] => { results := [.lit (.bool true)], args := [d] }
  | _ => none }
def fnServerPartsRow : OpenClaim := { program := "ytjknhphmhfbghaagreat", sum := "3a7bb7e64f3b08ebc218599e258d295db0835aa9709b6ea592af27810afceb23", func := "loop.example/g00095/laws.FnServerParts", spec := "fnServerParts", inPlace := ["slices.overlaps[loop.example/g00095/impl.Member]", "slices.overlaps[loop.example/g00095/impl.Lease]", "slices.overlaps[loop.example/g00095/impl.Group]"], unfollowed := true, recurses := true, named := ["math/bits.divideError", "math/bits.overflowError"], apart := false }
def FnServerPartsSaid : Prop := fnServerPartsRow.holds Tryz.pinned (OpenSpec.ofChange fnServerPartsSpec)

/-- ITS FALSE NEIGHBOUR: 'it returns false'. Refute it at one input. -/
def fnServerPartsWrong : ChangeSpec := { name := "fnServerParts", fn := fun _ => fun
  | [d] => { results := [.lit (.bool false)], args := [d] }
  | _ => none }
def FnServerPartsWrongFalsely : Prop := fnServerPartsRow.holds Tryz.pinned (OpenSpec.ofChange fnServerPartsWrong)

/-- 'laws.FnServerSafe': WHATEVER THE INPUT: true; the input reads as it did. -/
def fnServerSafeSpec : ChangeSpec := { name := "fnServerSafe", fn := fun _ => fun
  | [d] => { results := [.lit (.bool true)], args := [d] }
  | _ => none }
def fnServerSafeRow : OpenClaim := { program := "ytjknhphmhfbghaagreat", sum := "3a7bb7e64f3b08ebc218599e258d295db0835aa9709b6ea592af27810afceb23", func := "loop.example/g00095/laws.FnServerSafe", spec := "fnServerSafe", inPlace := ["slices.overlaps[loop.example/g00095/impl.Member]", "slices.overlaps[loop.example/g00095/impl.Lease]", "slices.overlaps[loop.example/g00095/impl.Group]"], unfollowed := true, recurses := true, named := ["math/bits.divideError", "math/bits.overflowError"], apart := false }
def FnServerSafeSaid : Prop := fnServerSafeRow.holds Tryz.pinned (OpenSpec.ofChange fnServerSafeSpec)

/-- ITS FALSE NEIGHBOUR: 'it returns false'. Refute it at one input. -/
def fnServerSafeWrong : ChangeSpec := { name := "fnServerSafe", fn := fun _ => fun
  | [d] => { results := [.lit (.bool false)], args := [d] }
  | _ => none }
def FnServerSafeWrongFalsely : Prop := fnServerSafeRow.holds Tryz.pinned (OpenSpec.ofChange fnServerSafeWrong)

/- THE SECOND FORM. 'bulk': how many values and letters a reading holds, each counted each time it is reached (what is shared counts as often as it is met; a slice's spare places count too). A statement '..UptoSaid' is the law's where the arguments, and the package variables that the reading takes, are together of bulk at most 1048576: NARROWER than '..Said'. Prove '..Said' where nothing that the law and all that it calls make is longer than what came in: it says more and counts as full. Else prove '..UptoSaid'. A law counts once. -/
mutual
def uptoBulk {H : Type} : DataW H → Nat
  | .lit (.string bytes) => bytes.length + 1
  | .lit _ => 1
  | .nil => 1
  | .ptr d => uptoBulk d + 1
  | .slice elems spare => uptoBulkAll elems + uptoBulkAll spare + 1
  | .agg parts => uptoBulkAll parts + 1
  | .iface _ d => uptoBulk d + 1
  | .map entries => uptoBulkEntries entries + 1
  | .held _ => 1
def uptoBulkAll {H : Type} : List (DataW H) → Nat
  | [] => 0
  | d :: r => uptoBulk d + uptoBulkAll r
def uptoBulkEntries {H : Type} : List (Lit × DataW H) → Nat
  | [] => 0
  | x :: r => uptoBulkEntry x + uptoBulkEntries r
def uptoBulkEntry {H : Type} : Lit × DataW H → Nat
  | (.string bytes, d) => bytes.length + uptoBulk d + 1
  | (_, d) => uptoBulk d + 1
 end
def uptoSmall : (H : Type) → List (DataW H) → Bool := fun _ ds => decide (uptoBulkAll ds ≤ 1048576)
def OpenSpec.upto (s : _root_.Go.ChangeSpec) : _root_.Go.OpenSpec := { _root_.Go.OpenSpec.ofChange s with cond := some uptoSmall }

/-- 'laws.FnLearning', WHERE WHAT IT READS IS OF BULK AT MOST 1048576: true; the input reads as it did. -/
def fnLearningUptoRow : OpenClaim := { program := "ytjknhphmhfbghaagreat", sum := "3a7bb7e64f3b08ebc218599e258d295db0835aa9709b6ea592af27810afceb23", func := "loop.example/g00095/laws.FnLearning", spec := "fnLearning", inPlace := ["slices.overlaps[loop.example/g00095/impl.Member]", "slices.overlaps[loop.example/g00095/impl.Lease]", "slices.overlaps[loop.example/g00095/impl.Group]"], unfollowed := true, recurses := true, named := ["math/bits.divideError", "math/bits.overflowError"], apart := false, narrowed := true }
def FnLearningUptoSaid : Prop := fnLearningUptoRow.holds Tryz.pinned (OpenSpec.upto fnLearningSpec)

/-- 'laws.FnGrants', WHERE WHAT IT READS IS OF BULK AT MOST 1048576: true; the input reads as it did. -/
def fnGrantsUptoRow : OpenClaim := { program := "ytjknhphmhfbghaagreat", sum := "3a7bb7e64f3b08ebc218599e258d295db0835aa9709b6ea592af27810afceb23", func := "loop.example/g00095/laws.FnGrants", spec := "fnGrants", inPlace := ["slices.overlaps[loop.example/g00095/impl.Member]", "slices.overlaps[loop.example/g00095/impl.Lease]", "slices.overlaps[loop.example/g00095/impl.Group]"], unfollowed := true, recurses := true, named := ["math/bits.divideError", "math/bits.overflowError"], apart := false, narrowed := true }
def FnGrantsUptoSaid : Prop := fnGrantsUptoRow.holds Tryz.pinned (OpenSpec.upto fnGrantsSpec)

/-- 'laws.FnServerParts', WHERE WHAT IT READS IS OF BULK AT MOST 1048576: true; the input reads as it did. -/
def fnServerPartsUptoRow : OpenClaim := { program := "ytjknhphmhfbghaagreat", sum := "3a7bb7e64f3b08ebc218599e258d295db0835aa9709b6ea592af27810afceb23", func := "loop.example/g00095/laws.FnServerParts", spec := "fnServerParts", inPlace := ["slices.overlaps[loop.example/g00095/impl.Member]", "slices.overlaps[loop.example/g00095/impl.Lease]", "slices.overlaps[loop.example/g00095/impl.Group]"], unfollowed := true, recurses := true, named := ["math/bits.divideError", "math/bits.overflowError"], apart := false, narrowed := true }
def FnServerPartsUptoSaid : Prop := fnServerPartsUptoRow.holds Tryz.pinned (OpenSpec.upto fnServerPartsSpec)

/-- 'laws.FnServerSafe', WHERE WHAT IT READS IS OF BULK AT MOST 1048576: true; the input reads as it did. -/
def fnServerSafeUptoRow : OpenClaim := { program := "ytjknhphmhfbghaagreat", sum := "3a7bb7e64f3b08ebc218599e258d295db0835aa9709b6ea592af27810afceb23", func := "loop.example/g00095/laws.FnServerSafe", spec := "fnServerSafe", inPlace := ["slices.overlaps[loop.example/g00095/impl.Member]", "slices.overlaps[loop.example/g00095/impl.Lease]", "slices.overlaps[loop.example/g00095/impl.Group]"], unfollowed := true, recurses := true, named := ["math/bits.divideError", "math/bits.overflowError"], apart := false, narrowed := true }
def FnServerSafeUptoSaid : Prop := fnServerSafeUptoRow.holds Tryz.pinned (OpenSpec.upto fnServerSafeSpec)

end Rows
end Go.Proofs.YtjknhphmhfbghaaGreat
