/-
  No cell of these rows narrows 'for every input' (looked for: loops, veiled, ifaces, maps, wideKeys, modest, calm, conditions, laid).
  DERIVED. THE GIVEN ROWS OF THIS SEAT. 3 by the template 'for every input the law returns true; each argument reads behind the call as it read before'; 0 by the template 'total and deterministic' (their statements: YtnebddbibpbloaaGreatTotals.lean).
  GIVEN WITH THE SEED: the statements are not yours to turn. If you find one false, say at which input.
  Laid BY PROGRAM, IN A SANDBOX (cutbox-rows.mjs): the forced cells as the released guide's own fill.sh prints them over the translation 22ac1f0addbd625e… (all of the seat's roots in one cut). By AI agents, Wed Nov 11 2026. No macro, syntax, notation, axiom, sorry.
-/
import Derived.Test.YtnebddbibpbloaaGreatChecked
import GoSem.Claim
import GoSem.ClaimJoined
import GoSem.ClaimMapViews
import Derived.JoinedTies
import Derived.KernelRfl
namespace Go.Proofs.YtnebddbibpbloaaGreat
/- THE CELL 'sum', in the pinned program and in every row, IS THE sha256 OF THE DUMP (.gsa) THAT YtnebddbibpbloaaGreatProg.lean LOADS. Nothing in Lean hashes anything: it is a label: what it is worth is what the hold of that sum in a sandbox is worth. -/
noncomputable def Tryz.pinned : Pinned := { name := "ytnebddbibpbloaagreat", sum := "22ac1f0addbd625ef71720c36f3f8affee2a87f7b07cb90472d3d7565ef635d6", checked := Tryz.checked }
namespace Rows
def none {H : Type} : Left H := { results := [], args := [] }

/-- 'laws.FnExactFarmShares': WHATEVER THE INPUT: true; the input reads as it did. -/
def fnExactFarmSharesSpec : ChangeSpec := { name := "fnExactFarmShares", fn := fun _ => fun
  | [d] => { results := [.lit (.bool true)], args := [d] }
  | _ => none }
def fnExactFarmSharesRow : OpenClaim := { program := "ytnebddbibpbloaagreat", sum := "22ac1f0addbd625ef71720c36f3f8affee2a87f7b07cb90472d3d7565ef635d6", func := "loop.example/g00095/laws.FnExactFarmShares", spec := "fnExactFarmShares", unfollowed := true, recurses := true, named := ["math/bits.divideError", "math/bits.overflowError"], apart := false }
def FnExactFarmSharesSaid : Prop := fnExactFarmSharesRow.holds Tryz.pinned (OpenSpec.ofChange fnExactFarmSharesSpec)

/-- ITS FALSE NEIGHBOUR: 'it returns false'. Refute it at one input. -/
def fnExactFarmSharesWrong : ChangeSpec := { name := "fnExactFarmShares", fn := fun _ => fun
  | [d] => { results := [.lit (.bool false)], args := [d] }
  | _ => none }
def FnExactFarmSharesWrongFalsely : Prop := fnExactFarmSharesRow.holds Tryz.pinned (OpenSpec.ofChange fnExactFarmSharesWrong)

/-- 'laws.FnExactFarmGroups': WHATEVER THE INPUT: true; the input reads as it did. -/
def fnExactFarmGroupsSpec : ChangeSpec := { name := "fnExactFarmGroups", fn := fun _ => fun
  | [d] => { results := [.lit (.bool true)], args := [d] }
  | _ => none }
def fnExactFarmGroupsRow : OpenClaim := { program := "ytnebddbibpbloaagreat", sum := "22ac1f0addbd625ef71720c36f3f8affee2a87f7b07cb90472d3d7565ef635d6", func := "loop.example/g00095/laws.FnExactFarmGroups", spec := "fnExactFarmGroups", unfollowed := true, recurses := true, named := ["math/bits.divideError", "math/bits.overflowError"], apart := false }
def FnExactFarmGroupsSaid : Prop := fnExactFarmGroupsRow.holds Tryz.pinned (OpenSpec.ofChange fnExactFarmGroupsSpec)

/-- ITS FALSE NEIGHBOUR: 'it returns false'. Refute it at one input. -/
def fnExactFarmGroupsWrong : ChangeSpec := { name := "fnExactFarmGroups", fn := fun _ => fun
  | [d] => { results := [.lit (.bool false)], args := [d] }
  | _ => none }
def FnExactFarmGroupsWrongFalsely : Prop := fnExactFarmGroupsRow.holds Tryz.pinned (OpenSpec.ofChange fnExactFarmGroupsWrong)

/-- 'laws.FnExactFarmFair': WHATEVER THE INPUT: true; the input reads as it did. -/
def fnExactFarmFairSpec : ChangeSpec := { name := "fnExactFarmFair", fn := fun _ => fun
  | [d1, d2, d3, d4] => { results := [.lit (.bool true)], args := [d1, d2, d3, d4] }
  | _ => none }
def fnExactFarmFairRow : OpenClaim := { program := "ytnebddbibpbloaagreat", sum := "22ac1f0addbd625ef71720c36f3f8affee2a87f7b07cb90472d3d7565ef635d6", func := "loop.example/g00095/laws.FnExactFarmFair", spec := "fnExactFarmFair", unfollowed := true, recurses := true, named := ["math/bits.divideError", "math/bits.overflowError"], apart := false }
def FnExactFarmFairSaid : Prop := fnExactFarmFairRow.holds Tryz.pinned (OpenSpec.ofChange fnExactFarmFairSpec)

/-- ITS FALSE NEIGHBOUR: 'it returns false'. Refute it at one input. -/
def fnExactFarmFairWrong : ChangeSpec := { name := "fnExactFarmFair", fn := fun _ => fun
  | [d1, d2, d3, d4] => { results := [.lit (.bool false)], args := [d1, d2, d3, d4] }
  | _ => none }
def FnExactFarmFairWrongFalsely : Prop := fnExactFarmFairRow.holds Tryz.pinned (OpenSpec.ofChange fnExactFarmFairWrong)

/- THE SECOND FORM. 'bulk': how many values and letters a reading holds, each counted each time it is reached (what is shared counts as often as it is met; a slice's spare places count too). A statement '..UptoSaid' is the law's where the arguments, and the package variables that the reading takes, are together of bulk at most 1048576: NARROWER than '..Said'. Prove '..Said' where nothing that the law and all that it calls make is longer than what came in: it says more and counts as full. Else prove '..UptoSaid'. A law counts once. -/
mutual
def uptoBulk {H : Type} : DataW H → Nat
  | .lit (.string bytes) => bytes.length + 1
  | .lit _ => 1
  | .nil => 1
  | .ptr d => uptoBulk d + 1
  | .slice elems spare => uptoBulkAll elems + uptoBulkAll spare + 1
  | .agg parts => uptoBulkAll parts + 1
  | .iface _ d => uptoBulk d + 1
  | .map entries => uptoBulkEntries entries + 1
  | .held _ => 1
def uptoBulkAll {H : Type} : List (DataW H) → Nat
  | [] => 0
  | d :: r => uptoBulk d + uptoBulkAll r
def uptoBulkEntries {H : Type} : List (Lit × DataW H) → Nat
  | [] => 0
  | x :: r => uptoBulkEntry x + uptoBulkEntries r
def uptoBulkEntry {H : Type} : Lit × DataW H → Nat
  | (.string bytes, d) => bytes.length + uptoBulk d + 1
  | (_, d) => uptoBulk d + 1
 end
def uptoSmall : (H : Type) → List (DataW H) → Bool := fun _ ds => decide (uptoBulkAll ds ≤ 1048576)
def OpenSpec.upto (s : _root_.Go.ChangeSpec) : _root_.Go.OpenSpec := { _root_.Go.OpenSpec.ofChange s with cond := some uptoSmall }

/-- 'laws.FnExactFarmShares', WHERE WHAT IT READS IS OF BULK AT MOST 1048576: true; the input reads as it did. -/
def fnExactFarmSharesUptoRow : OpenClaim := { program := "ytnebddbibpbloaagreat", sum := "22ac1f0addbd625ef71720c36f3f8affee2a87f7b07cb90472d3d7565ef635d6", func := "loop.example/g00095/laws.FnExactFarmShares", spec := "fnExactFarmShares", unfollowed := true, recurses := true, named := ["math/bits.divideError", "math/bits.overflowError"], apart := false, narrowed := true }
def FnExactFarmSharesUptoSaid : Prop := fnExactFarmSharesUptoRow.holds Tryz.pinned (OpenSpec.upto fnExactFarmSharesSpec)

/-- 'laws.FnExactFarmGroups', WHERE WHAT IT READS IS OF BULK AT MOST 1048576: true; the input reads as it did. -/
def fnExactFarmGroupsUptoRow : OpenClaim := { program := "ytnebddbibpbloaagreat", sum := "22ac1f0addbd625ef71720c36f3f8affee2a87f7b07cb90472d3d7565ef635d6", func := "loop.example/g00095/laws.FnExactFarmGroups", spec := "fnExactFarmGroups", unfollowed := true, recurses := true, named := ["math/bits.divideError", "math/bits.overflowError"], apart := false, narrowed := true }
def FnExactFarmGroupsUptoSaid : Prop := fnExactFarmGroupsUptoRow.holds Tryz.pinned (OpenSpec.upto fnExactFarmGroupsSpec)

/-- 'laws.FnExactFarmFair', WHERE WHAT IT READS IS OF BULK AT MOST 1048576: true; the input reads as it did. -/
def fnExactFarmFairUptoRow : OpenClaim := { program := "ytnebddbibpbloaagreat", sum := "22ac1f0addbd625ef71720c36f3f8affee2a87f7b07cb90472d3d7565ef635d6", func := "loop.example/g00095/laws.FnExactFarmFair", spec := "fnExactFarmFair", unfollowed := true, recurses := true, named := ["math/bits.divideError", "math/bits.overflowError"], apart := false, narrowed := true }
def FnExactFarmFairUptoSaid : Prop := fnExactFarmFairUptoRow.holds Tryz.pinned (OpenSpec.upto fnExactFarmFairSpec)

end Rows
end Go.Proofs.YtnebddbibpbloaaGreat
