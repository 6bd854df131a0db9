/-
  No cell of these rows narrows 'for every input' (looked for: loops, veiled, ifaces, maps, wideKeys, modest, calm, conditions, laid).
  DERIVED. THE GIVEN ROWS OF THIS SEAT. 4 by the template 'for every input the law returns true; each argument reads behind the call as it read before'; 0 by the template 'total and deterministic' (their statements: YtcdmhjnofdoobaaTotals.lean).
  GIVEN WITH THE SEED: the statements are not yours to turn. If you find one false, say at which input.
  Laid BY PROGRAM, IN A SANDBOX (cutbox-rows.mjs): the forced cells as the released guide's own fill.sh prints them over the translation a64b0aa456482c02… (all of the seat's roots in one cut). By AI agents, Wed Nov 11 2026. No macro, syntax, notation, axiom, sorry.
-/
import Derived.Test.YtcdmhjnofdoobaaChecked
import GoSem.Claim
import GoSem.ClaimJoined
import GoSem.ClaimMapViews
import Derived.JoinedTies
import Derived.KernelRfl
namespace Go.Proofs.Ytcdmhjnofdoobaa
/- THE CELL 'sum', in the pinned program and in every row, IS THE sha256 OF THE DUMP (.gsa) THAT YtcdmhjnofdoobaaProg.lean LOADS. Nothing in Lean hashes anything: it is a label: what it is worth is what the hold of that sum in a sandbox is worth. -/
noncomputable def Try.pinned : Pinned := { name := "ytcdmhjnofdoobaa", sum := "a64b0aa456482c02a91b5c24dcdb175c8a514ed56bb5c3666fe26f7458714a22", checked := Try.checked }
namespace Rows
def none {H : Type} : Left H := { results := [], args := [] }

/-- 'laws.FnExactFarmWant': WHATEVER THE INPUT: true; the input reads as it did. -/
def fnExactFarmWantSpec : ChangeSpec := { name := "fnExactFarmWant", fn := fun _ => fun
  | [d1, d2] => { results := [.lit (.bool true)], args := [d1, d2] }
  | _ => none }
def fnExactFarmWantRow : OpenClaim := { program := "ytcdmhjnofdoobaa", sum := "a64b0aa456482c02a91b5c24dcdb175c8a514ed56bb5c3666fe26f7458714a22", func := "loop.example/g00095/laws.FnExactFarmWant", spec := "fnExactFarmWant", unfollowed := true, recurses := true, apart := false }
def FnExactFarmWantSaid : Prop := fnExactFarmWantRow.holds Try.pinned (OpenSpec.ofChange fnExactFarmWantSpec)

/-- ITS FALSE NEIGHBOUR: 'it returns false'. Refute it at one input. -/
def fnExactFarmWantWrong : ChangeSpec := { name := "fnExactFarmWant", fn := fun _ => fun
  | [d1, d2] => { results := [.lit (.bool false)], args := [d1, d2] }
  | _ => none }
def FnExactFarmWantWrongFalsely : Prop := fnExactFarmWantRow.holds Try.pinned (OpenSpec.ofChange fnExactFarmWantWrong)

/-- 'laws.FnExactRelayRight': WHATEVER THE INPUT: true; the input reads as it did. -/
def fnExactRelayRightSpec : ChangeSpec := { name := "fnExactRelayRight", fn := fun _ => fun
  | [d] => { results := [.lit (.bool true)], args := [d] }
  | _ => none }
def fnExactRelayRightRow : OpenClaim := { program := "ytcdmhjnofdoobaa", sum := "a64b0aa456482c02a91b5c24dcdb175c8a514ed56bb5c3666fe26f7458714a22", func := "loop.example/g00095/laws.FnExactRelayRight", spec := "fnExactRelayRight", unfollowed := true, recurses := true, apart := false }
def FnExactRelayRightSaid : Prop := fnExactRelayRightRow.holds Try.pinned (OpenSpec.ofChange fnExactRelayRightSpec)

/-- ITS FALSE NEIGHBOUR: 'it returns false'. Refute it at one input. -/
def fnExactRelayRightWrong : ChangeSpec := { name := "fnExactRelayRight", fn := fun _ => fun
  | [d] => { results := [.lit (.bool false)], args := [d] }
  | _ => none }
def FnExactRelayRightWrongFalsely : Prop := fnExactRelayRightRow.holds Try.pinned (OpenSpec.ofChange fnExactRelayRightWrong)

/-- 'laws.FnExactRelayNew': WHATEVER THE INPUT: true; the input reads as it did. -/
def fnExactRelayNewSpec : ChangeSpec := { name := "fnExactRelayNew", fn := fun _ => fun
  | [d1, d2, d3] => { results := [.lit (.bool true)], args := [d1, d2, d3] }
  | _ => none }
def fnExactRelayNewRow : OpenClaim := { program := "ytcdmhjnofdoobaa", sum := "a64b0aa456482c02a91b5c24dcdb175c8a514ed56bb5c3666fe26f7458714a22", func := "loop.example/g00095/laws.FnExactRelayNew", spec := "fnExactRelayNew", unfollowed := true, recurses := true, apart := false }
def FnExactRelayNewSaid : Prop := fnExactRelayNewRow.holds Try.pinned (OpenSpec.ofChange fnExactRelayNewSpec)

/-- ITS FALSE NEIGHBOUR: 'it returns false'. Refute it at one input. -/
def fnExactRelayNewWrong : ChangeSpec := { name := "fnExactRelayNew", fn := fun _ => fun
  | [d1, d2, d3] => { results := [.lit (.bool false)], args := [d1, d2, d3] }
  | _ => none }
def FnExactRelayNewWrongFalsely : Prop := fnExactRelayNewRow.holds Try.pinned (OpenSpec.ofChange fnExactRelayNewWrong)

/-- 'laws.FnExactRelayWant': WHATEVER THE INPUT: true; the input reads as it did. -/
def fnExactRelayWantSpec : ChangeSpec := { name := "fnExactRelayWant", fn := fun _ => fun
  | [d] => { results := [.lit (.bool true)], args := [d] }
  | _ => none }
def fnExactRelayWantRow : OpenClaim := { program := "ytcdmhjnofdoobaa", sum := "a64b0aa456482c02a91b5c24dcdb175c8a514ed56bb5c3666fe26f7458714a22", func := "loop.example/g00095/laws.FnExactRelayWant", spec := "fnExactRelayWant", unfollowed := true, recurses := true, apart := false }
def FnExactRelayWantSaid : Prop := fnExactRelayWantRow.holds Try.pinned (OpenSpec.ofChange fnExactRelayWantSpec)

/-- ITS FALSE NEIGHBOUR: 'it returns false'. Refute it at one input. -/
def fnExactRelayWantWrong : ChangeSpec := { name := "fnExactRelayWant", fn := fun _ => fun
  | [d] => { results := [.lit (.bool false)], args := [d] }
  | _ => none }
def FnExactRelayWantWrongFalsely : Prop := fnExactRelayWantRow.holds Try.pinned (OpenSpec.ofChange fnExactRelayWantWrong)

/- THE SECOND FORM. 'bulk': how many values and letters a reading holds, each counted each time it is reached (what is shared counts as often as it is met; a slice's spare places count too). A statement '..UptoSaid' is the law's where the arguments, and the package variables that the reading takes, are together of bulk at most 1048576: NARROWER than '..Said'. Prove '..Said' where nothing that the law and all that it calls make is longer than what came in: it says more and counts as full. Else prove '..UptoSaid'. A law counts once. -/
mutual
def uptoBulk {H : Type} : DataW H → Nat
  | .lit (.string bytes) => bytes.length + 1
  | .lit _ => 1
  | .nil => 1
  | .ptr d => uptoBulk d + 1
  | .slice elems spare => uptoBulkAll elems + uptoBulkAll spare + 1
  | .agg parts => uptoBulkAll parts + 1
  | .iface _ d => uptoBulk d + 1
  | .map entries => uptoBulkEntries entries + 1
  | .held _ => 1
def uptoBulkAll {H : Type} : List (DataW H) → Nat
  | [] => 0
  | d :: r => uptoBulk d + uptoBulkAll r
def uptoBulkEntries {H : Type} : List (Lit × DataW H) → Nat
  | [] => 0
  | x :: r => uptoBulkEntry x + uptoBulkEntries r
def uptoBulkEntry {H : Type} : Lit × DataW H → Nat
  | (.string bytes, d) => bytes.length + uptoBulk d + 1
  | (_, d) => uptoBulk d + 1
 end
def uptoSmall : (H : Type) → List (DataW H) → Bool := fun _ ds => decide (uptoBulkAll ds ≤ 1048576)
def OpenSpec.upto (s : _root_.Go.ChangeSpec) : _root_.Go.OpenSpec := { _root_.Go.OpenSpec.ofChange s with cond := some uptoSmall }

/-- 'laws.FnExactFarmWant', WHERE WHAT IT READS IS OF BULK AT MOST 1048576: true; the input reads as it did. -/
def fnExactFarmWantUptoRow : OpenClaim := { program := "ytcdmhjnofdoobaa", sum := "a64b0aa456482c02a91b5c24dcdb175c8a514ed56bb5c3666fe26f7458714a22", func := "loop.example/g00095/laws.FnExactFarmWant", spec := "fnExactFarmWant", unfollowed := true, recurses := true, apart := false, narrowed := true }
def FnExactFarmWantUptoSaid : Prop := fnExactFarmWantUptoRow.holds Try.pinned (OpenSpec.upto fnExactFarmWantSpec)

/-- 'laws.FnExactRelayRight', WHERE WHAT IT READS IS OF BULK AT MOST 1048576: true; the input reads as it did. -/
def fnExactRelayRightUptoRow : OpenClaim := { program := "ytcdmhjnofdoobaa", sum := "a64b0aa456482c02a91b5c24dcdb175c8a514ed56bb5c3666fe26f7458714a22", func := "loop.example/g00095/laws.FnExactRelayRight", spec := "fnExactRelayRight", unfollowed := true, recurses := true, apart := false, narrowed := true }
def FnExactRelayRightUptoSaid : Prop := fnExactRelayRightUptoRow.holds Try.pinned (OpenSpec.upto fnExactRelayRightSpec)

/-- 'laws.FnExactRelayNew', WHERE WHAT IT READS IS OF BULK AT MOST 1048576: true; the input reads as it did. -/
def fnExactRelayNewUptoRow : OpenClaim := { program := "ytcdmhjnofdoobaa", sum := "a64b0aa456482c02a91b5c24dcdb175c8a514ed56bb5c3666fe26f7458714a22", func := "loop.example/g00095/laws.FnExactRelayNew", spec := "fnExactRelayNew", unfollowed := true, recurses := true, apart := false, narrowed := true }
def FnExactRelayNewUptoSaid : Prop := fnExactRelayNewUptoRow.holds Try.pinned (OpenSpec.upto fnExactRelayNewSpec)

/-- 'laws.FnExactRelayWant', WHERE WHAT IT READS IS OF BULK AT MOST 1048576: true; the input reads as it did. -/
def fnExactRelayWantUptoRow : OpenClaim := { program := "ytcdmhjnofdoobaa", sum := "a64b0aa456482c02a91b5c24dcdb175c8a514ed56bb5c3666fe26f7458714a22", func := "loop.example/g00095/laws.FnExactRelayWant", spec := "fnExactRelayWant", unfollowed := true, recurses := true, apart := false, narrowed := true }
def FnExactRelayWantUptoSaid : Prop := fnExactRelayWantUptoRow.holds Try.pinned (OpenSpec.upto fnExactRelayWantSpec)

end Rows
end Go.Proofs.Ytcdmhjnofdoobaa
