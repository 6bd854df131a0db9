/-
  No cell of these rows narrows 'for every input' (looked for: loops, veiled, ifaces, maps, wideKeys, modest, calm, conditions, laid).
  DERIVED. THE GIVEN ROWS OF THIS SEAT. 3 by the template 'for every input the law returns true; each argument reads behind the call as it read before'; 0 by the template 'total and deterministic' (their statements: YtmgahpicfjpjaaaGreatTotals.lean).
  GIVEN WITH THE SEED: the statements are not yours to turn. If you find one false, say at which input.
  Laid BY PROGRAM, IN A SANDBOX (cutbox-rows.mjs): the forced cells as the released guide's own fill.sh prints them over the translation ccbb75d8a353aa9d… (all of the seat's roots in one cut). By AI agents, Wed Nov 11 2026. No macro, syntax, notation, axiom, sorry.
-/
import Derived.Test.YtmgahpicfjpjaaaGreatChecked
import GoSem.Claim
import GoSem.ClaimJoined
import GoSem.ClaimMapViews
import Derived.JoinedTies
import Derived.KernelRfl
namespace Go.Proofs.YtmgahpicfjpjaaaGreat
/- THE CELL 'sum', in the pinned program and in every row, IS THE sha256 OF THE DUMP (.gsa) THAT YtmgahpicfjpjaaaGreatProg.lean LOADS. Nothing in Lean hashes anything: it is a label: what it is worth is what the hold of that sum in a sandbox is worth. -/
noncomputable def Tryz.pinned : Pinned := { name := "ytmgahpicfjpjaaagreat", sum := "ccbb75d8a353aa9d61a4874d68b981f64e15b05a1759c0c5d42ab678bfbe7fbe", checked := Tryz.checked }
namespace Rows
def none {H : Type} : Left H := { results := [], args := [] }

/-- 'laws.FnExactServerDo': WHATEVER THE INPUT: true; the input reads as it did. -/
def fnExactServerDoSpec : ChangeSpec := { name := "fnExactServerDo", fn := fun _ => fun
  | [d1, d2] => { results := [.lit (.bool true)], args := [d1, d2] }
  | _ => none }
def fnExactServerDoRow : OpenClaim := { program := "ytmgahpicfjpjaaagreat", sum := "ccbb75d8a353aa9d61a4874d68b981f64e15b05a1759c0c5d42ab678bfbe7fbe", func := "loop.example/g00095/laws.FnExactServerDo", spec := "fnExactServerDo", inPlace := ["slices.overlaps[loop.example/g00095/impl.Member]", "slices.overlaps[loop.example/g00095/impl.Lease]", "slices.overlaps[loop.example/g00095/impl.Group]"], unfollowed := true, recurses := true, named := ["math/bits.divideError", "math/bits.overflowError"], apart := false }
def FnExactServerDoSaid : Prop := fnExactServerDoRow.holds Tryz.pinned (OpenSpec.ofChange fnExactServerDoSpec)

/-- ITS FALSE NEIGHBOUR: 'it returns false'. Refute it at one input. -/
def fnExactServerDoWrong : ChangeSpec := { name := "fnExactServerDo", fn := fun _ => fun
  | [d1, d2] => { results := [.lit (.bool false)], args := [d1, d2] }
  | _ => none }
def FnExactServerDoWrongFalsely : Prop := fnExactServerDoRow.holds Tryz.pinned (OpenSpec.ofChange fnExactServerDoWrong)

/-- 'laws.FnExactServerRun': WHATEVER THE INPUT: true; the input reads as it did. -/
def fnExactServerRunSpec : ChangeSpec := { name := "fnExactServerRun", fn := fun _ => fun
  | [d1, d2] => { results := [.lit (.bool true)], args := [d1, d2] }
  | _ => none }
def fnExactServerRunRow : OpenClaim := { program := "ytmgahpicfjpjaaagreat", sum := "ccbb75d8a353aa9d61a4874d68b981f64e15b05a1759c0c5d42ab678bfbe7fbe", func := "loop.example/g00095/laws.FnExactServerRun", spec := "fnExactServerRun", inPlace := ["slices.overlaps[loop.example/g00095/impl.Member]", "slices.overlaps[loop.example/g00095/impl.Lease]", "slices.overlaps[loop.example/g00095/impl.Group]"], unfollowed := true, recurses := true, named := ["math/bits.divideError", "math/bits.overflowError"], apart := false }
def FnExactServerRunSaid : Prop := fnExactServerRunRow.holds Tryz.pinned (OpenSpec.ofChange fnExactServerRunSpec)

/-- ITS FALSE NEIGHBOUR: 'it returns false'. Refute it at one input. -/
def fnExactServerRunWrong : ChangeSpec := { name := "fnExactServerRun", fn := fun _ => fun
  | [d1, d2] => { results := [.lit (.bool false)], args := [d1, d2] }
  | _ => none }
def FnExactServerRunWrongFalsely : Prop := fnExactServerRunRow.holds Tryz.pinned (OpenSpec.ofChange fnExactServerRunWrong)

/-- 'laws.FnExactServerEnd': WHATEVER THE INPUT: true; the input reads as it did. -/
def fnExactServerEndSpec : ChangeSpec := { name := "fnExactServerEnd", fn := fun _ => fun
  | [d1, d2] => { results := [.lit (.bool true)], args := [d1, d2] }
  | _ => none }
def fnExactServerEndRow : OpenClaim := { program := "ytmgahpicfjpjaaagreat", sum := "ccbb75d8a353aa9d61a4874d68b981f64e15b05a1759c0c5d42ab678bfbe7fbe", func := "loop.example/g00095/laws.FnExactServerEnd", spec := "fnExactServerEnd", inPlace := ["slices.overlaps[loop.example/g00095/impl.Member]", "slices.overlaps[loop.example/g00095/impl.Lease]", "slices.overlaps[loop.example/g00095/impl.Group]"], unfollowed := true, recurses := true, named := ["math/bits.divideError", "math/bits.overflowError"], apart := false }
def FnExactServerEndSaid : Prop := fnExactServerEndRow.holds Tryz.pinned (OpenSpec.ofChange fnExactServerEndSpec)

/-- ITS FALSE NEIGHBOUR: 'it returns false'. Refute it at one input. -/
def fnExactServerEndWrong : ChangeSpec := { name := "fnExactServerEnd", fn := fun _ => fun
  | [d1, d2] => { results := [.lit (.bool false)], args := [d1, d2] }
  | _ => none }
def FnExactServerEndWrongFalsely : Prop := fnExactServerEndRow.holds Tryz.pinned (OpenSpec.ofChange fnExactServerEndWrong)

/- THE SECOND FORM. 'bulk': how many values and letters a reading holds, each counted each time it is reached (what is shared counts as often as it is met; a slice's spare places count too). A statement '..UptoSaid' is the law's where the arguments, and the package variables that the reading takes, are together of bulk at most 1048576: NARROWER than '..Said'. Prove '..Said' where nothing that the law and all that it calls make is longer than what came in: it says more and counts as full. Else prove '..UptoSaid'. A law counts once. -/
mutual
def uptoBulk {H : Type} : DataW H → Nat
  | .lit (.string bytes) => bytes.length + 1
  | .lit _ => 1
  | .nil => 1
  | .ptr d => uptoBulk d + 1
  | .slice elems spare => uptoBulkAll elems + uptoBulkAll spare + 1
  | .agg parts => uptoBulkAll parts + 1
  | .iface _ d => uptoBulk d + 1
  | .map entries => uptoBulkEntries entries + 1
  | .held _ => 1
def uptoBulkAll {H : Type} : List (DataW H) → Nat
  | [] => 0
  | d :: r => uptoBulk d + uptoBulkAll r
def uptoBulkEntries {H : Type} : List (Lit × DataW H) → Nat
  | [] => 0
  | x :: r => uptoBulkEntry x + uptoBulkEntries r
def uptoBulkEntry {H : Type} : Lit × DataW H → Nat
  | (.string bytes, d) => bytes.length + uptoBulk d + 1
  | (_, d) => uptoBulk d + 1
 end
def uptoSmall : (H : Type) → List (DataW H) → Bool := fun _ ds => decide (uptoBulkAll ds ≤ 1048576)
def OpenSpec.upto (s : _root_.Go.ChangeSpec) : _root_.Go.OpenSpec := { _root_.Go.OpenSpec.ofChange s with cond := some uptoSmall }

/-- 'laws.FnExactServerDo', WHERE WHAT IT READS IS OF BULK AT MOST 1048576: true; the input reads as it did. -/
def fnExactServerDoUptoRow : OpenClaim := { program := "ytmgahpicfjpjaaagreat", sum := "ccbb75d8a353aa9d61a4874d68b981f64e15b05a1759c0c5d42ab678bfbe7fbe", func := "loop.example/g00095/laws.FnExactServerDo", spec := "fnExactServerDo", inPlace := ["slices.overlaps[loop.example/g00095/impl.Member]", "slices.overlaps[loop.example/g00095/impl.Lease]", "slices.overlaps[loop.example/g00095/impl.Group]"], unfollowed := true, recurses := true, named := ["math/bits.divideError", "math/bits.overflowError"], apart := false, narrowed := true }
def FnExactServerDoUptoSaid : Prop := fnExactServerDoUptoRow.holds Tryz.pinned (OpenSpec.upto fnExactServerDoSpec)

/-- 'laws.FnExactServerRun', WHERE WHAT IT READS IS OF BULK AT MOST 1048576: true; the input reads as it did. -/
def fnExactServerRunUptoRow : OpenClaim := { program := "ytmgahpicfjpjaaagreat", sum := "ccbb75d8a353aa9d61a4874d68b981f64e15b05a1759c0c5d42ab678bfbe7fbe", func := "loop.example/g00095/laws.FnExactServerRun", spec := "fnExactServerRun", inPlace := ["slices.overlaps[loop.example/g00095/impl.Member]", "slices.overlaps[loop.example/g00095/impl.Lease]", "slices.overlaps[loop.example/g00095/impl.Group]"], unfollowed := true, recurses := true, named := ["math/bits.divideError", "math/bits.overflowError"], apart := false, narrowed := true }
def FnExactServerRunUptoSaid : Prop := fnExactServerRunUptoRow.holds Tryz.pinned (OpenSpec.upto fnExactServerRunSpec)

/-- 'laws.FnExactServerEnd', WHERE WHAT IT READS IS OF BULK AT MOST 1048576: true; the input reads as it did. -/
def fnExactServerEndUptoRow : OpenClaim := { program := "ytmgahpicfjpjaaagreat", sum := "ccbb75d8a353aa9d61a4874d68b981f64e15b05a1759c0c5d42ab678bfbe7fbe", func := "loop.example/g00095/laws.FnExactServerEnd", spec := "fnExactServerEnd", inPlace := ["slices.overlaps[loop.example/g00095/impl.Member]", "slices.overlaps[loop.example/g00095/impl.Lease]", "slices.overlaps[loop.example/g00095/impl.Group]"], unfollowed := true, recurses := true, named := ["math/bits.divideError", "math/bits.overflowError"], apart := false, narrowed := true }
def FnExactServerEndUptoSaid : Prop := fnExactServerEndUptoRow.holds Tryz.pinned (OpenSpec.upto fnExactServerEndSpec)

end Rows
end Go.Proofs.YtmgahpicfjpjaaaGreat
