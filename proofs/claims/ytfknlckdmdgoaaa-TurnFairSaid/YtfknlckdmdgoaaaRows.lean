/-
  No cell of these rows narrows 'for every input' (looked for: loops, veiled, ifaces, maps, wideKeys, modest, calm, conditions, laid).
  DERIVED. THE GIVEN ROWS OF THIS SEAT. 4 by the template 'for every input the law returns true; each argument reads behind the call as it read before'; 0 by the template 'total and deterministic' (their statements: YtfknlckdmdgoaaaTotals.lean).
  GIVEN WITH THE SEED: the statements are not yours to turn. If you find one false, say at which input.
  Laid BY PROGRAM, IN A SANDBOX (cutbox-rows.mjs): the forced cells as the released guide's own fill.sh prints them over the translation de417084a00b3cd3… (all of the seat's roots in one cut). By AI agents, Wed Nov 11 2026. No macro, syntax, notation, axiom, sorry.
-/
import Derived.Test.YtfknlckdmdgoaaaChecked
import GoSem.Claim
import GoSem.ClaimJoined
import GoSem.ClaimMapViews
import Derived.JoinedTies
import Derived.KernelRfl
namespace Go.Proofs.Ytfknlckdmdgoaaa
/- THE CELL 'sum', in the pinned program and in every row, IS THE sha256 OF THE DUMP (.gsa) THAT YtfknlckdmdgoaaaProg.lean LOADS. Nothing in Lean hashes anything: it is a label: what it is worth is what the hold of that sum in a sandbox is worth. -/
noncomputable def Try.pinned : Pinned := { name := "ytfknlckdmdgoaaa", sum := "de417084a00b3cd3d24bff9f8071443d4b1515eb16b1706abf7c4e7644d2aa48", checked := Try.checked }
namespace Rows
def none {H : Type} : Left H := { results := [], args := [] }

/-- 'sakialaw10.TurnFair': WHATEVER THE INPUT: true; the input reads as it did. -/
def turnFairSpec : ChangeSpec := { name := "turnFair", fn := fun _ => fun
  | [d1, d2, d3, d4] => { results := [.lit (.bool true)], args := [d1, d2, d3, d4] }
  | _ => none }
def turnFairRow : OpenClaim := { program := "ytfknlckdmdgoaaa", sum := "de417084a00b3cd3d24bff9f8071443d4b1515eb16b1706abf7c4e7644d2aa48", func := "sakia/sakialaw10.TurnFair", spec := "turnFair", unfollowed := true, recurses := true, apart := false }
def TurnFairSaid : Prop := turnFairRow.holds Try.pinned (OpenSpec.ofChange turnFairSpec)

/-- ITS FALSE NEIGHBOUR: 'it returns false'. Refute it at one input. -/
def turnFairWrong : ChangeSpec := { name := "turnFair", fn := fun _ => fun
  | [d1, d2, d3, d4] => { results := [.lit (.bool false)], args := [d1, d2, d3, d4] }
  | _ => none }
def TurnFairWrongFalsely : Prop := turnFairRow.holds Try.pinned (OpenSpec.ofChange turnFairWrong)

/-- 'sakialaw10.TurnLeast': WHATEVER THE INPUT: true; the input reads as it did. -/
def turnLeastSpec : ChangeSpec := { name := "turnLeast", fn := fun _ => fun
  | [d1, d2] => { results := [.lit (.bool true)], args := [d1, d2] }
  | _ => none }
def turnLeastRow : OpenClaim := { program := "ytfknlckdmdgoaaa", sum := "de417084a00b3cd3d24bff9f8071443d4b1515eb16b1706abf7c4e7644d2aa48", func := "sakia/sakialaw10.TurnLeast", spec := "turnLeast", unfollowed := true, recurses := true, apart := false }
def TurnLeastSaid : Prop := turnLeastRow.holds Try.pinned (OpenSpec.ofChange turnLeastSpec)

/-- ITS FALSE NEIGHBOUR: 'it returns false'. Refute it at one input. -/
def turnLeastWrong : ChangeSpec := { name := "turnLeast", fn := fun _ => fun
  | [d1, d2] => { results := [.lit (.bool false)], args := [d1, d2] }
  | _ => none }
def TurnLeastWrongFalsely : Prop := turnLeastRow.holds Try.pinned (OpenSpec.ofChange turnLeastWrong)

/-- 'sakialaw10.TurnRobin': WHATEVER THE INPUT: true; the input reads as it did. -/
def turnRobinSpec : ChangeSpec := { name := "turnRobin", fn := fun _ => fun
  | [d1, d2, d3] => { results := [.lit (.bool true)], args := [d1, d2, d3] }
  | _ => none }
def turnRobinRow : OpenClaim := { program := "ytfknlckdmdgoaaa", sum := "de417084a00b3cd3d24bff9f8071443d4b1515eb16b1706abf7c4e7644d2aa48", func := "sakia/sakialaw10.TurnRobin", spec := "turnRobin", unfollowed := true, recurses := true, apart := false }
def TurnRobinSaid : Prop := turnRobinRow.holds Try.pinned (OpenSpec.ofChange turnRobinSpec)

/-- ITS FALSE NEIGHBOUR: 'it returns false'. Refute it at one input. -/
def turnRobinWrong : ChangeSpec := { name := "turnRobin", fn := fun _ => fun
  | [d1, d2, d3] => { results := [.lit (.bool false)], args := [d1, d2, d3] }
  | _ => none }
def TurnRobinWrongFalsely : Prop := turnRobinRow.holds Try.pinned (OpenSpec.ofChange turnRobinWrong)

/-- 'sakialaw10.TurnGaps': WHATEVER THE INPUT: true; the input reads as it did. -/
def turnGapsSpec : ChangeSpec := { name := "turnGaps", fn := fun _ => fun
  | [d1, d2, d3] => { results := [.lit (.bool true)], args := [d1, d2, d3] }
  | _ => none }
def turnGapsRow : OpenClaim := { program := "ytfknlckdmdgoaaa", sum := "de417084a00b3cd3d24bff9f8071443d4b1515eb16b1706abf7c4e7644d2aa48", func := "sakia/sakialaw10.TurnGaps", spec := "turnGaps", unfollowed := true, recurses := true, apart := false }
def TurnGapsSaid : Prop := turnGapsRow.holds Try.pinned (OpenSpec.ofChange turnGapsSpec)

/-- ITS FALSE NEIGHBOUR: 'it returns false'. Refute it at one input. -/
def turnGapsWrong : ChangeSpec := { name := "turnGaps", fn := fun _ => fun
  | [d1, d2, d3] => { results := [.lit (.bool false)], args := [d1, d2, d3] }
  | _ => none }
def TurnGapsWrongFalsely : Prop := turnGapsRow.holds Try.pinned (OpenSpec.ofChange turnGapsWrong)

/- THE SECOND FORM. 'bulk': how many values and letters a reading holds, each counted each time it is reached (what is shared counts as often as it is met; a slice's spare places count too). A statement '..UptoSaid' is the law's where the arguments, and the package variables that the reading takes, are together of bulk at most 1048576: NARROWER than '..Said'. Prove '..Said' where nothing that the law and all that it calls make is longer than what came in: it says more and counts as full. Else prove '..UptoSaid'. A law counts once. -/
mutual
def uptoBulk {H : Type} : DataW H → Nat
  | .lit (.string bytes) => bytes.length + 1
  | .lit _ => 1
  | .nil => 1
  | .ptr d => uptoBulk d + 1
  | .slice elems spare => uptoBulkAll elems + uptoBulkAll spare + 1
  | .agg parts => uptoBulkAll parts + 1
  | .iface _ d => uptoBulk d + 1
  | .map entries => uptoBulkEntries entries + 1
  | .held _ => 1
def uptoBulkAll {H : Type} : List (DataW H) → Nat
  | [] => 0
  | d :: r => uptoBulk d + uptoBulkAll r
def uptoBulkEntries {H : Type} : List (Lit × DataW H) → Nat
  | [] => 0
  | x :: r => uptoBulkEntry x + uptoBulkEntries r
def uptoBulkEntry {H : Type} : Lit × DataW H → Nat
  | (.string bytes, d) => bytes.length + uptoBulk d + 1
  | (_, d) => uptoBulk d + 1
 end
def uptoSmall : (H : Type) → List (DataW H) → Bool := fun _ ds => decide (uptoBulkAll ds ≤ 1048576)
def OpenSpec.upto (s : _root_.Go.ChangeSpec) : _root_.Go.OpenSpec := { _root_.Go.OpenSpec.ofChange s with cond := some uptoSmall }

/-- 'sakialaw10.TurnFair', WHERE WHAT IT READS IS OF BULK AT MOST 1048576: true; the input reads as it did. -/
def turnFairUptoRow : OpenClaim := { program := "ytfknlckdmdgoaaa", sum := "de417084a00b3cd3d24bff9f8071443d4b1515eb16b1706abf7c4e7644d2aa48", func := "sakia/sakialaw10.TurnFair", spec := "turnFair", unfollowed := true, recurses := true, apart := false, narrowed := true }
def TurnFairUptoSaid : Prop := turnFairUptoRow.holds Try.pinned (OpenSpec.upto turnFairSpec)

/-- 'sakialaw10.TurnLeast', WHERE WHAT IT READS IS OF BULK AT MOST 1048576: true; the input reads as it did. -/
def turnLeastUptoRow : OpenClaim := { program := "ytfknlckdmdgoaaa", sum := "de417084a00b3cd3d24bff9f8071443d4b1515eb16b1706abf7c4e7644d2aa48", func := "sakia/sakialaw10.TurnLeast", spec := "turnLeast", unfollowed := true, recurses := true, apart := false, narrowed := true }
def TurnLeastUptoSaid : Prop := turnLeastUptoRow.holds Try.pinned (OpenSpec.upto turnLeastSpec)

/-- 'sakialaw10.TurnRobin', WHERE WHAT IT READS IS OF BULK AT MOST 1048576: true; the input reads as it did. -/
def turnRobinUptoRow : OpenClaim := { program := "ytfknlckdmdgoaaa", sum := "de417084a00b3cd3d24bff9f8071443d4b1515eb16b1706abf7c4e7644d2aa48", func := "sakia/sakialaw10.TurnRobin", spec := "turnRobin", unfollowed := true, recurses := true, apart := false, narrowed := true }
def TurnRobinUptoSaid : Prop := turnRobinUptoRow.holds Try.pinned (OpenSpec.upto turnRobinSpec)

/-- 'sakialaw10.TurnGaps', WHERE WHAT IT READS IS OF BULK AT MOST 1048576: true; the input reads as it did. -/
def turnGapsUptoRow : OpenClaim := { program := "ytfknlckdmdgoaaa", sum := "de417084a00b3cd3d24bff9f8071443d4b1515eb16b1706abf7c4e7644d2aa48", func := "sakia/sakialaw10.TurnGaps", spec := "turnGaps", unfollowed := true, recurses := true, apart := false, narrowed := true }
def TurnGapsUptoSaid : Prop := turnGapsUptoRow.holds Try.pinned (OpenSpec.upto turnGapsSpec)

end Rows
end Go.Proofs.Ytfknlckdmdgoaaa
