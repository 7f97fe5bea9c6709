/-
  No cell of these rows narrows 'for every input' (looked for: loops, veiled, ifaces, maps, wideKeys, modest, calm, conditions, laid).
  DERIVED. THE GIVEN ROWS OF THIS SEAT. 5 by the template 'for every input the law returns true; each argument reads behind the call as it read before'; 0 by the template 'total and deterministic' (their statements: YtjgdoogfoaaejaaTotals.lean).
  GIVEN WITH THE SEED: the statements are not yours to turn. If you find one false, say at which input.
  Laid BY PROGRAM, IN A SANDBOX (cutbox-rows.mjs): the forced cells as the released guide's own fill.sh prints them over the translation 9bae2227365ded88… (all of the seat's roots in one cut). By AI agents, Wed Nov 11 2026. No macro, syntax, notation, axiom, sorry.
-/
import Derived.Test.YtjgdoogfoaaejaaChecked
import GoSem.Claim
import GoSem.ClaimJoined
import GoSem.ClaimMapViews
import Derived.JoinedTies
import Derived.KernelRfl
namespace Go.Proofs.Ytjgdoogfoaaejaa
/- THE CELL 'sum', in the pinned program and in every row, IS THE sha256 OF THE DUMP (.gsa) THAT YtjgdoogfoaaejaaProg.lean LOADS. Nothing in Lean hashes anything: it is a label: what it is worth is what the hold of that sum in a sandbox is worth. -/
noncomputable def Try.pinned : Pinned := { name := "ytjgdoogfoaaejaa", sum := "9bae2227365ded888df641258204210f44eec495bf2e6f9b5ba6f11a4eb4e9f0", checked := Try.checked }
namespace Rows
def none {H : Type} : Left H := { results := [], args := [] }

/-- 'sakialaw07.WaitTells': WHATEVER THE INPUT: true; the input reads as it did. -/
def waitTellsSpec : ChangeSpec := { name := "waitTells", fn := fun _ => fun
  | [d1, d2, d3, d4] => { results := [.lit (.bool true)], args := [d1, d2, d3, d4] }
  | _ => none }
def waitTellsRow : OpenClaim := { program := "ytjgdoogfoaaejaa", sum := "9bae2227365ded888df641258204210f44eec495bf2e6f9b5ba6f11a4eb4e9f0", func := "sakia/sakialaw07.WaitTells", spec := "waitTells", unfollowed := true, recurses := true, apart := false }
def WaitTellsSaid : Prop := waitTellsRow.holds Try.pinned (OpenSpec.ofChange waitTellsSpec)

/-- ITS FALSE NEIGHBOUR: 'it returns false'. Refute it at one input. -/
def waitTellsWrong : ChangeSpec := { name := "waitTells", fn := fun _ => fun
  | [d1, d2, d3, d4] => { results := [.lit (.bool false)], args := [d1, d2, d3, d4] }
  | _ => none }
def WaitTellsWrongFalsely : Prop := waitTellsRow.holds Try.pinned (OpenSpec.ofChange waitTellsWrong)

/-- 'sakialaw07.WaitRises': WHATEVER THE INPUT: true; the input reads as it did. -/
def waitRisesSpec : ChangeSpec := { name := "waitRises", fn := fun _ => fun
  | [d1, d2, d3] => { results := [.lit (.bool true)], args := [d1, d2, d3] }
  | _ => none }
def waitRisesRow : OpenClaim := { program := "ytjgdoogfoaaejaa", sum := "9bae2227365ded888df641258204210f44eec495bf2e6f9b5ba6f11a4eb4e9f0", func := "sakia/sakialaw07.WaitRises", spec := "waitRises", unfollowed := true, recurses := true, apart := false }
def WaitRisesSaid : Prop := waitRisesRow.holds Try.pinned (OpenSpec.ofChange waitRisesSpec)

/-- ITS FALSE NEIGHBOUR: 'it returns false'. Refute it at one input. -/
def waitRisesWrong : ChangeSpec := { name := "waitRises", fn := fun _ => fun
  | [d1, d2, d3] => { results := [.lit (.bool false)], args := [d1, d2, d3] }
  | _ => none }
def WaitRisesWrongFalsely : Prop := waitRisesRow.holds Try.pinned (OpenSpec.ofChange waitRisesWrong)

/-- 'sakialaw07.WaitUntil': WHATEVER THE INPUT: true; the input reads as it did. -/
def waitUntilSpec : ChangeSpec := { name := "waitUntil", fn := fun _ => fun
  | [d1, d2] => { results := [.lit (.bool true)], args := [d1, d2] }
  | _ => none }
def waitUntilRow : OpenClaim := { program := "ytjgdoogfoaaejaa", sum := "9bae2227365ded888df641258204210f44eec495bf2e6f9b5ba6f11a4eb4e9f0", func := "sakia/sakialaw07.WaitUntil", spec := "waitUntil", unfollowed := true, recurses := true, apart := false }
def WaitUntilSaid : Prop := waitUntilRow.holds Try.pinned (OpenSpec.ofChange waitUntilSpec)

/-- ITS FALSE NEIGHBOUR: 'it returns false'. Refute it at one input. -/
def waitUntilWrong : ChangeSpec := { name := "waitUntil", fn := fun _ => fun
  | [d1, d2] => { results := [.lit (.bool false)], args := [d1, d2] }
  | _ => none }
def WaitUntilWrongFalsely : Prop := waitUntilRow.holds Try.pinned (OpenSpec.ofChange waitUntilWrong)

/-- 'sakialaw07.WaitSpent': WHATEVER THE INPUT: true; the input reads as it did. -/
def waitSpentSpec : ChangeSpec := { name := "waitSpent", fn := fun _ => fun
  | [d1, d2] => { results := [.lit (.bool true)], args := [d1, d2] }
  | _ => none }
def waitSpentRow : OpenClaim := { program := "ytjgdoogfoaaejaa", sum := "9bae2227365ded888df641258204210f44eec495bf2e6f9b5ba6f11a4eb4e9f0", func := "sakia/sakialaw07.WaitSpent", spec := "waitSpent", unfollowed := true, recurses := true, apart := false }
def WaitSpentSaid : Prop := waitSpentRow.holds Try.pinned (OpenSpec.ofChange waitSpentSpec)

/-- ITS FALSE NEIGHBOUR: 'it returns false'. Refute it at one input. -/
def waitSpentWrong : ChangeSpec := { name := "waitSpent", fn := fun _ => fun
  | [d1, d2] => { results := [.lit (.bool false)], args := [d1, d2] }
  | _ => none }
def WaitSpentWrongFalsely : Prop := waitSpentRow.holds Try.pinned (OpenSpec.ofChange waitSpentWrong)

/-- 'sakialaw07.WaitWalks': WHATEVER THE INPUT: true; the input reads as it did. -/
def waitWalksSpec : ChangeSpec := { name := "waitWalks", fn := fun _ => fun
  | [d1, d2, d3] => { results := [.lit (.bool true)], args := [d1, d2, d3] }
  | _ => none }
def waitWalksRow : OpenClaim := { program := "ytjgdoogfoaaejaa", sum := "9bae2227365ded888df641258204210f44eec495bf2e6f9b5ba6f11a4eb4e9f0", func := "sakia/sakialaw07.WaitWalks", spec := "waitWalks", unfollowed := true, recurses := true, apart := false }
def WaitWalksSaid : Prop := waitWalksRow.holds Try.pinned (OpenSpec.ofChange waitWalksSpec)

/-- ITS FALSE NEIGHBOUR: 'it returns false'. Refute it at one input. -/
def waitWalksWrong : ChangeSpec := { name := "waitWalks", fn := fun _ => fun
  | [d1, d2, d3] => { results := [.lit (.bool false)], args := [d1, d2, d3] }
  | _ => none }
def WaitWalksWrongFalsely : Prop := waitWalksRow.holds Try.pinned (OpenSpec.ofChange waitWalksWrong)

/- THE SECOND FORM. 'bulk': how many values and letters a reading holds, each counted each time it is reached (what is shared counts as often as it is met; a slice's spare places count too). A statement '..UptoSaid' is the law's where the arguments, and the package variables that the reading takes, are together of bulk at most 1048576: NARROWER than '..Said'. Prove '..Said' where nothing that the law and all that it calls make is longer than what came in: it says more and counts as full. Else prove '..UptoSaid'. A law counts once. -/
mutual
def uptoBulk {H : Type} : DataW H → Nat
  | .lit (.string bytes) => bytes.length + 1
  | .lit _ => 1
  | .nil => 1
  | .ptr d => uptoBulk d + 1
  | .slice elems spare => uptoBulkAll elems + uptoBulkAll spare + 1
  | .agg parts => uptoBulkAll parts + 1
  | .iface _ d => uptoBulk d + 1
  | .map entries => uptoBulkEntries entries + 1
  | .held _ => 1
def uptoBulkAll {H : Type} : List (DataW H) → Nat
  | [] => 0
  | d :: r => uptoBulk d + uptoBulkAll r
def uptoBulkEntries {H : Type} : List (Lit × DataW H) → Nat
  | [] => 0
  | x :: r => uptoBulkEntry x + uptoBulkEntries r
def uptoBulkEntry {H : Type} : Lit × DataW H → Nat
  | (.string bytes, d) => bytes.length + uptoBulk d + 1
  | (_, d) => uptoBulk d + 1
 end
def uptoSmall : (H : Type) → List (DataW H) → Bool := fun _ ds => decide (uptoBulkAll ds ≤ 1048576)
def OpenSpec.upto (s : _root_.Go.ChangeSpec) : _root_.Go.OpenSpec := { _root_.Go.OpenSpec.ofChange s with cond := some uptoSmall }

/-- 'sakialaw07.WaitTells', WHERE WHAT IT READS IS OF BULK AT MOST 1048576: true; the input reads as it did. -/
def waitTellsUptoRow : OpenClaim := { program := "ytjgdoogfoaaejaa", sum := "9bae2227365ded888df641258204210f44eec495bf2e6f9b5ba6f11a4eb4e9f0", func := "sakia/sakialaw07.WaitTells", spec := "waitTells", unfollowed := true, recurses := true, apart := false, narrowed := true }
def WaitTellsUptoSaid : Prop := waitTellsUptoRow.holds Try.pinned (OpenSpec.upto waitTellsSpec)

/-- 'sakialaw07.WaitRises', WHERE WHAT IT READS IS OF BULK AT MOST 1048576: true; the input reads as it did. -/
def waitRisesUptoRow : OpenClaim := { program := "ytjgdoogfoaaejaa", sum := "9bae2227365ded888df641258204210f44eec495bf2e6f9b5ba6f11a4eb4e9f0", func := "sakia/sakialaw07.WaitRises", spec := "waitRises", unfollowed := true, recurses := true, apart := false, narrowed := true }
def WaitRisesUptoSaid : Prop := waitRisesUptoRow.holds Try.pinned (OpenSpec.upto waitRisesSpec)

/-- 'sakialaw07.WaitUntil', WHERE WHAT IT READS IS OF BULK AT MOST 1048576: true; the input reads as it did. -/
def waitUntilUptoRow : OpenClaim := { program := "ytjgdoogfoaaejaa", sum := "9bae2227365ded888df641258204210f44eec495bf2e6f9b5ba6f11a4eb4e9f0", func := "sakia/sakialaw07.WaitUntil", spec := "waitUntil", unfollowed := true, recurses := true, apart := false, narrowed := true }
def WaitUntilUptoSaid : Prop := waitUntilUptoRow.holds Try.pinned (OpenSpec.upto waitUntilSpec)

/-- 'sakialaw07.WaitSpent', WHERE WHAT IT READS IS OF BULK AT MOST 1048576: true; the input reads as it did. -/
def waitSpentUptoRow : OpenClaim := { program := "ytjgdoogfoaaejaa", sum := "9bae2227365ded888df641258204210f44eec495bf2e6f9b5ba6f11a4eb4e9f0", func := "sakia/sakialaw07.WaitSpent", spec := "waitSpent", unfollowed := true, recurses := true, apart := false, narrowed := true }
def WaitSpentUptoSaid : Prop := waitSpentUptoRow.holds Try.pinned (OpenSpec.upto waitSpentSpec)

/-- 'sakialaw07.WaitWalks', WHERE WHAT IT READS IS OF BULK AT MOST 1048576: true; the input reads as it did. -/
def waitWalksUptoRow : OpenClaim := { program := "ytjgdoogfoaaejaa", sum := "9bae2227365ded888df641258204210f44eec495bf2e6f9b5ba6f11a4eb4e9f0", func := "sakia/sakialaw07.WaitWalks", spec := "waitWalks", unfollowed := true, recurses := true, apart := false, narrowed := true }
def WaitWalksUptoSaid : Prop := waitWalksUptoRow.holds Try.pinned (OpenSpec.upto waitWalksSpec)

end Rows
end Go.Proofs.Ytjgdoogfoaaejaa
