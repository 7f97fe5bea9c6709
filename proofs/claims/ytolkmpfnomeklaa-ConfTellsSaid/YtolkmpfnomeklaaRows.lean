/-
  No cell of these rows narrows 'for every input' (looked for: loops, veiled, ifaces, maps, wideKeys, modest, calm, conditions, laid).
  DERIVED. THE GIVEN ROWS OF THIS SEAT. 6 by the template 'for every input the law returns true; each argument reads behind the call as it read before'; 0 by the template 'total and deterministic' (their statements: YtolkmpfnomeklaaTotals.lean).
  GIVEN WITH THE SEED: the statements are not yours to turn. If you find one false, say at which input.
  Laid BY PROGRAM, IN A SANDBOX (cutbox-rows.mjs): the forced cells as the released guide's own fill.sh prints them over the translation 8e3b958918e60721… (all of the seat's roots in one cut). By AI agents, Wed Nov 11 2026. No macro, syntax, notation, axiom, sorry.
-/
import Derived.Test.YtolkmpfnomeklaaChecked
import GoSem.Claim
import GoSem.ClaimJoined
import GoSem.ClaimMapViews
import Derived.JoinedTies
import Derived.KernelRfl
namespace Go.Proofs.Ytolkmpfnomeklaa
/- THE CELL 'sum', in the pinned program and in every row, IS THE sha256 OF THE DUMP (.gsa) THAT YtolkmpfnomeklaaProg.lean LOADS. Nothing in Lean hashes anything: it is a label: what it is worth is what the hold of that sum in a sandbox is worth. -/
noncomputable def Try.pinned : Pinned := { name := "ytolkmpfnomeklaa", sum := "8e3b958918e6072183a5d7e1d50f0ddca6034b4b1525d08f9eaa6efd80aaa9df", checked := Try.checked }
namespace Rows
def none {H : Type} : Left H := { results := [], args := [] }

/-- 'sakialaw02.ConfTells': WHATEVER THE INPUT: true; the input reads as it did. -/
def confTellsSpec : ChangeSpec := { name := "confTells", fn := fun _ => fun
  | [d1, d2] => { results := [.lit (.bool true)], args := [d1, d2] }
  | _ => none }
def confTellsRow : OpenClaim := { program := "ytolkmpfnomeklaa", sum := "8e3b958918e6072183a5d7e1d50f0ddca6034b4b1525d08f9eaa6efd80aaa9df", func := "sakia/sakialaw02.ConfTells", spec := "confTells", unfollowed := true, recurses := true, apart := false }
def ConfTellsSaid : Prop := confTellsRow.holds Try.pinned (OpenSpec.ofChange confTellsSpec)

/-- ITS FALSE NEIGHBOUR: 'it returns false'. Refute it at one input. -/
def confTellsWrong : ChangeSpec := { name := "confTells", fn := fun _ => fun
  | [d1, d2] => { results := [.lit (.bool false)], args := [d1, d2] }
  | _ => none }
def ConfTellsWrongFalsely : Prop := confTellsRow.holds Try.pinned (OpenSpec.ofChange confTellsWrong)

/-- 'sakialaw02.ConfRoom': WHATEVER THE INPUT: true; the input reads as it did. -/
def confRoomSpec : ChangeSpec := { name := "confRoom", fn := fun _ => fun
  | [d] => { results := [.lit (.bool true)], args := [d] }
  | _ => none }
def confRoomRow : OpenClaim := { program := "ytolkmpfnomeklaa", sum := "8e3b958918e6072183a5d7e1d50f0ddca6034b4b1525d08f9eaa6efd80aaa9df", func := "sakia/sakialaw02.ConfRoom", spec := "confRoom", unfollowed := true, recurses := true, apart := false }
def ConfRoomSaid : Prop := confRoomRow.holds Try.pinned (OpenSpec.ofChange confRoomSpec)

/-- ITS FALSE NEIGHBOUR: 'it returns false'. Refute it at one input. -/
def confRoomWrong : ChangeSpec := { name := "confRoom", fn := fun _ => fun
  | [d] => { results := [.lit (.bool false)], args := [d] }
  | _ => none }
def ConfRoomWrongFalsely : Prop := confRoomRow.holds Try.pinned (OpenSpec.ofChange confRoomWrong)

/-- 'sakialaw02.ConfEdges': WHATEVER THE INPUT: true; the input reads as it did. -/
def confEdgesSpec : ChangeSpec := { name := "confEdges", fn := fun _ => fun
  | [d] => { results := [.lit (.bool true)], args := [d] }
  | _ => none }
def confEdgesRow : OpenClaim := { program := "ytolkmpfnomeklaa", sum := "8e3b958918e6072183a5d7e1d50f0ddca6034b4b1525d08f9eaa6efd80aaa9df", func := "sakia/sakialaw02.ConfEdges", spec := "confEdges", unfollowed := true, recurses := true, apart := false }
def ConfEdgesSaid : Prop := confEdgesRow.holds Try.pinned (OpenSpec.ofChange confEdgesSpec)

/-- ITS FALSE NEIGHBOUR: 'it returns false'. Refute it at one input. -/
def confEdgesWrong : ChangeSpec := { name := "confEdges", fn := fun _ => fun
  | [d] => { results := [.lit (.bool false)], args := [d] }
  | _ => none }
def ConfEdgesWrongFalsely : Prop := confEdgesRow.holds Try.pinned (OpenSpec.ofChange confEdgesWrong)

/-- 'sakialaw02.ConfTries': WHATEVER THE INPUT: true; the input reads as it did. -/
def confTriesSpec : ChangeSpec := { name := "confTries", fn := fun _ => fun
  | [d] => { results := [.lit (.bool true)], args := [d] }
  | _ => none }
def confTriesRow : OpenClaim := { program := "ytolkmpfnomeklaa", sum := "8e3b958918e6072183a5d7e1d50f0ddca6034b4b1525d08f9eaa6efd80aaa9df", func := "sakia/sakialaw02.ConfTries", spec := "confTries", unfollowed := true, recurses := true, apart := false }
def ConfTriesSaid : Prop := confTriesRow.holds Try.pinned (OpenSpec.ofChange confTriesSpec)

/-- ITS FALSE NEIGHBOUR: 'it returns false'. Refute it at one input. -/
def confTriesWrong : ChangeSpec := { name := "confTries", fn := fun _ => fun
  | [d] => { results := [.lit (.bool false)], args := [d] }
  | _ => none }
def ConfTriesWrongFalsely : Prop := confTriesRow.holds Try.pinned (OpenSpec.ofChange confTriesWrong)

/-- 'sakialaw02.ConfCounts': WHATEVER THE INPUT: true; the input reads as it did. -/
def confCountsSpec : ChangeSpec := { name := "confCounts", fn := fun _ => fun
  | [d1, d2] => { results := [.lit (.bool true)], args := [d1, d2] }
  | _ => none }
def confCountsRow : OpenClaim := { program := "ytolkmpfnomeklaa", sum := "8e3b958918e6072183a5d7e1d50f0ddca6034b4b1525d08f9eaa6efd80aaa9df", func := "sakia/sakialaw02.ConfCounts", spec := "confCounts", unfollowed := true, recurses := true, apart := false }
def ConfCountsSaid : Prop := confCountsRow.holds Try.pinned (OpenSpec.ofChange confCountsSpec)

/-- ITS FALSE NEIGHBOUR: 'it returns false'. Refute it at one input. -/
def confCountsWrong : ChangeSpec := { name := "confCounts", fn := fun _ => fun
  | [d1, d2] => { results := [.lit (.bool false)], args := [d1, d2] }
  | _ => none }
def ConfCountsWrongFalsely : Prop := confCountsRow.holds Try.pinned (OpenSpec.ofChange confCountsWrong)

/-- 'sakialaw02.ConfAlike': WHATEVER THE INPUT: true; the input reads as it did. -/
def confAlikeSpec : ChangeSpec := { name := "confAlike", fn := fun _ => fun
  | [d1, d2] => { results := [.lit (.bool true)], args := [d1, d2] }
  | _ => none }
def confAlikeRow : OpenClaim := { program := "ytolkmpfnomeklaa", sum := "8e3b958918e6072183a5d7e1d50f0ddca6034b4b1525d08f9eaa6efd80aaa9df", func := "sakia/sakialaw02.ConfAlike", spec := "confAlike", unfollowed := true, recurses := true, apart := false }
def ConfAlikeSaid : Prop := confAlikeRow.holds Try.pinned (OpenSpec.ofChange confAlikeSpec)

/-- ITS FALSE NEIGHBOUR: 'it returns false'. Refute it at one input. -/
def confAlikeWrong : ChangeSpec := { name := "confAlike", fn := fun _ => fun
  | [d1, d2] => { results := [.lit (.bool false)], args := [d1, d2] }
  | _ => none }
def ConfAlikeWrongFalsely : Prop := confAlikeRow.holds Try.pinned (OpenSpec.ofChange confAlikeWrong)

/- THE SECOND FORM. 'bulk': how many values and letters a reading holds, each counted each time it is reached (what is shared counts as often as it is met; a slice's spare places count too). A statement '..UptoSaid' is the law's where the arguments, and the package variables that the reading takes, are together of bulk at most 1048576: NARROWER than '..Said'. Prove '..Said' where nothing that the law and all that it calls make is longer than what came in: it says more and counts as full. Else prove '..UptoSaid'. A law counts once. -/
mutual
def uptoBulk {H : Type} : DataW H → Nat
  | .lit (.string bytes) => bytes.length + 1
  | .lit _ => 1
  | .nil => 1
  | .ptr d => uptoBulk d + 1
  | .slice elems spare => uptoBulkAll elems + uptoBulkAll spare + 1
  | .agg parts => uptoBulkAll parts + 1
  | .iface _ d => uptoBulk d + 1
  | .map entries => uptoBulkEntries entries + 1
  | .held _ => 1
def uptoBulkAll {H : Type} : List (DataW H) → Nat
  | [] => 0
  | d :: r => uptoBulk d + uptoBulkAll r
def uptoBulkEntries {H : Type} : List (Lit × DataW H) → Nat
  | [] => 0
  | x :: r => uptoBulkEntry x + uptoBulkEntries r
def uptoBulkEntry {H : Type} : Lit × DataW H → Nat
  | (.string bytes, d) => bytes.length + uptoBulk d + 1
  | (_, d) => uptoBulk d + 1
 end
def uptoSmall : (H : Type) → List (DataW H) → Bool := fun _ ds => decide (uptoBulkAll ds ≤ 1048576)
def OpenSpec.upto (s : _root_.Go.ChangeSpec) : _root_.Go.OpenSpec := { _root_.Go.OpenSpec.ofChange s with cond := some uptoSmall }

/-- 'sakialaw02.ConfTells', WHERE WHAT IT READS IS OF BULK AT MOST 1048576: true; the input reads as it did. -/
def confTellsUptoRow : OpenClaim := { program := "ytolkmpfnomeklaa", sum := "8e3b958918e6072183a5d7e1d50f0ddca6034b4b1525d08f9eaa6efd80aaa9df", func := "sakia/sakialaw02.ConfTells", spec := "confTells", unfollowed := true, recurses := true, apart := false, narrowed := true }
def ConfTellsUptoSaid : Prop := confTellsUptoRow.holds Try.pinned (OpenSpec.upto confTellsSpec)

/-- 'sakialaw02.ConfRoom', WHERE WHAT IT READS IS OF BULK AT MOST 1048576: true; the input reads as it did. -/
def confRoomUptoRow : OpenClaim := { program := "ytolkmpfnomeklaa", sum := "8e3b958918e6072183a5d7e1d50f0ddca6034b4b1525d08f9eaa6efd80aaa9df", func := "sakia/sakialaw02.ConfRoom", spec := "confRoom", unfollowed := true, recurses := true, apart := false, narrowed := true }
def ConfRoomUptoSaid : Prop := confRoomUptoRow.holds Try.pinned (OpenSpec.upto confRoomSpec)

/-- 'sakialaw02.ConfEdges', WHERE WHAT IT READS IS OF BULK AT MOST 1048576: true; the input reads as it did. -/
def confEdgesUptoRow : OpenClaim := { program := "ytolkmpfnomeklaa", sum := "8e3b958918e6072183a5d7e1d50f0ddca6034b4b1525d08f9eaa6efd80aaa9df", func := "sakia/sakialaw02.ConfEdges", spec := "confEdges", unfollowed := true, recurses := true, apart := false, narrowed := true }
def ConfEdgesUptoSaid : Prop := confEdgesUptoRow.holds Try.pinned (OpenSpec.upto confEdgesSpec)

/-- 'sakialaw02.ConfTries', WHERE WHAT IT READS IS OF BULK AT MOST 1048576: true; the input reads as it did. -/
def confTriesUptoRow : OpenClaim := { program := "ytolkmpfnomeklaa", sum := "8e3b958918e6072183a5d7e1d50f0ddca6034b4b1525d08f9eaa6efd80aaa9df", func := "sakia/sakialaw02.ConfTries", spec := "confTries", unfollowed := true, recurses := true, apart := false, narrowed := true }
def ConfTriesUptoSaid : Prop := confTriesUptoRow.holds Try.pinned (OpenSpec.upto confTriesSpec)

/-- 'sakialaw02.ConfCounts', WHERE WHAT IT READS IS OF BULK AT MOST 1048576: true; the input reads as it did. -/
def confCountsUptoRow : OpenClaim := { program := "ytolkmpfnomeklaa", sum := "8e3b958918e6072183a5d7e1d50f0ddca6034b4b1525d08f9eaa6efd80aaa9df", func := "sakia/sakialaw02.ConfCounts", spec := "confCounts", unfollowed := true, recurses := true, apart := false, narrowed := true }
def ConfCountsUptoSaid : Prop := confCountsUptoRow.holds Try.pinned (OpenSpec.upto confCountsSpec)

/-- 'sakialaw02.ConfAlike', WHERE WHAT IT READS IS OF BULK AT MOST 1048576: true; the input reads as it did. -/
def confAlikeUptoRow : OpenClaim := { program := "ytolkmpfnomeklaa", sum := "8e3b958918e6072183a5d7e1d50f0ddca6034b4b1525d08f9eaa6efd80aaa9df", func := "sakia/sakialaw02.ConfAlike", spec := "confAlike", unfollowed := true, recurses := true, apart := false, narrowed := true }
def ConfAlikeUptoSaid : Prop := confAlikeUptoRow.holds Try.pinned (OpenSpec.upto confAlikeSpec)

end Rows
end Go.Proofs.Ytolkmpfnomeklaa
