/-
  DERIVED. Nums.
-/
import Derived.WalkKit
import Derived.Lib.Hide
import Derived.Deep.LoopGhost
import Derived.Laws.Rows
import Derived.Outline
import Derived.KernelRfl
import Derived.BigQuiet
import Derived.WalkLawsBesides
import Derived.Maps.Range
import Derived.RangeFuncRecord
import Derived.Test.YtnbgpopjnpdmgaaGreatProg
set_option linter.unusedVariables false
set_option linter.unusedSimpArgs false

namespace Go.Proofs.YtnbgpopjnpdmgaaGreat
open Go Go.RowKit

/-- A slice of ints in memory that lies below block B. -/
def ReadsI (w : World) (B : Nat) (A : Option Addr) (l : List Int) : Prop :=
  0 < l.length → ∃ b off, A = some ⟨b, off, none⟩ ∧ b < B ∧ ∀ (i : Nat) (x : Int), l[i]? = some x → w.cell? ⟨b, off + i, none⟩ = some (.int .i64 x)

theorem ReadsI.below {w w' : World} {B : Nat} {A : Option Addr} {l : List Int} (h : ReadsI w B A l) (hb : Below B w w') : ReadsI w' B A l := fun hl => by
  obtain ⟨b, off, e, hB, hc⟩ := h hl
  exact ⟨b, off, e, hB, fun i x hi => (hb.cell (p := ⟨b, off + i, none⟩) hB).trans (hc i x hi)⟩
theorem ReadsI.more {w : World} {B C : Nat} {A : Option Addr} {l : List Int} (h : ReadsI w B A l) (hBC : B ≤ C) : ReadsI w C A l := fun hl => by
  obtain ⟨b, off, e, hB, hc⟩ := h hl
  exact ⟨b, off, e, by omega, hc⟩
/-- It reads so in every later world. -/
theorem ReadsI.on {w w' : World} {A : Option Addr} {l : List Int} (h : ReadsI w w.heap.size A l) (hb : Below w.heap.size w w') : ReadsI w' w'.heap.size A l := (h.below hb).more hb.size

theorem block_cell {W : World} {B : Nat} {cs : Array Value} {t : TypeId} (h : W.heap[B]? = some (.cells cs t (0, 0))) (i : Nat) : W.cell? ⟨B, i, none⟩ = cs[i]? ∧ W.frozen? ⟨B, i, none⟩ = false := by
  constructor <;> simp [World.cell?, World.frozen?, h]
theorem block_set {W : World} {B : Nat} {v : Value} {t : TypeId} (h : W.heap[B]? = some (.cells #[v] t (0, 0))) (u : Value) : (W.setCell ⟨B, 0, none⟩ u).heap[B]? = some (.cells #[u] t (0, 0)) := by
  simp [World.setCell, Array.getElem?_modify, h]
theorem block_other {W : World} {B C : Nat} {o : Obj} (h : W.heap[B]? = some o) (hne : B ≠ C) (u : Value) : (W.setCell ⟨C, 0, none⟩ u).heap[B]? = some o :=
  (Below.heap_setCell W ⟨C, 0, none⟩ u B hne).trans h
theorem block_lt {W : World} {B : Nat} {o : Obj} (h : W.heap[B]? = some o) : B < W.heap.size := (Array.getElem?_eq_some_iff.1 h).1
theorem block_alloc {W : World} {B : Nat} {o : Obj} (h : W.heap[B]? = some o) (o' : Obj) : (W.alloc o').heap[B]? = some o := (Below.heap_alloc _ _ _ (block_lt h)).trans h

/-- A slice literal reads as its numbers. -/
theorem readsI_block {W : World} {B b : Nat} {l : List Int} {cs : Array Value} {t : TypeId} (h : W.heap[b]? = some (.cells cs t (0, 0))) (hb : b < B) (hc : ∀ (k : Nat) (x : Int), l[k]? = some x → cs[k]? = some (.int .i64 x)) :
    ReadsI W B (some ⟨b, 0, none⟩) l := fun _ => ⟨b, 0, rfl, hb, fun i x hi => by rw [(block_cell h _).1, Nat.zero_add]; exact hc i x hi⟩
theorem readsI_new (W : World) (l : List Int) (t : TypeId) : ReadsI (W.alloc (.cells (l.map (Value.int .i64)).toArray t)) (W.heap.size + 1) (some ⟨W.heap.size, 0, none⟩) l :=
  readsI_block (World.alloc_heap_new W _) (by omega) (fun k x hk => by simp [hk])
theorem readsI_nil (W : World) (B : Nat) (A : Option Addr) : ReadsI W B A [] := fun h => by cases h

theorem take_more {α : Type} {l : List α} {k : Nat} {x : α} (h : l[k]? = some x) : l.take (k + 1) = l.take k ++ [x] := by rw [List.take_add_one, h]; rfl

end Go.Proofs.YtnbgpopjnpdmgaaGreat
