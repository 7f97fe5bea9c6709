/-
  DERIVED. Configurations in boxes of the call's own.
-/
import Derived.Test.YtjgdoogfoaaejaaConf
namespace Go.Proofs.Ytjgdoogfoaaejaa
open Go Go.RowKit Go.Shelf

theorem Cfg.most_le (c : Cfg) : 0 ≤ c.most ∧ c.most ≤ 8 := by unfold Cfg.most; split <;> omega

/-- A box's cells. -/
theorem cells7 {W : World} {B : Nat} {c : Cfg} {t : TypeId} (h : W.heap[B]? = some (.cells c.cells t (0, 0))) :
    W.cell? ⟨B, 0, none⟩ = some (.int .i64 c.log) ∧ W.cell? ⟨B, 1, none⟩ = some (.int .i64 c.th) ∧ W.cell? ⟨B, 2, none⟩ = some (.int .i64 c.pol) ∧ W.cell? ⟨B, 3, none⟩ = some (.int .i64 c.wt) ∧
    W.cell? ⟨B, 4, none⟩ = some (.int .i64 c.sp) ∧ W.cell? ⟨B, 5, none⟩ = some (.int .i64 c.yi) ∧ W.cell? ⟨B, 6, none⟩ = some (.bool c.single) :=
  ⟨(of_block h 0).1, (of_block h 1).1, (of_block h 2).1, (of_block h 3).1, (of_block h 4).1, (of_block h 5).1, (of_block h 6).1⟩

/-- Boxes of the call's own. -/
def Boxes (w : World) (l : List (Nat × Cfg)) (t : TypeId) (W : World) : Prop :=
  (∀ p ∈ l, W.heap[p.1]? = some (.cells p.2.cells t (0, 0))) ∧ Below w.heap.size w W
theorem Boxes.on {w : World} {l : List (Nat × Cfg)} {t : TypeId} {W V : World} (h : Boxes w l t W) (hb : Below W.heap.size W V) : Boxes w l t V :=
  ⟨fun p hp => (hb.block _ (Array.getElem?_eq_some_iff.1 (h.1 p hp)).1).trans (h.1 p hp), h.2.trans (hb.mono h.2.size)⟩
theorem Boxes.drew {w : World} {l : List (Nat × Cfg)} {t : TypeId} {W : World} (h : Boxes w l t W) : Boxes w l t W.drew := ⟨h.1, h.2.drew⟩
theorem Boxes.add {w : World} {l : List (Nat × Cfg)} {t : TypeId} {W : World} (h : Boxes w l t W) (c : Cfg) : Boxes w ((W.heap.size, c) :: l) t (W.alloc (.cells c.cells t)) :=
  ⟨fun p hp => by
    rcases List.mem_cons.1 hp with rfl | hp
    · exact World.alloc_heap_new W _
    · exact (Below.heap_alloc _ _ _ (Array.getElem?_eq_some_iff.1 (h.1 p hp)).1).trans (h.1 p hp), h.2.alloc h.2.size _⟩
/-- Behind an append onto a row that is no box of these. -/
theorem Boxes.grown {w : World} {B : Nat} {c : Cfg} {t : TypeId} {W V : World} {row : Option Nat} {o : Obj} (h : Boxes w [(B, c)] t W) (hg : (W.alloc o).grownBy V row) (hr : ∀ g, row = some g → B + 1 ≤ g) (hB : w.heap.size ≤ B := by omega) : Boxes w [(B, c)] t V := by
  have h0 := h.1 (B, c) (by simp)
  have hlt := (Array.getElem?_eq_some_iff.1 h0).1
  have b1 : Below (B + 1) (W.alloc o) V := ⟨hg.os, hg.tape, hg.output, hg.size, fun k hk => hg.block k (by rw [World.size_alloc]; omega) (fun e => by have := hr k e.symm; omega)⟩
  have b2 : Below (B + 1) W V := ((Below.refl _ W).alloc (by omega) o).trans b1
  refine ⟨fun p hp => ?_, h.2.trans (b2.mono (by omega))⟩
  obtain rfl : p = (B, c) := by simpa using hp
  exact (b2.block B (by omega)).trans h0
theorem Boxes.at_ {w : World} {l : List (Nat × Cfg)} {t : TypeId} {W : World} (h : Boxes w l t W) {B : Nat} {c : Cfg} (hm : (B, c) ∈ l) : W.heap[B]? = some (.cells c.cells t (0, 0)) := h.1 _ hm
theorem Boxes.nil (w : World) (t : TypeId) : Boxes w [] t w := ⟨(fun _ h => by cases h), Below.refl _ _⟩

end Go.Proofs.Ytjgdoogfoaaejaa
