/-
  DERIVED. Arguments of type []int, opened: what they read as; each number fits.
-/
import Derived.Test.YtjgdoogfoaaejaaNums
import Derived.ProofKit
import Derived.OpenShut
import Derived.RangeFuncOwn
namespace Go.Proofs.Ytjgdoogfoaaejaa
open Go Go.RowKit Go.ChangeShapes Go.WideShapes

section
variable {H : Type} {enc : TypeId × Value → H} {w : World} {base : Nat} {spare : Nat → Bool} {held : Bool}
/-- An argument of type []int. -/
theorem open_nums_wf {fuel : Nat} {A : Option Addr} {len cap : Nat} {x : DataW H × List MemPlace} (h : DataW.trod enc Try.prog w base spare held fuel 24 [.slice A len cap] = some x) :
    ∃ l : List Int, l.length = len ∧ (∀ x ∈ l, (Lit.int .i64 x).wf = true) ∧ ReadsI w w.heap.size A l := by
  rcases open_ints Try.underlying24 Try.underlying3 (by kernel_rfl) h with ⟨hcs, _⟩ | ⟨a, l, c, zs, hcs, _, hl, hm, hz, _, hcell, hwz⟩
  · simp at hcs
    obtain ⟨rfl, rfl, rfl⟩ := hcs
    exact ⟨[], rfl, (fun _ h => by cases h), readsI_nil _ _ _⟩
  · simp at hcs
    obtain ⟨rfl, rfl, rfl⟩ := hcs
    have hz2 : len ≤ zs.length := by rw [hz]; split <;> omega
    refine ⟨zs.take len, by rw [List.length_take]; omega, fun x hx => hwz x (List.mem_of_mem_take hx), fun hpos => ?_⟩
    have hlen : 0 < len := by rw [List.length_take] at hpos; omega
    obtain ⟨b, off, spot⟩ := a
    have hc := hcell 0 (by omega)
    have hspot : spot = none := by simpa [Addr.add] using World.cell?_spot hc
    subst hspot
    refine ⟨b, off, rfl, ?_, fun i x hi => ?_⟩
    · obtain ⟨o, ho, _⟩ := cells_of_cell hc
      have := (Array.getElem?_eq_some_iff.1 ho).1
      simpa [Addr.add] using this
    · obtain ⟨hil, he⟩ := List.getElem?_eq_some_iff.1 hi
      rw [List.length_take] at hil
      have hcx := hcell i (by omega)
      rw [Addr.add_lit] at hcx
      rw [hcx]
      rw [List.getElem_take] at he
      simp [List.getD, List.getElem?_eq_getElem (show i < zs.length by omega), he]
end

end Go.Proofs.Ytjgdoogfoaaejaa
