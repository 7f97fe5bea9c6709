/-
  DERIVED. sakiaref07's functions: the document's answer for layer 7. (Printed by mk_ref07.py.)
-/
import Derived.Test.YtjgdoogfoaaejaaPlainW
namespace Go.Proofs.Ytjgdoogfoaaejaa
open Go Go.RowKit Go.Shelf

set_option maxRecDepth 100000 in
set_option maxHeartbeats 2000000 in
theorem refMany_any (l : List Int) (A : Option Addr) (cap : Nat) (n : Int) (w : World) (hl : l.length ≤ 1000) (hR : ReadsI w w.heap.size A l) :
    Calls Try.prog 17 #[.slice A l.length cap, .int .i64 n] w fun e w' => e = .returned (.int .i64 (cnts l n)) ∧ Below w.heap.size w w' := by
  go_enter Try.func17, Try.ntmps17
  go_wp2
  go_loopw [5, 6] (fun v i wr => ∃ k : Nat, k ≤ l.length ∧ i = .int .i64 k ∧ v = .int .i64 (cnts (l.take k) n) ∧ Below w.heap.size w wr) (fun _ i _ => l.length - (intOf i).toNat)
  case atStart => exact ⟨0, Nat.zero_le _, rfl, rfl, Below.refl _ _⟩
  case round =>
    obtain ⟨k, hk, rfl, rfl, hB⟩ := hrel
    by_cases hlt : k < l.length
    · obtain ⟨b, off, rfl, hb, hc⟩ := (hR.below hB) (by omega)
      obtain ⟨x, hx⟩ : ∃ x, l[k]? = some x := ⟨_, List.getElem?_eq_getElem hlt⟩
      have hcx := hc k x hx
      have hsn : cnts (l.take (k + 1)) n = cnts (l.take k) n + if x = n then 1 else 0 := by rw [take_more hx, cnts_snoc]
      have hbd := cnts_bounds (l.take k) n
      have hlk : (l.take k).length ≤ 1000 := by rw [List.length_take]; omega
      obtain ⟨b1, b2⟩ := hbd
      have b3 : cnts (l.take k) n ≤ 1000 := by omega
      have HSN := Lib.hid hsn
      generalize cnts (l.take k) n = q at *
      clear hsn b2 hlk hx hc hR
      by_cases he : x = n
      · subst he
        go_wp2
        go_roundw
        case rel => exact ⟨k + 1, by omega, by go_num, by rw [HSN.out, if_pos rfl], hB⟩
        case measure => simp [intOf]; omega
      · have he' : (x == n) = false := by simpa using he
        have HE := Lib.hid he
        clear he
        go_wp2
        go_roundw
        case rel => exact ⟨k + 1, by omega, by go_num, by rw [HSN.out, if_neg HE.out, Int.add_zero], hB⟩
        case measure => simp [intOf]; omega
    · obtain rfl : k = l.length := by omega
      rw [List.take_length]
      go_wp2
      go_ret
      exact ⟨rfl, hB⟩

end Go.Proofs.Ytjgdoogfoaaejaa
