/-
  DERIVED. Ints14.
-/
import Derived.WalkMore
import Derived.Test.YtnbgpopjnpdmgaaGreatPbj
import Derived.Test.YtnbgpopjnpdmgaaGreatPax
set_option linter.unusedVariables false
set_option linter.unusedSimpArgs false

namespace Go.Proofs.YtnbgpopjnpdmgaaGreat
open Go Go.RowKit Go.Shelf

set_option maxRecDepth 100000 in
set_option maxHeartbeats 2000000 in
theorem ints14_any (a b : List Int) (A B : Option Addr) (ca cb : Nat) (w : World) (ha : a.length ≤ 1000) (hR : Lies w w.heap.size A (ints a)) (hS : Lies w w.heap.size B (ints b)) :
    Calls Tryz.prog 21 #[.slice A a.length ca, .slice B b.length cb] w fun e w' => e = .returned (.bool (decide (a = b))) ∧ Below w.heap.size w w' := by
  by_cases hlen : a.length = b.length
  · have hlen' : (((a.length : Nat) : Int) != (b.length : Nat)) = false := by rw [hlen]; simp
    have HL := Lib.hid hlen
    clear hlen
    go_enter Tryz.func21, Tryz.ntmps21
    go_wp2
    go_loopw [5] (fun i wr => ∃ k : Nat, k ≤ a.length ∧ i = .int .i64 k ∧ a.take k = b.take k ∧ Below w.heap.size w wr) (fun i _ => a.length - (intOf i).toNat)
    case atStart => exact ⟨0, Nat.zero_le _, rfl, rfl, Below.refl _ _⟩
    case round =>
      obtain ⟨k, hk, rfl, hsame, hB⟩ := hrel
      have HS := Lib.hid hsame
      clear hsame
      by_cases hlt : k < a.length
      · obtain ⟨b1, off1, rfl, hb1, hc1⟩ := (hR.below hB).open_ (by rw [ints_len]; omega)
        obtain ⟨b2, off2, rfl, hb2, hc2⟩ := (hS.below hB).open_ (by rw [ints_len]; have := HL.out; omega)
        obtain ⟨x, hx⟩ : ∃ x, a[k]? = some x := ⟨_, List.getElem?_eq_getElem hlt⟩
        obtain ⟨y, hy⟩ : ∃ y, b[k]? = some y := ⟨_, List.getElem?_eq_getElem (by have := HL.out; omega)⟩
        have hcx := hc1 k _ (ints_get hx)
        have hcy := hc2 k _ (ints_get hy)
        have hkb : k < b.length := by have := HL.out; omega
        have HX := Lib.hid hx
        have HY := Lib.hid hy
        clear hc1 hc2 hx hy
        by_cases hxy : x = y
        · have hq : (x != y) = false := by simpa using hxy
          go_wp2
          go_quiet (fail)
          all_goals
            go_wp2
            go_roundw
            case rel => exact ⟨k + 1, by omega, by go_num, by rw [take_snoc HX.out, take_snoc HY.out, HS.out, hxy], below_drewN hB _⟩
            case measure => simp [intOf]; omega
        · have hq : (x != y) = true := by simpa using hxy
          have hfin : decide (a = b) = false := decide_eq_false (fun e => by subst e; exact hxy (Option.some.inj (HX.out.symm.trans HY.out)))
          have HF := Lib.hid hfin
          clear hfin hxy
          go_wp2
          go_quiet (fail)
          all_goals
            go_wp2
            go_ret
            exact ⟨by rw [HF.out]; rfl, below_drewN hB _⟩
      · obtain rfl : k = a.length := by omega
        have hfin : decide (a = b) = true := by
          have h := HS.out
          rw [List.take_length, HL.out, List.take_length] at h
          exact decide_eq_true h
        have HF := Lib.hid hfin
        clear hfin
        go_wp2
        go_ret
        exact ⟨by rw [HF.out]; rfl, hB⟩
  · have hlen' : (((a.length : Nat) : Int) != (b.length : Nat)) = true := by simp; omega
    have hfin : decide (a = b) = false := decide_eq_false (fun e => hlen (by rw [e]))
    have HF := Lib.hid hfin
    clear hfin hlen
    go_enter Tryz.func21, Tryz.ntmps21
    go_wp2
    go_ret
    exact ⟨by rw [HF.out]; rfl, Below.refl _ _⟩

end Go.Proofs.YtnbgpopjnpdmgaaGreat
