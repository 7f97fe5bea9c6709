/-
  DERIVED. Slices of numbers handed back; sakiaref03.Ints, of two lists of numbers.
-/
import Derived.Test.YtjgdoogfoaaejaaNums
import Derived.OwnWalk
import Derived.Maps.AppendAt
import Derived.Deep.AppendLies
import Derived.WalkSmall
import Derived.WalkMore
namespace Go.Proofs.Ytjgdoogfoaaejaa
open Go Go.RowKit

/-- A slice of numbers is handed back; what lay before lies as it lay. -/
def GivesI (w : World) (l : List Int) (e : Ending) (w' : World) : Prop :=
  ∃ A cap, e = .returned (.slice A l.length cap) ∧ ReadsI w' w'.heap.size A l ∧ Below w.heap.size w w'

/-- A row of the call's own reads as its numbers. -/
theorem reads_own {w : World} {base : Nat} {v : Value} {l : List Int} (h : w.ownsRow base 3 1 v l.length (l.map (Value.int .i64))) : ∃ A cap, v = .slice A l.length cap ∧ ReadsI w w.heap.size A l := by
  by_cases hpos : 0 < l.length
  · obtain ⟨g, cap, hv, _, hlt⟩ := h.form hpos
    refine ⟨some ⟨g, 0, none⟩, cap, hv, fun _ => ⟨g, 0, rfl, hlt, fun i x hi => ?_⟩⟩
    have := h.cells (g := g) (by rw [hv]; rfl) i (.int .i64 x) (by simp [hi])
    simpa [Addr.add_lit] using this
  · have hl : l = [] := List.eq_nil_of_length_eq_zero (by omega)
    subst hl
    rcases h.2 with ⟨rfl, _⟩ | ⟨g, cap, cur, rfl, _⟩
    · exact ⟨none, 0, rfl, readsI_nil _ _ _⟩
    · exact ⟨some ⟨g, 0, none⟩, cap, rfl, readsI_nil _ _ _⟩

/-- A row of the call's own lies from its base on. -/
theorem own_base {w : World} {base : Nat} {e : TypeId} {size n : Nat} {v : Value} {xs : List Value} (h : w.ownsRow base e size v n xs) {g : Nat} (hg : v.ownBlock = some g) : base ≤ g := by
  rcases h.2 with ⟨rfl, _⟩ | ⟨g', cap, cur, rfl, hb, _⟩
  · cases hg
  · have : g' = g := by simpa [Value.ownBlock] using hg
    omega

theorem int_info : (Try.prog.info? 3).map (fun i => (i.zero, i.size, i.bytes)) = some (some (.int .i64 0), 1, 8) := by kernel_rfl

/-! ### Two lists of numbers -/
set_option maxRecDepth 100000 in
set_option maxHeartbeats 2000000 in
theorem ints_any (a b : List Int) (A B : Option Addr) (ca cb : Nat) (w : World) (ha : a.length ≤ 1000000) (hb : b.length ≤ 1000000) (hR : ReadsI w w.heap.size A a) (hS : ReadsI w w.heap.size B b) :
    Calls Try.prog 14 #[.slice A a.length ca, .slice B b.length cb] w fun e w' => e = .returned (.bool (decide (a = b))) ∧ Below w.heap.size w w' := by
  by_cases hlen : a.length = b.length
  · have hlen' : (((a.length : Nat) : Int) != (b.length : Nat)) = false := by rw [hlen]; simp
    have HL := Lib.hid hlen
    clear hlen
    go_enter Try.func14, Try.ntmps14
    go_wp2
    go_loopw [5] (fun i wr => ∃ k : Nat, k ≤ a.length ∧ i = .int .i64 k ∧ a.take k = b.take k ∧ Below w.heap.size w wr) (fun i _ => a.length - (intOf i).toNat)
    case atStart => exact ⟨0, Nat.zero_le _, rfl, rfl, Below.refl _ _⟩
    case round =>
      obtain ⟨k, hk, rfl, hsame, hB⟩ := hrel
      have HS := Lib.hid hsame
      clear hsame
      by_cases hlt : k < a.length
      · obtain ⟨b1, off1, rfl, hb1, hc1⟩ := (hR.below hB) (by omega)
        obtain ⟨b2, off2, rfl, hb2, hc2⟩ := (hS.below hB) (by have := HL.out; omega)
        obtain ⟨x, hx⟩ : ∃ x, a[k]? = some x := ⟨_, List.getElem?_eq_getElem hlt⟩
        obtain ⟨y, hy⟩ : ∃ y, b[k]? = some y := ⟨_, List.getElem?_eq_getElem (by have := HL.out; omega)⟩
        have hcx := hc1 k x hx
        have hcy := hc2 k y hy
        have hkb : k < b.length := by have := HL.out; omega
        have HX := Lib.hid hx
        have HY := Lib.hid hy
        clear hc1 hc2 hx hy
        by_cases hxy : x = y
        · have hq : (x != y) = false := by simpa using hxy
          go_wp2
          go_quiet (fail)
          all_goals
            go_wp2
            go_roundw
            case rel => exact ⟨k + 1, by omega, by go_num, by rw [take_more HX.out, take_more HY.out, HS.out, hxy], below_drewN hB _⟩
            case measure => simp [intOf]; omega
        · have hq : (x != y) = true := by simpa using hxy
          have hfin : decide (a = b) = false := decide_eq_false (fun e => by subst e; exact hxy (Option.some.inj (HX.out.symm.trans HY.out)))
          have HF := Lib.hid hfin
          clear hfin hxy
          go_wp2
          go_quiet (fail)
          all_goals
            go_wp2
            go_ret
            exact ⟨by rw [HF.out]; rfl, below_drewN hB _⟩
      · obtain rfl : k = a.length := by omega
        have hfin : decide (a = b) = true := by
          have h := HS.out
          rw [List.take_length, HL.out, List.take_length] at h
          exact decide_eq_true h
        have HF := Lib.hid hfin
        clear hfin
        go_wp2
        go_ret
        exact ⟨by rw [HF.out]; rfl, hB⟩
  · have hlen' : (((a.length : Nat) : Int) != (b.length : Nat)) = true := by simp; omega
    have hfin : decide (a = b) = false := decide_eq_false (fun e => hlen (by rw [e]))
    have HF := Lib.hid hfin
    clear hfin hlen
    go_enter Try.func14, Try.ntmps14
    go_wp2
    go_ret
    exact ⟨by rw [HF.out]; rfl, Below.refl _ _⟩

end Go.Proofs.Ytjgdoogfoaaejaa
