/-
  DERIVED. Slot.
-/
import Derived.Laws.CopyOwn
import Derived.Test.YtnbgpopjnpdmgaaGreatPal
set_option linter.unusedVariables false
set_option linter.unusedSimpArgs false

namespace Go.Proofs.YtnbgpopjnpdmgaaGreat
open Go Go.RowKit Go.Shelf

/-- Places from i on may be, of n. -/
def slotsFrom (n : Int) : Int → List Pl → Bool
  | _, [] => true
  | i, s :: r => (decide (0 ≤ s.stamp) && (decide (s.stamp ≤ 2199023255552) && decide (place s.stamp n = i))) && slotsFrom n (i + 1) r
def slotsOk (l : List Pl) : Bool := slotsFrom l.length 0 l && (decide (1 ≤ l.length) && decide (l.length ≤ 64))
theorem pls_len (l : List Pl) : (pls l).length = l.length * 2 := flat_len (k := 2) (fun _ => rfl) l
theorem pls_at {l : List Pl} {i : Nat} {x : Pl} (h : l[i]? = some x) : (pls l)[i * 2]? = some (.int .i64 x.stamp) ∧ (pls l)[i * 2 + 1]? = some (.int .i64 x.val) :=
  ⟨flat_at (f := Pl.cells) (k := 2) (fun _ => rfl) h (j := 0) rfl, flat_at (f := Pl.cells) (k := 2) (fun _ => rfl) h (j := 1) rfl⟩
theorem drop_at {α : Type} {l : List α} {k : Nat} {x : α} (h : l[k]? = some x) : l.drop k = x :: l.drop (k + 1) := by
  have hlt := (List.getElem?_eq_some_iff.1 h).1
  rw [List.drop_eq_getElem_cons hlt]
  congr 1
  exact (List.getElem?_eq_some_iff.1 h).2
theorem slotsFrom_at {n : Int} {l : List Pl} : ∀ {i : Int} {k : Nat} {x : Pl}, slotsFrom n i l = true → l[k]? = some x → 0 ≤ x.stamp ∧ x.stamp ≤ 2199023255552 ∧ place x.stamp n = i + k := by
  induction l with
  | nil => intro i k x _ h; simp at h
  | cons a l ih =>
    intro i k x h hk
    simp only [slotsFrom, Bool.and_eq_true, decide_eq_true_eq] at h
    cases k with
    | zero =>
      obtain rfl : a = x := by simpa using hk
      exact ⟨h.1.1, h.1.2.1, by simpa using h.1.2.2⟩
    | succ k =>
      obtain ⟨a1, a2, a3⟩ := ih h.2 (by simpa using hk)
      exact ⟨a1, a2, by rw [a3]; push_cast; omega⟩
theorem place_lt {p n : Int} (hn : 1 ≤ n) : 0 ≤ place p n ∧ place p n < n := by
  unfold place
  split
  · exact ⟨Int.emod_nonneg _ (by omega), Int.emod_lt_of_pos _ (by omega)⟩
  · omega

set_option maxRecDepth 100000 in
set_option maxHeartbeats 4000000 in
theorem slotCheck_any (l : List Pl) (A : Option Addr) (c : Nat) (w : World) (hl : l.length ≤ 100000) (hA : Lies w w.heap.size A (pls l)) :
    Calls Tryz.prog 44 #[.slice A l.length c] w fun e w' => e = .returned (.bool (slotsOk l)) ∧ Below w.heap.size w w' := by
  go_enter Tryz.func44, Tryz.ntmps44
  go_wp2
  go_loopw [7] (fun i wr => ∃ k : Nat, k ≤ l.length ∧ i = .int .i64 k ∧ slotsFrom l.length 0 l = slotsFrom l.length k (l.drop k) ∧ Below w.heap.size w wr) (fun i _ => l.length - (intOf i).toNat)
  case atStart => exact ⟨0, Nat.zero_le _, rfl, rfl, Below.refl _ _⟩
  case round =>
    obtain ⟨k, hk, rfl, hs, hB⟩ := hrel
    have HS := Lib.hid hs
    clear hs
    by_cases hlt : k < l.length
    · obtain ⟨y, hy⟩ : ∃ y, l[k]? = some y := ⟨_, List.getElem?_eq_getElem hlt⟩
      obtain ⟨b, off, rfl, hb, hc⟩ := (hA.below hB).open_ (by rw [pls_len]; omega)
      have c0 := hc _ _ (pls_at hy).1
      have c1 := hc _ _ (pls_at hy).2
      have P := fun W => pos_place y.stamp l.length W
      have hd := drop_at hy
      have hsz := hB.size
      obtain ⟨ys, yv⟩ := y
      dsimp only at *
      have hstep : slotsFrom l.length 0 l = ((decide (0 ≤ ys) && (decide (ys ≤ 2199023255552) && decide (place ys l.length = k))) && slotsFrom l.length ((k : Int) + 1) (l.drop (k + 1))) := by rw [HS.out, hd]; rfl
      have hfull : slotsOk l = (slotsFrom l.length 0 l && (decide (1 ≤ l.length) && decide (l.length ≤ 64))) := rfl
      have HT := Lib.hid hstep
      have HF := Lib.hid hfull
      clear hc hy hd hA HS hstep hfull
      generalize place ys l.length = pl at *
      rw [← Nat.add_assoc] at c1
      by_cases h1 : 0 ≤ ys ∧ ys ≤ 2199023255552 ∧ pl = k
      · obtain ⟨h1, h2, h3⟩ := h1
        have HT2 : Hid (slotsFrom l.length 0 l = slotsFrom l.length ((k : Int) + 1) (l.drop (k + 1))) := by have := HT.out; simp only [h1, h2, h3, decide_true, Bool.true_and] at this; exact this
        subst h3
        clear HT
        go_wp2_with (go_at_call 68; (with_reducible refine (P _).mono ?_); rintro e v0 ⟨rfl, hw⟩; obtain rfl := hw.symm; clear hw)
        go_roundw
        case rel => exact ⟨k + 1, by omega, by go_num, by simpa using HT2.out, by go_grown⟩
        case measure => simp [intOf]; omega
      · have HT2 : Hid (slotsOk l = false) := by
          have h := HT.out
          have h3 : (decide (0 ≤ ys) && (decide (ys ≤ 2199023255552) && decide (pl = (k : Int)))) = false := by
            rw [Bool.eq_false_iff]
            intro h2
            simp only [Bool.and_eq_true, decide_eq_true_eq] at h2
            exact h1 h2
          rw [h3, Bool.false_and] at h
          have h4 := HF.out
          rw [h, Bool.false_and] at h4
          exact h4
        clear HT HF
        go_wp2_with (go_at_call 68; (with_reducible refine (P _).mono ?_); rintro e v0 ⟨rfl, hw⟩; obtain rfl := hw.symm; clear hw)
        all_goals first
          | (exfalso; simp at *; omega)
          | (go_ret; exact ⟨by rw [HT2.out]; rfl, by go_grown⟩)
    · obtain rfl : k = l.length := by omega
      have e : slotsOk l = (decide (1 ≤ l.length) && decide (l.length ≤ 64)) := by
        have := HS.out
        rw [List.drop_length] at this
        simp [slotsOk, this, slotsFrom]
      by_cases hz : 1 ≤ l.length
      · have e2 : slotsOk l = decide ((l.length : Int) ≤ 64) := by
          rw [e, decide_eq_true hz, Bool.true_and]
          exact decide_eq_decide.2 (by omega)
        have HE := Lib.hid e2
        clear e e2
        go_wp2
        all_goals
          go_ret
          exact ⟨by rw [HE.out]; rfl, hB⟩
      · have e2 : slotsOk l = false := by rw [e, decide_eq_false hz, Bool.false_and]
        have HE := Lib.hid e2
        clear e e2
        go_wp2
        all_goals
          go_ret
          exact ⟨by rw [HE.out]; rfl, hB⟩

end Go.Proofs.YtnbgpopjnpdmgaaGreat
