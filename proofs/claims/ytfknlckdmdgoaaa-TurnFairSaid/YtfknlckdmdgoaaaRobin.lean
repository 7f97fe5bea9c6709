/-
  DERIVED. turn.Robin, at every two numbers: the rounds, in memory of their own. And sakiaref03.Ints, of two lists of numbers.
-/
import Derived.Test.YtfknlckdmdgoaaaFair
import Derived.OwnWalk
import Derived.Maps.AppendAt
import Derived.Deep.AppendLies
import Derived.WalkSmall
namespace Go.Proofs.Ytfknlckdmdgoaaa
open Go Go.RowKit

/-- A slice of numbers is handed back; what lay before lies as it lay. -/
def GivesI (w : World) (l : List Int) (e : Ending) (w' : World) : Prop :=
  ∃ A cap, e = .returned (.slice A l.length cap) ∧ ReadsI w' w'.heap.size A l ∧ Below w.heap.size w w'

/-- A row of the call's own reads as its numbers. -/
theorem reads_own {w : World} {base : Nat} {v : Value} {l : List Int} (h : w.ownsRow base 3 1 v l.length (l.map (Value.int .i64))) : ∃ A cap, v = .slice A l.length cap ∧ ReadsI w w.heap.size A l := by
  by_cases hpos : 0 < l.length
  · obtain ⟨g, cap, hv, _, hlt⟩ := h.form hpos
    refine ⟨some ⟨g, 0, none⟩, cap, hv, fun _ => ⟨g, 0, rfl, hlt, fun i x hi => ?_⟩⟩
    have := h.cells (g := g) (by rw [hv]; rfl) i (.int .i64 x) (by simp [hi])
    simpa [Addr.add_lit] using this
  · have hl : l = [] := List.eq_nil_of_length_eq_zero (by omega)
    subst hl
    rcases h.2 with ⟨rfl, _⟩ | ⟨g, cap, cur, rfl, _⟩
    · exact ⟨none, 0, rfl, readsI_nil _ _ _⟩
    · exact ⟨some ⟨g, 0, none⟩, cap, rfl, readsI_nil _ _ _⟩

/-- A row of the call's own lies from its base on. -/
theorem own_base {w : World} {base : Nat} {e : TypeId} {size n : Nat} {v : Value} {xs : List Value} (h : w.ownsRow base e size v n xs) {g : Nat} (hg : v.ownBlock = some g) : base ≤ g := by
  rcases h.2 with ⟨rfl, _⟩ | ⟨g', cap, cur, rfl, hb, _⟩
  · cases hg
  · have : g' = g := by simpa [Value.ownBlock] using hg
    omega

theorem int_info : (Try.prog.info? 3).map (fun i => (i.zero, i.size, i.bytes)) = some (some (.int .i64 0), 1, 8) := by kernel_rfl

/-- One round of so many threads. -/
def row (n : Nat) : List Int := (List.range n).map Int.ofNat
/-- So many rounds. -/
def rows (n : Nat) : Nat → List Int
  | 0 => []
  | k + 1 => rows n k ++ row n
/-- Robin's answer. -/
def robinOf (t r : Int) : List Int := if 1 ≤ t ∧ t ≤ 16 ∧ 1 ≤ r ∧ r ≤ 1000 then rows t.toNat r.toNat else []

theorem row_succ (n : Nat) : row (n + 1) = row n ++ [(n : Int)] := by simp [row, List.range_succ]
theorem row_length (n : Nat) : (row n).length = n := by simp [row]
theorem rows_length (n k : Nat) : (rows n k).length = k * n := by
  induction k with
  | zero => simp [rows]
  | succ k ih => rw [rows, List.length_append, ih, row_length, Nat.succ_mul]

theorem row_int (n : Nat) : row (n + 1) = row n ++ [((n : Nat) : Int)] := row_succ n

set_option maxRecDepth 100000 in
set_option maxHeartbeats 4000000 in
theorem robin_in (t r : Nat) (w : World) (ht1 : 1 ≤ t) (ht : t ≤ 16) (hr1 : 1 ≤ r) (hr : r ≤ 1000) : Calls Try.prog 11 #[.int .i64 t, .int .i64 r] w (GivesI w (rows t r)) := by
  obtain ⟨i0, hi, hz0, hz1, hz2⟩ := info_parts int_info
  have q1 : decide ((t : Int) < 1) = false := by simp; omega
  have q2 : decide ((16 : Int) < t) = false := by simp; omega
  have q3 : decide ((r : Int) < 1) = false := by simp; omega
  have q4 : decide ((1000 : Int) < r) = false := by simp; omega
  go_enter Try.func11, Try.ntmps11
  go_wp2
  go_loopw [4, 21] (fun v c wr => ∃ k : Nat, k ≤ r ∧ c = .int .i64 k ∧ wr.ownsRow w.heap.size 3 1 v (rows t k).length ((rows t k).map (Value.int .i64)) ∧ Below w.heap.size w wr) (fun _ c _ => r - (intOf c).toNat)
  case atStart => exact ⟨0, Nat.zero_le _, rfl, World.ownsRow_nil _ _ _ _, Below.refl _ _⟩
  case round =>
    obtain ⟨k, hk, rfl, hown, hB⟩ := hrel
    have hlen := rows_length t k
    have hle : (rows t k).length ≤ 16000 := by rw [hlen]; exact Nat.mul_le_mul (by omega : k ≤ 1000) ht
    clear hlen
    by_cases hlt : k < r
    · go_wp2
      obtain ⟨wo, rfl⟩ : ∃ wo : World, wo = wr := ⟨_, rfl⟩
      go_loopw [4, 24] (fun v c wr => ∃ j : Nat, j ≤ t ∧ c = .int .i64 j ∧ wr.ownsRow w.heap.size 3 1 v (rows t k ++ row j).length ((rows t k ++ row j).map (Value.int .i64)) ∧ Below w.heap.size w wr) (fun _ c _ => t - (intOf c).toNat)
      case atStart => exact ⟨0, Nat.zero_le _, rfl, by simpa [row] using hown, hB⟩
      case round =>
        obtain ⟨j, hj, rfl, hown2, hB2⟩ := hrel
        clear hown hB
        have hle2 : (rows t k ++ row j).length ≤ 16016 := by rw [List.length_append, row_length]; omega
        by_cases hjt : j < t
        · have hsn : rows t k ++ row (j + 1) = (rows t k ++ row j) ++ [((j : Nat) : Int)] := by rw [row_int, List.append_assoc]
          have HSN := Lib.hid hsn
          have hbase : ∀ g, u4.ownBlock = some g → w.heap.size ≤ g := fun g hg => own_base hown2 hg
          clear hsn
          generalize rows t k ++ row j = cur at *
          go_wp2_with (at_builtin; refine wpList_append_own _ rfl _ _ 22 rfl w.heap.size 3 i0 (.int .i64 0) 1 8 Try.underlying22 hi hz0 hz1 hz2 rfl (by decide) _ _ _ rfl (hown2.alloc _) ⟨wr.heap.size, 0, none⟩ 1 1 [.int .i64 j] rfl rfl (cell_one_new _ _ _) (by simp [Value.oneCell']) (by simp only [maxLen]; omega) (by omega) (by have := hB2.size; simp; omega) ?_; intro v' w1 hown' hgrow _)
          have hB3 := (hB2.alloc hB2.size (.cells #[.int .i64 j] 3)).grown hgrow (by have := hB2.size; simp; omega) (fun g hg => hbase g hg)
          clear hgrow hbase hown2 hB2
          go_roundw
          case rel => exact ⟨j + 1, by omega, by go_num, by rw [HSN.out]; simpa using hown', hB3⟩
          case measure => simp [intOf]; omega
        · obtain rfl : j = t := by omega
          go_wp2
          go_roundw
          case rel => exact ⟨k + 1, by omega, by go_num, hown2, hB2⟩
          case measure => simp [intOf]; omega
    · obtain rfl : k = r := by omega
      go_wp2
      go_ret
      obtain ⟨A, cap, hv, hR⟩ := reads_own hown
      exact ⟨A, cap, by rw [hv]; rfl, hR, hB⟩

set_option maxHeartbeats 1000000 in
theorem robin_no (t r : Int) (w : World) (h : ¬(1 ≤ t ∧ t ≤ 16 ∧ 1 ≤ r ∧ r ≤ 1000)) : Calls Try.prog 11 #[.int .i64 t, .int .i64 r] w (GivesI w []) := by
  by_cases h1 : t < 1
  · have q1 : decide (t < 1) = true := by simpa using h1
    go_enter Try.func11, Try.ntmps11
    go_wp2
    go_ret
    exact ⟨none, 0, rfl, readsI_nil _ _ _, Below.refl _ _⟩
  · have q1 : decide (t < 1) = false := by simpa using h1
    by_cases h2 : 16 < t
    · have q2 : decide (16 < t) = true := by simpa using h2
      go_enter Try.func11, Try.ntmps11
      go_wp2
      go_ret
      exact ⟨none, 0, rfl, readsI_nil _ _ _, Below.refl _ _⟩
    · have q2 : decide (16 < t) = false := by simpa using h2
      by_cases h3 : r < 1
      · have q3 : decide (r < 1) = true := by simpa using h3
        go_enter Try.func11, Try.ntmps11
        go_wp2
        go_ret
        exact ⟨none, 0, rfl, readsI_nil _ _ _, Below.refl _ _⟩
      · have q3 : decide (r < 1) = false := by simpa using h3
        have h4 : 1000 < r := by omega
        have q4 : decide (1000 < r) = true := by simpa using h4
        go_enter Try.func11, Try.ntmps11
        go_wp2
        go_ret
        exact ⟨none, 0, rfl, readsI_nil _ _ _, Below.refl _ _⟩

theorem robin_any (t r : Int) (w : World) : Calls Try.prog 11 #[.int .i64 t, .int .i64 r] w (GivesI w (robinOf t r)) := by
  by_cases h : 1 ≤ t ∧ t ≤ 16 ∧ 1 ≤ r ∧ r ≤ 1000
  · have e : robinOf t r = rows t.toNat r.toNat := if_pos h
    have ht : ((t.toNat : Nat) : Int) = t := by omega
    have hr : ((r.toNat : Nat) : Int) = r := by omega
    have := robin_in t.toNat r.toNat w (by omega) (by omega) (by omega) (by omega)
    rwa [ht, hr, ← e] at this
  · have e : robinOf t r = [] := if_neg h
    rw [e]
    exact robin_no t r w h

/-! ### Two lists of numbers -/
set_option maxRecDepth 100000 in
set_option maxHeartbeats 2000000 in
theorem ints_any (a b : List Int) (A B : Option Addr) (ca cb : Nat) (w : World) (ha : a.length ≤ 1000000) (hb : b.length ≤ 1000000) (hR : ReadsI w w.heap.size A a) (hS : ReadsI w w.heap.size B b) :
    Calls Try.prog 13 #[.slice A a.length ca, .slice B b.length cb] w fun e w' => e = .returned (.bool (decide (a = b))) ∧ Below w.heap.size w w' := by
  by_cases hlen : a.length = b.length
  · have hlen' : (((a.length : Nat) : Int) != (b.length : Nat)) = false := by rw [hlen]; simp
    have HL := Lib.hid hlen
    clear hlen
    go_enter Try.func13, Try.ntmps13
    go_wp2
    go_loopw [5] (fun i wr => ∃ k : Nat, k ≤ a.length ∧ i = .int .i64 k ∧ a.take k = b.take k ∧ Below w.heap.size w wr) (fun i _ => a.length - (intOf i).toNat)
    case atStart => exact ⟨0, Nat.zero_le _, rfl, rfl, Below.refl _ _⟩
    case round =>
      obtain ⟨k, hk, rfl, hsame, hB⟩ := hrel
      have HS := Lib.hid hsame
      clear hsame
      by_cases hlt : k < a.length
      · obtain ⟨b1, off1, rfl, hb1, hc1⟩ := (hR.below hB) (by omega)
        obtain ⟨b2, off2, rfl, hb2, hc2⟩ := (hS.below hB) (by have := HL.out; omega)
        obtain ⟨x, hx⟩ : ∃ x, a[k]? = some x := ⟨_, List.getElem?_eq_getElem hlt⟩
        obtain ⟨y, hy⟩ : ∃ y, b[k]? = some y := ⟨_, List.getElem?_eq_getElem (by have := HL.out; omega)⟩
        have hcx := hc1 k x hx
        have hcy := hc2 k y hy
        have hkb : k < b.length := by have := HL.out; omega
        have HX := Lib.hid hx
        have HY := Lib.hid hy
        clear hc1 hc2 hx hy
        by_cases hxy : x = y
        · have hq : (x != y) = false := by simpa using hxy
          go_wp2
          go_quiet (fail)
          all_goals
            go_wp2
            go_roundw
            case rel => exact ⟨k + 1, by omega, by go_num, by rw [take_more HX.out, take_more HY.out, HS.out, hxy], below_drewN hB _⟩
            case measure => simp [intOf]; omega
        · have hq : (x != y) = true := by simpa using hxy
          have hfin : decide (a = b) = false := decide_eq_false (fun e => by subst e; exact hxy (Option.some.inj (HX.out.symm.trans HY.out)))
          have HF := Lib.hid hfin
          clear hfin hxy
          go_wp2
          go_quiet (fail)
          all_goals
            go_wp2
            go_ret
            exact ⟨by rw [HF.out]; rfl, below_drewN hB _⟩
      · obtain rfl : k = a.length := by omega
        have hfin : decide (a = b) = true := by
          have h := HS.out
          rw [List.take_length, HL.out, List.take_length] at h
          exact decide_eq_true h
        have HF := Lib.hid hfin
        clear hfin
        go_wp2
        go_ret
        exact ⟨by rw [HF.out]; rfl, hB⟩
  · have hlen' : (((a.length : Nat) : Int) != (b.length : Nat)) = true := by simp; omega
    have hfin : decide (a = b) = false := decide_eq_false (fun e => hlen (by rw [e]))
    have HF := Lib.hid hfin
    clear hfin hlen
    go_enter Try.func13, Try.ntmps13
    go_wp2
    go_ret
    exact ⟨by rw [HF.out]; rfl, Below.refl _ _⟩

end Go.Proofs.Ytfknlckdmdgoaaa
