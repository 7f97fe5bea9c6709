/-
  DERIVED. Raw.
-/
import Derived.ProofKit
import Derived.OpenShut
import Derived.RangeFuncOwn
import Derived.Deep.Slices
import Derived.Test.YtnbgpopjnpdmgaaGreatPai
set_option linter.unusedVariables false
set_option linter.unusedSimpArgs false

namespace Go.Proofs.YtnbgpopjnpdmgaaGreat
open Go Go.RowKit Go.ChangeShapes Go.WideShapes Go.Deep Go.Shelf

/-- One of the raw calls: where it lies, its numbers, its room. -/
structure Rw where
  addr : Option Addr
  nums : List Int
  room : Nat
def Rw.val (r : Rw) : Value := .slice r.addr r.nums.length r.room
/-- What is read, if there is anything. -/
def Rd (w : World) (B : Nat) (A : Option Addr) (xs : List Value) : Prop := 0 < xs.length → Lies w B A xs
theorem Rd.on {w w' : World} {A : Option Addr} {xs : List Value} (h : Rd w w.heap.size A xs) (hb : Below w.heap.size w w') : Rd w' w'.heap.size A xs := fun hx => (h hx).on hb
structure Raws (w : World) (A : Option Addr) (rs : List Rw) : Prop where
  rows : Rd w w.heap.size A (rs.map Rw.val)
  each : ∀ r ∈ rs, Rd w w.heap.size r.addr (ints r.nums)
theorem Raws.on {w w' : World} {A : Option Addr} {rs : List Rw} (h : Raws w A rs) (hb : Below w.heap.size w w') : Raws w' A rs := ⟨h.rows.on hb, fun r hr => (h.each r hr).on hb⟩
/-- One of them, in memory. -/
theorem Raws.at_ {w : World} {A : Option Addr} {rs : List Rw} (h : Raws w A rs) {k : Nat} {r : Rw} (hr : rs[k]? = some r) :
    ∃ b off, A = some ⟨b, off, none⟩ ∧ b < w.heap.size ∧ w.cell? ⟨b, off + k, none⟩ = some r.val := by
  have hk := (List.getElem?_eq_some_iff.1 hr).1
  obtain ⟨b, off, hA, hb, hc⟩ := (h.rows (by rw [List.length_map]; omega)).open_ (by rw [List.length_map]; omega)
  exact ⟨b, off, hA, hb, hc k _ (by rw [List.getElem?_map, hr]; rfl)⟩

section
variable {H : Type} {enc : TypeId × Value → H} {w : World} {base : Nat} {spare : Nat → Bool} {held : Bool}
theorem open_row {fuel : Nat} {v : Value} {x : DataW H × List MemPlace} (h : DataW.trod enc Tryz.prog w base spare held fuel 30 [v] = some x) :
    ∃ r : Rw, v = r.val ∧ Rd w w.heap.size r.addr (ints r.nums) := by
  rcases open_ints Tryz.underlying30 Tryz.underlying3 (by kernel_rfl) h with ⟨hcs, _⟩ | ⟨a, l, c, zs, hcs, _, hl, hm, hz, _, hcell, hwz⟩
  · simp at hcs
    exact ⟨⟨none, [], 0⟩, hcs, fun h => by cases h⟩
  · simp at hcs
    have hz2 : l ≤ zs.length := by rw [hz]; split <;> omega
    refine ⟨⟨some a, zs.take l, c⟩, by rw [hcs, Rw.val, List.length_take, Nat.min_eq_left hz2], fun hpos => ?_⟩
    have hlen : 0 < l := by rw [ints_len, List.length_take] at hpos; omega
    obtain ⟨b, off, spot⟩ := a
    have hc := hcell 0 (by omega)
    have hspot : spot = none := by simpa [Addr.add] using World.cell?_spot hc
    subst hspot
    refine .inr ⟨b, off, rfl, ?_, fun i x hi => ?_⟩
    · obtain ⟨o, ho, _⟩ := cells_of_cell hc
      have := (Array.getElem?_eq_some_iff.1 ho).1
      simpa [Addr.add] using this
    · have hil := (List.getElem?_eq_some_iff.1 hi).1
      rw [ints_len, List.length_take] at hil
      have hcx := hcell i (by omega)
      rw [Addr.add_lit] at hcx
      rw [hcx]
      rw [ints_get (x := zs.getD i 0) (by rw [List.getElem?_take, if_pos (by omega), List.getD, List.getElem?_eq_getElem (show i < zs.length by omega)]; rfl)] at hi
      exact hi
/-- An argument of type [][]int. -/
theorem open_raws {fuel : Nat} {A : Option Addr} {len cap : Nat} {x : DataW H × List MemPlace} (h : DataW.trod enc Tryz.prog w base spare held fuel 24 [.slice A len cap] = some x) :
    ∃ rs : List Rw, rs.length = len ∧ len ≤ maxLen ∧ Raws w A rs := by
  rcases open_slice Tryz.underlying24 h with ⟨hcs, _⟩ | ⟨a, l, c, m, n, D, Pl, hcs, _, hl, hm, hmm, _, hi⟩
  · simp at hcs
    obtain ⟨rfl, rfl, rfl⟩ := hcs
    exact ⟨[], rfl, Nat.zero_le _, ⟨(fun h => by cases h), (fun r hr => by cases hr)⟩⟩
  · simp at hcs
    obtain ⟨rfl, rfl, rfl⟩ := hcs
    have hC : Tryz.prog.cellsOf 30 = 1 := by kernel_rfl
    have one : ∀ i, i < len → ∃ r : Rw, w.cell? (a.add i) = some r.val ∧ Rd w w.heap.size r.addr (ints r.nums) := fun i hlt => by
      obtain ⟨cs', hc, ht⟩ := hi i (by rw [hmm]; split <;> omega)
      rw [hC, Nat.mul_one] at hc
      obtain ⟨_, hcl, hat⟩ := World.cells?_some hc
      match cs', hcl, ht, hat with
      | [v], _, ht, hat =>
        obtain ⟨r, rfl, hr⟩ := open_row ht
        have h0 := hat 0 (show 0 < 1 by omega)
        rw [Go.Deep.add_add, Nat.add_zero] at h0
        exact ⟨r, h0, hr⟩
    obtain ⟨f, hf⟩ : ∃ f : Nat → Rw, ∀ i, i < len → w.cell? (a.add i) = some (f i).val ∧ Rd w w.heap.size (f i).addr (ints (f i).nums) :=
      ⟨fun i => if h : i < len then Classical.choose (one i h) else ⟨none, [], 0⟩, fun i hlt => by simp only [hlt, dif_pos]; exact Classical.choose_spec (one i hlt)⟩
    refine ⟨(List.range len).map f, by simp, by omega, fun hpos => ?_, fun r hr => ?_⟩
    · have hlen : 0 < len := by simpa using hpos
      obtain ⟨b, off, spot⟩ := a
      have hc := (hf 0 hlen).1
      have hspot : spot = none := by simpa [Addr.add] using World.cell?_spot hc
      subst hspot
      refine .inr ⟨b, off, rfl, ?_, fun i v hv => ?_⟩
      · obtain ⟨o, ho, _⟩ := cells_of_cell hc
        have := (Array.getElem?_eq_some_iff.1 ho).1
        simpa [Addr.add] using this
      · have hil := (List.getElem?_eq_some_iff.1 hv).1
        simp only [List.length_map, List.length_range] at hil
        have h1 := (hf i hil).1
        rw [Addr.add_lit] at h1
        rw [h1]
        simp [hil] at hv
        exact congrArg some hv
    · obtain ⟨i, hir, rfl⟩ := List.mem_map.1 hr
      exact (hf i (List.mem_range.1 hir)).2
end

set_option maxRecDepth 100000 in
set_option maxHeartbeats 2000000 in
theorem few_any (rs : List Rw) (A : Option Addr) (c : Nat) (w : World) (hl : rs.length ≤ maxLen) (hR : Raws w A rs) :
    Calls Tryz.prog 5 #[.slice A rs.length c, .int .i64 60] w fun e w' => ∃ b, e = .returned (.bool b) ∧ (b = true → rs.length ≤ 60 ∧ ∀ r ∈ rs, r.nums.length ≤ 10) ∧ Below w.heap.size w w' := by
  simp only [maxLen] at hl
  go_enter Tryz.func5, Tryz.ntmps5
  go_wp2
  go_loopw [5] (fun i wr => ∃ k : Nat, k ≤ rs.length ∧ i = .int .i64 k ∧ (∀ r ∈ rs.take k, r.nums.length ≤ 10) ∧ Below w.heap.size w wr) (fun i _ => rs.length - (intOf i).toNat)
  case atStart => exact ⟨0, Nat.zero_le _, rfl, fun r hr => by simp at hr, Below.refl _ _⟩
  case round =>
    obtain ⟨k, hk, rfl, hall, hB⟩ := hrel
    have HS := Lib.hid hall
    clear hall
    by_cases hlt : k < rs.length
    · obtain ⟨r, hr⟩ : ∃ r, rs[k]? = some r := ⟨_, List.getElem?_eq_getElem hlt⟩
      obtain ⟨b1, off1, rfl, hb1, hc1⟩ := (hR.on hB).at_ hr
      have HX := Lib.hid hr
      clear hr hR
      unfold Rw.val at hc1
      by_cases hxy : 10 < r.nums.length
      · go_wp2
        go_ret
        exact ⟨_, rfl, (fun h => by cases h), hB⟩
      · go_wp2
        go_roundw
        case rel =>
          refine ⟨k + 1, by omega, by go_num, fun q hq => ?_, hB⟩
          rw [take_snoc HX.out] at hq
          rcases List.mem_append.1 hq with hq | hq
          · exact HS.out q hq
          · obtain rfl : q = r := by simpa using hq
            omega
        case measure => simp [intOf]; omega
    · obtain rfl : k = rs.length := by omega
      have hall : ∀ r ∈ rs, r.nums.length ≤ 10 := by have h := HS.out; rwa [List.take_length] at h
      have HA := Lib.hid hall
      clear hall HS
      go_wp2
      go_ret
      exact ⟨_, rfl, fun h => ⟨by have := of_decide_eq_true h; omega, HA.out⟩, hB⟩

end Go.Proofs.YtnbgpopjnpdmgaaGreat
