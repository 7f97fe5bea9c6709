/-
  DERIVED. wait.Spent, at every list of numbers: how often each of 0, 1, 2 stands in it.
-/
import Derived.Test.YtjgdoogfoaaejaaNums
import Derived.Maps.OwnOps
import Derived.Maps.RangeWalk
import Derived.Maps.Ext
import Derived.WalkMore
import Derived.OwnWalk
import Derived.WalkSmall
namespace Go.Proofs.Ytjgdoogfoaaejaa
open Go Go.RowKit Go.Maps

/-- How often a number stands in a list. -/
def cnts (l : List Int) (x : Int) : Int := (l.count x : Nat)
theorem cnts_snoc (l : List Int) (y x : Int) : cnts (l ++ [y]) x = cnts l x + if y = x then 1 else 0 := by
  simp only [cnts, List.count_append, List.count_singleton]
  by_cases h : y = x
  · simp [h]
  · simp [h]
theorem cnts_bounds (l : List Int) (x : Int) : 0 ≤ cnts l x ∧ cnts l x ≤ l.length := by
  have := List.count_le_length (a := x) (l := l)
  unfold cnts
  omega

theorem law_int : Keyed Try.prog 3 := int_keyed Try.underlying3
theorem zero_int (w : World) : (zeroValue 3).run Try.prog w = .ok (.int .i64 0) w := by kernel_rfl

/-- A map that tells how often each number stands in a list. -/
def Tells (D : DataW Unit) (l : List Int) : Prop := IsMap D ∧ ∀ x : Int, D.atKey (.int .i64 x) (.lit (.int .i64 0)) = .lit (.int .i64 (cnts l x))
theorem tells_nil : Tells (.map []) [] := ⟨isMap_empty, fun _ => rfl⟩
theorem Tells.eq {D : DataW Unit} {l : List Int} (h : Tells D l) {x c : Int} (hat : D.atKey (.int .i64 x) (.lit (.int .i64 0)) = .lit (.int .i64 c)) : c = cnts l x := by
  rw [h.2 x] at hat
  cases hat
  rfl
theorem Tells.put {D : DataW Unit} {l : List Int} (h : Tells D l) {y d : Int} (hd : d = cnts l y + 1) : Tells (D.put (.int .i64 y) (.lit (.int .i64 d))) (l ++ [y]) := by
  refine ⟨h.1.put _ _, fun x => ?_⟩
  rw [cnts_snoc]
  by_cases hxy : y = x
  · subst hxy
    rw [atKey_put_same (k := .int .i64 y) h.1 trivial, hd, if_pos rfl]
  · rw [atKey_put_other (fun e => hxy (by cases e; rfl)), h.2 x, if_neg hxy, Int.add_zero]
theorem atKey_none {D : DataW Unit} (hm : IsMap D) {k : Lit} (h : has D k = false) (z : DataW Unit) : D.atKey k z = z := by
  obtain ⟨es, rfl⟩ := hm
  rw [has_eq] at h
  have hn : es.find? (fun p => p.1.sameKey k) = none := by
    rw [List.find?_eq_none]
    intro p hp hq
    exact List.any_eq_false.1 h p hp hq
  simp only [DataW.atKey, hn]

/-- The array's cells, as far as the loop has come. -/
def arr (left : Lit → Bool) (l : List Int) (i : Int) : Int := if left (.int .i64 i) then 0 else cnts l i
theorem arr_start {D : DataW Unit} {l : List Int} (h : Tells D l) (i : Int) : arr (has D) l i = 0 := by
  unfold arr
  cases hh : has D (.int .i64 i) with
  | true => rfl
  | false =>
    have e := h.2 i
    rw [atKey_none h.1 hh] at e
    injection e with e
    injection e with _ e
    simp [← e]
theorem arr_end {left : Lit → Bool} (h : ∀ kl, left kl = false) (l : List Int) (i : Int) : arr left l i = cnts l i := by simp [arr, h]
theorem arr_other {left : Lit → Bool} {l : List Int} {x i : Int} (h : i ≠ x) : arr (fun z => left z && !z.sameKey (.int .i64 x)) l i = arr left l i := by
  have : Lit.sameKey (.int .i64 i) (.int .i64 x) = false := sameKey_ne (fun e => h (by cases e; rfl))
  simp [arr, this]
theorem arr_hit {left : Lit → Bool} {l : List Int} {x c : Int} (h : c = cnts l x) : arr (fun z => left z && !z.sameKey (.int .i64 x)) l x = c := by
  have : Lit.sameKey (.int .i64 x) (.int .i64 x) = true := WideAt.sameKey_self trivial
  simp [arr, this, h]

theorem grown_cell (w : World) (a : Addr) (u : Value) : w.grownBy (w.setCell a u) (some a.block) :=
  ⟨rfl, rfl, rfl, by simp [World.setCell], fun i _ hi => Below.heap_setCell w a u i (fun e => hi (by rw [e]))⟩

set_option maxRecDepth 100000 in
set_option maxHeartbeats 4000000 in
theorem spent_any (l : List Int) (A : Option Addr) (cap : Nat) (w : World) (hl : l.length ≤ 1000) (hwf : ∀ x ∈ l, (Lit.int .i64 x).wf = true) (hR : ReadsI w w.heap.size A l) :
    Calls Try.prog 11 #[.slice A l.length cap] w fun e w' => e = .returned (.tuple #[.int .i64 (cnts l 0), .int .i64 (cnts l 1), .int .i64 (cnts l 2)]) ∧ Below w.heap.size w w' := by
  have hmm := @run_makeMap Try.prog
  go_enter Try.func11, Try.ntmps11
  go_wp2
  go_loopw [14] (fun i wr => ∃ (k : Nat) (D : DataW Unit), k ≤ l.length ∧ i = .int .i64 k ∧ wr.ownsMap Try.prog 3 (plainElem Try.prog 3) w.heap.size k D ∧ Tells D (l.take k) ∧ Below w.heap.size w wr) (fun i _ => l.length - (intOf i).toNat)
  case atStart => exact ⟨0, .map [], Nat.zero_le _, rfl, World.ownsMap_made _ _ _ _, tells_nil, (Below.refl _ _).alloc (Nat.le_refl _) _⟩
  case round =>
    obtain ⟨k, D, hk, rfl, hown, hT, hB⟩ := hrel
    by_cases hlt : k < l.length
    · obtain ⟨b, off, rfl, hb, hc⟩ := (hR.below hB) (by omega)
      obtain ⟨x, hx⟩ : ∃ x, l[k]? = some x := ⟨_, List.getElem?_eq_getElem hlt⟩
      have hcx := hc k x hx
      have hwx := hwf x (List.mem_of_getElem? hx)
      have hkey : keyOf Try.prog 3 (.int .i64 x) = some (.int .i64 x) := keyOf_int_mk Try.underlying3 hwx
      have hsn : l.take (k + 1) = l.take k ++ [x] := take_more hx
      have hbd := cnts_bounds (l.take k) x
      have hlk : (l.take k).length ≤ 1000 := by rw [List.length_take]; omega
      have HBD := Lib.hid (show 0 ≤ cnts (l.take k) x ∧ cnts (l.take k) x ≤ 1000 by omega)
      have HSN := Lib.hid hsn
      clear hsn hbd hlk hx hc hwx hwf
      go_wp2_with (first
        | (at_lookup; refine wpList_lookup_own_int _ rfl _ _ 43 rfl 3 3 .i64 law_int Try.underlying43 Try.underlying3 (zero_int _) w.heap.size k _ rfl hown _ _ rfl hkey ?_; intro c hat hwc; have hce := Lib.hid (hT.eq hat); have hc0 : 0 ≤ c := (by have := hce.out; have := HBD.out; omega); have hc1 : c ≤ 1000 := (by have := hce.out; have := HBD.out; omega); clear hat)
        | (at_mapUpdate; refine wpList_mapUpdate_own _ rfl _ _ _ 43 rfl 3 3 law_int Try.underlying43 _ w.heap.size k _ rfl hown (by unfold maxLen; omega) _ _ _ rfl rfl hkey _ [] (plainElem_int Try.underlying3 (by first | exact wrap64_wf _ | exact WalkArith.wf_i64 (by omega))) ?_; intro w1 hown1 hgrow1))
      go_roundw
      case rel => exact ⟨k + 1, _, by omega, by go_num, hown1, by rw [HSN.out]; exact hT.put (by rw [hce.out]), hB.grown hgrow1 hB.size (fun j hj => by cases hj; exact Nat.le_refl _)⟩
      case measure => simp [intOf]; omega
    · obtain rfl : k = l.length := by omega
      rw [List.take_length] at hT
      clear hwf hR
      have hal := World.alloc_heap_new wr (.cells #[.int .i64 0, .int .i64 0, .int .i64 0] 44)
      have hB1 := hB.alloc hB.size (.cells #[.int .i64 0, .int .i64 0, .int .i64 0] 44)
      have hsz := World.size_alloc wr (.cells #[.int .i64 0, .int .i64 0, .int .i64 0] 44)
      go_wp2_with (at_range; refine wpList_range_own _ rfl _ 43 rfl 3 3 law_int Try.underlying43 _ w.heap.size l.length _ rfl (hown.alloc _) ?_; intro w0 hrg0 hg0 hs0)
      go_frame
      rw [World.size_alloc] at hrg0 hs0
      try rw [World.size_alloc]
      have hlw := hown.lt
      have hal0 : w0.heap[wr.heap.size]? = some (.cells #[.int .i64 (arr (has D) l 0), .int .i64 (arr (has D) l 1), .int .i64 (arr (has D) l 2)] 44 (0, 0)) := by
        rw [arr_start hT, arr_start hT, arr_start hT]
        exact (hg0.block _ (by rw [hsz]; omega) (by simp)).trans hal
      have hB0 := hB1.grown hg0 hB1.size (fun j hj => by cases hj)
      have HS := Lib.hid hs0
      clear hg0 hal hB1 hB hsz hs0 hown hmm
      obtain ⟨wo, rfl⟩ : ∃ wo : World, wo = wr := ⟨_, rfl⟩
      go_loopw [9] (fun _ wr => ∃ (left : Lit → Bool) (cnt : Nat), wr.ranges Try.prog 3 (plainElem Try.prog 3) w.heap.size (wo.heap.size + 1) l.length D left cnt ∧
          wr.heap[wo.heap.size]? = some (.cells #[.int .i64 (arr left l 0), .int .i64 (arr left l 1), .int .i64 (arr left l 2)] 44 (0, 0)) ∧ Below w.heap.size w wr) (fun _ wr => wr.rangeLeft w.heap.size (wo.heap.size + 1))
      case atStart => exact ⟨_, _, hrg0, hal0, hB0⟩
      case round =>
        clear hrg0 hal0 hB0 HS
        obtain ⟨left, cnt, hrg, har, hB⟩ := hrel
        go_wp2_with (at_next; refine wpList_next_ranges_ii _ rfl _ rfl 3 3 .i64 .i64 law_int Try.underlying3 Try.underlying3 w.heap.size (wo.heap.size + 1) l.length _ _ _ rfl hrg ?_ ?_)
        · intro hc0 hl0
          rw [arr_end hl0, arr_end hl0, arr_end hl0] at har
          have a0 := (block_cell har 0).1
          have a1 := (block_cell har 1).1
          have a2 := (block_cell har 2).1
          simp at a0 a1 a2
          clear har hrg hl0
          go_wp2
          go_quiet (fail)
          go_wp2
          go_ret3
          exact ⟨rfl, below_drewN hB _⟩
        · intro x c w1 cnt1 hwx hwc hlx hat hrg1 hlt hg1 hs1 hen
          have hce := Lib.hid (hT.eq (hat (.lit (.int .i64 0))))
          have hne : w.heap.size ≠ wo.heap.size := by omega
          have har1 : w1.heap[wo.heap.size]? = some (.cells #[.int .i64 (arr left l 0), .int .i64 (arr left l 1), .int .i64 (arr left l 2)] 44 (0, 0)) := (hg1.block _ (Array.getElem?_eq_some_iff.1 har).1 (by simp)).trans har
          have hB1 := hB.grown hg1 hB.size (fun j hj => by cases hj; omega)
          have hmeas : w1.rangeLeft w.heap.size (wo.heap.size + 1) < wr.rangeLeft w.heap.size (wo.heap.size + 1) := by rw [hrg1.left_eq, hrg.left_eq]; exact hlt
          have HM := Lib.hid hmeas
          clear hmeas hlt hat har hg1 hs1 hB hrg hlx hwx hwc
          by_cases hx0 : x = 0 ∨ x = 1 ∨ x = 2
          · rcases hx0 with rfl | rfl | rfl
            · have HAR := Lib.hid har1
              have HRG := Lib.hid hrg1
              have HB := Lib.hid hB1
              clear har1 hrg1 hB1
              have c0 := (block_cell HAR.out 0).1
              have c0f := (block_cell HAR.out 0).2
              simp at c0
              go_wp2
              go_roundw
              case rel =>
                have hg2 := grown_cell w1 ⟨wo.heap.size, 0, none⟩ (.int .i64 c)
                refine ⟨_, _, HRG.out.kept hg2 (by simp; omega) (by simp), ?_, HB.out.grown hg2 HB.out.size (fun j hj => by cases hj; show w.heap.size ≤ wo.heap.size; omega)⟩
                rw [arr_hit (x := 0) hce.out, arr_other (x := 0) (i := 1) (by decide), arr_other (x := 0) (i := 2) (by decide)]
                simp [World.setCell, Array.getElem?_modify, HAR.out]
              case measure =>
                have hg2 := grown_cell w1 ⟨wo.heap.size, 0, none⟩ (.int .i64 c)
                have := HM.out
                rw [HRG.out.left_eq] at this
                rw [(HRG.out.kept hg2 (by simp; omega) (by simp)).left_eq]
                exact this
            · have HAR := Lib.hid har1
              have HRG := Lib.hid hrg1
              have HB := Lib.hid hB1
              clear har1 hrg1 hB1
              have c1 := (block_cell HAR.out 1).1
              have c1f := (block_cell HAR.out 1).2
              simp at c1
              go_wp2
              go_roundw
              case rel =>
                have hg2 := grown_cell w1 ⟨wo.heap.size, 1, none⟩ (.int .i64 c)
                refine ⟨_, _, HRG.out.kept hg2 (by simp; omega) (by simp), ?_, HB.out.grown hg2 HB.out.size (fun j hj => by cases hj; show w.heap.size ≤ wo.heap.size; omega)⟩
                rw [arr_hit (x := 1) hce.out, arr_other (x := 1) (i := 0) (by decide), arr_other (x := 1) (i := 2) (by decide)]
                simp [World.setCell, Array.getElem?_modify, HAR.out]
              case measure =>
                have hg2 := grown_cell w1 ⟨wo.heap.size, 1, none⟩ (.int .i64 c)
                have := HM.out
                rw [HRG.out.left_eq] at this
                rw [(HRG.out.kept hg2 (by simp; omega) (by simp)).left_eq]
                exact this
            · have HAR := Lib.hid har1
              have HRG := Lib.hid hrg1
              have HB := Lib.hid hB1
              clear har1 hrg1 hB1
              have c2 := (block_cell HAR.out 2).1
              have c2f := (block_cell HAR.out 2).2
              simp at c2
              go_wp2
              go_roundw
              case rel =>
                have hg2 := grown_cell w1 ⟨wo.heap.size, 2, none⟩ (.int .i64 c)
                refine ⟨_, _, HRG.out.kept hg2 (by simp; omega) (by simp), ?_, HB.out.grown hg2 HB.out.size (fun j hj => by cases hj; show w.heap.size ≤ wo.heap.size; omega)⟩
                rw [arr_hit (x := 2) hce.out, arr_other (x := 2) (i := 0) (by decide), arr_other (x := 2) (i := 1) (by decide)]
                simp [World.setCell, Array.getElem?_modify, HAR.out]
              case measure =>
                have hg2 := grown_cell w1 ⟨wo.heap.size, 2, none⟩ (.int .i64 c)
                have := HM.out
                rw [HRG.out.left_eq] at this
                rw [(HRG.out.kept hg2 (by simp; omega) (by simp)).left_eq]
                exact this
          · have hno : ¬ (0 ≤ x ∧ x ≤ 2) := by omega
            have q0 : (0 : Int) ≠ x := by omega
            have q1 : (1 : Int) ≠ x := by omega
            have q2 : (2 : Int) ≠ x := by omega
            have HAR := Lib.hid har1
            have HRG := Lib.hid hrg1
            have HB := Lib.hid hB1
            have HQ := Lib.hid (And.intro q0 (And.intro q1 q2))
            clear har1 hrg1 hB1 q0 q1 q2 hx0
            by_cases hx1 : 0 ≤ x
            all_goals
              go_wp2
              go_roundw
              case rel =>
                refine ⟨_, _, HRG.out, ?_, HB.out⟩
                rw [arr_other HQ.out.1, arr_other HQ.out.2.1, arr_other HQ.out.2.2]
                exact HAR.out
              case measure => exact HM.out

end Go.Proofs.Ytjgdoogfoaaejaa
