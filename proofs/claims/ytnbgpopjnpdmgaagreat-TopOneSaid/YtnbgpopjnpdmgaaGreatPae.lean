/-
  DERIVED. Conf, Pos, Boxes.
-/
import Derived.Lib.Hide
import Derived.Test.YtnbgpopjnpdmgaaGreatPad
set_option linter.unusedVariables false
set_option linter.unusedSimpArgs false

namespace Go.Proofs.YtnbgpopjnpdmgaaGreat
open Go Go.RowKit Go.Shelf

/-- Its room. -/
def Cfg.room (c : Cfg) : Int := if c.ok then 2 ^ c.log.toNat else 0
/-- Whether one parks then. -/
def Cfg.parks (c : Cfg) : Bool := c.ok && (c.wt == 2 || c.wt == 3)
/-- How often is tried. -/
def Cfg.tries (c : Cfg) : Int := if c.parks then c.sp + c.yi else 0

theorem Cfg.chk_ok {c : Cfg} (h : c.ok = true) : c.chk = 0 := by simp [Cfg.chk, h]
theorem Cfg.chk_no {c : Cfg} (h : c.ok = false) : c.chk = 20 := by simp [Cfg.chk, h]

theorem check_ok (c : Cfg) (w : World) (h : c.ok = true) : Calls Tryz.prog 14 #[c.val] w fun e w' => e = .returned (.int .i64 0) ∧ Below w.heap.size w w' :=
  (check_any c w).mono fun _ _ ⟨he, hb⟩ => ⟨by rw [he, Cfg.chk_ok h], hb⟩
theorem check_no (c : Cfg) (w : World) (h : c.ok = false) : Calls Tryz.prog 14 #[c.val] w fun e w' => e = .returned (.int .i64 20) ∧ Below w.heap.size w w' :=
  (check_any c w).mono fun _ _ ⟨he, hb⟩ => ⟨by rw [he, Cfg.chk_no h], hb⟩

/-- A configuration in a box of its own lies as it lay, behind whatever kept it. -/
theorem box_kept (c : Cfg) {w w1 : World} {t : TypeId} (hb : Below (w.heap.size + 1) (w.alloc (.cells c.cells t)) w1) : w1.heap[w.heap.size]? = some (.cells c.cells t (0, 0)) :=
  (hb.block w.heap.size (by omega)).trans (World.alloc_heap_new w _)
theorem below_box {w w1 : World} {o : Obj} (hb : Below (w.heap.size + 1) (w.alloc o) w1) : Below w.heap.size w w1 :=
  ((Below.refl _ w).alloc (Nat.le_refl _) o).trans (hb.mono (by omega))

set_option maxHeartbeats 1000000 in
theorem room_any (c : Cfg) (w : World) : Calls Tryz.prog 16 #[c.val] w fun e w' => e = .returned (.int .i64 c.room) ∧ Below w.heap.size w w' := by
  by_cases h : c.ok = true
  · have h1 := (Cfg.ok_iff c).1 h
    have hr : c.room = 2 ^ c.log.toNat := by simp [Cfg.room, h]
    obtain ⟨log, th, pol, wt, sp, yi, single⟩ := c
    dsimp only at h1 hr
    have hl : log = 1 ∨ log = 2 ∨ log = 3 ∨ log = 4 ∨ log = 5 ∨ log = 6 := by omega
    clear h1
    rcases hl with rfl | rfl | rfl | rfl | rfl | rfl
    all_goals
      have C := fun W => check_ok _ W h
      clear h
      go_enter Tryz.func16, Tryz.ntmps16
      go_wp2_with fail
      refine (C _).mono ?_
      rintro e w1 ⟨rfl, hb⟩
      rw [World.size_alloc] at hb
      have h0 := (of_block (box_kept _ hb) 0).1
      simp at h0
      have hB := below_box hb
      clear C hb
      go_wp2
      go_ret
      exact ⟨by rw [hr]; rfl, hB⟩
  · have h' : c.ok = false := by simpa using h
    have hr : c.room = 0 := by simp [Cfg.room, h']
    obtain ⟨log, th, pol, wt, sp, yi, single⟩ := c
    have C := fun W => check_no _ W h'
    clear h h'
    go_enter Tryz.func16, Tryz.ntmps16
    go_wp2_with fail
    refine (C _).mono ?_
    rintro e w1 ⟨rfl, hb⟩
    rw [World.size_alloc] at hb
    have hB := below_box hb
    clear C hb
    go_wp2
    go_ret
    exact ⟨by rw [hr]; rfl, hB⟩

theorem Cfg.parks_of {c : Cfg} (h : c.ok = true) : c.parks = (c.wt == 2 || c.wt == 3) := by simp [Cfg.parks, h]



theorem Cfg.tries_bounds {c : Cfg} (h : c.parks = true) : 0 ≤ c.sp ∧ c.sp ≤ 8 ∧ 0 ≤ c.yi ∧ c.yi ≤ 8 := by
  have h1 : c.ok = true := by simp [Cfg.parks] at h; exact h.1
  have h2 := (Cfg.ok_iff c).1 h1
  have h3 : c.most ≤ 8 := by unfold Cfg.most; split <;> omega
  omega


end Go.Proofs.YtnbgpopjnpdmgaaGreat

namespace Go.Proofs.YtnbgpopjnpdmgaaGreat
open Go Go.RowKit

/-- Where a ring begins, and ends, and its mode. -/
structure W3 where
  head : Int
  tail : Int
  mode : Int
  deriving DecidableEq
abbrev W3.cells (w : W3) : Array Value := #[.int .i64 w.head, .int .i64 w.tail, .int .i64 w.mode]
abbrev W3.val (w : W3) : Value := .agg w.cells
/-- Whether a word may be. -/
def W3.may (x : W3) (room : Int) : Bool := decide (x.head ≤ x.tail) && decide (x.tail ≤ 1099511627776) && decide (0 ≤ x.head) && decide (x.tail - x.head ≤ room) && decide (0 ≤ x.mode) && decide (x.mode ≤ 2)
theorem W3.may_iff (x : W3) (room : Int) : x.may room = true ↔ (x.head ≤ x.tail ∧ x.tail ≤ 1099511627776 ∧ 0 ≤ x.head ∧ x.tail - x.head ≤ room ∧ 0 ≤ x.mode ∧ x.mode ≤ 2) := by
  simp [W3.may, and_assoc]
/-- Where one lies. -/
def place (p room : Int) : Int := if 0 ≤ p ∧ 1 ≤ room then p % room else 0

/-- A box of one block, met by a call. -/
theorem below_one (w : World) (o : Obj) : Below w.heap.size w (w.alloc o) := (Below.refl _ w).alloc (Nat.le_refl _) o

set_option maxHeartbeats 1000000 in
theorem pos_is (p room : Int) (w : World) : Calls Tryz.prog 82 #[.int .i64 p, .int .i64 room] w fun e w' => e = .returned (.bool (decide (0 ≤ p) && decide (1 ≤ room))) ∧ w' = w := by
  by_cases h : 0 ≤ p
  all_goals by_cases h2 : 1 ≤ room
  all_goals
    go_enter Tryz.func82, Tryz.ntmps82
    go_wp2
    go_ret
    exact ⟨by simp [*], rfl⟩

set_option maxHeartbeats 1000000 in
theorem pos_place (p room : Int) (w : World) : Calls Tryz.prog 68 #[.int .i64 p, .int .i64 room] w fun e w' => e = .returned (.int .i64 (place p room)) ∧ w' = w := by
  have C := fun W => pos_is p room W
  by_cases h : 0 ≤ p ∧ 1 ≤ room
  · have e : place p room = p % room := if_pos h
    have e2 : (decide (0 ≤ p) && decide (1 ≤ room)) = true := by simp [h.1, h.2]
    rw [e2] at C
    rw [e]
    obtain ⟨h1, h2⟩ := h
    have h3 : room ≠ 0 := by omega
    clear e e2
    go_enter Tryz.func68, Tryz.ntmps68
    go_wp2_with fail
    refine (C _).mono ?_
    rintro e w1 ⟨rfl, rfl⟩
    clear C
    go_wp2
    go_ret
    exact ⟨rfl, rfl⟩
  · have e : place p room = 0 := if_neg h
    have e2 : (decide (0 ≤ p) && decide (1 ≤ room)) = false := by
      rw [Bool.eq_false_iff]
      intro hq
      simp at hq
      exact h hq
    rw [e2] at C
    rw [e]
    clear e e2 h
    go_enter Tryz.func68, Tryz.ntmps68
    go_wp2_with fail
    refine (C _).mono ?_
    rintro e w1 ⟨rfl, rfl⟩
    clear C
    go_wp2
    go_ret
    exact ⟨rfl, rfl⟩

set_option maxHeartbeats 1000000 in
theorem pos_within (a lo hi : Int) (w : World) : Calls Tryz.prog 66 #[.int .i64 a, .int .i64 lo, .int .i64 hi] w fun e w' => e = .returned (.bool (decide (lo ≤ a) && decide (a ≤ hi))) ∧ w' = w := by
  by_cases h : lo ≤ a
  all_goals by_cases h2 : a ≤ hi
  all_goals
    go_enter Tryz.func66, Tryz.ntmps66
    go_wp2
    go_ret
    exact ⟨by simp [*], rfl⟩

set_option maxHeartbeats 1000000 in
theorem pos_len (x : W3) (w : World) (h0 : 0 ≤ x.head) (h1 : x.head ≤ x.tail) (h2 : x.tail ≤ 1099511627776) : Calls Tryz.prog 67 #[x.val] w fun e w' => e = .returned (.int .i64 (x.tail - x.head)) ∧ Below w.heap.size w w' := by
  obtain ⟨head, tail, mode⟩ := x
  dsimp only at *
  by_cases he : tail ≤ head
  · obtain rfl : tail = head := by omega
    rw [show tail - tail = 0 by omega]
    go_enter Tryz.func67, Tryz.ntmps67
    go_wp2
    all_goals
      go_ret
      exact ⟨rfl, below_one _ _⟩
  · have hh : ¬ head < 0 := by omega
    go_enter Tryz.func67, Tryz.ntmps67
    go_wp2
    all_goals
      go_ret
      exact ⟨by simp, below_one _ _⟩

set_option maxHeartbeats 1000000 in
theorem pos_full (x : W3) (room : Int) (w : World) (h0 : 0 ≤ x.head) (h1 : x.head ≤ x.tail) (h2 : x.tail ≤ 1099511627776) : Calls Tryz.prog 91 #[x.val, .int .i64 room] w fun e w' => e = .returned (.bool (decide (room ≤ x.tail - x.head))) ∧ Below w.heap.size w w' := by
  have C := fun W => pos_len x W h0 h1 h2
  obtain ⟨head, tail, mode⟩ := x
  dsimp only at *
  generalize tail - head = n at *
  go_enter Tryz.func91, Tryz.ntmps91
  go_wp2_with fail
  refine (C _).mono ?_
  rintro e w1 ⟨rfl, hb⟩
  rw [World.size_alloc] at hb
  have hB := below_box hb
  clear hb C
  go_wp2
  go_ret
  exact ⟨rfl, hB⟩

/-- A word in a box of the call's own lies as it lay, behind whatever kept it. -/
theorem word_kept (c : W3) {w w1 : World} {t : TypeId} (hb : Below (w.heap.size + 1) (w.alloc (.cells c.cells t)) w1) : w1.heap[w.heap.size]? = some (.cells c.cells t (0, 0)) :=
  (hb.block w.heap.size (by omega)).trans (World.alloc_heap_new w _)
theorem cells3 {W : World} {B : Nat} {c : W3} {t : TypeId} (h : W.heap[B]? = some (.cells c.cells t (0, 0))) :
    W.cell? ⟨B, 0, none⟩ = some (.int .i64 c.head) ∧ W.cell? ⟨B, 1, none⟩ = some (.int .i64 c.tail) ∧ W.cell? ⟨B, 2, none⟩ = some (.int .i64 c.mode) :=
  ⟨(of_block h 0).1, (of_block h 1).1, (of_block h 2).1⟩

set_option maxRecDepth 100000 in
set_option maxHeartbeats 2000000 in
theorem pos_check (x : W3) (room : Int) (w : World) : Calls Tryz.prog 43 #[x.val, .int .i64 room] w fun e w' => e = .returned (.bool (x.may room)) ∧ Below w.heap.size w w' := by
  have C1 := fun a lo hi W => pos_within a lo hi W
  have C2 := fun W => pos_len x W
  have hm := W3.may_iff x room
  obtain ⟨head, tail, mode⟩ := x
  dsimp only at *
  generalize W3.may _ room = m at *
  have HM := Lib.hid hm
  clear hm
  by_cases h1 : head ≤ tail ∧ tail ≤ 1099511627776
  · have q1 : (decide (head ≤ tail) && decide (tail ≤ 1099511627776)) = true := by simp [h1]
    have D1 := fun W => C1 tail head 1099511627776 W
    rw [q1] at D1
    by_cases h2 : 0 ≤ head
    · have D2 := fun W => C2 W h2 h1.1 h1.2
      by_cases h3 : tail - head ≤ room
      · have q3 : m = (decide (0 ≤ mode) && decide (mode ≤ 2)) := by
          have := HM.out
          rw [Bool.eq_iff_iff, this]
          simp
          omega
        have D3 := fun W => C1 mode 0 2 W
        rw [← q3] at D3
        clear q3 q1 C1 C2
        obtain ⟨_, _⟩ := h1
        generalize hd : tail - head = d at *
        clear hd
        go_enter Tryz.func43, Tryz.ntmps43
        go_wp2_with fail
        refine (D1 _).mono ?_
        rintro e w1 ⟨rfl, rfl⟩
        go_wp2_with fail
        refine (D2 _).mono ?_
        rintro e w2 ⟨rfl, hb⟩
        rw [World.size_alloc] at hb
        have hB := below_box hb
        obtain ⟨c0, c1, c2⟩ := cells3 (word_kept ⟨head, tail, mode⟩ hb)
        clear hb D1 D2
        go_wp2_with fail
        refine (D3 _).mono ?_
        rintro e w3 ⟨rfl, rfl⟩
        clear D3 c0 c1 c2
        go_wp2
        go_ret
        exact ⟨rfl, hB⟩
      · have q3 : m = false := by
          rw [Bool.eq_false_iff]
          intro hq
          have := HM.out.1 hq
          omega
        subst q3
        clear q1 C1 C2
        obtain ⟨_, _⟩ := h1
        generalize hd : tail - head = d at *
        clear hd
        go_enter Tryz.func43, Tryz.ntmps43
        go_wp2_with fail
        refine (D1 _).mono ?_
        rintro e w1 ⟨rfl, rfl⟩
        go_wp2_with fail
        refine (D2 _).mono ?_
        rintro e w2 ⟨rfl, hb⟩
        rw [World.size_alloc] at hb
        have hB := below_box hb
        clear hb D1 D2
        go_wp2
        go_ret
        exact ⟨rfl, hB⟩
    · have q3 : m = false := by
        rw [Bool.eq_false_iff]
        intro hq
        have := HM.out.1 hq
        omega
      subst q3
      clear q1 C1 C2
      go_enter Tryz.func43, Tryz.ntmps43
      go_wp2_with fail
      refine (D1 _).mono ?_
      rintro e w1 ⟨rfl, rfl⟩
      clear D1
      go_wp2
      go_ret
      exact ⟨rfl, below_one _ _⟩
  · have q1 : (decide (head ≤ tail) && decide (tail ≤ 1099511627776)) = false := by
      rw [Bool.eq_false_iff]
      intro hq
      simp at hq
      exact h1 hq
    have D1 := fun W => C1 tail head 1099511627776 W
    rw [q1] at D1
    have q3 : m = false := by
      rw [Bool.eq_false_iff]
      intro hq
      have := HM.out.1 hq
      exact h1 ⟨this.1, this.2.1⟩
    subst q3
    clear q1 C1 C2 h1
    go_enter Tryz.func43, Tryz.ntmps43
    go_wp2_with fail
    refine (D1 _).mono ?_
    rintro e w1 ⟨rfl, rfl⟩
    clear D1
    go_wp2
    go_ret
    exact ⟨rfl, below_one _ _⟩

end Go.Proofs.YtnbgpopjnpdmgaaGreat

namespace Go.Proofs.YtnbgpopjnpdmgaaGreat
open Go Go.RowKit Go.Shelf

theorem Cfg.most_le (c : Cfg) : 0 ≤ c.most ∧ c.most ≤ 8 := by unfold Cfg.most; split <;> omega

/-- A box's cells. -/
theorem cells7 {W : World} {B : Nat} {c : Cfg} {t : TypeId} (h : W.heap[B]? = some (.cells c.cells t (0, 0))) :
    W.cell? ⟨B, 0, none⟩ = some (.int .i64 c.log) ∧ W.cell? ⟨B, 1, none⟩ = some (.int .i64 c.th) ∧ W.cell? ⟨B, 2, none⟩ = some (.int .i64 c.pol) ∧ W.cell? ⟨B, 3, none⟩ = some (.int .i64 c.wt) ∧
    W.cell? ⟨B, 4, none⟩ = some (.int .i64 c.sp) ∧ W.cell? ⟨B, 5, none⟩ = some (.int .i64 c.yi) ∧ W.cell? ⟨B, 6, none⟩ = some (.bool c.single) :=
  ⟨(of_block h 0).1, (of_block h 1).1, (of_block h 2).1, (of_block h 3).1, (of_block h 4).1, (of_block h 5).1, (of_block h 6).1⟩

/-- Boxes of the call's own. -/
def Boxes (w : World) (l : List (Nat × Cfg)) (t : TypeId) (W : World) : Prop :=
  (∀ p ∈ l, W.heap[p.1]? = some (.cells p.2.cells t (0, 0))) ∧ Below w.heap.size w W
theorem Boxes.on {w : World} {l : List (Nat × Cfg)} {t : TypeId} {W V : World} (h : Boxes w l t W) (hb : Below W.heap.size W V) : Boxes w l t V :=
  ⟨fun p hp => (hb.block _ (Array.getElem?_eq_some_iff.1 (h.1 p hp)).1).trans (h.1 p hp), h.2.trans (hb.mono h.2.size)⟩
theorem Boxes.drew {w : World} {l : List (Nat × Cfg)} {t : TypeId} {W : World} (h : Boxes w l t W) : Boxes w l t W.drew := ⟨h.1, h.2.drew⟩
theorem Boxes.add {w : World} {l : List (Nat × Cfg)} {t : TypeId} {W : World} (h : Boxes w l t W) (c : Cfg) : Boxes w ((W.heap.size, c) :: l) t (W.alloc (.cells c.cells t)) :=
  ⟨fun p hp => by
    rcases List.mem_cons.1 hp with rfl | hp
    · exact World.alloc_heap_new W _
    · exact (Below.heap_alloc _ _ _ (Array.getElem?_eq_some_iff.1 (h.1 p hp)).1).trans (h.1 p hp), h.2.alloc h.2.size _⟩
/-- Behind an append onto a row that is no box of these. -/
theorem Boxes.grown {w : World} {B : Nat} {c : Cfg} {t : TypeId} {W V : World} {row : Option Nat} {o : Obj} (h : Boxes w [(B, c)] t W) (hg : (W.alloc o).grownBy V row) (hr : ∀ g, row = some g → B + 1 ≤ g) (hB : w.heap.size ≤ B := by omega) : Boxes w [(B, c)] t V := by
  have h0 := h.1 (B, c) (by simp)
  have hlt := (Array.getElem?_eq_some_iff.1 h0).1
  have b1 : Below (B + 1) (W.alloc o) V := ⟨hg.os, hg.tape, hg.output, hg.size, fun k hk => hg.block k (by rw [World.size_alloc]; omega) (fun e => by have := hr k e.symm; omega)⟩
  have b2 : Below (B + 1) W V := ((Below.refl _ W).alloc (by omega) o).trans b1
  refine ⟨fun p hp => ?_, h.2.trans (b2.mono (by omega))⟩
  obtain rfl : p = (B, c) := by simpa using hp
  exact (b2.block B (by omega)).trans h0
theorem Boxes.at_ {w : World} {l : List (Nat × Cfg)} {t : TypeId} {W : World} (h : Boxes w l t W) {B : Nat} {c : Cfg} (hm : (B, c) ∈ l) : W.heap[B]? = some (.cells c.cells t (0, 0)) := h.1 _ hm
theorem Boxes.nil (w : World) (t : TypeId) : Boxes w [] t w := ⟨(fun _ h => by cases h), Below.refl _ _⟩

end Go.Proofs.YtnbgpopjnpdmgaaGreat
