/-
  DERIVED. Word, Sees.
-/
import Derived.Handy
import Derived.Test.YtnbgpopjnpdmgaaGreatPae
set_option linter.unusedVariables false
set_option linter.unusedSimpArgs false

namespace Go.Proofs.YtnbgpopjnpdmgaaGreat
open Go Go.RowKit Go.Shelf

def W3.halted (x : W3) (room : Int) : Bool := decide (x.mode = 2) || !x.may room
/-- One more is let in: the word, where, what is told. -/
def W3.acc (x : W3) (room : Int) : W3 × Int × Int :=
  if x.halted room then (x, 0, 7) else if x.mode = 1 then (x, 0, 6) else if room ≤ x.tail - x.head ∨ x.tail = 1099511627776 then (x, 0, 2) else ({ x with tail := x.tail + 1 }, x.tail, 1)
/-- One is taken out. -/
def W3.tak (x : W3) (room : Int) : W3 × Int × Int :=
  if x.halted room then (x, 0, 7) else if 0 < x.tail - x.head then ({ x with head := x.head + 1 }, x.head, 1) else if x.mode = 1 then (x, 0, 6) else (x, 0, 4)
theorem stored3 {W : World} {B : Nat} {x y z a b c : Value} {t : TypeId} (h : W.heap[B]? = some (.cells #[x, y, z] t (0, 0))) :
    (((W.setCell ⟨B, 0, none⟩ a).setCell ⟨B, 1, none⟩ b).setCell ⟨B, 2, none⟩ c).heap[B]? = some (.cells #[a, b, c] t (0, 0)) := by
  simp [World.setCell, Array.getElem?_modify, h]
theorem W3.live {x : W3} {room : Int} (h : x.halted room = false) : x.head ≤ x.tail ∧ x.tail ≤ 1099511627776 ∧ 0 ≤ x.head ∧ x.tail - x.head ≤ room ∧ 0 ≤ x.mode ∧ x.mode ≤ 1 := by
  simp only [W3.halted, Bool.or_eq_false_iff, decide_eq_false_iff_not, Bool.not_eq_false'] at h
  have := (W3.may_iff x room).1 h.2
  omega

set_option maxRecDepth 100000 in
set_option maxHeartbeats 1000000 in
theorem word_halted (x : W3) (room : Int) (w : World) : Calls Tryz.prog 90 #[x.val, .int .i64 room] w fun e w' => e = .returned (.bool (x.halted room)) ∧ Below w.heap.size w w' := by
  have C := fun W => pos_check x room W
  by_cases h : x.mode = 2
  · have q : x.halted room = true := by simp [W3.halted, h]
    rw [q]
    obtain ⟨head, tail, mode⟩ := x
    dsimp only at h
    subst h
    clear q C
    go_enter Tryz.func90, Tryz.ntmps90
    go_wp2
    go_ret
    exact ⟨rfl, below_one _ _⟩
  · have q : x.halted room = !x.may room := by simp [W3.halted, h]
    rw [q]
    obtain ⟨head, tail, mode⟩ := x
    dsimp only at h
    generalize W3.may _ room = m at *
    clear q
    go_enter Tryz.func90, Tryz.ntmps90
    go_wp2_with fail
    refine (C _).mono ?_
    rintro e w1 ⟨rfl, hb⟩
    rw [World.size_alloc] at hb
    have hB := below_box hb
    clear hb C
    have h2 : (mode == 2) = false := by simpa using h
    clear h
    go_wp2
    go_ret
    exact ⟨by simp [h2], hB⟩

set_option maxRecDepth 100000 in
set_option maxHeartbeats 1000000 in
theorem acc_stays (x : W3) (r : Int) (B : Nat) (w : World) (h : w.heap[B]? = some (.cells x.cells 28 (0, 0))) : Calls Tryz.prog 89 #[.int .i64 r, .pointer (some ⟨B, 0, none⟩)] w fun e w' => e = .returned (.tuple #[x.val, .int .i64 0, .int .i64 r]) ∧ Below w.heap.size w w' := by
  have hlt := (Array.getElem?_eq_some_iff.1 h).1
  obtain ⟨c0, c1, c2⟩ := cells3 h
  obtain ⟨head, tail, mode⟩ := x
  dsimp only at *
  clear h
  go_enter Tryz.func89, Tryz.ntmps89
  go_wp2
  go_returns
  refine ⟨rfl, ?_⟩
  go_grown

set_option maxRecDepth 100000 in
set_option maxHeartbeats 1000000 in
theorem tak_stays (x : W3) (r : Int) (B : Nat) (w : World) (h : w.heap[B]? = some (.cells x.cells 28 (0, 0))) : Calls Tryz.prog 92 #[.int .i64 r, .pointer (some ⟨B, 0, none⟩)] w fun e w' => e = .returned (.tuple #[x.val, .int .i64 0, .int .i64 r]) ∧ Below w.heap.size w w' := by
  have hlt := (Array.getElem?_eq_some_iff.1 h).1
  obtain ⟨c0, c1, c2⟩ := cells3 h
  obtain ⟨head, tail, mode⟩ := x
  dsimp only at *
  clear h
  go_enter Tryz.func92, Tryz.ntmps92
  go_wp2
  go_returns
  refine ⟨rfl, ?_⟩
  go_grown

set_option maxRecDepth 100000 in
set_option maxHeartbeats 2000000 in
theorem acc_halted (x : W3) (room : Int) (w : World) (h : x.halted room = true) : Calls Tryz.prog 75 #[x.val, .int .i64 room] w fun e w' => e = .returned (.tuple #[x.val, .int .i64 0, .int .i64 7]) ∧ Below w.heap.size w w' := by
  have H := fun W => word_halted x room W
  rw [h] at H
  clear h
  obtain ⟨head, tail, mode⟩ := x
  try dsimp only at *
  go_enter Tryz.func75, Tryz.ntmps75
  go_wp2_with fail
  have k0 := World.alloc_heap_new w (.cells (W3.cells ⟨head, tail, mode⟩) 28)
  replace k0 := (Below.heap_alloc (w.alloc (.cells (W3.cells ⟨head, tail, mode⟩) 28)) (.cells (W3.cells ⟨0, 0, 0⟩) 28) _ (by simp)).trans k0
  have k1 := World.alloc_heap_new (w.alloc (.cells (W3.cells ⟨head, tail, mode⟩) 28)) (.cells (W3.cells ⟨0, 0, 0⟩) 28)
  have hB := (below_one w (.cells (W3.cells ⟨head, tail, mode⟩) 28)).alloc (by simp) (.cells (W3.cells ⟨0, 0, 0⟩) 28)
  rw [World.size_alloc] at k1
  refine (H _).mono ?_
  rintro e w1 ⟨rfl, hb⟩
  replace k0 := (hb.block _ (Array.getElem?_eq_some_iff.1 k0).1).trans k0
  replace k1 := (hb.block _ (Array.getElem?_eq_some_iff.1 k1).1).trans k1
  replace hB := hB.trans (hb.mono hB.size)
  clear hb
  obtain ⟨a0, a1, a2⟩ := cells3 k0
  obtain ⟨d0, d1, d2⟩ := cells3 k1
  have e0 := (of_block k0 0).2
  have e1 := (of_block k0 1).2
  have f0 := (of_block k1 0).2
  have f1 := (of_block k1 1).2
  have f2 := (of_block k1 2).2
  have s0 := (Array.getElem?_eq_some_iff.1 k1).1
  clear H
  go_wp2_with fail
  refine (acc_stays ⟨head, tail, mode⟩ 7 w.heap.size _ k0).mono ?_
  rintro e w9 ⟨rfl, hb⟩
  clear a0 a1 a2 d0 d1 d2 e0 e1 f0 f1 f2 s0
  replace k0 := (hb.block _ (Array.getElem?_eq_some_iff.1 k0).1).trans k0
  replace k1 := (hb.block _ (Array.getElem?_eq_some_iff.1 k1).1).trans k1
  replace hB := hB.trans (hb.mono hB.size)
  clear hb
  obtain ⟨a0, a1, a2⟩ := cells3 k0
  obtain ⟨d0, d1, d2⟩ := cells3 k1
  have e0 := (of_block k0 0).2
  have e1 := (of_block k0 1).2
  have f0 := (of_block k1 0).2
  have f1 := (of_block k1 1).2
  have f2 := (of_block k1 2).2
  have s0 := (Array.getElem?_eq_some_iff.1 k1).1
  clear k0
  have K1 := Lib.hid k1
  clear k1
  go_wp2
  have k2 := stored3 (a := .int .i64 head) (b := .int .i64 tail) (c := .int .i64 mode) K1.out
  obtain ⟨r0, r1, r2⟩ := cells3 (c := ⟨head, tail, mode⟩) k2
  refine bodyPost_ret (v := .tuple #[W3.val ⟨head, tail, mode⟩, .int .i64 0, .int .i64 7]) (by simp [results, Tryz.f75, go_sem, r0, r1, r2]) rfl ⟨rfl, ?_⟩
  go_grown

set_option maxRecDepth 100000 in
set_option maxHeartbeats 2000000 in
theorem acc_closed (x : W3) (room : Int) (w : World) (h : x.halted room = false) (hm : x.mode = 1) : Calls Tryz.prog 75 #[x.val, .int .i64 room] w fun e w' => e = .returned (.tuple #[x.val, .int .i64 0, .int .i64 6]) ∧ Below w.heap.size w w' := by
  have H := fun W => word_halted x room W
  rw [h] at H
  clear h
  obtain ⟨head, tail, mode⟩ := x
  try dsimp only at *
  subst hm
  go_enter Tryz.func75, Tryz.ntmps75
  go_wp2_with fail
  have k0 := World.alloc_heap_new w (.cells (W3.cells ⟨head, tail, 1⟩) 28)
  replace k0 := (Below.heap_alloc (w.alloc (.cells (W3.cells ⟨head, tail, 1⟩) 28)) (.cells (W3.cells ⟨0, 0, 0⟩) 28) _ (by simp)).trans k0
  have k1 := World.alloc_heap_new (w.alloc (.cells (W3.cells ⟨head, tail, 1⟩) 28)) (.cells (W3.cells ⟨0, 0, 0⟩) 28)
  have hB := (below_one w (.cells (W3.cells ⟨head, tail, 1⟩) 28)).alloc (by simp) (.cells (W3.cells ⟨0, 0, 0⟩) 28)
  rw [World.size_alloc] at k1
  refine (H _).mono ?_
  rintro e w1 ⟨rfl, hb⟩
  replace k0 := (hb.block _ (Array.getElem?_eq_some_iff.1 k0).1).trans k0
  replace k1 := (hb.block _ (Array.getElem?_eq_some_iff.1 k1).1).trans k1
  replace hB := hB.trans (hb.mono hB.size)
  clear hb
  obtain ⟨a0, a1, a2⟩ := cells3 k0
  obtain ⟨d0, d1, d2⟩ := cells3 k1
  have e0 := (of_block k0 0).2
  have e1 := (of_block k0 1).2
  have f0 := (of_block k1 0).2
  have f1 := (of_block k1 1).2
  have f2 := (of_block k1 2).2
  have s0 := (Array.getElem?_eq_some_iff.1 k1).1
  clear H
  go_wp2_with fail
  refine (acc_stays ⟨head, tail, 1⟩ 6 w.heap.size _ k0).mono ?_
  rintro e w9 ⟨rfl, hb⟩
  clear a0 a1 a2 d0 d1 d2 e0 e1 f0 f1 f2 s0
  replace k0 := (hb.block _ (Array.getElem?_eq_some_iff.1 k0).1).trans k0
  replace k1 := (hb.block _ (Array.getElem?_eq_some_iff.1 k1).1).trans k1
  replace hB := hB.trans (hb.mono hB.size)
  clear hb
  obtain ⟨a0, a1, a2⟩ := cells3 k0
  obtain ⟨d0, d1, d2⟩ := cells3 k1
  have e0 := (of_block k0 0).2
  have e1 := (of_block k0 1).2
  have f0 := (of_block k1 0).2
  have f1 := (of_block k1 1).2
  have f2 := (of_block k1 2).2
  have s0 := (Array.getElem?_eq_some_iff.1 k1).1
  clear k0
  have K1 := Lib.hid k1
  clear k1
  go_wp2
  have k2 := stored3 (a := .int .i64 head) (b := .int .i64 tail) (c := .int .i64 1) K1.out
  obtain ⟨r0, r1, r2⟩ := cells3 (c := ⟨head, tail, 1⟩) k2
  refine bodyPost_ret (v := .tuple #[W3.val ⟨head, tail, 1⟩, .int .i64 0, .int .i64 6]) (by simp [results, Tryz.f75, go_sem, r0, r1, r2]) rfl ⟨rfl, ?_⟩
  go_grown

set_option maxRecDepth 100000 in
set_option maxHeartbeats 2000000 in
theorem acc_full1 (x : W3) (room : Int) (w : World) (h : x.halted room = false) (hm : ¬ x.mode = 1) (hf : room ≤ x.tail - x.head) : Calls Tryz.prog 75 #[x.val, .int .i64 room] w fun e w' => e = .returned (.tuple #[x.val, .int .i64 0, .int .i64 2]) ∧ Below w.heap.size w w' := by
  have H := fun W => word_halted x room W
  rw [h] at H
  obtain ⟨v1, v2, v3, v4, v5, v6⟩ := W3.live h
  have D := fun W => pos_full x room W v3 v1 v2
  obtain ⟨head, tail, mode⟩ := x
  try dsimp only at *
  have hd : decide (room ≤ tail - head) = true := by simpa using hf
  have hm2 : (mode == 1) = false := by simpa using hm
  clear hm hf
  rw [hd] at D
  clear hd h v1 v2 v3 v4 v5 v6
  go_enter Tryz.func75, Tryz.ntmps75
  go_wp2_with fail
  have k0 := World.alloc_heap_new w (.cells (W3.cells ⟨head, tail, mode⟩) 28)
  replace k0 := (Below.heap_alloc (w.alloc (.cells (W3.cells ⟨head, tail, mode⟩) 28)) (.cells (W3.cells ⟨0, 0, 0⟩) 28) _ (by simp)).trans k0
  have k1 := World.alloc_heap_new (w.alloc (.cells (W3.cells ⟨head, tail, mode⟩) 28)) (.cells (W3.cells ⟨0, 0, 0⟩) 28)
  have hB := (below_one w (.cells (W3.cells ⟨head, tail, mode⟩) 28)).alloc (by simp) (.cells (W3.cells ⟨0, 0, 0⟩) 28)
  rw [World.size_alloc] at k1
  refine (H _).mono ?_
  rintro e w1 ⟨rfl, hb⟩
  replace k0 := (hb.block _ (Array.getElem?_eq_some_iff.1 k0).1).trans k0
  replace k1 := (hb.block _ (Array.getElem?_eq_some_iff.1 k1).1).trans k1
  replace hB := hB.trans (hb.mono hB.size)
  clear hb
  obtain ⟨a0, a1, a2⟩ := cells3 k0
  obtain ⟨d0, d1, d2⟩ := cells3 k1
  have e0 := (of_block k0 0).2
  have e1 := (of_block k0 1).2
  have f0 := (of_block k1 0).2
  have f1 := (of_block k1 1).2
  have f2 := (of_block k1 2).2
  have s0 := (Array.getElem?_eq_some_iff.1 k1).1
  clear H
  go_wp2_with fail
  refine (D _).mono ?_
  rintro e w2 ⟨rfl, hb⟩
  clear a0 a1 a2 d0 d1 d2 e0 e1 f0 f1 f2 s0
  replace k0 := (hb.block _ (Array.getElem?_eq_some_iff.1 k0).1).trans k0
  replace k1 := (hb.block _ (Array.getElem?_eq_some_iff.1 k1).1).trans k1
  replace hB := hB.trans (hb.mono hB.size)
  clear hb
  obtain ⟨a0, a1, a2⟩ := cells3 k0
  obtain ⟨d0, d1, d2⟩ := cells3 k1
  have e0 := (of_block k0 0).2
  have e1 := (of_block k0 1).2
  have f0 := (of_block k1 0).2
  have f1 := (of_block k1 1).2
  have f2 := (of_block k1 2).2
  have s0 := (Array.getElem?_eq_some_iff.1 k1).1
  clear D
  go_wp2_with fail
  refine (acc_stays ⟨head, tail, mode⟩ 2 w.heap.size _ k0).mono ?_
  rintro e w9 ⟨rfl, hb⟩
  clear a0 a1 a2 d0 d1 d2 e0 e1 f0 f1 f2 s0
  replace k0 := (hb.block _ (Array.getElem?_eq_some_iff.1 k0).1).trans k0
  replace k1 := (hb.block _ (Array.getElem?_eq_some_iff.1 k1).1).trans k1
  replace hB := hB.trans (hb.mono hB.size)
  clear hb
  obtain ⟨a0, a1, a2⟩ := cells3 k0
  obtain ⟨d0, d1, d2⟩ := cells3 k1
  have e0 := (of_block k0 0).2
  have e1 := (of_block k0 1).2
  have f0 := (of_block k1 0).2
  have f1 := (of_block k1 1).2
  have f2 := (of_block k1 2).2
  have s0 := (Array.getElem?_eq_some_iff.1 k1).1
  clear k0
  have K1 := Lib.hid k1
  clear k1
  go_wp2
  have k2 := stored3 (a := .int .i64 head) (b := .int .i64 tail) (c := .int .i64 mode) K1.out
  obtain ⟨r0, r1, r2⟩ := cells3 (c := ⟨head, tail, mode⟩) k2
  refine bodyPost_ret (v := .tuple #[W3.val ⟨head, tail, mode⟩, .int .i64 0, .int .i64 2]) (by simp [results, Tryz.f75, go_sem, r0, r1, r2]) rfl ⟨rfl, ?_⟩
  go_grown

set_option maxRecDepth 100000 in
set_option maxHeartbeats 2000000 in
theorem acc_full2 (x : W3) (room : Int) (w : World) (h : x.halted room = false) (hm : ¬ x.mode = 1) (hf : ¬ room ≤ x.tail - x.head) (ht : x.tail = 1099511627776) : Calls Tryz.prog 75 #[x.val, .int .i64 room] w fun e w' => e = .returned (.tuple #[x.val, .int .i64 0, .int .i64 2]) ∧ Below w.heap.size w w' := by
  have H := fun W => word_halted x room W
  rw [h] at H
  obtain ⟨v1, v2, v3, v4, v5, v6⟩ := W3.live h
  have D := fun W => pos_full x room W v3 v1 v2
  obtain ⟨head, tail, mode⟩ := x
  try dsimp only at *
  have hd : decide (room ≤ tail - head) = false := by simpa using hf
  have hm2 : (mode == 1) = false := by simpa using hm
  have ht2 : (tail == 1099511627776) = true := by simpa using ht
  clear hm hf ht
  rw [hd] at D
  clear hd h v1 v2 v3 v4 v5 v6
  go_enter Tryz.func75, Tryz.ntmps75
  go_wp2_with fail
  have k0 := World.alloc_heap_new w (.cells (W3.cells ⟨head, tail, mode⟩) 28)
  replace k0 := (Below.heap_alloc (w.alloc (.cells (W3.cells ⟨head, tail, mode⟩) 28)) (.cells (W3.cells ⟨0, 0, 0⟩) 28) _ (by simp)).trans k0
  have k1 := World.alloc_heap_new (w.alloc (.cells (W3.cells ⟨head, tail, mode⟩) 28)) (.cells (W3.cells ⟨0, 0, 0⟩) 28)
  have hB := (below_one w (.cells (W3.cells ⟨head, tail, mode⟩) 28)).alloc (by simp) (.cells (W3.cells ⟨0, 0, 0⟩) 28)
  rw [World.size_alloc] at k1
  refine (H _).mono ?_
  rintro e w1 ⟨rfl, hb⟩
  replace k0 := (hb.block _ (Array.getElem?_eq_some_iff.1 k0).1).trans k0
  replace k1 := (hb.block _ (Array.getElem?_eq_some_iff.1 k1).1).trans k1
  replace hB := hB.trans (hb.mono hB.size)
  clear hb
  obtain ⟨a0, a1, a2⟩ := cells3 k0
  obtain ⟨d0, d1, d2⟩ := cells3 k1
  have e0 := (of_block k0 0).2
  have e1 := (of_block k0 1).2
  have f0 := (of_block k1 0).2
  have f1 := (of_block k1 1).2
  have f2 := (of_block k1 2).2
  have s0 := (Array.getElem?_eq_some_iff.1 k1).1
  clear H
  go_wp2_with fail
  refine (D _).mono ?_
  rintro e w2 ⟨rfl, hb⟩
  clear a0 a1 a2 d0 d1 d2 e0 e1 f0 f1 f2 s0
  replace k0 := (hb.block _ (Array.getElem?_eq_some_iff.1 k0).1).trans k0
  replace k1 := (hb.block _ (Array.getElem?_eq_some_iff.1 k1).1).trans k1
  replace hB := hB.trans (hb.mono hB.size)
  clear hb
  obtain ⟨a0, a1, a2⟩ := cells3 k0
  obtain ⟨d0, d1, d2⟩ := cells3 k1
  have e0 := (of_block k0 0).2
  have e1 := (of_block k0 1).2
  have f0 := (of_block k1 0).2
  have f1 := (of_block k1 1).2
  have f2 := (of_block k1 2).2
  have s0 := (Array.getElem?_eq_some_iff.1 k1).1
  clear D
  go_wp2_with fail
  refine (acc_stays ⟨head, tail, mode⟩ 2 w.heap.size _ k0).mono ?_
  rintro e w9 ⟨rfl, hb⟩
  clear a0 a1 a2 d0 d1 d2 e0 e1 f0 f1 f2 s0
  replace k0 := (hb.block _ (Array.getElem?_eq_some_iff.1 k0).1).trans k0
  replace k1 := (hb.block _ (Array.getElem?_eq_some_iff.1 k1).1).trans k1
  replace hB := hB.trans (hb.mono hB.size)
  clear hb
  obtain ⟨a0, a1, a2⟩ := cells3 k0
  obtain ⟨d0, d1, d2⟩ := cells3 k1
  have e0 := (of_block k0 0).2
  have e1 := (of_block k0 1).2
  have f0 := (of_block k1 0).2
  have f1 := (of_block k1 1).2
  have f2 := (of_block k1 2).2
  have s0 := (Array.getElem?_eq_some_iff.1 k1).1
  clear k0
  have K1 := Lib.hid k1
  clear k1
  go_wp2
  have k2 := stored3 (a := .int .i64 head) (b := .int .i64 tail) (c := .int .i64 mode) K1.out
  obtain ⟨r0, r1, r2⟩ := cells3 (c := ⟨head, tail, mode⟩) k2
  refine bodyPost_ret (v := .tuple #[W3.val ⟨head, tail, mode⟩, .int .i64 0, .int .i64 2]) (by simp [results, Tryz.f75, go_sem, r0, r1, r2]) rfl ⟨rfl, ?_⟩
  go_grown

set_option maxRecDepth 100000 in
set_option maxHeartbeats 2000000 in
theorem acc_ok (x : W3) (room : Int) (w : World) (h : x.halted room = false) (hm : ¬ x.mode = 1) (hf : ¬ room ≤ x.tail - x.head) (ht : ¬ x.tail = 1099511627776) : Calls Tryz.prog 75 #[x.val, .int .i64 room] w fun e w' => e = .returned (.tuple #[.agg #[.int .i64 x.head, .int .i64 (x.tail + 1), .int .i64 x.mode], .int .i64 x.tail, .int .i64 1]) ∧ Below w.heap.size w w' := by
  have H := fun W => word_halted x room W
  rw [h] at H
  obtain ⟨v1, v2, v3, v4, v5, v6⟩ := W3.live h
  have D := fun W => pos_full x room W v3 v1 v2
  obtain ⟨head, tail, mode⟩ := x
  try dsimp only at *
  have hd : decide (room ≤ tail - head) = false := by simpa using hf
  have hm2 : (mode == 1) = false := by simpa using hm
  have ht2 : (tail == 1099511627776) = false := by simpa using ht
  have g1 : tail ≤ 1099511627776 := v2
  have g2 : 0 ≤ tail := by omega
  clear hm hf ht
  rw [hd] at D
  clear hd h v1 v2 v3 v4 v5 v6
  go_enter Tryz.func75, Tryz.ntmps75
  go_wp2_with fail
  have k0 := World.alloc_heap_new w (.cells (W3.cells ⟨head, tail, mode⟩) 28)
  replace k0 := (Below.heap_alloc (w.alloc (.cells (W3.cells ⟨head, tail, mode⟩) 28)) (.cells (W3.cells ⟨0, 0, 0⟩) 28) _ (by simp)).trans k0
  have k1 := World.alloc_heap_new (w.alloc (.cells (W3.cells ⟨head, tail, mode⟩) 28)) (.cells (W3.cells ⟨0, 0, 0⟩) 28)
  have hB := (below_one w (.cells (W3.cells ⟨head, tail, mode⟩) 28)).alloc (by simp) (.cells (W3.cells ⟨0, 0, 0⟩) 28)
  rw [World.size_alloc] at k1
  refine (H _).mono ?_
  rintro e w1 ⟨rfl, hb⟩
  replace k0 := (hb.block _ (Array.getElem?_eq_some_iff.1 k0).1).trans k0
  replace k1 := (hb.block _ (Array.getElem?_eq_some_iff.1 k1).1).trans k1
  replace hB := hB.trans (hb.mono hB.size)
  clear hb
  obtain ⟨a0, a1, a2⟩ := cells3 k0
  obtain ⟨d0, d1, d2⟩ := cells3 k1
  have e0 := (of_block k0 0).2
  have e1 := (of_block k0 1).2
  have f0 := (of_block k1 0).2
  have f1 := (of_block k1 1).2
  have f2 := (of_block k1 2).2
  have s0 := (Array.getElem?_eq_some_iff.1 k1).1
  clear H
  go_wp2_with fail
  refine (D _).mono ?_
  rintro e w2 ⟨rfl, hb⟩
  clear a0 a1 a2 d0 d1 d2 e0 e1 f0 f1 f2 s0
  replace k0 := (hb.block _ (Array.getElem?_eq_some_iff.1 k0).1).trans k0
  replace k1 := (hb.block _ (Array.getElem?_eq_some_iff.1 k1).1).trans k1
  replace hB := hB.trans (hb.mono hB.size)
  clear hb
  obtain ⟨a0, a1, a2⟩ := cells3 k0
  obtain ⟨d0, d1, d2⟩ := cells3 k1
  have e0 := (of_block k0 0).2
  have e1 := (of_block k0 1).2
  have f0 := (of_block k1 0).2
  have f1 := (of_block k1 1).2
  have f2 := (of_block k1 2).2
  have s0 := (Array.getElem?_eq_some_iff.1 k1).1
  clear D
  have K0 := Lib.hid k0
  have K1 := Lib.hid k1
  clear k0 k1
  go_wp2
  have k1' := (Below.heap_setCell _ ⟨w.heap.size, 1, none⟩ (.int .i64 (tail + 1)) (w.heap.size + 1) (by simp)).trans K1.out
  have k2 := stored3 (a := .int .i64 head) (b := .int .i64 (tail + 1)) (c := .int .i64 mode) k1'
  obtain ⟨r0, r1, r2⟩ := cells3 (c := ⟨head, tail + 1, mode⟩) k2
  refine bodyPost_ret (v := .tuple #[W3.val ⟨head, tail + 1, mode⟩, .int .i64 tail, .int .i64 1]) (by simp [results, Tryz.f75, go_sem, r0, r1, r2]) rfl ⟨rfl, ?_⟩
  go_grown

theorem word_accept (x : W3) (room : Int) (w : World) : Calls Tryz.prog 75 #[x.val, .int .i64 room] w fun e w' => e = .returned (.tuple #[(x.acc room).1.val, .int .i64 (x.acc room).2.1, .int .i64 (x.acc room).2.2]) ∧ Below w.heap.size w w' := by
  by_cases h : x.halted room = true
  · have e : x.acc room = (x, 0, 7) := by simp [W3.acc, h]
    rw [e]
    exact acc_halted x room w h
  · have h' : x.halted room = false := by simpa using h
    by_cases hm : x.mode = 1
    · have e : x.acc room = (x, 0, 6) := by simp [W3.acc, h', hm]
      rw [e]
      exact acc_closed x room w h' hm
    · by_cases hf : room ≤ x.tail - x.head
      · have e : x.acc room = (x, 0, 2) := by simp [W3.acc, h', hm, hf]
        rw [e]
        exact acc_full1 x room w h' hm hf
      · by_cases ht : x.tail = 1099511627776
        · have e : x.acc room = (x, 0, 2) := by
            unfold W3.acc
            rw [if_neg (by simp [h']), if_neg hm, if_pos (.inr ht)]
          rw [e]
          exact acc_full2 x room w h' hm hf ht
        · have e : x.acc room = ({ x with tail := x.tail + 1 }, x.tail, 1) := by simp [W3.acc, h', hm, hf, ht]
          rw [e]
          exact acc_ok x room w h' hm hf ht

set_option maxRecDepth 100000 in
set_option maxHeartbeats 2000000 in
theorem tak_halted (x : W3) (room : Int) (w : World) (h : x.halted room = true) : Calls Tryz.prog 76 #[x.val, .int .i64 room] w fun e w' => e = .returned (.tuple #[x.val, .int .i64 0, .int .i64 7]) ∧ Below w.heap.size w w' := by
  have H := fun W => word_halted x room W
  rw [h] at H
  clear h
  obtain ⟨head, tail, mode⟩ := x
  try dsimp only at *
  go_enter Tryz.func76, Tryz.ntmps76
  go_wp2_with fail
  have k0 := World.alloc_heap_new w (.cells (W3.cells ⟨head, tail, mode⟩) 28)
  replace k0 := (Below.heap_alloc (w.alloc (.cells (W3.cells ⟨head, tail, mode⟩) 28)) (.cells (W3.cells ⟨0, 0, 0⟩) 28) _ (by simp)).trans k0
  have k1 := World.alloc_heap_new (w.alloc (.cells (W3.cells ⟨head, tail, mode⟩) 28)) (.cells (W3.cells ⟨0, 0, 0⟩) 28)
  have hB := (below_one w (.cells (W3.cells ⟨head, tail, mode⟩) 28)).alloc (by simp) (.cells (W3.cells ⟨0, 0, 0⟩) 28)
  rw [World.size_alloc] at k1
  refine (H _).mono ?_
  rintro e w1 ⟨rfl, hb⟩
  replace k0 := (hb.block _ (Array.getElem?_eq_some_iff.1 k0).1).trans k0
  replace k1 := (hb.block _ (Array.getElem?_eq_some_iff.1 k1).1).trans k1
  replace hB := hB.trans (hb.mono hB.size)
  clear hb
  obtain ⟨a0, a1, a2⟩ := cells3 k0
  obtain ⟨d0, d1, d2⟩ := cells3 k1
  have e0 := (of_block k0 0).2
  have e1 := (of_block k0 1).2
  have f0 := (of_block k1 0).2
  have f1 := (of_block k1 1).2
  have f2 := (of_block k1 2).2
  have s0 := (Array.getElem?_eq_some_iff.1 k1).1
  clear H
  go_wp2_with fail
  refine (tak_stays ⟨head, tail, mode⟩ 7 w.heap.size _ k0).mono ?_
  rintro e w9 ⟨rfl, hb⟩
  clear a0 a1 a2 d0 d1 d2 e0 e1 f0 f1 f2 s0
  replace k0 := (hb.block _ (Array.getElem?_eq_some_iff.1 k0).1).trans k0
  replace k1 := (hb.block _ (Array.getElem?_eq_some_iff.1 k1).1).trans k1
  replace hB := hB.trans (hb.mono hB.size)
  clear hb
  obtain ⟨a0, a1, a2⟩ := cells3 k0
  obtain ⟨d0, d1, d2⟩ := cells3 k1
  have e0 := (of_block k0 0).2
  have e1 := (of_block k0 1).2
  have f0 := (of_block k1 0).2
  have f1 := (of_block k1 1).2
  have f2 := (of_block k1 2).2
  have s0 := (Array.getElem?_eq_some_iff.1 k1).1
  clear k0
  have K1 := Lib.hid k1
  clear k1
  go_wp2
  have k2 := stored3 (a := .int .i64 head) (b := .int .i64 tail) (c := .int .i64 mode) K1.out
  obtain ⟨r0, r1, r2⟩ := cells3 (c := ⟨head, tail, mode⟩) k2
  refine bodyPost_ret (v := .tuple #[W3.val ⟨head, tail, mode⟩, .int .i64 0, .int .i64 7]) (by simp [results, Tryz.f76, go_sem, r0, r1, r2]) rfl ⟨rfl, ?_⟩
  go_grown

set_option maxRecDepth 100000 in
set_option maxHeartbeats 2000000 in
theorem tak_closed (x : W3) (room : Int) (w : World) (h : x.halted room = false) (hf : ¬ 0 < x.tail - x.head) (hm : x.mode = 1) : Calls Tryz.prog 76 #[x.val, .int .i64 room] w fun e w' => e = .returned (.tuple #[x.val, .int .i64 0, .int .i64 6]) ∧ Below w.heap.size w w' := by
  have H := fun W => word_halted x room W
  rw [h] at H
  obtain ⟨v1, v2, v3, v4, v5, v6⟩ := W3.live h
  have D := fun W => pos_len x W v3 v1 v2
  obtain ⟨head, tail, mode⟩ := x
  try dsimp only at *
  have hm2 : (mode == 1) = true := by simpa using hm
  clear hm
  have hd : decide (0 < tail - head) = false := by simpa using hf
  have v7 : tail - head ≤ 0 := by omega
  clear hf
  clear h
  go_enter Tryz.func76, Tryz.ntmps76
  go_wp2_with fail
  have k0 := World.alloc_heap_new w (.cells (W3.cells ⟨head, tail, mode⟩) 28)
  replace k0 := (Below.heap_alloc (w.alloc (.cells (W3.cells ⟨head, tail, mode⟩) 28)) (.cells (W3.cells ⟨0, 0, 0⟩) 28) _ (by simp)).trans k0
  have k1 := World.alloc_heap_new (w.alloc (.cells (W3.cells ⟨head, tail, mode⟩) 28)) (.cells (W3.cells ⟨0, 0, 0⟩) 28)
  have hB := (below_one w (.cells (W3.cells ⟨head, tail, mode⟩) 28)).alloc (by simp) (.cells (W3.cells ⟨0, 0, 0⟩) 28)
  rw [World.size_alloc] at k1
  refine (H _).mono ?_
  rintro e w1 ⟨rfl, hb⟩
  replace k0 := (hb.block _ (Array.getElem?_eq_some_iff.1 k0).1).trans k0
  replace k1 := (hb.block _ (Array.getElem?_eq_some_iff.1 k1).1).trans k1
  replace hB := hB.trans (hb.mono hB.size)
  clear hb
  obtain ⟨a0, a1, a2⟩ := cells3 k0
  obtain ⟨d0, d1, d2⟩ := cells3 k1
  have e0 := (of_block k0 0).2
  have e1 := (of_block k0 1).2
  have f0 := (of_block k1 0).2
  have f1 := (of_block k1 1).2
  have f2 := (of_block k1 2).2
  have s0 := (Array.getElem?_eq_some_iff.1 k1).1
  clear H
  go_wp2_with fail
  refine (D _).mono ?_
  rintro e w2 ⟨rfl, hb⟩
  clear a0 a1 a2 d0 d1 d2 e0 e1 f0 f1 f2 s0
  replace k0 := (hb.block _ (Array.getElem?_eq_some_iff.1 k0).1).trans k0
  replace k1 := (hb.block _ (Array.getElem?_eq_some_iff.1 k1).1).trans k1
  replace hB := hB.trans (hb.mono hB.size)
  clear hb
  obtain ⟨a0, a1, a2⟩ := cells3 k0
  obtain ⟨d0, d1, d2⟩ := cells3 k1
  have e0 := (of_block k0 0).2
  have e1 := (of_block k0 1).2
  have f0 := (of_block k1 0).2
  have f1 := (of_block k1 1).2
  have f2 := (of_block k1 2).2
  have s0 := (Array.getElem?_eq_some_iff.1 k1).1
  clear D
  go_wp2_with fail
  refine (tak_stays ⟨head, tail, mode⟩ 6 w.heap.size _ k0).mono ?_
  rintro e w9 ⟨rfl, hb⟩
  clear a0 a1 a2 d0 d1 d2 e0 e1 f0 f1 f2 s0
  replace k0 := (hb.block _ (Array.getElem?_eq_some_iff.1 k0).1).trans k0
  replace k1 := (hb.block _ (Array.getElem?_eq_some_iff.1 k1).1).trans k1
  replace hB := hB.trans (hb.mono hB.size)
  clear hb
  obtain ⟨a0, a1, a2⟩ := cells3 k0
  obtain ⟨d0, d1, d2⟩ := cells3 k1
  have e0 := (of_block k0 0).2
  have e1 := (of_block k0 1).2
  have f0 := (of_block k1 0).2
  have f1 := (of_block k1 1).2
  have f2 := (of_block k1 2).2
  have s0 := (Array.getElem?_eq_some_iff.1 k1).1
  clear k0
  have K1 := Lib.hid k1
  clear k1
  go_wp2
  have k2 := stored3 (a := .int .i64 head) (b := .int .i64 tail) (c := .int .i64 mode) K1.out
  obtain ⟨r0, r1, r2⟩ := cells3 (c := ⟨head, tail, mode⟩) k2
  refine bodyPost_ret (v := .tuple #[W3.val ⟨head, tail, mode⟩, .int .i64 0, .int .i64 6]) (by simp [results, Tryz.f76, go_sem, r0, r1, r2]) rfl ⟨rfl, ?_⟩
  go_grown

set_option maxRecDepth 100000 in
set_option maxHeartbeats 2000000 in
theorem tak_empty (x : W3) (room : Int) (w : World) (h : x.halted room = false) (hf : ¬ 0 < x.tail - x.head) (hm : ¬ x.mode = 1) : Calls Tryz.prog 76 #[x.val, .int .i64 room] w fun e w' => e = .returned (.tuple #[x.val, .int .i64 0, .int .i64 4]) ∧ Below w.heap.size w w' := by
  have H := fun W => word_halted x room W
  rw [h] at H
  obtain ⟨v1, v2, v3, v4, v5, v6⟩ := W3.live h
  have D := fun W => pos_len x W v3 v1 v2
  obtain ⟨head, tail, mode⟩ := x
  try dsimp only at *
  have hm2 : (mode == 1) = false := by simpa using hm
  clear hm
  have hd : decide (0 < tail - head) = false := by simpa using hf
  have v7 : tail - head ≤ 0 := by omega
  clear hf
  clear h
  go_enter Tryz.func76, Tryz.ntmps76
  go_wp2_with fail
  have k0 := World.alloc_heap_new w (.cells (W3.cells ⟨head, tail, mode⟩) 28)
  replace k0 := (Below.heap_alloc (w.alloc (.cells (W3.cells ⟨head, tail, mode⟩) 28)) (.cells (W3.cells ⟨0, 0, 0⟩) 28) _ (by simp)).trans k0
  have k1 := World.alloc_heap_new (w.alloc (.cells (W3.cells ⟨head, tail, mode⟩) 28)) (.cells (W3.cells ⟨0, 0, 0⟩) 28)
  have hB := (below_one w (.cells (W3.cells ⟨head, tail, mode⟩) 28)).alloc (by simp) (.cells (W3.cells ⟨0, 0, 0⟩) 28)
  rw [World.size_alloc] at k1
  refine (H _).mono ?_
  rintro e w1 ⟨rfl, hb⟩
  replace k0 := (hb.block _ (Array.getElem?_eq_some_iff.1 k0).1).trans k0
  replace k1 := (hb.block _ (Array.getElem?_eq_some_iff.1 k1).1).trans k1
  replace hB := hB.trans (hb.mono hB.size)
  clear hb
  obtain ⟨a0, a1, a2⟩ := cells3 k0
  obtain ⟨d0, d1, d2⟩ := cells3 k1
  have e0 := (of_block k0 0).2
  have e1 := (of_block k0 1).2
  have f0 := (of_block k1 0).2
  have f1 := (of_block k1 1).2
  have f2 := (of_block k1 2).2
  have s0 := (Array.getElem?_eq_some_iff.1 k1).1
  clear H
  go_wp2_with fail
  refine (D _).mono ?_
  rintro e w2 ⟨rfl, hb⟩
  clear a0 a1 a2 d0 d1 d2 e0 e1 f0 f1 f2 s0
  replace k0 := (hb.block _ (Array.getElem?_eq_some_iff.1 k0).1).trans k0
  replace k1 := (hb.block _ (Array.getElem?_eq_some_iff.1 k1).1).trans k1
  replace hB := hB.trans (hb.mono hB.size)
  clear hb
  obtain ⟨a0, a1, a2⟩ := cells3 k0
  obtain ⟨d0, d1, d2⟩ := cells3 k1
  have e0 := (of_block k0 0).2
  have e1 := (of_block k0 1).2
  have f0 := (of_block k1 0).2
  have f1 := (of_block k1 1).2
  have f2 := (of_block k1 2).2
  have s0 := (Array.getElem?_eq_some_iff.1 k1).1
  clear D
  go_wp2_with fail
  refine (tak_stays ⟨head, tail, mode⟩ 4 w.heap.size _ k0).mono ?_
  rintro e w9 ⟨rfl, hb⟩
  clear a0 a1 a2 d0 d1 d2 e0 e1 f0 f1 f2 s0
  replace k0 := (hb.block _ (Array.getElem?_eq_some_iff.1 k0).1).trans k0
  replace k1 := (hb.block _ (Array.getElem?_eq_some_iff.1 k1).1).trans k1
  replace hB := hB.trans (hb.mono hB.size)
  clear hb
  obtain ⟨a0, a1, a2⟩ := cells3 k0
  obtain ⟨d0, d1, d2⟩ := cells3 k1
  have e0 := (of_block k0 0).2
  have e1 := (of_block k0 1).2
  have f0 := (of_block k1 0).2
  have f1 := (of_block k1 1).2
  have f2 := (of_block k1 2).2
  have s0 := (Array.getElem?_eq_some_iff.1 k1).1
  clear k0
  have K1 := Lib.hid k1
  clear k1
  go_wp2
  have k2 := stored3 (a := .int .i64 head) (b := .int .i64 tail) (c := .int .i64 mode) K1.out
  obtain ⟨r0, r1, r2⟩ := cells3 (c := ⟨head, tail, mode⟩) k2
  refine bodyPost_ret (v := .tuple #[W3.val ⟨head, tail, mode⟩, .int .i64 0, .int .i64 4]) (by simp [results, Tryz.f76, go_sem, r0, r1, r2]) rfl ⟨rfl, ?_⟩
  go_grown

set_option maxRecDepth 100000 in
set_option maxHeartbeats 2000000 in
theorem tak_ok (x : W3) (room : Int) (w : World) (h : x.halted room = false) (hf : 0 < x.tail - x.head) : Calls Tryz.prog 76 #[x.val, .int .i64 room] w fun e w' => e = .returned (.tuple #[.agg #[.int .i64 (x.head + 1), .int .i64 x.tail, .int .i64 x.mode], .int .i64 x.head, .int .i64 1]) ∧ Below w.heap.size w w' := by
  have H := fun W => word_halted x room W
  rw [h] at H
  obtain ⟨v1, v2, v3, v4, v5, v6⟩ := W3.live h
  have D := fun W => pos_len x W v3 v1 v2
  obtain ⟨head, tail, mode⟩ := x
  try dsimp only at *
  clear h
  go_enter Tryz.func76, Tryz.ntmps76
  go_wp2_with fail
  have k0 := World.alloc_heap_new w (.cells (W3.cells ⟨head, tail, mode⟩) 28)
  replace k0 := (Below.heap_alloc (w.alloc (.cells (W3.cells ⟨head, tail, mode⟩) 28)) (.cells (W3.cells ⟨0, 0, 0⟩) 28) _ (by simp)).trans k0
  have k1 := World.alloc_heap_new (w.alloc (.cells (W3.cells ⟨head, tail, mode⟩) 28)) (.cells (W3.cells ⟨0, 0, 0⟩) 28)
  have hB := (below_one w (.cells (W3.cells ⟨head, tail, mode⟩) 28)).alloc (by simp) (.cells (W3.cells ⟨0, 0, 0⟩) 28)
  rw [World.size_alloc] at k1
  refine (H _).mono ?_
  rintro e w1 ⟨rfl, hb⟩
  replace k0 := (hb.block _ (Array.getElem?_eq_some_iff.1 k0).1).trans k0
  replace k1 := (hb.block _ (Array.getElem?_eq_some_iff.1 k1).1).trans k1
  replace hB := hB.trans (hb.mono hB.size)
  clear hb
  obtain ⟨a0, a1, a2⟩ := cells3 k0
  obtain ⟨d0, d1, d2⟩ := cells3 k1
  have e0 := (of_block k0 0).2
  have e1 := (of_block k0 1).2
  have f0 := (of_block k1 0).2
  have f1 := (of_block k1 1).2
  have f2 := (of_block k1 2).2
  have s0 := (Array.getElem?_eq_some_iff.1 k1).1
  clear H
  go_wp2_with fail
  refine (D _).mono ?_
  rintro e w2 ⟨rfl, hb⟩
  clear a0 a1 a2 d0 d1 d2 e0 e1 f0 f1 f2 s0
  replace k0 := (hb.block _ (Array.getElem?_eq_some_iff.1 k0).1).trans k0
  replace k1 := (hb.block _ (Array.getElem?_eq_some_iff.1 k1).1).trans k1
  replace hB := hB.trans (hb.mono hB.size)
  clear hb
  obtain ⟨a0, a1, a2⟩ := cells3 k0
  obtain ⟨d0, d1, d2⟩ := cells3 k1
  have e0 := (of_block k0 0).2
  have e1 := (of_block k0 1).2
  have f0 := (of_block k1 0).2
  have f1 := (of_block k1 1).2
  have f2 := (of_block k1 2).2
  have s0 := (Array.getElem?_eq_some_iff.1 k1).1
  clear D
  have K0 := Lib.hid k0
  have K1 := Lib.hid k1
  clear k0 k1
  go_wp2
  have k1' := (Below.heap_setCell _ ⟨w.heap.size, 0, none⟩ (.int .i64 (head + 1)) (w.heap.size + 1) (by simp)).trans K1.out
  have k2 := stored3 (a := .int .i64 (head + 1)) (b := .int .i64 tail) (c := .int .i64 mode) k1'
  obtain ⟨r0, r1, r2⟩ := cells3 (c := ⟨head + 1, tail, mode⟩) k2
  refine bodyPost_ret (v := .tuple #[W3.val ⟨head + 1, tail, mode⟩, .int .i64 head, .int .i64 1]) (by simp [results, Tryz.f76, go_sem, r0, r1, r2]) rfl ⟨rfl, ?_⟩
  go_grown

theorem word_take (x : W3) (room : Int) (w : World) : Calls Tryz.prog 76 #[x.val, .int .i64 room] w fun e w' => e = .returned (.tuple #[(x.tak room).1.val, .int .i64 (x.tak room).2.1, .int .i64 (x.tak room).2.2]) ∧ Below w.heap.size w w' := by
  by_cases h : x.halted room = true
  · have e : x.tak room = (x, 0, 7) := by simp [W3.tak, h]
    rw [e]
    exact tak_halted x room w h
  · have h' : x.halted room = false := by simpa using h
    by_cases hf : 0 < x.tail - x.head
    · have e : x.tak room = ({ x with head := x.head + 1 }, x.head, 1) := by
        unfold W3.tak
        rw [if_neg (by simp [h']), if_pos hf]
      rw [e]
      exact tak_ok x room w h' hf
    · by_cases hm : x.mode = 1
      · have e : x.tak room = (x, 0, 6) := by
          unfold W3.tak
          rw [if_neg (by simp [h']), if_neg hf, if_pos hm]
        rw [e]
        exact tak_closed x room w h' hf hm
      · have e : x.tak room = (x, 0, 4) := by
          unfold W3.tak
          rw [if_neg (by simp [h']), if_neg hf, if_neg hm]
        rw [e]
        exact tak_empty x room w h' hf hm

end Go.Proofs.YtnbgpopjnpdmgaaGreat

namespace Go.Proofs.YtnbgpopjnpdmgaaGreat
open Go Go.RowKit Go.Shelf

set_option maxRecDepth 100000 in
set_option maxHeartbeats 4000000 in
theorem word_sees (x : W3) (room : Int) (w : World) : Calls Tryz.prog 57 #[x.val, .int .i64 room] w fun e w' => e = .returned (.tuple #[.int .i64 (x.acc room).2.2, .int .i64 (x.tak room).2.2]) ∧ Below w.heap.size w w' := by
  have C := fun W => word_accept x room W
  have D := fun W => word_take x room W
  obtain ⟨head, tail, mode⟩ := x
  generalize W3.acc _ room = p at *
  generalize W3.tak _ room = q at *
  obtain ⟨⟨p0, p1, p2⟩, p3, p4⟩ := p
  obtain ⟨⟨q0, q1, q2⟩, q3, q4⟩ := q
  go_enter Tryz.func57, Tryz.ntmps57
  go_wp2_with fail
  have k0 := World.alloc_heap_new w (.cells (W3.cells ⟨head, tail, mode⟩) 28)
  have hB := below_one w (.cells (W3.cells ⟨head, tail, mode⟩) 28)
  refine (C _).mono ?_
  rintro e w1 ⟨rfl, hb⟩
  replace k0 := (hb.block _ (Array.getElem?_eq_some_iff.1 k0).1).trans k0
  replace hB := hB.trans (hb.mono hB.size)
  clear hb C
  obtain ⟨a0, a1, a2⟩ := cells3 k0
  have hlt := (Array.getElem?_eq_some_iff.1 k0).1
  have hle : w.heap.size ≤ w1.heap.size := hB.size
  have K0 := Lib.hid k0
  clear k0
  go_wp2_with fail
  refine (D _).mono ?_
  rintro e w2 ⟨rfl, hb⟩
  have hB2 : Below w.heap.size w w2 := by
    refine Below.trans ?_ (hb.mono ?_)
    · go_grown
    · go_grown
  have hle2 := hB2.size
  clear hb D a0 a1 a2 K0 hlt hB hle
  go_wp2
  go_returns
  refine ⟨rfl, ?_⟩
  go_grown

/-- Nothing is let in any more, or all ends. -/
def W3.close (x : W3) (m : Int) : W3 := if m = 1 ∨ m = 2 then { x with mode := max x.mode m } else x

set_option maxRecDepth 100000 in
set_option maxHeartbeats 4000000 in
theorem word_close (x : W3) (m : Int) (w : World) : Calls Tryz.prog 170 #[x.val, .int .i64 m] w fun e w' => e = .returned (x.close m).val ∧ Below w.heap.size w w' := by
  obtain ⟨head, tail, mode⟩ := x
  by_cases h1 : m = 1 ∨ m = 2
  · have e : W3.close ⟨head, tail, mode⟩ m = ⟨head, tail, max mode m⟩ := if_pos h1
    rw [e]
    clear e
    rcases h1 with rfl | rfl
    · by_cases h : mode < 1
      · rw [show max mode 1 = 1 by omega]
        go_enter Tryz.func170, Tryz.ntmps170
        go_wp2
        go_returns
        refine ⟨rfl, ?_⟩
        go_grown
      · rw [show max mode 1 = mode by omega]
        go_enter Tryz.func170, Tryz.ntmps170
        go_wp2
        go_returns
        refine ⟨rfl, ?_⟩
        go_grown
    · by_cases h : mode < 2
      · rw [show max mode 2 = 2 by omega]
        go_enter Tryz.func170, Tryz.ntmps170
        go_wp2
        go_returns
        refine ⟨rfl, ?_⟩
        go_grown
      · rw [show max mode 2 = mode by omega]
        go_enter Tryz.func170, Tryz.ntmps170
        go_wp2
        go_returns
        refine ⟨rfl, ?_⟩
        go_grown
  · have e : W3.close ⟨head, tail, mode⟩ m = ⟨head, tail, mode⟩ := if_neg h1
    rw [e]
    have q1 : (m == 1) = false := by simp; omega
    have q2 : (m == 2) = false := by simp; omega
    clear e h1
    go_enter Tryz.func170, Tryz.ntmps170
    go_wp2
    go_returns
    refine ⟨rfl, ?_⟩
    go_grown

end Go.Proofs.YtnbgpopjnpdmgaaGreat
