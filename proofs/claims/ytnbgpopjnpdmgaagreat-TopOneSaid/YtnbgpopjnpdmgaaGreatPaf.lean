/-
  DERIVED. Op, Thread, Thread2, One, May, Small, Thread3.
-/
import Derived.Handy
import Derived.Test.YtnbgpopjnpdmgaaGreatPae
set_option linter.unusedVariables false
set_option linter.unusedSimpArgs false

namespace Go.Proofs.YtnbgpopjnpdmgaaGreat
open Go Go.RowKit Go.Shelf

/-- Of which sort a kind is. -/
def sideOf (k : Int) : Int := if k = 1 ∨ k = 2 ∨ k = 3 then 1 else if k = 4 ∨ k = 5 ∨ k = 6 then 2 else if k = 7 ∨ k = 8 then 3 else 0
def timedOf (k : Int) : Bool := decide (k = 3) || decide (k = 6)
theorem sideOf_range (k : Int) : 0 ≤ sideOf k ∧ sideOf k ≤ 3 := by
  unfold sideOf
  repeat' split
  all_goals omega

set_option maxRecDepth 100000 in
set_option maxHeartbeats 2000000 in
theorem op_side (k : Int) (w : World) : Calls Tryz.prog 48 #[.int .i64 k] w fun e w' => e = .returned (.int .i64 (sideOf k)) ∧ w' = w := by
  have hs : sideOf k = if k = 1 ∨ k = 2 ∨ k = 3 then 1 else if k = 4 ∨ k = 5 ∨ k = 6 then 2 else if k = 7 ∨ k = 8 then 3 else 0 := rfl
  have HS := Lib.hid hs
  clear hs
  go_enter Tryz.func48, Tryz.ntmps48
  go_wp2
  all_goals
    go_returns
    refine ⟨?_, rfl⟩
    rw [HS.out]
    simp_all

set_option maxHeartbeats 1000000 in
theorem op_check (k : Int) (w : World) : Calls Tryz.prog 34 #[.int .i64 k] w fun e w' => e = .returned (.bool (decide (0 < sideOf k))) ∧ w' = w := by
  have C := fun W => op_side k W
  generalize sideOf k = s at *
  go_enter Tryz.func34, Tryz.ntmps34
  go_wp2_with fail
  refine (C _).mono ?_
  rintro e w1 ⟨rfl, rfl⟩
  clear C
  go_wp2
  go_ret
  exact ⟨rfl, rfl⟩

set_option maxHeartbeats 1000000 in
theorem op_timed (k : Int) (w : World) : Calls Tryz.prog 53 #[.int .i64 k] w fun e w' => e = .returned (.bool (timedOf k)) ∧ w' = w := by
  by_cases h : k = 3
  · subst h
    go_enter Tryz.func53, Tryz.ntmps53
    go_wp2
    go_ret
    exact ⟨rfl, rfl⟩
  · have h2 : (k == 3) = false := by simpa using h
    have e : timedOf k = (k == 6) := by
      unfold timedOf
      simp [h]
      rfl
    rw [e]
    clear h e
    go_enter Tryz.func53, Tryz.ntmps53
    go_wp2
    go_ret
    exact ⟨by simp [h2], rfl⟩

set_option maxHeartbeats 1000000 in
theorem th_within (a lo hi : Int) (w : World) : Calls Tryz.prog 54 #[.int .i64 a, .int .i64 lo, .int .i64 hi] w fun e w' => e = .returned (.bool (decide (lo ≤ a) && decide (a ≤ hi))) ∧ w' = w := by
  by_cases h : lo ≤ a
  all_goals by_cases h2 : a ≤ hi
  all_goals
    go_enter Tryz.func54, Tryz.ntmps54
    go_wp2
    go_ret
    exact ⟨by simp [*], rfl⟩

end Go.Proofs.YtnbgpopjnpdmgaaGreat

namespace Go.Proofs.YtnbgpopjnpdmgaaGreat
open Go Go.RowKit Go.Shelf

/-- A thread. -/
structure Th where
  status : Int
  kind : Int
  val : Int
  until_ : Int
  pc : Int
  reg : Int
  seen : Int
  tries : Int
  late : Bool
  result : Int
  got : Int
  deriving DecidableEq
abbrev Th.cells (t : Th) : Array Value := #[.int .i64 t.status, .int .i64 t.kind, .int .i64 t.val, .int .i64 t.until_, .int .i64 t.pc, .int .i64 t.reg, .int .i64 t.seen, .int .i64 t.tries, .bool t.late, .int .i64 t.result, .int .i64 t.got]
abbrev Th.value (t : Th) : Value := .agg t.cells
theorem cells11 {W : World} {B : Nat} {c : Th} {t : TypeId} (h : W.heap[B]? = some (.cells c.cells t (0, 0))) :
    W.cell? ⟨B, 0, none⟩ = some (.int .i64 c.status) ∧ W.cell? ⟨B, 1, none⟩ = some (.int .i64 c.kind) ∧ W.cell? ⟨B, 2, none⟩ = some (.int .i64 c.val) ∧ W.cell? ⟨B, 3, none⟩ = some (.int .i64 c.until_) ∧
    W.cell? ⟨B, 4, none⟩ = some (.int .i64 c.pc) ∧ W.cell? ⟨B, 5, none⟩ = some (.int .i64 c.reg) ∧ W.cell? ⟨B, 6, none⟩ = some (.int .i64 c.seen) ∧ W.cell? ⟨B, 7, none⟩ = some (.int .i64 c.tries) ∧
    W.cell? ⟨B, 8, none⟩ = some (.bool c.late) ∧ W.cell? ⟨B, 9, none⟩ = some (.int .i64 c.result) ∧ W.cell? ⟨B, 10, none⟩ = some (.int .i64 c.got) :=
  ⟨(of_block h 0).1, (of_block h 1).1, (of_block h 2).1, (of_block h 3).1, (of_block h 4).1, (of_block h 5).1, (of_block h 6).1, (of_block h 7).1, (of_block h 8).1, (of_block h 9).1, (of_block h 10).1⟩

def Th.runs (t : Th) : Int := if t.status = 0 then 121 else if t.status = 2 then 122 else 0

set_option maxRecDepth 100000 in
set_option maxHeartbeats 2000000 in
theorem th_runs (t : Th) (w : World) : Calls Tryz.prog 56 #[t.value] w fun e w' => e = .returned (.int .i64 t.runs) ∧ Below w.heap.size w w' := by
  have hr : t.runs = if t.status = 0 then 121 else if t.status = 2 then 122 else 0 := rfl
  have HR := Lib.hid hr
  clear hr
  obtain ⟨s, k, v, u, p, r, n, i, l, q, g⟩ := t
  dsimp only at HR
  go_enter Tryz.func56, Tryz.ntmps56
  go_wp2
  all_goals
    go_returns
    refine ⟨?_, below_one _ _⟩
    rw [HR.out]
    simp_all

/-- It runs, if it was parked. -/
def Th.wake (t : Th) : Th := if t.status = 2 then { t with status := 1 } else t

set_option maxRecDepth 100000 in
set_option maxHeartbeats 4000000 in
theorem th_wake (t : Th) (w : World) : Calls Tryz.prog 38 #[t.value] w fun e w' => e = .returned t.wake.value ∧ Below w.heap.size w w' := by
  by_cases h : t.status = 2
  · have e : t.wake = { t with status := 1 } := if_pos h
    rw [e]
    clear e
    obtain ⟨s, k, v, u, p, r, n, i, l, q, g⟩ := t
    dsimp only at h
    subst h
    go_enter Tryz.func38, Tryz.ntmps38
    go_wp2
    go_returns
    refine ⟨rfl, ?_⟩
    go_grown
  · have e : t.wake = t := if_neg h
    rw [e]
    clear e
    obtain ⟨s, k, v, u, p, r, n, i, l, q, g⟩ := t
    have h2 : (s == 2) = false := by simpa using h
    clear h
    go_enter Tryz.func38, Tryz.ntmps38
    go_wp2
    go_returns
    refine ⟨rfl, ?_⟩
    go_grown

/-- One that is about nothing. -/
def Th.bare (t : Th) : Th := ⟨0, t.kind, t.val, t.until_, 0, 0, 0, 0, false, t.result, t.got⟩

set_option maxRecDepth 100000 in
set_option maxHeartbeats 4000000 in
theorem th_bare (t : Th) (w : World) : Calls Tryz.prog 62 #[t.value] w fun e w' => e = .returned t.bare.value ∧ Below w.heap.size w w' := by
  obtain ⟨s, k, v, u, p, r, n, i, l, q, g⟩ := t
  go_enter Tryz.func62, Tryz.ntmps62
  go_wp2
  go_returns
  refine ⟨rfl, ?_⟩
  go_grown

/-- Two new blocks. -/
theorem two_new (w : World) (a b : Obj) : ((w.alloc a).alloc b).heap[w.heap.size]? = some a ∧ ((w.alloc a).alloc b).heap[w.heap.size + 1]? = some b ∧ Below w.heap.size w ((w.alloc a).alloc b) := by
  have h1 := World.alloc_heap_new w a
  have h2 := World.alloc_heap_new (w.alloc a) b
  rw [World.size_alloc] at h2
  exact ⟨(Below.heap_alloc _ _ _ (by simp)).trans h1, h2, (below_one w a).alloc (by simp) b⟩
theorem frozen11 {W : World} {B : Nat} {c : Th} {t : TypeId} (h : W.heap[B]? = some (.cells c.cells t (0, 0))) : ∀ i, W.frozen? ⟨B, i, none⟩ = false := fun i => (of_block h i).2
/-- Eleven cells, written one by one. -/
theorem stored11 {W : World} {B : Nat} {x c : Th} {t : TypeId} (h : W.heap[B]? = some (.cells x.cells t (0, 0))) :
    (((((((((((W.setCell ⟨B, 0, none⟩ (.int .i64 c.status)).setCell ⟨B, 1, none⟩ (.int .i64 c.kind)).setCell ⟨B, 2, none⟩ (.int .i64 c.val)).setCell ⟨B, 3, none⟩ (.int .i64 c.until_)).setCell ⟨B, 4, none⟩ (.int .i64 c.pc)).setCell ⟨B, 5, none⟩ (.int .i64 c.reg)).setCell ⟨B, 6, none⟩ (.int .i64 c.seen)).setCell ⟨B, 7, none⟩ (.int .i64 c.tries)).setCell ⟨B, 8, none⟩ (.bool c.late)).setCell ⟨B, 9, none⟩ (.int .i64 c.result)).setCell ⟨B, 10, none⟩ (.int .i64 c.got)).heap[B]? = some (.cells c.cells t (0, 0)) := by
  simp [World.setCell, Array.getElem?_modify, h]

/-- It ends. -/
def Th.done (t : Th) : Th × Int := if t.runs = 0 then (t.bare, 0) else (t, t.runs)

set_option maxRecDepth 100000 in
set_option maxHeartbeats 4000000 in
theorem th_done_ok (t : Th) (w : World) (h : t.runs = 0) : Calls Tryz.prog 128 #[t.value] w fun e w' => e = .returned (.tuple #[t.bare.value, .int .i64 0]) ∧ Below w.heap.size w w' := by
  have C := fun W => th_runs t W
  have D := fun W => th_bare t W
  rw [h] at C
  clear h
  generalize t.bare = b at *
  obtain ⟨s, k, v, u, p, r, n, i, l, q, g⟩ := t
  obtain ⟨s', k', v', u', p', r', n', i', l', q', g'⟩ := b
  go_enter Tryz.func128, Tryz.ntmps128
  go_wp2_with fail
  obtain ⟨k0, k1, hB⟩ := two_new w (.cells (Th.cells ⟨s, k, v, u, p, r, n, i, l, q, g⟩) 51) (.cells (Th.cells ⟨0, 0, 0, 0, 0, 0, 0, 0, false, 0, 0⟩) 51)
  refine (C _).mono ?_
  rintro e w1 ⟨rfl, hb⟩
  replace k0 := (hb.block _ (Array.getElem?_eq_some_iff.1 k0).1).trans k0
  replace k1 := (hb.block _ (Array.getElem?_eq_some_iff.1 k1).1).trans k1
  replace hB := hB.trans (hb.mono hB.size)
  clear hb C
  obtain ⟨a0, a1, a2, a3, a4, a5, a6, a7, a8, a9, a10⟩ := cells11 k0
  have K0 := Lib.hid k0
  have K1 := Lib.hid k1
  clear k0 k1
  go_wp2_with fail
  refine (D _).mono ?_
  rintro e w2 ⟨rfl, hb⟩
  have k1 := (hb.block _ (Array.getElem?_eq_some_iff.1 K1.out).1).trans K1.out
  replace hB := hB.trans (hb.mono hB.size)
  clear hb D a0 a1 a2 a3 a4 a5 a6 a7 a8 a9 a10 K0 K1
  obtain ⟨a0, a1, a2, a3, a4, a5, a6, a7, a8, a9, a10⟩ := cells11 k1
  have f := frozen11 k1
  have K1 := Lib.hid k1
  clear k1
  go_wp2
  have k2 := stored11 (c := ⟨s', k', v', u', p', r', n', i', l', q', g'⟩) K1.out
  obtain ⟨r0, r1, r2, r3, r4, r5, r6, r7, r8, r9, r10⟩ := cells11 k2
  refine bodyPost_ret (v := .tuple #[Th.value ⟨s', k', v', u', p', r', n', i', l', q', g'⟩, .int .i64 0]) (by simp [results, Tryz.f128, go_sem, r0, r1, r2, r3, r4, r5, r6, r7, r8, r9, r10]) rfl ⟨rfl, ?_⟩
  go_grown

end Go.Proofs.YtnbgpopjnpdmgaaGreat

namespace Go.Proofs.YtnbgpopjnpdmgaaGreat
open Go Go.RowKit Go.Shelf

theorem Th.runs_no {t : Th} (h : ¬ t.runs = 0) : t.runs = 121 ∨ t.runs = 122 := by
  unfold Th.runs at h ⊢
  repeat' split
  all_goals simp_all

set_option maxRecDepth 100000 in
set_option maxHeartbeats 4000000 in
theorem th_done_121 (t : Th) (w : World) (h : t.runs = 121) :
    Calls Tryz.prog 128 #[t.value] w fun e w' => e = .returned (.tuple #[t.value, .int .i64 121]) ∧ Below w.heap.size w w' := by
  have C := fun W => th_runs t W
  rw [h] at C
  clear h
  obtain ⟨s, k, v, u, p, r, n, i, l, q, g⟩ := t
  go_enter Tryz.func128, Tryz.ntmps128
  go_wp2_with fail
  obtain ⟨k0, k1, hB⟩ := two_new w (.cells (Th.cells ⟨s, k, v, u, p, r, n, i, l, q, g⟩) 51) (.cells (Th.cells ⟨0, 0, 0, 0, 0, 0, 0, 0, false, 0, 0⟩) 51)
  refine (C _).mono ?_
  rintro e w1 ⟨rfl, hb⟩
  replace k0 := (hb.block _ (Array.getElem?_eq_some_iff.1 k0).1).trans k0
  replace k1 := (hb.block _ (Array.getElem?_eq_some_iff.1 k1).1).trans k1
  replace hB := hB.trans (hb.mono hB.size)
  clear hb
  clear C
  obtain ⟨a0, a1, a2, a3, a4, a5, a6, a7, a8, a9, a10⟩ := cells11 k0
  obtain ⟨b0, b1, b2, b3, b4, b5, b6, b7, b8, b9, b10⟩ := cells11 k1
  have f0 := frozen11 k0
  have f := frozen11 k1
  have K0 := Lib.hid k0
  have K1 := Lib.hid k1
  clear k0 k1
  go_wp2
  have k2 := stored11 (c := ⟨s, k, v, u, p, r, n, i, l, q, g⟩) K1.out
  obtain ⟨r0, r1, r2, r3, r4, r5, r6, r7, r8, r9, r10⟩ := cells11 k2
  refine bodyPost_ret (v := .tuple #[Th.value ⟨s, k, v, u, p, r, n, i, l, q, g⟩, .int .i64 121]) (by simp [results, Tryz.f128, go_sem, r0, r1, r2, r3, r4, r5, r6, r7, r8, r9, r10]) rfl ⟨rfl, ?_⟩
  go_grown

set_option maxRecDepth 100000 in
set_option maxHeartbeats 4000000 in
theorem th_done_122 (t : Th) (w : World) (h : t.runs = 122) :
    Calls Tryz.prog 128 #[t.value] w fun e w' => e = .returned (.tuple #[t.value, .int .i64 122]) ∧ Below w.heap.size w w' := by
  have C := fun W => th_runs t W
  rw [h] at C
  clear h
  obtain ⟨s, k, v, u, p, r, n, i, l, q, g⟩ := t
  go_enter Tryz.func128, Tryz.ntmps128
  go_wp2_with fail
  obtain ⟨k0, k1, hB⟩ := two_new w (.cells (Th.cells ⟨s, k, v, u, p, r, n, i, l, q, g⟩) 51) (.cells (Th.cells ⟨0, 0, 0, 0, 0, 0, 0, 0, false, 0, 0⟩) 51)
  refine (C _).mono ?_
  rintro e w1 ⟨rfl, hb⟩
  replace k0 := (hb.block _ (Array.getElem?_eq_some_iff.1 k0).1).trans k0
  replace k1 := (hb.block _ (Array.getElem?_eq_some_iff.1 k1).1).trans k1
  replace hB := hB.trans (hb.mono hB.size)
  clear hb
  clear C
  obtain ⟨a0, a1, a2, a3, a4, a5, a6, a7, a8, a9, a10⟩ := cells11 k0
  obtain ⟨b0, b1, b2, b3, b4, b5, b6, b7, b8, b9, b10⟩ := cells11 k1
  have f0 := frozen11 k0
  have f := frozen11 k1
  have K0 := Lib.hid k0
  have K1 := Lib.hid k1
  clear k0 k1
  go_wp2
  have k2 := stored11 (c := ⟨s, k, v, u, p, r, n, i, l, q, g⟩) K1.out
  obtain ⟨r0, r1, r2, r3, r4, r5, r6, r7, r8, r9, r10⟩ := cells11 k2
  refine bodyPost_ret (v := .tuple #[Th.value ⟨s, k, v, u, p, r, n, i, l, q, g⟩, .int .i64 122]) (by simp [results, Tryz.f128, go_sem, r0, r1, r2, r3, r4, r5, r6, r7, r8, r9, r10]) rfl ⟨rfl, ?_⟩
  go_grown

theorem th_done (t : Th) (w : World) : Calls Tryz.prog 128 #[t.value] w fun e w' => e = .returned (.tuple #[t.done.1.value, .int .i64 t.done.2]) ∧ Below w.heap.size w w' := by
  by_cases h : t.runs = 0
  · have e : t.done = (t.bare, 0) := if_pos h
    rw [e]
    exact th_done_ok t w h
  · have e : t.done = (t, t.runs) := if_neg h
    rw [e]
    rcases Th.runs_no h with h2 | h2
    · rw [h2]
      exact th_done_121 t w h2
    · rw [h2]
      exact th_done_122 t w h2

/-- It waits. -/
def Th.park (t : Th) (pc : Int) : Th × Int := if t.runs = 0 then ({ t with status := 2, pc := pc, tries := 0 }, 0) else (t, t.runs)

set_option maxRecDepth 100000 in
set_option maxHeartbeats 4000000 in
theorem th_park_121 (t : Th) (pc : Int) (w : World) (h : t.runs = 121) :
    Calls Tryz.prog 150 #[t.value, .int .i64 pc] w fun e w' => e = .returned (.tuple #[t.value, .int .i64 121]) ∧ Below w.heap.size w w' := by
  have C := fun W => th_runs t W
  rw [h] at C
  clear h
  obtain ⟨s, k, v, u, p, r, n, i, l, q, g⟩ := t
  go_enter Tryz.func150, Tryz.ntmps150
  go_wp2_with fail
  obtain ⟨k0, k1, hB⟩ := two_new w (.cells (Th.cells ⟨s, k, v, u, p, r, n, i, l, q, g⟩) 51) (.cells (Th.cells ⟨0, 0, 0, 0, 0, 0, 0, 0, false, 0, 0⟩) 51)
  refine (C _).mono ?_
  rintro e w1 ⟨rfl, hb⟩
  replace k0 := (hb.block _ (Array.getElem?_eq_some_iff.1 k0).1).trans k0
  replace k1 := (hb.block _ (Array.getElem?_eq_some_iff.1 k1).1).trans k1
  replace hB := hB.trans (hb.mono hB.size)
  clear hb
  clear C
  obtain ⟨a0, a1, a2, a3, a4, a5, a6, a7, a8, a9, a10⟩ := cells11 k0
  obtain ⟨b0, b1, b2, b3, b4, b5, b6, b7, b8, b9, b10⟩ := cells11 k1
  have f0 := frozen11 k0
  have f := frozen11 k1
  have K0 := Lib.hid k0
  have K1 := Lib.hid k1
  clear k0 k1
  go_wp2
  have k2 := stored11 (c := ⟨s, k, v, u, p, r, n, i, l, q, g⟩) K1.out
  obtain ⟨r0, r1, r2, r3, r4, r5, r6, r7, r8, r9, r10⟩ := cells11 k2
  refine bodyPost_ret (v := .tuple #[Th.value ⟨s, k, v, u, p, r, n, i, l, q, g⟩, .int .i64 121]) (by simp [results, Tryz.f150, go_sem, r0, r1, r2, r3, r4, r5, r6, r7, r8, r9, r10]) rfl ⟨rfl, ?_⟩
  go_grown

set_option maxRecDepth 100000 in
set_option maxHeartbeats 4000000 in
theorem th_park_122 (t : Th) (pc : Int) (w : World) (h : t.runs = 122) :
    Calls Tryz.prog 150 #[t.value, .int .i64 pc] w fun e w' => e = .returned (.tuple #[t.value, .int .i64 122]) ∧ Below w.heap.size w w' := by
  have C := fun W => th_runs t W
  rw [h] at C
  clear h
  obtain ⟨s, k, v, u, p, r, n, i, l, q, g⟩ := t
  go_enter Tryz.func150, Tryz.ntmps150
  go_wp2_with fail
  obtain ⟨k0, k1, hB⟩ := two_new w (.cells (Th.cells ⟨s, k, v, u, p, r, n, i, l, q, g⟩) 51) (.cells (Th.cells ⟨0, 0, 0, 0, 0, 0, 0, 0, false, 0, 0⟩) 51)
  refine (C _).mono ?_
  rintro e w1 ⟨rfl, hb⟩
  replace k0 := (hb.block _ (Array.getElem?_eq_some_iff.1 k0).1).trans k0
  replace k1 := (hb.block _ (Array.getElem?_eq_some_iff.1 k1).1).trans k1
  replace hB := hB.trans (hb.mono hB.size)
  clear hb
  clear C
  obtain ⟨a0, a1, a2, a3, a4, a5, a6, a7, a8, a9, a10⟩ := cells11 k0
  obtain ⟨b0, b1, b2, b3, b4, b5, b6, b7, b8, b9, b10⟩ := cells11 k1
  have f0 := frozen11 k0
  have f := frozen11 k1
  have K0 := Lib.hid k0
  have K1 := Lib.hid k1
  clear k0 k1
  go_wp2
  have k2 := stored11 (c := ⟨s, k, v, u, p, r, n, i, l, q, g⟩) K1.out
  obtain ⟨r0, r1, r2, r3, r4, r5, r6, r7, r8, r9, r10⟩ := cells11 k2
  refine bodyPost_ret (v := .tuple #[Th.value ⟨s, k, v, u, p, r, n, i, l, q, g⟩, .int .i64 122]) (by simp [results, Tryz.f150, go_sem, r0, r1, r2, r3, r4, r5, r6, r7, r8, r9, r10]) rfl ⟨rfl, ?_⟩
  go_grown

set_option maxRecDepth 100000 in
set_option maxHeartbeats 4000000 in
theorem th_park_ok (t : Th) (pc : Int) (w : World) (h : t.runs = 0) :
    Calls Tryz.prog 150 #[t.value, .int .i64 pc] w fun e w' => e = .returned (.tuple #[Th.value { t with status := 2, pc := pc, tries := 0 }, .int .i64 0]) ∧ Below w.heap.size w w' := by
  have C := fun W => th_runs t W
  rw [h] at C
  clear h
  obtain ⟨s, k, v, u, p, r, n, i, l, q, g⟩ := t
  go_enter Tryz.func150, Tryz.ntmps150
  go_wp2_with fail
  obtain ⟨k0, k1, hB⟩ := two_new w (.cells (Th.cells ⟨s, k, v, u, p, r, n, i, l, q, g⟩) 51) (.cells (Th.cells ⟨0, 0, 0, 0, 0, 0, 0, 0, false, 0, 0⟩) 51)
  refine (C _).mono ?_
  rintro e w1 ⟨rfl, hb⟩
  replace k0 := (hb.block _ (Array.getElem?_eq_some_iff.1 k0).1).trans k0
  replace k1 := (hb.block _ (Array.getElem?_eq_some_iff.1 k1).1).trans k1
  replace hB := hB.trans (hb.mono hB.size)
  clear hb
  clear C
  obtain ⟨a0, a1, a2, a3, a4, a5, a6, a7, a8, a9, a10⟩ := cells11 k0
  obtain ⟨b0, b1, b2, b3, b4, b5, b6, b7, b8, b9, b10⟩ := cells11 k1
  have f0 := frozen11 k0
  have f := frozen11 k1
  have K0 := Lib.hid k0
  have K1 := Lib.hid k1
  clear k0 k1
  go_wp2
  have k3 := (Below.heap_setCell (w1.setCell ⟨w.heap.size, 0, none⟩ (.int .i64 2)) ⟨w.heap.size, 4, none⟩ (.int .i64 pc) (w.heap.size + 1) (by simp)).trans ((Below.heap_setCell w1 ⟨w.heap.size, 0, none⟩ (.int .i64 2) (w.heap.size + 1) (by simp)).trans K1.out)
  replace k3 := (Below.heap_setCell _ ⟨w.heap.size, 7, none⟩ (.int .i64 0) (w.heap.size + 1) (by simp)).trans k3
  have k2 := stored11 (c := ⟨2, k, v, u, pc, r, n, 0, l, q, g⟩) k3
  obtain ⟨r0, r1, r2, r3, r4, r5, r6, r7, r8, r9, r10⟩ := cells11 k2
  refine bodyPost_ret (v := .tuple #[Th.value ⟨2, k, v, u, pc, r, n, 0, l, q, g⟩, .int .i64 0]) (by simp [results, Tryz.f150, go_sem, r0, r1, r2, r3, r4, r5, r6, r7, r8, r9, r10]) rfl ⟨rfl, ?_⟩
  go_grown

theorem th_park (t : Th) (pc : Int) (w : World) : Calls Tryz.prog 150 #[t.value, .int .i64 pc] w fun e w' => e = .returned (.tuple #[(t.park pc).1.value, .int .i64 (t.park pc).2]) ∧ Below w.heap.size w w' := by
  by_cases h : t.runs = 0
  · have e : t.park pc = ({ t with status := 2, pc := pc, tries := 0 }, 0) := if_pos h
    rw [e]
    exact th_park_ok t pc w h
  · have e : t.park pc = (t, t.runs) := if_neg h
    rw [e]
    rcases Th.runs_no h with h2 | h2
    · rw [h2]
      exact th_park_121 t pc w h2
    · rw [h2]
      exact th_park_122 t pc w h2

end Go.Proofs.YtnbgpopjnpdmgaaGreat

namespace Go.Proofs.YtnbgpopjnpdmgaaGreat
open Go Go.RowKit Go.Shelf

theorem thread_box (t : Th) {w w1 : World} {ty : TypeId} (hb : Below (w.heap.size + 1) (w.alloc (.cells t.cells ty)) w1) : w1.heap[w.heap.size]? = some (.cells t.cells ty (0, 0)) :=
  (hb.block w.heap.size (by omega)).trans (World.alloc_heap_new w _)

def Th.kindOk (t : Th) : Bool := decide (0 < sideOf t.kind) || (decide (t.kind = 0) && decide (t.status = 0))

set_option maxRecDepth 100000 in
set_option maxHeartbeats 2000000 in
theorem one_kind (t : Th) (w : World) : Calls Tryz.prog 63 #[t.value] w fun e w' => e = .returned (.bool t.kindOk) ∧ Below w.heap.size w w' := by
  have C := fun W => op_check t.kind W
  have hr : t.kindOk = (decide (0 < sideOf t.kind) || (decide (t.kind = 0) && decide (t.status = 0))) := rfl
  rw [hr]
  clear hr
  obtain ⟨s, k, v, u, p, r, n, i, l, q, g⟩ := t
  dsimp only at *
  generalize decide (0 < sideOf k) = m at *
  cases m with
  | true =>
    go_enter Tryz.func63, Tryz.ntmps63
    go_wp2_with fail
    refine (C _).mono ?_
    rintro e w1 ⟨rfl, rfl⟩
    clear C
    go_wp2
    go_returns
    exact ⟨by simp, below_one _ _⟩
  | false =>
    go_enter Tryz.func63, Tryz.ntmps63
    go_wp2_with fail
    refine (C _).mono ?_
    rintro e w1 ⟨rfl, rfl⟩
    clear C
    go_wp2
    all_goals
      go_returns
      refine ⟨?_, below_one _ _⟩
      simp_all
      try rfl

def Th.timeOk (t : Th) : Bool := (decide (0 ≤ t.until_) && decide (t.until_ ≤ 1099511627776)) && (timedOf t.kind || (decide (t.until_ = 0) && !t.late))

set_option maxRecDepth 100000 in
set_option maxHeartbeats 2000000 in
theorem one_time (t : Th) (w : World) : Calls Tryz.prog 64 #[t.value] w fun e w' => e = .returned (.bool t.timeOk) ∧ Below w.heap.size w w' := by
  have C := fun W => th_within t.until_ 0 1099511627776 W
  have D := fun W => op_timed t.kind W
  have hr : t.timeOk = ((decide (0 ≤ t.until_) && decide (t.until_ ≤ 1099511627776)) && (timedOf t.kind || (decide (t.until_ = 0) && !t.late))) := rfl
  rw [hr]
  clear hr
  obtain ⟨s, k, v, u, p, r, n, i, l, q, g⟩ := t
  dsimp only at *
  generalize (decide (0 ≤ u) && decide (u ≤ 1099511627776)) = m at *
  generalize timedOf k = b at *
  cases m with
  | false =>
    clear D
    go_enter Tryz.func64, Tryz.ntmps64
    go_wp2_with fail
    refine (C _).mono ?_
    rintro e w1 ⟨rfl, rfl⟩
    clear C
    go_wp2
    go_returns
    exact ⟨by simp, below_one _ _⟩
  | true =>
    cases b with
    | true =>
      go_enter Tryz.func64, Tryz.ntmps64
      go_wp2_with fail
      refine (C _).mono ?_
      rintro e w1 ⟨rfl, rfl⟩
      go_wp2_with fail
      refine (D _).mono ?_
      rintro e w1 ⟨rfl, rfl⟩
      clear C D
      go_wp2
      go_returns
      exact ⟨by simp, below_one _ _⟩
    | false =>
      go_enter Tryz.func64, Tryz.ntmps64
      go_wp2_with fail
      refine (C _).mono ?_
      rintro e w1 ⟨rfl, rfl⟩
      go_wp2_with fail
      refine (D _).mono ?_
      rintro e w1 ⟨rfl, rfl⟩
      clear C D
      go_wp2
      all_goals
        go_returns
        refine ⟨?_, below_one _ _⟩
        simp_all
        try rfl

def Th.placeOk (t : Th) : Bool := (decide (0 ≤ t.pc) && decide (t.pc ≤ 11)) && (decide (0 ≤ t.tries) && decide (t.tries ≤ 1099511627776)) && (decide (0 ≤ t.reg) && decide (t.reg ≤ 1099511627776)) && (decide (-1 ≤ t.seen) && decide (t.seen ≤ 1099511627776))

set_option maxRecDepth 100000 in
set_option maxHeartbeats 2000000 in
theorem one_place (t : Th) (w : World) : Calls Tryz.prog 65 #[t.value] w fun e w' => e = .returned (.bool t.placeOk) ∧ Below w.heap.size w w' := by
  have C1 := fun W => th_within t.pc 0 11 W
  have C2 := fun W => th_within t.tries 0 1099511627776 W
  have C3 := fun W => th_within t.reg 0 1099511627776 W
  have C4 := fun W => th_within t.seen (-1) 1099511627776 W
  have hr : t.placeOk = ((decide (0 ≤ t.pc) && decide (t.pc ≤ 11)) && (decide (0 ≤ t.tries) && decide (t.tries ≤ 1099511627776)) && (decide (0 ≤ t.reg) && decide (t.reg ≤ 1099511627776)) && (decide (-1 ≤ t.seen) && decide (t.seen ≤ 1099511627776))) := rfl
  rw [hr]
  clear hr
  obtain ⟨s, k, v, u, p, r, n, i, l, q, g⟩ := t
  dsimp only at *
  generalize (decide (0 ≤ p) && decide (p ≤ 11)) = m1 at *
  generalize (decide (0 ≤ i) && decide (i ≤ 1099511627776)) = m2 at *
  generalize (decide (0 ≤ r) && decide (r ≤ 1099511627776)) = m3 at *
  generalize (decide (-1 ≤ n) && decide (n ≤ 1099511627776)) = m4 at *
  cases m1 with
  | false =>
    go_enter Tryz.func65, Tryz.ntmps65
    go_wp2_with fail
    refine (C1 _).mono ?_
    rintro e w1 ⟨rfl, rfl⟩
    clear C1 C2 C3 C4
    go_wp2
    go_returns
    exact ⟨by simp, below_one _ _⟩
  | true =>
    cases m2 with
    | false =>
      go_enter Tryz.func65, Tryz.ntmps65
      go_wp2_with fail
      refine (C1 _).mono ?_
      rintro e w1 ⟨rfl, rfl⟩
      go_wp2_with fail
      refine (C2 _).mono ?_
      rintro e w1 ⟨rfl, rfl⟩
      clear C1 C2 C3 C4
      go_wp2
      go_returns
      exact ⟨by simp, below_one _ _⟩
    | true =>
      cases m3 with
      | false =>
        go_enter Tryz.func65, Tryz.ntmps65
        go_wp2_with fail
        refine (C1 _).mono ?_
        rintro e w1 ⟨rfl, rfl⟩
        go_wp2_with fail
        refine (C2 _).mono ?_
        rintro e w1 ⟨rfl, rfl⟩
        go_wp2_with fail
        refine (C3 _).mono ?_
        rintro e w1 ⟨rfl, rfl⟩
        clear C1 C2 C3 C4
        go_wp2
        go_returns
        exact ⟨by simp, below_one _ _⟩
      | true =>
        go_enter Tryz.func65, Tryz.ntmps65
        go_wp2_with fail
        refine (C1 _).mono ?_
        rintro e w1 ⟨rfl, rfl⟩
        go_wp2_with fail
        refine (C2 _).mono ?_
        rintro e w1 ⟨rfl, rfl⟩
        go_wp2_with fail
        refine (C3 _).mono ?_
        rintro e w1 ⟨rfl, rfl⟩
        go_wp2_with fail
        refine (C4 _).mono ?_
        rintro e w1 ⟨rfl, rfl⟩
        clear C1 C2 C3 C4
        go_wp2
        go_returns
        exact ⟨by simp, below_one _ _⟩

end Go.Proofs.YtnbgpopjnpdmgaaGreat

namespace Go.Proofs.YtnbgpopjnpdmgaaGreat
open Go Go.RowKit Go.Shelf

def mayOf (c : Cfg) (id kind : Int) : Int :=
  if id < 0 ∨ c.th ≤ id then 123 else if sideOf kind = 0 then 190 else if c.single = true ∧ sideOf kind = 2 ∧ 0 < id then 123 else 0

set_option maxRecDepth 100000 in
set_option maxHeartbeats 4000000 in
theorem op_may (c : Cfg) (id kind : Int) (w : World) : Calls Tryz.prog 23 #[c.val, .int .i64 id, .int .i64 kind] w fun e w' => e = .returned (.int .i64 (mayOf c id kind)) ∧ Below w.heap.size w w' := by
  have hs : mayOf c id kind = if id < 0 ∨ c.th ≤ id then 123 else if sideOf kind = 0 then 190 else if c.single = true ∧ sideOf kind = 2 ∧ 0 < id then 123 else 0 := rfl
  have HS := Lib.hid hs
  have C := fun W => op_check kind W
  have D := fun W => op_side kind W
  have hr := (sideOf_range kind).1
  clear hs
  obtain ⟨log, th, pol, wt, sp, yi, single⟩ := c
  dsimp only at HS
  generalize mayOf _ id kind = m at *
  generalize sideOf kind = s at *
  by_cases h1 : id < 0
  · go_enter Tryz.func23, Tryz.ntmps23
    go_wp2
    go_returns
    refine ⟨?_, below_one _ _⟩
    rw [HS.out]
    simp_all
  · by_cases h2 : th ≤ id
    · go_enter Tryz.func23, Tryz.ntmps23
      go_wp2
      go_returns
      refine ⟨?_, below_one _ _⟩
      rw [HS.out]
      simp_all
    · have hx := World.alloc_heap_new w (.cells (Cfg.cells ⟨log, th, pol, wt, sp, yi, single⟩) 23)
      by_cases h3 : s = 0
      · have q : decide (0 < s) = false := by simp [h3]
        rw [q] at C
        have hm : m = 190 := by
          rw [HS.out, if_neg (by omega), if_pos h3]
        subst hm
        clear HS q h3 hr D hx
        go_enter Tryz.func23, Tryz.ntmps23
        go_wp2_with fail
        refine (C _).mono ?_
        rintro e w1 ⟨rfl, rfl⟩
        clear C
        go_wp2
        go_returns
        exact ⟨rfl, below_one _ _⟩
      · have q : decide (0 < s) = true := by simp; omega
        rw [q] at C
        have hm : m = if single = true ∧ s = 2 ∧ 0 < id then 123 else 0 := by
          rw [HS.out, if_neg (by omega), if_neg h3]
        have HM := Lib.hid hm
        clear HS q h3 hr hm
        obtain ⟨c0, c1, c2, c3, c4, c5, c6⟩ := (⟨(of_block hx 0).1, (of_block hx 1).1, (of_block hx 2).1, (of_block hx 3).1, (of_block hx 4).1, (of_block hx 5).1, (of_block hx 6).1⟩ :
          _ ∧ _ ∧ _ ∧ _ ∧ _ ∧ _ ∧ _)
        clear c0 c2 c3 c4 c5 c1 hx
        simp at c6
        cases single with
        | false =>
          have hm : m = 0 := by rw [HM.out]; simp
          subst hm
          clear HM D
          go_enter Tryz.func23, Tryz.ntmps23
          go_wp2_with fail
          refine (C _).mono ?_
          rintro e w1 ⟨rfl, rfl⟩
          clear C
          go_wp2
          go_returns
          exact ⟨rfl, below_one _ _⟩
        | true =>
          go_enter Tryz.func23, Tryz.ntmps23
          go_wp2_with fail
          refine (C _).mono ?_
          rintro e w1 ⟨rfl, rfl⟩
          clear C
          go_wp2_with fail
          refine (D _).mono ?_
          rintro e w1 ⟨rfl, rfl⟩
          clear D
          go_wp2
          all_goals
            go_returns
            refine ⟨?_, below_one _ _⟩
            rw [HM.out]
            simp_all

end Go.Proofs.YtnbgpopjnpdmgaaGreat

namespace Go.Proofs.YtnbgpopjnpdmgaaGreat
open Go Go.RowKit Go.Shelf

def modeOf (k : Int) : Int := if k = 7 then 1 else if k = 8 then 2 else 0
set_option maxRecDepth 100000 in
set_option maxHeartbeats 1000000 in
theorem close_mode (k : Int) (w : World) : Calls Tryz.prog 171 #[.int .i64 k] w fun e w' => e = .returned (.int .i64 (modeOf k)) ∧ w' = w := by
  have hs : modeOf k = if k = 7 then 1 else if k = 8 then 2 else 0 := rfl
  have HS := Lib.hid hs
  clear hs
  go_enter Tryz.func171, Tryz.ntmps171
  go_wp2
  all_goals
    go_returns
    refine ⟨?_, rfl⟩
    rw [HS.out]
    simp_all

def nearSend (k : Int) : Int := if k = 4 then 2 else if k = 6 then 1 else 0
set_option maxRecDepth 100000 in
set_option maxHeartbeats 1000000 in
theorem send_near (k : Int) (w : World) : Calls Tryz.prog 96 #[.int .i64 k] w fun e w' => e = .returned (.int .i64 (nearSend k)) ∧ w' = w := by
  have hs : nearSend k = if k = 4 then 2 else if k = 6 then 1 else 0 := rfl
  have HS := Lib.hid hs
  clear hs
  go_enter Tryz.func96, Tryz.ntmps96
  go_wp2
  all_goals
    go_returns
    refine ⟨?_, rfl⟩
    rw [HS.out]
    simp_all

def nearClose (k : Int) : Int × Int := if k = 1 then (1, 2) else if k = 2 then (0, 1) else (0, 0)
set_option maxRecDepth 100000 in
set_option maxHeartbeats 1000000 in
theorem close_near (k : Int) (w : World) : Calls Tryz.prog 94 #[.int .i64 k] w fun e w' => e = .returned (.tuple #[.int .i64 (nearClose k).1, .int .i64 (nearClose k).2]) ∧ w' = w := by
  have hs : nearClose k = if k = 1 then (1, 2) else if k = 2 then (0, 1) else (0, 0) := rfl
  have HS := Lib.hid hs
  clear hs
  go_enter Tryz.func94, Tryz.ntmps94
  go_wp2
  all_goals
    go_returns
    refine ⟨?_, rfl⟩
    rw [HS.out]
    simp_all

set_option maxHeartbeats 1000000 in
theorem call_time (k : Int) (w : World) : Calls Tryz.prog 36 #[.int .i64 k] w fun e w' => e = .returned (.bool (decide (0 ≤ k) && decide (k ≤ 1099511627776))) ∧ w' = w := by
  by_cases h : 0 ≤ k
  all_goals by_cases h2 : k ≤ 1099511627776
  all_goals
    go_enter Tryz.func36, Tryz.ntmps36
    go_wp2
    go_ret
    exact ⟨by simp [*], rfl⟩

end Go.Proofs.YtnbgpopjnpdmgaaGreat

namespace Go.Proofs.YtnbgpopjnpdmgaaGreat
open Go Go.RowKit Go.Shelf

/-- It begins something. -/
def Th.begin_ (t : Th) (kind x y : Int) : Th × Int :=
  if t.status = 0 then (if sideOf kind = 0 then (t, 190) else if timedOf kind = true then (if 0 ≤ y ∧ y ≤ 1099511627776 then (⟨1, kind, x, y, 0, 0, 0, 0, false, 0, 0⟩, 0) else (t, 50)) else (⟨1, kind, x, 0, 0, 0, 0, 0, false, 0, 0⟩, 0)) else (t, 120)

set_option maxRecDepth 100000 in
set_option maxHeartbeats 4000000 in
theorem inv_busy (t : Th) (kind x y : Int) (w : World) (hs : ¬ t.status = 0) :
    Calls Tryz.prog 27 #[t.value, .int .i64 kind, .int .i64 x, .int .i64 y] w fun e w' => e = .returned (.tuple #[Th.value t, .int .i64 120]) ∧ Below w.heap.size w w' := by
  have C1 := fun W => op_timed kind W
  have C2 := fun W => op_check kind W
  have C3 := fun W => th_within y 0 1099511627776 W
  have z0 : (t.status == 0) = false := by simpa using hs
  clear hs C2 C3
  generalize timedOf kind = m at *
  obtain ⟨s, k, v, u, p, r, n, i, l, q, g⟩ := t
  try dsimp only at *
  go_enter Tryz.func27, Tryz.ntmps27
  go_wp2_with fail
  obtain ⟨k0, k1, hB⟩ := two_new w (.cells (Th.cells ⟨s, k, v, u, p, r, n, i, l, q, g⟩) 51) (.cells (Th.cells ⟨0, 0, 0, 0, 0, 0, 0, 0, false, 0, 0⟩) 51)
  refine (C1 _).mono ?_
  rintro e w1 ⟨rfl, rfl⟩
  obtain ⟨a0, a1, a2, a3, a4, a5, a6, a7, a8, a9, a10⟩ := cells11 k0
  obtain ⟨b0, b1, b2, b3, b4, b5, b6, b7, b8, b9, b10⟩ := cells11 k1
  have f0 := frozen11 k0
  have f := frozen11 k1
  have K0 := Lib.hid k0
  have K1 := Lib.hid k1
  clear k0 k1
  clear C1
  go_wp2
  have k2 := stored11 (c := ⟨s, k, v, u, p, r, n, i, l, q, g⟩) K1.out
  obtain ⟨r0, r1, r2, r3, r4, r5, r6, r7, r8, r9, r10⟩ := cells11 k2
  refine bodyPost_ret (v := .tuple #[Th.value ⟨s, k, v, u, p, r, n, i, l, q, g⟩, .int .i64 120]) (by simp [results, Tryz.f27, go_sem, r0, r1, r2, r3, r4, r5, r6, r7, r8, r9, r10]) rfl ⟨rfl, ?_⟩
  go_grown

set_option maxRecDepth 100000 in
set_option maxHeartbeats 4000000 in
theorem inv_none (t : Th) (kind x y : Int) (w : World) (hs : t.status = 0) (hk : sideOf kind = 0) :
    Calls Tryz.prog 27 #[t.value, .int .i64 kind, .int .i64 x, .int .i64 y] w fun e w' => e = .returned (.tuple #[Th.value t, .int .i64 190]) ∧ Below w.heap.size w w' := by
  have C1 := fun W => op_timed kind W
  have C2 := fun W => op_check kind W
  have C3 := fun W => th_within y 0 1099511627776 W
  have z0 : decide (0 < sideOf kind) = false := by simp [hk]
  rw [z0] at C2
  have z2 : (t.status == 0) = true := by simpa using hs
  clear hs hk z0 C3
  generalize timedOf kind = m at *
  obtain ⟨s, k, v, u, p, r, n, i, l, q, g⟩ := t
  try dsimp only at *
  go_enter Tryz.func27, Tryz.ntmps27
  go_wp2_with fail
  obtain ⟨k0, k1, hB⟩ := two_new w (.cells (Th.cells ⟨s, k, v, u, p, r, n, i, l, q, g⟩) 51) (.cells (Th.cells ⟨0, 0, 0, 0, 0, 0, 0, 0, false, 0, 0⟩) 51)
  refine (C1 _).mono ?_
  rintro e w1 ⟨rfl, rfl⟩
  obtain ⟨a0, a1, a2, a3, a4, a5, a6, a7, a8, a9, a10⟩ := cells11 k0
  obtain ⟨b0, b1, b2, b3, b4, b5, b6, b7, b8, b9, b10⟩ := cells11 k1
  have f0 := frozen11 k0
  have f := frozen11 k1
  have K0 := Lib.hid k0
  have K1 := Lib.hid k1
  clear k0 k1
  clear C1
  go_wp2_with fail
  refine (C2 _).mono ?_
  rintro e w2 ⟨rfl, rfl⟩
  clear C2
  go_wp2
  have k2 := stored11 (c := ⟨s, k, v, u, p, r, n, i, l, q, g⟩) K1.out
  obtain ⟨r0, r1, r2, r3, r4, r5, r6, r7, r8, r9, r10⟩ := cells11 k2
  refine bodyPost_ret (v := .tuple #[Th.value ⟨s, k, v, u, p, r, n, i, l, q, g⟩, .int .i64 190]) (by simp [results, Tryz.f27, go_sem, r0, r1, r2, r3, r4, r5, r6, r7, r8, r9, r10]) rfl ⟨rfl, ?_⟩
  go_grown

set_option maxRecDepth 100000 in
set_option maxHeartbeats 4000000 in
theorem inv_late (t : Th) (kind x y : Int) (w : World) (hs : t.status = 0) (hk : ¬ sideOf kind = 0) (ht : timedOf kind = true) (hy : ¬ (0 ≤ y ∧ y ≤ 1099511627776)) :
    Calls Tryz.prog 27 #[t.value, .int .i64 kind, .int .i64 x, .int .i64 y] w fun e w' => e = .returned (.tuple #[Th.value t, .int .i64 50]) ∧ Below w.heap.size w w' := by
  have C1 := fun W => op_timed kind W
  have C2 := fun W => op_check kind W
  have C3 := fun W => th_within y 0 1099511627776 W
  have z0 : decide (0 < sideOf kind) = true := by have := sideOf_range kind; simp; omega
  rw [z0] at C2
  have z2 : (t.status == 0) = true := by simpa using hs
  clear hs hk z0
  rw [ht] at C1
  have z3 : (decide (0 ≤ y) && decide (y ≤ 1099511627776)) = false := by
    rw [Bool.eq_false_iff]
    intro hq
    simp at hq
    exact hy hq
  rw [z3] at C3
  clear ht hy z3
  obtain ⟨s, k, v, u, p, r, n, i, l, q, g⟩ := t
  try dsimp only at *
  go_enter Tryz.func27, Tryz.ntmps27
  go_wp2_with fail
  obtain ⟨k0, k1, hB⟩ := two_new w (.cells (Th.cells ⟨s, k, v, u, p, r, n, i, l, q, g⟩) 51) (.cells (Th.cells ⟨0, 0, 0, 0, 0, 0, 0, 0, false, 0, 0⟩) 51)
  refine (C1 _).mono ?_
  rintro e w1 ⟨rfl, rfl⟩
  obtain ⟨a0, a1, a2, a3, a4, a5, a6, a7, a8, a9, a10⟩ := cells11 k0
  obtain ⟨b0, b1, b2, b3, b4, b5, b6, b7, b8, b9, b10⟩ := cells11 k1
  have f0 := frozen11 k0
  have f := frozen11 k1
  have K0 := Lib.hid k0
  have K1 := Lib.hid k1
  clear k0 k1
  clear C1
  go_wp2_with fail
  refine (C2 _).mono ?_
  rintro e w2 ⟨rfl, rfl⟩
  clear C2
  go_wp2_with fail
  refine (C3 _).mono ?_
  rintro e w2 ⟨rfl, rfl⟩
  clear C3
  go_wp2
  have k2 := stored11 (c := ⟨s, k, v, u, p, r, n, i, l, q, g⟩) K1.out
  obtain ⟨r0, r1, r2, r3, r4, r5, r6, r7, r8, r9, r10⟩ := cells11 k2
  refine bodyPost_ret (v := .tuple #[Th.value ⟨s, k, v, u, p, r, n, i, l, q, g⟩, .int .i64 50]) (by simp [results, Tryz.f27, go_sem, r0, r1, r2, r3, r4, r5, r6, r7, r8, r9, r10]) rfl ⟨rfl, ?_⟩
  go_grown

set_option maxRecDepth 100000 in
set_option maxHeartbeats 4000000 in
theorem inv_timed (t : Th) (kind x y : Int) (w : World) (hs : t.status = 0) (hk : ¬ sideOf kind = 0) (ht : timedOf kind = true) (hy : 0 ≤ y ∧ y ≤ 1099511627776) :
    Calls Tryz.prog 27 #[t.value, .int .i64 kind, .int .i64 x, .int .i64 y] w fun e w' => e = .returned (.tuple #[Th.value ⟨1, kind, x, y, 0, 0, 0, 0, false, 0, 0⟩, .int .i64 0]) ∧ Below w.heap.size w w' := by
  have C1 := fun W => op_timed kind W
  have C2 := fun W => op_check kind W
  have C3 := fun W => th_within y 0 1099511627776 W
  have z0 : decide (0 < sideOf kind) = true := by have := sideOf_range kind; simp; omega
  rw [z0] at C2
  have z2 : (t.status == 0) = true := by simpa using hs
  clear hs hk z0
  rw [ht] at C1
  have z3 : (decide (0 ≤ y) && decide (y ≤ 1099511627776)) = true := by simp [hy]
  rw [z3] at C3
  clear ht hy z3
  obtain ⟨s, k, v, u, p, r, n, i, l, q, g⟩ := t
  try dsimp only at *
  go_enter Tryz.func27, Tryz.ntmps27
  go_wp2_with fail
  obtain ⟨k0, k1, hB⟩ := two_new w (.cells (Th.cells ⟨s, k, v, u, p, r, n, i, l, q, g⟩) 51) (.cells (Th.cells ⟨0, 0, 0, 0, 0, 0, 0, 0, false, 0, 0⟩) 51)
  refine (C1 _).mono ?_
  rintro e w1 ⟨rfl, rfl⟩
  obtain ⟨a0, a1, a2, a3, a4, a5, a6, a7, a8, a9, a10⟩ := cells11 k0
  obtain ⟨b0, b1, b2, b3, b4, b5, b6, b7, b8, b9, b10⟩ := cells11 k1
  have f0 := frozen11 k0
  have f := frozen11 k1
  have K0 := Lib.hid k0
  have K1 := Lib.hid k1
  clear k0 k1
  clear C1
  go_wp2_with fail
  refine (C2 _).mono ?_
  rintro e w2 ⟨rfl, rfl⟩
  clear C2
  go_wp2_with fail
  refine (C3 _).mono ?_
  rintro e w2 ⟨rfl, rfl⟩
  clear C3
  go_wp2
  have k2 := stored11 (c := ⟨1, kind, x, y, 0, 0, 0, 0, false, 0, 0⟩) K1.out
  obtain ⟨r0, r1, r2, r3, r4, r5, r6, r7, r8, r9, r10⟩ := cells11 k2
  refine bodyPost_ret (v := .tuple #[Th.value ⟨1, kind, x, y, 0, 0, 0, 0, false, 0, 0⟩, .int .i64 0]) (by simp [results, Tryz.f27, go_sem, r0, r1, r2, r3, r4, r5, r6, r7, r8, r9, r10]) rfl ⟨rfl, ?_⟩
  go_grown

set_option maxRecDepth 100000 in
set_option maxHeartbeats 4000000 in
theorem inv_plain (t : Th) (kind x y : Int) (w : World) (hs : t.status = 0) (hk : ¬ sideOf kind = 0) (ht : timedOf kind = false) :
    Calls Tryz.prog 27 #[t.value, .int .i64 kind, .int .i64 x, .int .i64 y] w fun e w' => e = .returned (.tuple #[Th.value ⟨1, kind, x, 0, 0, 0, 0, 0, false, 0, 0⟩, .int .i64 0]) ∧ Below w.heap.size w w' := by
  have C1 := fun W => op_timed kind W
  have C2 := fun W => op_check kind W
  have C3 := fun W => th_within y 0 1099511627776 W
  have z0 : decide (0 < sideOf kind) = true := by have := sideOf_range kind; simp; omega
  rw [z0] at C2
  have z2 : (t.status == 0) = true := by simpa using hs
  clear hs hk z0
  rw [ht] at C1
  clear ht C3
  obtain ⟨s, k, v, u, p, r, n, i, l, q, g⟩ := t
  try dsimp only at *
  go_enter Tryz.func27, Tryz.ntmps27
  go_wp2_with fail
  obtain ⟨k0, k1, hB⟩ := two_new w (.cells (Th.cells ⟨s, k, v, u, p, r, n, i, l, q, g⟩) 51) (.cells (Th.cells ⟨0, 0, 0, 0, 0, 0, 0, 0, false, 0, 0⟩) 51)
  refine (C1 _).mono ?_
  rintro e w1 ⟨rfl, rfl⟩
  obtain ⟨a0, a1, a2, a3, a4, a5, a6, a7, a8, a9, a10⟩ := cells11 k0
  obtain ⟨b0, b1, b2, b3, b4, b5, b6, b7, b8, b9, b10⟩ := cells11 k1
  have f0 := frozen11 k0
  have f := frozen11 k1
  have K0 := Lib.hid k0
  have K1 := Lib.hid k1
  clear k0 k1
  clear C1
  go_wp2_with fail
  refine (C2 _).mono ?_
  rintro e w2 ⟨rfl, rfl⟩
  clear C2
  go_wp2
  have k2 := stored11 (c := ⟨1, kind, x, 0, 0, 0, 0, 0, false, 0, 0⟩) K1.out
  obtain ⟨r0, r1, r2, r3, r4, r5, r6, r7, r8, r9, r10⟩ := cells11 k2
  refine bodyPost_ret (v := .tuple #[Th.value ⟨1, kind, x, 0, 0, 0, 0, 0, false, 0, 0⟩, .int .i64 0]) (by simp [results, Tryz.f27, go_sem, r0, r1, r2, r3, r4, r5, r6, r7, r8, r9, r10]) rfl ⟨rfl, ?_⟩
  go_grown

theorem th_invoke (t : Th) (kind x y : Int) (w : World) : Calls Tryz.prog 27 #[t.value, .int .i64 kind, .int .i64 x, .int .i64 y] w fun e w' => e = .returned (.tuple #[(t.begin_ kind x y).1.value, .int .i64 (t.begin_ kind x y).2]) ∧ Below w.heap.size w w' := by
  by_cases hs : t.status = 0
  · by_cases hk : sideOf kind = 0
    · have e : t.begin_ kind x y = (t, 190) := by
        unfold Th.begin_
        rw [if_pos hs, if_pos hk]
      rw [e]
      exact inv_none t kind x y w hs hk
    · by_cases ht : timedOf kind = true
      · by_cases hy : 0 ≤ y ∧ y ≤ 1099511627776
        · have e : t.begin_ kind x y = (⟨1, kind, x, y, 0, 0, 0, 0, false, 0, 0⟩, 0) := by
            unfold Th.begin_
            rw [if_pos hs, if_neg hk, if_pos ht, if_pos hy]
          rw [e]
          exact inv_timed t kind x y w hs hk ht hy
        · have e : t.begin_ kind x y = (t, 50) := by
            unfold Th.begin_
            rw [if_pos hs, if_neg hk, if_pos ht, if_neg hy]
          rw [e]
          exact inv_late t kind x y w hs hk ht hy
      · have ht' : timedOf kind = false := by simpa using ht
        have e : t.begin_ kind x y = (⟨1, kind, x, 0, 0, 0, 0, 0, false, 0, 0⟩, 0) := by
          unfold Th.begin_
          rw [if_pos hs, if_neg hk, if_neg ht]
        rw [e]
        exact inv_plain t kind x y w hs hk ht'
  · have e : t.begin_ kind x y = (t, 120) := by
      unfold Th.begin_
      rw [if_neg hs]
    rw [e]
    exact inv_busy t kind x y w hs

end Go.Proofs.YtnbgpopjnpdmgaaGreat
