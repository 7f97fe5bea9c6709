/-
  DERIVED. conf: what 'laid.bounds' hands over, at every configuration: its six numbers, in order, with the bounds of each.
-/
import Derived.Test.YtjgdoogfoaaejaaHeld
import Derived.Test.YtjgdoogfoaaejaaRange
import Derived.RangeFuncNested
import Derived.RangeFuncBound
import Derived.Shelf.Abstract
import Derived.Shelf.RegionOpen
import Derived.WalkKit
import Derived.OwnWalkIn
import Derived.TacticsInMore
import Derived.LoopNIn
import Derived.LoopIn
import Derived.Laws.Rows
import Derived.Outline
import Derived.Test.YtjgdoogfoaaejaaProg
namespace Go.Proofs.Ytjgdoogfoaaejaa
open Go Go.RowKit Go.Shelf
attribute [local go_sem] Oper.semAt_some

/-- A configuration's numbers. -/
structure Cfg where
  log : Int
  th : Int
  pol : Int
  wt : Int
  sp : Int
  yi : Int
  single : Bool

abbrev Cfg.cells (c : Cfg) : Array Value := #[.int .i64 c.log, .int .i64 c.th, .int .i64 c.pol, .int .i64 c.wt, .int .i64 c.sp, .int .i64 c.yi, .bool c.single]
abbrev Cfg.val (c : Cfg) : Value := .agg c.cells

/-- How often is tried at most. -/
def Cfg.most (c : Cfg) : Int := if c.wt = 2 then 8 else 0

theorem tries_in (F : Fence) (n : Nat) (hf : F.fn 27) (hro : F.round = none) (c : Cfg) (w : World) :
    CallsIn F n Try.prog 27 #[c.val] w fun e w' => e = .returned (.int .i64 c.most) ∧ w' = w.alloc (.cells c.cells 51) := by
  obtain ⟨log, th, pol, wt, sp, yi, single⟩ := c
  by_cases h2 : wt = 2
  · subst h2
    refine callsIn_of_wp Try.func27 rfl hf ?_ hro
    simp only [Try.ntmps27, List.size_toArray, List.length_cons, List.length_nil, Nat.reduceAdd, Nat.reduceSub, Array.replicate_succ, Array.replicate_zero, List.push_toArray, List.append_toArray, List.nil_append, List.cons_append]
    gi_wp2
    go_ret
    exact ⟨rfl, rfl⟩
  · refine callsIn_of_wp Try.func27 rfl hf ?_ hro
    simp only [Try.ntmps27, List.size_toArray, List.length_cons, List.length_nil, Nat.reduceAdd, Nat.reduceSub, Array.replicate_succ, Array.replicate_zero, List.push_toArray, List.append_toArray, List.nil_append, List.cons_append]
    have hb : (wt == 2) = false := by simpa using h2
    gi_wp2
    go_ret
    exact ⟨by simp [Cfg.most, h2], rfl⟩

/-- The six numbers with their bounds. -/
def Cfg.spans (c : Cfg) : List (Int × Int × Int) := [(c.log, 1, 6), (c.th, 1, 16), (c.pol, 0, 2), (c.wt, 0, 3), (c.sp, 0, c.most), (c.yi, 0, c.most)]
abbrev spanEnc (x : Int × Int × Int) : Array Value := #[.int .i64 x.1, .agg #[.int .i64 x.2.1, .int .i64 x.2.2]]

set_option maxHeartbeats 1000000 in
theorem bounds_hands (F : Fence) (n : Nat) (hf : F.fn 26) (ht : F.fn 27) (hro : F.round = none) (hn : 1 ≤ n) (c : Cfg) :
    Hands F n Try.prog 26 #[c.val] spanEnc c.spans := fun l J Jx W hJ hJx hY h0 => by
  obtain ⟨log, th, pol, wt, sp, yi, single⟩ := c
  refine callsIn_of_wp Try.func26 rfl hf ?_ hro
  simp only [Try.ntmps26, List.size_toArray, List.length_cons, List.length_nil, Nat.reduceAdd, Nat.reduceSub, Array.replicate_succ, Array.replicate_zero, List.push_toArray, List.append_toArray, List.nil_append, List.cons_append]
  gi_wp2_with fail
  refine wpIn_region_lex (S := fun V => V.heap[W.heap.size]? = some (.cells #[.int .i64 log, .int .i64 th, .int .i64 pol, .int .i64 wt, .int .i64 sp, .int .i64 yi, .bool single] 51 (0, 0))) hro (by kernel_rfl)
    [true, true, true, true, false, true,
     true, true, true, true, false, true, true,
     true, true, true, true, false, true, true,
     true, true, true, true, false, true, true,
     true, true, true, true, false, true, false, true, true,
     true, true, true, true, false, true, false, true] (by kernel_rfl) (by kernel_rfl) (by kernel_rfl) (fun _ _ d _ _ h => by cases d <;> exact h) ?_
  have hb : (W.alloc (.cells #[.int .i64 log, .int .i64 th, .int .i64 pol, .int .i64 wt, .int .i64 sp, .int .i64 yi, .bool single] 51)).drew.heap[W.heap.size]? = some (.cells #[.int .i64 log, .int .i64 th, .int .i64 pol, .int .i64 wt, .int .i64 sp, .int .i64 yi, .bool single] 51 (0, 0)) := World.alloc_heap_new W _
  dsimp only
  have hJ0 : J [] (W.alloc (.cells #[.int .i64 log, .int .i64 th, .int .i64 pol, .int .i64 wt, .int .i64 sp, .int .i64 yi, .bool single] 51)).drew :=
    hJ _ _ _ none h0 ⟨rfl, rfl, rfl, by simp, fun i hi _ => Below.heap_alloc W _ i hi⟩ (fun _ e => by cases e)
  refine Lex.calm (v := ?_) hb rfl (fun V hV => ?_) (fun V hV f hf => ?_) (by simp only [Act.put, List.setIfInBounds_toArray, List.set_cons_succ, List.set_cons_zero]; rfl) ?_
  rotate_left
  · go_simp
    with_reducible rfl
  · simp [Oper.about] at hf
  refine Lex.calm (v := ?_) hb rfl (fun V hV => ?_) (fun V hV f hf => ?_) (by simp only [Act.put, List.setIfInBounds_toArray, List.set_cons_succ, List.set_cons_zero]; rfl) ?_
  rotate_left
  · go_simp
    with_reducible rfl
  · simp [Oper.about] at hf
  refine Lex.calm (v := ?_) hb rfl (fun V hV => ?_) (fun V hV f hf => ?_) (by simp only [Act.put, List.setIfInBounds_toArray, List.set_cons_succ, List.set_cons_zero]; rfl) ?_
  rotate_left
  · have h0 : V.cell? ⟨W.heap.size, 0, none⟩ = some (.int .i64 log) := cell_of_row V W.heap.size 0 _ _ _ hV
    go_simp
    with_reducible rfl
  · simp [Oper.about] at hf
  refine Lex.calm (v := ?_) hb rfl (fun V hV => ?_) (fun V hV f hf => ?_) (by simp only [Act.put, List.setIfInBounds_toArray, List.set_cons_succ, List.set_cons_zero]; rfl) ?_
  rotate_left
  · go_simp
    with_reducible rfl
  · simp [Oper.about] at hf
  obtain ⟨f0, t0, a0, b0, hy0, hR0⟩ := hY [] (log, 1, 6) _ hJ0 ⟨[(th, 1, 16), (pol, 0, 2), (wt, 0, 3), (sp, 0, Cfg.most ⟨log, th, pol, wt, sp, yi, single⟩), (yi, 0, Cfg.most ⟨log, th, pol, wt, sp, yi, single⟩)], rfl⟩
  dsimp only [spanEnc] at hy0
  refine Lex.only rfl ?_
  go_simp
  refine hR0.mono ?_
  clear hR0 hy0
  rintro e V1 ⟨hk0, (⟨rfl, hJ1⟩ | ⟨rfl, hx⟩)⟩
  all_goals
    replace hb := (hk0.same W.heap.size (Nat.le_refl _) (Array.getElem?_eq_some_iff.1 hb).1).trans hb
    refine ⟨hb, ?_⟩
    clear hk0
  rotate_left
  · clear hJ0
    repeat (first
      | (refine Lex.idle hb rfl (fun V hV f hf => ?_) (by simp only [Act.put, List.setIfInBounds_toArray, List.set_cons_succ, List.set_cons_zero]; rfl) ?_
         · first
           | (have hf2 : (none : Option FuncId) = some f := hf; cases hf2)
           | (have hf2 : some 27 = some f := hf; cases hf2; exact ht))
      | (refine Lex.calm (v := ?_) hb rfl (fun V hV => ?_) (fun V hV f hf => ?_) (by simp only [Act.put, List.setIfInBounds_toArray, List.set_cons_succ, List.set_cons_zero]; rfl) ?_
         rotate_left
         · go_simp
           with_reducible rfl
         · simp [Oper.about] at hf))
    simp only [Lex]
    go_end0
    exact ⟨⟨_, rfl⟩, .inr ⟨[(log, 1, 6)], ⟨[(th, 1, 16), (pol, 0, 2), (wt, 0, 3), (sp, 0, Cfg.most ⟨log, th, pol, wt, sp, yi, single⟩), (yi, 0, Cfg.most ⟨log, th, pol, wt, sp, yi, single⟩)], rfl⟩, hx⟩⟩
  clear hJ0
  refine Lex.calm (v := ?_) hb rfl (fun V hV => ?_) (fun V hV f hf => ?_) (by simp only [Act.put, List.setIfInBounds_toArray, List.set_cons_succ, List.set_cons_zero]; rfl) ?_
  rotate_left
  · go_simp
    with_reducible rfl
  · simp [Oper.about] at hf
  refine Lex.calm (v := ?_) hb rfl (fun V hV => ?_) (fun V hV f hf => ?_) (by simp only [Act.put, List.setIfInBounds_toArray, List.set_cons_succ, List.set_cons_zero]; rfl) ?_
  rotate_left
  · go_simp
    with_reducible rfl
  · simp [Oper.about] at hf
  refine Lex.calm (v := ?_) hb rfl (fun V hV => ?_) (fun V hV f hf => ?_) (by simp only [Act.put, List.setIfInBounds_toArray, List.set_cons_succ, List.set_cons_zero]; rfl) ?_
  rotate_left
  · go_simp
    with_reducible rfl
  · simp [Oper.about] at hf
  refine Lex.calm (v := ?_) hb rfl (fun V hV => ?_) (fun V hV f hf => ?_) (by simp only [Act.put, List.setIfInBounds_toArray, List.set_cons_succ, List.set_cons_zero]; rfl) ?_
  rotate_left
  · have h0 : V.cell? ⟨W.heap.size, 1, none⟩ = some (.int .i64 th) := cell_of_row V W.heap.size 1 _ _ _ hV
    go_simp
    with_reducible rfl
  · simp [Oper.about] at hf
  refine Lex.calm (v := ?_) hb rfl (fun V hV => ?_) (fun V hV f hf => ?_) (by simp only [Act.put, List.setIfInBounds_toArray, List.set_cons_succ, List.set_cons_zero]; rfl) ?_
  rotate_left
  · go_simp
    with_reducible rfl
  · simp [Oper.about] at hf
  obtain ⟨f1, t1, a1, b1, hy1, hR1⟩ := hY [(log, 1, 6)] (th, 1, 16) _ hJ1 ⟨[(pol, 0, 2), (wt, 0, 3), (sp, 0, Cfg.most ⟨log, th, pol, wt, sp, yi, single⟩), (yi, 0, Cfg.most ⟨log, th, pol, wt, sp, yi, single⟩)], rfl⟩
  dsimp only [spanEnc] at hy1
  refine Lex.only rfl ?_
  go_simp
  refine hR1.mono ?_
  clear hR1 hy1
  rintro e V2 ⟨hk1, (⟨rfl, hJ2⟩ | ⟨rfl, hx⟩)⟩
  all_goals
    replace hb := (hk1.same W.heap.size (Nat.le_refl _) (Array.getElem?_eq_some_iff.1 hb).1).trans hb
    refine ⟨hb, ?_⟩
    clear hk1
  rotate_left
  · clear hJ1
    repeat (first
      | (refine Lex.idle hb rfl (fun V hV f hf => ?_) (by simp only [Act.put, List.setIfInBounds_toArray, List.set_cons_succ, List.set_cons_zero]; rfl) ?_
         · first
           | (have hf2 : (none : Option FuncId) = some f := hf; cases hf2)
           | (have hf2 : some 27 = some f := hf; cases hf2; exact ht))
      | (refine Lex.calm (v := ?_) hb rfl (fun V hV => ?_) (fun V hV f hf => ?_) (by simp only [Act.put, List.setIfInBounds_toArray, List.set_cons_succ, List.set_cons_zero]; rfl) ?_
         rotate_left
         · go_simp
           with_reducible rfl
         · simp [Oper.about] at hf))
    simp only [Lex]
    go_end0
    exact ⟨⟨_, rfl⟩, .inr ⟨[(log, 1, 6), (th, 1, 16)], ⟨[(pol, 0, 2), (wt, 0, 3), (sp, 0, Cfg.most ⟨log, th, pol, wt, sp, yi, single⟩), (yi, 0, Cfg.most ⟨log, th, pol, wt, sp, yi, single⟩)], rfl⟩, hx⟩⟩
  clear hJ1
  refine Lex.calm (v := ?_) hb rfl (fun V hV => ?_) (fun V hV f hf => ?_) (by simp only [Act.put, List.setIfInBounds_toArray, List.set_cons_succ, List.set_cons_zero]; rfl) ?_
  rotate_left
  · go_simp
    with_reducible rfl
  · simp [Oper.about] at hf
  refine Lex.calm (v := ?_) hb rfl (fun V hV => ?_) (fun V hV f hf => ?_) (by simp only [Act.put, List.setIfInBounds_toArray, List.set_cons_succ, List.set_cons_zero]; rfl) ?_
  rotate_left
  · go_simp
    with_reducible rfl
  · simp [Oper.about] at hf
  refine Lex.calm (v := ?_) hb rfl (fun V hV => ?_) (fun V hV f hf => ?_) (by simp only [Act.put, List.setIfInBounds_toArray, List.set_cons_succ, List.set_cons_zero]; rfl) ?_
  rotate_left
  · go_simp
    with_reducible rfl
  · simp [Oper.about] at hf
  refine Lex.calm (v := ?_) hb rfl (fun V hV => ?_) (fun V hV f hf => ?_) (by simp only [Act.put, List.setIfInBounds_toArray, List.set_cons_succ, List.set_cons_zero]; rfl) ?_
  rotate_left
  · go_simp
    with_reducible rfl
  · simp [Oper.about] at hf
  refine Lex.calm (v := ?_) hb rfl (fun V hV => ?_) (fun V hV f hf => ?_) (by simp only [Act.put, List.setIfInBounds_toArray, List.set_cons_succ, List.set_cons_zero]; rfl) ?_
  rotate_left
  · have h0 : V.cell? ⟨W.heap.size, 2, none⟩ = some (.int .i64 pol) := cell_of_row V W.heap.size 2 _ _ _ hV
    go_simp
    with_reducible rfl
  · simp [Oper.about] at hf
  refine Lex.calm (v := ?_) hb rfl (fun V hV => ?_) (fun V hV f hf => ?_) (by simp only [Act.put, List.setIfInBounds_toArray, List.set_cons_succ, List.set_cons_zero]; rfl) ?_
  rotate_left
  · go_simp
    with_reducible rfl
  · simp [Oper.about] at hf
  obtain ⟨f2, t2, a2, b2, hy2, hR2⟩ := hY [(log, 1, 6), (th, 1, 16)] (pol, 0, 2) _ hJ2 ⟨[(wt, 0, 3), (sp, 0, Cfg.most ⟨log, th, pol, wt, sp, yi, single⟩), (yi, 0, Cfg.most ⟨log, th, pol, wt, sp, yi, single⟩)], rfl⟩
  dsimp only [spanEnc] at hy2
  refine Lex.only rfl ?_
  go_simp
  refine hR2.mono ?_
  clear hR2 hy2
  rintro e V3 ⟨hk2, (⟨rfl, hJ3⟩ | ⟨rfl, hx⟩)⟩
  all_goals
    replace hb := (hk2.same W.heap.size (Nat.le_refl _) (Array.getElem?_eq_some_iff.1 hb).1).trans hb
    refine ⟨hb, ?_⟩
    clear hk2
  rotate_left
  · clear hJ2
    repeat (first
      | (refine Lex.idle hb rfl (fun V hV f hf => ?_) (by simp only [Act.put, List.setIfInBounds_toArray, List.set_cons_succ, List.set_cons_zero]; rfl) ?_
         · first
           | (have hf2 : (none : Option FuncId) = some f := hf; cases hf2)
           | (have hf2 : some 27 = some f := hf; cases hf2; exact ht))
      | (refine Lex.calm (v := ?_) hb rfl (fun V hV => ?_) (fun V hV f hf => ?_) (by simp only [Act.put, List.setIfInBounds_toArray, List.set_cons_succ, List.set_cons_zero]; rfl) ?_
         rotate_left
         · go_simp
           with_reducible rfl
         · simp [Oper.about] at hf))
    simp only [Lex]
    go_end0
    exact ⟨⟨_, rfl⟩, .inr ⟨[(log, 1, 6), (th, 1, 16), (pol, 0, 2)], ⟨[(wt, 0, 3), (sp, 0, Cfg.most ⟨log, th, pol, wt, sp, yi, single⟩), (yi, 0, Cfg.most ⟨log, th, pol, wt, sp, yi, single⟩)], rfl⟩, hx⟩⟩
  clear hJ2
  refine Lex.calm (v := ?_) hb rfl (fun V hV => ?_) (fun V hV f hf => ?_) (by simp only [Act.put, List.setIfInBounds_toArray, List.set_cons_succ, List.set_cons_zero]; rfl) ?_
  rotate_left
  · go_simp
    with_reducible rfl
  · simp [Oper.about] at hf
  refine Lex.calm (v := ?_) hb rfl (fun V hV => ?_) (fun V hV f hf => ?_) (by simp only [Act.put, List.setIfInBounds_toArray, List.set_cons_succ, List.set_cons_zero]; rfl) ?_
  rotate_left
  · go_simp
    with_reducible rfl
  · simp [Oper.about] at hf
  refine Lex.calm (v := ?_) hb rfl (fun V hV => ?_) (fun V hV f hf => ?_) (by simp only [Act.put, List.setIfInBounds_toArray, List.set_cons_succ, List.set_cons_zero]; rfl) ?_
  rotate_left
  · go_simp
    with_reducible rfl
  · simp [Oper.about] at hf
  refine Lex.calm (v := ?_) hb rfl (fun V hV => ?_) (fun V hV f hf => ?_) (by simp only [Act.put, List.setIfInBounds_toArray, List.set_cons_succ, List.set_cons_zero]; rfl) ?_
  rotate_left
  · go_simp
    with_reducible rfl
  · simp [Oper.about] at hf
  refine Lex.calm (v := ?_) hb rfl (fun V hV => ?_) (fun V hV f hf => ?_) (by simp only [Act.put, List.setIfInBounds_toArray, List.set_cons_succ, List.set_cons_zero]; rfl) ?_
  rotate_left
  · have h0 : V.cell? ⟨W.heap.size, 3, none⟩ = some (.int .i64 wt) := cell_of_row V W.heap.size 3 _ _ _ hV
    go_simp
    with_reducible rfl
  · simp [Oper.about] at hf
  refine Lex.calm (v := ?_) hb rfl (fun V hV => ?_) (fun V hV f hf => ?_) (by simp only [Act.put, List.setIfInBounds_toArray, List.set_cons_succ, List.set_cons_zero]; rfl) ?_
  rotate_left
  · go_simp
    with_reducible rfl
  · simp [Oper.about] at hf
  obtain ⟨f3, t3, a3, b3, hy3, hR3⟩ := hY [(log, 1, 6), (th, 1, 16), (pol, 0, 2)] (wt, 0, 3) _ hJ3 ⟨[(sp, 0, Cfg.most ⟨log, th, pol, wt, sp, yi, single⟩), (yi, 0, Cfg.most ⟨log, th, pol, wt, sp, yi, single⟩)], rfl⟩
  dsimp only [spanEnc] at hy3
  refine Lex.only rfl ?_
  go_simp
  refine hR3.mono ?_
  clear hR3 hy3
  rintro e V4 ⟨hk3, (⟨rfl, hJ4⟩ | ⟨rfl, hx⟩)⟩
  all_goals
    replace hb := (hk3.same W.heap.size (Nat.le_refl _) (Array.getElem?_eq_some_iff.1 hb).1).trans hb
    refine ⟨hb, ?_⟩
    clear hk3
  rotate_left
  · clear hJ3
    repeat (first
      | (refine Lex.idle hb rfl (fun V hV f hf => ?_) (by simp only [Act.put, List.setIfInBounds_toArray, List.set_cons_succ, List.set_cons_zero]; rfl) ?_
         · first
           | (have hf2 : (none : Option FuncId) = some f := hf; cases hf2)
           | (have hf2 : some 27 = some f := hf; cases hf2; exact ht))
      | (refine Lex.calm (v := ?_) hb rfl (fun V hV => ?_) (fun V hV f hf => ?_) (by simp only [Act.put, List.setIfInBounds_toArray, List.set_cons_succ, List.set_cons_zero]; rfl) ?_
         rotate_left
         · go_simp
           with_reducible rfl
         · simp [Oper.about] at hf))
    simp only [Lex]
    go_end0
    exact ⟨⟨_, rfl⟩, .inr ⟨[(log, 1, 6), (th, 1, 16), (pol, 0, 2), (wt, 0, 3)], ⟨[(sp, 0, Cfg.most ⟨log, th, pol, wt, sp, yi, single⟩), (yi, 0, Cfg.most ⟨log, th, pol, wt, sp, yi, single⟩)], rfl⟩, hx⟩⟩
  clear hJ3
  refine Lex.calm (v := ?_) hb rfl (fun V hV => ?_) (fun V hV f hf => ?_) (by simp only [Act.put, List.setIfInBounds_toArray, List.set_cons_succ, List.set_cons_zero]; rfl) ?_
  rotate_left
  · go_simp
    with_reducible rfl
  · simp [Oper.about] at hf
  refine Lex.calm (v := ?_) hb rfl (fun V hV => ?_) (fun V hV f hf => ?_) (by simp only [Act.put, List.setIfInBounds_toArray, List.set_cons_succ, List.set_cons_zero]; rfl) ?_
  rotate_left
  · go_simp
    with_reducible rfl
  · simp [Oper.about] at hf
  refine Lex.calm (v := ?_) hb rfl (fun V hV => ?_) (fun V hV f hf => ?_) (by simp only [Act.put, List.setIfInBounds_toArray, List.set_cons_succ, List.set_cons_zero]; rfl) ?_
  rotate_left
  · go_simp
    with_reducible rfl
  · simp [Oper.about] at hf
  refine Lex.calm (v := ?_) hb rfl (fun V hV => ?_) (fun V hV f hf => ?_) (by simp only [Act.put, List.setIfInBounds_toArray, List.set_cons_succ, List.set_cons_zero]; rfl) ?_
  rotate_left
  · go_simp
    with_reducible rfl
  · simp [Oper.about] at hf
  refine Lex.calm (v := ?_) hb rfl (fun V hV => ?_) (fun V hV f hf => ?_) (by simp only [Act.put, List.setIfInBounds_toArray, List.set_cons_succ, List.set_cons_zero]; rfl) ?_
  rotate_left
  · have h0 : V.cell? ⟨W.heap.size, 4, none⟩ = some (.int .i64 sp) := cell_of_row V W.heap.size 4 _ _ _ hV
    go_simp
    with_reducible rfl
  · simp [Oper.about] at hf
  refine Lex.calm (v := ?_) hb rfl (fun V hV => ?_) (fun V hV f hf => ?_) (by simp only [Act.put, List.setIfInBounds_toArray, List.set_cons_succ, List.set_cons_zero]; rfl) ?_
  rotate_left
  · have h0 := cell_of_row V W.heap.size 0 _ _ _ hV
    have h1 := cell_of_row V W.heap.size 1 _ _ _ hV
    have h2 := cell_of_row V W.heap.size 2 _ _ _ hV
    have h3 := cell_of_row V W.heap.size 3 _ _ _ hV
    have h4 := cell_of_row V W.heap.size 4 _ _ _ hV
    have h5 := cell_of_row V W.heap.size 5 _ _ _ hV
    have h6 := cell_of_row V W.heap.size 6 _ _ _ hV
    simp at h0 h1 h2 h3 h4 h5 h6
    go_simp
    with_reducible rfl
  · simp [Oper.about] at hf
  refine Lex.only rfl ?_
  go_simp
  refine (tries_in F _ ht hro ⟨log, th, pol, wt, sp, yi, single⟩ _).mono ?_
  rintro e w' ⟨rfl, rfl⟩
  replace hb := (Below.heap_alloc _ (.cells (Cfg.cells ⟨log, th, pol, wt, sp, yi, single⟩) 51) _ (Array.getElem?_eq_some_iff.1 hb).1).trans hb
  replace hJ4 := hJ _ _ _ none hJ4 (World.grownBy_alloc _ (.cells (Cfg.cells ⟨log, th, pol, wt, sp, yi, single⟩) 51) none) (fun _ e => by cases e)
  refine ⟨hb, ?_⟩
  refine Lex.calm (v := ?_) hb rfl (fun V hV => ?_) (fun V hV f hf => ?_) (by simp only [Act.put, List.setIfInBounds_toArray, List.set_cons_succ, List.set_cons_zero]; rfl) ?_
  rotate_left
  · go_simp
    with_reducible rfl
  · simp [Oper.about] at hf
  obtain ⟨f4, t4, a4, b4, hy4, hR4⟩ := hY [(log, 1, 6), (th, 1, 16), (pol, 0, 2), (wt, 0, 3)] (sp, 0, Cfg.most ⟨log, th, pol, wt, sp, yi, single⟩) _ hJ4 ⟨[(yi, 0, Cfg.most ⟨log, th, pol, wt, sp, yi, single⟩)], rfl⟩
  dsimp only [spanEnc] at hy4
  refine Lex.only rfl ?_
  go_simp
  refine hR4.mono ?_
  clear hR4 hy4
  rintro e V5 ⟨hk4, (⟨rfl, hJ5⟩ | ⟨rfl, hx⟩)⟩
  all_goals
    replace hb := (hk4.same W.heap.size (Nat.le_refl _) (Array.getElem?_eq_some_iff.1 hb).1).trans hb
    refine ⟨hb, ?_⟩
    clear hk4
  rotate_left
  · clear hJ4
    repeat (first
      | (refine Lex.idle hb rfl (fun V hV f hf => ?_) (by simp only [Act.put, List.setIfInBounds_toArray, List.set_cons_succ, List.set_cons_zero]; rfl) ?_
         · first
           | (have hf2 : (none : Option FuncId) = some f := hf; cases hf2)
           | (have hf2 : some 27 = some f := hf; cases hf2; exact ht))
      | (refine Lex.calm (v := ?_) hb rfl (fun V hV => ?_) (fun V hV f hf => ?_) (by simp only [Act.put, List.setIfInBounds_toArray, List.set_cons_succ, List.set_cons_zero]; rfl) ?_
         rotate_left
         · go_simp
           with_reducible rfl
         · simp [Oper.about] at hf))
    simp only [Lex]
    go_end0
    exact ⟨⟨_, rfl⟩, .inr ⟨[(log, 1, 6), (th, 1, 16), (pol, 0, 2), (wt, 0, 3), (sp, 0, Cfg.most ⟨log, th, pol, wt, sp, yi, single⟩)], ⟨[(yi, 0, Cfg.most ⟨log, th, pol, wt, sp, yi, single⟩)], rfl⟩, hx⟩⟩
  clear hJ4
  refine Lex.calm (v := ?_) hb rfl (fun V hV => ?_) (fun V hV f hf => ?_) (by simp only [Act.put, List.setIfInBounds_toArray, List.set_cons_succ, List.set_cons_zero]; rfl) ?_
  rotate_left
  · go_simp
    with_reducible rfl
  · simp [Oper.about] at hf
  refine Lex.calm (v := ?_) hb rfl (fun V hV => ?_) (fun V hV f hf => ?_) (by simp only [Act.put, List.setIfInBounds_toArray, List.set_cons_succ, List.set_cons_zero]; rfl) ?_
  rotate_left
  · go_simp
    with_reducible rfl
  · simp [Oper.about] at hf
  refine Lex.calm (v := ?_) hb rfl (fun V hV => ?_) (fun V hV f hf => ?_) (by simp only [Act.put, List.setIfInBounds_toArray, List.set_cons_succ, List.set_cons_zero]; rfl) ?_
  rotate_left
  · go_simp
    with_reducible rfl
  · simp [Oper.about] at hf
  refine Lex.calm (v := ?_) hb rfl (fun V hV => ?_) (fun V hV f hf => ?_) (by simp only [Act.put, List.setIfInBounds_toArray, List.set_cons_succ, List.set_cons_zero]; rfl) ?_
  rotate_left
  · go_simp
    with_reducible rfl
  · simp [Oper.about] at hf
  refine Lex.calm (v := ?_) hb rfl (fun V hV => ?_) (fun V hV f hf => ?_) (by simp only [Act.put, List.setIfInBounds_toArray, List.set_cons_succ, List.set_cons_zero]; rfl) ?_
  rotate_left
  · have h0 : V.cell? ⟨W.heap.size, 5, none⟩ = some (.int .i64 yi) := cell_of_row V W.heap.size 5 _ _ _ hV
    go_simp
    with_reducible rfl
  · simp [Oper.about] at hf
  refine Lex.calm (v := ?_) hb rfl (fun V hV => ?_) (fun V hV f hf => ?_) (by simp only [Act.put, List.setIfInBounds_toArray, List.set_cons_succ, List.set_cons_zero]; rfl) ?_
  rotate_left
  · have h0 := cell_of_row V W.heap.size 0 _ _ _ hV
    have h1 := cell_of_row V W.heap.size 1 _ _ _ hV
    have h2 := cell_of_row V W.heap.size 2 _ _ _ hV
    have h3 := cell_of_row V W.heap.size 3 _ _ _ hV
    have h4 := cell_of_row V W.heap.size 4 _ _ _ hV
    have h5 := cell_of_row V W.heap.size 5 _ _ _ hV
    have h6 := cell_of_row V W.heap.size 6 _ _ _ hV
    simp at h0 h1 h2 h3 h4 h5 h6
    go_simp
    with_reducible rfl
  · simp [Oper.about] at hf
  refine Lex.only rfl ?_
  go_simp
  refine (tries_in F _ ht hro ⟨log, th, pol, wt, sp, yi, single⟩ _).mono ?_
  rintro e w' ⟨rfl, rfl⟩
  replace hb := (Below.heap_alloc _ (.cells (Cfg.cells ⟨log, th, pol, wt, sp, yi, single⟩) 51) _ (Array.getElem?_eq_some_iff.1 hb).1).trans hb
  replace hJ5 := hJ _ _ _ none hJ5 (World.grownBy_alloc _ (.cells (Cfg.cells ⟨log, th, pol, wt, sp, yi, single⟩) 51) none) (fun _ e => by cases e)
  refine ⟨hb, ?_⟩
  refine Lex.calm (v := ?_) hb rfl (fun V hV => ?_) (fun V hV f hf => ?_) (by simp only [Act.put, List.setIfInBounds_toArray, List.set_cons_succ, List.set_cons_zero]; rfl) ?_
  rotate_left
  · go_simp
    with_reducible rfl
  · simp [Oper.about] at hf
  obtain ⟨f5, t5, a5, b5, hy5, hR5⟩ := hY [(log, 1, 6), (th, 1, 16), (pol, 0, 2), (wt, 0, 3), (sp, 0, Cfg.most ⟨log, th, pol, wt, sp, yi, single⟩)] (yi, 0, Cfg.most ⟨log, th, pol, wt, sp, yi, single⟩) _ hJ5 ⟨[], rfl⟩
  dsimp only [spanEnc] at hy5
  refine Lex.only rfl ?_
  go_simp
  refine hR5.mono ?_
  clear hR5 hy5
  rintro e V6 ⟨hk5, (⟨rfl, hJ6⟩ | ⟨rfl, hx⟩)⟩
  all_goals
    replace hb := (hk5.same W.heap.size (Nat.le_refl _) (Array.getElem?_eq_some_iff.1 hb).1).trans hb
    refine ⟨hb, ?_⟩
    clear hk5
  rotate_left
  · clear hJ5
    repeat (first
      | (refine Lex.idle hb rfl (fun V hV f hf => ?_) (by simp only [Act.put, List.setIfInBounds_toArray, List.set_cons_succ, List.set_cons_zero]; rfl) ?_
         · first
           | (have hf2 : (none : Option FuncId) = some f := hf; cases hf2)
           | (have hf2 : some 27 = some f := hf; cases hf2; exact ht))
      | (refine Lex.calm (v := ?_) hb rfl (fun V hV => ?_) (fun V hV f hf => ?_) (by simp only [Act.put, List.setIfInBounds_toArray, List.set_cons_succ, List.set_cons_zero]; rfl) ?_
         rotate_left
         · go_simp
           with_reducible rfl
         · simp [Oper.about] at hf))
    simp only [Lex]
    go_end0
    exact ⟨⟨_, rfl⟩, .inr ⟨[(log, 1, 6), (th, 1, 16), (pol, 0, 2), (wt, 0, 3), (sp, 0, Cfg.most ⟨log, th, pol, wt, sp, yi, single⟩), (yi, 0, Cfg.most ⟨log, th, pol, wt, sp, yi, single⟩)], ⟨[], rfl⟩, hx⟩⟩
  clear hJ5
  refine Lex.calm (v := ?_) hb rfl (fun V hV => ?_) (fun V hV f hf => ?_) (by simp only [Act.put, List.setIfInBounds_toArray, List.set_cons_succ, List.set_cons_zero]; rfl) ?_
  rotate_left
  · go_simp
    with_reducible rfl
  · simp [Oper.about] at hf
  simp only [Lex]
  go_end0
  exact ⟨⟨_, rfl⟩, .inl hJ6⟩

end Go.Proofs.Ytjgdoogfoaaejaa
