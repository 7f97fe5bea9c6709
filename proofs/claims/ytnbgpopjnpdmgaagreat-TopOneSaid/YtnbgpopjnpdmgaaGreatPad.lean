/-
  DERIVED. Bounds, Check.
-/
import Derived.RangeFuncNested
import Derived.RangeFuncBound
import Derived.Shelf.Abstract
import Derived.Shelf.RegionOpen
import Derived.WalkKit
import Derived.OwnWalkIn
import Derived.TacticsInMore
import Derived.LoopNIn
import Derived.LoopIn
import Derived.Laws.Rows
import Derived.Outline
import Derived.Test.YtnbgpopjnpdmgaaGreatProg
import Derived.Test.YtnbgpopjnpdmgaaGreatPaa
import Derived.Test.YtnbgpopjnpdmgaaGreatPac
set_option linter.unusedVariables false
set_option linter.unusedSimpArgs false

namespace Go.Proofs.YtnbgpopjnpdmgaaGreat
open Go Go.RowKit Go.Shelf
attribute [local go_sem] Oper.semAt_some

/-- A configuration's numbers. -/
structure Cfg where
  log : Int
  th : Int
  pol : Int
  wt : Int
  sp : Int
  yi : Int
  single : Bool

abbrev Cfg.cells (c : Cfg) : Array Value := #[.int .i64 c.log, .int .i64 c.th, .int .i64 c.pol, .int .i64 c.wt, .int .i64 c.sp, .int .i64 c.yi, .bool c.single]
abbrev Cfg.val (c : Cfg) : Value := .agg c.cells

/-- How often is tried at most. -/
def Cfg.most (c : Cfg) : Int := if c.wt = 2 then 8 else 0

theorem tries_in (F : Fence) (n : Nat) (hf : F.fn 60) (hro : F.round = none) (c : Cfg) (w : World) :
    CallsIn F n Tryz.prog 60 #[c.val] w fun e w' => e = .returned (.int .i64 c.most) ∧ w' = w.alloc (.cells c.cells 79) := by
  obtain ⟨log, th, pol, wt, sp, yi, single⟩ := c
  by_cases h2 : wt = 2
  · subst h2
    refine callsIn_of_wp Tryz.func60 rfl hf ?_ hro
    simp only [Tryz.ntmps60, List.size_toArray, List.length_cons, List.length_nil, Nat.reduceAdd, Nat.reduceSub, Array.replicate_succ, Array.replicate_zero, List.push_toArray, List.append_toArray, List.nil_append, List.cons_append]
    gi_wp2
    go_ret
    exact ⟨rfl, rfl⟩
  · refine callsIn_of_wp Tryz.func60 rfl hf ?_ hro
    simp only [Tryz.ntmps60, List.size_toArray, List.length_cons, List.length_nil, Nat.reduceAdd, Nat.reduceSub, Array.replicate_succ, Array.replicate_zero, List.push_toArray, List.append_toArray, List.nil_append, List.cons_append]
    have hb : (wt == 2) = false := by simpa using h2
    gi_wp2
    go_ret
    exact ⟨by simp [Cfg.most, h2], rfl⟩

/-- The six numbers with their bounds. -/
def Cfg.spans (c : Cfg) : List (Int × Int × Int) := [(c.log, 1, 6), (c.th, 1, 16), (c.pol, 0, 2), (c.wt, 0, 3), (c.sp, 0, c.most), (c.yi, 0, c.most)]
abbrev spanEnc (x : Int × Int × Int) : Array Value := #[.int .i64 x.1, .agg #[.int .i64 x.2.1, .int .i64 x.2.2]]

set_option maxHeartbeats 1000000 in
theorem bounds_hands (F : Fence) (n : Nat) (hf : F.fn 33) (ht : F.fn 60) (hro : F.round = none) (hn : 1 ≤ n) (c : Cfg) :
    Hands F n Tryz.prog 33 #[c.val] spanEnc c.spans := fun l J Jx W hJ hJx hY h0 => by
  obtain ⟨log, th, pol, wt, sp, yi, single⟩ := c
  refine callsIn_of_wp Tryz.func33 rfl hf ?_ hro
  simp only [Tryz.ntmps33, List.size_toArray, List.length_cons, List.length_nil, Nat.reduceAdd, Nat.reduceSub, Array.replicate_succ, Array.replicate_zero, List.push_toArray, List.append_toArray, List.nil_append, List.cons_append]
  gi_wp2_with fail
  refine wpIn_region_lex (S := fun V => V.heap[W.heap.size]? = some (.cells #[.int .i64 log, .int .i64 th, .int .i64 pol, .int .i64 wt, .int .i64 sp, .int .i64 yi, .bool single] 79 (0, 0))) hro (by kernel_rfl)
    [true, true, true, true, false, true,
     true, true, true, true, false, true, true,
     true, true, true, true, false, true, true,
     true, true, true, true, false, true, true,
     true, true, true, true, false, true, false, true, true,
     true, true, true, true, false, true, false, true] (by kernel_rfl) (by kernel_rfl) (by kernel_rfl) (fun _ _ d _ _ h => by cases d <;> exact h) ?_
  have hb : (W.alloc (.cells #[.int .i64 log, .int .i64 th, .int .i64 pol, .int .i64 wt, .int .i64 sp, .int .i64 yi, .bool single] 79)).drew.heap[W.heap.size]? = some (.cells #[.int .i64 log, .int .i64 th, .int .i64 pol, .int .i64 wt, .int .i64 sp, .int .i64 yi, .bool single] 79 (0, 0)) := World.alloc_heap_new W _
  dsimp only
  have hJ0 : J [] (W.alloc (.cells #[.int .i64 log, .int .i64 th, .int .i64 pol, .int .i64 wt, .int .i64 sp, .int .i64 yi, .bool single] 79)).drew :=
    hJ _ _ _ none h0 ⟨rfl, rfl, rfl, by simp, fun i hi _ => Below.heap_alloc W _ i hi⟩ (fun _ e => by cases e)
  refine Lex.calm (v := ?_) hb rfl (fun V hV => ?_) (fun V hV f hf => ?_) (by simp only [Act.put, List.setIfInBounds_toArray, List.set_cons_succ, List.set_cons_zero]; rfl) ?_
  rotate_left
  · go_simp
    with_reducible rfl
  · simp [Oper.about] at hf
  refine Lex.calm (v := ?_) hb rfl (fun V hV => ?_) (fun V hV f hf => ?_) (by simp only [Act.put, List.setIfInBounds_toArray, List.set_cons_succ, List.set_cons_zero]; rfl) ?_
  rotate_left
  · go_simp
    with_reducible rfl
  · simp [Oper.about] at hf
  refine Lex.calm (v := ?_) hb rfl (fun V hV => ?_) (fun V hV f hf => ?_) (by simp only [Act.put, List.setIfInBounds_toArray, List.set_cons_succ, List.set_cons_zero]; rfl) ?_
  rotate_left
  · have h0 : V.cell? ⟨W.heap.size, 0, none⟩ = some (.int .i64 log) := cell_of_row V W.heap.size 0 _ _ _ hV
    go_simp
    with_reducible rfl
  · simp [Oper.about] at hf
  refine Lex.calm (v := ?_) hb rfl (fun V hV => ?_) (fun V hV f hf => ?_) (by simp only [Act.put, List.setIfInBounds_toArray, List.set_cons_succ, List.set_cons_zero]; rfl) ?_
  rotate_left
  · go_simp
    with_reducible rfl
  · simp [Oper.about] at hf
  obtain ⟨f0, t0, a0, b0, hy0, hR0⟩ := hY [] (log, 1, 6) _ hJ0 ⟨[(th, 1, 16), (pol, 0, 2), (wt, 0, 3), (sp, 0, Cfg.most ⟨log, th, pol, wt, sp, yi, single⟩), (yi, 0, Cfg.most ⟨log, th, pol, wt, sp, yi, single⟩)], rfl⟩
  dsimp only [spanEnc] at hy0
  refine Lex.only rfl ?_
  go_simp
  refine hR0.mono ?_
  clear hR0 hy0
  rintro e V1 ⟨hk0, (⟨rfl, hJ1⟩ | ⟨rfl, hx⟩)⟩
  all_goals
    replace hb := (hk0.same W.heap.size (Nat.le_refl _) (Array.getElem?_eq_some_iff.1 hb).1).trans hb
    refine ⟨hb, ?_⟩
    clear hk0
  rotate_left
  · clear hJ0
    repeat (first
      | (refine Lex.idle hb rfl (fun V hV f hf => ?_) (by simp only [Act.put, List.setIfInBounds_toArray, List.set_cons_succ, List.set_cons_zero]; rfl) ?_
         · first
           | (have hf2 : (none : Option FuncId) = some f := hf; cases hf2)
           | (have hf2 : some 60 = some f := hf; cases hf2; exact ht))
      | (refine Lex.calm (v := ?_) hb rfl (fun V hV => ?_) (fun V hV f hf => ?_) (by simp only [Act.put, List.setIfInBounds_toArray, List.set_cons_succ, List.set_cons_zero]; rfl) ?_
         rotate_left
         · go_simp
           with_reducible rfl
         · simp [Oper.about] at hf))
    simp only [Lex]
    go_end0
    exact ⟨⟨_, rfl⟩, .inr ⟨[(log, 1, 6)], ⟨[(th, 1, 16), (pol, 0, 2), (wt, 0, 3), (sp, 0, Cfg.most ⟨log, th, pol, wt, sp, yi, single⟩), (yi, 0, Cfg.most ⟨log, th, pol, wt, sp, yi, single⟩)], rfl⟩, hx⟩⟩
  clear hJ0
  refine Lex.calm (v := ?_) hb rfl (fun V hV => ?_) (fun V hV f hf => ?_) (by simp only [Act.put, List.setIfInBounds_toArray, List.set_cons_succ, List.set_cons_zero]; rfl) ?_
  rotate_left
  · go_simp
    with_reducible rfl
  · simp [Oper.about] at hf
  refine Lex.calm (v := ?_) hb rfl (fun V hV => ?_) (fun V hV f hf => ?_) (by simp only [Act.put, List.setIfInBounds_toArray, List.set_cons_succ, List.set_cons_zero]; rfl) ?_
  rotate_left
  · go_simp
    with_reducible rfl
  · simp [Oper.about] at hf
  refine Lex.calm (v := ?_) hb rfl (fun V hV => ?_) (fun V hV f hf => ?_) (by simp only [Act.put, List.setIfInBounds_toArray, List.set_cons_succ, List.set_cons_zero]; rfl) ?_
  rotate_left
  · go_simp
    with_reducible rfl
  · simp [Oper.about] at hf
  refine Lex.calm (v := ?_) hb rfl (fun V hV => ?_) (fun V hV f hf => ?_) (by simp only [Act.put, List.setIfInBounds_toArray, List.set_cons_succ, List.set_cons_zero]; rfl) ?_
  rotate_left
  · have h0 : V.cell? ⟨W.heap.size, 1, none⟩ = some (.int .i64 th) := cell_of_row V W.heap.size 1 _ _ _ hV
    go_simp
    with_reducible rfl
  · simp [Oper.about] at hf
  refine Lex.calm (v := ?_) hb rfl (fun V hV => ?_) (fun V hV f hf => ?_) (by simp only [Act.put, List.setIfInBounds_toArray, List.set_cons_succ, List.set_cons_zero]; rfl) ?_
  rotate_left
  · go_simp
    with_reducible rfl
  · simp [Oper.about] at hf
  obtain ⟨f1, t1, a1, b1, hy1, hR1⟩ := hY [(log, 1, 6)] (th, 1, 16) _ hJ1 ⟨[(pol, 0, 2), (wt, 0, 3), (sp, 0, Cfg.most ⟨log, th, pol, wt, sp, yi, single⟩), (yi, 0, Cfg.most ⟨log, th, pol, wt, sp, yi, single⟩)], rfl⟩
  dsimp only [spanEnc] at hy1
  refine Lex.only rfl ?_
  go_simp
  refine hR1.mono ?_
  clear hR1 hy1
  rintro e V2 ⟨hk1, (⟨rfl, hJ2⟩ | ⟨rfl, hx⟩)⟩
  all_goals
    replace hb := (hk1.same W.heap.size (Nat.le_refl _) (Array.getElem?_eq_some_iff.1 hb).1).trans hb
    refine ⟨hb, ?_⟩
    clear hk1
  rotate_left
  · clear hJ1
    repeat (first
      | (refine Lex.idle hb rfl (fun V hV f hf => ?_) (by simp only [Act.put, List.setIfInBounds_toArray, List.set_cons_succ, List.set_cons_zero]; rfl) ?_
         · first
           | (have hf2 : (none : Option FuncId) = some f := hf; cases hf2)
           | (have hf2 : some 60 = some f := hf; cases hf2; exact ht))
      | (refine Lex.calm (v := ?_) hb rfl (fun V hV => ?_) (fun V hV f hf => ?_) (by simp only [Act.put, List.setIfInBounds_toArray, List.set_cons_succ, List.set_cons_zero]; rfl) ?_
         rotate_left
         · go_simp
           with_reducible rfl
         · simp [Oper.about] at hf))
    simp only [Lex]
    go_end0
    exact ⟨⟨_, rfl⟩, .inr ⟨[(log, 1, 6), (th, 1, 16)], ⟨[(pol, 0, 2), (wt, 0, 3), (sp, 0, Cfg.most ⟨log, th, pol, wt, sp, yi, single⟩), (yi, 0, Cfg.most ⟨log, th, pol, wt, sp, yi, single⟩)], rfl⟩, hx⟩⟩
  clear hJ1
  refine Lex.calm (v := ?_) hb rfl (fun V hV => ?_) (fun V hV f hf => ?_) (by simp only [Act.put, List.setIfInBounds_toArray, List.set_cons_succ, List.set_cons_zero]; rfl) ?_
  rotate_left
  · go_simp
    with_reducible rfl
  · simp [Oper.about] at hf
  refine Lex.calm (v := ?_) hb rfl (fun V hV => ?_) (fun V hV f hf => ?_) (by simp only [Act.put, List.setIfInBounds_toArray, List.set_cons_succ, List.set_cons_zero]; rfl) ?_
  rotate_left
  · go_simp
    with_reducible rfl
  · simp [Oper.about] at hf
  refine Lex.calm (v := ?_) hb rfl (fun V hV => ?_) (fun V hV f hf => ?_) (by simp only [Act.put, List.setIfInBounds_toArray, List.set_cons_succ, List.set_cons_zero]; rfl) ?_
  rotate_left
  · go_simp
    with_reducible rfl
  · simp [Oper.about] at hf
  refine Lex.calm (v := ?_) hb rfl (fun V hV => ?_) (fun V hV f hf => ?_) (by simp only [Act.put, List.setIfInBounds_toArray, List.set_cons_succ, List.set_cons_zero]; rfl) ?_
  rotate_left
  · go_simp
    with_reducible rfl
  · simp [Oper.about] at hf
  refine Lex.calm (v := ?_) hb rfl (fun V hV => ?_) (fun V hV f hf => ?_) (by simp only [Act.put, List.setIfInBounds_toArray, List.set_cons_succ, List.set_cons_zero]; rfl) ?_
  rotate_left
  · have h0 : V.cell? ⟨W.heap.size, 2, none⟩ = some (.int .i64 pol) := cell_of_row V W.heap.size 2 _ _ _ hV
    go_simp
    with_reducible rfl
  · simp [Oper.about] at hf
  refine Lex.calm (v := ?_) hb rfl (fun V hV => ?_) (fun V hV f hf => ?_) (by simp only [Act.put, List.setIfInBounds_toArray, List.set_cons_succ, List.set_cons_zero]; rfl) ?_
  rotate_left
  · go_simp
    with_reducible rfl
  · simp [Oper.about] at hf
  obtain ⟨f2, t2, a2, b2, hy2, hR2⟩ := hY [(log, 1, 6), (th, 1, 16)] (pol, 0, 2) _ hJ2 ⟨[(wt, 0, 3), (sp, 0, Cfg.most ⟨log, th, pol, wt, sp, yi, single⟩), (yi, 0, Cfg.most ⟨log, th, pol, wt, sp, yi, single⟩)], rfl⟩
  dsimp only [spanEnc] at hy2
  refine Lex.only rfl ?_
  go_simp
  refine hR2.mono ?_
  clear hR2 hy2
  rintro e V3 ⟨hk2, (⟨rfl, hJ3⟩ | ⟨rfl, hx⟩)⟩
  all_goals
    replace hb := (hk2.same W.heap.size (Nat.le_refl _) (Array.getElem?_eq_some_iff.1 hb).1).trans hb
    refine ⟨hb, ?_⟩
    clear hk2
  rotate_left
  · clear hJ2
    repeat (first
      | (refine Lex.idle hb rfl (fun V hV f hf => ?_) (by simp only [Act.put, List.setIfInBounds_toArray, List.set_cons_succ, List.set_cons_zero]; rfl) ?_
         · first
           | (have hf2 : (none : Option FuncId) = some f := hf; cases hf2)
           | (have hf2 : some 60 = some f := hf; cases hf2; exact ht))
      | (refine Lex.calm (v := ?_) hb rfl (fun V hV => ?_) (fun V hV f hf => ?_) (by simp only [Act.put, List.setIfInBounds_toArray, List.set_cons_succ, List.set_cons_zero]; rfl) ?_
         rotate_left
         · go_simp
           with_reducible rfl
         · simp [Oper.about] at hf))
    simp only [Lex]
    go_end0
    exact ⟨⟨_, rfl⟩, .inr ⟨[(log, 1, 6), (th, 1, 16), (pol, 0, 2)], ⟨[(wt, 0, 3), (sp, 0, Cfg.most ⟨log, th, pol, wt, sp, yi, single⟩), (yi, 0, Cfg.most ⟨log, th, pol, wt, sp, yi, single⟩)], rfl⟩, hx⟩⟩
  clear hJ2
  refine Lex.calm (v := ?_) hb rfl (fun V hV => ?_) (fun V hV f hf => ?_) (by simp only [Act.put, List.setIfInBounds_toArray, List.set_cons_succ, List.set_cons_zero]; rfl) ?_
  rotate_left
  · go_simp
    with_reducible rfl
  · simp [Oper.about] at hf
  refine Lex.calm (v := ?_) hb rfl (fun V hV => ?_) (fun V hV f hf => ?_) (by simp only [Act.put, List.setIfInBounds_toArray, List.set_cons_succ, List.set_cons_zero]; rfl) ?_
  rotate_left
  · go_simp
    with_reducible rfl
  · simp [Oper.about] at hf
  refine Lex.calm (v := ?_) hb rfl (fun V hV => ?_) (fun V hV f hf => ?_) (by simp only [Act.put, List.setIfInBounds_toArray, List.set_cons_succ, List.set_cons_zero]; rfl) ?_
  rotate_left
  · go_simp
    with_reducible rfl
  · simp [Oper.about] at hf
  refine Lex.calm (v := ?_) hb rfl (fun V hV => ?_) (fun V hV f hf => ?_) (by simp only [Act.put, List.setIfInBounds_toArray, List.set_cons_succ, List.set_cons_zero]; rfl) ?_
  rotate_left
  · go_simp
    with_reducible rfl
  · simp [Oper.about] at hf
  refine Lex.calm (v := ?_) hb rfl (fun V hV => ?_) (fun V hV f hf => ?_) (by simp only [Act.put, List.setIfInBounds_toArray, List.set_cons_succ, List.set_cons_zero]; rfl) ?_
  rotate_left
  · have h0 : V.cell? ⟨W.heap.size, 3, none⟩ = some (.int .i64 wt) := cell_of_row V W.heap.size 3 _ _ _ hV
    go_simp
    with_reducible rfl
  · simp [Oper.about] at hf
  refine Lex.calm (v := ?_) hb rfl (fun V hV => ?_) (fun V hV f hf => ?_) (by simp only [Act.put, List.setIfInBounds_toArray, List.set_cons_succ, List.set_cons_zero]; rfl) ?_
  rotate_left
  · go_simp
    with_reducible rfl
  · simp [Oper.about] at hf
  obtain ⟨f3, t3, a3, b3, hy3, hR3⟩ := hY [(log, 1, 6), (th, 1, 16), (pol, 0, 2)] (wt, 0, 3) _ hJ3 ⟨[(sp, 0, Cfg.most ⟨log, th, pol, wt, sp, yi, single⟩), (yi, 0, Cfg.most ⟨log, th, pol, wt, sp, yi, single⟩)], rfl⟩
  dsimp only [spanEnc] at hy3
  refine Lex.only rfl ?_
  go_simp
  refine hR3.mono ?_
  clear hR3 hy3
  rintro e V4 ⟨hk3, (⟨rfl, hJ4⟩ | ⟨rfl, hx⟩)⟩
  all_goals
    replace hb := (hk3.same W.heap.size (Nat.le_refl _) (Array.getElem?_eq_some_iff.1 hb).1).trans hb
    refine ⟨hb, ?_⟩
    clear hk3
  rotate_left
  · clear hJ3
    repeat (first
      | (refine Lex.idle hb rfl (fun V hV f hf => ?_) (by simp only [Act.put, List.setIfInBounds_toArray, List.set_cons_succ, List.set_cons_zero]; rfl) ?_
         · first
           | (have hf2 : (none : Option FuncId) = some f := hf; cases hf2)
           | (have hf2 : some 60 = some f := hf; cases hf2; exact ht))
      | (refine Lex.calm (v := ?_) hb rfl (fun V hV => ?_) (fun V hV f hf => ?_) (by simp only [Act.put, List.setIfInBounds_toArray, List.set_cons_succ, List.set_cons_zero]; rfl) ?_
         rotate_left
         · go_simp
           with_reducible rfl
         · simp [Oper.about] at hf))
    simp only [Lex]
    go_end0
    exact ⟨⟨_, rfl⟩, .inr ⟨[(log, 1, 6), (th, 1, 16), (pol, 0, 2), (wt, 0, 3)], ⟨[(sp, 0, Cfg.most ⟨log, th, pol, wt, sp, yi, single⟩), (yi, 0, Cfg.most ⟨log, th, pol, wt, sp, yi, single⟩)], rfl⟩, hx⟩⟩
  clear hJ3
  refine Lex.calm (v := ?_) hb rfl (fun V hV => ?_) (fun V hV f hf => ?_) (by simp only [Act.put, List.setIfInBounds_toArray, List.set_cons_succ, List.set_cons_zero]; rfl) ?_
  rotate_left
  · go_simp
    with_reducible rfl
  · simp [Oper.about] at hf
  refine Lex.calm (v := ?_) hb rfl (fun V hV => ?_) (fun V hV f hf => ?_) (by simp only [Act.put, List.setIfInBounds_toArray, List.set_cons_succ, List.set_cons_zero]; rfl) ?_
  rotate_left
  · go_simp
    with_reducible rfl
  · simp [Oper.about] at hf
  refine Lex.calm (v := ?_) hb rfl (fun V hV => ?_) (fun V hV f hf => ?_) (by simp only [Act.put, List.setIfInBounds_toArray, List.set_cons_succ, List.set_cons_zero]; rfl) ?_
  rotate_left
  · go_simp
    with_reducible rfl
  · simp [Oper.about] at hf
  refine Lex.calm (v := ?_) hb rfl (fun V hV => ?_) (fun V hV f hf => ?_) (by simp only [Act.put, List.setIfInBounds_toArray, List.set_cons_succ, List.set_cons_zero]; rfl) ?_
  rotate_left
  · go_simp
    with_reducible rfl
  · simp [Oper.about] at hf
  refine Lex.calm (v := ?_) hb rfl (fun V hV => ?_) (fun V hV f hf => ?_) (by simp only [Act.put, List.setIfInBounds_toArray, List.set_cons_succ, List.set_cons_zero]; rfl) ?_
  rotate_left
  · have h0 : V.cell? ⟨W.heap.size, 4, none⟩ = some (.int .i64 sp) := cell_of_row V W.heap.size 4 _ _ _ hV
    go_simp
    with_reducible rfl
  · simp [Oper.about] at hf
  refine Lex.calm (v := ?_) hb rfl (fun V hV => ?_) (fun V hV f hf => ?_) (by simp only [Act.put, List.setIfInBounds_toArray, List.set_cons_succ, List.set_cons_zero]; rfl) ?_
  rotate_left
  · have h0 := cell_of_row V W.heap.size 0 _ _ _ hV
    have h1 := cell_of_row V W.heap.size 1 _ _ _ hV
    have h2 := cell_of_row V W.heap.size 2 _ _ _ hV
    have h3 := cell_of_row V W.heap.size 3 _ _ _ hV
    have h4 := cell_of_row V W.heap.size 4 _ _ _ hV
    have h5 := cell_of_row V W.heap.size 5 _ _ _ hV
    have h6 := cell_of_row V W.heap.size 6 _ _ _ hV
    simp at h0 h1 h2 h3 h4 h5 h6
    go_simp
    with_reducible rfl
  · simp [Oper.about] at hf
  refine Lex.only rfl ?_
  go_simp
  refine (tries_in F _ ht hro ⟨log, th, pol, wt, sp, yi, single⟩ _).mono ?_
  rintro e w' ⟨rfl, rfl⟩
  replace hb := (Below.heap_alloc _ (.cells (Cfg.cells ⟨log, th, pol, wt, sp, yi, single⟩) 79) _ (Array.getElem?_eq_some_iff.1 hb).1).trans hb
  replace hJ4 := hJ _ _ _ none hJ4 (World.grownBy_alloc _ (.cells (Cfg.cells ⟨log, th, pol, wt, sp, yi, single⟩) 79) none) (fun _ e => by cases e)
  refine ⟨hb, ?_⟩
  refine Lex.calm (v := ?_) hb rfl (fun V hV => ?_) (fun V hV f hf => ?_) (by simp only [Act.put, List.setIfInBounds_toArray, List.set_cons_succ, List.set_cons_zero]; rfl) ?_
  rotate_left
  · go_simp
    with_reducible rfl
  · simp [Oper.about] at hf
  obtain ⟨f4, t4, a4, b4, hy4, hR4⟩ := hY [(log, 1, 6), (th, 1, 16), (pol, 0, 2), (wt, 0, 3)] (sp, 0, Cfg.most ⟨log, th, pol, wt, sp, yi, single⟩) _ hJ4 ⟨[(yi, 0, Cfg.most ⟨log, th, pol, wt, sp, yi, single⟩)], rfl⟩
  dsimp only [spanEnc] at hy4
  refine Lex.only rfl ?_
  go_simp
  refine hR4.mono ?_
  clear hR4 hy4
  rintro e V5 ⟨hk4, (⟨rfl, hJ5⟩ | ⟨rfl, hx⟩)⟩
  all_goals
    replace hb := (hk4.same W.heap.size (Nat.le_refl _) (Array.getElem?_eq_some_iff.1 hb).1).trans hb
    refine ⟨hb, ?_⟩
    clear hk4
  rotate_left
  · clear hJ4
    repeat (first
      | (refine Lex.idle hb rfl (fun V hV f hf => ?_) (by simp only [Act.put, List.setIfInBounds_toArray, List.set_cons_succ, List.set_cons_zero]; rfl) ?_
         · first
           | (have hf2 : (none : Option FuncId) = some f := hf; cases hf2)
           | (have hf2 : some 60 = some f := hf; cases hf2; exact ht))
      | (refine Lex.calm (v := ?_) hb rfl (fun V hV => ?_) (fun V hV f hf => ?_) (by simp only [Act.put, List.setIfInBounds_toArray, List.set_cons_succ, List.set_cons_zero]; rfl) ?_
         rotate_left
         · go_simp
           with_reducible rfl
         · simp [Oper.about] at hf))
    simp only [Lex]
    go_end0
    exact ⟨⟨_, rfl⟩, .inr ⟨[(log, 1, 6), (th, 1, 16), (pol, 0, 2), (wt, 0, 3), (sp, 0, Cfg.most ⟨log, th, pol, wt, sp, yi, single⟩)], ⟨[(yi, 0, Cfg.most ⟨log, th, pol, wt, sp, yi, single⟩)], rfl⟩, hx⟩⟩
  clear hJ4
  refine Lex.calm (v := ?_) hb rfl (fun V hV => ?_) (fun V hV f hf => ?_) (by simp only [Act.put, List.setIfInBounds_toArray, List.set_cons_succ, List.set_cons_zero]; rfl) ?_
  rotate_left
  · go_simp
    with_reducible rfl
  · simp [Oper.about] at hf
  refine Lex.calm (v := ?_) hb rfl (fun V hV => ?_) (fun V hV f hf => ?_) (by simp only [Act.put, List.setIfInBounds_toArray, List.set_cons_succ, List.set_cons_zero]; rfl) ?_
  rotate_left
  · go_simp
    with_reducible rfl
  · simp [Oper.about] at hf
  refine Lex.calm (v := ?_) hb rfl (fun V hV => ?_) (fun V hV f hf => ?_) (by simp only [Act.put, List.setIfInBounds_toArray, List.set_cons_succ, List.set_cons_zero]; rfl) ?_
  rotate_left
  · go_simp
    with_reducible rfl
  · simp [Oper.about] at hf
  refine Lex.calm (v := ?_) hb rfl (fun V hV => ?_) (fun V hV f hf => ?_) (by simp only [Act.put, List.setIfInBounds_toArray, List.set_cons_succ, List.set_cons_zero]; rfl) ?_
  rotate_left
  · go_simp
    with_reducible rfl
  · simp [Oper.about] at hf
  refine Lex.calm (v := ?_) hb rfl (fun V hV => ?_) (fun V hV f hf => ?_) (by simp only [Act.put, List.setIfInBounds_toArray, List.set_cons_succ, List.set_cons_zero]; rfl) ?_
  rotate_left
  · have h0 : V.cell? ⟨W.heap.size, 5, none⟩ = some (.int .i64 yi) := cell_of_row V W.heap.size 5 _ _ _ hV
    go_simp
    with_reducible rfl
  · simp [Oper.about] at hf
  refine Lex.calm (v := ?_) hb rfl (fun V hV => ?_) (fun V hV f hf => ?_) (by simp only [Act.put, List.setIfInBounds_toArray, List.set_cons_succ, List.set_cons_zero]; rfl) ?_
  rotate_left
  · have h0 := cell_of_row V W.heap.size 0 _ _ _ hV
    have h1 := cell_of_row V W.heap.size 1 _ _ _ hV
    have h2 := cell_of_row V W.heap.size 2 _ _ _ hV
    have h3 := cell_of_row V W.heap.size 3 _ _ _ hV
    have h4 := cell_of_row V W.heap.size 4 _ _ _ hV
    have h5 := cell_of_row V W.heap.size 5 _ _ _ hV
    have h6 := cell_of_row V W.heap.size 6 _ _ _ hV
    simp at h0 h1 h2 h3 h4 h5 h6
    go_simp
    with_reducible rfl
  · simp [Oper.about] at hf
  refine Lex.only rfl ?_
  go_simp
  refine (tries_in F _ ht hro ⟨log, th, pol, wt, sp, yi, single⟩ _).mono ?_
  rintro e w' ⟨rfl, rfl⟩
  replace hb := (Below.heap_alloc _ (.cells (Cfg.cells ⟨log, th, pol, wt, sp, yi, single⟩) 79) _ (Array.getElem?_eq_some_iff.1 hb).1).trans hb
  replace hJ5 := hJ _ _ _ none hJ5 (World.grownBy_alloc _ (.cells (Cfg.cells ⟨log, th, pol, wt, sp, yi, single⟩) 79) none) (fun _ e => by cases e)
  refine ⟨hb, ?_⟩
  refine Lex.calm (v := ?_) hb rfl (fun V hV => ?_) (fun V hV f hf => ?_) (by simp only [Act.put, List.setIfInBounds_toArray, List.set_cons_succ, List.set_cons_zero]; rfl) ?_
  rotate_left
  · go_simp
    with_reducible rfl
  · simp [Oper.about] at hf
  obtain ⟨f5, t5, a5, b5, hy5, hR5⟩ := hY [(log, 1, 6), (th, 1, 16), (pol, 0, 2), (wt, 0, 3), (sp, 0, Cfg.most ⟨log, th, pol, wt, sp, yi, single⟩)] (yi, 0, Cfg.most ⟨log, th, pol, wt, sp, yi, single⟩) _ hJ5 ⟨[], rfl⟩
  dsimp only [spanEnc] at hy5
  refine Lex.only rfl ?_
  go_simp
  refine hR5.mono ?_
  clear hR5 hy5
  rintro e V6 ⟨hk5, (⟨rfl, hJ6⟩ | ⟨rfl, hx⟩)⟩
  all_goals
    replace hb := (hk5.same W.heap.size (Nat.le_refl _) (Array.getElem?_eq_some_iff.1 hb).1).trans hb
    refine ⟨hb, ?_⟩
    clear hk5
  rotate_left
  · clear hJ5
    repeat (first
      | (refine Lex.idle hb rfl (fun V hV f hf => ?_) (by simp only [Act.put, List.setIfInBounds_toArray, List.set_cons_succ, List.set_cons_zero]; rfl) ?_
         · first
           | (have hf2 : (none : Option FuncId) = some f := hf; cases hf2)
           | (have hf2 : some 60 = some f := hf; cases hf2; exact ht))
      | (refine Lex.calm (v := ?_) hb rfl (fun V hV => ?_) (fun V hV f hf => ?_) (by simp only [Act.put, List.setIfInBounds_toArray, List.set_cons_succ, List.set_cons_zero]; rfl) ?_
         rotate_left
         · go_simp
           with_reducible rfl
         · simp [Oper.about] at hf))
    simp only [Lex]
    go_end0
    exact ⟨⟨_, rfl⟩, .inr ⟨[(log, 1, 6), (th, 1, 16), (pol, 0, 2), (wt, 0, 3), (sp, 0, Cfg.most ⟨log, th, pol, wt, sp, yi, single⟩), (yi, 0, Cfg.most ⟨log, th, pol, wt, sp, yi, single⟩)], ⟨[], rfl⟩, hx⟩⟩
  clear hJ5
  refine Lex.calm (v := ?_) hb rfl (fun V hV => ?_) (fun V hV f hf => ?_) (by simp only [Act.put, List.setIfInBounds_toArray, List.set_cons_succ, List.set_cons_zero]; rfl) ?_
  rotate_left
  · go_simp
    with_reducible rfl
  · simp [Oper.about] at hf
  simp only [Lex]
  go_end0
  exact ⟨⟨_, rfl⟩, .inl hJ6⟩

end Go.Proofs.YtnbgpopjnpdmgaaGreat

namespace Go.Proofs.YtnbgpopjnpdmgaaGreat
open Go Go.RowKit Go.Shelf
attribute [local go_sem] Oper.semAt_some

/-- A number within its bounds. -/
def within (x : Int × Int × Int) : Bool := decide (x.2.1 ≤ x.1) && decide (x.1 ≤ x.2.2)
/-- It may be. -/
def Cfg.ok (c : Cfg) : Bool := c.spans.all within
/-- Check's answer. -/
def Cfg.chk (c : Cfg) : Int := if c.ok then 0 else 20

theorem Cfg.ok_iff (c : Cfg) : c.ok = true ↔ (1 ≤ c.log ∧ c.log ≤ 6) ∧ (1 ≤ c.th ∧ c.th ≤ 16) ∧ (0 ≤ c.pol ∧ c.pol ≤ 2) ∧ (0 ≤ c.wt ∧ c.wt ≤ 3) ∧ (0 ≤ c.sp ∧ c.sp ≤ c.most) ∧ (0 ≤ c.yi ∧ c.yi ≤ c.most) := by
  simp [Cfg.ok, Cfg.spans, within]

theorem of_block {W : World} {B : Nat} {cs : Array Value} {t : TypeId} (h : W.heap[B]? = some (.cells cs t (0, 0))) (i : Nat) : W.cell? ⟨B, i, none⟩ = cs[i]? ∧ W.frozen? ⟨B, i, none⟩ = false := by
  constructor <;> simp [World.cell?, World.frozen?, h]
theorem new_cell (W : World) (v : Value) (t : TypeId) : (W.alloc (.cells #[v] t)).cell? ⟨W.heap.size, 0, none⟩ = some v ∧ (W.alloc (.cells #[v] t)).frozen? ⟨W.heap.size, 0, none⟩ = false :=
  of_block (World.alloc_heap_new W _) 0
theorem Above.alloc (B : Nat) (W : World) (o : Obj) : Above B W (W.alloc o) := ⟨by simp, fun i _ hl => Below.heap_alloc W o i hl⟩
theorem Above.setCell {B : Nat} (W : World) {p : Addr} (v : Value) (hp : p.block < B) : Above B W (W.setCell p v) :=
  ⟨(KeepsWalks.setCell W p v).size, fun i hi _ => Below.heap_setCell W p v i (by omega)⟩

/-- Between two rounds: all that came were within their bounds. -/
def CI (w : World) (pre : List (Int × Int × Int)) (W : World) : Prop :=
  ((∀ x ∈ pre, within x = true) ∧ W.cell? ⟨w.heap.size + 1, 0, none⟩ = some (.int .i64 0) ∧ W.frozen? ⟨w.heap.size + 1, 0, none⟩ = false) ∧ Below w.heap.size w W
/-- A round has left: one was not. -/
def CX (w : World) (pre : List (Int × Int × Int)) (W : World) : Prop :=
  ((∃ x ∈ pre, within x = false) ∧ W.cell? ⟨w.heap.size + 1, 0, none⟩ = some (.int .i64 20)) ∧ Below w.heap.size w W

set_option maxRecDepth 100000 in
set_option maxHeartbeats 2000000 in
theorem check_any (c : Cfg) (w : World) : Calls Tryz.prog 14 #[c.val] w fun e w' => e = .returned (.int .i64 c.chk) ∧ Below w.heap.size w w' := by
  obtain ⟨log, th, pol, wt, sp, yi, single⟩ := c
  refine (callsIn_wide (n := 3)).1 ?_
  refine callsIn_of_wp_marks Tryz.func14 rfl trivial ?_ rfl
  simp only [Tryz.ntmps14, List.size_toArray, List.length_cons, List.length_nil, Nat.reduceAdd, Nat.reduceSub, Array.replicate_succ, Array.replicate_zero, List.push_toArray, List.append_toArray, List.nil_append, List.cons_append]
  gi_wp2
  let W0 := (w.alloc (.cells (Cfg.cells ⟨log, th, pol, wt, sp, yi, single⟩) 23)).alloc (.cells #[.int .i64 0] 37)
  have hs0 : W0.heap.size = w.heap.size + 2 := by simp [W0]
  have hB0 : Below w.heap.size w W0 := ((Below.refl _ w).alloc (Nat.le_refl _) _).alloc (by simp) _
  have hc0 : W0.cell? ⟨w.heap.size + 1, 0, none⟩ = some (.int .i64 0) := by
    have h := (new_cell (w.alloc (.cells (Cfg.cells ⟨log, th, pol, wt, sp, yi, single⟩) 23)) (.int .i64 0) 37).1
    rwa [World.size_alloc] at h
  have hf0 : W0.frozen? ⟨w.heap.size + 1, 0, none⟩ = false := by
    have h := (new_cell (w.alloc (.cells (Cfg.cells ⟨log, th, pol, wt, sp, yi, single⟩) 23)) (.int .i64 0) 37).2
    rwa [World.size_alloc] at h
  let mk : Nat → Int × Int × Int → Act := fun g x =>
    { tmps := #[Cfg.val ⟨log, th, pol, wt, sp, yi, single⟩, .pointer (some ⟨w.heap.size, 0, none⟩), .pointer (some ⟨w.heap.size + 1, 0, none⟩),
        .func (.func 33) #[Cfg.val ⟨log, th, pol, wt, sp, yi, single⟩] #[], .int .i64 x.1, .pointer (some ⟨g, 0, none⟩), Cfg.val ⟨log, th, pol, wt, sp, yi, single⟩,
        .func (.func 33) #[Cfg.val ⟨log, th, pol, wt, sp, yi, single⟩] #[], .func (.func 33) #[Cfg.val ⟨log, th, pol, wt, sp, yi, single⟩] #[],
        .int .i64 x.1, .agg #[.int .i64 x.2.1, .int .i64 x.2.2], undef, undef, undef, undef, undef, undef, undef, undef, undef, undef], defers := [] }
  refine wpIn_range_hands (gf := 33) (fst := #[Cfg.val ⟨log, th, pol, wt, sp, yi, single⟩]) (encs := spanEnc) (xs := Cfg.spans ⟨log, th, pol, wt, sp, yi, single⟩) rfl (by omega) rfl trivial (enters_of Tryz.func33 (by kernel_rfl) rfl)
    (bounds_hands Fence.wide _ trivial trivial rfl (by omega) _) (fun _ => rfl)
    (CI w) (CX w)
    (fun p W => (((∀ x ∈ p.1, within x = true) ∧ W.cell? ⟨w.heap.size + 1, 0, none⟩ = some (.int .i64 0) ∧ W.frozen? ⟨w.heap.size + 1, 0, none⟩ = false) ∧
      ∃ g, w.heap.size + 1 < g ∧ W.cell? ⟨g, 0, none⟩ = some (.int .i64 p.2.1.2.1) ∧ W.cell? ⟨g, 1, none⟩ = some (.int .i64 p.2.1.2.2) ∧ p.2.2 = mk g p.2.1) ∧ Below w.heap.size w W)
    ?hI ?hIx ?hA ?h0 ?assign ?body ?done ?stop
  case hI => exact OwnFrom.and (Own.from (fun s A B row hs hg hr => ⟨hs.1, cell_kept hs.2.1 hg hr, (frozen_kept hs.2.1 hg hr).trans hs.2.2⟩) _) (ownFrom_below (Nat.le_refl _) (by simp; omega))
  case hIx => exact OwnFrom.and (Own.from (fun s A B row hs hg hr => ⟨hs.1, cell_kept hs.2 hg hr⟩) _) (ownFrom_below (Nat.le_refl _) (by simp; omega))
  case hA =>
    refine OwnFrom.and (Own.from (fun s A B row hs hg hr => ?_) _) (ownFrom_below (Nat.le_refl _) (by simp; omega))
    obtain ⟨⟨h1, h2, h3⟩, g, hg1, hg2, hg3, hg4⟩ := hs
    exact ⟨⟨h1, cell_kept h2 hg hr, (frozen_kept h2 hg hr).trans h3⟩, g, hg1, cell_kept hg2 hg hr, cell_kept hg3 hg hr, hg4⟩
  case h0 => exact ⟨⟨(fun x hx => by cases hx), hc0, hf0⟩, hB0⟩
  case assign =>
    rintro l pre ⟨n, lo, hi⟩ W ⟨⟨h1, h2, h3⟩, hB⟩ hp hsz
    change W0.heap.size + 2 ≤ W.heap.size at hsz
    have hlt : w.heap.size + 1 < W.heap.size := by omega
    gi_wp2
    have hn := World.alloc_heap_new W (.cells #[.int .i64 lo, .int .i64 hi] 80)
    exact ⟨KeepsOthers.alloc _ _, Above.alloc _ _ _, ⟨⟨h1, by rw [World.cell?_alloc_lt W _ _ hlt]; exact h2, (frozen_kept h2 (World.grownBy_alloc W _ none) (fun r e => by cases e)).trans h3⟩, W.heap.size, hlt, (of_block hn 0).1, (of_block hn 1).1, rfl⟩, hB.alloc (by omega) _⟩
  case body =>
    rintro l pre ⟨n, lo, hi⟩ b W ⟨⟨⟨h1, h2, h3⟩, g, hg1, hg2, hg3, hb⟩, hB⟩ hp
    dsimp only at h1 hg2 hg3 hb
    subst hb
    simp only [mk]
    have go_on : within (n, lo, hi) = true → ∀ x ∈ pre ++ [(n, lo, hi)], within x = true := fun hw x hx => (List.mem_append.1 hx).elim (h1 x) (fun e => by simp at e; subst e; exact hw)
    have stop : within (n, lo, hi) = false → ∃ x ∈ pre ++ [(n, lo, hi)], within x = false := fun hw => ⟨_, List.mem_append.2 (.inr (by simp)), hw⟩
    have left : within (n, lo, hi) = false → KeepsOthers W (W.setCell ⟨w.heap.size + 1, 0, none⟩ (.int .i64 20)) ∧ Above (W0.heap.size + 2) W (W.setCell ⟨w.heap.size + 1, 0, none⟩ (.int .i64 20)) ∧
        CX w (pre ++ [(n, lo, hi)]) (W.setCell ⟨w.heap.size + 1, 0, none⟩ (.int .i64 20)) := fun hw =>
      ⟨KeepsOthers.setCell _ _ _, Above.setCell _ _ (by simp; omega), ⟨stop hw, World.cell?_setCell_same' _ _ _ (by rw [h2]; rfl)⟩, hB.setCell (p := ⟨w.heap.size + 1, 0, none⟩) (by simp) _⟩
    have hfin : within (n, lo, hi) = true → KeepsOthers W W ∧ Above (W0.heap.size + 2) W W ∧ CI w (pre ++ [(n, lo, hi)]) W :=
      fun hw => ⟨KeepsOthers.refl _, Above.refl _ _, ⟨go_on hw, h2, h3⟩, hB⟩
    clear hB0 hc0 hf0 go_on stop
    by_cases ha : n < lo
    · have L := left (by simp [within]; omega)
      clear left hfin
      gi_wp2
      exact L
    · by_cases hc : hi < n
      · have L := left (by simp [within]; omega)
        rw [hs0] at L
        clear left hfin hs0
        gi_wp2
        exact L
      · have L := hfin (by simp [within]; omega)
        rw [hs0] at L
        clear left hfin hs0
        gi_wp2
        exact L
  case done =>
    rintro D W hD ⟨⟨hall, hc, hf⟩, hB⟩ hK
    have hv : Cfg.chk ⟨log, th, pol, wt, sp, yi, single⟩ = 0 := by
      have : Cfg.ok ⟨log, th, pol, wt, sp, yi, single⟩ = true := List.all_eq_true.2 hall
      simp [Cfg.chk, this]
    clear hB0 hc0 hf0 hs0
    gi_wp2
    have hK' := (KeepsOthers.setCell W ⟨w.heap.size + 1, 0, none⟩ (.int .i64 0)).same D _ hK rfl
    refine ⟨by simp, .inl ⟨_, _, rfl, run_takeDeferred hK', ?_⟩⟩
    have hc5 := cell_kept (World.cell?_setCell_same' W ⟨w.heap.size + 1, 0, none⟩ (.int .i64 0) (by rw [hc]; rfl)) (grownBy_putObj' _ D (.deferred none)) (fun r e => by cases e; exact ⟨_, hK', rfl⟩)
    refine ⟨.int .i64 0, ?_, by rw [hv], (hB.setCell (p := ⟨w.heap.size + 1, 0, none⟩) (by simp) _).trans (belowK_b (w := w) (Nat.le_refl _) _ D _ _ (by simp at hD; omega) hK' rfl rfl)⟩
    simp [results, Tryz.f14, go_sem, hc5]
  case stop =>
    rintro D pre W hD hpre ⟨⟨⟨x, hx, hw⟩, hc⟩, hB⟩ hK
    have hv : Cfg.chk ⟨log, th, pol, wt, sp, yi, single⟩ = 20 := by
      have : Cfg.ok ⟨log, th, pol, wt, sp, yi, single⟩ = false := by
        rw [Cfg.ok, List.all_eq_false]
        exact ⟨x, hpre.subset hx, by simp [hw]⟩
      simp [Cfg.chk, this]
    clear hB0 hc0 hf0 hs0
    gi_wp2
    refine ⟨by simp, .inl ⟨_, _, rfl, run_takeDeferred hK, ?_⟩⟩
    have hc5 := cell_kept hc (grownBy_putObj' _ D (.deferred none)) (fun r e => by cases e; exact ⟨_, hK, rfl⟩)
    refine ⟨.int .i64 20, ?_, by rw [hv], hB.trans (belowK_b (w := w) (Nat.le_refl _) W D _ _ (by simp at hD; omega) hK rfl rfl)⟩
    simp [results, Tryz.f14, go_sem, hc5]

end Go.Proofs.YtnbgpopjnpdmgaaGreat
