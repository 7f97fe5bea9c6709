/-
  ConfTries, for every configuration: the law's Go function returns true, and the argument reads afterwards as it read before. No condition beside those that the given statement itself bears.
-/
import Derived.Test.YtolkmpfnomeklaaRows
import Derived.Test.YtolkmpfnomeklaaOpen
import Derived.Test.YtolkmpfnomeklaaOrd
namespace Go.Proofs.Ytolkmpfnomeklaa
open Go Go.ChangeShapes Go.WideShapes Go.ChangeAt Go.RowKit

/-- Two boxes of the call's own. -/
def Two (w : World) (B1 B2 : Nat) (c d : Cfg) (t : TypeId) (W : World) : Prop :=
  W.heap[B1]? = some (.cells c.cells t (0, 0)) ∧ W.heap[B2]? = some (.cells d.cells t (0, 0)) ∧ Below w.heap.size w W
theorem Two.on {w : World} {B1 B2 : Nat} {c d : Cfg} {t : TypeId} {W V : World} (h : Two w B1 B2 c d t W) (hb : Below W.heap.size W V) : Two w B1 B2 c d t V :=
  ⟨(hb.block _ (Array.getElem?_eq_some_iff.1 h.1).1).trans h.1, (hb.block _ (Array.getElem?_eq_some_iff.1 h.2.1).1).trans h.2.1, h.2.2.trans (hb.mono h.2.2.size)⟩

/-- What the region's loads read. -/
def SeeTwo (w : World) (B1 B2 : Nat) (c d : Cfg) (t : TypeId) (W : World) : Prop :=
  (W.cell? ⟨B1, 0, none⟩ = some (.int .i64 c.log) ∧ W.cell? ⟨B1, 1, none⟩ = some (.int .i64 c.th) ∧ W.cell? ⟨B1, 2, none⟩ = some (.int .i64 c.pol) ∧ W.cell? ⟨B1, 3, none⟩ = some (.int .i64 c.wt) ∧
    W.cell? ⟨B1, 4, none⟩ = some (.int .i64 c.sp) ∧ W.cell? ⟨B1, 5, none⟩ = some (.int .i64 c.yi) ∧ W.cell? ⟨B1, 6, none⟩ = some (.bool c.single)) ∧
  (W.cell? ⟨B2, 0, none⟩ = some (.int .i64 d.log) ∧ W.cell? ⟨B2, 1, none⟩ = some (.int .i64 d.th) ∧ W.cell? ⟨B2, 2, none⟩ = some (.int .i64 d.pol) ∧ W.cell? ⟨B2, 3, none⟩ = some (.int .i64 d.wt) ∧
    W.cell? ⟨B2, 4, none⟩ = some (.int .i64 d.sp) ∧ W.cell? ⟨B2, 5, none⟩ = some (.int .i64 d.yi) ∧ W.cell? ⟨B2, 6, none⟩ = some (.bool d.single)) ∧ Two w B1 B2 c d t W
theorem Two.see {w : World} {B1 B2 : Nat} {c d : Cfg} {t : TypeId} {W : World} (h : Two w B1 B2 c d t W) : SeeTwo w B1 B2 c d t W := ⟨cells7 h.1, cells7 h.2.1, h⟩
theorem SeeTwo.on {w : World} {B1 B2 : Nat} {c d : Cfg} {t : TypeId} {W V : World} (h : SeeTwo w B1 B2 c d t W) (hb : Below W.heap.size W V) : SeeTwo w B1 B2 c d t V := (h.2.2.on hb).see

set_option maxRecDepth 100000 in
set_option maxHeartbeats 4000000 in
theorem confTries_no (c : Cfg) (w : World) (h : c.ok = false) : Calls Try.prog 6 #[c.val] w fun e w' => e = .returned (.bool true) ∧ Below w.heap.size w w' := by
  have hp : c.parks = false := by simp [Cfg.parks, h]
  have ht : c.tries = 0 := by simp [Cfg.tries, hp]
  obtain ⟨log, th, pol, wt, sp, yi, single⟩ := c
  have C1 := fun W => tries_at 0 _ W ht
  have C2 := fun W => tries_at 0 ⟨log, th, pol, wt, 0, 0, single⟩ W (by simp [Cfg.tries])
  have C3 := fun W => check_no _ W h
  clear h ht hp
  go_enter Try.func6, Try.ntmps6
  go_wp2_with fail
  refine (awake_any _).mono ?_
  rintro e w1 ⟨rfl, hb⟩
  rw [World.size_alloc] at hb
  have hx := box_kept ⟨log, th, pol, wt, sp, yi, single⟩ hb
  have hB := below_box hb
  clear hb
  obtain ⟨c0, c1, c2, c3, c4, c5, c6⟩ := cells7 hx
  go_wp2_with fail
  refine (C1 _).mono ?_
  rintro e w2 ⟨rfl, hb⟩
  clear C1 c0 c1 c2 c3 c4 c5 c6
  replace hx := (hb.block _ (Array.getElem?_eq_some_iff.1 hx).1).trans hx
  replace hB := hB.trans (hb.mono hB.size)
  clear hb
  obtain ⟨c0, c1, c2, c3, c4, c5, c6⟩ := cells7 hx
  have hlt := (Array.getElem?_eq_some_iff.1 hx).1
  go_wp2
  have hS : Two w w.heap.size w2.heap.size ⟨log, th, pol, wt, sp, yi, single⟩ ⟨log, th, pol, wt, 0, 0, single⟩ 23 (w2.alloc (.cells (Cfg.cells ⟨log, th, pol, wt, 0, 0, single⟩) 23)).drew :=
    ⟨(Below.heap_alloc _ _ _ hlt).trans hx, World.alloc_heap_new w2 _, (hB.alloc hB.size _).drew⟩
  clear hx hB c0 c1 c2 c3 c4 c5 c6 hlt
  refine wp_region_ord (S := Two w w.heap.size w2.heap.size ⟨log, th, pol, wt, sp, yi, single⟩ ⟨log, th, pol, wt, 0, 0, single⟩ 23) (by kernel_rfl)
    [(true, 0), (true, 1), (true, 2), (true, 3), (true, 4), (true, 5), (true, 6), (true, 7), (true, 8), (true, 9), (true, 10), (true, 11), (true, 12), (true, 13), (true, 14), (true, 15), (true, 16), (true, 17), (false, 18), (true, 19), (true, 20), (true, 21), (true, 22), (true, 23), (false, 24), (true, 25), (true, 26), (true, 27), (true, 28), (false, 29), (true, 30), (true, 31), (true, 32), (true, 34), (false, 33), (false, 35), (true, 36), (true, 37), (true, 38), (true, 39)]
    (by kernel_rfl) (by kernel_rfl) (by kernel_rfl) (fun _ _ d _ _ h => by cases d <;> exact h) ?_
  simp only [inOrder, List.getElem?_cons_succ, List.getElem?_cons_zero, List.nil_append, List.cons_append]
  repeat (first
    | (refine Ord.idle hS rfl (fun V hV f hf => ?_) (by simp only [Act.put, List.setIfInBounds_toArray, List.set_cons_succ, List.set_cons_zero]; rfl) ?_
       · trivial)
    | (refine Ord.calm (v := ?_) hS rfl (fun V hV => ?_) (fun V hV f hf => ?_) (by simp only [Act.put, List.setIfInBounds_toArray, List.set_cons_succ, List.set_cons_zero]; rfl) ?_
       rotate_left
       · first
         | (go_simp; with_reducible rfl)
         | (obtain ⟨⟨a0, a1, a2, a3, a4, a5, a6⟩, ⟨b0, b1, b2, b3, b4, b5, b6⟩, _⟩ := Two.see hV; go_simp; with_reducible rfl)
       · trivial))
  refine Ord.only rfl ?_
  go_simp
  refine ⟨trivial, rfl, (callsIn_wide.2 (C2 _)).mono ?_⟩
  rintro e w3 ⟨rfl, hb⟩
  replace hS := hS.on hb
  refine ⟨hS, ?_⟩
  clear hb
  repeat (first
    | (refine Ord.idle hS rfl (fun V hV f hf => ?_) (by simp only [Act.put, List.setIfInBounds_toArray, List.set_cons_succ, List.set_cons_zero]; rfl) ?_
       · trivial)
    | (refine Ord.calm (v := ?_) hS rfl (fun V hV => ?_) (fun V hV f hf => ?_) (by simp only [Act.put, List.setIfInBounds_toArray, List.set_cons_succ, List.set_cons_zero]; rfl) ?_
       rotate_left
       · first
         | (go_simp; with_reducible rfl)
         | (obtain ⟨⟨a0, a1, a2, a3, a4, a5, a6⟩, ⟨b0, b1, b2, b3, b4, b5, b6⟩, _⟩ := Two.see hV; go_simp; with_reducible rfl)
       · trivial))
  refine Ord.only rfl ?_
  go_simp
  refine ⟨trivial, rfl, (callsIn_wide.2 (C3 _)).mono ?_⟩
  rintro e w4 ⟨rfl, hb⟩
  replace hS := hS.on hb
  refine ⟨hS, ?_⟩
  clear hb
  repeat (first
    | (refine Ord.idle hS rfl (fun V hV f hf => ?_) (by simp only [Act.put, List.setIfInBounds_toArray, List.set_cons_succ, List.set_cons_zero]; rfl) ?_
       · trivial)
    | (refine Ord.calm (v := ?_) hS rfl (fun V hV => ?_) (fun V hV f hf => ?_) (by simp only [Act.put, List.setIfInBounds_toArray, List.set_cons_succ, List.set_cons_zero]; rfl) ?_
       rotate_left
       · first
         | (go_simp; with_reducible rfl)
         | (obtain ⟨⟨a0, a1, a2, a3, a4, a5, a6⟩, ⟨b0, b1, b2, b3, b4, b5, b6⟩, _⟩ := Two.see hV; go_simp; with_reducible rfl)
       · trivial))
  simp only [Ord, Exit.then]
  have hB := hS.2.2
  clear hS C2 C3
  go_wp2
  go_ret
  exact ⟨rfl, hB⟩

/-- A bare one may be as well, and parks just if it did. -/
theorem bare_ok (c : Cfg) (h : c.ok = true) : Cfg.ok { c with sp := 0, yi := 0 } = true := by
  have h1 := (Cfg.ok_iff c).1 h
  have hm : 0 ≤ c.most := by unfold Cfg.most; split <;> omega
  exact (Cfg.ok_iff _).2 ⟨h1.1, h1.2.1, h1.2.2.1, h1.2.2.2.1, ⟨Int.le_refl _, hm⟩, ⟨Int.le_refl _, hm⟩⟩
theorem bare_parks (c : Cfg) (h : c.ok = true) : Cfg.parks { c with sp := 0, yi := 0 } = c.parks := by
  rw [Cfg.parks_of (bare_ok c h), Cfg.parks_of h]

set_option maxRecDepth 100000 in
set_option maxHeartbeats 4000000 in
theorem confTries_still (c : Cfg) (w : World) (h : c.ok = true) (hp : c.parks = false) (ht : c.tries = 0) : Calls Try.prog 6 #[c.val] w fun e w' => e = .returned (.bool true) ∧ Below w.heap.size w w' := by
  have hq := (bare_parks c h).trans hp
  obtain ⟨log, th, pol, wt, sp, yi, single⟩ := c
  have C1 := fun W => tries_at 0 _ W ht
  have C2 := fun W => tries_at 0 ⟨log, th, pol, wt, 0, 0, single⟩ W (by simp [Cfg.tries])
  have C3 := fun W => check_ok _ W h
  have C4 := fun W => parks_not ⟨log, th, pol, wt, 0, 0, single⟩ W hq
  have C5 := fun W => parks_not _ W hp
  clear h ht hp hq
  go_enter Try.func6, Try.ntmps6
  go_wp2_with fail
  refine (awake_any _).mono ?_
  rintro e w1 ⟨rfl, hb⟩
  rw [World.size_alloc] at hb
  have hx := box_kept ⟨log, th, pol, wt, sp, yi, single⟩ hb
  have hB := below_box hb
  clear hb
  obtain ⟨c0, c1, c2, c3, c4, c5, c6⟩ := cells7 hx
  go_wp2_with fail
  refine (C1 _).mono ?_
  rintro e w2 ⟨rfl, hb⟩
  clear C1 c0 c1 c2 c3 c4 c5 c6
  replace hx := (hb.block _ (Array.getElem?_eq_some_iff.1 hx).1).trans hx
  replace hB := hB.trans (hb.mono hB.size)
  clear hb
  obtain ⟨c0, c1, c2, c3, c4, c5, c6⟩ := cells7 hx
  have hlt := (Array.getElem?_eq_some_iff.1 hx).1
  go_wp2
  have hS : Two w w.heap.size w2.heap.size ⟨log, th, pol, wt, sp, yi, single⟩ ⟨log, th, pol, wt, 0, 0, single⟩ 23 (w2.alloc (.cells (Cfg.cells ⟨log, th, pol, wt, 0, 0, single⟩) 23)).drew :=
    ⟨(Below.heap_alloc _ _ _ hlt).trans hx, World.alloc_heap_new w2 _, (hB.alloc hB.size _).drew⟩
  clear hx hB c0 c1 c2 c3 c4 c5 c6 hlt
  refine wp_region_ord (S := Two w w.heap.size w2.heap.size ⟨log, th, pol, wt, sp, yi, single⟩ ⟨log, th, pol, wt, 0, 0, single⟩ 23) (by kernel_rfl)
    [(true, 0), (true, 1), (true, 2), (true, 3), (true, 4), (true, 5), (true, 6), (true, 7), (true, 8), (true, 9), (true, 10), (true, 11), (true, 12), (true, 13), (true, 14), (true, 15), (true, 16), (true, 17), (false, 18), (true, 19), (true, 20), (true, 21), (true, 22), (true, 23), (false, 24), (true, 25), (true, 26), (true, 27), (true, 28), (false, 29), (true, 30), (true, 31), (true, 32), (true, 34), (false, 33), (false, 35), (true, 36), (true, 37), (true, 38), (true, 39)]
    (by kernel_rfl) (by kernel_rfl) (by kernel_rfl) (fun _ _ d _ _ h => by cases d <;> exact h) ?_
  simp only [inOrder, List.getElem?_cons_succ, List.getElem?_cons_zero, List.nil_append, List.cons_append]
  repeat (first
    | (refine Ord.idle hS rfl (fun V hV f hf => ?_) (by simp only [Act.put, List.setIfInBounds_toArray, List.set_cons_succ, List.set_cons_zero]; rfl) ?_
       · trivial)
    | (refine Ord.calm (v := ?_) hS rfl (fun V hV => ?_) (fun V hV f hf => ?_) (by simp only [Act.put, List.setIfInBounds_toArray, List.set_cons_succ, List.set_cons_zero]; rfl) ?_
       rotate_left
       · first
         | (go_simp; with_reducible rfl)
         | (obtain ⟨⟨a0, a1, a2, a3, a4, a5, a6⟩, ⟨b0, b1, b2, b3, b4, b5, b6⟩, _⟩ := Two.see hV; go_simp; with_reducible rfl)
       · trivial))
  refine Ord.only rfl ?_
  go_simp
  refine ⟨trivial, rfl, (callsIn_wide.2 (C2 _)).mono ?_⟩
  rintro e w3 ⟨rfl, hb⟩
  replace hS := hS.on hb
  refine ⟨hS, ?_⟩
  clear hb
  repeat (first
    | (refine Ord.idle hS rfl (fun V hV f hf => ?_) (by simp only [Act.put, List.setIfInBounds_toArray, List.set_cons_succ, List.set_cons_zero]; rfl) ?_
       · trivial)
    | (refine Ord.calm (v := ?_) hS rfl (fun V hV => ?_) (fun V hV f hf => ?_) (by simp only [Act.put, List.setIfInBounds_toArray, List.set_cons_succ, List.set_cons_zero]; rfl) ?_
       rotate_left
       · first
         | (go_simp; with_reducible rfl)
         | (obtain ⟨⟨a0, a1, a2, a3, a4, a5, a6⟩, ⟨b0, b1, b2, b3, b4, b5, b6⟩, _⟩ := Two.see hV; go_simp; with_reducible rfl)
       · trivial))
  refine Ord.only rfl ?_
  go_simp
  refine ⟨trivial, rfl, (callsIn_wide.2 (C3 _)).mono ?_⟩
  rintro e w4 ⟨rfl, hb⟩
  replace hS := hS.on hb
  refine ⟨hS, ?_⟩
  clear hb
  repeat (first
    | (refine Ord.idle hS rfl (fun V hV f hf => ?_) (by simp only [Act.put, List.setIfInBounds_toArray, List.set_cons_succ, List.set_cons_zero]; rfl) ?_
       · trivial)
    | (refine Ord.calm (v := ?_) hS rfl (fun V hV => ?_) (fun V hV f hf => ?_) (by simp only [Act.put, List.setIfInBounds_toArray, List.set_cons_succ, List.set_cons_zero]; rfl) ?_
       rotate_left
       · first
         | (go_simp; with_reducible rfl)
         | (obtain ⟨⟨a0, a1, a2, a3, a4, a5, a6⟩, ⟨b0, b1, b2, b3, b4, b5, b6⟩, _⟩ := Two.see hV; go_simp; with_reducible rfl)
       · trivial))
  refine Ord.only rfl ?_
  go_simp
  refine ⟨trivial, rfl, (callsIn_wide.2 (C4 _)).mono ?_⟩
  rintro e w5 ⟨rfl, hb⟩
  replace hS := hS.on hb
  refine ⟨hS, ?_⟩
  clear hb
  refine Ord.only rfl ?_
  go_simp
  refine ⟨trivial, rfl, (callsIn_wide.2 (C5 _)).mono ?_⟩
  rintro e w6 ⟨rfl, hb⟩
  replace hS := hS.on hb
  refine ⟨hS, ?_⟩
  clear hb
  repeat (first
    | (refine Ord.calm (v := ?_) hS rfl (fun V hV => ?_) (fun V hV f hf => ?_) (by simp only [Act.put, List.setIfInBounds_toArray, List.set_cons_succ, List.set_cons_zero]; rfl) ?_
       rotate_left
       · first
         | (go_simp; with_reducible rfl)
         | (obtain ⟨⟨a0, a1, a2, a3, a4, a5, a6⟩, ⟨b0, b1, b2, b3, b4, b5, b6⟩, _⟩ := Two.see hV; go_simp; with_reducible rfl)
       · trivial))
  simp only [Ord, Exit.then]
  have hB := hS.2.2
  clear hS C2 C3 C4 C5
  go_wp2
  go_ret
  exact ⟨rfl, hB⟩

set_option maxRecDepth 100000 in
set_option maxHeartbeats 4000000 in
theorem confTries_bare (c : Cfg) (w : World) (h : c.ok = true) (hp : c.parks = true) (ht : c.tries = 0) : Calls Try.prog 6 #[c.val] w fun e w' => e = .returned (.bool true) ∧ Below w.heap.size w w' := by
  have hq := (bare_parks c h).trans hp
  obtain ⟨log, th, pol, wt, sp, yi, single⟩ := c
  have C1 := fun W => tries_at 0 _ W ht
  have C2 := fun W => tries_at 0 ⟨log, th, pol, wt, 0, 0, single⟩ W (by simp [Cfg.tries])
  have C3 := fun W => check_ok _ W h
  have C4 := fun W => parks_yes ⟨log, th, pol, wt, 0, 0, single⟩ W hq
  have C5 := fun W => parks_yes _ W hp
  clear h ht hp hq
  go_enter Try.func6, Try.ntmps6
  go_wp2_with fail
  refine (awake_any _).mono ?_
  rintro e w1 ⟨rfl, hb⟩
  rw [World.size_alloc] at hb
  have hx := box_kept ⟨log, th, pol, wt, sp, yi, single⟩ hb
  have hB := below_box hb
  clear hb
  obtain ⟨c0, c1, c2, c3, c4, c5, c6⟩ := cells7 hx
  go_wp2_with fail
  refine (C1 _).mono ?_
  rintro e w2 ⟨rfl, hb⟩
  clear C1 c0 c1 c2 c3 c4 c5 c6
  replace hx := (hb.block _ (Array.getElem?_eq_some_iff.1 hx).1).trans hx
  replace hB := hB.trans (hb.mono hB.size)
  clear hb
  obtain ⟨c0, c1, c2, c3, c4, c5, c6⟩ := cells7 hx
  have hlt := (Array.getElem?_eq_some_iff.1 hx).1
  go_wp2
  have hS : Two w w.heap.size w2.heap.size ⟨log, th, pol, wt, sp, yi, single⟩ ⟨log, th, pol, wt, 0, 0, single⟩ 23 (w2.alloc (.cells (Cfg.cells ⟨log, th, pol, wt, 0, 0, single⟩) 23)).drew :=
    ⟨(Below.heap_alloc _ _ _ hlt).trans hx, World.alloc_heap_new w2 _, (hB.alloc hB.size _).drew⟩
  clear hx hB c0 c1 c2 c3 c4 c5 c6 hlt
  refine wp_region_ord (S := Two w w.heap.size w2.heap.size ⟨log, th, pol, wt, sp, yi, single⟩ ⟨log, th, pol, wt, 0, 0, single⟩ 23) (by kernel_rfl)
    [(true, 0), (true, 1), (true, 2), (true, 3), (true, 4), (true, 5), (true, 6), (true, 7), (true, 8), (true, 9), (true, 10), (true, 11), (true, 12), (true, 13), (true, 14), (true, 15), (true, 16), (true, 17), (false, 18), (true, 19), (true, 20), (true, 21), (true, 22), (true, 23), (false, 24), (true, 25), (true, 26), (true, 27), (true, 28), (false, 29), (true, 30), (true, 31), (true, 32), (true, 34), (false, 33), (false, 35), (true, 36), (true, 37), (true, 38), (true, 39)]
    (by kernel_rfl) (by kernel_rfl) (by kernel_rfl) (fun _ _ d _ _ h => by cases d <;> exact h) ?_
  simp only [inOrder, List.getElem?_cons_succ, List.getElem?_cons_zero, List.nil_append, List.cons_append]
  repeat (first
    | (refine Ord.idle hS rfl (fun V hV f hf => ?_) (by simp only [Act.put, List.setIfInBounds_toArray, List.set_cons_succ, List.set_cons_zero]; rfl) ?_
       · trivial)
    | (refine Ord.calm (v := ?_) hS rfl (fun V hV => ?_) (fun V hV f hf => ?_) (by simp only [Act.put, List.setIfInBounds_toArray, List.set_cons_succ, List.set_cons_zero]; rfl) ?_
       rotate_left
       · first
         | (go_simp; with_reducible rfl)
         | (obtain ⟨⟨a0, a1, a2, a3, a4, a5, a6⟩, ⟨b0, b1, b2, b3, b4, b5, b6⟩, _⟩ := Two.see hV; go_simp; with_reducible rfl)
       · trivial))
  refine Ord.only rfl ?_
  go_simp
  refine ⟨trivial, rfl, (callsIn_wide.2 (C2 _)).mono ?_⟩
  rintro e w3 ⟨rfl, hb⟩
  replace hS := hS.on hb
  refine ⟨hS, ?_⟩
  clear hb
  repeat (first
    | (refine Ord.idle hS rfl (fun V hV f hf => ?_) (by simp only [Act.put, List.setIfInBounds_toArray, List.set_cons_succ, List.set_cons_zero]; rfl) ?_
       · trivial)
    | (refine Ord.calm (v := ?_) hS rfl (fun V hV => ?_) (fun V hV f hf => ?_) (by simp only [Act.put, List.setIfInBounds_toArray, List.set_cons_succ, List.set_cons_zero]; rfl) ?_
       rotate_left
       · first
         | (go_simp; with_reducible rfl)
         | (obtain ⟨⟨a0, a1, a2, a3, a4, a5, a6⟩, ⟨b0, b1, b2, b3, b4, b5, b6⟩, _⟩ := Two.see hV; go_simp; with_reducible rfl)
       · trivial))
  refine Ord.only rfl ?_
  go_simp
  refine ⟨trivial, rfl, (callsIn_wide.2 (C3 _)).mono ?_⟩
  rintro e w4 ⟨rfl, hb⟩
  replace hS := hS.on hb
  refine ⟨hS, ?_⟩
  clear hb
  repeat (first
    | (refine Ord.idle hS rfl (fun V hV f hf => ?_) (by simp only [Act.put, List.setIfInBounds_toArray, List.set_cons_succ, List.set_cons_zero]; rfl) ?_
       · trivial)
    | (refine Ord.calm (v := ?_) hS rfl (fun V hV => ?_) (fun V hV f hf => ?_) (by simp only [Act.put, List.setIfInBounds_toArray, List.set_cons_succ, List.set_cons_zero]; rfl) ?_
       rotate_left
       · first
         | (go_simp; with_reducible rfl)
         | (obtain ⟨⟨a0, a1, a2, a3, a4, a5, a6⟩, ⟨b0, b1, b2, b3, b4, b5, b6⟩, _⟩ := Two.see hV; go_simp; with_reducible rfl)
       · trivial))
  refine Ord.only rfl ?_
  go_simp
  refine ⟨trivial, rfl, (callsIn_wide.2 (C4 _)).mono ?_⟩
  rintro e w5 ⟨rfl, hb⟩
  replace hS := hS.on hb
  refine ⟨hS, ?_⟩
  clear hb
  refine Ord.only rfl ?_
  go_simp
  refine ⟨trivial, rfl, (callsIn_wide.2 (C5 _)).mono ?_⟩
  rintro e w6 ⟨rfl, hb⟩
  replace hS := hS.on hb
  refine ⟨hS, ?_⟩
  clear hb
  repeat (first
    | (refine Ord.calm (v := ?_) hS rfl (fun V hV => ?_) (fun V hV f hf => ?_) (by simp only [Act.put, List.setIfInBounds_toArray, List.set_cons_succ, List.set_cons_zero]; rfl) ?_
       rotate_left
       · first
         | (go_simp; with_reducible rfl)
         | (obtain ⟨⟨a0, a1, a2, a3, a4, a5, a6⟩, ⟨b0, b1, b2, b3, b4, b5, b6⟩, _⟩ := Two.see hV; go_simp; with_reducible rfl)
       · trivial))
  simp only [Ord, Exit.then]
  have hB := hS.2.2
  clear hS C2 C3 C4 C5
  go_wp2
  go_ret
  exact ⟨rfl, hB⟩

set_option maxRecDepth 100000 in
set_option maxHeartbeats 4000000 in
theorem confTries_some (c : Cfg) (w : World) (h : c.ok = true) (hp : c.parks = true) (ht : c.tries ≠ 0) : Calls Try.prog 6 #[c.val] w fun e w' => e = .returned (.bool true) ∧ Below w.heap.size w w' := by
  have hq := (bare_parks c h).trans hp
  have e : c.tries = c.sp + c.yi := by simp [Cfg.tries, hp]
  have h2 : c.wt = 2 := by
    have h1 := (Cfg.ok_iff c).1 h
    apply Classical.byContradiction
    intro hne
    have hm : c.most = 0 := by simp [Cfg.most, hne]
    omega
  have hbd := Cfg.tries_bounds hp
  have C1 := fun W => conf_tries c W
  obtain ⟨log, th, pol, wt, sp, yi, single⟩ := c
  dsimp only at h2 hbd e
  subst h2
  have hlo : 1 ≤ Cfg.tries ⟨log, th, pol, 2, sp, yi, single⟩ := by omega
  have hhi : Cfg.tries ⟨log, th, pol, 2, sp, yi, single⟩ ≤ 16 := by omega
  generalize Cfg.tries ⟨log, th, pol, 2, sp, yi, single⟩ = k at *
  have hk0 : (k == 0) = false := by simpa using ht
  have hk1 : decide (0 ≤ k) = true := by simp; omega
  have C2 := fun W => tries_at 0 ⟨log, th, pol, 2, 0, 0, single⟩ W (by simp [Cfg.tries])
  have C3 := fun W => check_ok _ W h
  have C4 := fun W => parks_yes ⟨log, th, pol, 2, 0, 0, single⟩ W hq
  have C5 := fun W => parks_yes _ W hp
  clear h ht hp hq e hbd
  go_enter Try.func6, Try.ntmps6
  go_wp2_with fail
  refine (awake_any _).mono ?_
  rintro e w1 ⟨rfl, hb⟩
  rw [World.size_alloc] at hb
  have hx := box_kept ⟨log, th, pol, 2, sp, yi, single⟩ hb
  have hB := below_box hb
  clear hb
  obtain ⟨c0, c1, c2, c3, c4, c5, c6⟩ := cells7 hx
  go_wp2_with fail
  refine (C1 _).mono ?_
  rintro e w2 ⟨rfl, hb⟩
  clear C1 c0 c1 c2 c3 c4 c5 c6
  replace hx := (hb.block _ (Array.getElem?_eq_some_iff.1 hx).1).trans hx
  replace hB := hB.trans (hb.mono hB.size)
  clear hb
  obtain ⟨c0, c1, c2, c3, c4, c5, c6⟩ := cells7 hx
  have hlt := (Array.getElem?_eq_some_iff.1 hx).1
  go_wp2
  have hS : Two w w.heap.size w2.heap.size ⟨log, th, pol, 2, sp, yi, single⟩ ⟨log, th, pol, 2, 0, 0, single⟩ 23 (w2.alloc (.cells (Cfg.cells ⟨log, th, pol, 2, 0, 0, single⟩) 23)).drew :=
    ⟨(Below.heap_alloc _ _ _ hlt).trans hx, World.alloc_heap_new w2 _, (hB.alloc hB.size _).drew⟩
  clear hx hB c0 c1 c2 c3 c4 c5 c6 hlt
  refine wp_region_ord (S := Two w w.heap.size w2.heap.size ⟨log, th, pol, 2, sp, yi, single⟩ ⟨log, th, pol, 2, 0, 0, single⟩ 23) (by kernel_rfl)
    [(true, 0), (true, 1), (true, 2), (true, 3), (true, 4), (true, 5), (true, 6), (true, 7), (true, 8), (true, 9), (true, 10), (true, 11), (true, 12), (true, 13), (true, 14), (true, 15), (true, 16), (true, 17), (false, 18), (true, 19), (true, 20), (true, 21), (true, 22), (true, 23), (false, 24), (true, 25), (true, 26), (true, 27), (true, 28), (false, 29), (true, 30), (true, 31), (true, 32), (true, 34), (false, 33), (false, 35), (true, 36), (true, 37), (true, 38), (true, 39)]
    (by kernel_rfl) (by kernel_rfl) (by kernel_rfl) (fun _ _ d _ _ h => by cases d <;> exact h) ?_
  simp only [inOrder, List.getElem?_cons_succ, List.getElem?_cons_zero, List.nil_append, List.cons_append]
  repeat (first
    | (refine Ord.idle hS rfl (fun V hV f hf => ?_) (by simp only [Act.put, List.setIfInBounds_toArray, List.set_cons_succ, List.set_cons_zero]; rfl) ?_
       · trivial)
    | (refine Ord.calm (v := ?_) hS rfl (fun V hV => ?_) (fun V hV f hf => ?_) (by simp only [Act.put, List.setIfInBounds_toArray, List.set_cons_succ, List.set_cons_zero]; rfl) ?_
       rotate_left
       · first
         | (go_simp; with_reducible rfl)
         | (obtain ⟨⟨a0, a1, a2, a3, a4, a5, a6⟩, ⟨b0, b1, b2, b3, b4, b5, b6⟩, _⟩ := Two.see hV; go_simp; with_reducible rfl)
       · trivial))
  refine Ord.only rfl ?_
  go_simp
  refine ⟨trivial, rfl, (callsIn_wide.2 (C5 _)).mono ?_⟩
  rintro e w3 ⟨rfl, hb⟩
  replace hS := hS.on hb
  refine ⟨hS, ?_⟩
  clear hb
  repeat (first
    | (refine Ord.idle hS rfl (fun V hV f hf => ?_) (by simp only [Act.put, List.setIfInBounds_toArray, List.set_cons_succ, List.set_cons_zero]; rfl) ?_
       · trivial)
    | (refine Ord.calm (v := ?_) hS rfl (fun V hV => ?_) (fun V hV f hf => ?_) (by simp only [Act.put, List.setIfInBounds_toArray, List.set_cons_succ, List.set_cons_zero]; rfl) ?_
       rotate_left
       · first
         | (go_simp; with_reducible rfl)
         | (obtain ⟨⟨a0, a1, a2, a3, a4, a5, a6⟩, ⟨b0, b1, b2, b3, b4, b5, b6⟩, _⟩ := Two.see hV; go_simp; with_reducible rfl)
       · trivial))
  refine Ord.only rfl ?_
  go_simp
  refine ⟨trivial, rfl, (callsIn_wide.2 (C2 _)).mono ?_⟩
  rintro e w4 ⟨rfl, hb⟩
  replace hS := hS.on hb
  refine ⟨hS, ?_⟩
  clear hb
  repeat (first
    | (refine Ord.idle hS rfl (fun V hV f hf => ?_) (by simp only [Act.put, List.setIfInBounds_toArray, List.set_cons_succ, List.set_cons_zero]; rfl) ?_
       · trivial)
    | (refine Ord.calm (v := ?_) hS rfl (fun V hV => ?_) (fun V hV f hf => ?_) (by simp only [Act.put, List.setIfInBounds_toArray, List.set_cons_succ, List.set_cons_zero]; rfl) ?_
       rotate_left
       · first
         | (go_simp; with_reducible rfl)
         | (obtain ⟨⟨a0, a1, a2, a3, a4, a5, a6⟩, ⟨b0, b1, b2, b3, b4, b5, b6⟩, _⟩ := Two.see hV; go_simp; with_reducible rfl)
       · trivial))
  refine Ord.only rfl ?_
  go_simp
  refine ⟨trivial, rfl, (callsIn_wide.2 (C3 _)).mono ?_⟩
  rintro e w5 ⟨rfl, hb⟩
  replace hS := hS.on hb
  refine ⟨hS, ?_⟩
  clear hb
  repeat (first
    | (refine Ord.idle hS rfl (fun V hV f hf => ?_) (by simp only [Act.put, List.setIfInBounds_toArray, List.set_cons_succ, List.set_cons_zero]; rfl) ?_
       · trivial)
    | (refine Ord.calm (v := ?_) hS rfl (fun V hV => ?_) (fun V hV f hf => ?_) (by simp only [Act.put, List.setIfInBounds_toArray, List.set_cons_succ, List.set_cons_zero]; rfl) ?_
       rotate_left
       · first
         | (go_simp; with_reducible rfl)
         | (obtain ⟨⟨a0, a1, a2, a3, a4, a5, a6⟩, ⟨b0, b1, b2, b3, b4, b5, b6⟩, _⟩ := Two.see hV; go_simp; with_reducible rfl)
       · trivial))
  refine Ord.only rfl ?_
  go_simp
  refine ⟨trivial, rfl, (callsIn_wide.2 (C4 _)).mono ?_⟩
  rintro e w6 ⟨rfl, hb⟩
  replace hS := hS.on hb
  refine ⟨hS, ?_⟩
  clear hb
  refine Ord.only rfl ?_
  go_simp
  refine ⟨trivial, rfl, (callsIn_wide.2 (C5 _)).mono ?_⟩
  rintro e w7 ⟨rfl, hb⟩
  replace hS := hS.on hb
  refine ⟨hS, ?_⟩
  clear hb
  repeat (first
    | (refine Ord.calm (v := ?_) hS rfl (fun V hV => ?_) (fun V hV f hf => ?_) (by simp only [Act.put, List.setIfInBounds_toArray, List.set_cons_succ, List.set_cons_zero]; rfl) ?_
       rotate_left
       · first
         | (go_simp; with_reducible rfl)
         | (obtain ⟨⟨a0, a1, a2, a3, a4, a5, a6⟩, ⟨b0, b1, b2, b3, b4, b5, b6⟩, _⟩ := Two.see hV; go_simp; with_reducible rfl)
       · trivial))
  simp only [Ord, Exit.then]
  have hB := hS.2.2
  clear hS C2 C3 C4 C5
  go_wp2
  go_ret
  exact ⟨rfl, hB⟩

theorem confTries_walk (c : Cfg) (w : World) : Calls Try.prog 6 #[c.val] w fun e w' => e = .returned (.bool true) ∧ Below w.heap.size w w' := by
  by_cases h : c.ok = true
  · by_cases hp : c.parks = true
    · by_cases ht : c.tries = 0
      · exact confTries_bare c w h hp ht
      · exact confTries_some c w h hp ht
    · have hp' : c.parks = false := by simpa using hp
      exact confTries_still c w h hp' (by simp [Cfg.tries, hp'])
  · exact confTries_no c w (by simpa using h)

/-! ### The row -/
set_option maxRecDepth 100000 in
theorem confTries_lifted (os : Os) (started : os.Started) (H : Type) (enc : TypeId × Value → H) :
    ReturnsInHanded {} Try.checked os 6 .any (Rows.confTriesSpec.pre6 enc Try.prog Try.f6 Rows.confTriesRow.domain false) (Rows.confTriesSpec.post enc Try.prog Try.f6 false true false false) := by
  refine returnsInHanded_of_change (C := Try.checked) own started (by kernel_rfl) Try.func6
    (ChangeSpec.witness6 (enc := enc) (C := Try.checked) false ⟨#[], #[.agg #[.int .i64 0, .int .i64 0, .int .i64 0, .int .i64 0, .int .i64 0, .int .i64 0, .bool false]], []⟩ 8 (by kernel_rfl) (by kernel_rfl) (by kernel_rfl) (by kernel_rfl)) ?_
  intro W base args ds gs before hval0 hW hcnd _
  have hval : ∀ (j : Nat) t v, Try.f6.params[j]? = some t → args[j]? = some v → Value.okWide Try.prog W .any base t v := hval0
  have hW' := hW
  obtain ⟨p, q, hA0, hV, rfl, hfz, hnd⟩ := hW
  have hA : DataW.TrodAll enc Try.prog W 0 (fun _ => true) true Try.f6.params.toList args.toList ds p := hA0
  rw [Try.params6] at hA hval
  obtain ⟨v0, vs0, d0, ds0, p0, q0, hargs, rfl, rfl, h0, r0⟩ := trodAll_cons hA
  obtain ⟨rfl, rfl, rfl⟩ := trodAll_nil r0
  obtain rfl : args = #[v0] := by cases args; simp_all
  obtain ⟨rfl, rfl⟩ := trodVars_none hV
  have k0 := h0
  have lt0 : ∀ x ∈ p0, x.block < W.heap.size := by obtain ⟨m, hm⟩ := k0; exact DataW.trod_lt m _ _ _ hm
  obtain ⟨c0, rfl, w0⟩ := open_cfg (hval 0 23 v0 rfl rfl) h0
  clear hA0 hval0
  refine (confTries_walk c0 W).mono fun e W' ⟨he, bel⟩ => ?_
  subst he
  exact ⟨_, rfl, _, _, _, [], _, [], hW', trodAll_mk1 (shut_bool Try.underlying4 _), (trodAll_cons_mk (Below.trod laidOut (by kernel_rfl) (of_decide_eq_true (by kernel_rfl)) k0 bel lt0) trodAll_mk0), rfl, bel.frame _, fun h => by cases h⟩

theorem confTries_over : Rows.confTriesRow.holds Try.pinned (OpenSpec.ofChange Rows.confTriesSpec) :=
  OpenClaim.holds_of_wide 6 Try.f6 rfl rfl rfl rfl rfl rfl rfl ⟨rfl, rfl, rfl, rfl, rfl⟩ rfl rfl rfl rfl rfl (by kernel_rfl) Try.func6 (by kernel_rfl)
    (of_decide_eq_true (by kernel_rfl)) (by unfold Func.isWrapper; first | (rw [if_pos (by decide +kernel)]; kernel_rfl) | (rw [if_neg (by decide +kernel)]; exact ⟨rfl, rfl⟩))
    (fun os started H enc _ => confTries_lifted os started H enc)

/-- The statement. -/
theorem confTries_holds : Rows.ConfTriesSaid := confTries_over
#print axioms confTries_holds

end Go.Proofs.Ytolkmpfnomeklaa
