/-
  DERIVED. NextT.
-/
import Derived.Test.YtnbgpopjnpdmgaaGreatPaw
import Derived.Test.YtnbgpopjnpdmgaaGreatPae
import Derived.Test.YtnbgpopjnpdmgaaGreatPay
set_option linter.unusedVariables false
set_option linter.unusedSimpArgs false

namespace Go.Proofs.YtnbgpopjnpdmgaaGreat
open Go Go.RowKit Go.Shelf

/-- What is done in vain at that time. -/
def nextOf (c : Cfg) (n : Int) : Int := if c.ok then (if c.wt = 0 then 0 else if c.wt = 1 then 1 else if c.wt = 2 then phaseOf c (max n 0) else 2) else 0

set_option maxRecDepth 100000 in
set_option maxHeartbeats 2000000 in
theorem wnext_no (c : Cfg) (n : Int) (w : World) (h : c.ok = false) : Calls Tryz.prog 177 #[c.val, .int .i64 n] w fun e w' => e = .returned (.int .i64 (nextOf c n)) ∧ Below w.heap.size w w' := by
  have e : nextOf c n = 0 := by simp [nextOf, h]
  rw [e]
  clear e
  have C := fun W => check_no c W h
  clear h
  obtain ⟨log, th, pol, wt, sp, yi, single⟩ := c
  go_enter Tryz.func177, Tryz.ntmps177
  go_wp2_with fail
  refine (C _).mono ?_
  rintro e w1 ⟨rfl, hb⟩
  rw [World.size_alloc] at hb
  have hB := below_box hb
  clear C hb
  go_wp2
  go_ret
  exact ⟨rfl, hB⟩

set_option maxRecDepth 100000 in
set_option maxHeartbeats 2000000 in
theorem wnext_0a (c : Cfg) (n : Int) (w : World) (h : c.ok = true) (hwt : c.wt = 0) (hn : n < 0) : Calls Tryz.prog 177 #[c.val, .int .i64 n] w fun e w' => e = .returned (.int .i64 0) ∧ Below w.heap.size w w' := by
  have C := fun W => check_ok c W h
  have D := fun W => look_spin c 0 W
  clear h
  obtain ⟨log, th, pol, wt, sp, yi, single⟩ := c
  dsimp only at hwt
  subst hwt
  go_enter Tryz.func177, Tryz.ntmps177
  go_wp2_with fail
  refine (C _).mono ?_
  rintro e w1 ⟨rfl, hb⟩
  rw [World.size_alloc] at hb
  have hx := box_kept ⟨log, th, pol, 0, sp, yi, single⟩ hb
  have hB := below_box hb
  clear C hb
  have h0 := World.alloc_heap_new w1 (.map #[] 0)
  have hB0 := hB.alloc hB.size (.map #[] 0)
  have hx0 := (Below.heap_alloc w1 (.map #[] 0) _ (Array.getElem?_eq_some_iff.1 hx).1).trans hx
  have hlt := (Array.getElem?_eq_some_iff.1 hx).1
  have hz0 : (w1.alloc (.map #[] 0)).heap.size = w1.heap.size + 1 := World.size_alloc _ _
  clear hB
  have hmm := @run_makeMap Tryz.prog
  go_wp2_with (first
    | (refine wpList_insert_at rfl (.tmp 9) (.const (.int .i64 0)) (.func 188) 218 rfl 3 215 .i64 Tryz.underlying218 Tryz.underlying3 w1.heap.size rfl 0 rfl _ rfl #[] 0 h0 rfl ?_; intro v1 h1 g1 z1; have hB1 := hB0.trans (g1.mono (by omega)); have hx1 := (g1.block _ (by omega)).trans hx0; have hz1 := z1.trans hz0; clear h0 g1 z1 hB0 hx0 hz0)
    | (refine wpList_insert_at rfl (.tmp 9) (.const (.int .i64 1)) (.func 189) 218 rfl 3 215 .i64 Tryz.underlying218 Tryz.underlying3 w1.heap.size rfl 1 rfl _ rfl #[⟨.int .i64 0, .func (.func 188) #[] #[], 0⟩] 1 h1 rfl ?_; intro v2 h2 g2 z2; have hB2 := hB1.trans (g2.mono (by omega)); have hx2 := (g2.block _ (by omega)).trans hx1; have hz2 := z2.trans hz1; clear h1 g2 z2 hB1 hx1 hz1)
    | (refine wpList_insert_at rfl (.tmp 9) (.const (.int .i64 2)) (.func 190) 218 rfl 3 215 .i64 Tryz.underlying218 Tryz.underlying3 w1.heap.size rfl 2 rfl _ rfl #[⟨.int .i64 0, .func (.func 188) #[] #[], 0⟩, ⟨.int .i64 1, .func (.func 189) #[] #[], 1⟩] 2 h2 rfl ?_; intro v3 h3 g3 z3; have hB3 := hB2.trans (g3.mono (by omega)); have hx3 := (g3.block _ (by omega)).trans hx2; have hz3 := z3.trans hz2; clear h2 g3 z3 hB2 hx2 hz2)
    | (refine wpList_insert_at rfl (.tmp 9) (.const (.int .i64 3)) (.func 191) 218 rfl 3 215 .i64 Tryz.underlying218 Tryz.underlying3 w1.heap.size rfl 3 rfl _ rfl #[⟨.int .i64 0, .func (.func 188) #[] #[], 0⟩, ⟨.int .i64 1, .func (.func 189) #[] #[], 1⟩, ⟨.int .i64 2, .func (.func 190) #[] #[], 2⟩] 3 h3 rfl ?_; intro v4 h4 g4 z4; have hB4 := hB3.trans (g4.mono (by omega)); have hx4 := (g4.block _ (by omega)).trans hx3; have hz4 := z4.trans hz3; clear h3 g4 z4 hB3 hx3 hz3; obtain ⟨c0, c1, c2, c3, c4, c5, c6⟩ := cells7 hx4; have h4' : v4.heap[w1.heap.size]? = some (.map #[⟨.int .i64 0, .func (.func 188) #[] #[], 0⟩, ⟨.int .i64 1, .func (.func 189) #[] #[], 1⟩, ⟨.int .i64 2, .func (.func 190) #[] #[], 2⟩, ⟨.int .i64 3, .func (.func 191) #[] #[], 3⟩] 4) := h4; clear h4 hx4 hx hlt hmm)
    | (refine wpList_lookup_at rfl (.tmp 11) (.tmp 13) 218 rfl 3 215 .i64 Tryz.underlying218 Tryz.underlying3 w1.heap.size rfl 0 rfl _ _ h4' 0 (.func (.func 188) #[] #[]) rfl ?_; clear h4'))
  refine (D _).mono ?_
  rintro e w2 ⟨rfl, hb⟩
  have hB5 := hB4.trans (hb.mono hB4.size)
  clear hb hB4 D c0 c1 c2 c3 c4 c5 c6 hz4
  go_wp2
  go_ret
  exact ⟨rfl, hB5⟩

set_option maxRecDepth 100000 in
set_option maxHeartbeats 2000000 in
theorem wnext_0b (c : Cfg) (n : Int) (w : World) (h : c.ok = true) (hwt : c.wt = 0) (hn : ¬ n < 0) : Calls Tryz.prog 177 #[c.val, .int .i64 n] w fun e w' => e = .returned (.int .i64 0) ∧ Below w.heap.size w w' := by
  have C := fun W => check_ok c W h
  have D := fun W => look_spin c n W
  clear h
  obtain ⟨log, th, pol, wt, sp, yi, single⟩ := c
  dsimp only at hwt
  subst hwt
  go_enter Tryz.func177, Tryz.ntmps177
  go_wp2_with fail
  refine (C _).mono ?_
  rintro e w1 ⟨rfl, hb⟩
  rw [World.size_alloc] at hb
  have hx := box_kept ⟨log, th, pol, 0, sp, yi, single⟩ hb
  have hB := below_box hb
  clear C hb
  have h0 := World.alloc_heap_new w1 (.map #[] 0)
  have hB0 := hB.alloc hB.size (.map #[] 0)
  have hx0 := (Below.heap_alloc w1 (.map #[] 0) _ (Array.getElem?_eq_some_iff.1 hx).1).trans hx
  have hlt := (Array.getElem?_eq_some_iff.1 hx).1
  have hz0 : (w1.alloc (.map #[] 0)).heap.size = w1.heap.size + 1 := World.size_alloc _ _
  clear hB
  have hmm := @run_makeMap Tryz.prog
  go_wp2_with (first
    | (refine wpList_insert_at rfl (.tmp 9) (.const (.int .i64 0)) (.func 188) 218 rfl 3 215 .i64 Tryz.underlying218 Tryz.underlying3 w1.heap.size rfl 0 rfl _ rfl #[] 0 h0 rfl ?_; intro v1 h1 g1 z1; have hB1 := hB0.trans (g1.mono (by omega)); have hx1 := (g1.block _ (by omega)).trans hx0; have hz1 := z1.trans hz0; clear h0 g1 z1 hB0 hx0 hz0)
    | (refine wpList_insert_at rfl (.tmp 9) (.const (.int .i64 1)) (.func 189) 218 rfl 3 215 .i64 Tryz.underlying218 Tryz.underlying3 w1.heap.size rfl 1 rfl _ rfl #[⟨.int .i64 0, .func (.func 188) #[] #[], 0⟩] 1 h1 rfl ?_; intro v2 h2 g2 z2; have hB2 := hB1.trans (g2.mono (by omega)); have hx2 := (g2.block _ (by omega)).trans hx1; have hz2 := z2.trans hz1; clear h1 g2 z2 hB1 hx1 hz1)
    | (refine wpList_insert_at rfl (.tmp 9) (.const (.int .i64 2)) (.func 190) 218 rfl 3 215 .i64 Tryz.underlying218 Tryz.underlying3 w1.heap.size rfl 2 rfl _ rfl #[⟨.int .i64 0, .func (.func 188) #[] #[], 0⟩, ⟨.int .i64 1, .func (.func 189) #[] #[], 1⟩] 2 h2 rfl ?_; intro v3 h3 g3 z3; have hB3 := hB2.trans (g3.mono (by omega)); have hx3 := (g3.block _ (by omega)).trans hx2; have hz3 := z3.trans hz2; clear h2 g3 z3 hB2 hx2 hz2)
    | (refine wpList_insert_at rfl (.tmp 9) (.const (.int .i64 3)) (.func 191) 218 rfl 3 215 .i64 Tryz.underlying218 Tryz.underlying3 w1.heap.size rfl 3 rfl _ rfl #[⟨.int .i64 0, .func (.func 188) #[] #[], 0⟩, ⟨.int .i64 1, .func (.func 189) #[] #[], 1⟩, ⟨.int .i64 2, .func (.func 190) #[] #[], 2⟩] 3 h3 rfl ?_; intro v4 h4 g4 z4; have hB4 := hB3.trans (g4.mono (by omega)); have hx4 := (g4.block _ (by omega)).trans hx3; have hz4 := z4.trans hz3; clear h3 g4 z4 hB3 hx3 hz3; obtain ⟨c0, c1, c2, c3, c4, c5, c6⟩ := cells7 hx4; have h4' : v4.heap[w1.heap.size]? = some (.map #[⟨.int .i64 0, .func (.func 188) #[] #[], 0⟩, ⟨.int .i64 1, .func (.func 189) #[] #[], 1⟩, ⟨.int .i64 2, .func (.func 190) #[] #[], 2⟩, ⟨.int .i64 3, .func (.func 191) #[] #[], 3⟩] 4) := h4; clear h4 hx4 hx hlt hmm)
    | (refine wpList_lookup_at rfl (.tmp 11) (.tmp 13) 218 rfl 3 215 .i64 Tryz.underlying218 Tryz.underlying3 w1.heap.size rfl 0 rfl _ _ h4' 0 (.func (.func 188) #[] #[]) rfl ?_; clear h4'))
  refine (D _).mono ?_
  rintro e w2 ⟨rfl, hb⟩
  have hB5 := hB4.trans (hb.mono hB4.size)
  clear hb hB4 D c0 c1 c2 c3 c4 c5 c6 hz4
  go_wp2
  go_ret
  exact ⟨rfl, hB5⟩

set_option maxRecDepth 100000 in
set_option maxHeartbeats 2000000 in
theorem wnext_1a (c : Cfg) (n : Int) (w : World) (h : c.ok = true) (hwt : c.wt = 1) (hn : n < 0) : Calls Tryz.prog 177 #[c.val, .int .i64 n] w fun e w' => e = .returned (.int .i64 1) ∧ Below w.heap.size w w' := by
  have C := fun W => check_ok c W h
  have D := fun W => look_yield c 0 W
  clear h
  obtain ⟨log, th, pol, wt, sp, yi, single⟩ := c
  dsimp only at hwt
  subst hwt
  go_enter Tryz.func177, Tryz.ntmps177
  go_wp2_with fail
  refine (C _).mono ?_
  rintro e w1 ⟨rfl, hb⟩
  rw [World.size_alloc] at hb
  have hx := box_kept ⟨log, th, pol, 1, sp, yi, single⟩ hb
  have hB := below_box hb
  clear C hb
  have h0 := World.alloc_heap_new w1 (.map #[] 0)
  have hB0 := hB.alloc hB.size (.map #[] 0)
  have hx0 := (Below.heap_alloc w1 (.map #[] 0) _ (Array.getElem?_eq_some_iff.1 hx).1).trans hx
  have hlt := (Array.getElem?_eq_some_iff.1 hx).1
  have hz0 : (w1.alloc (.map #[] 0)).heap.size = w1.heap.size + 1 := World.size_alloc _ _
  clear hB
  have hmm := @run_makeMap Tryz.prog
  go_wp2_with (first
    | (refine wpList_insert_at rfl (.tmp 9) (.const (.int .i64 0)) (.func 188) 218 rfl 3 215 .i64 Tryz.underlying218 Tryz.underlying3 w1.heap.size rfl 0 rfl _ rfl #[] 0 h0 rfl ?_; intro v1 h1 g1 z1; have hB1 := hB0.trans (g1.mono (by omega)); have hx1 := (g1.block _ (by omega)).trans hx0; have hz1 := z1.trans hz0; clear h0 g1 z1 hB0 hx0 hz0)
    | (refine wpList_insert_at rfl (.tmp 9) (.const (.int .i64 1)) (.func 189) 218 rfl 3 215 .i64 Tryz.underlying218 Tryz.underlying3 w1.heap.size rfl 1 rfl _ rfl #[⟨.int .i64 0, .func (.func 188) #[] #[], 0⟩] 1 h1 rfl ?_; intro v2 h2 g2 z2; have hB2 := hB1.trans (g2.mono (by omega)); have hx2 := (g2.block _ (by omega)).trans hx1; have hz2 := z2.trans hz1; clear h1 g2 z2 hB1 hx1 hz1)
    | (refine wpList_insert_at rfl (.tmp 9) (.const (.int .i64 2)) (.func 190) 218 rfl 3 215 .i64 Tryz.underlying218 Tryz.underlying3 w1.heap.size rfl 2 rfl _ rfl #[⟨.int .i64 0, .func (.func 188) #[] #[], 0⟩, ⟨.int .i64 1, .func (.func 189) #[] #[], 1⟩] 2 h2 rfl ?_; intro v3 h3 g3 z3; have hB3 := hB2.trans (g3.mono (by omega)); have hx3 := (g3.block _ (by omega)).trans hx2; have hz3 := z3.trans hz2; clear h2 g3 z3 hB2 hx2 hz2)
    | (refine wpList_insert_at rfl (.tmp 9) (.const (.int .i64 3)) (.func 191) 218 rfl 3 215 .i64 Tryz.underlying218 Tryz.underlying3 w1.heap.size rfl 3 rfl _ rfl #[⟨.int .i64 0, .func (.func 188) #[] #[], 0⟩, ⟨.int .i64 1, .func (.func 189) #[] #[], 1⟩, ⟨.int .i64 2, .func (.func 190) #[] #[], 2⟩] 3 h3 rfl ?_; intro v4 h4 g4 z4; have hB4 := hB3.trans (g4.mono (by omega)); have hx4 := (g4.block _ (by omega)).trans hx3; have hz4 := z4.trans hz3; clear h3 g4 z4 hB3 hx3 hz3; obtain ⟨c0, c1, c2, c3, c4, c5, c6⟩ := cells7 hx4; have h4' : v4.heap[w1.heap.size]? = some (.map #[⟨.int .i64 0, .func (.func 188) #[] #[], 0⟩, ⟨.int .i64 1, .func (.func 189) #[] #[], 1⟩, ⟨.int .i64 2, .func (.func 190) #[] #[], 2⟩, ⟨.int .i64 3, .func (.func 191) #[] #[], 3⟩] 4) := h4; clear h4 hx4 hx hlt hmm)
    | (refine wpList_lookup_at rfl (.tmp 11) (.tmp 13) 218 rfl 3 215 .i64 Tryz.underlying218 Tryz.underlying3 w1.heap.size rfl 1 rfl _ _ h4' 1 (.func (.func 189) #[] #[]) rfl ?_; clear h4'))
  refine (D _).mono ?_
  rintro e w2 ⟨rfl, hb⟩
  have hB5 := hB4.trans (hb.mono hB4.size)
  clear hb hB4 D c0 c1 c2 c3 c4 c5 c6 hz4
  go_wp2
  go_ret
  exact ⟨rfl, hB5⟩

set_option maxRecDepth 100000 in
set_option maxHeartbeats 2000000 in
theorem wnext_1b (c : Cfg) (n : Int) (w : World) (h : c.ok = true) (hwt : c.wt = 1) (hn : ¬ n < 0) : Calls Tryz.prog 177 #[c.val, .int .i64 n] w fun e w' => e = .returned (.int .i64 1) ∧ Below w.heap.size w w' := by
  have C := fun W => check_ok c W h
  have D := fun W => look_yield c n W
  clear h
  obtain ⟨log, th, pol, wt, sp, yi, single⟩ := c
  dsimp only at hwt
  subst hwt
  go_enter Tryz.func177, Tryz.ntmps177
  go_wp2_with fail
  refine (C _).mono ?_
  rintro e w1 ⟨rfl, hb⟩
  rw [World.size_alloc] at hb
  have hx := box_kept ⟨log, th, pol, 1, sp, yi, single⟩ hb
  have hB := below_box hb
  clear C hb
  have h0 := World.alloc_heap_new w1 (.map #[] 0)
  have hB0 := hB.alloc hB.size (.map #[] 0)
  have hx0 := (Below.heap_alloc w1 (.map #[] 0) _ (Array.getElem?_eq_some_iff.1 hx).1).trans hx
  have hlt := (Array.getElem?_eq_some_iff.1 hx).1
  have hz0 : (w1.alloc (.map #[] 0)).heap.size = w1.heap.size + 1 := World.size_alloc _ _
  clear hB
  have hmm := @run_makeMap Tryz.prog
  go_wp2_with (first
    | (refine wpList_insert_at rfl (.tmp 9) (.const (.int .i64 0)) (.func 188) 218 rfl 3 215 .i64 Tryz.underlying218 Tryz.underlying3 w1.heap.size rfl 0 rfl _ rfl #[] 0 h0 rfl ?_; intro v1 h1 g1 z1; have hB1 := hB0.trans (g1.mono (by omega)); have hx1 := (g1.block _ (by omega)).trans hx0; have hz1 := z1.trans hz0; clear h0 g1 z1 hB0 hx0 hz0)
    | (refine wpList_insert_at rfl (.tmp 9) (.const (.int .i64 1)) (.func 189) 218 rfl 3 215 .i64 Tryz.underlying218 Tryz.underlying3 w1.heap.size rfl 1 rfl _ rfl #[⟨.int .i64 0, .func (.func 188) #[] #[], 0⟩] 1 h1 rfl ?_; intro v2 h2 g2 z2; have hB2 := hB1.trans (g2.mono (by omega)); have hx2 := (g2.block _ (by omega)).trans hx1; have hz2 := z2.trans hz1; clear h1 g2 z2 hB1 hx1 hz1)
    | (refine wpList_insert_at rfl (.tmp 9) (.const (.int .i64 2)) (.func 190) 218 rfl 3 215 .i64 Tryz.underlying218 Tryz.underlying3 w1.heap.size rfl 2 rfl _ rfl #[⟨.int .i64 0, .func (.func 188) #[] #[], 0⟩, ⟨.int .i64 1, .func (.func 189) #[] #[], 1⟩] 2 h2 rfl ?_; intro v3 h3 g3 z3; have hB3 := hB2.trans (g3.mono (by omega)); have hx3 := (g3.block _ (by omega)).trans hx2; have hz3 := z3.trans hz2; clear h2 g3 z3 hB2 hx2 hz2)
    | (refine wpList_insert_at rfl (.tmp 9) (.const (.int .i64 3)) (.func 191) 218 rfl 3 215 .i64 Tryz.underlying218 Tryz.underlying3 w1.heap.size rfl 3 rfl _ rfl #[⟨.int .i64 0, .func (.func 188) #[] #[], 0⟩, ⟨.int .i64 1, .func (.func 189) #[] #[], 1⟩, ⟨.int .i64 2, .func (.func 190) #[] #[], 2⟩] 3 h3 rfl ?_; intro v4 h4 g4 z4; have hB4 := hB3.trans (g4.mono (by omega)); have hx4 := (g4.block _ (by omega)).trans hx3; have hz4 := z4.trans hz3; clear h3 g4 z4 hB3 hx3 hz3; obtain ⟨c0, c1, c2, c3, c4, c5, c6⟩ := cells7 hx4; have h4' : v4.heap[w1.heap.size]? = some (.map #[⟨.int .i64 0, .func (.func 188) #[] #[], 0⟩, ⟨.int .i64 1, .func (.func 189) #[] #[], 1⟩, ⟨.int .i64 2, .func (.func 190) #[] #[], 2⟩, ⟨.int .i64 3, .func (.func 191) #[] #[], 3⟩] 4) := h4; clear h4 hx4 hx hlt hmm)
    | (refine wpList_lookup_at rfl (.tmp 11) (.tmp 13) 218 rfl 3 215 .i64 Tryz.underlying218 Tryz.underlying3 w1.heap.size rfl 1 rfl _ _ h4' 1 (.func (.func 189) #[] #[]) rfl ?_; clear h4'))
  refine (D _).mono ?_
  rintro e w2 ⟨rfl, hb⟩
  have hB5 := hB4.trans (hb.mono hB4.size)
  clear hb hB4 D c0 c1 c2 c3 c4 c5 c6 hz4
  go_wp2
  go_ret
  exact ⟨rfl, hB5⟩

set_option maxRecDepth 100000 in
set_option maxHeartbeats 2000000 in
theorem wnext_2a (c : Cfg) (n : Int) (w : World) (h : c.ok = true) (hwt : c.wt = 2) (hn : n < 0) : Calls Tryz.prog 177 #[c.val, .int .i64 n] w fun e w' => e = .returned (.int .i64 (phaseOf c 0)) ∧ Below w.heap.size w w' := by
  have C := fun W => check_ok c W h
  have D := fun W => look_phase c 0 W (by have := ((Cfg.ok_iff c).1 h).2.2.2.2.1; omega) (by have := ((Cfg.ok_iff c).1 h).2.2.2.2.1; have := Cfg.most_le c; omega) (by have := ((Cfg.ok_iff c).1 h).2.2.2.2.2; omega) (by have := ((Cfg.ok_iff c).1 h).2.2.2.2.2; have := Cfg.most_le c; omega)
  clear h
  obtain ⟨log, th, pol, wt, sp, yi, single⟩ := c
  dsimp only at hwt
  subst hwt
  generalize phaseOf _ 0 = r at *
  go_enter Tryz.func177, Tryz.ntmps177
  go_wp2_with fail
  refine (C _).mono ?_
  rintro e w1 ⟨rfl, hb⟩
  rw [World.size_alloc] at hb
  have hx := box_kept ⟨log, th, pol, 2, sp, yi, single⟩ hb
  have hB := below_box hb
  clear C hb
  have h0 := World.alloc_heap_new w1 (.map #[] 0)
  have hB0 := hB.alloc hB.size (.map #[] 0)
  have hx0 := (Below.heap_alloc w1 (.map #[] 0) _ (Array.getElem?_eq_some_iff.1 hx).1).trans hx
  have hlt := (Array.getElem?_eq_some_iff.1 hx).1
  have hz0 : (w1.alloc (.map #[] 0)).heap.size = w1.heap.size + 1 := World.size_alloc _ _
  clear hB
  have hmm := @run_makeMap Tryz.prog
  go_wp2_with (first
    | (refine wpList_insert_at rfl (.tmp 9) (.const (.int .i64 0)) (.func 188) 218 rfl 3 215 .i64 Tryz.underlying218 Tryz.underlying3 w1.heap.size rfl 0 rfl _ rfl #[] 0 h0 rfl ?_; intro v1 h1 g1 z1; have hB1 := hB0.trans (g1.mono (by omega)); have hx1 := (g1.block _ (by omega)).trans hx0; have hz1 := z1.trans hz0; clear h0 g1 z1 hB0 hx0 hz0)
    | (refine wpList_insert_at rfl (.tmp 9) (.const (.int .i64 1)) (.func 189) 218 rfl 3 215 .i64 Tryz.underlying218 Tryz.underlying3 w1.heap.size rfl 1 rfl _ rfl #[⟨.int .i64 0, .func (.func 188) #[] #[], 0⟩] 1 h1 rfl ?_; intro v2 h2 g2 z2; have hB2 := hB1.trans (g2.mono (by omega)); have hx2 := (g2.block _ (by omega)).trans hx1; have hz2 := z2.trans hz1; clear h1 g2 z2 hB1 hx1 hz1)
    | (refine wpList_insert_at rfl (.tmp 9) (.const (.int .i64 2)) (.func 190) 218 rfl 3 215 .i64 Tryz.underlying218 Tryz.underlying3 w1.heap.size rfl 2 rfl _ rfl #[⟨.int .i64 0, .func (.func 188) #[] #[], 0⟩, ⟨.int .i64 1, .func (.func 189) #[] #[], 1⟩] 2 h2 rfl ?_; intro v3 h3 g3 z3; have hB3 := hB2.trans (g3.mono (by omega)); have hx3 := (g3.block _ (by omega)).trans hx2; have hz3 := z3.trans hz2; clear h2 g3 z3 hB2 hx2 hz2)
    | (refine wpList_insert_at rfl (.tmp 9) (.const (.int .i64 3)) (.func 191) 218 rfl 3 215 .i64 Tryz.underlying218 Tryz.underlying3 w1.heap.size rfl 3 rfl _ rfl #[⟨.int .i64 0, .func (.func 188) #[] #[], 0⟩, ⟨.int .i64 1, .func (.func 189) #[] #[], 1⟩, ⟨.int .i64 2, .func (.func 190) #[] #[], 2⟩] 3 h3 rfl ?_; intro v4 h4 g4 z4; have hB4 := hB3.trans (g4.mono (by omega)); have hx4 := (g4.block _ (by omega)).trans hx3; have hz4 := z4.trans hz3; clear h3 g4 z4 hB3 hx3 hz3; obtain ⟨c0, c1, c2, c3, c4, c5, c6⟩ := cells7 hx4; have h4' : v4.heap[w1.heap.size]? = some (.map #[⟨.int .i64 0, .func (.func 188) #[] #[], 0⟩, ⟨.int .i64 1, .func (.func 189) #[] #[], 1⟩, ⟨.int .i64 2, .func (.func 190) #[] #[], 2⟩, ⟨.int .i64 3, .func (.func 191) #[] #[], 3⟩] 4) := h4; clear h4 hx4 hx hlt hmm)
    | (refine wpList_lookup_at rfl (.tmp 11) (.tmp 13) 218 rfl 3 215 .i64 Tryz.underlying218 Tryz.underlying3 w1.heap.size rfl 2 rfl _ _ h4' 2 (.func (.func 190) #[] #[]) rfl ?_; clear h4'))
  refine (D _).mono ?_
  rintro e w2 ⟨rfl, hb⟩
  have hB5 := hB4.trans (hb.mono hB4.size)
  clear hb hB4 D c0 c1 c2 c3 c4 c5 c6 hz4
  go_wp2
  go_ret
  exact ⟨rfl, hB5⟩

set_option maxRecDepth 100000 in
set_option maxHeartbeats 2000000 in
theorem wnext_2b (c : Cfg) (n : Int) (w : World) (h : c.ok = true) (hwt : c.wt = 2) (hn : ¬ n < 0) : Calls Tryz.prog 177 #[c.val, .int .i64 n] w fun e w' => e = .returned (.int .i64 (phaseOf c n)) ∧ Below w.heap.size w w' := by
  have C := fun W => check_ok c W h
  have D := fun W => look_phase c n W (by have := ((Cfg.ok_iff c).1 h).2.2.2.2.1; omega) (by have := ((Cfg.ok_iff c).1 h).2.2.2.2.1; have := Cfg.most_le c; omega) (by have := ((Cfg.ok_iff c).1 h).2.2.2.2.2; omega) (by have := ((Cfg.ok_iff c).1 h).2.2.2.2.2; have := Cfg.most_le c; omega)
  clear h
  obtain ⟨log, th, pol, wt, sp, yi, single⟩ := c
  dsimp only at hwt
  subst hwt
  generalize phaseOf _ n = r at *
  go_enter Tryz.func177, Tryz.ntmps177
  go_wp2_with fail
  refine (C _).mono ?_
  rintro e w1 ⟨rfl, hb⟩
  rw [World.size_alloc] at hb
  have hx := box_kept ⟨log, th, pol, 2, sp, yi, single⟩ hb
  have hB := below_box hb
  clear C hb
  have h0 := World.alloc_heap_new w1 (.map #[] 0)
  have hB0 := hB.alloc hB.size (.map #[] 0)
  have hx0 := (Below.heap_alloc w1 (.map #[] 0) _ (Array.getElem?_eq_some_iff.1 hx).1).trans hx
  have hlt := (Array.getElem?_eq_some_iff.1 hx).1
  have hz0 : (w1.alloc (.map #[] 0)).heap.size = w1.heap.size + 1 := World.size_alloc _ _
  clear hB
  have hmm := @run_makeMap Tryz.prog
  go_wp2_with (first
    | (refine wpList_insert_at rfl (.tmp 9) (.const (.int .i64 0)) (.func 188) 218 rfl 3 215 .i64 Tryz.underlying218 Tryz.underlying3 w1.heap.size rfl 0 rfl _ rfl #[] 0 h0 rfl ?_; intro v1 h1 g1 z1; have hB1 := hB0.trans (g1.mono (by omega)); have hx1 := (g1.block _ (by omega)).trans hx0; have hz1 := z1.trans hz0; clear h0 g1 z1 hB0 hx0 hz0)
    | (refine wpList_insert_at rfl (.tmp 9) (.const (.int .i64 1)) (.func 189) 218 rfl 3 215 .i64 Tryz.underlying218 Tryz.underlying3 w1.heap.size rfl 1 rfl _ rfl #[⟨.int .i64 0, .func (.func 188) #[] #[], 0⟩] 1 h1 rfl ?_; intro v2 h2 g2 z2; have hB2 := hB1.trans (g2.mono (by omega)); have hx2 := (g2.block _ (by omega)).trans hx1; have hz2 := z2.trans hz1; clear h1 g2 z2 hB1 hx1 hz1)
    | (refine wpList_insert_at rfl (.tmp 9) (.const (.int .i64 2)) (.func 190) 218 rfl 3 215 .i64 Tryz.underlying218 Tryz.underlying3 w1.heap.size rfl 2 rfl _ rfl #[⟨.int .i64 0, .func (.func 188) #[] #[], 0⟩, ⟨.int .i64 1, .func (.func 189) #[] #[], 1⟩] 2 h2 rfl ?_; intro v3 h3 g3 z3; have hB3 := hB2.trans (g3.mono (by omega)); have hx3 := (g3.block _ (by omega)).trans hx2; have hz3 := z3.trans hz2; clear h2 g3 z3 hB2 hx2 hz2)
    | (refine wpList_insert_at rfl (.tmp 9) (.const (.int .i64 3)) (.func 191) 218 rfl 3 215 .i64 Tryz.underlying218 Tryz.underlying3 w1.heap.size rfl 3 rfl _ rfl #[⟨.int .i64 0, .func (.func 188) #[] #[], 0⟩, ⟨.int .i64 1, .func (.func 189) #[] #[], 1⟩, ⟨.int .i64 2, .func (.func 190) #[] #[], 2⟩] 3 h3 rfl ?_; intro v4 h4 g4 z4; have hB4 := hB3.trans (g4.mono (by omega)); have hx4 := (g4.block _ (by omega)).trans hx3; have hz4 := z4.trans hz3; clear h3 g4 z4 hB3 hx3 hz3; obtain ⟨c0, c1, c2, c3, c4, c5, c6⟩ := cells7 hx4; have h4' : v4.heap[w1.heap.size]? = some (.map #[⟨.int .i64 0, .func (.func 188) #[] #[], 0⟩, ⟨.int .i64 1, .func (.func 189) #[] #[], 1⟩, ⟨.int .i64 2, .func (.func 190) #[] #[], 2⟩, ⟨.int .i64 3, .func (.func 191) #[] #[], 3⟩] 4) := h4; clear h4 hx4 hx hlt hmm)
    | (refine wpList_lookup_at rfl (.tmp 11) (.tmp 13) 218 rfl 3 215 .i64 Tryz.underlying218 Tryz.underlying3 w1.heap.size rfl 2 rfl _ _ h4' 2 (.func (.func 190) #[] #[]) rfl ?_; clear h4'))
  refine (D _).mono ?_
  rintro e w2 ⟨rfl, hb⟩
  have hB5 := hB4.trans (hb.mono hB4.size)
  clear hb hB4 D c0 c1 c2 c3 c4 c5 c6 hz4
  go_wp2
  go_ret
  exact ⟨rfl, hB5⟩

set_option maxRecDepth 100000 in
set_option maxHeartbeats 2000000 in
theorem wnext_3a (c : Cfg) (n : Int) (w : World) (h : c.ok = true) (hwt : c.wt = 3) (hn : n < 0) : Calls Tryz.prog 177 #[c.val, .int .i64 n] w fun e w' => e = .returned (.int .i64 2) ∧ Below w.heap.size w w' := by
  have C := fun W => check_ok c W h
  have D := fun W => look_park c 0 W
  clear h
  obtain ⟨log, th, pol, wt, sp, yi, single⟩ := c
  dsimp only at hwt
  subst hwt
  go_enter Tryz.func177, Tryz.ntmps177
  go_wp2_with fail
  refine (C _).mono ?_
  rintro e w1 ⟨rfl, hb⟩
  rw [World.size_alloc] at hb
  have hx := box_kept ⟨log, th, pol, 3, sp, yi, single⟩ hb
  have hB := below_box hb
  clear C hb
  have h0 := World.alloc_heap_new w1 (.map #[] 0)
  have hB0 := hB.alloc hB.size (.map #[] 0)
  have hx0 := (Below.heap_alloc w1 (.map #[] 0) _ (Array.getElem?_eq_some_iff.1 hx).1).trans hx
  have hlt := (Array.getElem?_eq_some_iff.1 hx).1
  have hz0 : (w1.alloc (.map #[] 0)).heap.size = w1.heap.size + 1 := World.size_alloc _ _
  clear hB
  have hmm := @run_makeMap Tryz.prog
  go_wp2_with (first
    | (refine wpList_insert_at rfl (.tmp 9) (.const (.int .i64 0)) (.func 188) 218 rfl 3 215 .i64 Tryz.underlying218 Tryz.underlying3 w1.heap.size rfl 0 rfl _ rfl #[] 0 h0 rfl ?_; intro v1 h1 g1 z1; have hB1 := hB0.trans (g1.mono (by omega)); have hx1 := (g1.block _ (by omega)).trans hx0; have hz1 := z1.trans hz0; clear h0 g1 z1 hB0 hx0 hz0)
    | (refine wpList_insert_at rfl (.tmp 9) (.const (.int .i64 1)) (.func 189) 218 rfl 3 215 .i64 Tryz.underlying218 Tryz.underlying3 w1.heap.size rfl 1 rfl _ rfl #[⟨.int .i64 0, .func (.func 188) #[] #[], 0⟩] 1 h1 rfl ?_; intro v2 h2 g2 z2; have hB2 := hB1.trans (g2.mono (by omega)); have hx2 := (g2.block _ (by omega)).trans hx1; have hz2 := z2.trans hz1; clear h1 g2 z2 hB1 hx1 hz1)
    | (refine wpList_insert_at rfl (.tmp 9) (.const (.int .i64 2)) (.func 190) 218 rfl 3 215 .i64 Tryz.underlying218 Tryz.underlying3 w1.heap.size rfl 2 rfl _ rfl #[⟨.int .i64 0, .func (.func 188) #[] #[], 0⟩, ⟨.int .i64 1, .func (.func 189) #[] #[], 1⟩] 2 h2 rfl ?_; intro v3 h3 g3 z3; have hB3 := hB2.trans (g3.mono (by omega)); have hx3 := (g3.block _ (by omega)).trans hx2; have hz3 := z3.trans hz2; clear h2 g3 z3 hB2 hx2 hz2)
    | (refine wpList_insert_at rfl (.tmp 9) (.const (.int .i64 3)) (.func 191) 218 rfl 3 215 .i64 Tryz.underlying218 Tryz.underlying3 w1.heap.size rfl 3 rfl _ rfl #[⟨.int .i64 0, .func (.func 188) #[] #[], 0⟩, ⟨.int .i64 1, .func (.func 189) #[] #[], 1⟩, ⟨.int .i64 2, .func (.func 190) #[] #[], 2⟩] 3 h3 rfl ?_; intro v4 h4 g4 z4; have hB4 := hB3.trans (g4.mono (by omega)); have hx4 := (g4.block _ (by omega)).trans hx3; have hz4 := z4.trans hz3; clear h3 g4 z4 hB3 hx3 hz3; obtain ⟨c0, c1, c2, c3, c4, c5, c6⟩ := cells7 hx4; have h4' : v4.heap[w1.heap.size]? = some (.map #[⟨.int .i64 0, .func (.func 188) #[] #[], 0⟩, ⟨.int .i64 1, .func (.func 189) #[] #[], 1⟩, ⟨.int .i64 2, .func (.func 190) #[] #[], 2⟩, ⟨.int .i64 3, .func (.func 191) #[] #[], 3⟩] 4) := h4; clear h4 hx4 hx hlt hmm)
    | (refine wpList_lookup_at rfl (.tmp 11) (.tmp 13) 218 rfl 3 215 .i64 Tryz.underlying218 Tryz.underlying3 w1.heap.size rfl 3 rfl _ _ h4' 3 (.func (.func 191) #[] #[]) rfl ?_; clear h4'))
  refine (D _).mono ?_
  rintro e w2 ⟨rfl, hb⟩
  have hB5 := hB4.trans (hb.mono hB4.size)
  clear hb hB4 D c0 c1 c2 c3 c4 c5 c6 hz4
  go_wp2
  go_ret
  exact ⟨rfl, hB5⟩

set_option maxRecDepth 100000 in
set_option maxHeartbeats 2000000 in
theorem wnext_3b (c : Cfg) (n : Int) (w : World) (h : c.ok = true) (hwt : c.wt = 3) (hn : ¬ n < 0) : Calls Tryz.prog 177 #[c.val, .int .i64 n] w fun e w' => e = .returned (.int .i64 2) ∧ Below w.heap.size w w' := by
  have C := fun W => check_ok c W h
  have D := fun W => look_park c n W
  clear h
  obtain ⟨log, th, pol, wt, sp, yi, single⟩ := c
  dsimp only at hwt
  subst hwt
  go_enter Tryz.func177, Tryz.ntmps177
  go_wp2_with fail
  refine (C _).mono ?_
  rintro e w1 ⟨rfl, hb⟩
  rw [World.size_alloc] at hb
  have hx := box_kept ⟨log, th, pol, 3, sp, yi, single⟩ hb
  have hB := below_box hb
  clear C hb
  have h0 := World.alloc_heap_new w1 (.map #[] 0)
  have hB0 := hB.alloc hB.size (.map #[] 0)
  have hx0 := (Below.heap_alloc w1 (.map #[] 0) _ (Array.getElem?_eq_some_iff.1 hx).1).trans hx
  have hlt := (Array.getElem?_eq_some_iff.1 hx).1
  have hz0 : (w1.alloc (.map #[] 0)).heap.size = w1.heap.size + 1 := World.size_alloc _ _
  clear hB
  have hmm := @run_makeMap Tryz.prog
  go_wp2_with (first
    | (refine wpList_insert_at rfl (.tmp 9) (.const (.int .i64 0)) (.func 188) 218 rfl 3 215 .i64 Tryz.underlying218 Tryz.underlying3 w1.heap.size rfl 0 rfl _ rfl #[] 0 h0 rfl ?_; intro v1 h1 g1 z1; have hB1 := hB0.trans (g1.mono (by omega)); have hx1 := (g1.block _ (by omega)).trans hx0; have hz1 := z1.trans hz0; clear h0 g1 z1 hB0 hx0 hz0)
    | (refine wpList_insert_at rfl (.tmp 9) (.const (.int .i64 1)) (.func 189) 218 rfl 3 215 .i64 Tryz.underlying218 Tryz.underlying3 w1.heap.size rfl 1 rfl _ rfl #[⟨.int .i64 0, .func (.func 188) #[] #[], 0⟩] 1 h1 rfl ?_; intro v2 h2 g2 z2; have hB2 := hB1.trans (g2.mono (by omega)); have hx2 := (g2.block _ (by omega)).trans hx1; have hz2 := z2.trans hz1; clear h1 g2 z2 hB1 hx1 hz1)
    | (refine wpList_insert_at rfl (.tmp 9) (.const (.int .i64 2)) (.func 190) 218 rfl 3 215 .i64 Tryz.underlying218 Tryz.underlying3 w1.heap.size rfl 2 rfl _ rfl #[⟨.int .i64 0, .func (.func 188) #[] #[], 0⟩, ⟨.int .i64 1, .func (.func 189) #[] #[], 1⟩] 2 h2 rfl ?_; intro v3 h3 g3 z3; have hB3 := hB2.trans (g3.mono (by omega)); have hx3 := (g3.block _ (by omega)).trans hx2; have hz3 := z3.trans hz2; clear h2 g3 z3 hB2 hx2 hz2)
    | (refine wpList_insert_at rfl (.tmp 9) (.const (.int .i64 3)) (.func 191) 218 rfl 3 215 .i64 Tryz.underlying218 Tryz.underlying3 w1.heap.size rfl 3 rfl _ rfl #[⟨.int .i64 0, .func (.func 188) #[] #[], 0⟩, ⟨.int .i64 1, .func (.func 189) #[] #[], 1⟩, ⟨.int .i64 2, .func (.func 190) #[] #[], 2⟩] 3 h3 rfl ?_; intro v4 h4 g4 z4; have hB4 := hB3.trans (g4.mono (by omega)); have hx4 := (g4.block _ (by omega)).trans hx3; have hz4 := z4.trans hz3; clear h3 g4 z4 hB3 hx3 hz3; obtain ⟨c0, c1, c2, c3, c4, c5, c6⟩ := cells7 hx4; have h4' : v4.heap[w1.heap.size]? = some (.map #[⟨.int .i64 0, .func (.func 188) #[] #[], 0⟩, ⟨.int .i64 1, .func (.func 189) #[] #[], 1⟩, ⟨.int .i64 2, .func (.func 190) #[] #[], 2⟩, ⟨.int .i64 3, .func (.func 191) #[] #[], 3⟩] 4) := h4; clear h4 hx4 hx hlt hmm)
    | (refine wpList_lookup_at rfl (.tmp 11) (.tmp 13) 218 rfl 3 215 .i64 Tryz.underlying218 Tryz.underlying3 w1.heap.size rfl 3 rfl _ _ h4' 3 (.func (.func 191) #[] #[]) rfl ?_; clear h4'))
  refine (D _).mono ?_
  rintro e w2 ⟨rfl, hb⟩
  have hB5 := hB4.trans (hb.mono hB4.size)
  clear hb hB4 D c0 c1 c2 c3 c4 c5 c6 hz4
  go_wp2
  go_ret
  exact ⟨rfl, hB5⟩

theorem wnext_any (c : Cfg) (n : Int) (w : World) : Calls Tryz.prog 177 #[c.val, .int .i64 n] w fun e w' => e = .returned (.int .i64 (nextOf c n)) ∧ Below w.heap.size w w' := by
  by_cases h : c.ok = true
  · have hw := ((Cfg.ok_iff c).1 h).2.2.2.1
    have hk : c.wt = 0 ∨ c.wt = 1 ∨ c.wt = 2 ∨ c.wt = 3 := by omega
    rcases hk with hk | hk | hk | hk
    all_goals by_cases hn : n < 0
    · have e : nextOf c n = 0 := by simp [nextOf, h, hk]
      rw [e]
      exact wnext_0a c n w h hk hn
    · have e : nextOf c n = 0 := by simp [nextOf, h, hk]
      rw [e]
      exact wnext_0b c n w h hk hn
    · have e : nextOf c n = 1 := by simp [nextOf, h, hk]
      rw [e]
      exact wnext_1a c n w h hk hn
    · have e : nextOf c n = 1 := by simp [nextOf, h, hk]
      rw [e]
      exact wnext_1b c n w h hk hn
    · have e : nextOf c n = phaseOf c 0 := by simp [nextOf, h, hk, show max n 0 = 0 by omega]
      rw [e]
      exact wnext_2a c n w h hk hn
    · have e : nextOf c n = phaseOf c n := by simp [nextOf, h, hk, show max n 0 = n by omega]
      rw [e]
      exact wnext_2b c n w h hk hn
    · have e : nextOf c n = 2 := by simp [nextOf, h, hk]
      rw [e]
      exact wnext_3a c n w h hk hn
    · have e : nextOf c n = 2 := by simp [nextOf, h, hk]
      rw [e]
      exact wnext_3b c n w h hk hn
  · exact wnext_no c n w (by simpa using h)
theorem wnext_at (r : Int) (c : Cfg) (n : Int) (w : World) (h : nextOf c n = r) : Calls Tryz.prog 177 #[c.val, .int .i64 n] w fun e w' => e = .returned (.int .i64 r) ∧ Below w.heap.size w w' :=
  (wnext_any c n w).mono fun _ _ ⟨he, hb⟩ => ⟨by rw [he, h], hb⟩

end Go.Proofs.YtnbgpopjnpdmgaaGreat
