/-
  ConfEdges, for every configuration: the law's Go function returns true, and the argument reads afterwards as it read before. No condition beside those that the given statement itself bears. (Printed by mk_confedges.py.)
-/
import Derived.Test.YtolkmpfnomeklaaRows
import Derived.Test.YtolkmpfnomeklaaOpen
namespace Go.Proofs.Ytolkmpfnomeklaa
open Go Go.ChangeShapes Go.WideShapes Go.ChangeAt Go.RowKit

theorem no_of (c : Cfg) (h : ¬((1 ≤ c.log ∧ c.log ≤ 6) ∧ (1 ≤ c.th ∧ c.th ≤ 16) ∧ (0 ≤ c.pol ∧ c.pol ≤ 2) ∧ (0 ≤ c.wt ∧ c.wt ≤ 3) ∧ (0 ≤ c.sp ∧ c.sp ≤ c.most) ∧ (0 ≤ c.yi ∧ c.yi ≤ c.most))) : c.ok = false := by
  rw [← Bool.not_eq_true, Cfg.ok_iff]
  exact h
theorem most_le (c : Cfg) : 0 ≤ c.most ∧ c.most ≤ 8 := by unfold Cfg.most; split <;> omega

set_option maxRecDepth 100000 in
set_option maxHeartbeats 4000000 in
theorem confEdges_no (c : Cfg) (w : World) (h : c.ok = false) : Calls Try.prog 5 #[c.val] w fun e w' => e = .returned (.bool true) ∧ Below w.heap.size w w' := by
  obtain ⟨log, th, pol, wt, sp, yi, single⟩ := c
  have C1 := fun W => check_no _ W h
  clear h
  go_enter Try.func5, Try.ntmps5
  go_wp2_with fail
  refine (awake_any _).mono ?_
  rintro e w1 ⟨rfl, hb⟩
  rw [World.size_alloc] at hb
  have hx := box_kept ⟨log, th, pol, wt, sp, yi, single⟩ hb
  have hB := below_box hb
  clear hb
  obtain ⟨hx_0, hx_1, hx_2, hx_3, hx_4, hx_5, hx_6⟩ := cells7 hx
  go_wp2_with fail
  refine (C1 _).mono ?_
  rintro e w2 ⟨rfl, hb⟩
  clear hx_0 hx_1 hx_2 hx_3 hx_4 hx_5 hx_6
  replace hx := (hb.block _ (Array.getElem?_eq_some_iff.1 hx).1).trans hx
  replace hB := hB.trans (hb.mono hB.size)
  clear hb
  clear C1 hx
  go_wp2
  go_ret
  exact ⟨rfl, hB⟩

set_option maxRecDepth 100000 in
set_option maxHeartbeats 4000000 in
theorem confEdges_ok (c : Cfg) (w : World) (h : c.ok = true) : Calls Try.prog 5 #[c.val] w fun e w' => e = .returned (.bool true) ∧ Below w.heap.size w w' := by
  have h1 := (Cfg.ok_iff c).1 h
  have hm := most_le c
  obtain ⟨log, th, pol, wt, sp, yi, single⟩ := c
  have e7 : Cfg.ok ⟨log, th, pol, wt, sp, yi, !single⟩ = true := (Cfg.ok_iff _).2 h1
  dsimp only at h1
  have e1 : Cfg.ok ⟨7, th, pol, wt, sp, yi, single⟩ = false := no_of _ (by have := most_le ⟨7, th, pol, wt, sp, yi, single⟩; dsimp only; omega)
  have e2 : Cfg.ok ⟨log, 17, pol, wt, sp, yi, single⟩ = false := no_of _ (by have := most_le ⟨log, 17, pol, wt, sp, yi, single⟩; dsimp only; omega)
  have e3 : Cfg.ok ⟨log, th, 3, wt, sp, yi, single⟩ = false := no_of _ (by have := most_le ⟨log, th, 3, wt, sp, yi, single⟩; dsimp only; omega)
  have e4 : Cfg.ok ⟨log, th, pol, 4, sp, yi, single⟩ = false := no_of _ (by have := most_le ⟨log, th, pol, 4, sp, yi, single⟩; dsimp only; omega)
  have e5 : Cfg.ok ⟨log, th, pol, wt, 9, yi, single⟩ = false := no_of _ (by have := most_le ⟨log, th, pol, wt, 9, yi, single⟩; dsimp only; omega)
  have e6 : Cfg.ok ⟨log, th, pol, wt, sp, -1, single⟩ = false := no_of _ (by have := most_le ⟨log, th, pol, wt, sp, -1, single⟩; dsimp only; omega)
  have C0 := fun W => check_ok _ W h
  have C1 := fun W => check_no _ W e1
  have C2 := fun W => check_no _ W e2
  have C3 := fun W => check_no _ W e3
  have C4 := fun W => check_no _ W e4
  have C5 := fun W => check_no _ W e5
  have C6 := fun W => check_no _ W e6
  have C7 := fun W => check_ok _ W e7
  clear h h1 hm e1 e2 e3 e4 e5 e6 e7
  go_enter Try.func5, Try.ntmps5
  go_wp2_with fail
  refine (awake_any _).mono ?_
  rintro e w1 ⟨rfl, hb⟩
  rw [World.size_alloc] at hb
  have hx := box_kept ⟨log, th, pol, wt, sp, yi, single⟩ hb
  have hB := below_box hb
  clear hb
  obtain ⟨hx_0, hx_1, hx_2, hx_3, hx_4, hx_5, hx_6⟩ := cells7 hx
  go_wp2_with fail
  refine (C0 _).mono ?_
  rintro e w2 ⟨rfl, hb⟩
  clear hx_0 hx_1 hx_2 hx_3 hx_4 hx_5 hx_6
  replace hx := (hb.block _ (Array.getElem?_eq_some_iff.1 hx).1).trans hx
  replace hB := hB.trans (hb.mono hB.size)
  clear hb
  clear C0
  obtain ⟨hx_0, hx_1, hx_2, hx_3, hx_4, hx_5, hx_6⟩ := cells7 hx
  have hlt := (Array.getElem?_eq_some_iff.1 hx).1
  have hn1 : w.heap.size < w2.heap.size + 1 := by omega
  have hp1 : w.heap.size ≤ w2.heap.size := by omega
  have hn2 : w.heap.size < w2.heap.size + 1 + 1 := by omega
  have hp2 : w.heap.size ≤ w2.heap.size + 1 := by omega
  have hn3 : w.heap.size < w2.heap.size + 1 + 1 + 1 := by omega
  have hp3 : w.heap.size ≤ w2.heap.size + 1 + 1 := by omega
  have hn4 : w.heap.size < w2.heap.size + 1 + 1 + 1 + 1 := by omega
  have hp4 : w.heap.size ≤ w2.heap.size + 1 + 1 + 1 := by omega
  have hn5 : w.heap.size < w2.heap.size + 1 + 1 + 1 + 1 + 1 := by omega
  have hp5 : w.heap.size ≤ w2.heap.size + 1 + 1 + 1 + 1 := by omega
  have hn6 : w.heap.size < w2.heap.size + 1 + 1 + 1 + 1 + 1 + 1 := by omega
  have hp6 : w.heap.size ≤ w2.heap.size + 1 + 1 + 1 + 1 + 1 := by omega
  go_wp2_with fail
  clear hn1 hn2 hn3 hn4 hn5 hn6 hp1 hp2 hp3 hp4 hp5 hp6
  have hm0 := World.alloc_heap_new w2 (.cells (Cfg.cells ⟨7, th, pol, wt, sp, yi, single⟩) 23)
  replace hx := (Below.heap_alloc _ (.cells (Cfg.cells ⟨7, th, pol, wt, sp, yi, single⟩) 23) _ (Array.getElem?_eq_some_iff.1 hx).1).trans hx
  replace hB := hB.alloc hB.size (.cells (Cfg.cells ⟨7, th, pol, wt, sp, yi, single⟩) 23)
  try simp only [World.size_alloc] at hm0
  have hm1 := World.alloc_heap_new (w2.alloc (.cells (Cfg.cells ⟨7, th, pol, wt, sp, yi, single⟩) 23)) (.cells (Cfg.cells ⟨log, 17, pol, wt, sp, yi, single⟩) 23)
  replace hx := (Below.heap_alloc _ (.cells (Cfg.cells ⟨log, 17, pol, wt, sp, yi, single⟩) 23) _ (Array.getElem?_eq_some_iff.1 hx).1).trans hx
  replace hm0 := (Below.heap_alloc _ (.cells (Cfg.cells ⟨log, 17, pol, wt, sp, yi, single⟩) 23) _ (Array.getElem?_eq_some_iff.1 hm0).1).trans hm0
  replace hB := hB.alloc hB.size (.cells (Cfg.cells ⟨log, 17, pol, wt, sp, yi, single⟩) 23)
  try simp only [World.size_alloc] at hm1
  have hm2 := World.alloc_heap_new ((w2.alloc (.cells (Cfg.cells ⟨7, th, pol, wt, sp, yi, single⟩) 23)).alloc (.cells (Cfg.cells ⟨log, 17, pol, wt, sp, yi, single⟩) 23)) (.cells (Cfg.cells ⟨log, th, 3, wt, sp, yi, single⟩) 23)
  replace hx := (Below.heap_alloc _ (.cells (Cfg.cells ⟨log, th, 3, wt, sp, yi, single⟩) 23) _ (Array.getElem?_eq_some_iff.1 hx).1).trans hx
  replace hm0 := (Below.heap_alloc _ (.cells (Cfg.cells ⟨log, th, 3, wt, sp, yi, single⟩) 23) _ (Array.getElem?_eq_some_iff.1 hm0).1).trans hm0
  replace hm1 := (Below.heap_alloc _ (.cells (Cfg.cells ⟨log, th, 3, wt, sp, yi, single⟩) 23) _ (Array.getElem?_eq_some_iff.1 hm1).1).trans hm1
  replace hB := hB.alloc hB.size (.cells (Cfg.cells ⟨log, th, 3, wt, sp, yi, single⟩) 23)
  try simp only [World.size_alloc] at hm2
  have hm3 := World.alloc_heap_new (((w2.alloc (.cells (Cfg.cells ⟨7, th, pol, wt, sp, yi, single⟩) 23)).alloc (.cells (Cfg.cells ⟨log, 17, pol, wt, sp, yi, single⟩) 23)).alloc (.cells (Cfg.cells ⟨log, th, 3, wt, sp, yi, single⟩) 23)) (.cells (Cfg.cells ⟨log, th, pol, 4, sp, yi, single⟩) 23)
  replace hx := (Below.heap_alloc _ (.cells (Cfg.cells ⟨log, th, pol, 4, sp, yi, single⟩) 23) _ (Array.getElem?_eq_some_iff.1 hx).1).trans hx
  replace hm0 := (Below.heap_alloc _ (.cells (Cfg.cells ⟨log, th, pol, 4, sp, yi, single⟩) 23) _ (Array.getElem?_eq_some_iff.1 hm0).1).trans hm0
  replace hm1 := (Below.heap_alloc _ (.cells (Cfg.cells ⟨log, th, pol, 4, sp, yi, single⟩) 23) _ (Array.getElem?_eq_some_iff.1 hm1).1).trans hm1
  replace hm2 := (Below.heap_alloc _ (.cells (Cfg.cells ⟨log, th, pol, 4, sp, yi, single⟩) 23) _ (Array.getElem?_eq_some_iff.1 hm2).1).trans hm2
  replace hB := hB.alloc hB.size (.cells (Cfg.cells ⟨log, th, pol, 4, sp, yi, single⟩) 23)
  try simp only [World.size_alloc] at hm3
  have hm4 := World.alloc_heap_new ((((w2.alloc (.cells (Cfg.cells ⟨7, th, pol, wt, sp, yi, single⟩) 23)).alloc (.cells (Cfg.cells ⟨log, 17, pol, wt, sp, yi, single⟩) 23)).alloc (.cells (Cfg.cells ⟨log, th, 3, wt, sp, yi, single⟩) 23)).alloc (.cells (Cfg.cells ⟨log, th, pol, 4, sp, yi, single⟩) 23)) (.cells (Cfg.cells ⟨log, th, pol, wt, 9, yi, single⟩) 23)
  replace hx := (Below.heap_alloc _ (.cells (Cfg.cells ⟨log, th, pol, wt, 9, yi, single⟩) 23) _ (Array.getElem?_eq_some_iff.1 hx).1).trans hx
  replace hm0 := (Below.heap_alloc _ (.cells (Cfg.cells ⟨log, th, pol, wt, 9, yi, single⟩) 23) _ (Array.getElem?_eq_some_iff.1 hm0).1).trans hm0
  replace hm1 := (Below.heap_alloc _ (.cells (Cfg.cells ⟨log, th, pol, wt, 9, yi, single⟩) 23) _ (Array.getElem?_eq_some_iff.1 hm1).1).trans hm1
  replace hm2 := (Below.heap_alloc _ (.cells (Cfg.cells ⟨log, th, pol, wt, 9, yi, single⟩) 23) _ (Array.getElem?_eq_some_iff.1 hm2).1).trans hm2
  replace hm3 := (Below.heap_alloc _ (.cells (Cfg.cells ⟨log, th, pol, wt, 9, yi, single⟩) 23) _ (Array.getElem?_eq_some_iff.1 hm3).1).trans hm3
  replace hB := hB.alloc hB.size (.cells (Cfg.cells ⟨log, th, pol, wt, 9, yi, single⟩) 23)
  try simp only [World.size_alloc] at hm4
  have hm5 := World.alloc_heap_new (((((w2.alloc (.cells (Cfg.cells ⟨7, th, pol, wt, sp, yi, single⟩) 23)).alloc (.cells (Cfg.cells ⟨log, 17, pol, wt, sp, yi, single⟩) 23)).alloc (.cells (Cfg.cells ⟨log, th, 3, wt, sp, yi, single⟩) 23)).alloc (.cells (Cfg.cells ⟨log, th, pol, 4, sp, yi, single⟩) 23)).alloc (.cells (Cfg.cells ⟨log, th, pol, wt, 9, yi, single⟩) 23)) (.cells (Cfg.cells ⟨log, th, pol, wt, sp, -1, single⟩) 23)
  replace hx := (Below.heap_alloc _ (.cells (Cfg.cells ⟨log, th, pol, wt, sp, -1, single⟩) 23) _ (Array.getElem?_eq_some_iff.1 hx).1).trans hx
  replace hm0 := (Below.heap_alloc _ (.cells (Cfg.cells ⟨log, th, pol, wt, sp, -1, single⟩) 23) _ (Array.getElem?_eq_some_iff.1 hm0).1).trans hm0
  replace hm1 := (Below.heap_alloc _ (.cells (Cfg.cells ⟨log, th, pol, wt, sp, -1, single⟩) 23) _ (Array.getElem?_eq_some_iff.1 hm1).1).trans hm1
  replace hm2 := (Below.heap_alloc _ (.cells (Cfg.cells ⟨log, th, pol, wt, sp, -1, single⟩) 23) _ (Array.getElem?_eq_some_iff.1 hm2).1).trans hm2
  replace hm3 := (Below.heap_alloc _ (.cells (Cfg.cells ⟨log, th, pol, wt, sp, -1, single⟩) 23) _ (Array.getElem?_eq_some_iff.1 hm3).1).trans hm3
  replace hm4 := (Below.heap_alloc _ (.cells (Cfg.cells ⟨log, th, pol, wt, sp, -1, single⟩) 23) _ (Array.getElem?_eq_some_iff.1 hm4).1).trans hm4
  replace hB := hB.alloc hB.size (.cells (Cfg.cells ⟨log, th, pol, wt, sp, -1, single⟩) 23)
  try simp only [World.size_alloc] at hm5
  have hm6 := World.alloc_heap_new ((((((w2.alloc (.cells (Cfg.cells ⟨7, th, pol, wt, sp, yi, single⟩) 23)).alloc (.cells (Cfg.cells ⟨log, 17, pol, wt, sp, yi, single⟩) 23)).alloc (.cells (Cfg.cells ⟨log, th, 3, wt, sp, yi, single⟩) 23)).alloc (.cells (Cfg.cells ⟨log, th, pol, 4, sp, yi, single⟩) 23)).alloc (.cells (Cfg.cells ⟨log, th, pol, wt, 9, yi, single⟩) 23)).alloc (.cells (Cfg.cells ⟨log, th, pol, wt, sp, -1, single⟩) 23)) (.cells (Cfg.cells ⟨log, th, pol, wt, sp, yi, !single⟩) 23)
  replace hx := (Below.heap_alloc _ (.cells (Cfg.cells ⟨log, th, pol, wt, sp, yi, !single⟩) 23) _ (Array.getElem?_eq_some_iff.1 hx).1).trans hx
  replace hm0 := (Below.heap_alloc _ (.cells (Cfg.cells ⟨log, th, pol, wt, sp, yi, !single⟩) 23) _ (Array.getElem?_eq_some_iff.1 hm0).1).trans hm0
  replace hm1 := (Below.heap_alloc _ (.cells (Cfg.cells ⟨log, th, pol, wt, sp, yi, !single⟩) 23) _ (Array.getElem?_eq_some_iff.1 hm1).1).trans hm1
  replace hm2 := (Below.heap_alloc _ (.cells (Cfg.cells ⟨log, th, pol, wt, sp, yi, !single⟩) 23) _ (Array.getElem?_eq_some_iff.1 hm2).1).trans hm2
  replace hm3 := (Below.heap_alloc _ (.cells (Cfg.cells ⟨log, th, pol, wt, sp, yi, !single⟩) 23) _ (Array.getElem?_eq_some_iff.1 hm3).1).trans hm3
  replace hm4 := (Below.heap_alloc _ (.cells (Cfg.cells ⟨log, th, pol, wt, sp, yi, !single⟩) 23) _ (Array.getElem?_eq_some_iff.1 hm4).1).trans hm4
  replace hm5 := (Below.heap_alloc _ (.cells (Cfg.cells ⟨log, th, pol, wt, sp, yi, !single⟩) 23) _ (Array.getElem?_eq_some_iff.1 hm5).1).trans hm5
  replace hB := hB.alloc hB.size (.cells (Cfg.cells ⟨log, th, pol, wt, sp, yi, !single⟩) 23)
  try simp only [World.size_alloc] at hm6
  refine (C1 _).mono ?_
  rintro e w3 ⟨rfl, hb⟩
  clear hx_0 hx_1 hx_2 hx_3 hx_4 hx_5 hx_6
  replace hx := (hb.block _ (Array.getElem?_eq_some_iff.1 hx).1).trans hx
  replace hm0 := (hb.block _ (Array.getElem?_eq_some_iff.1 hm0).1).trans hm0
  replace hm1 := (hb.block _ (Array.getElem?_eq_some_iff.1 hm1).1).trans hm1
  replace hm2 := (hb.block _ (Array.getElem?_eq_some_iff.1 hm2).1).trans hm2
  replace hm3 := (hb.block _ (Array.getElem?_eq_some_iff.1 hm3).1).trans hm3
  replace hm4 := (hb.block _ (Array.getElem?_eq_some_iff.1 hm4).1).trans hm4
  replace hm5 := (hb.block _ (Array.getElem?_eq_some_iff.1 hm5).1).trans hm5
  replace hm6 := (hb.block _ (Array.getElem?_eq_some_iff.1 hm6).1).trans hm6
  replace hB := hB.trans (hb.mono hB.size)
  clear hb
  clear C1
  obtain ⟨hm1_0, hm1_1, hm1_2, hm1_3, hm1_4, hm1_5, hm1_6⟩ := cells7 hm1
  go_wp2_with fail
  refine (C2 _).mono ?_
  rintro e w4 ⟨rfl, hb⟩
  clear hm1_0 hm1_1 hm1_2 hm1_3 hm1_4 hm1_5 hm1_6
  replace hx := (hb.block _ (Array.getElem?_eq_some_iff.1 hx).1).trans hx
  replace hm0 := (hb.block _ (Array.getElem?_eq_some_iff.1 hm0).1).trans hm0
  replace hm1 := (hb.block _ (Array.getElem?_eq_some_iff.1 hm1).1).trans hm1
  replace hm2 := (hb.block _ (Array.getElem?_eq_some_iff.1 hm2).1).trans hm2
  replace hm3 := (hb.block _ (Array.getElem?_eq_some_iff.1 hm3).1).trans hm3
  replace hm4 := (hb.block _ (Array.getElem?_eq_some_iff.1 hm4).1).trans hm4
  replace hm5 := (hb.block _ (Array.getElem?_eq_some_iff.1 hm5).1).trans hm5
  replace hm6 := (hb.block _ (Array.getElem?_eq_some_iff.1 hm6).1).trans hm6
  replace hB := hB.trans (hb.mono hB.size)
  clear hb
  clear C2
  obtain ⟨hm2_0, hm2_1, hm2_2, hm2_3, hm2_4, hm2_5, hm2_6⟩ := cells7 hm2
  go_wp2_with fail
  refine (C3 _).mono ?_
  rintro e w5 ⟨rfl, hb⟩
  clear hm2_0 hm2_1 hm2_2 hm2_3 hm2_4 hm2_5 hm2_6
  replace hx := (hb.block _ (Array.getElem?_eq_some_iff.1 hx).1).trans hx
  replace hm0 := (hb.block _ (Array.getElem?_eq_some_iff.1 hm0).1).trans hm0
  replace hm1 := (hb.block _ (Array.getElem?_eq_some_iff.1 hm1).1).trans hm1
  replace hm2 := (hb.block _ (Array.getElem?_eq_some_iff.1 hm2).1).trans hm2
  replace hm3 := (hb.block _ (Array.getElem?_eq_some_iff.1 hm3).1).trans hm3
  replace hm4 := (hb.block _ (Array.getElem?_eq_some_iff.1 hm4).1).trans hm4
  replace hm5 := (hb.block _ (Array.getElem?_eq_some_iff.1 hm5).1).trans hm5
  replace hm6 := (hb.block _ (Array.getElem?_eq_some_iff.1 hm6).1).trans hm6
  replace hB := hB.trans (hb.mono hB.size)
  clear hb
  clear C3
  obtain ⟨hm3_0, hm3_1, hm3_2, hm3_3, hm3_4, hm3_5, hm3_6⟩ := cells7 hm3
  go_wp2_with fail
  refine (C4 _).mono ?_
  rintro e w6 ⟨rfl, hb⟩
  clear hm3_0 hm3_1 hm3_2 hm3_3 hm3_4 hm3_5 hm3_6
  replace hx := (hb.block _ (Array.getElem?_eq_some_iff.1 hx).1).trans hx
  replace hm0 := (hb.block _ (Array.getElem?_eq_some_iff.1 hm0).1).trans hm0
  replace hm1 := (hb.block _ (Array.getElem?_eq_some_iff.1 hm1).1).trans hm1
  replace hm2 := (hb.block _ (Array.getElem?_eq_some_iff.1 hm2).1).trans hm2
  replace hm3 := (hb.block _ (Array.getElem?_eq_some_iff.1 hm3).1).trans hm3
  replace hm4 := (hb.block _ (Array.getElem?_eq_some_iff.1 hm4).1).trans hm4
  replace hm5 := (hb.block _ (Array.getElem?_eq_some_iff.1 hm5).1).trans hm5
  replace hm6 := (hb.block _ (Array.getElem?_eq_some_iff.1 hm6).1).trans hm6
  replace hB := hB.trans (hb.mono hB.size)
  clear hb
  clear C4
  obtain ⟨hm4_0, hm4_1, hm4_2, hm4_3, hm4_4, hm4_5, hm4_6⟩ := cells7 hm4
  go_wp2_with fail
  refine (C5 _).mono ?_
  rintro e w7 ⟨rfl, hb⟩
  clear hm4_0 hm4_1 hm4_2 hm4_3 hm4_4 hm4_5 hm4_6
  replace hx := (hb.block _ (Array.getElem?_eq_some_iff.1 hx).1).trans hx
  replace hm0 := (hb.block _ (Array.getElem?_eq_some_iff.1 hm0).1).trans hm0
  replace hm1 := (hb.block _ (Array.getElem?_eq_some_iff.1 hm1).1).trans hm1
  replace hm2 := (hb.block _ (Array.getElem?_eq_some_iff.1 hm2).1).trans hm2
  replace hm3 := (hb.block _ (Array.getElem?_eq_some_iff.1 hm3).1).trans hm3
  replace hm4 := (hb.block _ (Array.getElem?_eq_some_iff.1 hm4).1).trans hm4
  replace hm5 := (hb.block _ (Array.getElem?_eq_some_iff.1 hm5).1).trans hm5
  replace hm6 := (hb.block _ (Array.getElem?_eq_some_iff.1 hm6).1).trans hm6
  replace hB := hB.trans (hb.mono hB.size)
  clear hb
  clear C5
  obtain ⟨hm5_0, hm5_1, hm5_2, hm5_3, hm5_4, hm5_5, hm5_6⟩ := cells7 hm5
  go_wp2_with fail
  refine (C6 _).mono ?_
  rintro e w8 ⟨rfl, hb⟩
  clear hm5_0 hm5_1 hm5_2 hm5_3 hm5_4 hm5_5 hm5_6
  replace hx := (hb.block _ (Array.getElem?_eq_some_iff.1 hx).1).trans hx
  replace hm0 := (hb.block _ (Array.getElem?_eq_some_iff.1 hm0).1).trans hm0
  replace hm1 := (hb.block _ (Array.getElem?_eq_some_iff.1 hm1).1).trans hm1
  replace hm2 := (hb.block _ (Array.getElem?_eq_some_iff.1 hm2).1).trans hm2
  replace hm3 := (hb.block _ (Array.getElem?_eq_some_iff.1 hm3).1).trans hm3
  replace hm4 := (hb.block _ (Array.getElem?_eq_some_iff.1 hm4).1).trans hm4
  replace hm5 := (hb.block _ (Array.getElem?_eq_some_iff.1 hm5).1).trans hm5
  replace hm6 := (hb.block _ (Array.getElem?_eq_some_iff.1 hm6).1).trans hm6
  replace hB := hB.trans (hb.mono hB.size)
  clear hb
  clear C6
  obtain ⟨hm6_0, hm6_1, hm6_2, hm6_3, hm6_4, hm6_5, hm6_6⟩ := cells7 hm6
  go_wp2_with fail
  refine (C7 _).mono ?_
  rintro e w9 ⟨rfl, hb⟩
  clear hm6_0 hm6_1 hm6_2 hm6_3 hm6_4 hm6_5 hm6_6
  replace hx := (hb.block _ (Array.getElem?_eq_some_iff.1 hx).1).trans hx
  replace hm0 := (hb.block _ (Array.getElem?_eq_some_iff.1 hm0).1).trans hm0
  replace hm1 := (hb.block _ (Array.getElem?_eq_some_iff.1 hm1).1).trans hm1
  replace hm2 := (hb.block _ (Array.getElem?_eq_some_iff.1 hm2).1).trans hm2
  replace hm3 := (hb.block _ (Array.getElem?_eq_some_iff.1 hm3).1).trans hm3
  replace hm4 := (hb.block _ (Array.getElem?_eq_some_iff.1 hm4).1).trans hm4
  replace hm5 := (hb.block _ (Array.getElem?_eq_some_iff.1 hm5).1).trans hm5
  replace hm6 := (hb.block _ (Array.getElem?_eq_some_iff.1 hm6).1).trans hm6
  replace hB := hB.trans (hb.mono hB.size)
  clear hb
  clear C7
  clear hlt hx hm0 hm1 hm2 hm3 hm4 hm5 hm6
  go_wp2
  go_ret
  exact ⟨rfl, hB⟩

theorem confEdges_walk (c : Cfg) (w : World) : Calls Try.prog 5 #[c.val] w fun e w' => e = .returned (.bool true) ∧ Below w.heap.size w w' := by
  by_cases h : c.ok = true
  · exact confEdges_ok c w h
  · exact confEdges_no c w (by simpa using h)

/-! ### The row -/
set_option maxRecDepth 100000 in
theorem confEdges_lifted (os : Os) (started : os.Started) (H : Type) (enc : TypeId × Value → H) :
    ReturnsInHanded {} Try.checked os 5 .any (Rows.confEdgesSpec.pre6 enc Try.prog Try.f5 Rows.confEdgesRow.domain false) (Rows.confEdgesSpec.post enc Try.prog Try.f5 false true false false) := by
  refine returnsInHanded_of_change (C := Try.checked) own started (by kernel_rfl) Try.func5
    (ChangeSpec.witness6 (enc := enc) (C := Try.checked) false ⟨#[], #[.agg #[.int .i64 0, .int .i64 0, .int .i64 0, .int .i64 0, .int .i64 0, .int .i64 0, .bool false]], []⟩ 8 (by kernel_rfl) (by kernel_rfl) (by kernel_rfl) (by kernel_rfl)) ?_
  intro W base args ds gs before hval0 hW hcnd _
  have hval : ∀ (j : Nat) t v, Try.f5.params[j]? = some t → args[j]? = some v → Value.okWide Try.prog W .any base t v := hval0
  have hW' := hW
  obtain ⟨p, q, hA0, hV, rfl, hfz, hnd⟩ := hW
  have hA : DataW.TrodAll enc Try.prog W 0 (fun _ => true) true Try.f5.params.toList args.toList ds p := hA0
  rw [Try.params5] at hA hval
  obtain ⟨v0, vs0, d0, ds0, p0, q0, hargs, rfl, rfl, h0, r0⟩ := trodAll_cons hA
  obtain ⟨rfl, rfl, rfl⟩ := trodAll_nil r0
  obtain rfl : args = #[v0] := by cases args; simp_all
  obtain ⟨rfl, rfl⟩ := trodVars_none hV
  have k0 := h0
  have lt0 : ∀ x ∈ p0, x.block < W.heap.size := by obtain ⟨m, hm⟩ := k0; exact DataW.trod_lt m _ _ _ hm
  obtain ⟨c0, rfl, w0⟩ := open_cfg (hval 0 23 v0 rfl rfl) h0
  clear hA0 hval0
  refine (confEdges_walk c0 W).mono fun e W' ⟨he, bel⟩ => ?_
  subst he
  exact ⟨_, rfl, _, _, _, [], _, [], hW', trodAll_mk1 (shut_bool Try.underlying4 _), (trodAll_cons_mk (Below.trod laidOut (by kernel_rfl) (of_decide_eq_true (by kernel_rfl)) k0 bel lt0) trodAll_mk0), rfl, bel.frame _, fun h => by cases h⟩

theorem confEdges_over : Rows.confEdgesRow.holds Try.pinned (OpenSpec.ofChange Rows.confEdgesSpec) :=
  OpenClaim.holds_of_wide 5 Try.f5 rfl rfl rfl rfl rfl rfl rfl ⟨rfl, rfl, rfl, rfl, rfl⟩ rfl rfl rfl rfl rfl (by kernel_rfl) Try.func5 (by kernel_rfl)
    (of_decide_eq_true (by kernel_rfl)) (by unfold Func.isWrapper; first | (rw [if_pos (by decide +kernel)]; kernel_rfl) | (rw [if_neg (by decide +kernel)]; exact ⟨rfl, rfl⟩))
    (fun os started H enc _ => confEdges_lifted os started H enc)

/-- The statement. -/
theorem confEdges_holds : Rows.ConfEdgesSaid := confEdges_over
#print axioms confEdges_holds

end Go.Proofs.Ytolkmpfnomeklaa
