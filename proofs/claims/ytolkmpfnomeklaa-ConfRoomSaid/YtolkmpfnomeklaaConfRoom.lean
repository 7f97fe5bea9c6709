/-
  ConfRoom, for every configuration: the law's Go function returns true, and the argument reads afterwards as it read before. No condition beside those that the given statement itself bears.
-/
import Derived.Test.YtolkmpfnomeklaaRows
import Derived.Test.YtolkmpfnomeklaaOpen
namespace Go.Proofs.Ytolkmpfnomeklaa
open Go Go.ChangeShapes Go.WideShapes Go.ChangeAt Go.RowKit

theorem ok_of (c : Cfg) (h : (1 ≤ c.log ∧ c.log ≤ 6) ∧ (1 ≤ c.th ∧ c.th ≤ 16) ∧ (0 ≤ c.pol ∧ c.pol ≤ 2) ∧ (0 ≤ c.wt ∧ c.wt ≤ 3) ∧ (0 ≤ c.sp ∧ c.sp ≤ c.most) ∧ (0 ≤ c.yi ∧ c.yi ≤ c.most)) : c.ok = true := (Cfg.ok_iff c).2 h

set_option maxRecDepth 100000 in
set_option maxHeartbeats 4000000 in
theorem confRoom_no (c : Cfg) (w : World) (h : c.ok = false) : Calls Try.prog 4 #[c.val] w fun e w' => e = .returned (.bool true) ∧ Below w.heap.size w w' := by
  have hr : c.room = 0 := by simp [Cfg.room, h]
  have hp : c.parks = false := by simp [Cfg.parks, h]
  have ht : c.tries = 0 := by simp [Cfg.tries, hp]
  obtain ⟨log, th, pol, wt, sp, yi, single⟩ := c
  have C1 := fun W => room_at 0 _ W hr
  have C2 := fun W => check_no _ W h
  have C3 := fun W => tries_at 0 _ W ht
  have C4 := fun W => parks_not _ W hp
  clear h hr hp ht
  go_enter Try.func4, Try.ntmps4
  go_wp2_with fail
  refine (awake_any _).mono ?_
  rintro e w1 ⟨rfl, hb⟩
  rw [World.size_alloc] at hb
  have hx := box_kept ⟨log, th, pol, wt, sp, yi, single⟩ hb
  have hB := below_box hb
  clear hb
  obtain ⟨c0, c1, c2, c3, c4, c5, c6⟩ := cells7 hx
  go_wp2_with fail
  refine (C1 _).mono ?_
  rintro e w2 ⟨rfl, hb⟩
  clear C1 c0 c1 c2 c3 c4 c5 c6
  replace hx := (hb.block _ (Array.getElem?_eq_some_iff.1 hx).1).trans hx
  replace hB := hB.trans (hb.mono hB.size)
  clear hb
  obtain ⟨c0, c1, c2, c3, c4, c5, c6⟩ := cells7 hx
  go_wp2_with fail
  refine (C2 _).mono ?_
  rintro e w3 ⟨rfl, hb⟩
  clear C2 c0 c1 c2 c3 c4 c5 c6
  replace hx := (hb.block _ (Array.getElem?_eq_some_iff.1 hx).1).trans hx
  replace hB := hB.trans (hb.mono hB.size)
  clear hb
  obtain ⟨c0, c1, c2, c3, c4, c5, c6⟩ := cells7 hx
  go_wp2_with fail
  refine (C3 _).mono ?_
  rintro e w4 ⟨rfl, hb⟩
  clear C3 c0 c1 c2 c3 c4 c5 c6
  replace hx := (hb.block _ (Array.getElem?_eq_some_iff.1 hx).1).trans hx
  replace hB := hB.trans (hb.mono hB.size)
  clear hb
  obtain ⟨c0, c1, c2, c3, c4, c5, c6⟩ := cells7 hx
  go_wp2_with fail
  refine (C4 _).mono ?_
  rintro e w5 ⟨rfl, hb⟩
  clear C4 c0 c1 c2 c3 c4 c5 c6
  replace hB := hB.trans (hb.mono hB.size)
  clear hb hx
  go_wp2
  go_ret
  exact ⟨rfl, hB⟩

theorem more_facts (c : Cfg) (h : c.ok = true) : (c.log < 6 → Cfg.ok { c with log := c.log + 1 } = true) ∧ (c.log = 6 → Cfg.ok { c with log := c.log + 1 } = false) := by
  have h1 := (Cfg.ok_iff c).1 h
  have hm : Cfg.most { c with log := c.log + 1 } = c.most := rfl
  refine ⟨fun hl => ok_of _ ⟨⟨by dsimp only; omega, by dsimp only; omega⟩, h1.2.1, h1.2.2.1, h1.2.2.2.1, by rw [hm]; exact h1.2.2.2.2.1, by rw [hm]; exact h1.2.2.2.2.2⟩, fun hl => ?_⟩
  rw [← Bool.not_eq_true, Cfg.ok_iff]
  intro h2
  have h3 := h2.1.2
  dsimp only at h3
  omega

set_option maxRecDepth 100000 in
set_option maxHeartbeats 4000000 in
theorem confRoom_ok (c : Cfg) (w : World) (h : c.ok = true) : Calls Try.prog 4 #[c.val] w fun e w' => e = .returned (.bool true) ∧ Below w.heap.size w w' := by
  have h1 := (Cfg.ok_iff c).1 h
  have hm := more_facts c h
  obtain ⟨log, th, pol, wt, sp, yi, single⟩ := c
  dsimp only at h1 hm
  have hl : log = 1 ∨ log = 2 ∨ log = 3 ∨ log = 4 ∨ log = 5 ∨ log = 6 := by omega
  clear h1
  rcases hl with rfl | rfl | rfl | rfl | rfl | rfl
  · have m := hm.1 (by omega)
    have m2 : Cfg.ok ⟨2, th, pol, wt, sp, yi, single⟩ = true := m
    have C1 := fun W => room_at 2 _ W (show Cfg.room ⟨1, th, pol, wt, sp, yi, single⟩ = 2 by simp [Cfg.room, h])
    have C2 := fun W => check_ok _ W h
    have C3 := fun W => room_at 4 _ W (show Cfg.room ⟨2, th, pol, wt, sp, yi, single⟩ = 4 by simp [Cfg.room, m2])
    have hbits : bits BinOp.and IntKind.i64 2 1 = 0 := by decide
    clear h hm m m2
    go_enter Try.func4, Try.ntmps4
    go_wp2_with fail
    refine (awake_any _).mono ?_
    rintro e w1 ⟨rfl, hb⟩
    rw [World.size_alloc] at hb
    have hx := box_kept ⟨1, th, pol, wt, sp, yi, single⟩ hb
    have hB := below_box hb
    clear hb
    obtain ⟨hx_0, hx_1, hx_2, hx_3, hx_4, hx_5, hx_6⟩ := cells7 hx
    go_wp2_with fail
    refine (C1 _).mono ?_
    rintro e w2 ⟨rfl, hb⟩
    clear hx_0 hx_1 hx_2 hx_3 hx_4 hx_5 hx_6
    replace hx := (hb.block _ (Array.getElem?_eq_some_iff.1 hx).1).trans hx
    replace hB := hB.trans (hb.mono hB.size)
    clear hb
    clear C1
    obtain ⟨hx_0, hx_1, hx_2, hx_3, hx_4, hx_5, hx_6⟩ := cells7 hx
    go_wp2_with fail
    refine (C2 _).mono ?_
    rintro e w3 ⟨rfl, hb⟩
    clear hx_0 hx_1 hx_2 hx_3 hx_4 hx_5 hx_6
    replace hx := (hb.block _ (Array.getElem?_eq_some_iff.1 hx).1).trans hx
    replace hB := hB.trans (hb.mono hB.size)
    clear hb
    clear C2
    obtain ⟨hx_0, hx_1, hx_2, hx_3, hx_4, hx_5, hx_6⟩ := cells7 hx
    have hlt := (Array.getElem?_eq_some_iff.1 hx).1
    go_wp2_with fail
    have hm := World.alloc_heap_new w3 (.cells (Cfg.cells ⟨2, th, pol, wt, sp, yi, single⟩) 23)
    replace hx := (Below.heap_alloc _ (.cells (Cfg.cells ⟨2, th, pol, wt, sp, yi, single⟩) 23) _ (Array.getElem?_eq_some_iff.1 hx).1).trans hx
    replace hB := hB.alloc hB.size (.cells (Cfg.cells ⟨2, th, pol, wt, sp, yi, single⟩) 23)
    refine (C3 _).mono ?_
    rintro e w4 ⟨rfl, hb⟩
    clear hx_0 hx_1 hx_2 hx_3 hx_4 hx_5 hx_6
    replace hx := (hb.block _ (Array.getElem?_eq_some_iff.1 hx).1).trans hx
    replace hm := (hb.block _ (Array.getElem?_eq_some_iff.1 hm).1).trans hm
    replace hB := hB.trans (hb.mono hB.size)
    clear hb
    clear C3 hlt
    clear hm hx
    go_wp2
    go_ret
    exact ⟨rfl, hB⟩
  · have m := hm.1 (by omega)
    have m2 : Cfg.ok ⟨3, th, pol, wt, sp, yi, single⟩ = true := m
    have C1 := fun W => room_at 4 _ W (show Cfg.room ⟨2, th, pol, wt, sp, yi, single⟩ = 4 by simp [Cfg.room, h])
    have C2 := fun W => check_ok _ W h
    have C3 := fun W => room_at 8 _ W (show Cfg.room ⟨3, th, pol, wt, sp, yi, single⟩ = 8 by simp [Cfg.room, m2])
    have hbits : bits BinOp.and IntKind.i64 4 3 = 0 := by decide
    clear h hm m m2
    go_enter Try.func4, Try.ntmps4
    go_wp2_with fail
    refine (awake_any _).mono ?_
    rintro e w1 ⟨rfl, hb⟩
    rw [World.size_alloc] at hb
    have hx := box_kept ⟨2, th, pol, wt, sp, yi, single⟩ hb
    have hB := below_box hb
    clear hb
    obtain ⟨hx_0, hx_1, hx_2, hx_3, hx_4, hx_5, hx_6⟩ := cells7 hx
    go_wp2_with fail
    refine (C1 _).mono ?_
    rintro e w2 ⟨rfl, hb⟩
    clear hx_0 hx_1 hx_2 hx_3 hx_4 hx_5 hx_6
    replace hx := (hb.block _ (Array.getElem?_eq_some_iff.1 hx).1).trans hx
    replace hB := hB.trans (hb.mono hB.size)
    clear hb
    clear C1
    obtain ⟨hx_0, hx_1, hx_2, hx_3, hx_4, hx_5, hx_6⟩ := cells7 hx
    go_wp2_with fail
    refine (C2 _).mono ?_
    rintro e w3 ⟨rfl, hb⟩
    clear hx_0 hx_1 hx_2 hx_3 hx_4 hx_5 hx_6
    replace hx := (hb.block _ (Array.getElem?_eq_some_iff.1 hx).1).trans hx
    replace hB := hB.trans (hb.mono hB.size)
    clear hb
    clear C2
    obtain ⟨hx_0, hx_1, hx_2, hx_3, hx_4, hx_5, hx_6⟩ := cells7 hx
    have hlt := (Array.getElem?_eq_some_iff.1 hx).1
    go_wp2_with fail
    have hm := World.alloc_heap_new w3 (.cells (Cfg.cells ⟨3, th, pol, wt, sp, yi, single⟩) 23)
    replace hx := (Below.heap_alloc _ (.cells (Cfg.cells ⟨3, th, pol, wt, sp, yi, single⟩) 23) _ (Array.getElem?_eq_some_iff.1 hx).1).trans hx
    replace hB := hB.alloc hB.size (.cells (Cfg.cells ⟨3, th, pol, wt, sp, yi, single⟩) 23)
    refine (C3 _).mono ?_
    rintro e w4 ⟨rfl, hb⟩
    clear hx_0 hx_1 hx_2 hx_3 hx_4 hx_5 hx_6
    replace hx := (hb.block _ (Array.getElem?_eq_some_iff.1 hx).1).trans hx
    replace hm := (hb.block _ (Array.getElem?_eq_some_iff.1 hm).1).trans hm
    replace hB := hB.trans (hb.mono hB.size)
    clear hb
    clear C3 hlt
    clear hm hx
    go_wp2
    go_ret
    exact ⟨rfl, hB⟩
  · have m := hm.1 (by omega)
    have m2 : Cfg.ok ⟨4, th, pol, wt, sp, yi, single⟩ = true := m
    have C1 := fun W => room_at 8 _ W (show Cfg.room ⟨3, th, pol, wt, sp, yi, single⟩ = 8 by simp [Cfg.room, h])
    have C2 := fun W => check_ok _ W h
    have C3 := fun W => room_at 16 _ W (show Cfg.room ⟨4, th, pol, wt, sp, yi, single⟩ = 16 by simp [Cfg.room, m2])
    have hbits : bits BinOp.and IntKind.i64 8 7 = 0 := by decide
    clear h hm m m2
    go_enter Try.func4, Try.ntmps4
    go_wp2_with fail
    refine (awake_any _).mono ?_
    rintro e w1 ⟨rfl, hb⟩
    rw [World.size_alloc] at hb
    have hx := box_kept ⟨3, th, pol, wt, sp, yi, single⟩ hb
    have hB := below_box hb
    clear hb
    obtain ⟨hx_0, hx_1, hx_2, hx_3, hx_4, hx_5, hx_6⟩ := cells7 hx
    go_wp2_with fail
    refine (C1 _).mono ?_
    rintro e w2 ⟨rfl, hb⟩
    clear hx_0 hx_1 hx_2 hx_3 hx_4 hx_5 hx_6
    replace hx := (hb.block _ (Array.getElem?_eq_some_iff.1 hx).1).trans hx
    replace hB := hB.trans (hb.mono hB.size)
    clear hb
    clear C1
    obtain ⟨hx_0, hx_1, hx_2, hx_3, hx_4, hx_5, hx_6⟩ := cells7 hx
    go_wp2_with fail
    refine (C2 _).mono ?_
    rintro e w3 ⟨rfl, hb⟩
    clear hx_0 hx_1 hx_2 hx_3 hx_4 hx_5 hx_6
    replace hx := (hb.block _ (Array.getElem?_eq_some_iff.1 hx).1).trans hx
    replace hB := hB.trans (hb.mono hB.size)
    clear hb
    clear C2
    obtain ⟨hx_0, hx_1, hx_2, hx_3, hx_4, hx_5, hx_6⟩ := cells7 hx
    have hlt := (Array.getElem?_eq_some_iff.1 hx).1
    go_wp2_with fail
    have hm := World.alloc_heap_new w3 (.cells (Cfg.cells ⟨4, th, pol, wt, sp, yi, single⟩) 23)
    replace hx := (Below.heap_alloc _ (.cells (Cfg.cells ⟨4, th, pol, wt, sp, yi, single⟩) 23) _ (Array.getElem?_eq_some_iff.1 hx).1).trans hx
    replace hB := hB.alloc hB.size (.cells (Cfg.cells ⟨4, th, pol, wt, sp, yi, single⟩) 23)
    refine (C3 _).mono ?_
    rintro e w4 ⟨rfl, hb⟩
    clear hx_0 hx_1 hx_2 hx_3 hx_4 hx_5 hx_6
    replace hx := (hb.block _ (Array.getElem?_eq_some_iff.1 hx).1).trans hx
    replace hm := (hb.block _ (Array.getElem?_eq_some_iff.1 hm).1).trans hm
    replace hB := hB.trans (hb.mono hB.size)
    clear hb
    clear C3 hlt
    clear hm hx
    go_wp2
    go_ret
    exact ⟨rfl, hB⟩
  · have m := hm.1 (by omega)
    have m2 : Cfg.ok ⟨5, th, pol, wt, sp, yi, single⟩ = true := m
    have C1 := fun W => room_at 16 _ W (show Cfg.room ⟨4, th, pol, wt, sp, yi, single⟩ = 16 by simp [Cfg.room, h])
    have C2 := fun W => check_ok _ W h
    have C3 := fun W => room_at 32 _ W (show Cfg.room ⟨5, th, pol, wt, sp, yi, single⟩ = 32 by simp [Cfg.room, m2])
    have hbits : bits BinOp.and IntKind.i64 16 15 = 0 := by decide
    clear h hm m m2
    go_enter Try.func4, Try.ntmps4
    go_wp2_with fail
    refine (awake_any _).mono ?_
    rintro e w1 ⟨rfl, hb⟩
    rw [World.size_alloc] at hb
    have hx := box_kept ⟨4, th, pol, wt, sp, yi, single⟩ hb
    have hB := below_box hb
    clear hb
    obtain ⟨hx_0, hx_1, hx_2, hx_3, hx_4, hx_5, hx_6⟩ := cells7 hx
    go_wp2_with fail
    refine (C1 _).mono ?_
    rintro e w2 ⟨rfl, hb⟩
    clear hx_0 hx_1 hx_2 hx_3 hx_4 hx_5 hx_6
    replace hx := (hb.block _ (Array.getElem?_eq_some_iff.1 hx).1).trans hx
    replace hB := hB.trans (hb.mono hB.size)
    clear hb
    clear C1
    obtain ⟨hx_0, hx_1, hx_2, hx_3, hx_4, hx_5, hx_6⟩ := cells7 hx
    go_wp2_with fail
    refine (C2 _).mono ?_
    rintro e w3 ⟨rfl, hb⟩
    clear hx_0 hx_1 hx_2 hx_3 hx_4 hx_5 hx_6
    replace hx := (hb.block _ (Array.getElem?_eq_some_iff.1 hx).1).trans hx
    replace hB := hB.trans (hb.mono hB.size)
    clear hb
    clear C2
    obtain ⟨hx_0, hx_1, hx_2, hx_3, hx_4, hx_5, hx_6⟩ := cells7 hx
    have hlt := (Array.getElem?_eq_some_iff.1 hx).1
    go_wp2_with fail
    have hm := World.alloc_heap_new w3 (.cells (Cfg.cells ⟨5, th, pol, wt, sp, yi, single⟩) 23)
    replace hx := (Below.heap_alloc _ (.cells (Cfg.cells ⟨5, th, pol, wt, sp, yi, single⟩) 23) _ (Array.getElem?_eq_some_iff.1 hx).1).trans hx
    replace hB := hB.alloc hB.size (.cells (Cfg.cells ⟨5, th, pol, wt, sp, yi, single⟩) 23)
    refine (C3 _).mono ?_
    rintro e w4 ⟨rfl, hb⟩
    clear hx_0 hx_1 hx_2 hx_3 hx_4 hx_5 hx_6
    replace hx := (hb.block _ (Array.getElem?_eq_some_iff.1 hx).1).trans hx
    replace hm := (hb.block _ (Array.getElem?_eq_some_iff.1 hm).1).trans hm
    replace hB := hB.trans (hb.mono hB.size)
    clear hb
    clear C3 hlt
    clear hm hx
    go_wp2
    go_ret
    exact ⟨rfl, hB⟩
  · have m := hm.1 (by omega)
    have m2 : Cfg.ok ⟨6, th, pol, wt, sp, yi, single⟩ = true := m
    have C1 := fun W => room_at 32 _ W (show Cfg.room ⟨5, th, pol, wt, sp, yi, single⟩ = 32 by simp [Cfg.room, h])
    have C2 := fun W => check_ok _ W h
    have C3 := fun W => room_at 64 _ W (show Cfg.room ⟨6, th, pol, wt, sp, yi, single⟩ = 64 by simp [Cfg.room, m2])
    have hbits : bits BinOp.and IntKind.i64 32 31 = 0 := by decide
    clear h hm m m2
    go_enter Try.func4, Try.ntmps4
    go_wp2_with fail
    refine (awake_any _).mono ?_
    rintro e w1 ⟨rfl, hb⟩
    rw [World.size_alloc] at hb
    have hx := box_kept ⟨5, th, pol, wt, sp, yi, single⟩ hb
    have hB := below_box hb
    clear hb
    obtain ⟨hx_0, hx_1, hx_2, hx_3, hx_4, hx_5, hx_6⟩ := cells7 hx
    go_wp2_with fail
    refine (C1 _).mono ?_
    rintro e w2 ⟨rfl, hb⟩
    clear hx_0 hx_1 hx_2 hx_3 hx_4 hx_5 hx_6
    replace hx := (hb.block _ (Array.getElem?_eq_some_iff.1 hx).1).trans hx
    replace hB := hB.trans (hb.mono hB.size)
    clear hb
    clear C1
    obtain ⟨hx_0, hx_1, hx_2, hx_3, hx_4, hx_5, hx_6⟩ := cells7 hx
    go_wp2_with fail
    refine (C2 _).mono ?_
    rintro e w3 ⟨rfl, hb⟩
    clear hx_0 hx_1 hx_2 hx_3 hx_4 hx_5 hx_6
    replace hx := (hb.block _ (Array.getElem?_eq_some_iff.1 hx).1).trans hx
    replace hB := hB.trans (hb.mono hB.size)
    clear hb
    clear C2
    obtain ⟨hx_0, hx_1, hx_2, hx_3, hx_4, hx_5, hx_6⟩ := cells7 hx
    have hlt := (Array.getElem?_eq_some_iff.1 hx).1
    go_wp2_with fail
    have hm := World.alloc_heap_new w3 (.cells (Cfg.cells ⟨6, th, pol, wt, sp, yi, single⟩) 23)
    replace hx := (Below.heap_alloc _ (.cells (Cfg.cells ⟨6, th, pol, wt, sp, yi, single⟩) 23) _ (Array.getElem?_eq_some_iff.1 hx).1).trans hx
    replace hB := hB.alloc hB.size (.cells (Cfg.cells ⟨6, th, pol, wt, sp, yi, single⟩) 23)
    refine (C3 _).mono ?_
    rintro e w4 ⟨rfl, hb⟩
    clear hx_0 hx_1 hx_2 hx_3 hx_4 hx_5 hx_6
    replace hx := (hb.block _ (Array.getElem?_eq_some_iff.1 hx).1).trans hx
    replace hm := (hb.block _ (Array.getElem?_eq_some_iff.1 hm).1).trans hm
    replace hB := hB.trans (hb.mono hB.size)
    clear hb
    clear C3 hlt
    clear hm hx
    go_wp2
    go_ret
    exact ⟨rfl, hB⟩
  · have m := hm.2 (by omega)
    have m2 : Cfg.ok ⟨7, th, pol, wt, sp, yi, single⟩ = false := m
    have C1 := fun W => room_at 64 _ W (show Cfg.room ⟨6, th, pol, wt, sp, yi, single⟩ = 64 by simp [Cfg.room, h])
    have C2 := fun W => check_ok _ W h
    have C3 := fun W => room_at 0 _ W (show Cfg.room ⟨7, th, pol, wt, sp, yi, single⟩ = 0 by simp [Cfg.room, m2])
    have hbits : bits BinOp.and IntKind.i64 64 63 = 0 := by decide
    clear h hm m m2
    go_enter Try.func4, Try.ntmps4
    go_wp2_with fail
    refine (awake_any _).mono ?_
    rintro e w1 ⟨rfl, hb⟩
    rw [World.size_alloc] at hb
    have hx := box_kept ⟨6, th, pol, wt, sp, yi, single⟩ hb
    have hB := below_box hb
    clear hb
    obtain ⟨hx_0, hx_1, hx_2, hx_3, hx_4, hx_5, hx_6⟩ := cells7 hx
    go_wp2_with fail
    refine (C1 _).mono ?_
    rintro e w2 ⟨rfl, hb⟩
    clear hx_0 hx_1 hx_2 hx_3 hx_4 hx_5 hx_6
    replace hx := (hb.block _ (Array.getElem?_eq_some_iff.1 hx).1).trans hx
    replace hB := hB.trans (hb.mono hB.size)
    clear hb
    clear C1
    obtain ⟨hx_0, hx_1, hx_2, hx_3, hx_4, hx_5, hx_6⟩ := cells7 hx
    go_wp2_with fail
    refine (C2 _).mono ?_
    rintro e w3 ⟨rfl, hb⟩
    clear hx_0 hx_1 hx_2 hx_3 hx_4 hx_5 hx_6
    replace hx := (hb.block _ (Array.getElem?_eq_some_iff.1 hx).1).trans hx
    replace hB := hB.trans (hb.mono hB.size)
    clear hb
    clear C2
    obtain ⟨hx_0, hx_1, hx_2, hx_3, hx_4, hx_5, hx_6⟩ := cells7 hx
    have hlt := (Array.getElem?_eq_some_iff.1 hx).1
    go_wp2_with fail
    have hm := World.alloc_heap_new w3 (.cells (Cfg.cells ⟨7, th, pol, wt, sp, yi, single⟩) 23)
    replace hx := (Below.heap_alloc _ (.cells (Cfg.cells ⟨7, th, pol, wt, sp, yi, single⟩) 23) _ (Array.getElem?_eq_some_iff.1 hx).1).trans hx
    replace hB := hB.alloc hB.size (.cells (Cfg.cells ⟨7, th, pol, wt, sp, yi, single⟩) 23)
    refine (C3 _).mono ?_
    rintro e w4 ⟨rfl, hb⟩
    clear hx_0 hx_1 hx_2 hx_3 hx_4 hx_5 hx_6
    replace hx := (hb.block _ (Array.getElem?_eq_some_iff.1 hx).1).trans hx
    replace hm := (hb.block _ (Array.getElem?_eq_some_iff.1 hm).1).trans hm
    replace hB := hB.trans (hb.mono hB.size)
    clear hb
    clear C3 hlt
    clear hm hx
    go_wp2
    go_ret
    exact ⟨rfl, hB⟩

theorem confRoom_walk (c : Cfg) (w : World) : Calls Try.prog 4 #[c.val] w fun e w' => e = .returned (.bool true) ∧ Below w.heap.size w w' := by
  by_cases h : c.ok = true
  · exact confRoom_ok c w h
  · exact confRoom_no c w (by simpa using h)

/-! ### The row -/
set_option maxRecDepth 100000 in
theorem confRoom_lifted (os : Os) (started : os.Started) (H : Type) (enc : TypeId × Value → H) :
    ReturnsInHanded {} Try.checked os 4 .any (Rows.confRoomSpec.pre6 enc Try.prog Try.f4 Rows.confRoomRow.domain false) (Rows.confRoomSpec.post enc Try.prog Try.f4 false true false false) := by
  refine returnsInHanded_of_change (C := Try.checked) own started (by kernel_rfl) Try.func4
    (ChangeSpec.witness6 (enc := enc) (C := Try.checked) false ⟨#[], #[.agg #[.int .i64 0, .int .i64 0, .int .i64 0, .int .i64 0, .int .i64 0, .int .i64 0, .bool false]], []⟩ 8 (by kernel_rfl) (by kernel_rfl) (by kernel_rfl) (by kernel_rfl)) ?_
  intro W base args ds gs before hval0 hW hcnd _
  have hval : ∀ (j : Nat) t v, Try.f4.params[j]? = some t → args[j]? = some v → Value.okWide Try.prog W .any base t v := hval0
  have hW' := hW
  obtain ⟨p, q, hA0, hV, rfl, hfz, hnd⟩ := hW
  have hA : DataW.TrodAll enc Try.prog W 0 (fun _ => true) true Try.f4.params.toList args.toList ds p := hA0
  rw [Try.params4] at hA hval
  obtain ⟨v0, vs0, d0, ds0, p0, q0, hargs, rfl, rfl, h0, r0⟩ := trodAll_cons hA
  obtain ⟨rfl, rfl, rfl⟩ := trodAll_nil r0
  obtain rfl : args = #[v0] := by cases args; simp_all
  obtain ⟨rfl, rfl⟩ := trodVars_none hV
  have k0 := h0
  have lt0 : ∀ x ∈ p0, x.block < W.heap.size := by obtain ⟨m, hm⟩ := k0; exact DataW.trod_lt m _ _ _ hm
  obtain ⟨c0, rfl, w0⟩ := open_cfg (hval 0 23 v0 rfl rfl) h0
  clear hA0 hval0
  refine (confRoom_walk c0 W).mono fun e W' ⟨he, bel⟩ => ?_
  subst he
  exact ⟨_, rfl, _, _, _, [], _, [], hW', trodAll_mk1 (shut_bool Try.underlying4 _), (trodAll_cons_mk (Below.trod laidOut (by kernel_rfl) (of_decide_eq_true (by kernel_rfl)) k0 bel lt0) trodAll_mk0), rfl, bel.frame _, fun h => by cases h⟩

theorem confRoom_over : Rows.confRoomRow.holds Try.pinned (OpenSpec.ofChange Rows.confRoomSpec) :=
  OpenClaim.holds_of_wide 4 Try.f4 rfl rfl rfl rfl rfl rfl rfl ⟨rfl, rfl, rfl, rfl, rfl⟩ rfl rfl rfl rfl rfl (by kernel_rfl) Try.func4 (by kernel_rfl)
    (of_decide_eq_true (by kernel_rfl)) (by unfold Func.isWrapper; first | (rw [if_pos (by decide +kernel)]; kernel_rfl) | (rw [if_neg (by decide +kernel)]; exact ⟨rfl, rfl⟩))
    (fun os started H enc _ => confRoom_lifted os started H enc)

/-- The statement. -/
theorem confRoom_holds : Rows.ConfRoomSaid := confRoom_over
#print axioms confRoom_holds

end Go.Proofs.Ytolkmpfnomeklaa
