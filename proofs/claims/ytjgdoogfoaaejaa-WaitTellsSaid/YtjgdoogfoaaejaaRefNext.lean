/-
  DERIVED. sakiaref07's functions: the document's answer for layer 7. (Printed by mk_ref07.py.)
-/
import Derived.Test.YtjgdoogfoaaejaaPlainW
import Derived.Test.YtjgdoogfoaaejaaRefCheck
namespace Go.Proofs.Ytjgdoogfoaaejaa
open Go Go.RowKit Go.Shelf

set_option maxRecDepth 100000 in
set_option maxHeartbeats 2000000 in
theorem refNext_no (c : Cfg) (n : Int) (w : World) (hc : c.ok = false) : Calls Try.prog 13 #[c.val, .int .i64 n] w fun e w' => e = .returned (.int .i64 0) ∧ Below w.heap.size w w' := by
  have D := fun W => refCheck_any c W
  rw [Cfg.chk_no hc] at D
  clear hc
  obtain ⟨log, th, pol, wt, sp, yi, single⟩ := c
  try dsimp only at *
  go_enter Try.func13, Try.ntmps13
  go_wp2_with fail
  have hS := (Boxes.nil w 23).add ⟨log, th, pol, wt, sp, yi, single⟩
  refine (D _).mono ?_
  rintro e w1 ⟨rfl, hb⟩
  replace hS := hS.on hb
  obtain ⟨c0, c1, c2, c3, c4, c5, c6⟩ := cells7 (hS.at_ (B := w.heap.size) (c := ⟨log, th, pol, wt, sp, yi, single⟩) (by simp))
  clear hb D
  go_wp2
  have hB := hS.2
  clear c0 c1 c2 c3 c4 c5 c6 hS
  go_ret
  exact ⟨rfl, hB⟩

set_option maxRecDepth 100000 in
set_option maxHeartbeats 2000000 in
theorem refNext_0 (c : Cfg) (n : Int) (w : World) (hc : c.ok = true) (h : c.wt = 0) : Calls Try.prog 13 #[c.val, .int .i64 n] w fun e w' => e = .returned (.int .i64 0) ∧ Below w.heap.size w w' := by
  have D := fun W => refCheck_any c W
  rw [Cfg.chk_ok hc] at D
  clear hc
  obtain ⟨log, th, pol, wt, sp, yi, single⟩ := c
  try dsimp only at *
  subst h
  go_enter Try.func13, Try.ntmps13
  go_wp2_with fail
  have hS := (Boxes.nil w 23).add ⟨log, th, pol, 0, sp, yi, single⟩
  refine (D _).mono ?_
  rintro e w1 ⟨rfl, hb⟩
  replace hS := hS.on hb
  obtain ⟨c0, c1, c2, c3, c4, c5, c6⟩ := cells7 (hS.at_ (B := w.heap.size) (c := ⟨log, th, pol, 0, sp, yi, single⟩) (by simp))
  clear hb D
  go_wp2
  have hB := hS.2
  clear c0 c1 c2 c3 c4 c5 c6 hS
  go_ret
  exact ⟨rfl, hB⟩

set_option maxRecDepth 100000 in
set_option maxHeartbeats 2000000 in
theorem refNext_1 (c : Cfg) (n : Int) (w : World) (hc : c.ok = true) (h : c.wt = 1) : Calls Try.prog 13 #[c.val, .int .i64 n] w fun e w' => e = .returned (.int .i64 1) ∧ Below w.heap.size w w' := by
  have D := fun W => refCheck_any c W
  rw [Cfg.chk_ok hc] at D
  clear hc
  obtain ⟨log, th, pol, wt, sp, yi, single⟩ := c
  try dsimp only at *
  subst h
  go_enter Try.func13, Try.ntmps13
  go_wp2_with fail
  have hS := (Boxes.nil w 23).add ⟨log, th, pol, 1, sp, yi, single⟩
  refine (D _).mono ?_
  rintro e w1 ⟨rfl, hb⟩
  replace hS := hS.on hb
  obtain ⟨c0, c1, c2, c3, c4, c5, c6⟩ := cells7 (hS.at_ (B := w.heap.size) (c := ⟨log, th, pol, 1, sp, yi, single⟩) (by simp))
  clear hb D
  go_wp2
  have hB := hS.2
  clear c0 c1 c2 c3 c4 c5 c6 hS
  go_ret
  exact ⟨rfl, hB⟩

set_option maxRecDepth 100000 in
set_option maxHeartbeats 2000000 in
theorem refNext_2a (c : Cfg) (n : Int) (w : World) (hc : c.ok = true) (h : c.wt = 2) (hn : n < c.sp) : Calls Try.prog 13 #[c.val, .int .i64 n] w fun e w' => e = .returned (.int .i64 0) ∧ Below w.heap.size w w' := by
  have D := fun W => refCheck_any c W
  rw [Cfg.chk_ok hc] at D
  have r1 := ((Cfg.ok_iff c).1 hc).2.2.2.2
  have r2 := Cfg.most_le c
  obtain ⟨⟨r3, r4⟩, r5, r6⟩ := r1
  have r7 : c.sp ≤ 8 := by omega
  have r8 : c.yi ≤ 8 := by omega
  clear hc r2 r4 r6
  obtain ⟨log, th, pol, wt, sp, yi, single⟩ := c
  try dsimp only at *
  subst h
  go_enter Try.func13, Try.ntmps13
  go_wp2_with fail
  have hS := (Boxes.nil w 23).add ⟨log, th, pol, 2, sp, yi, single⟩
  refine (D _).mono ?_
  rintro e w1 ⟨rfl, hb⟩
  replace hS := hS.on hb
  obtain ⟨c0, c1, c2, c3, c4, c5, c6⟩ := cells7 (hS.at_ (B := w.heap.size) (c := ⟨log, th, pol, 2, sp, yi, single⟩) (by simp))
  clear hb D
  go_wp2
  have hB := hS.2
  clear c0 c1 c2 c3 c4 c5 c6 hS
  go_ret
  exact ⟨rfl, hB⟩

set_option maxRecDepth 100000 in
set_option maxHeartbeats 2000000 in
theorem refNext_2b (c : Cfg) (n : Int) (w : World) (hc : c.ok = true) (h : c.wt = 2) (hn : ¬ n < c.sp) (hm : n < c.sp + c.yi) : Calls Try.prog 13 #[c.val, .int .i64 n] w fun e w' => e = .returned (.int .i64 1) ∧ Below w.heap.size w w' := by
  have D := fun W => refCheck_any c W
  rw [Cfg.chk_ok hc] at D
  have r1 := ((Cfg.ok_iff c).1 hc).2.2.2.2
  have r2 := Cfg.most_le c
  obtain ⟨⟨r3, r4⟩, r5, r6⟩ := r1
  have r7 : c.sp ≤ 8 := by omega
  have r8 : c.yi ≤ 8 := by omega
  clear hc r2 r4 r6
  obtain ⟨log, th, pol, wt, sp, yi, single⟩ := c
  try dsimp only at *
  subst h
  go_enter Try.func13, Try.ntmps13
  go_wp2_with fail
  have hS := (Boxes.nil w 23).add ⟨log, th, pol, 2, sp, yi, single⟩
  refine (D _).mono ?_
  rintro e w1 ⟨rfl, hb⟩
  replace hS := hS.on hb
  obtain ⟨c0, c1, c2, c3, c4, c5, c6⟩ := cells7 (hS.at_ (B := w.heap.size) (c := ⟨log, th, pol, 2, sp, yi, single⟩) (by simp))
  clear hb D
  go_wp2
  have hB := hS.2
  clear c0 c1 c2 c3 c4 c5 c6 hS
  go_ret
  exact ⟨rfl, hB⟩

set_option maxRecDepth 100000 in
set_option maxHeartbeats 2000000 in
theorem refNext_2c (c : Cfg) (n : Int) (w : World) (hc : c.ok = true) (h : c.wt = 2) (hn : ¬ n < c.sp) (hm : ¬ n < c.sp + c.yi) : Calls Try.prog 13 #[c.val, .int .i64 n] w fun e w' => e = .returned (.int .i64 2) ∧ Below w.heap.size w w' := by
  have D := fun W => refCheck_any c W
  rw [Cfg.chk_ok hc] at D
  have r1 := ((Cfg.ok_iff c).1 hc).2.2.2.2
  have r2 := Cfg.most_le c
  obtain ⟨⟨r3, r4⟩, r5, r6⟩ := r1
  have r7 : c.sp ≤ 8 := by omega
  have r8 : c.yi ≤ 8 := by omega
  clear hc r2 r4 r6
  obtain ⟨log, th, pol, wt, sp, yi, single⟩ := c
  try dsimp only at *
  subst h
  go_enter Try.func13, Try.ntmps13
  go_wp2_with fail
  have hS := (Boxes.nil w 23).add ⟨log, th, pol, 2, sp, yi, single⟩
  refine (D _).mono ?_
  rintro e w1 ⟨rfl, hb⟩
  replace hS := hS.on hb
  obtain ⟨c0, c1, c2, c3, c4, c5, c6⟩ := cells7 (hS.at_ (B := w.heap.size) (c := ⟨log, th, pol, 2, sp, yi, single⟩) (by simp))
  clear hb D
  go_wp2
  have hB := hS.2
  clear c0 c1 c2 c3 c4 c5 c6 hS
  go_ret
  exact ⟨rfl, hB⟩

set_option maxRecDepth 100000 in
set_option maxHeartbeats 2000000 in
theorem refNext_3 (c : Cfg) (n : Int) (w : World) (hc : c.ok = true) (h : c.wt = 3) : Calls Try.prog 13 #[c.val, .int .i64 n] w fun e w' => e = .returned (.int .i64 2) ∧ Below w.heap.size w w' := by
  have D := fun W => refCheck_any c W
  rw [Cfg.chk_ok hc] at D
  clear hc
  obtain ⟨log, th, pol, wt, sp, yi, single⟩ := c
  try dsimp only at *
  subst h
  go_enter Try.func13, Try.ntmps13
  go_wp2_with fail
  have hS := (Boxes.nil w 23).add ⟨log, th, pol, 3, sp, yi, single⟩
  refine (D _).mono ?_
  rintro e w1 ⟨rfl, hb⟩
  replace hS := hS.on hb
  obtain ⟨c0, c1, c2, c3, c4, c5, c6⟩ := cells7 (hS.at_ (B := w.heap.size) (c := ⟨log, th, pol, 3, sp, yi, single⟩) (by simp))
  clear hb D
  go_wp2
  have hB := hS.2
  clear c0 c1 c2 c3 c4 c5 c6 hS
  go_ret
  exact ⟨rfl, hB⟩

theorem refNext_any (c : Cfg) (n : Int) (w : World) (hn : 0 ≤ n) : Calls Try.prog 13 #[c.val, .int .i64 n] w fun e w' => e = .returned (.int .i64 (nextOf c n)) ∧ Below w.heap.size w w' := by
  by_cases hc : c.ok = true
  · have hw := ((Cfg.ok_iff c).1 hc).2.2.2.1
    have hk : c.wt = 0 ∨ c.wt = 1 ∨ c.wt = 2 ∨ c.wt = 3 := by omega
    rcases hk with hk | hk | hk | hk
    · have e : nextOf c n = 0 := by simp [nextOf, hc, hk]
      rw [e]
      exact refNext_0 c n w hc hk
    · have e : nextOf c n = 1 := by simp [nextOf, hc, hk]
      rw [e]
      exact refNext_1 c n w hc hk
    · have e : nextOf c n = phaseOf c n := by simp [nextOf, hc, hk, show max n 0 = n by omega]
      rw [e]
      unfold phaseOf
      by_cases h1 : n < c.sp
      · rw [if_pos h1]
        exact refNext_2a c n w hc hk h1
      · rw [if_neg h1]
        by_cases h2 : n < c.sp + c.yi
        · rw [if_pos h2]
          exact refNext_2b c n w hc hk h1 h2
        · rw [if_neg h2]
          exact refNext_2c c n w hc hk h1 h2
    · have e : nextOf c n = 2 := by simp [nextOf, hc, hk]
      rw [e]
      exact refNext_3 c n w hc hk
  · have e : nextOf c n = 0 := by simp [nextOf, hc]
    rw [e]
    exact refNext_no c n w (by simpa using hc)

end Go.Proofs.Ytjgdoogfoaaejaa
