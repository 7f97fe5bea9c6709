/-
  DERIVED. Look.
-/
import Derived.Maps.OwnOps
import Derived.Test.YtnbgpopjnpdmgaaGreatPae
set_option linter.unusedVariables false
set_option linter.unusedSimpArgs false

namespace Go.Proofs.YtnbgpopjnpdmgaaGreat
open Go Go.RowKit Go.Shelf

/-- A look in vain, as a value. -/
def lookV (c : Cfg) (n : Int) : Value := .agg #[.int .i64 c.log, .int .i64 c.th, .int .i64 c.pol, .int .i64 c.wt, .int .i64 c.sp, .int .i64 c.yi, .bool c.single, .int .i64 n]
/-- What is done of a phased one. -/
def phaseOf (c : Cfg) (n : Int) : Int := if n < c.sp then 0 else if n < c.sp + c.yi then 1 else 2

set_option maxHeartbeats 1000000 in
theorem look_spin (c : Cfg) (n : Int) (w : World) : Calls Tryz.prog 188 #[lookV c n] w fun e w' => e = .returned (.int .i64 0) ∧ Below w.heap.size w w' := by
  obtain ⟨log, th, pol, wt, sp, yi, single⟩ := c
  unfold lookV
  dsimp only
  go_enter Tryz.func188, Tryz.ntmps188
  go_wp2
  go_ret
  exact ⟨rfl, (Below.refl _ w).alloc (Nat.le_refl _) _⟩
set_option maxHeartbeats 1000000 in
theorem look_yield (c : Cfg) (n : Int) (w : World) : Calls Tryz.prog 189 #[lookV c n] w fun e w' => e = .returned (.int .i64 1) ∧ Below w.heap.size w w' := by
  obtain ⟨log, th, pol, wt, sp, yi, single⟩ := c
  unfold lookV
  dsimp only
  go_enter Tryz.func189, Tryz.ntmps189
  go_wp2
  go_ret
  exact ⟨rfl, (Below.refl _ w).alloc (Nat.le_refl _) _⟩
set_option maxHeartbeats 1000000 in
theorem look_park (c : Cfg) (n : Int) (w : World) : Calls Tryz.prog 191 #[lookV c n] w fun e w' => e = .returned (.int .i64 2) ∧ Below w.heap.size w w' := by
  obtain ⟨log, th, pol, wt, sp, yi, single⟩ := c
  unfold lookV
  dsimp only
  go_enter Tryz.func191, Tryz.ntmps191
  go_wp2
  go_ret
  exact ⟨rfl, (Below.refl _ w).alloc (Nat.le_refl _) _⟩

set_option maxRecDepth 100000 in
set_option maxHeartbeats 2000000 in
theorem look_phase (c : Cfg) (n : Int) (w : World) (h1 : 0 ≤ c.sp) (h2 : c.sp ≤ 8) (h3 : 0 ≤ c.yi) (h4 : c.yi ≤ 8) : Calls Tryz.prog 190 #[lookV c n] w fun e w' => e = .returned (.int .i64 (phaseOf c n)) ∧ Below w.heap.size w w' := by
  have CS := fun W => look_spin c n W
  have CY := fun W => look_yield c n W
  have CP := fun W => look_park c n W
  obtain ⟨log, th, pol, wt, sp, yi, single⟩ := c
  unfold lookV at *
  dsimp only at *
  by_cases q1 : n < sp
  · have e : phaseOf ⟨log, th, pol, wt, sp, yi, single⟩ n = 0 := by simp [phaseOf, q1]
    rw [e]
    clear e
    go_enter Tryz.func190, Tryz.ntmps190
    go_wp2_with fail
    refine (CS _).mono ?_
    rintro e w1 ⟨rfl, hb⟩
    have hB := below_box (by simpa using hb)
    clear hb CS CY CP
    go_wp2
    go_ret
    exact ⟨rfl, hB⟩
  · by_cases q2 : n < sp + yi
    · have e : phaseOf ⟨log, th, pol, wt, sp, yi, single⟩ n = 1 := by simp [phaseOf, q1, q2]
      rw [e]
      clear e
      go_enter Tryz.func190, Tryz.ntmps190
      go_wp2_with fail
      refine (CY _).mono ?_
      rintro e w1 ⟨rfl, hb⟩
      have hB := below_box (by simpa using hb)
      clear hb CS CY CP
      go_wp2
      go_ret
      exact ⟨rfl, hB⟩
    · have e : phaseOf ⟨log, th, pol, wt, sp, yi, single⟩ n = 2 := by simp [phaseOf, q1, q2]
      rw [e]
      clear e
      go_enter Tryz.func190, Tryz.ntmps190
      go_wp2_with fail
      refine (CP _).mono ?_
      rintro e w1 ⟨rfl, hb⟩
      have hB := below_box (by simpa using hb)
      clear hb CS CY CP
      go_wp2
      go_ret
      exact ⟨rfl, hB⟩

end Go.Proofs.YtnbgpopjnpdmgaaGreat
