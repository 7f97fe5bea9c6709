/-
  DERIVED. sakiaref02.Check, at every configuration.
-/
import Derived.Test.YtjgdoogfoaaejaaConf
namespace Go.Proofs.Ytjgdoogfoaaejaa
open Go Go.RowKit Go.Shelf

set_option maxRecDepth 100000 in
set_option maxHeartbeats 2000000 in
theorem refCheck_any (c : Cfg) (w : World) : Calls Try.prog 25 #[c.val] w fun e w' => e = .returned (.int .i64 c.chk) ∧ Below w.heap.size w w' := by
  have hq : c.chk = if (c.log < 1 ∨ 6 < c.log ∨ c.th < 1 ∨ 16 < c.th ∨ c.pol < 0 ∨ 2 < c.pol ∨ c.wt < 0 ∨ 3 < c.wt) ∨ (c.sp < 0 ∨ 8 < c.sp ∨ c.yi < 0 ∨ 8 < c.yi ∨ (c.wt ≠ 2 ∧ (c.sp ≠ 0 ∨ c.yi ≠ 0))) then 20 else 0 := by
    unfold Cfg.chk
    by_cases h : c.ok = true
    · have h1 := (Cfg.ok_iff c).1 h
      rw [if_pos h, if_neg]
      unfold Cfg.most at h1
      split at h1 <;> omega
    · rw [if_neg h, if_pos]
      have h2 := mt (Cfg.ok_iff c).2 h
      unfold Cfg.most at h2
      split at h2 <;> omega
  obtain ⟨log, th, pol, wt, sp, yi, single⟩ := c
  dsimp only at hq
  have HQ := Lib.hid hq
  clear hq
  go_enter Try.func25, Try.ntmps25
  go_wp2
  all_goals
    go_ret
    refine ⟨?_, (Below.refl _ _).alloc (Nat.le_refl _) _⟩
    rw [HQ.out]
    first
      | (rw [if_pos (by simp_all; try omega)]; rfl)
      | (rw [if_neg (by simp_all; try omega)]; rfl)

end Go.Proofs.Ytjgdoogfoaaejaa
