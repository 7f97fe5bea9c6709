/-
  DERIVED. conf's other functions, at every configuration, out of Check's contract: Room, Parks, Tries.
-/
import Derived.Test.YtjgdoogfoaaejaaCheck
import Derived.Lib.Hide
namespace Go.Proofs.Ytjgdoogfoaaejaa
open Go Go.RowKit Go.Shelf

/-- Its room. -/
def Cfg.room (c : Cfg) : Int := if c.ok then 2 ^ c.log.toNat else 0
/-- Whether one parks then. -/
def Cfg.parks (c : Cfg) : Bool := c.ok && (c.wt == 2 || c.wt == 3)
/-- How often is tried. -/
def Cfg.tries (c : Cfg) : Int := if c.parks then c.sp + c.yi else 0

theorem Cfg.chk_ok {c : Cfg} (h : c.ok = true) : c.chk = 0 := by simp [Cfg.chk, h]
theorem Cfg.chk_no {c : Cfg} (h : c.ok = false) : c.chk = 20 := by simp [Cfg.chk, h]

theorem check_ok (c : Cfg) (w : World) (h : c.ok = true) : Calls Try.prog 20 #[c.val] w fun e w' => e = .returned (.int .i64 0) ∧ Below w.heap.size w w' :=
  (check_any c w).mono fun _ _ ⟨he, hb⟩ => ⟨by rw [he, Cfg.chk_ok h], hb⟩
theorem check_no (c : Cfg) (w : World) (h : c.ok = false) : Calls Try.prog 20 #[c.val] w fun e w' => e = .returned (.int .i64 20) ∧ Below w.heap.size w w' :=
  (check_any c w).mono fun _ _ ⟨he, hb⟩ => ⟨by rw [he, Cfg.chk_no h], hb⟩

/-- A configuration in a box of its own lies as it lay, behind whatever kept it. -/
theorem box_kept (c : Cfg) {w w1 : World} {t : TypeId} (hb : Below (w.heap.size + 1) (w.alloc (.cells c.cells t)) w1) : w1.heap[w.heap.size]? = some (.cells c.cells t (0, 0)) :=
  (hb.block w.heap.size (by omega)).trans (World.alloc_heap_new w _)
theorem below_box {w w1 : World} {o : Obj} (hb : Below (w.heap.size + 1) (w.alloc o) w1) : Below w.heap.size w w1 :=
  ((Below.refl _ w).alloc (Nat.le_refl _) o).trans (hb.mono (by omega))


theorem Cfg.parks_of {c : Cfg} (h : c.ok = true) : c.parks = (c.wt == 2 || c.wt == 3) := by simp [Cfg.parks, h]

set_option maxHeartbeats 1000000 in
theorem parks_any (c : Cfg) (w : World) : Calls Try.prog 18 #[c.val] w fun e w' => e = .returned (.bool c.parks) ∧ Below w.heap.size w w' := by
  by_cases h : c.ok = true
  · have hr := Cfg.parks_of h
    obtain ⟨log, th, pol, wt, sp, yi, single⟩ := c
    dsimp only at hr
    by_cases h2 : wt = 2
    · subst h2
      have C := fun W => check_ok _ W h
      clear h
      go_enter Try.func18, Try.ntmps18
      go_wp2_with fail
      refine (C _).mono ?_
      rintro e w1 ⟨rfl, hb⟩
      rw [World.size_alloc] at hb
      have h0 := (of_block (box_kept _ hb) 3).1
      simp at h0
      have hB := below_box hb
      clear C hb
      go_wp2
      go_ret
      exact ⟨by rw [hr]; rfl, hB⟩
    · have b2 : (wt == 2) = false := by simpa using h2
      have C := fun W => check_ok _ W h
      have HR := Lib.hid hr
      clear h hr
      go_enter Try.func18, Try.ntmps18
      go_wp2_with fail
      refine (C _).mono ?_
      rintro e w1 ⟨rfl, hb⟩
      rw [World.size_alloc] at hb
      have h0 := (of_block (box_kept _ hb) 3).1
      simp at h0
      have hB := below_box hb
      clear C hb
      go_wp2
      go_ret
      exact ⟨by rw [HR.out, b2]; rfl, hB⟩
  · have h' : c.ok = false := by simpa using h
    have hr : c.parks = false := by simp [Cfg.parks, h']
    obtain ⟨log, th, pol, wt, sp, yi, single⟩ := c
    have C := fun W => check_no _ W h'
    clear h h'
    go_enter Try.func18, Try.ntmps18
    go_wp2_with fail
    refine (C _).mono ?_
    rintro e w1 ⟨rfl, hb⟩
    rw [World.size_alloc] at hb
    have hB := below_box hb
    clear C hb
    go_wp2
    go_ret
    exact ⟨by rw [hr]; rfl, hB⟩

theorem parks_yes (c : Cfg) (w : World) (h : c.parks = true) : Calls Try.prog 18 #[c.val] w fun e w' => e = .returned (.bool true) ∧ Below w.heap.size w w' :=
  (parks_any c w).mono fun _ _ ⟨he, hb⟩ => ⟨by rw [he, h], hb⟩
theorem parks_not (c : Cfg) (w : World) (h : c.parks = false) : Calls Try.prog 18 #[c.val] w fun e w' => e = .returned (.bool false) ∧ Below w.heap.size w w' :=
  (parks_any c w).mono fun _ _ ⟨he, hb⟩ => ⟨by rw [he, h], hb⟩

theorem Cfg.tries_bounds {c : Cfg} (h : c.parks = true) : 0 ≤ c.sp ∧ c.sp ≤ 8 ∧ 0 ≤ c.yi ∧ c.yi ≤ 8 := by
  have h1 : c.ok = true := by simp [Cfg.parks] at h; exact h.1
  have h2 := (Cfg.ok_iff c).1 h1
  have h3 : c.most ≤ 8 := by unfold Cfg.most; split <;> omega
  omega

set_option maxHeartbeats 1000000 in
theorem conf_tries (c : Cfg) (w : World) : Calls Try.prog 19 #[c.val] w fun e w' => e = .returned (.int .i64 c.tries) ∧ Below w.heap.size w w' := by
  by_cases h : c.parks = true
  · have hr : c.tries = c.sp + c.yi := by simp [Cfg.tries, h]
    have hbd := Cfg.tries_bounds h
    obtain ⟨log, th, pol, wt, sp, yi, single⟩ := c
    dsimp only at hr hbd
    obtain ⟨b1, b2, b3, b4⟩ := hbd
    have C := fun W => parks_yes _ W h
    have HR := Lib.hid hr
    clear h hr
    go_enter Try.func19, Try.ntmps19
    go_wp2_with fail
    refine (C _).mono ?_
    rintro e w1 ⟨rfl, hb⟩
    rw [World.size_alloc] at hb
    have h0 := (of_block (box_kept _ hb) 4).1
    have h1 := (of_block (box_kept _ hb) 5).1
    simp at h0 h1
    have hB := below_box hb
    clear C hb
    go_wp2
    go_ret
    exact ⟨by rw [HR.out]; rfl, hB⟩
  · have h' : c.parks = false := by simpa using h
    have hr : c.tries = 0 := by simp [Cfg.tries, h']
    obtain ⟨log, th, pol, wt, sp, yi, single⟩ := c
    have C := fun W => parks_not _ W h'
    clear h h'
    go_enter Try.func19, Try.ntmps19
    go_wp2_with fail
    refine (C _).mono ?_
    rintro e w1 ⟨rfl, hb⟩
    rw [World.size_alloc] at hb
    have hB := below_box hb
    clear C hb
    go_wp2
    go_ret
    exact ⟨by rw [hr]; rfl, hB⟩

end Go.Proofs.Ytjgdoogfoaaejaa
