/-
  DERIVED. Plain facts on what one does who looks in vain: numbers and lists alone.
-/
import Derived.Test.YtjgdoogfoaaejaaAwake7
import Derived.OpenShut
namespace Go.Proofs.Ytjgdoogfoaaejaa
open Go Go.RowKit

theorem next_range (c : Cfg) (n : Int) : 0 ≤ nextOf c n ∧ nextOf c n ≤ 2 := by
  unfold nextOf phaseOf
  repeat' split
  all_goals omega
theorem next_mono (c : Cfg) {n m : Int} (h : n ≤ m) : nextOf c n ≤ nextOf c m := by
  by_cases hc : c.ok = true
  · simp only [nextOf, hc, if_true]
    have h1 := (Cfg.ok_iff c).1 hc
    by_cases h0 : c.wt = 0
    · simp [h0]
    · by_cases h1 : c.wt = 1
      · simp [h1]
      · by_cases h2 : c.wt = 2
        · simp only [h2]
          unfold phaseOf
          repeat' split
          all_goals omega
        · simp [h0, h1, h2]
  · simp [nextOf, hc]
theorem next_parks (c : Cfg) (n : Int) : nextOf c n = 2 ↔ c.parks = true ∧ c.tries ≤ max n 0 := by
  by_cases hc : c.ok = true
  · have h1 := (Cfg.ok_iff c).1 hc
    have hw := h1.2.2.2.1
    simp only [nextOf, Cfg.tries, Cfg.parks, hc, if_true, Bool.true_and]
    have hk : c.wt = 0 ∨ c.wt = 1 ∨ c.wt = 2 ∨ c.wt = 3 := by omega
    rcases hk with e | e | e | e
    · simp [e]
    · simp [e]
    · simp only [e]
      unfold phaseOf
      simp
      repeat' split
      all_goals omega
    · have hm : c.most = 0 := by simp [Cfg.most, e]
      have := h1.2.2.2.2
      simp [e]
      omega
  · simp [nextOf, Cfg.parks, hc]
theorem tries_no {c : Cfg} (h : c.parks = false) : c.tries = 0 := by simp [Cfg.tries, h]
theorem tries_low (c : Cfg) : 0 ≤ c.tries ∧ c.tries ≤ 16 := by
  unfold Cfg.tries
  split
  · rename_i h
    have := Cfg.tries_bounds h
    omega
  · omega

theorem walkTo_range (c : Cfg) (k : Nat) : ∀ x ∈ walkTo c k, 0 ≤ x ∧ x ≤ 2 := by
  intro x hx
  simp only [walkTo, List.mem_map] at hx
  obtain ⟨i, _, rfl⟩ := hx
  exact next_range c _
theorem walkTo_wf (c : Cfg) (k : Nat) : ∀ x ∈ walkTo c k, (Lit.int .i64 x).wf = true := by
  intro x hx
  have := walkTo_range c k x hx
  exact WalkArith.wf_i64 (by omega)
theorem walkTo_all (c : Cfg) (k : Nat) : cnts (walkTo c k) 0 + cnts (walkTo c k) 1 + cnts (walkTo c k) 2 = k := by
  induction k with
  | zero => rfl
  | succ k ih =>
    have h := next_range c k
    rw [walkTo_succ, cnts_snoc, cnts_snoc, cnts_snoc]
    have hk : nextOf c k = 0 ∨ nextOf c k = 1 ∨ nextOf c k = 2 := by omega
    rcases hk with e | e | e
    all_goals
      rw [e]
      simp
      omega
theorem walkTo_phased (c : Cfg) (k : Nat) (hc : c.ok = true) (h2 : c.wt = 2) : cnts (walkTo c k) 0 = min (k : Int) c.sp ∧ cnts (walkTo c k) 1 = min (max ((k : Int) - c.sp) 0) c.yi := by
  have h1 := ((Cfg.ok_iff c).1 hc).2.2.2.2
  have hn : ∀ i : Nat, nextOf c i = phaseOf c i := fun i => by
    have : max (i : Int) 0 = i := by omega
    simp [nextOf, hc, h2, this]
  induction k with
  | zero =>
    have e : cnts (walkTo c 0) 0 = 0 := rfl
    have e1 : cnts (walkTo c 0) 1 = 0 := rfl
    rw [e, e1]
    omega
  | succ k ih =>
    rw [walkTo_succ, cnts_snoc, cnts_snoc, hn k, ih.1, ih.2]
    unfold phaseOf
    push_cast
    split
    · simp
      omega
    · split
      · simp
        omega
      · simp
        omega
theorem walkTo_take (c : Cfg) {a b : Nat} (h : a ≤ b) : (walkTo c b).take a = walkTo c a := by
  simp only [walkTo, ← List.map_take, List.take_range, Nat.min_eq_left h]
theorem walkOf_nat (c : Cfg) {n : Nat} (h : n ≤ 1000) : walkOf c n = walkTo c n := by unfold walkOf; congr 1; omega

/-- A u8 as a natural number. -/
theorem u8_nat {a : Int} (h : (Lit.int .u8 a).wf = true) : ∃ n : Nat, a = n ∧ n < 256 := by
  have hb := bounds_u8 h
  exact ⟨a.toNat, by omega, by omega⟩

end Go.Proofs.Ytjgdoogfoaaejaa
