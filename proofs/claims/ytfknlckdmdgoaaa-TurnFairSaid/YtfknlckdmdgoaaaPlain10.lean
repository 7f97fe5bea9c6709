/-
  DERIVED. Plain facts on gaps, windows and rounds: lists and numbers alone.
-/
import Derived.Test.YtfknlckdmdgoaaaRobin
namespace Go.Proofs.Ytfknlckdmdgoaaa

/-! ### Windows -/
theorem fairOf_iff (l who : List Int) (window : Int) : fairOf l who window = true ↔ 1 ≤ window ∧ ∀ x ∈ who, (l.length : Int) < window ∨ gapOf l x < window := by
  simp [fairOf]
theorem fairOf_mono {l who : List Int} {v u : Int} (h : fairOf l who v = true) (hvu : v ≤ u) : fairOf l who u = true := by
  rw [fairOf_iff] at h ⊢
  refine ⟨by omega, fun x hx => ?_⟩
  rcases h.2 x hx with h' | h'
  · left; omega
  · right; omega
theorem leastRun_le (l who : List Int) (u : Int) : leastRun l who ≤ u ↔ 1 ≤ u ∧ ∀ x ∈ who, gapOf l x < u := by
  suffices h : ∀ (who : List Int) (m : Int), who.foldl (fun m x => max m (gapOf l x + 1)) m ≤ u ↔ m ≤ u ∧ ∀ x ∈ who, gapOf l x < u from h who 1
  intro who
  induction who with
  | nil => intro m; simp
  | cons y who ih =>
    intro m
    rw [List.foldl_cons, ih]
    simp only [List.mem_cons, forall_eq_or_imp]
    constructor
    · rintro ⟨h1, h2⟩
      exact ⟨by omega, by omega, h2⟩
    · rintro ⟨h1, h2, h3⟩
      exact ⟨by omega, h3⟩
theorem fairOf_least (l who : List Int) (u : Int) (hu : u ≤ l.length) : fairOf l who u = decide (leastRun l who ≤ u) := by
  rw [Bool.eq_iff_iff, fairOf_iff, decide_eq_true_eq, leastRun_le]
  constructor
  · rintro ⟨h1, h2⟩
    exact ⟨h1, fun x hx => by rcases h2 x hx with h | h <;> omega⟩
  · rintro ⟨h1, h2⟩
    exact ⟨h1, fun x hx => .inr (h2 x hx)⟩

/-! ### Parts -/
/-- Two runs over the same picks, the one begun later by s. -/
theorem run_near (who s q : Int) : ∀ (b : List Int) (x y : Int × Int), y.1 ≤ x.1 → x.1 ≤ y.1 + s → y.2 ≤ x.2 → x.2 ≤ max q (y.2 + s) → 0 ≤ s →
    (b.foldl (gapStep who) y).2 ≤ (b.foldl (gapStep who) x).2 ∧ (b.foldl (gapStep who) x).2 ≤ max q ((b.foldl (gapStep who) y).2 + s)
  | [], x, y, _, _, h3, h4, _ => ⟨h3, h4⟩
  | p :: b, x, y, h1, h2, h3, h4, h5 => by
    rw [List.foldl_cons, List.foldl_cons]
    refine run_near who s q b _ _ ?_ ?_ ?_ ?_ h5
    all_goals
      unfold gapStep
      by_cases hp : p = who
      · simp only [hp, if_true]; omega
      · simp only [hp, if_false]; omega
theorem run_up (who : Int) : ∀ (b : List Int) (x : Int × Int), x.2 ≤ (b.foldl (gapStep who) x).2
  | [], _ => Int.le_refl _
  | p :: b, x => by
    rw [List.foldl_cons]
    refine Int.le_trans ?_ (run_up who b _)
    unfold gapStep
    by_cases hp : p = who
    · simp only [hp, if_true]; omega
    · simp only [hp, if_false]; omega

theorem gap_parts (a b : List Int) (who : Int) : max (gapOf a who) (gapOf b who) ≤ gapOf (a ++ b) who ∧ gapOf (a ++ b) who ≤ gapOf a who + gapOf b who := by
  have e : gapRun who (a ++ b) = b.foldl (gapStep who) (gapRun who a) := by simp [gapRun]
  have hb := gapRun_bounds who a
  have hy := gapRun_bounds who b
  have h1 := run_near who (gapRun who a).1 (gapRun who a).2 b (gapRun who a) (0, 0) (by simp; omega) (by simp) (by simp; omega) (by omega) hb.1
  have h2 := run_up who b (gapRun who a)
  have eb : b.foldl (gapStep who) (0, 0) = gapRun who b := rfl
  rw [eb] at h1
  unfold gapOf
  rw [e]
  omega
theorem gap_cut (a b : List Int) (who : Int) : gapOf (a ++ [who] ++ b) who = max (gapOf a who) (gapOf b who) := by
  have e : gapRun who (a ++ [who] ++ b) = b.foldl (gapStep who) (0, (gapRun who a).2) := by
    simp [gapRun, gapStep]
  have hb := gapRun_bounds who a
  have h1 := run_near who 0 (gapRun who a).2 b (0, (gapRun who a).2) (0, 0) (by simp) (by simp) (by simp; omega) (by simp; omega) (by simp)
  have h2 := run_up who b (0, (gapRun who a).2)
  have eb : b.foldl (gapStep who) (0, 0) = gapRun who b := rfl
  rw [eb] at h1
  unfold gapOf
  rw [e]
  dsimp only at h2
  omega
/-- Who is never picked is not picked all along. -/
theorem run_misses (who : Int) : ∀ (a : List Int) (x : Int × Int), (∀ p ∈ a, p ≠ who) → x.1 ≤ x.2 → a.foldl (gapStep who) x = (x.1 + a.length, max x.2 (x.1 + a.length))
  | [], x, _, h => Prod.ext (by simp) (by simp; omega)
  | p :: a, x, hn, h => by
    have hp : p ≠ who := hn p (by simp)
    rw [List.foldl_cons, run_misses who a _ (fun q hq => hn q (by simp [hq])) (by simp only [gapStep, hp, if_false]; omega)]
    simp only [gapStep, hp, if_false, List.length_cons]
    refine Prod.ext ?_ ?_ <;> simp only [] <;> push_cast <;> omega
theorem gap_none (a : List Int) (who : Int) (h : countOf a who = 0) : gapOf a who = a.length := by
  have hn : ∀ p ∈ a, p ≠ who := fun p hp e => by
    subst e
    have := List.count_pos_iff.2 hp
    unfold countOf at h
    omega
  have := run_misses who a (0, 0) hn (by simp)
  unfold gapOf gapRun
  rw [this]
  simp only []
  omega

/-! ### Rounds -/
theorem row_mem (n : Nat) (x : Int) (h : x ∈ row n) : 0 ≤ x ∧ x < n := by
  simp only [row, List.mem_map, List.mem_range] at h
  obtain ⟨i, hi, rfl⟩ := h
  simp only [Int.ofNat_eq_natCast]
  omega
theorem row_split (n w : Nat) (h : w < n) : row n = row w ++ [(w : Int)] ++ (List.range (n - w - 1)).map (fun i => ((w + 1 + i : Nat) : Int)) := by
  have e : n = (w + 1) + (n - w - 1) := by omega
  unfold row
  conv => lhs; rw [e, List.range_add]
  rw [List.range_succ]
  simp [List.map_append, Function.comp_def]
theorem row_count (n w : Nat) (h : w < n) : countOf (row n) w = 1 := by
  rw [row_split n w h]
  unfold countOf
  rw [List.count_append, List.count_append]
  have h1 : List.count (w : Int) (row w) = 0 := List.count_eq_zero.2 (fun hm => by have := row_mem w _ hm; omega)
  have h2 : List.count (w : Int) ((List.range (n - w - 1)).map (fun i => ((w + 1 + i : Nat) : Int))) = 0 := List.count_eq_zero.2 (fun hm => by
    simp only [List.mem_map] at hm
    obtain ⟨i, _, hi⟩ := hm
    omega)
  rw [h1, h2]
  simp
theorem rows_count (n k w : Nat) (h : w < n) : countOf (rows n k) w = k := by
  induction k with
  | zero => rfl
  | succ k ih =>
    have h1 : countOf (rows n (k + 1)) w = countOf (rows n k) w + countOf (row n) w := by simp [rows, countOf]
    rw [h1, ih, row_count n w h]
    push_cast
    omega
theorem rows_none (n k : Nat) : countOf (rows n k) n = 0 := by
  have h : List.count (n : Int) (rows n k) = 0 := by
    induction k with
    | zero => rfl
    | succ k ih =>
      rw [rows, List.count_append, ih, List.count_eq_zero.2 (fun hm => by have := row_mem n _ hm; omega)]
  simp [countOf, h]
theorem row_run (n w : Nat) (h : w < n) (x : Int × Int) (h0 : 0 ≤ x.1) (h1 : x.1 ≤ x.2) (h2 : x.1 + w < n) (h3 : x.2 < n) :
    ((row n).foldl (gapStep w) x).1 = n - w - 1 ∧ ((row n).foldl (gapStep w) x).1 ≤ ((row n).foldl (gapStep w) x).2 ∧ ((row n).foldl (gapStep w) x).2 < n := by
  rw [row_split n w h, List.foldl_append, List.foldl_append, run_misses w (row w) x (fun p hp e => by have := row_mem w p hp; omega) h1, row_length]
  simp only [List.foldl_cons, List.foldl_nil, gapStep, if_true]
  rw [run_misses w _ _ (fun p hp e => by
    simp only [List.mem_map] at hp
    obtain ⟨i, _, hi⟩ := hp
    omega) (by simp only []; omega)]
  simp only [List.length_map, List.length_range]
  omega
theorem rows_run (n k w : Nat) (h : w < n) : 0 ≤ (gapRun w (rows n k)).1 ∧ (gapRun w (rows n k)).1 ≤ (gapRun w (rows n k)).2 ∧ (gapRun w (rows n k)).1 + w < n ∧ (gapRun w (rows n k)).2 < n := by
  induction k with
  | zero => simp [rows, gapRun]; omega
  | succ k ih =>
    have e : gapRun w (rows n (k + 1)) = (row n).foldl (gapStep w) (gapRun w (rows n k)) := by simp [rows, gapRun]
    have := row_run n w h (gapRun w (rows n k)) ih.1 ih.2.1 ih.2.2.1 ih.2.2.2
    rw [e]
    omega
theorem rows_gap (n k w : Nat) (h : w < n) : gapOf (rows n k) w < n := (rows_run n k w h).2.2.2

end Go.Proofs.Ytfknlckdmdgoaaa
