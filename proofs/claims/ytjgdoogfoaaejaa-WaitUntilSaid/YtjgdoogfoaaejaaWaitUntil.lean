/-
  WaitUntil, for every input: the law's Go function returns true, and the arguments read afterwards as they read before. No condition beside those that the given statement itself bears. (Printed by mk_wait.py.)
-/
import Derived.Test.YtjgdoogfoaaejaaRows
import Derived.Test.YtjgdoogfoaaejaaAwake7
import Derived.Test.YtjgdoogfoaaejaaOpen
import Derived.Test.YtjgdoogfoaaejaaPlainW
namespace Go.Proofs.Ytjgdoogfoaaejaa
open Go Go.ChangeShapes Go.WideShapes Go.ChangeAt Go.RowKit

set_option maxRecDepth 100000 in
set_option maxHeartbeats 4000000 in
theorem waitUntil_no (c : Cfg) (n : Int) (w : World) (hp : c.parks = false) :
    Calls Try.prog 5 #[c.val, .int .i64 n] w fun e w' => e = .returned (.bool true) ∧ Below w.heap.size w w' := by
  have D1 := fun W => until_any c W
  have D2 := fun W => next_any c n W
  have D3 := fun W => parks_any c W
  have D4 := fun W => conf_tries c W
  have q1 : (nextOf c n == 2) = false := by
    rw [beq_eq_false_iff_ne]
    intro e
    have := ((next_parks c n).1 e).1
    rw [hp] at this
    cases this
  have q2 := tries_no hp
  rw [hp] at D1 D3
  clear hp
  obtain ⟨log, th, pol, wt, sp, yi, single⟩ := c
  generalize nextOf _ n = r at *
  generalize Cfg.tries _ = t at *
  go_enter Try.func5, Try.ntmps5
  go_wp2_with fail
  refine (awake_any _).mono ?_
  rintro e w1 ⟨rfl, hb⟩
  have hS := ((Boxes.nil w 23).add ⟨log, th, pol, wt, sp, yi, single⟩).on hb
  clear hb
  obtain ⟨c0, c1, c2, c3, c4, c5, c6⟩ := cells7 (hS.at_ (B := w.heap.size) (c := ⟨log, th, pol, wt, sp, yi, single⟩) (by simp))
  go_wp2_with fail
  refine (D1 _).mono ?_
  rintro e w2 ⟨rfl, hb⟩
  replace hS := hS.on hb
  clear hb c0 c1 c2 c3 c4 c5 c6
  obtain ⟨c0, c1, c2, c3, c4, c5, c6⟩ := cells7 (hS.at_ (B := w.heap.size) (c := ⟨log, th, pol, wt, sp, yi, single⟩) (by simp))
  go_wp2_with fail
  refine (D2 _).mono ?_
  rintro e w3 ⟨rfl, hb⟩
  replace hS := hS.on hb
  clear hb c0 c1 c2 c3 c4 c5 c6
  obtain ⟨c0, c1, c2, c3, c4, c5, c6⟩ := cells7 (hS.at_ (B := w.heap.size) (c := ⟨log, th, pol, wt, sp, yi, single⟩) (by simp))
  go_wp2_with fail
  refine (D3 _).mono ?_
  rintro e w4 ⟨rfl, hb⟩
  replace hS := hS.on hb
  clear hb c0 c1 c2 c3 c4 c5 c6
  clear D1 D2 D3 D4
  have hB := hS.2
  clear hS
  go_wp2
  go_ret
  exact ⟨rfl, hB⟩

set_option maxRecDepth 100000 in
set_option maxHeartbeats 4000000 in
theorem waitUntil_ay (c : Cfg) (n : Int) (w : World) (hp : c.parks = true) (hn : n < 0) (ht : c.tries ≤ 0) :
    Calls Try.prog 5 #[c.val, .int .i64 n] w fun e w' => e = .returned (.bool true) ∧ Below w.heap.size w w' := by
  have D1 := fun W => until_any c W
  have D2 := fun W => next_any c n W
  have D3 := fun W => parks_any c W
  have D4 := fun W => conf_tries c W
  have hm : max n 0 = 0 := by omega
  have q1 : (nextOf c n == 2) = true := by
    have := next_parks c n
    rw [hm] at this
    rw [beq_iff_eq]
    exact this.2 ⟨hp, ht⟩
  clear hm
  have q3 : decide (c.tries ≤ 0) = true := by simpa using ht
  have q4 := tries_low c
  obtain ⟨q5, q6⟩ := q4
  rw [hp] at D1 D3
  clear hp
  obtain ⟨log, th, pol, wt, sp, yi, single⟩ := c
  generalize nextOf _ n = r at *
  generalize Cfg.tries _ = t at *
  go_enter Try.func5, Try.ntmps5
  go_wp2_with fail
  refine (awake_any _).mono ?_
  rintro e w1 ⟨rfl, hb⟩
  have hS := ((Boxes.nil w 23).add ⟨log, th, pol, wt, sp, yi, single⟩).on hb
  clear hb
  obtain ⟨c0, c1, c2, c3, c4, c5, c6⟩ := cells7 (hS.at_ (B := w.heap.size) (c := ⟨log, th, pol, wt, sp, yi, single⟩) (by simp))
  go_wp2_with fail
  refine (D1 _).mono ?_
  rintro e w2 ⟨rfl, hb⟩
  replace hS := hS.on hb
  clear hb c0 c1 c2 c3 c4 c5 c6
  obtain ⟨c0, c1, c2, c3, c4, c5, c6⟩ := cells7 (hS.at_ (B := w.heap.size) (c := ⟨log, th, pol, wt, sp, yi, single⟩) (by simp))
  go_wp2_with fail
  refine (D2 _).mono ?_
  rintro e w3 ⟨rfl, hb⟩
  replace hS := hS.on hb
  clear hb c0 c1 c2 c3 c4 c5 c6
  obtain ⟨c0, c1, c2, c3, c4, c5, c6⟩ := cells7 (hS.at_ (B := w.heap.size) (c := ⟨log, th, pol, wt, sp, yi, single⟩) (by simp))
  go_wp2_with fail
  refine (D3 _).mono ?_
  rintro e w4 ⟨rfl, hb⟩
  replace hS := hS.on hb
  clear hb c0 c1 c2 c3 c4 c5 c6
  obtain ⟨c0, c1, c2, c3, c4, c5, c6⟩ := cells7 (hS.at_ (B := w.heap.size) (c := ⟨log, th, pol, wt, sp, yi, single⟩) (by simp))
  go_wp2_with fail
  refine (D4 _).mono ?_
  rintro e w5 ⟨rfl, hb⟩
  replace hS := hS.on hb
  clear hb c0 c1 c2 c3 c4 c5 c6
  clear D1 D2 D3 D4
  have hB := hS.2
  clear hS
  go_wp2
  go_ret
  exact ⟨rfl, hB⟩

set_option maxRecDepth 100000 in
set_option maxHeartbeats 4000000 in
theorem waitUntil_an (c : Cfg) (n : Int) (w : World) (hp : c.parks = true) (hn : n < 0) (ht : ¬ c.tries ≤ 0) :
    Calls Try.prog 5 #[c.val, .int .i64 n] w fun e w' => e = .returned (.bool true) ∧ Below w.heap.size w w' := by
  have D1 := fun W => until_any c W
  have D2 := fun W => next_any c n W
  have D3 := fun W => parks_any c W
  have D4 := fun W => conf_tries c W
  have hm : max n 0 = 0 := by omega
  have q1 : (nextOf c n == 2) = false := by
    have := next_parks c n
    rw [hm] at this
    rw [beq_eq_false_iff_ne]
    intro e
    exact ht (this.1 e).2
  clear hm
  have q3 : decide (c.tries ≤ 0) = false := by simpa using ht
  have q4 := tries_low c
  obtain ⟨q5, q6⟩ := q4
  rw [hp] at D1 D3
  clear hp
  obtain ⟨log, th, pol, wt, sp, yi, single⟩ := c
  generalize nextOf _ n = r at *
  generalize Cfg.tries _ = t at *
  go_enter Try.func5, Try.ntmps5
  go_wp2_with fail
  refine (awake_any _).mono ?_
  rintro e w1 ⟨rfl, hb⟩
  have hS := ((Boxes.nil w 23).add ⟨log, th, pol, wt, sp, yi, single⟩).on hb
  clear hb
  obtain ⟨c0, c1, c2, c3, c4, c5, c6⟩ := cells7 (hS.at_ (B := w.heap.size) (c := ⟨log, th, pol, wt, sp, yi, single⟩) (by simp))
  go_wp2_with fail
  refine (D1 _).mono ?_
  rintro e w2 ⟨rfl, hb⟩
  replace hS := hS.on hb
  clear hb c0 c1 c2 c3 c4 c5 c6
  obtain ⟨c0, c1, c2, c3, c4, c5, c6⟩ := cells7 (hS.at_ (B := w.heap.size) (c := ⟨log, th, pol, wt, sp, yi, single⟩) (by simp))
  go_wp2_with fail
  refine (D2 _).mono ?_
  rintro e w3 ⟨rfl, hb⟩
  replace hS := hS.on hb
  clear hb c0 c1 c2 c3 c4 c5 c6
  obtain ⟨c0, c1, c2, c3, c4, c5, c6⟩ := cells7 (hS.at_ (B := w.heap.size) (c := ⟨log, th, pol, wt, sp, yi, single⟩) (by simp))
  go_wp2_with fail
  refine (D3 _).mono ?_
  rintro e w4 ⟨rfl, hb⟩
  replace hS := hS.on hb
  clear hb c0 c1 c2 c3 c4 c5 c6
  obtain ⟨c0, c1, c2, c3, c4, c5, c6⟩ := cells7 (hS.at_ (B := w.heap.size) (c := ⟨log, th, pol, wt, sp, yi, single⟩) (by simp))
  go_wp2_with fail
  refine (D4 _).mono ?_
  rintro e w5 ⟨rfl, hb⟩
  replace hS := hS.on hb
  clear hb c0 c1 c2 c3 c4 c5 c6
  clear D1 D2 D3 D4
  have hB := hS.2
  clear hS
  go_wp2
  go_ret
  exact ⟨rfl, hB⟩

set_option maxRecDepth 100000 in
set_option maxHeartbeats 4000000 in
theorem waitUntil_by (c : Cfg) (n : Int) (w : World) (hp : c.parks = true) (hn : ¬ n < 0) (ht : c.tries ≤ n) :
    Calls Try.prog 5 #[c.val, .int .i64 n] w fun e w' => e = .returned (.bool true) ∧ Below w.heap.size w w' := by
  have D1 := fun W => until_any c W
  have D2 := fun W => next_any c n W
  have D3 := fun W => parks_any c W
  have D4 := fun W => conf_tries c W
  have hm : max n 0 = n := by omega
  have q1 : (nextOf c n == 2) = true := by
    have := next_parks c n
    rw [hm] at this
    rw [beq_iff_eq]
    exact this.2 ⟨hp, ht⟩
  clear hm
  have q3 : decide (c.tries ≤ n) = true := by simpa using ht
  have q4 := tries_low c
  obtain ⟨q5, q6⟩ := q4
  rw [hp] at D1 D3
  clear hp
  obtain ⟨log, th, pol, wt, sp, yi, single⟩ := c
  generalize nextOf _ n = r at *
  generalize Cfg.tries _ = t at *
  go_enter Try.func5, Try.ntmps5
  go_wp2_with fail
  refine (awake_any _).mono ?_
  rintro e w1 ⟨rfl, hb⟩
  have hS := ((Boxes.nil w 23).add ⟨log, th, pol, wt, sp, yi, single⟩).on hb
  clear hb
  obtain ⟨c0, c1, c2, c3, c4, c5, c6⟩ := cells7 (hS.at_ (B := w.heap.size) (c := ⟨log, th, pol, wt, sp, yi, single⟩) (by simp))
  go_wp2_with fail
  refine (D1 _).mono ?_
  rintro e w2 ⟨rfl, hb⟩
  replace hS := hS.on hb
  clear hb c0 c1 c2 c3 c4 c5 c6
  obtain ⟨c0, c1, c2, c3, c4, c5, c6⟩ := cells7 (hS.at_ (B := w.heap.size) (c := ⟨log, th, pol, wt, sp, yi, single⟩) (by simp))
  go_wp2_with fail
  refine (D2 _).mono ?_
  rintro e w3 ⟨rfl, hb⟩
  replace hS := hS.on hb
  clear hb c0 c1 c2 c3 c4 c5 c6
  obtain ⟨c0, c1, c2, c3, c4, c5, c6⟩ := cells7 (hS.at_ (B := w.heap.size) (c := ⟨log, th, pol, wt, sp, yi, single⟩) (by simp))
  go_wp2_with fail
  refine (D3 _).mono ?_
  rintro e w4 ⟨rfl, hb⟩
  replace hS := hS.on hb
  clear hb c0 c1 c2 c3 c4 c5 c6
  obtain ⟨c0, c1, c2, c3, c4, c5, c6⟩ := cells7 (hS.at_ (B := w.heap.size) (c := ⟨log, th, pol, wt, sp, yi, single⟩) (by simp))
  go_wp2_with fail
  refine (D4 _).mono ?_
  rintro e w5 ⟨rfl, hb⟩
  replace hS := hS.on hb
  clear hb c0 c1 c2 c3 c4 c5 c6
  clear D1 D2 D3 D4
  have hB := hS.2
  clear hS
  go_wp2
  go_ret
  exact ⟨rfl, hB⟩

set_option maxRecDepth 100000 in
set_option maxHeartbeats 4000000 in
theorem waitUntil_bn (c : Cfg) (n : Int) (w : World) (hp : c.parks = true) (hn : ¬ n < 0) (ht : ¬ c.tries ≤ n) :
    Calls Try.prog 5 #[c.val, .int .i64 n] w fun e w' => e = .returned (.bool true) ∧ Below w.heap.size w w' := by
  have D1 := fun W => until_any c W
  have D2 := fun W => next_any c n W
  have D3 := fun W => parks_any c W
  have D4 := fun W => conf_tries c W
  have hm : max n 0 = n := by omega
  have q1 : (nextOf c n == 2) = false := by
    have := next_parks c n
    rw [hm] at this
    rw [beq_eq_false_iff_ne]
    intro e
    exact ht (this.1 e).2
  clear hm
  have q3 : decide (c.tries ≤ n) = false := by simpa using ht
  have q4 := tries_low c
  obtain ⟨q5, q6⟩ := q4
  rw [hp] at D1 D3
  clear hp
  obtain ⟨log, th, pol, wt, sp, yi, single⟩ := c
  generalize nextOf _ n = r at *
  generalize Cfg.tries _ = t at *
  go_enter Try.func5, Try.ntmps5
  go_wp2_with fail
  refine (awake_any _).mono ?_
  rintro e w1 ⟨rfl, hb⟩
  have hS := ((Boxes.nil w 23).add ⟨log, th, pol, wt, sp, yi, single⟩).on hb
  clear hb
  obtain ⟨c0, c1, c2, c3, c4, c5, c6⟩ := cells7 (hS.at_ (B := w.heap.size) (c := ⟨log, th, pol, wt, sp, yi, single⟩) (by simp))
  go_wp2_with fail
  refine (D1 _).mono ?_
  rintro e w2 ⟨rfl, hb⟩
  replace hS := hS.on hb
  clear hb c0 c1 c2 c3 c4 c5 c6
  obtain ⟨c0, c1, c2, c3, c4, c5, c6⟩ := cells7 (hS.at_ (B := w.heap.size) (c := ⟨log, th, pol, wt, sp, yi, single⟩) (by simp))
  go_wp2_with fail
  refine (D2 _).mono ?_
  rintro e w3 ⟨rfl, hb⟩
  replace hS := hS.on hb
  clear hb c0 c1 c2 c3 c4 c5 c6
  obtain ⟨c0, c1, c2, c3, c4, c5, c6⟩ := cells7 (hS.at_ (B := w.heap.size) (c := ⟨log, th, pol, wt, sp, yi, single⟩) (by simp))
  go_wp2_with fail
  refine (D3 _).mono ?_
  rintro e w4 ⟨rfl, hb⟩
  replace hS := hS.on hb
  clear hb c0 c1 c2 c3 c4 c5 c6
  obtain ⟨c0, c1, c2, c3, c4, c5, c6⟩ := cells7 (hS.at_ (B := w.heap.size) (c := ⟨log, th, pol, wt, sp, yi, single⟩) (by simp))
  go_wp2_with fail
  refine (D4 _).mono ?_
  rintro e w5 ⟨rfl, hb⟩
  replace hS := hS.on hb
  clear hb c0 c1 c2 c3 c4 c5 c6
  clear D1 D2 D3 D4
  have hB := hS.2
  clear hS
  go_wp2
  go_ret
  exact ⟨rfl, hB⟩

theorem waitUntil_walk (c : Cfg) (n : Int) (w : World) : Calls Try.prog 5 #[c.val, .int .i64 n] w fun e w' => e = .returned (.bool true) ∧ Below w.heap.size w w' := by
  by_cases hp : c.parks = true
  · by_cases hn : n < 0
    · by_cases ht : c.tries ≤ 0
      · exact waitUntil_ay c n w hp hn ht
      · exact waitUntil_an c n w hp hn ht
    · by_cases ht : c.tries ≤ n
      · exact waitUntil_by c n w hp hn ht
      · exact waitUntil_bn c n w hp hn ht
  · exact waitUntil_no c n w (by simpa using hp)

/-! ### The row -/
set_option maxRecDepth 100000 in
theorem waitUntil_lifted (os : Os) (started : os.Started) (H : Type) (enc : TypeId × Value → H) :
    ReturnsInHanded {} Try.checked os 5 .any (Rows.waitUntilSpec.pre6 enc Try.prog Try.f5 Rows.waitUntilRow.domain false) (Rows.waitUntilSpec.post enc Try.prog Try.f5 false true false false) := by
  refine returnsInHanded_of_change (C := Try.checked) own started (by kernel_rfl) Try.func5
    (ChangeSpec.witness6 (enc := enc) (C := Try.checked) false ⟨#[], #[.agg #[.int .i64 0, .int .i64 0, .int .i64 0, .int .i64 0, .int .i64 0, .int .i64 0, .bool false], .int .i64 0], []⟩ 8 (by kernel_rfl) (by kernel_rfl) (by kernel_rfl) (by kernel_rfl)) ?_
  intro W base args ds gs before hval0 hW hcnd _
  have hval : ∀ (j : Nat) t v, Try.f5.params[j]? = some t → args[j]? = some v → Value.okWide Try.prog W .any base t v := hval0
  have hW' := hW
  obtain ⟨p, q, hA0, hV, rfl, hfz, hnd⟩ := hW
  have hA : DataW.TrodAll enc Try.prog W 0 (fun _ => true) true Try.f5.params.toList args.toList ds p := hA0
  rw [Try.params5] at hA hval
  obtain ⟨v0, vs0, d0, ds0, p0, q0, hargs, rfl, rfl, h0, r0⟩ := trodAll_cons hA
  obtain ⟨v1, vs1, d1, ds1, p1, q1, rfl, rfl, rfl, h1, r1⟩ := trodAll_cons r0
  obtain ⟨rfl, rfl, rfl⟩ := trodAll_nil r1
  obtain rfl : args = #[v0, v1] := by cases args; simp_all
  obtain ⟨rfl, rfl⟩ := trodVars_none hV
  have k0 := h0
  have lt0 : ∀ x ∈ p0, x.block < W.heap.size := by obtain ⟨m, hm⟩ := k0; exact DataW.trod_lt m _ _ _ hm
  obtain ⟨c0, rfl, w0⟩ := open_cfg (hval 0 23 v0 rfl rfl) h0
  obtain ⟨a1, rfl, rfl, rfl, w1⟩ := open_int Try.underlying3 (hval 1 3 v1 rfl rfl) h1
  clear hA0 hval0
  refine (waitUntil_walk c0 a1 W).mono fun e W' ⟨he, bel⟩ => ?_
  subst he
  exact ⟨_, rfl, _, _, _, [], _, [], hW', trodAll_mk1 (shut_bool Try.underlying4 _), (trodAll_cons_mk (Below.trod laidOut (by kernel_rfl) (of_decide_eq_true (by kernel_rfl)) k0 bel lt0) (trodAll_cons_mk (shut_int Try.underlying3 w1) trodAll_mk0)), rfl, bel.frame _, fun h => by cases h⟩

theorem waitUntil_over : Rows.waitUntilRow.holds Try.pinned (OpenSpec.ofChange Rows.waitUntilSpec) :=
  OpenClaim.holds_of_wide 5 Try.f5 rfl rfl rfl rfl rfl rfl rfl ⟨rfl, rfl, rfl, rfl, rfl⟩ rfl rfl rfl rfl rfl (by kernel_rfl) Try.func5 (by kernel_rfl)
    (of_decide_eq_true (by kernel_rfl)) (by unfold Func.isWrapper; first | (rw [if_pos (by decide +kernel)]; kernel_rfl) | (rw [if_neg (by decide +kernel)]; exact ⟨rfl, rfl⟩))
    (fun os started H enc _ => waitUntil_lifted os started H enc)

/-- The statement. -/
theorem waitUntil_holds : Rows.WaitUntilSaid := waitUntil_over
#print axioms waitUntil_holds

end Go.Proofs.Ytjgdoogfoaaejaa
