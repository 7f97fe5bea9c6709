/-
  WaitRises, for every input: the law's Go function returns true, and the arguments read afterwards as they read before. No condition beside those that the given statement itself bears. (Printed by mk_wait.py.)
-/
import Derived.Test.YtjgdoogfoaaejaaRows
import Derived.Test.YtjgdoogfoaaejaaAwake7
import Derived.Test.YtjgdoogfoaaejaaOpen
import Derived.Test.YtjgdoogfoaaejaaPlainW
namespace Go.Proofs.Ytjgdoogfoaaejaa
open Go Go.ChangeShapes Go.WideShapes Go.ChangeAt Go.RowKit

set_option maxRecDepth 100000 in
set_option maxHeartbeats 4000000 in
theorem waitRises_lt (c : Cfg) (n m : Int) (w : World) (h : n < m) :
    Calls Try.prog 4 #[c.val, .int .i64 n, .int .i64 m] w fun e w' => e = .returned (.bool true) ∧ Below w.heap.size w w' := by
  have C1 := fun W => next_any c n W
  have C2 := fun W => next_any c m W
  have q1 := next_mono c (show n ≤ m by omega)
  have q2 := (next_range c n).1
  have q3 := (next_range c m).2
  obtain ⟨log, th, pol, wt, sp, yi, single⟩ := c
  generalize nextOf _ n = x at *
  generalize nextOf _ m = y at *
  go_enter Try.func4, Try.ntmps4
  go_wp2_with fail
  refine (awake_any _).mono ?_
  rintro e w1 ⟨rfl, hb⟩
  have hS := ((Boxes.nil w 23).add ⟨log, th, pol, wt, sp, yi, single⟩).on hb
  clear hb
  obtain ⟨c0, c1, c2, c3, c4, c5, c6⟩ := cells7 (hS.at_ (B := w.heap.size) (c := ⟨log, th, pol, wt, sp, yi, single⟩) (by simp))
  go_wp2_with fail
  refine (C1 _).mono ?_
  rintro e w2 ⟨rfl, hb⟩
  replace hS := hS.on hb
  clear hb c0 c1 c2 c3 c4 c5 c6
  obtain ⟨c0, c1, c2, c3, c4, c5, c6⟩ := cells7 (hS.at_ (B := w.heap.size) (c := ⟨log, th, pol, wt, sp, yi, single⟩) (by simp))
  go_wp2_with fail
  refine (C2 _).mono ?_
  rintro e w3 ⟨rfl, hb⟩
  replace hS := hS.on hb
  clear hb c0 c1 c2 c3 c4 c5 c6
  clear C1 C2
  have hB := hS.2
  clear hS
  go_wp2
  go_ret
  exact ⟨rfl, hB⟩

set_option maxRecDepth 100000 in
set_option maxHeartbeats 4000000 in
theorem waitRises_gt (c : Cfg) (n m : Int) (w : World) (h : m < n) :
    Calls Try.prog 4 #[c.val, .int .i64 n, .int .i64 m] w fun e w' => e = .returned (.bool true) ∧ Below w.heap.size w w' := by
  have C1 := fun W => next_any c m W
  have C2 := fun W => next_any c n W
  have q1 := next_mono c (show m ≤ n by omega)
  have q2 := (next_range c m).1
  have q3 := (next_range c n).2
  obtain ⟨log, th, pol, wt, sp, yi, single⟩ := c
  generalize nextOf _ m = x at *
  generalize nextOf _ n = y at *
  go_enter Try.func4, Try.ntmps4
  go_wp2_with fail
  refine (awake_any _).mono ?_
  rintro e w1 ⟨rfl, hb⟩
  have hS := ((Boxes.nil w 23).add ⟨log, th, pol, wt, sp, yi, single⟩).on hb
  clear hb
  obtain ⟨c0, c1, c2, c3, c4, c5, c6⟩ := cells7 (hS.at_ (B := w.heap.size) (c := ⟨log, th, pol, wt, sp, yi, single⟩) (by simp))
  go_wp2_with fail
  refine (C1 _).mono ?_
  rintro e w2 ⟨rfl, hb⟩
  replace hS := hS.on hb
  clear hb c0 c1 c2 c3 c4 c5 c6
  obtain ⟨c0, c1, c2, c3, c4, c5, c6⟩ := cells7 (hS.at_ (B := w.heap.size) (c := ⟨log, th, pol, wt, sp, yi, single⟩) (by simp))
  go_wp2_with fail
  refine (C2 _).mono ?_
  rintro e w3 ⟨rfl, hb⟩
  replace hS := hS.on hb
  clear hb c0 c1 c2 c3 c4 c5 c6
  clear C1 C2
  have hB := hS.2
  clear hS
  go_wp2
  go_ret
  exact ⟨rfl, hB⟩

set_option maxRecDepth 100000 in
set_option maxHeartbeats 4000000 in
theorem waitRises_eq (c : Cfg) (n m : Int) (w : World) (h : n = m) :
    Calls Try.prog 4 #[c.val, .int .i64 n, .int .i64 m] w fun e w' => e = .returned (.bool true) ∧ Below w.heap.size w w' := by
  have C1 := fun W => next_any c m W
  have C2 := fun W => next_any c m W
  have q1 := next_mono c (show m ≤ m by omega)
  have q2 := (next_range c m).1
  have q3 := (next_range c m).2
  obtain ⟨log, th, pol, wt, sp, yi, single⟩ := c
  subst h
  generalize nextOf _ n = x at *
  go_enter Try.func4, Try.ntmps4
  go_wp2_with fail
  refine (awake_any _).mono ?_
  rintro e w1 ⟨rfl, hb⟩
  have hS := ((Boxes.nil w 23).add ⟨log, th, pol, wt, sp, yi, single⟩).on hb
  clear hb
  obtain ⟨c0, c1, c2, c3, c4, c5, c6⟩ := cells7 (hS.at_ (B := w.heap.size) (c := ⟨log, th, pol, wt, sp, yi, single⟩) (by simp))
  go_wp2_with fail
  refine (C1 _).mono ?_
  rintro e w2 ⟨rfl, hb⟩
  replace hS := hS.on hb
  clear hb c0 c1 c2 c3 c4 c5 c6
  obtain ⟨c0, c1, c2, c3, c4, c5, c6⟩ := cells7 (hS.at_ (B := w.heap.size) (c := ⟨log, th, pol, wt, sp, yi, single⟩) (by simp))
  go_wp2_with fail
  refine (C2 _).mono ?_
  rintro e w3 ⟨rfl, hb⟩
  replace hS := hS.on hb
  clear hb c0 c1 c2 c3 c4 c5 c6
  clear C1 C2
  have hB := hS.2
  clear hS
  go_wp2
  go_ret
  exact ⟨rfl, hB⟩

theorem waitRises_walk (c : Cfg) (n m : Int) (w : World) : Calls Try.prog 4 #[c.val, .int .i64 n, .int .i64 m] w fun e w' => e = .returned (.bool true) ∧ Below w.heap.size w w' := by
  by_cases h : n < m
  · exact waitRises_lt c n m w h
  · by_cases h2 : m < n
    · exact waitRises_gt c n m w h2
    · exact waitRises_eq c n m w (by omega)

/-! ### The row -/
set_option maxRecDepth 100000 in
theorem waitRises_lifted (os : Os) (started : os.Started) (H : Type) (enc : TypeId × Value → H) :
    ReturnsInHanded {} Try.checked os 4 .any (Rows.waitRisesSpec.pre6 enc Try.prog Try.f4 Rows.waitRisesRow.domain false) (Rows.waitRisesSpec.post enc Try.prog Try.f4 false true false false) := by
  refine returnsInHanded_of_change (C := Try.checked) own started (by kernel_rfl) Try.func4
    (ChangeSpec.witness6 (enc := enc) (C := Try.checked) false ⟨#[], #[.agg #[.int .i64 0, .int .i64 0, .int .i64 0, .int .i64 0, .int .i64 0, .int .i64 0, .bool false], .int .i64 0, .int .i64 0], []⟩ 8 (by kernel_rfl) (by kernel_rfl) (by kernel_rfl) (by kernel_rfl)) ?_
  intro W base args ds gs before hval0 hW hcnd _
  have hval : ∀ (j : Nat) t v, Try.f4.params[j]? = some t → args[j]? = some v → Value.okWide Try.prog W .any base t v := hval0
  have hW' := hW
  obtain ⟨p, q, hA0, hV, rfl, hfz, hnd⟩ := hW
  have hA : DataW.TrodAll enc Try.prog W 0 (fun _ => true) true Try.f4.params.toList args.toList ds p := hA0
  rw [Try.params4] at hA hval
  obtain ⟨v0, vs0, d0, ds0, p0, q0, hargs, rfl, rfl, h0, r0⟩ := trodAll_cons hA
  obtain ⟨v1, vs1, d1, ds1, p1, q1, rfl, rfl, rfl, h1, r1⟩ := trodAll_cons r0
  obtain ⟨v2, vs2, d2, ds2, p2, q2, rfl, rfl, rfl, h2, r2⟩ := trodAll_cons r1
  obtain ⟨rfl, rfl, rfl⟩ := trodAll_nil r2
  obtain rfl : args = #[v0, v1, v2] := by cases args; simp_all
  obtain ⟨rfl, rfl⟩ := trodVars_none hV
  have k0 := h0
  have lt0 : ∀ x ∈ p0, x.block < W.heap.size := by obtain ⟨m, hm⟩ := k0; exact DataW.trod_lt m _ _ _ hm
  obtain ⟨c0, rfl, w0⟩ := open_cfg (hval 0 23 v0 rfl rfl) h0
  obtain ⟨a1, rfl, rfl, rfl, w1⟩ := open_int Try.underlying3 (hval 1 3 v1 rfl rfl) h1
  obtain ⟨a2, rfl, rfl, rfl, w2⟩ := open_int Try.underlying3 (hval 2 3 v2 rfl rfl) h2
  clear hA0 hval0
  refine (waitRises_walk c0 a1 a2 W).mono fun e W' ⟨he, bel⟩ => ?_
  subst he
  exact ⟨_, rfl, _, _, _, [], _, [], hW', trodAll_mk1 (shut_bool Try.underlying4 _), (trodAll_cons_mk (Below.trod laidOut (by kernel_rfl) (of_decide_eq_true (by kernel_rfl)) k0 bel lt0) (trodAll_cons_mk (shut_int Try.underlying3 w1) (trodAll_cons_mk (shut_int Try.underlying3 w2) trodAll_mk0))), rfl, bel.frame _, fun h => by cases h⟩

theorem waitRises_over : Rows.waitRisesRow.holds Try.pinned (OpenSpec.ofChange Rows.waitRisesSpec) :=
  OpenClaim.holds_of_wide 4 Try.f4 rfl rfl rfl rfl rfl rfl rfl ⟨rfl, rfl, rfl, rfl, rfl⟩ rfl rfl rfl rfl rfl (by kernel_rfl) Try.func4 (by kernel_rfl)
    (of_decide_eq_true (by kernel_rfl)) (by unfold Func.isWrapper; first | (rw [if_pos (by decide +kernel)]; kernel_rfl) | (rw [if_neg (by decide +kernel)]; exact ⟨rfl, rfl⟩))
    (fun os started H enc _ => waitRises_lifted os started H enc)

/-- The statement. -/
theorem waitRises_holds : Rows.WaitRisesSaid := waitRises_over
#print axioms waitRises_holds

end Go.Proofs.Ytjgdoogfoaaejaa
