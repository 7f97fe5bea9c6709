/-
  TurnRobin, for every input: the law's Go function returns true, and the arguments read afterwards as they read before. No condition beside those that the given statement itself bears.
-/
import Derived.Test.YtfknlckdmdgoaaaRows
import Derived.Test.YtfknlckdmdgoaaaAwake10
import Derived.Test.YtfknlckdmdgoaaaPlain10
import Derived.Test.YtfknlckdmdgoaaaOpenI
namespace Go.Proofs.Ytfknlckdmdgoaaa
open Go Go.ChangeShapes Go.WideShapes Go.ChangeAt Go.RowKit

/-- A u8 as a natural number. -/
theorem u8_nat {a : Int} (h : (Lit.int .u8 a).wf = true) : ∃ n : Nat, a = n ∧ n < 256 := by
  have hb := bounds_u8 h
  exact ⟨a.toNat, by omega, by omega⟩

theorem fair_rows (n m v : Nat) (hn : 1 ≤ n) (hv : v < n) : fairOf (rows n m) [(v : Int)] n = true := by
  rw [fairOf_iff]
  refine ⟨by omega, fun x hx => ?_⟩
  obtain rfl : x = v := by simpa using hx
  exact .inr (rows_gap n m v hv)

set_option maxRecDepth 100000 in
set_option maxHeartbeats 2000000 in
theorem turnRobin_walk (a b c : Int) (w : World) (ha : (Lit.int .u8 a).wf = true) (hb : (Lit.int .u8 b).wf = true) (hc : (Lit.int .u8 c).wf = true) :
    Calls Try.prog 5 #[.int .u8 a, .int .u8 b, .int .u8 c] w fun e w' => e = .returned (.bool true) ∧ Below w.heap.size w w' := by
  obtain ⟨x, rfl, hx⟩ := u8_nat ha
  obtain ⟨y, rfl, hy⟩ := u8_nat hb
  obtain ⟨z, rfl, hz⟩ := u8_nat hc
  clear ha hb hc
  go_enter Try.func5, Try.ntmps5
  go_wp2_with fail
  refine (awake_any _).mono ?_
  rintro e w1 ⟨rfl, hB⟩
  go_wp2_with fail
  obtain ⟨n, hn, hn1, hn2⟩ : ∃ n : Nat, (1 + (x : Int) % 16) = n ∧ 1 ≤ n ∧ n ≤ 16 := ⟨1 + x % 16, by push_cast; omega, by omega, by omega⟩
  obtain ⟨m, hm, hm1, hm2⟩ : ∃ m : Nat, (1 + (y : Int) % 30) = m ∧ 1 ≤ m ∧ m ≤ 30 := ⟨1 + y % 30, by push_cast; omega, by omega, by omega⟩
  simp only [hn, hm]
  clear hn hm hx hy
  obtain ⟨l, hl⟩ : ∃ l, l = rows n m := ⟨_, rfl⟩
  refine (robin_at n m l (by rw [hl, robinOf, if_pos (by omega)]; rfl)).mono ?_
  rintro e w2 ⟨A, cap, rfl, hA, hb⟩
  replace hB := hB.trans (hb.mono hB.size)
  clear hb
  have hnz : ((n : Nat) : Int) ≠ 0 := by omega
  obtain ⟨v, hv, hv2⟩ : ∃ v : Nat, (z : Int) % (n : Int) = v ∧ v < n := ⟨z % n, by push_cast; rfl, Nat.mod_lt _ (by omega)⟩
  have hmul : n * m ≤ 16 * 30 := Nat.mul_le_mul hn2 hm2
  have hlen0 : l.length = m * n := by rw [hl, rows_length]
  have hll : l.length ≤ 1000 := by rw [hlen0, Nat.mul_comm]; omega
  have hlen : (((l.length : Nat) : Int) == (n : Int) * (m : Int)) = true := by rw [hlen0]; simp [Int.mul_comm]
  have hmul0 : (0 : Int) ≤ (n : Int) * (m : Int) := Int.mul_nonneg (by omega) (by omega)
  have hmul1 : (n : Int) * (m : Int) ≤ 480 := by exact_mod_cast hmul
  have c1 : countOf l v = m := by rw [hl]; exact rows_count n m v hv2
  have c2 : fairOf l [(v : Int)] n = true := by rw [hl]; exact fair_rows n m v hn1 hv2
  have c3 : gapOf l v < n := by rw [hl]; exact rows_gap n m v hv2
  have c4 : countOf l n = 0 := by rw [hl]; exact rows_none n m
  have c5 : 0 ≤ gapOf l v := by have := gapRun_bounds v l; unfold gapOf; omega
  clear hl hlen0
  have H1 := Lib.hid c1
  have H2 := Lib.hid c2
  have H4 := Lib.hid c4
  clear c1 c2 c4
  go_wp2_with fail
  simp only [hv]
  refine (count_at v m hll hA H1.out).mono ?_
  rintro e w3 ⟨rfl, hb⟩
  replace hA := hA.on hb
  replace hB := hB.trans (hb.mono hB.size)
  clear hb hv hlen
  go_wp2_with fail
  have hN := readsI_new w3 [(v : Int)] 3
  have hA2 := hA.on ((Below.refl w3.heap.size w3).alloc (Nat.le_refl _) (.cells (([(v : Int)] : List Int).map (Value.int .i64)).toArray 3))
  replace hB := hB.alloc hB.size (.cells (([(v : Int)] : List Int).map (Value.int .i64)).toArray 3)
  simp only [List.map_cons, List.map_nil] at hN hA2 hB
  rw [← World.size_alloc w3 (.cells #[.int .i64 v] 3)] at hN
  refine (fair_at (ws := [(v : Int)]) n true hll (by simp) hA2 hN H2.out).mono ?_
  rintro e w4 ⟨rfl, hb⟩
  clear hA hN
  have hA := hA2.on hb
  replace hB := hB.trans (hb.mono hB.size)
  clear hb hA2
  go_wp2_with fail
  refine (gap_at v _ hll hA rfl).mono ?_
  rintro e w5 ⟨rfl, hb⟩
  replace hA := hA.on hb
  replace hB := hB.trans (hb.mono hB.size)
  clear hb
  generalize gapOf l v = g at *
  have hg : (decide (g ≤ (n : Int) - 1)) = true := by simp; omega
  go_wp2_with fail
  refine (count_at n 0 hll hA H4.out).mono ?_
  rintro e w6 ⟨rfl, hb⟩
  replace hB := hB.trans (hb.mono hB.size)
  clear hb hA
  go_wp2
  go_ret
  exact ⟨rfl, hB⟩

/-! ### The row -/
set_option maxRecDepth 100000 in
theorem turnRobin_lifted (os : Os) (started : os.Started) (H : Type) (enc : TypeId × Value → H) :
    ReturnsInHanded {} Try.checked os 5 .any (Rows.turnRobinSpec.pre6 enc Try.prog Try.f5 Rows.turnRobinRow.domain false) (Rows.turnRobinSpec.post enc Try.prog Try.f5 false true false false) := by
  refine returnsInHanded_of_change (C := Try.checked) own started (by kernel_rfl) Try.func5
    (ChangeSpec.witness6 (enc := enc) (C := Try.checked) false ⟨#[], #[.int .u8 0, .int .u8 0, .int .u8 0], []⟩ 8 (by kernel_rfl) (by kernel_rfl) (by kernel_rfl) (by kernel_rfl)) ?_
  intro W base args ds gs before hval0 hW hcnd _
  have hval : ∀ (j : Nat) t v, Try.f5.params[j]? = some t → args[j]? = some v → Value.okWide Try.prog W .any base t v := hval0
  have hW' := hW
  obtain ⟨p, q, hA0, hV, rfl, hfz, hnd⟩ := hW
  have hA : DataW.TrodAll enc Try.prog W 0 (fun _ => true) true Try.f5.params.toList args.toList ds p := hA0
  rw [Try.params5] at hA hval
  obtain ⟨v0, vs0, d0, ds0, p0, q0, hargs, rfl, rfl, h0, r0⟩ := trodAll_cons hA
  obtain ⟨v1, vs1, d1, ds1, p1, q1, rfl, rfl, rfl, h1, r1⟩ := trodAll_cons r0
  obtain ⟨v2, vs2, d2, ds2, p2, q2, rfl, rfl, rfl, h2, r2⟩ := trodAll_cons r1
  obtain ⟨rfl, rfl, rfl⟩ := trodAll_nil r2
  obtain rfl : args = #[v0, v1, v2] := by cases args; simp_all
  obtain ⟨rfl, rfl⟩ := trodVars_none hV
  obtain ⟨a0, rfl, rfl, rfl, w0⟩ := open_int Try.underlying5 (hval 0 5 v0 rfl rfl) h0
  obtain ⟨a1, rfl, rfl, rfl, w1⟩ := open_int Try.underlying5 (hval 1 5 v1 rfl rfl) h1
  obtain ⟨a2, rfl, rfl, rfl, w2⟩ := open_int Try.underlying5 (hval 2 5 v2 rfl rfl) h2
  clear hA0 hval0
  refine (turnRobin_walk _ _ _ W w0 w1 w2).mono fun e W' ⟨he, bel⟩ => ?_
  subst he
  exact ⟨_, rfl, _, _, _, [], _, [], hW', trodAll_mk1 (shut_bool Try.underlying4 _), (trodAll_cons_mk (shut_int Try.underlying5 w0) (trodAll_cons_mk (shut_int Try.underlying5 w1) (trodAll_cons_mk (shut_int Try.underlying5 w2) trodAll_mk0))), rfl, bel.frame _, fun h => by cases h⟩

theorem turnRobin_over : Rows.turnRobinRow.holds Try.pinned (OpenSpec.ofChange Rows.turnRobinSpec) :=
  OpenClaim.holds_of_wide 5 Try.f5 rfl rfl rfl rfl rfl rfl rfl ⟨rfl, rfl, rfl, rfl, rfl⟩ rfl rfl rfl rfl rfl (by kernel_rfl) Try.func5 (by kernel_rfl)
    (of_decide_eq_true (by kernel_rfl)) (by unfold Func.isWrapper; first | (rw [if_pos (by decide +kernel)]; kernel_rfl) | (rw [if_neg (by decide +kernel)]; exact ⟨rfl, rfl⟩))
    (fun os started H enc _ => turnRobin_lifted os started H enc)

/-- The statement. -/
theorem turnRobin_holds : Rows.TurnRobinSaid := turnRobin_over
#print axioms turnRobin_holds

end Go.Proofs.Ytfknlckdmdgoaaa
