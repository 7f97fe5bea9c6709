/-
  TurnLeast, for every input: the law's Go function returns true, and the arguments read afterwards as they read before. No condition beside those that the given statement itself bears.
-/
import Derived.Test.YtfknlckdmdgoaaaRows
import Derived.Test.YtfknlckdmdgoaaaAwake10
import Derived.Test.YtfknlckdmdgoaaaPlain10
import Derived.Test.YtfknlckdmdgoaaaOpenI
namespace Go.Proofs.Ytfknlckdmdgoaaa
open Go Go.ChangeShapes Go.WideShapes Go.ChangeAt Go.RowKit

set_option maxRecDepth 100000 in
set_option maxHeartbeats 2000000 in
theorem turnLeast_long (l ws : List Int) (A B : Option Addr) (ca cb : Nat) (w : World) (h : 100 < l.length) (hR : ReadsI w w.heap.size A l) (hS : ReadsI w w.heap.size B ws) : Calls Try.prog 4 #[.slice A l.length ca, .slice B ws.length cb] w fun e w' => e = .returned (.bool true) ∧ Below w.heap.size w w' := by
  have hd : ((100 : Int) < (l.length : Nat)) := by omega
  go_enter Try.func4, Try.ntmps4
  go_wp2_with fail
  refine (awake_any _).mono ?_
  rintro e w1 ⟨rfl, hb⟩
  have hR1 := hR.on hb
  have hS1 := hS.on hb
  have hB := hb
  clear hb hR hS
  clear hR1 hS1
  go_wp2
  go_ret
  exact ⟨rfl, hB⟩

set_option maxRecDepth 100000 in
set_option maxHeartbeats 2000000 in
theorem turnLeast_long2 (l ws : List Int) (A B : Option Addr) (ca cb : Nat) (w : World) (h : ¬ 100 < l.length) (h2 : 100 < ws.length) (hR : ReadsI w w.heap.size A l) (hS : ReadsI w w.heap.size B ws) : Calls Try.prog 4 #[.slice A l.length ca, .slice B ws.length cb] w fun e w' => e = .returned (.bool true) ∧ Below w.heap.size w w' := by
  have hd : ¬ ((100 : Int) < (l.length : Nat)) := by omega
  have hd2 : ((100 : Int) < (ws.length : Nat)) := by omega
  go_enter Try.func4, Try.ntmps4
  go_wp2_with fail
  refine (awake_any _).mono ?_
  rintro e w1 ⟨rfl, hb⟩
  have hR1 := hR.on hb
  have hS1 := hS.on hb
  have hB := hb
  clear hb hR hS
  clear hR1 hS1
  go_wp2
  go_ret
  exact ⟨rfl, hB⟩

set_option maxRecDepth 100000 in
set_option maxHeartbeats 2000000 in
theorem turnLeast_none0 (l ws : List Int) (A B : Option Addr) (ca cb : Nat) (w : World) (h : ¬ 100 < l.length) (h2 : ¬ 100 < ws.length) (hi : leastIs l ws = false) (h0 : l.length = 0) (hR : ReadsI w w.heap.size A l) (hS : ReadsI w w.heap.size B ws) : Calls Try.prog 4 #[.slice A l.length ca, .slice B ws.length cb] w fun e w' => e = .returned (.bool true) ∧ Below w.heap.size w w' := by
  have hd : ¬ ((100 : Int) < (l.length : Nat)) := by omega
  have hd2 : ¬ ((100 : Int) < (ws.length : Nat)) := by omega
  have hbig : (l.length : Int) < leastRun l ws := by simpa [leastIs] using hi
  have h1 : leastOf l ws = 0 := by simp [leastOf, hbig]
  have hz : (((l.length : Nat) : Int) == 0) = true := by simp [h0]
  have H1 := Lib.hid h1
  have H2 := Lib.hid hi
  clear h1 hi hbig h0
  go_enter Try.func4, Try.ntmps4
  go_wp2_with fail
  refine (awake_any _).mono ?_
  rintro e w1 ⟨rfl, hb⟩
  have hR1 := hR.on hb
  have hS1 := hS.on hb
  have hB := hb
  clear hb hR hS
  go_wp2_with fail
  refine (least_at 0 false (by omega) (by omega) hR1 hS1 (by exact H1.out) (by exact H2.out)).mono ?_
  rintro e w2 ⟨rfl, hb⟩
  have hR2 := hR1.on hb
  have hS2 := hS1.on hb
  replace hB := hB.trans (hb.mono hB.size)
  clear hb hR1 hS1
  clear hR2 hS2
  go_wp2
  go_ret
  exact ⟨rfl, hB⟩

set_option maxRecDepth 100000 in
set_option maxHeartbeats 2000000 in
theorem turnLeast_none1 (l ws : List Int) (A B : Option Addr) (ca cb : Nat) (w : World) (h : ¬ 100 < l.length) (h2 : ¬ 100 < ws.length) (hi : leastIs l ws = false) (h0 : ¬ l.length = 0) (hR : ReadsI w w.heap.size A l) (hS : ReadsI w w.heap.size B ws) : Calls Try.prog 4 #[.slice A l.length ca, .slice B ws.length cb] w fun e w' => e = .returned (.bool true) ∧ Below w.heap.size w w' := by
  have hd : ¬ ((100 : Int) < (l.length : Nat)) := by omega
  have hd2 : ¬ ((100 : Int) < (ws.length : Nat)) := by omega
  have hbig : (l.length : Int) < leastRun l ws := by simpa [leastIs] using hi
  have h1 : leastOf l ws = 0 := by simp [leastOf, hbig]
  have hz : (((l.length : Nat) : Int) == 0) = false := by simp; intro e; subst e; exact h0 rfl
  have hf : fairOf l ws (l.length : Nat) = false := by rw [fairOf_least l ws _ (Int.le_refl _)]; simp; omega
  have H1 := Lib.hid h1
  have H2 := Lib.hid hi
  have HF := Lib.hid hf
  clear h1 hi hbig h0 hf
  go_enter Try.func4, Try.ntmps4
  go_wp2_with fail
  refine (awake_any _).mono ?_
  rintro e w1 ⟨rfl, hb⟩
  have hR1 := hR.on hb
  have hS1 := hS.on hb
  have hB := hb
  clear hb hR hS
  go_wp2_with fail
  refine (least_at 0 false (by omega) (by omega) hR1 hS1 (by exact H1.out) (by exact H2.out)).mono ?_
  rintro e w2 ⟨rfl, hb⟩
  have hR2 := hR1.on hb
  have hS2 := hS1.on hb
  replace hB := hB.trans (hb.mono hB.size)
  clear hb hR1 hS1
  go_wp2_with fail
  refine (fair_at (l.length : Nat) false (by omega) (by omega) hR2 hS2 HF.out).mono ?_
  rintro e w3 ⟨rfl, hb⟩
  replace hB := hB.trans (hb.mono hB.size)
  clear hb hR2 hS2
  go_wp2
  go_ret
  exact ⟨rfl, hB⟩

set_option maxRecDepth 100000 in
set_option maxHeartbeats 2000000 in
theorem turnLeast_one (l ws : List Int) (A B : Option Addr) (ca cb : Nat) (w : World) (h : ¬ 100 < l.length) (h2 : ¬ 100 < ws.length) (hi : leastIs l ws = true) (hn :  leastRun l ws = 1) (hR : ReadsI w w.heap.size A l) (hS : ReadsI w w.heap.size B ws) : Calls Try.prog 4 #[.slice A l.length ca, .slice B ws.length cb] w fun e w' => e = .returned (.bool true) ∧ Below w.heap.size w w' := by
  have hd : ¬ ((100 : Int) < (l.length : Nat)) := by omega
  have hd2 : ¬ ((100 : Int) < (ws.length : Nat)) := by omega
  have hle : leastRun l ws ≤ l.length := by simpa [leastIs] using hi
  have h1 : leastOf l ws = leastRun l ws := by simp only [leastOf]; rw [if_neg (by omega)]
  have hlo := (leastRun_bounds l ws).1
  have hf : fairOf l ws (leastRun l ws) = true := by rw [fairOf_least l ws _ hle]; simp
  have hf2 : fairOf l ws (leastRun l ws - 1) = false := by rw [fairOf_least l ws _ (by omega)]; simp; omega
  generalize leastRun l ws = n at *
  have hn1 : (n == 1) = true := by simp; exact hn
  have H1 := Lib.hid h1
  have H2 := Lib.hid hi
  have HF := Lib.hid hf
  have HF2 := Lib.hid hf2
  clear h1 hi hf hf2 hn
  go_enter Try.func4, Try.ntmps4
  go_wp2_with fail
  refine (awake_any _).mono ?_
  rintro e w1 ⟨rfl, hb⟩
  have hR1 := hR.on hb
  have hS1 := hS.on hb
  have hB := hb
  clear hb hR hS
  go_wp2_with fail
  refine (least_at n true (by omega) (by omega) hR1 hS1 (by exact H1.out) (by exact H2.out)).mono ?_
  rintro e w2 ⟨rfl, hb⟩
  have hR2 := hR1.on hb
  have hS2 := hS1.on hb
  replace hB := hB.trans (hb.mono hB.size)
  clear hb hR1 hS1
  go_wp2_with fail
  refine (fair_at n true (by omega) (by omega) hR2 hS2 HF.out).mono ?_
  rintro e w3 ⟨rfl, hb⟩
  have hR3 := hR2.on hb
  have hS3 := hS2.on hb
  replace hB := hB.trans (hb.mono hB.size)
  clear hb hR2 hS2
  clear hR3 hS3
  go_wp2
  go_ret
  exact ⟨rfl, hB⟩

set_option maxRecDepth 100000 in
set_option maxHeartbeats 2000000 in
theorem turnLeast_more (l ws : List Int) (A B : Option Addr) (ca cb : Nat) (w : World) (h : ¬ 100 < l.length) (h2 : ¬ 100 < ws.length) (hi : leastIs l ws = true) (hn : ¬ leastRun l ws = 1) (hR : ReadsI w w.heap.size A l) (hS : ReadsI w w.heap.size B ws) : Calls Try.prog 4 #[.slice A l.length ca, .slice B ws.length cb] w fun e w' => e = .returned (.bool true) ∧ Below w.heap.size w w' := by
  have hd : ¬ ((100 : Int) < (l.length : Nat)) := by omega
  have hd2 : ¬ ((100 : Int) < (ws.length : Nat)) := by omega
  have hle : leastRun l ws ≤ l.length := by simpa [leastIs] using hi
  have h1 : leastOf l ws = leastRun l ws := by simp only [leastOf]; rw [if_neg (by omega)]
  have hlo := (leastRun_bounds l ws).1
  have hf : fairOf l ws (leastRun l ws) = true := by rw [fairOf_least l ws _ hle]; simp
  have hf2 : fairOf l ws (leastRun l ws - 1) = false := by rw [fairOf_least l ws _ (by omega)]; simp; omega
  generalize leastRun l ws = n at *
  have hn1 : (n == 1) = false := by simp; exact hn
  have H1 := Lib.hid h1
  have H2 := Lib.hid hi
  have HF := Lib.hid hf
  have HF2 := Lib.hid hf2
  clear h1 hi hf hf2 hn
  go_enter Try.func4, Try.ntmps4
  go_wp2_with fail
  refine (awake_any _).mono ?_
  rintro e w1 ⟨rfl, hb⟩
  have hR1 := hR.on hb
  have hS1 := hS.on hb
  have hB := hb
  clear hb hR hS
  go_wp2_with fail
  refine (least_at n true (by omega) (by omega) hR1 hS1 (by exact H1.out) (by exact H2.out)).mono ?_
  rintro e w2 ⟨rfl, hb⟩
  have hR2 := hR1.on hb
  have hS2 := hS1.on hb
  replace hB := hB.trans (hb.mono hB.size)
  clear hb hR1 hS1
  go_wp2_with fail
  refine (fair_at n true (by omega) (by omega) hR2 hS2 HF.out).mono ?_
  rintro e w3 ⟨rfl, hb⟩
  have hR3 := hR2.on hb
  have hS3 := hS2.on hb
  replace hB := hB.trans (hb.mono hB.size)
  clear hb hR2 hS2
  go_wp2_with fail
  refine (fair_at (n - 1) false (by omega) (by omega) hR3 hS3 HF2.out).mono ?_
  rintro e w4 ⟨rfl, hb⟩
  replace hB := hB.trans (hb.mono hB.size)
  clear hb
  clear hR3 hS3
  go_wp2
  go_ret
  exact ⟨rfl, hB⟩

theorem turnLeast_walk (l ws : List Int) (A B : Option Addr) (ca cb : Nat) (w : World) (hR : ReadsI w w.heap.size A l) (hS : ReadsI w w.heap.size B ws) : Calls Try.prog 4 #[.slice A l.length ca, .slice B ws.length cb] w fun e w' => e = .returned (.bool true) ∧ Below w.heap.size w w' := by
  by_cases h : 100 < l.length
  · exact turnLeast_long l ws A B ca cb w h hR hS
  · by_cases h2 : 100 < ws.length
    · exact turnLeast_long2 l ws A B ca cb w h h2 hR hS
    · by_cases hi : leastIs l ws = true
      · by_cases hn : leastRun l ws = 1
        · exact turnLeast_one l ws A B ca cb w h h2 hi hn hR hS
        · exact turnLeast_more l ws A B ca cb w h h2 hi hn hR hS
      · have hi' : leastIs l ws = false := by simpa using hi
        by_cases h0 : l.length = 0
        · exact turnLeast_none0 l ws A B ca cb w h h2 hi' h0 hR hS
        · exact turnLeast_none1 l ws A B ca cb w h h2 hi' h0 hR hS

/-! ### The row -/
set_option maxRecDepth 100000 in
theorem turnLeast_lifted (os : Os) (started : os.Started) (H : Type) (enc : TypeId × Value → H) :
    ReturnsInHanded {} Try.checked os 4 .any (Rows.turnLeastSpec.pre6 enc Try.prog Try.f4 Rows.turnLeastRow.domain false) (Rows.turnLeastSpec.post enc Try.prog Try.f4 false true false false) := by
  refine returnsInHanded_of_change (C := Try.checked) own started (by kernel_rfl) Try.func4
    (ChangeSpec.witness6 (enc := enc) (C := Try.checked) false ⟨#[], #[.slice none 0 0, .slice none 0 0], []⟩ 8 (by kernel_rfl) (by kernel_rfl) (by kernel_rfl) (by kernel_rfl)) ?_
  intro W base args ds gs before hval0 hW hcnd _
  have hval : ∀ (j : Nat) t v, Try.f4.params[j]? = some t → args[j]? = some v → Value.okWide Try.prog W .any base t v := hval0
  have hW' := hW
  obtain ⟨p, q, hA0, hV, rfl, hfz, hnd⟩ := hW
  have hA : DataW.TrodAll enc Try.prog W 0 (fun _ => true) true Try.f4.params.toList args.toList ds p := hA0
  rw [Try.params4] at hA hval
  obtain ⟨v0, vs0, d0, ds0, p0, q0, hargs, rfl, rfl, h0, r0⟩ := trodAll_cons hA
  obtain ⟨v1, vs1, d1, ds1, p1, q1, rfl, rfl, rfl, h1, r1⟩ := trodAll_cons r0
  obtain ⟨rfl, rfl, rfl⟩ := trodAll_nil r1
  obtain rfl : args = #[v0, v1] := by cases args; simp_all
  obtain ⟨rfl, rfl⟩ := trodVars_none hV
  have k0 := h0
  have lt0 : ∀ x ∈ p0, x.block < W.heap.size := by obtain ⟨m, hm⟩ := k0; exact DataW.trod_lt m _ _ _ hm
  obtain ⟨A0, len0, cap0, rfl⟩ := okWide_slice Try.underlying22 (hval 0 22 v0 rfl rfl)
  obtain ⟨l0, w0⟩ : ∃ l : List Int, l.length = len0 ∧ ReadsI W W.heap.size A0 l := by obtain ⟨fuel, hf⟩ := h0; exact open_nums hf
  obtain ⟨rfl, w0⟩ := w0
  have k1 := h1
  have lt1 : ∀ x ∈ p1, x.block < W.heap.size := by obtain ⟨m, hm⟩ := k1; exact DataW.trod_lt m _ _ _ hm
  obtain ⟨A1, len1, cap1, rfl⟩ := okWide_slice Try.underlying22 (hval 1 22 v1 rfl rfl)
  obtain ⟨l1, w1⟩ : ∃ l : List Int, l.length = len1 ∧ ReadsI W W.heap.size A1 l := by obtain ⟨fuel, hf⟩ := h1; exact open_nums hf
  obtain ⟨rfl, w1⟩ := w1
  clear hA0 hval0
  refine (turnLeast_walk l0 l1 A0 A1 cap0 cap1 W w0 w1).mono fun e W' ⟨he, bel⟩ => ?_
  subst he
  exact ⟨_, rfl, _, _, _, [], _, [], hW', trodAll_mk1 (shut_bool Try.underlying4 _), (trodAll_cons_mk (Below.trod laidOut (by kernel_rfl) (of_decide_eq_true (by kernel_rfl)) k0 bel lt0) (trodAll_cons_mk (Below.trod laidOut (by kernel_rfl) (of_decide_eq_true (by kernel_rfl)) k1 bel lt1) trodAll_mk0)), rfl, bel.frame _, fun h => by cases h⟩

theorem turnLeast_over : Rows.turnLeastRow.holds Try.pinned (OpenSpec.ofChange Rows.turnLeastSpec) :=
  OpenClaim.holds_of_wide 4 Try.f4 rfl rfl rfl rfl rfl rfl rfl ⟨rfl, rfl, rfl, rfl, rfl⟩ rfl rfl rfl rfl rfl (by kernel_rfl) Try.func4 (by kernel_rfl)
    (of_decide_eq_true (by kernel_rfl)) (by unfold Func.isWrapper; first | (rw [if_pos (by decide +kernel)]; kernel_rfl) | (rw [if_neg (by decide +kernel)]; exact ⟨rfl, rfl⟩))
    (fun os started H enc _ => turnLeast_lifted os started H enc)

/-- The statement. -/
theorem turnLeast_holds : Rows.TurnLeastSaid := turnLeast_over
#print axioms turnLeast_holds

end Go.Proofs.Ytfknlckdmdgoaaa
