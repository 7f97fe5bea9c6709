/-
  TurnFair, for every input: the law's Go function returns true, and the arguments read afterwards as they read before. No condition beside those that the given statement itself bears.
-/
import Derived.Test.YtfknlckdmdgoaaaRows
import Derived.Test.YtfknlckdmdgoaaaAwake10
import Derived.Test.YtfknlckdmdgoaaaPlain10
import Derived.Test.YtfknlckdmdgoaaaOpenI
namespace Go.Proofs.Ytfknlckdmdgoaaa
open Go Go.ChangeShapes Go.WideShapes Go.ChangeAt Go.RowKit

theorem fairOf_none (l who : List Int) (window : Int) : fairOf l (who.take 0) window = decide (1 ≤ window) := by simp [fairOf]

set_option maxRecDepth 100000 in
set_option maxHeartbeats 4000000 in
theorem turnFair_long (l ws : List Int) (A B : Option Addr) (ca cb : Nat) (window more : Int) (w : World) (h : 100 < l.length) (hR : ReadsI w w.heap.size A l) (hS : ReadsI w w.heap.size B ws) :
    Calls Try.prog 3 #[.slice A l.length ca, .slice B ws.length cb, .int .i64 window, .int .u8 more] w fun e w' => e = .returned (.bool true) ∧ Below w.heap.size w w' := by
  have hd : ((100 : Int) < (l.length : Nat)) := by omega
  go_enter Try.func3, Try.ntmps3
  go_wp2_with fail
  refine (awake_any _).mono ?_
  rintro e w1 ⟨rfl, hb⟩
  replace hR := hR.on hb
  replace hS := hS.on hb
  have hB := hb
  clear hb
  clear hR hS
  go_wp2
  go_ret
  exact ⟨rfl, hB⟩

set_option maxRecDepth 100000 in
set_option maxHeartbeats 4000000 in
theorem turnFair_long2 (l ws : List Int) (A B : Option Addr) (ca cb : Nat) (window more : Int) (w : World) (h : ¬ 100 < l.length) (h2 : 100 < ws.length) (hR : ReadsI w w.heap.size A l) (hS : ReadsI w w.heap.size B ws) :
    Calls Try.prog 3 #[.slice A l.length ca, .slice B ws.length cb, .int .i64 window, .int .u8 more] w fun e w' => e = .returned (.bool true) ∧ Below w.heap.size w w' := by
  have hd : ¬ ((100 : Int) < (l.length : Nat)) := by omega
  have hd2 : ((100 : Int) < (ws.length : Nat)) := by omega
  go_enter Try.func3, Try.ntmps3
  go_wp2_with fail
  refine (awake_any _).mono ?_
  rintro e w1 ⟨rfl, hb⟩
  replace hR := hR.on hb
  replace hS := hS.on hb
  have hB := hb
  clear hb
  clear hR hS
  go_wp2
  go_ret
  exact ⟨rfl, hB⟩

set_option maxRecDepth 100000 in
set_option maxHeartbeats 4000000 in
theorem turnFair_walk (l ws : List Int) (A B : Option Addr) (ca cb : Nat) (window more : Int) (w : World) (hw0 : (Lit.int .i64 window).wf = true) (hm0 : (Lit.int .u8 more).wf = true) (h : ¬ 100 < l.length) (h2 : ¬ 100 < ws.length) (hR : ReadsI w w.heap.size A l) (hS : ReadsI w w.heap.size B ws) :
    Calls Try.prog 3 #[.slice A l.length ca, .slice B ws.length cb, .int .i64 window, .int .u8 more] w fun e w' => e = .returned (.bool true) ∧ Below w.heap.size w w' := by
  have hd : ¬ ((100 : Int) < (l.length : Nat)) := by omega
  have hd2 : ¬ ((100 : Int) < (ws.length : Nat)) := by omega
  have hmono := fun u (h : fairOf l ws window = true) (hu : window ≤ u) => fairOf_mono h hu
  have HM := Lib.hid hmono
  clear hmono
  go_enter Try.func3, Try.ntmps3
  go_wp2_with fail
  refine (awake_any _).mono ?_
  rintro e w1 ⟨rfl, hb⟩
  replace hR := hR.on hb
  replace hS := hS.on hb
  have hB := hb
  clear hb
  go_wp2_with fail
  refine (fair_at window _ (by omega) (by omega) hR hS rfl).mono ?_
  rintro e w2 ⟨rfl, hb⟩
  replace hR := hR.on hb
  replace hS := hS.on hb
  replace hB := hB.trans (hb.mono hB.size)
  clear hb
  obtain ⟨F, hF⟩ : ∃ F, F = fairOf l ws window := ⟨_, rfl⟩
  rw [← hF]
  have HF := Lib.hid hF
  clear hF
  go_wp2
  go_loopw [11, 12] (fun f i wr => ∃ k : Nat, k ≤ ws.length ∧ i = .int .i64 k ∧ f = .bool (fairOf l (ws.take k) window) ∧ Below w2.heap.size w2 wr) (fun _ i _ => ws.length - (intOf i).toNat)
  case atStart => exact ⟨0, Nat.zero_le _, rfl, by rw [fairOf_none], Below.refl _ _⟩
  case round =>
    obtain ⟨k, hk, rfl, rfl, hB2⟩ := hrel
    by_cases hlt : k < ws.length
    · obtain ⟨b, off, rfl, hb, hc⟩ := (hS.below hB2) (by omega)
      obtain ⟨x, hx⟩ : ∃ x, ws[k]? = some x := ⟨_, List.getElem?_eq_getElem hlt⟩
      have hcx := hc k x hx
      have hsn : fairOf l (ws.take (k + 1)) window = (fairOf l (ws.take k) window && (decide ((l.length : Int) < window) || decide (gapOf l x < window))) := by rw [take_more hx, fairOf_snoc]
      clear hc hx
      obtain ⟨f, hf⟩ : ∃ f, f = fairOf l (ws.take k) window := ⟨_, rfl⟩
      rw [← hf] at hsn ⊢
      have HSN := Lib.hid hsn
      clear hf hsn
      cases f with
      | false =>
        go_wp2
        go_roundw
        case rel => exact ⟨k + 1, by omega, by go_num, by rw [HSN.out]; rfl, hB2⟩
        case measure => simp [intOf]; omega
      | true =>
        by_cases hbig : (l.length : Int) < window
        · have hbig' : decide ((l.length : Int) < window) = true := by simpa using hbig
          go_wp2
          go_roundw
          case rel => exact ⟨k + 1, by omega, by go_num, by rw [HSN.out, hbig']; rfl, hB2⟩
          case measure => simp [intOf]; omega
        · have hbig' : decide ((l.length : Int) < window) = false := by simpa using hbig
          have C := fun W h => gap_any l A ca x W (by omega) h
          have hg := gapOf_bounds l x
          obtain ⟨g1, g2⟩ := hg
          go_wp2_with fail
          refine (C _ (hR.on hB2)).mono ?_
          rintro e w3 ⟨rfl, hb1⟩
          have hB3 := hB2.trans (hb1.mono hB2.size)
          clear C hb1 hcx hB2
          go_wp2
          go_roundw
          case rel => exact ⟨k + 1, by omega, by go_num, by rw [HSN.out, hbig']; rfl, hB3⟩
          case measure => simp [intOf]; omega
    · obtain rfl : k = ws.length := by omega
      rw [List.take_length]
      have hF2 := HF.out
      rw [← hF2]
      clear hF2
      replace hR := hR.on hB2
      replace hS := hS.on hB2
      replace hB := hB.trans (hB2.mono hB.size)
      clear hB2
      have hlo := bounds_i64 hw0
      have hhi := bounds_u8 hm0
      obtain ⟨l1, l2⟩ := hlo
      obtain ⟨l3, l4⟩ := hhi
      by_cases h62 : window < 4611686018427387904
      · have k1 : window + more < 9223372036854775808 := by omega
        cases F with
        | false =>
          clear HM HF hR hS
          go_wp2
          go_ret
          exact ⟨rfl, hB⟩
        | true =>
          have hF := HF.out
          have hu := HM.out (window + more) hF.symm (by omega)
          have HU := Lib.hid hu
          clear hF hu HM HF
          go_wp2_with fail
          refine (fair_at (window + more) true (by omega) (by omega) hR hS HU.out).mono ?_
          rintro e w9 ⟨rfl, hb⟩
          replace hB := hB.trans (hb.mono hB.size)
          clear hb hR hS HU
          go_wp2
          go_ret
          exact ⟨rfl, hB⟩
      · skip
        cases F with
        | false =>
          clear HM HF hR hS
          go_wp2
          go_ret
          exact ⟨rfl, hB⟩
        | true =>
          have hF := HF.out
          have hu := HM.out (window) hF.symm (by omega)
          have HU := Lib.hid hu
          clear hF hu HM HF
          go_wp2_with fail
          refine (fair_at (window) true (by omega) (by omega) hR hS HU.out).mono ?_
          rintro e w9 ⟨rfl, hb⟩
          replace hB := hB.trans (hb.mono hB.size)
          clear hb hR hS HU
          go_wp2
          go_ret
          exact ⟨rfl, hB⟩


theorem turnFair_all (l ws : List Int) (A B : Option Addr) (ca cb : Nat) (window more : Int) (w : World) (hw0 : (Lit.int .i64 window).wf = true) (hm0 : (Lit.int .u8 more).wf = true) (hR : ReadsI w w.heap.size A l) (hS : ReadsI w w.heap.size B ws) :
    Calls Try.prog 3 #[.slice A l.length ca, .slice B ws.length cb, .int .i64 window, .int .u8 more] w fun e w' => e = .returned (.bool true) ∧ Below w.heap.size w w' := by
  by_cases h : 100 < l.length
  · exact turnFair_long l ws A B ca cb window more w h hR hS
  · by_cases h2 : 100 < ws.length
    · exact turnFair_long2 l ws A B ca cb window more w h h2 hR hS
    · exact turnFair_walk l ws A B ca cb window more w hw0 hm0 h h2 hR hS

/-! ### The row -/
set_option maxRecDepth 100000 in
theorem turnFair_lifted (os : Os) (started : os.Started) (H : Type) (enc : TypeId × Value → H) :
    ReturnsInHanded {} Try.checked os 3 .any (Rows.turnFairSpec.pre6 enc Try.prog Try.f3 Rows.turnFairRow.domain false) (Rows.turnFairSpec.post enc Try.prog Try.f3 false true false false) := by
  refine returnsInHanded_of_change (C := Try.checked) own started (by kernel_rfl) Try.func3
    (ChangeSpec.witness6 (enc := enc) (C := Try.checked) false ⟨#[], #[.slice none 0 0, .slice none 0 0, .int .i64 0, .int .u8 0], []⟩ 8 (by kernel_rfl) (by kernel_rfl) (by kernel_rfl) (by kernel_rfl)) ?_
  intro W base args ds gs before hval0 hW hcnd _
  have hval : ∀ (j : Nat) t v, Try.f3.params[j]? = some t → args[j]? = some v → Value.okWide Try.prog W .any base t v := hval0
  have hW' := hW
  obtain ⟨p, q, hA0, hV, rfl, hfz, hnd⟩ := hW
  have hA : DataW.TrodAll enc Try.prog W 0 (fun _ => true) true Try.f3.params.toList args.toList ds p := hA0
  rw [Try.params3] at hA hval
  obtain ⟨v0, vs0, d0, ds0, p0, q0, hargs, rfl, rfl, h0, r0⟩ := trodAll_cons hA
  obtain ⟨v1, vs1, d1, ds1, p1, q1, rfl, rfl, rfl, h1, r1⟩ := trodAll_cons r0
  obtain ⟨v2, vs2, d2, ds2, p2, q2, rfl, rfl, rfl, h2, r2⟩ := trodAll_cons r1
  obtain ⟨v3, vs3, d3, ds3, p3, q3, rfl, rfl, rfl, h3, r3⟩ := trodAll_cons r2
  obtain ⟨rfl, rfl, rfl⟩ := trodAll_nil r3
  obtain rfl : args = #[v0, v1, v2, v3] := by cases args; simp_all
  obtain ⟨rfl, rfl⟩ := trodVars_none hV
  have k0 := h0
  have lt0 : ∀ x ∈ p0, x.block < W.heap.size := by obtain ⟨m, hm⟩ := k0; exact DataW.trod_lt m _ _ _ hm
  obtain ⟨A0, len0, cap0, rfl⟩ := okWide_slice Try.underlying22 (hval 0 22 v0 rfl rfl)
  obtain ⟨l0, w0⟩ : ∃ l : List Int, l.length = len0 ∧ ReadsI W W.heap.size A0 l := by obtain ⟨fuel, hf⟩ := h0; exact open_nums hf
  obtain ⟨rfl, w0⟩ := w0
  have k1 := h1
  have lt1 : ∀ x ∈ p1, x.block < W.heap.size := by obtain ⟨m, hm⟩ := k1; exact DataW.trod_lt m _ _ _ hm
  obtain ⟨A1, len1, cap1, rfl⟩ := okWide_slice Try.underlying22 (hval 1 22 v1 rfl rfl)
  obtain ⟨l1, w1⟩ : ∃ l : List Int, l.length = len1 ∧ ReadsI W W.heap.size A1 l := by obtain ⟨fuel, hf⟩ := h1; exact open_nums hf
  obtain ⟨rfl, w1⟩ := w1
  obtain ⟨a2, rfl, rfl, rfl, w2⟩ := open_int Try.underlying3 (hval 2 3 v2 rfl rfl) h2
  obtain ⟨a3, rfl, rfl, rfl, w3⟩ := open_int Try.underlying5 (hval 3 5 v3 rfl rfl) h3
  clear hA0 hval0
  refine (turnFair_all l0 l1 A0 A1 cap0 cap1 a2 a3 W w2 w3 w0 w1).mono fun e W' ⟨he, bel⟩ => ?_
  subst he
  exact ⟨_, rfl, _, _, _, [], _, [], hW', trodAll_mk1 (shut_bool Try.underlying4 _), (trodAll_cons_mk (Below.trod laidOut (by kernel_rfl) (of_decide_eq_true (by kernel_rfl)) k0 bel lt0) (trodAll_cons_mk (Below.trod laidOut (by kernel_rfl) (of_decide_eq_true (by kernel_rfl)) k1 bel lt1) (trodAll_cons_mk (shut_int Try.underlying3 w2) (trodAll_cons_mk (shut_int Try.underlying5 w3) trodAll_mk0)))), rfl, bel.frame _, fun h => by cases h⟩

theorem turnFair_over : Rows.turnFairRow.holds Try.pinned (OpenSpec.ofChange Rows.turnFairSpec) :=
  OpenClaim.holds_of_wide 3 Try.f3 rfl rfl rfl rfl rfl rfl rfl ⟨rfl, rfl, rfl, rfl, rfl⟩ rfl rfl rfl rfl rfl (by kernel_rfl) Try.func3 (by kernel_rfl)
    (of_decide_eq_true (by kernel_rfl)) (by unfold Func.isWrapper; first | (rw [if_pos (by decide +kernel)]; kernel_rfl) | (rw [if_neg (by decide +kernel)]; exact ⟨rfl, rfl⟩))
    (fun os started H enc _ => turnFair_lifted os started H enc)

/-- The statement. -/
theorem turnFair_holds : Rows.TurnFairSaid := turnFair_over
#print axioms turnFair_holds

end Go.Proofs.Ytfknlckdmdgoaaa
