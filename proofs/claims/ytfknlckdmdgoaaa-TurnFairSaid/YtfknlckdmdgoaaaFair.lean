/-
  DERIVED. turn.Fair and turn.Least, at every list of picks and threads, out of Gap's contract. What lay before lies as it lay.
-/
import Derived.Test.YtfknlckdmdgoaaaGap
import Derived.WalkMore
namespace Go.Proofs.Ytfknlckdmdgoaaa
open Go Go.RowKit

/-- Whether all of who are picked in each window. -/
def fairOf (l who : List Int) (window : Int) : Bool := decide (1 ≤ window) && who.all fun x => decide ((l.length : Int) < window) || decide (gapOf l x < window)
/-- The least window, from 1 on. -/
def leastRun (l : List Int) (who : List Int) : Int := who.foldl (fun m x => max m (gapOf l x + 1)) 1
def leastOf (l who : List Int) : Int := if (l.length : Int) < leastRun l who then 0 else leastRun l who
def leastIs (l who : List Int) : Bool := decide (leastRun l who ≤ l.length)

theorem gapOf_bounds (l : List Int) (x : Int) : 0 ≤ gapOf l x ∧ gapOf l x ≤ l.length := by
  have := gapRun_bounds x l
  unfold gapOf
  omega
theorem fairOf_no {l who : List Int} {window : Int} (h : window < 1) : fairOf l who window = false := by
  have : ¬ 1 ≤ window := by omega
  simp [fairOf, this]
theorem fairOf_snoc (l who : List Int) (x window : Int) : fairOf l (who ++ [x]) window = (fairOf l who window && (decide ((l.length : Int) < window) || decide (gapOf l x < window))) := by
  simp [fairOf, Bool.and_assoc]
theorem fairOf_take_false {l who : List Int} {window : Int} {k : Nat} (h : fairOf l (who.take k) window = false) : fairOf l who window = false := by
  cases hq : fairOf l who window with
  | false => rfl
  | true =>
    have : fairOf l (who.take k) window = true := by
      simp only [fairOf, Bool.and_eq_true, List.all_eq_true] at hq ⊢
      exact ⟨hq.1, fun x hx => hq.2 x (List.mem_of_mem_take hx)⟩
    rw [h] at this
    cases this
theorem leastRun_snoc (l who : List Int) (x : Int) : leastRun l (who ++ [x]) = max (leastRun l who) (gapOf l x + 1) := by simp [leastRun]
theorem leastRun_bounds (l who : List Int) : 1 ≤ leastRun l who ∧ leastRun l who ≤ l.length + 1 := by
  suffices h : ∀ (who : List Int) (m : Int), 1 ≤ m → m ≤ l.length + 1 → 1 ≤ who.foldl (fun m x => max m (gapOf l x + 1)) m ∧ who.foldl (fun m x => max m (gapOf l x + 1)) m ≤ l.length + 1 from h who 1 (by omega) (by omega)
  intro who
  induction who with
  | nil => intro m h0 h1; exact ⟨h0, h1⟩
  | cons x who ih =>
    intro m h0 h1
    have hb := gapOf_bounds l x
    exact ih (max m (gapOf l x + 1)) (by omega) (by omega)

set_option maxRecDepth 100000 in
set_option maxHeartbeats 2000000 in
theorem fair_any (l : List Int) (A : Option Addr) (cap : Nat) (ws : List Int) (B : Option Addr) (cap2 : Nat) (window : Int) (w : World) (hl : l.length ≤ 1000) (hw : ws.length ≤ 1000)
    (hR : ReadsI w w.heap.size A l) (hS : ReadsI w w.heap.size B ws) :
    Calls Try.prog 8 #[.slice A l.length cap, .slice B ws.length cap2, .int .i64 window] w fun e w' => e = .returned (.bool (fairOf l ws window)) ∧ Below w.heap.size w w' := by
  by_cases h1 : 1 ≤ window
  · have hd1 : decide (1 ≤ window) = true := by simpa using h1
    go_enter Try.func8, Try.ntmps8
    go_wp2
    go_step3
    go_wp2
    go_step3
    go_wp2
    go_loopw [7, 14] (fun f i wr => ∃ k : Nat, k ≤ ws.length ∧ i = .int .i64 k ∧ f = .bool true ∧ fairOf l (ws.take k) window = true ∧ Below w.heap.size w wr) (fun _ i _ => ws.length - (intOf i).toNat)
    case atStart => exact ⟨0, Nat.zero_le _, rfl, rfl, by simp [fairOf, h1], Below.refl _ _⟩
    case round =>
      obtain ⟨k, hk, rfl, rfl, hf, hB⟩ := hrel
      by_cases hlt : k < ws.length
      · obtain ⟨b, off, rfl, hb, hc⟩ := (hS.below hB) (by omega)
        obtain ⟨x, hx⟩ : ∃ x, ws[k]? = some x := ⟨_, List.getElem?_eq_getElem hlt⟩
        have hcx := hc k x hx
        have hsn : fairOf l (ws.take (k + 1)) window = (decide ((l.length : Int) < window) || decide (gapOf l x < window)) := by rw [take_more hx, fairOf_snoc, hf, Bool.true_and]
        have HF := Lib.hid hf
        have HSN := Lib.hid hsn
        clear hc hx hf hsn
        by_cases hbig : (l.length : Int) < window
        · have hbig' : decide ((l.length : Int) < window) = true := by simpa using hbig
          go_wp2
          go_roundw
          case rel => exact ⟨k + 1, by omega, by go_num, rfl, by rw [HSN.out, hbig']; rfl, hB⟩
          case measure => simp [intOf]; omega
        · have hbig' : decide ((l.length : Int) < window) = false := by simpa using hbig
          have C := gap_any l A cap x
          have hg := gapOf_bounds l x
          obtain ⟨g1, g2⟩ := hg
          by_cases hgap : gapOf l x < window
          · go_wp2_with fail
            refine (C _ hl (hR.on hB)).mono ?_
            rintro e w1 ⟨rfl, hb1⟩
            have hB1 := hB.trans (hb1.mono hB.size)
            clear C hb1 hcx hB
            go_wp2
            go_roundw
            case rel => exact ⟨k + 1, by omega, by go_num, rfl, by rw [HSN.out]; simp [hgap], hB1⟩
            case measure => simp [intOf]; omega
          · have hfin : fairOf l ws window = false := fairOf_take_false (k := k + 1) (by rw [HSN.out, hbig']; simpa using hgap)
            have HFIN := Lib.hid hfin
            have hgap' : decide (gapOf l x < window) = false := by simpa using hgap
            clear hfin
            go_wp2_with fail
            refine (C _ hl (hR.on hB)).mono ?_
            rintro e w1 ⟨rfl, hb1⟩
            have hB1 := hB.trans (hb1.mono hB.size)
            clear C hb1 hcx hB
            go_wp2
            try rw [Exit.noGoto_ret]
            go_ret
            exact ⟨by rw [HFIN.out]; rfl, hB1⟩
      · obtain rfl : k = ws.length := by omega
        rw [List.take_length] at hf
        have HF := Lib.hid hf
        clear hf
        go_wp2
        try rw [Exit.noGoto_ret]
        go_ret
        exact ⟨by rw [HF.out]; rfl, hB⟩
  · have hno : fairOf l ws window = false := fairOf_no (by omega)
    have hd1 : decide (1 ≤ window) = false := by simpa using h1
    have HN := Lib.hid hno
    clear hno
    by_cases h0 : 0 < ws.length
    · obtain ⟨b, off, rfl, hb, hc⟩ := hS h0
      obtain ⟨x, hx⟩ : ∃ x, ws[0]? = some x := ⟨_, List.getElem?_eq_getElem h0⟩
      have hcx := hc 0 x hx
      simp only [Nat.add_zero] at hcx
      clear hc hx
      go_enter Try.func8, Try.ntmps8
      go_wp2
      go_step3
      go_wp2
      go_step3
      go_wp2
      refine wp_loop_rounds 1 ?_
      rw [rounds_succ]
      go_wp2
      try rw [Exit.noGoto_ret]
      go_ret
      exact ⟨by rw [HN.out]; rfl, Below.refl _ _⟩
    · have hz : ws.length = 0 := by omega
      have hz' : ¬ (0 : Int) < (ws.length : Int) := by omega
      go_enter Try.func8, Try.ntmps8
      go_wp2
      go_step3
      go_wp2
      go_step3
      go_wp2
      refine wp_loop_rounds 1 ?_
      rw [rounds_succ]
      go_wp2
      try rw [Exit.noGoto_ret]
      go_ret
      exact ⟨by rw [HN.out]; rfl, Below.refl _ _⟩

theorem leastRun_take (l who : List Int) (k : Nat) : 1 ≤ leastRun l (who.take k) ∧ leastRun l (who.take k) ≤ l.length + 1 := leastRun_bounds l _

set_option maxRecDepth 100000 in
set_option maxHeartbeats 2000000 in
theorem least_any (l : List Int) (A : Option Addr) (cap : Nat) (ws : List Int) (B : Option Addr) (cap2 : Nat) (w : World) (hl : l.length ≤ 1000) (hw : ws.length ≤ 1000)
    (hR : ReadsI w w.heap.size A l) (hS : ReadsI w w.heap.size B ws) :
    Calls Try.prog 10 #[.slice A l.length cap, .slice B ws.length cap2] w fun e w' => e = .returned (.tuple #[.int .i64 (leastOf l ws), .bool (leastIs l ws)]) ∧ Below w.heap.size w w' := by
  go_enter Try.func10, Try.ntmps10
  go_wp2
  go_loopw [6, 11] (fun m i wr => ∃ k : Nat, k ≤ ws.length ∧ i = .int .i64 k ∧ m = .int .i64 (leastRun l (ws.take k)) ∧ Below w.heap.size w wr) (fun _ i _ => ws.length - (intOf i).toNat)
  case atStart => exact ⟨0, Nat.zero_le _, rfl, rfl, Below.refl _ _⟩
  case round =>
    obtain ⟨k, hk, rfl, rfl, hB⟩ := hrel
    by_cases hlt : k < ws.length
    · obtain ⟨b, off, rfl, hb, hc⟩ := (hS.below hB) (by omega)
      obtain ⟨x, hx⟩ : ∃ x, ws[k]? = some x := ⟨_, List.getElem?_eq_getElem hlt⟩
      have hcx := hc k x hx
      have hsn : leastRun l (ws.take (k + 1)) = max (leastRun l (ws.take k)) (gapOf l x + 1) := by rw [take_more hx, leastRun_snoc]
      have hbd := leastRun_take l ws k
      have hg := gapOf_bounds l x
      obtain ⟨b1, b2⟩ := hbd
      obtain ⟨g1, g2⟩ := hg
      have g3 : gapOf l x ≤ 1000 := by omega
      have C := gap_any l A cap x
      generalize leastRun l (ws.take k) = m at *
      generalize gapOf l x = q at *
      have HSN := Lib.hid hsn
      clear hc hx hsn
      by_cases hcmp : m < q + 1
      · go_wp2_with fail
        refine (C _ hl (hR.on hB)).mono ?_
        rintro e w1 ⟨rfl, hb1⟩
        have hB1 := hB.trans (hb1.mono hB.size)
        clear C hb1 hcx hB
        go_wp2
        go_roundw
        case rel => exact ⟨k + 1, by omega, by go_num, by rw [HSN.out, show max m (q + 1) = q + 1 from by omega], hB1⟩
        case measure => simp [intOf]; omega
      · go_wp2_with fail
        refine (C _ hl (hR.on hB)).mono ?_
        rintro e w1 ⟨rfl, hb1⟩
        have hB1 := hB.trans (hb1.mono hB.size)
        clear C hb1 hcx hB
        go_wp2
        go_roundw
        case rel => exact ⟨k + 1, by omega, by go_num, by rw [HSN.out, show max m (q + 1) = m from by omega], hB1⟩
        case measure => simp [intOf]; omega
    · obtain rfl : k = ws.length := by omega
      have ht : leastRun l (ws.take ws.length) = leastRun l ws := by rw [List.take_length]
      have HT := Lib.hid ht
      by_cases hbig : (l.length : Int) < leastRun l ws
      · have h1 : leastOf l ws = 0 := by simp [leastOf, hbig]
        have h2 : leastIs l ws = false := by simp [leastIs]; omega
        have hbig' : (l.length : Int) < leastRun l (ws.take ws.length) := by rw [ht]; exact hbig
        have H1 := Lib.hid h1
        have H2 := Lib.hid h2
        clear h1 h2 ht
        go_wp2
        go_ret2
        exact ⟨by rw [H1.out, H2.out]; rfl, hB⟩
      · have h1 : leastOf l ws = leastRun l ws := by simp [leastOf, hbig]
        have h2 : leastIs l ws = true := by simp [leastIs]; omega
        have hbig' : ¬ (l.length : Int) < leastRun l (ws.take ws.length) := by rw [ht]; exact hbig
        have H1 := Lib.hid h1
        have H2 := Lib.hid h2
        clear h1 h2 ht
        go_wp2
        go_ret2
        exact ⟨by rw [H1.out, H2.out, ← HT.out]; rfl, hB⟩

end Go.Proofs.Ytfknlckdmdgoaaa
