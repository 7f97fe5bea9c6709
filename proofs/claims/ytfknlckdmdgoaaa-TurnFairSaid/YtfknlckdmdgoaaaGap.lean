/-
  DERIVED. turn.Gap and turn.Count, at every list of picks: how long one is not picked, and how often one is. What lay before lies as it lay.
-/
import Derived.Test.YtfknlckdmdgoaaaNums
namespace Go.Proofs.Ytfknlckdmdgoaaa
open Go Go.RowKit

/-- A pick more: how long it has not been picked by now, and how long at most. -/
def gapStep (who : Int) (s : Int × Int) (p : Int) : Int × Int := if p = who then (0, s.2) else (s.1 + 1, max s.2 (s.1 + 1))
def gapRun (who : Int) (l : List Int) : Int × Int := l.foldl (gapStep who) (0, 0)
/-- The greatest number of picks in a row none of which is who. -/
def gapOf (l : List Int) (who : Int) : Int := (gapRun who l).2
/-- How often who is picked. -/
def countOf (l : List Int) (who : Int) : Int := (l.count who : Nat)

theorem gapRun_snoc (who : Int) (l : List Int) (p : Int) : gapRun who (l ++ [p]) = gapStep who (gapRun who l) p := by simp [gapRun]
theorem gapRun_bounds (who : Int) (l : List Int) : 0 ≤ (gapRun who l).1 ∧ (gapRun who l).1 ≤ (gapRun who l).2 ∧ (gapRun who l).2 ≤ l.length := by
  suffices h : ∀ (l : List Int) (s : Int × Int) (k : Nat), 0 ≤ s.1 → s.1 ≤ s.2 → s.2 ≤ k → 0 ≤ (l.foldl (gapStep who) s).1 ∧ (l.foldl (gapStep who) s).1 ≤ (l.foldl (gapStep who) s).2 ∧ (l.foldl (gapStep who) s).2 ≤ (k + l.length : Nat) by
    have := h l (0, 0) 0 (by simp) (by simp) (by simp)
    simpa [gapRun] using this
  intro l
  induction l with
  | nil => intro s k h0 h1 h2; exact ⟨h0, h1, by simpa using h2⟩
  | cons p l ih =>
    intro s k h0 h1 h2
    rw [List.foldl_cons, List.length_cons]
    have := ih (gapStep who s p) (k + 1) (by unfold gapStep; split <;> simp; omega) (by unfold gapStep; split <;> simp <;> omega) (by unfold gapStep; split <;> simp <;> omega)
    rwa [show k + (l.length + 1) = k + 1 + l.length by omega]

set_option maxHeartbeats 1000000 in
theorem hit_gap (g : Nat) (n : Int) (w : World) (h : w.heap[g]? = some (.cells #[.int .i64 n] 3 (0, 0))) :
    Calls Try.prog 14 #[.pointer (some ⟨g, 0, none⟩)] w fun e w' => e = .returned (.tuple #[]) ∧ w' = w.setCell ⟨g, 0, none⟩ (.int .i64 0) := by
  have hc := (block_cell h 0).1
  have hf := (block_cell h 0).2
  simp at hc
  clear h
  go_enter Try.func14, Try.ntmps14
  go_wp2
  go_end0
  exact ⟨rfl, rfl⟩

set_option maxHeartbeats 1000000 in
theorem miss_gap (g m : Nat) (hne : g ≠ m) (n k : Int) (hn0 : 0 ≤ n) (hn1 : n ≤ 1000000) (w : World) (h : w.heap[g]? = some (.cells #[.int .i64 n] 3 (0, 0))) (h2 : w.heap[m]? = some (.cells #[.int .i64 k] 3 (0, 0))) :
    Calls Try.prog 15 #[.pointer (some ⟨g, 0, none⟩), .pointer (some ⟨m, 0, none⟩)] w fun e w' => e = .returned (.tuple #[]) ∧ w' = (w.setCell ⟨g, 0, none⟩ (.int .i64 (n + 1))).setCell ⟨m, 0, none⟩ (.int .i64 (max k (n + 1))) := by
  have hc := (block_cell h 0).1
  have hf := (block_cell h 0).2
  have d1 := (block_cell (block_set h (.int .i64 (n + 1))) 0).1
  have d2 := (block_cell (block_other h2 (Ne.symm hne) (.int .i64 (n + 1))) 0).1
  have d3 := (block_cell (block_other h2 (Ne.symm hne) (.int .i64 (n + 1))) 0).2
  simp at hc d1 d2
  clear h h2
  go_enter Try.func15, Try.ntmps15
  go_wp2
  · go_end0
    exact ⟨rfl, by rw [show max k (n + 1) = n + 1 from by omega]⟩
  · go_end0
    exact ⟨rfl, by rw [show max k (n + 1) = k from by omega]⟩

set_option maxRecDepth 100000 in
set_option maxHeartbeats 2000000 in
theorem read_gap (l : List Int) (A : Option Addr) (cap : Nat) (who : Int) (g m B : Nat) (w : World) (hl : l.length ≤ 1000) (hR : ReadsI w B A l) (hBg : B ≤ g) (hBm : B ≤ m) (hBs : B ≤ w.heap.size) (hne : g ≠ m)
    (hg : w.heap[g]? = some (.cells #[.int .i64 0] 3 (0, 0))) (hm : w.heap[m]? = some (.cells #[.int .i64 0] 3 (0, 0))) :
    Calls Try.prog 16 #[.agg #[.func (.func 14) #[] #[.pointer (some ⟨g, 0, none⟩)], .func (.func 15) #[] #[.pointer (some ⟨g, 0, none⟩), .pointer (some ⟨m, 0, none⟩)]], .slice A l.length cap, .int .i64 who] w
      fun e w' => e = .returned (.tuple #[]) ∧ w'.heap[m]? = some (.cells #[.int .i64 (gapOf l who)] 3 (0, 0)) ∧ Below B w w' := by
  have hgl := block_lt hg
  have hml := block_lt hm
  go_enter Try.func16, Try.ntmps16
  have HG := Lib.hid hg
  have HM := Lib.hid hm
  clear hg hm
  go_wp2
  go_loopw [10] (fun i wr => ∃ k : Nat, k ≤ l.length ∧ i = .int .i64 k ∧
      wr.heap[w.heap.size]? = some (.cells #[.func (.func 14) #[] #[.pointer (some ⟨g, 0, none⟩)], .func (.func 15) #[] #[.pointer (some ⟨g, 0, none⟩), .pointer (some ⟨m, 0, none⟩)]] 33 (0, 0)) ∧
      wr.heap[g]? = some (.cells #[.int .i64 (gapRun who (l.take k)).1] 3 (0, 0)) ∧ wr.heap[m]? = some (.cells #[.int .i64 (gapRun who (l.take k)).2] 3 (0, 0)) ∧ Below B w wr) (fun i _ => l.length - (intOf i).toNat)
  case atStart => exact ⟨0, Nat.zero_le _, rfl, World.alloc_heap_new w _, block_alloc HG.out _, block_alloc HM.out _, (Below.refl _ _).alloc hBs _⟩
  case round =>
    obtain ⟨k, hk, rfl, hx, hgk, hmk, hB⟩ := hrel
    clear HG HM
    by_cases hlt : k < l.length
    · obtain ⟨b, off, rfl, hb, hc⟩ := (hR.below hB) (by omega)
      obtain ⟨p, hp⟩ : ∃ p, l[k]? = some p := ⟨_, List.getElem?_eq_getElem hlt⟩
      have hcp := hc k p hp
      have hbd := gapRun_bounds who (l.take k)
      have hlk : (l.take k).length ≤ 1000 := by rw [List.length_take]; omega
      have hsn : gapRun who (l.take (k + 1)) = gapStep who (gapRun who (l.take k)) p := by rw [take_more hp, gapRun_snoc]
      obtain ⟨b1, b2, b3⟩ := hbd
      have b4 : (gapRun who (l.take k)).1 ≤ 1000000 := by omega
      have f0 := (block_cell hx 0).1
      have f1 := (block_cell hx 1).1
      simp at f0 f1
      generalize hs : gapRun who (l.take k) = s at *
      obtain ⟨n, q⟩ := s
      dsimp only at hgk hmk b1 b2 b3 b4
      have HSN := Lib.hid hsn
      have HX := Lib.hid hx
      have HP := Lib.hid hp
      clear hs hc hR hsn hx hlk b3 hp
      by_cases he : p = who
      · subst he
        go_wp2_with fail
        refine (hit_gap g n _ hgk).mono ?_
        rintro e w1 ⟨rfl, rfl⟩
        have h1 := block_other HX.out (B := w.heap.size) (C := g) (by omega) (.int .i64 0)
        have h2 := block_set hgk (.int .i64 0)
        have h3 := block_other hmk (Ne.symm hne) (.int .i64 0)
        have hB' := hB.setCell (p := ⟨g, 0, none⟩) hBg (.int .i64 0)
        clear hgk hmk f0 f1 hcp HX hB
        have H1 := Lib.hid h1
        have H2 := Lib.hid h2
        have H3 := Lib.hid h3
        clear h1 h2 h3
        go_wp2
        go_roundw
        case rel => exact ⟨k + 1, by omega, by go_num, H1.out, by rw [HSN.out]; simpa [gapStep] using H2.out, by rw [HSN.out]; simpa [gapStep] using H3.out, hB'⟩
        case measure => simp [intOf]; omega
      · have he' : (p == who) = false := by simpa using he
        go_wp2_with fail
        refine (miss_gap g m hne n q b1 b4 _ hgk hmk).mono ?_
        rintro e w1 ⟨rfl, rfl⟩
        have h1 := block_other (block_other HX.out (B := w.heap.size) (C := g) (by omega) (.int .i64 (n + 1))) (C := m) (by omega) (.int .i64 (max q (n + 1)))
        have h2 := block_other (block_set hgk (.int .i64 (n + 1))) (C := m) hne (.int .i64 (max q (n + 1)))
        have h3 := block_set (block_other hmk (Ne.symm hne) (.int .i64 (n + 1))) (.int .i64 (max q (n + 1)))
        have hB' := (hB.setCell (p := ⟨g, 0, none⟩) hBg (.int .i64 (n + 1))).setCell (p := ⟨m, 0, none⟩) hBm (.int .i64 (max q (n + 1)))
        clear hgk hmk f0 f1 hcp HX hB he'
        have H1 := Lib.hid h1
        have H2 := Lib.hid h2
        have H3 := Lib.hid h3
        clear h1 h2 h3
        go_wp2
        go_roundw
        case rel => exact ⟨k + 1, by omega, by go_num, H1.out, by rw [HSN.out]; simpa [gapStep, he] using H2.out, by rw [HSN.out]; simpa [gapStep, he] using H3.out, hB'⟩
        case measure => simp [intOf]; omega
    · obtain rfl : k = l.length := by omega
      have ht : gapRun who (l.take l.length) = gapRun who l := by rw [List.take_length]
      rw [ht] at hmk
      have HK := Lib.hid hmk
      clear ht hx hgk hmk
      go_wp2
      go_end0
      exact ⟨rfl, HK.out, hB⟩

set_option maxHeartbeats 1000000 in
theorem gap_any (l : List Int) (A : Option Addr) (cap : Nat) (who : Int) (w : World) (hl : l.length ≤ 1000) (hR : ReadsI w w.heap.size A l) :
    Calls Try.prog 9 #[.slice A l.length cap, .int .i64 who] w fun e w' => e = .returned (.int .i64 (gapOf l who)) ∧ Below w.heap.size w w' := by
  have hb0 : Below w.heap.size w ((w.alloc (.cells #[.int .i64 0] 3)).alloc (.cells #[.int .i64 0] 3)) := ((Below.refl _ w).alloc (Nat.le_refl _) _).alloc (by simp) _
  have C := read_gap l A cap who (w.heap.size + 1) w.heap.size w.heap.size ((w.alloc (.cells #[.int .i64 0] 3)).alloc (.cells #[.int .i64 0] 3)) hl (hR.below hb0) (by omega) (by omega) (by simp; omega) (by omega)
    (by have h := World.alloc_heap_new (w.alloc (.cells #[.int .i64 0] 3)) (.cells #[.int .i64 0] 3); rwa [World.size_alloc] at h)
    (block_alloc (World.alloc_heap_new w _) _)
  have HC := Lib.hid C
  have HB := Lib.hid hb0
  clear C hR hb0
  go_enter Try.func9, Try.ntmps9
  go_wp2_with fail
  refine HC.out.mono ?_
  rintro e w1 ⟨rfl, hm, hb⟩
  have hc := (block_cell hm 0).1
  have hf := (block_cell hm 0).2
  simp at hc
  have hset := (block_cell (block_set hm (.int .i64 (gapOf l who))) 0).1
  simp at hset
  have hB := (HB.out.trans hb).setCell (p := ⟨w.heap.size, 0, none⟩) (Nat.le_refl _) (.int .i64 (gapOf l who))
  clear HC HB hm hb
  go_wp2
  refine bodyPost_ret (v := .int .i64 (gapOf l who)) (by simp [results, Try.f9, go_sem, hset]) rfl ⟨rfl, hB⟩

/-! ### Count -/
theorem countOf_snoc (l : List Int) (p who : Int) : countOf (l ++ [p]) who = countOf l who + if p = who then 1 else 0 := by
  by_cases h : p = who <;> simp [countOf, h]
theorem countOf_bounds (l : List Int) (who : Int) : 0 ≤ countOf l who ∧ countOf l who ≤ l.length := by
  have := List.count_le_length (a := who) (l := l)
  unfold countOf
  omega

set_option maxHeartbeats 1000000 in
theorem hit_count (g : Nat) (n : Int) (hn0 : 0 ≤ n) (hn1 : n ≤ 1000000) (w : World) (h : w.heap[g]? = some (.cells #[.int .i64 n] 3 (0, 0))) :
    Calls Try.prog 17 #[.pointer (some ⟨g, 0, none⟩)] w fun e w' => e = .returned (.tuple #[]) ∧ w' = w.setCell ⟨g, 0, none⟩ (.int .i64 (n + 1)) := by
  have hc := (block_cell h 0).1
  have hf := (block_cell h 0).2
  simp at hc
  clear h
  go_enter Try.func17, Try.ntmps17
  go_wp2
  go_end0
  exact ⟨rfl, rfl⟩

theorem miss_count (w : World) : Calls Try.prog 18 #[] w fun e w' => e = .returned (.tuple #[]) ∧ w' = w := by
  go_enter Try.func18, Try.ntmps18
  go_wp2
  go_end0
  exact ⟨rfl, rfl⟩

set_option maxRecDepth 100000 in
set_option maxHeartbeats 2000000 in
theorem read_count (l : List Int) (A : Option Addr) (cap : Nat) (who : Int) (g B : Nat) (w : World) (hl : l.length ≤ 1000) (hR : ReadsI w B A l) (hBg : B ≤ g) (hBs : B ≤ w.heap.size)
    (hg : w.heap[g]? = some (.cells #[.int .i64 0] 3 (0, 0))) :
    Calls Try.prog 16 #[.agg #[.func (.func 17) #[] #[.pointer (some ⟨g, 0, none⟩)], .func (.func 18) #[] #[]], .slice A l.length cap, .int .i64 who] w
      fun e w' => e = .returned (.tuple #[]) ∧ w'.heap[g]? = some (.cells #[.int .i64 (countOf l who)] 3 (0, 0)) ∧ Below B w w' := by
  have hgl := block_lt hg
  go_enter Try.func16, Try.ntmps16
  have HG := Lib.hid hg
  clear hg
  go_wp2
  go_loopw [10] (fun i wr => ∃ k : Nat, k ≤ l.length ∧ i = .int .i64 k ∧
      wr.heap[w.heap.size]? = some (.cells #[.func (.func 17) #[] #[.pointer (some ⟨g, 0, none⟩)], .func (.func 18) #[] #[]] 33 (0, 0)) ∧
      wr.heap[g]? = some (.cells #[.int .i64 (countOf (l.take k) who)] 3 (0, 0)) ∧ Below B w wr) (fun i _ => l.length - (intOf i).toNat)
  case atStart => exact ⟨0, Nat.zero_le _, rfl, World.alloc_heap_new w _, block_alloc HG.out _, (Below.refl _ _).alloc hBs _⟩
  case round =>
    obtain ⟨k, hk, rfl, hx, hgk, hB⟩ := hrel
    clear HG
    by_cases hlt : k < l.length
    · obtain ⟨b, off, rfl, hb, hc⟩ := (hR.below hB) (by omega)
      obtain ⟨p, hp⟩ : ∃ p, l[k]? = some p := ⟨_, List.getElem?_eq_getElem hlt⟩
      have hcp := hc k p hp
      have hbd := countOf_bounds (l.take k) who
      have hlk : (l.take k).length ≤ 1000 := by rw [List.length_take]; omega
      have hsn : countOf (l.take (k + 1)) who = countOf (l.take k) who + if p = who then 1 else 0 := by rw [take_more hp, countOf_snoc]
      obtain ⟨b1, b2⟩ := hbd
      have b3 : countOf (l.take k) who ≤ 1000000 := by omega
      have f0 := (block_cell hx 0).1
      have f1 := (block_cell hx 1).1
      simp at f0 f1
      generalize countOf (l.take k) who = n at *
      have HSN := Lib.hid hsn
      have HX := Lib.hid hx
      have HP := Lib.hid hp
      clear hc hR hsn hx hlk b2 hp
      by_cases he : p = who
      · subst he
        go_wp2_with fail
        refine (hit_count g n b1 b3 _ hgk).mono ?_
        rintro e w1 ⟨rfl, rfl⟩
        have h1 := block_other HX.out (B := w.heap.size) (C := g) (by omega) (.int .i64 (n + 1))
        have h2 := block_set hgk (.int .i64 (n + 1))
        have hB' := hB.setCell (p := ⟨g, 0, none⟩) hBg (.int .i64 (n + 1))
        clear hgk f0 f1 hcp HX hB
        have H1 := Lib.hid h1
        have H2 := Lib.hid h2
        clear h1 h2
        go_wp2
        go_roundw
        case rel => exact ⟨k + 1, by omega, by go_num, H1.out, by rw [HSN.out]; simpa using H2.out, hB'⟩
        case measure => simp [intOf]; omega
      · have he' : (p == who) = false := by simpa using he
        go_wp2_with fail
        refine (miss_count _).mono ?_
        rintro e w1 ⟨rfl, rfl⟩
        have H2 := Lib.hid hgk
        clear hgk f0 f1 hcp he'
        go_wp2
        go_roundw
        case rel => exact ⟨k + 1, by omega, by go_num, HX.out, by rw [HSN.out]; simpa [he] using H2.out, hB⟩
        case measure => simp [intOf]; omega
    · obtain rfl : k = l.length := by omega
      rw [List.take_length] at hgk
      have HK := Lib.hid hgk
      clear hx hgk
      go_wp2
      go_end0
      exact ⟨rfl, HK.out, hB⟩

set_option maxHeartbeats 1000000 in
theorem count_any (l : List Int) (A : Option Addr) (cap : Nat) (who : Int) (w : World) (hl : l.length ≤ 1000) (hR : ReadsI w w.heap.size A l) :
    Calls Try.prog 12 #[.slice A l.length cap, .int .i64 who] w fun e w' => e = .returned (.int .i64 (countOf l who)) ∧ Below w.heap.size w w' := by
  have hb0 : Below w.heap.size w (w.alloc (.cells #[.int .i64 0] 3)) := (Below.refl _ w).alloc (Nat.le_refl _) _
  have C := read_count l A cap who w.heap.size w.heap.size (w.alloc (.cells #[.int .i64 0] 3)) hl (hR.below hb0) (by omega) (by simp) (World.alloc_heap_new w _)
  have HC := Lib.hid C
  have HB := Lib.hid hb0
  clear C hR hb0
  go_enter Try.func12, Try.ntmps12
  go_wp2_with fail
  refine HC.out.mono ?_
  rintro e w1 ⟨rfl, hm, hb⟩
  have hc := (block_cell hm 0).1
  have hf := (block_cell hm 0).2
  simp at hc
  have hset := (block_cell (block_set hm (.int .i64 (countOf l who))) 0).1
  simp at hset
  have hB := (HB.out.trans hb).setCell (p := ⟨w.heap.size, 0, none⟩) (Nat.le_refl _) (.int .i64 (countOf l who))
  clear HC HB hm hb
  go_wp2
  refine bodyPost_ret (v := .int .i64 (countOf l who)) (by simp [results, Try.f12, go_sem, hset]) rfl ⟨rfl, hB⟩

end Go.Proofs.Ytfknlckdmdgoaaa
