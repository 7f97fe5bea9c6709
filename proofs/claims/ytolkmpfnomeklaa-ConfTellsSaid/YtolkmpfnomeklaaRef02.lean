/-
  DERIVED. The document's answer for layer 2 (sakiaref02), at every configuration: it is conf's.
-/
import Derived.Test.YtolkmpfnomeklaaAwake2
namespace Go.Proofs.Ytolkmpfnomeklaa
open Go Go.RowKit Go.Shelf

set_option maxRecDepth 100000 in
set_option maxHeartbeats 2000000 in
theorem refCheck_any (c : Cfg) (w : World) : Calls Try.prog 13 #[c.val] w fun e w' => e = .returned (.int .i64 c.chk) ∧ Below w.heap.size w w' := by
  have hq : c.chk = if (c.log < 1 ∨ 6 < c.log ∨ c.th < 1 ∨ 16 < c.th ∨ c.pol < 0 ∨ 2 < c.pol ∨ c.wt < 0 ∨ 3 < c.wt) ∨ (c.sp < 0 ∨ 8 < c.sp ∨ c.yi < 0 ∨ 8 < c.yi ∨ (c.wt ≠ 2 ∧ (c.sp ≠ 0 ∨ c.yi ≠ 0))) then 20 else 0 := by
    unfold Cfg.chk
    by_cases h : c.ok = true
    · have h1 := (Cfg.ok_iff c).1 h
      rw [if_pos h, if_neg]
      unfold Cfg.most at h1
      split at h1 <;> omega
    · rw [if_neg h, if_pos]
      have h2 := mt (Cfg.ok_iff c).2 h
      unfold Cfg.most at h2
      split at h2 <;> omega
  obtain ⟨log, th, pol, wt, sp, yi, single⟩ := c
  dsimp only at hq
  have HQ := Lib.hid hq
  clear hq
  go_enter Try.func13, Try.ntmps13
  go_wp2
  all_goals
    go_ret
    refine ⟨?_, (Below.refl _ _).alloc (Nat.le_refl _) _⟩
    rw [HQ.out]
    first
      | (rw [if_pos (by simp_all; try omega)]; rfl)
      | (rw [if_neg (by simp_all; try omega)]; rfl)

theorem refCheck_ok (c : Cfg) (w : World) (h : c.ok = true) : Calls Try.prog 13 #[c.val] w fun e w' => e = .returned (.int .i64 0) ∧ Below w.heap.size w w' :=
  (refCheck_any c w).mono fun _ _ ⟨he, hb⟩ => ⟨by rw [he, Cfg.chk_ok h], hb⟩
theorem refCheck_no (c : Cfg) (w : World) (h : c.ok = false) : Calls Try.prog 13 #[c.val] w fun e w' => e = .returned (.int .i64 20) ∧ Below w.heap.size w w' :=
  (refCheck_any c w).mono fun _ _ ⟨he, hb⟩ => ⟨by rw [he, Cfg.chk_no h], hb⟩

set_option maxRecDepth 100000 in
set_option maxHeartbeats 2000000 in
theorem refRoom_any (c : Cfg) (w : World) : Calls Try.prog 15 #[c.val] w fun e w' => e = .returned (.int .i64 c.room) ∧ Below w.heap.size w w' := by
  by_cases h : c.ok = true
  · have h1 := (Cfg.ok_iff c).1 h
    have hr : c.room = 2 ^ c.log.toNat := by simp [Cfg.room, h]
    obtain ⟨log, th, pol, wt, sp, yi, single⟩ := c
    dsimp only at h1 hr
    obtain ⟨n, rfl⟩ : ∃ n : Nat, log = n := ⟨log.toNat, by omega⟩
    have hn : n ≤ 6 := by omega
    rw [Int.toNat_natCast] at hr
    have C := fun W => refCheck_ok _ W h
    have HR := Lib.hid hr
    clear h1 h hr
    go_enter Try.func15, Try.ntmps15
    go_wp2_with fail
    refine (C _).mono ?_
    rintro e w1 ⟨rfl, hb⟩
    rw [World.size_alloc] at hb
    have h0 := (of_block (box_kept _ hb) 0).1
    simp at h0
    have hB := below_box hb
    clear C hb
    go_wp2
    go_loop [3, 4] (fun p i => ∃ k : Nat, k ≤ n ∧ i = .int .i64 k ∧ p = .int .i64 (2 ^ k)) (fun _ i => n - (intOf i).toNat)
    case atStart => exact ⟨0, Nat.zero_le _, rfl, rfl⟩
    case round =>
      obtain ⟨k, hk, rfl, rfl⟩ := hrel
      have hp : (2 : Int) ^ k ≤ 64 ∧ 0 ≤ (2 : Int) ^ k := by
        have hk6 : k ≤ 6 := by omega
        rcases (by omega : k = 0 ∨ k = 1 ∨ k = 2 ∨ k = 3 ∨ k = 4 ∨ k = 5 ∨ k = 6) with rfl | rfl | rfl | rfl | rfl | rfl | rfl <;> decide
      have hs : (2 : Int) ^ (k + 1) = 2 * 2 ^ k := by rw [Int.pow_succ, Int.mul_comm]
      obtain ⟨p1, p2⟩ := hp
      have HS := Lib.hid hs
      clear hs
      by_cases hlt : k < n
      · obtain ⟨p, hpp⟩ : ∃ p : Int, (2 : Int) ^ k = p := ⟨_, rfl⟩
        rw [hpp] at p1 p2
        have HP := Lib.hid hpp
        have e : (Value.int .i64 (2 ^ k)) = .int .i64 p := by rw [hpp]
        rw [e]
        clear e hpp
        go_wp2
        go_round
        case rel => exact ⟨k + 1, by omega, by go_num, by rw [HS.out, HP.out]⟩
        case measure => simp [intOf]; omega
      · obtain rfl : k = n := by omega
        go_wp2
        go_ret
        exact ⟨by rw [HR.out]; rfl, hB⟩
  · have h' : c.ok = false := by simpa using h
    have hr : c.room = 0 := by simp [Cfg.room, h']
    obtain ⟨log, th, pol, wt, sp, yi, single⟩ := c
    have C := fun W => refCheck_no _ W h'
    clear h h'
    go_enter Try.func15, Try.ntmps15
    go_wp2_with fail
    refine (C _).mono ?_
    rintro e w1 ⟨rfl, hb⟩
    rw [World.size_alloc] at hb
    have hB := below_box hb
    clear C hb
    go_wp2
    go_ret
    exact ⟨by rw [hr]; rfl, hB⟩

set_option maxHeartbeats 1000000 in
theorem refParks_any (c : Cfg) (w : World) : Calls Try.prog 19 #[c.val] w fun e w' => e = .returned (.bool c.parks) ∧ Below w.heap.size w w' := by
  by_cases h : c.ok = true
  · have h1 := ((Cfg.ok_iff c).1 h).2.2.2.1
    have hr := Cfg.parks_of h
    obtain ⟨log, th, pol, wt, sp, yi, single⟩ := c
    dsimp only at h1 hr
    have hr2 : Cfg.parks ⟨log, th, pol, wt, sp, yi, single⟩ = decide (2 ≤ wt) := by
      rw [hr, Bool.eq_iff_iff]
      simp
      omega
    have C := fun W => refCheck_ok _ W h
    have HR := Lib.hid hr2
    clear h hr hr2 h1
    go_enter Try.func19, Try.ntmps19
    go_wp2_with fail
    refine (C _).mono ?_
    rintro e w1 ⟨rfl, hb⟩
    rw [World.size_alloc] at hb
    have h0 := (of_block (box_kept _ hb) 3).1
    simp at h0
    have hB := below_box hb
    clear C hb
    go_wp2
    go_ret
    exact ⟨by rw [HR.out]; rfl, hB⟩
  · have h' : c.ok = false := by simpa using h
    have hr : c.parks = false := by simp [Cfg.parks, h']
    obtain ⟨log, th, pol, wt, sp, yi, single⟩ := c
    have C := fun W => refCheck_no _ W h'
    clear h h'
    go_enter Try.func19, Try.ntmps19
    go_wp2_with fail
    refine (C _).mono ?_
    rintro e w1 ⟨rfl, hb⟩
    rw [World.size_alloc] at hb
    have hB := below_box hb
    clear C hb
    go_wp2
    go_ret
    exact ⟨by rw [hr]; rfl, hB⟩
theorem refParks_at (b : Bool) (c : Cfg) (w : World) (h : c.parks = b) : Calls Try.prog 19 #[c.val] w fun e w' => e = .returned (.bool b) ∧ Below w.heap.size w w' :=
  (refParks_any c w).mono fun _ _ ⟨he, hb⟩ => ⟨by rw [he, h], hb⟩

set_option maxHeartbeats 1000000 in
theorem refTries_any (c : Cfg) (w : World) : Calls Try.prog 17 #[c.val] w fun e w' => e = .returned (.int .i64 c.tries) ∧ Below w.heap.size w w' := by
  by_cases h : c.parks = true
  · have hr : c.tries = c.sp + c.yi := by simp [Cfg.tries, h]
    have hbd := Cfg.tries_bounds h
    obtain ⟨log, th, pol, wt, sp, yi, single⟩ := c
    dsimp only at hr hbd
    obtain ⟨b1, b2, b3, b4⟩ := hbd
    have C := fun W => refParks_at true _ W h
    have HR := Lib.hid hr
    clear h hr
    go_enter Try.func17, Try.ntmps17
    go_wp2_with fail
    refine (C _).mono ?_
    rintro e w1 ⟨rfl, hb⟩
    rw [World.size_alloc] at hb
    have h0 := (of_block (box_kept _ hb) 4).1
    have h1 := (of_block (box_kept _ hb) 5).1
    simp at h0 h1
    have hB := below_box hb
    clear C hb
    go_wp2
    go_ret
    exact ⟨by rw [HR.out]; rfl, hB⟩
  · have h' : c.parks = false := by simpa using h
    have hr : c.tries = 0 := by simp [Cfg.tries, h']
    obtain ⟨log, th, pol, wt, sp, yi, single⟩ := c
    have C := fun W => refParks_at false _ W h'
    clear h h'
    go_enter Try.func17, Try.ntmps17
    go_wp2_with fail
    refine (C _).mono ?_
    rintro e w1 ⟨rfl, hb⟩
    rw [World.size_alloc] at hb
    have hB := below_box hb
    clear C hb
    go_wp2
    go_ret
    exact ⟨by rw [hr]; rfl, hB⟩

set_option maxRecDepth 100000 in
set_option maxHeartbeats 2000000 in
theorem refCount_any (l : List Cfg) (A : Option Addr) (cap : Nat) (w : World) (hl : l.length ≤ 1000) (hR : ReadsC w w.heap.size A l) :
    Calls Try.prog 11 #[.slice A l.length cap] w fun e w' => e = .returned (.tuple #[.int .i64 (cnt l), .int .i64 (rooms l)]) ∧ Below w.heap.size w w' := by
  go_enter Try.func11, Try.ntmps11
  go_wp2
  go_loopw [4, 5, 6] (fun n r i wr => ∃ k : Nat, k ≤ l.length ∧ i = .int .i64 k ∧ n = .int .i64 (cnt (l.take k)) ∧ r = .int .i64 (rooms (l.take k)) ∧ Below w.heap.size w wr) (fun _ _ i _ => l.length - (intOf i).toNat)
  case atStart => exact ⟨0, Nat.zero_le _, rfl, rfl, rfl, Below.refl _ _⟩
  case round =>
    obtain ⟨k, hk, rfl, rfl, rfl, hB⟩ := hrel
    by_cases hlt : k < l.length
    · obtain ⟨c, hci⟩ : ∃ c, l[k]? = some c := ⟨_, List.getElem?_eq_getElem hlt⟩
      have hR1 := (hR.below hB) (by omega)
      obtain ⟨b, off, rfl, hb, hc⟩ := hR1
      have hcc := hc k c hci
      have hsn : l.take (k + 1) = l.take k ++ [c] := by rw [List.take_add_one, hci]; rfl
      have hcn := cnt_snoc (l.take k) c
      have hrn := rooms_snoc (l.take k) c
      rw [← hsn] at hcn hrn
      obtain ⟨b1, b2⟩ := Cfg.room_bounds c
      obtain ⟨b3, b4⟩ := cnt_bounds (l.take k)
      obtain ⟨b5, b6⟩ := rooms_bounds (l.take k)
      have hlk : (l.take k).length ≤ 1000 := by rw [List.length_take]; omega
      have b4' : cnt (l.take k) ≤ 1000 := by omega
      have b6' : rooms (l.take k) ≤ 64000 := by omega
      clear b4 b6 hlk hsn hc
      have hcell : ∀ (V : World), Below w.heap.size wr V → (V.cell? ⟨b, off + k * 7, none⟩ = some (.int .i64 c.log) ∧ V.cell? ⟨b, off + k * 7 + 1, none⟩ = some (.int .i64 c.th) ∧ V.cell? ⟨b, off + k * 7 + 2, none⟩ = some (.int .i64 c.pol) ∧ V.cell? ⟨b, off + k * 7 + 3, none⟩ = some (.int .i64 c.wt) ∧
          V.cell? ⟨b, off + k * 7 + 4, none⟩ = some (.int .i64 c.sp) ∧ V.cell? ⟨b, off + k * 7 + 5, none⟩ = some (.int .i64 c.yi) ∧ V.cell? ⟨b, off + k * 7 + 6, none⟩ = some (.bool c.single)) := fun V hV =>
        ⟨(hV.cell (p := ⟨b, off + k * 7, none⟩) hb).trans (hcc 0 _ rfl), (hV.cell (p := ⟨b, off + k * 7 + 1, none⟩) hb).trans (hcc 1 _ rfl), (hV.cell (p := ⟨b, off + k * 7 + 2, none⟩) hb).trans (hcc 2 _ rfl), (hV.cell (p := ⟨b, off + k * 7 + 3, none⟩) hb).trans (hcc 3 _ rfl),
          (hV.cell (p := ⟨b, off + k * 7 + 4, none⟩) hb).trans (hcc 4 _ rfl), (hV.cell (p := ⟨b, off + k * 7 + 5, none⟩) hb).trans (hcc 5 _ rfl), (hV.cell (p := ⟨b, off + k * 7 + 6, none⟩) hb).trans (hcc 6 _ rfl)⟩
      have HCELL := Lib.hid hcell
      clear hcell hcc hci
      have hpos : c.ok = true → 0 < c.room := fun h => by
        have h1 := (Cfg.ok_iff c).1 h
        simp only [Cfg.room, h, if_true]
        have hl : c.log = 1 ∨ c.log = 2 ∨ c.log = 3 ∨ c.log = 4 ∨ c.log = 5 ∨ c.log = 6 := by omega
        rcases hl with e | e | e | e | e | e <;> rw [e] <;> decide
      have hzero : c.ok = false → c.room = 0 := fun h => by simp [Cfg.room, h]
      have R := fun W => refRoom_any c W
      have hB0 := hB
      by_cases hok : c.ok = true
      · have HC : cnt (l.take (k + 1)) = cnt (l.take k) + 1 := by rw [hcn, hok]; rfl
        have HCN := Lib.hid HC
        have HRN := Lib.hid hrn
        have hp := hpos hok
        clear HC hcn hrn hok hpos hzero
        obtain ⟨log, th, pol, wt, sp, yi, single⟩ := c
        generalize Cfg.room ⟨log, th, pol, wt, sp, yi, single⟩ = rm at *
        obtain ⟨c0, c1, c2, c3, c4, c5, c6⟩ := HCELL.out wr (Below.refl _ _)
        go_wp2_with fail
        refine (R _).mono ?_
        rintro e w1 ⟨rfl, hb1⟩
        replace hB := hB.trans (hb1.mono hB.size)
        have hb2 : Below w.heap.size wr w1 := hb1.mono hB0.size
        clear hb1 c0 c1 c2 c3 c4 c5 c6
        obtain ⟨c0, c1, c2, c3, c4, c5, c6⟩ := HCELL.out w1 hb2
        go_wp2_with fail
        refine (R _).mono ?_
        rintro e w2 ⟨rfl, hb3⟩
        replace hB := hB.trans (hb3.mono hB.size)
        clear R hb2 hb3 c0 c1 c2 c3 c4 c5 c6 hB0
        go_wp2
        go_roundw
        case rel => exact ⟨k + 1, by omega, by go_num, by rw [HCN.out], by rw [HRN.out], hB⟩
        case measure => simp [intOf]; omega
      · have hno : c.ok = false := by simpa using hok
        have HC : cnt (l.take (k + 1)) = cnt (l.take k) := by rw [hcn, hno]; simp
        have HR : rooms (l.take (k + 1)) = rooms (l.take k) := by rw [hrn, hzero hno]; simp
        have HCN := Lib.hid HC
        have HRN := Lib.hid HR
        have R0 : ∀ W, Calls Try.prog 15 #[c.val] W fun e w' => e = .returned (.int .i64 0) ∧ Below W.heap.size W w' := fun W => by
          have := R W
          rwa [hzero hno] at this
        clear HC HR hcn hrn hok hno hpos hzero R
        obtain ⟨log, th, pol, wt, sp, yi, single⟩ := c
        obtain ⟨c0, c1, c2, c3, c4, c5, c6⟩ := HCELL.out wr (Below.refl _ _)
        go_wp2_with fail
        refine (R0 _).mono ?_
        rintro e w1 ⟨rfl, hb1⟩
        replace hB := hB.trans (hb1.mono hB.size)
        have hb2 : Below w.heap.size wr w1 := hb1.mono hB0.size
        clear hb1 c0 c1 c2 c3 c4 c5 c6
        obtain ⟨c0, c1, c2, c3, c4, c5, c6⟩ := HCELL.out w1 hb2
        go_wp2_with fail
        refine (R0 _).mono ?_
        rintro e w2 ⟨rfl, hb3⟩
        replace hB := hB.trans (hb3.mono hB.size)
        clear R0 hb2 hb3 c0 c1 c2 c3 c4 c5 c6 hB0
        go_wp2
        go_roundw
        case rel => exact ⟨k + 1, by omega, by go_num, by rw [HCN.out], by rw [HRN.out], hB⟩
        case measure => simp [intOf]; omega
    · obtain rfl : k = l.length := by omega
      have ht : l.take l.length = l := List.take_length
      go_wp2
      go_ret2
      exact ⟨by rw [ht]; rfl, hB⟩

end Go.Proofs.Ytolkmpfnomeklaa
