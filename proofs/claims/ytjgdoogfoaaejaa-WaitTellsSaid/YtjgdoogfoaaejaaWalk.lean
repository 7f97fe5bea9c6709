/-
  DERIVED. wait.Until and wait.Walk, at every configuration.
-/
import Derived.Test.YtjgdoogfoaaejaaNext
import Derived.Test.YtjgdoogfoaaejaaInts
namespace Go.Proofs.Ytjgdoogfoaaejaa
open Go Go.RowKit Go.Shelf

set_option maxRecDepth 100000 in
set_option maxHeartbeats 2000000 in
theorem until_any (c : Cfg) (w : World) : Calls Try.prog 9 #[c.val] w fun e w' => e = .returned (.tuple #[.int .i64 c.tries, .bool c.parks]) ∧ Below w.heap.size w w' := by
  by_cases h : c.parks = true
  · have C := fun W => parks_yes c W h
    have D := fun W => conf_tries c W
    obtain ⟨log, th, pol, wt, sp, yi, single⟩ := c
    generalize Cfg.tries _ = r at *
    rw [h]
    clear h
    go_enter Try.func9, Try.ntmps9
    go_wp2_with fail
    refine (C _).mono ?_
    rintro e w1 ⟨rfl, hb⟩
    rw [World.size_alloc] at hb
    have hx := box_kept ⟨log, th, pol, wt, sp, yi, single⟩ hb
    have hB := below_box hb
    obtain ⟨c0, c1, c2, c3, c4, c5, c6⟩ := cells7 hx
    clear C hb hx
    go_wp2_with fail
    refine (D _).mono ?_
    rintro e w2 ⟨rfl, hb⟩
    replace hB := hB.trans (hb.mono hB.size)
    clear D hb c0 c1 c2 c3 c4 c5 c6
    go_wp2
    go_ret2
    exact ⟨rfl, hB⟩
  · have h' : c.parks = false := by simpa using h
    have ht : c.tries = 0 := by simp [Cfg.tries, h']
    have C := fun W => parks_not c W h'
    rw [h', ht]
    clear h h' ht
    obtain ⟨log, th, pol, wt, sp, yi, single⟩ := c
    go_enter Try.func9, Try.ntmps9
    go_wp2_with fail
    refine (C _).mono ?_
    rintro e w1 ⟨rfl, hb⟩
    rw [World.size_alloc] at hb
    have hB := below_box hb
    clear C hb
    go_wp2
    go_ret2
    exact ⟨rfl, hB⟩

/-- What is done so often. -/
def walkTo (c : Cfg) (k : Nat) : List Int := (List.range k).map fun i => nextOf c (Int.ofNat i)
theorem walkTo_length (c : Cfg) (k : Nat) : (walkTo c k).length = k := by simp [walkTo]
theorem walkTo_succ (c : Cfg) (k : Nat) : walkTo c (k + 1) = walkTo c k ++ [nextOf c (k : Int)] := by simp [walkTo, List.range_succ]

set_option maxRecDepth 100000 in
set_option maxHeartbeats 4000000 in
theorem walk_neg (c : Cfg) (many : Int) (hn : many < 0) (w : World) : Calls Try.prog 15 #[c.val, .int .i64 many] w (GivesI w (walkTo c 0)) := by
  obtain ⟨i0, hi, hz0, hz1, hz2⟩ := info_parts int_info
  have N := fun i W => next_any c i W
  have hS0 := (Boxes.nil w 23).add c
  have WS := Lib.hid (walkTo_succ c)
  have WL := Lib.hid (walkTo_length c)
  have w0 : walkTo c 0 = [] := rfl
  generalize hwt : walkTo c = wt at *
  generalize hno : nextOf c = no at *
  have W0 := Lib.hid w0
  clear hwt hno w0
  obtain ⟨log, th, pol, wt', sp, yi, single⟩ := c
  go_enter Try.func15, Try.ntmps15
  go_wp2
  go_loopw [4, 9] (fun v i wr => ∃ k : Nat, k ≤ 0 ∧ i = .int .i64 k ∧ wr.ownsRow (w.heap.size + 1) 3 1 v (wt k).length ((wt k).map (Value.int .i64)) ∧ Boxes w [(w.heap.size, ⟨log, th, pol, wt', sp, yi, single⟩)] 23 wr ∧ w.heap.size + 1 ≤ wr.heap.size) (fun _ i _ => 0 - (intOf i).toNat)
  case atStart => exact ⟨0, Nat.zero_le _, rfl, by rw [W0.out]; exact World.ownsRow_nil _ _ _ _, hS0, by simp⟩
  case round =>
    obtain ⟨k, hk, rfl, hown, hS, hsz⟩ := hrel
    clear hS0
    by_cases hlt : k < 0
    · exact absurd hlt (Nat.not_lt_zero k)
    · obtain rfl : k = 0 := by omega
      go_wp2
      go_ret
      obtain ⟨A, cap, hv, hR⟩ := reads_own hown
      exact ⟨A, cap, by rw [hv]; rfl, hR, hS.2⟩

set_option maxRecDepth 100000 in
set_option maxHeartbeats 4000000 in
theorem walk_mid (c : Cfg) (m : Nat) (hn : m ≤ 1000) (w : World) : Calls Try.prog 15 #[c.val, .int .i64 m] w (GivesI w (walkTo c m)) := by
  obtain ⟨i0, hi, hz0, hz1, hz2⟩ := info_parts int_info
  have N := fun i W => next_any c i W
  have hS0 := (Boxes.nil w 23).add c
  have WS := Lib.hid (walkTo_succ c)
  have WL := Lib.hid (walkTo_length c)
  have w0 : walkTo c 0 = [] := rfl
  generalize hwt : walkTo c = wt at *
  generalize hno : nextOf c = no at *
  have W0 := Lib.hid w0
  clear hwt hno w0
  obtain ⟨log, th, pol, wt', sp, yi, single⟩ := c
  go_enter Try.func15, Try.ntmps15
  go_wp2
  go_loopw [4, 9] (fun v i wr => ∃ k : Nat, k ≤ m ∧ i = .int .i64 k ∧ wr.ownsRow (w.heap.size + 1) 3 1 v (wt k).length ((wt k).map (Value.int .i64)) ∧ Boxes w [(w.heap.size, ⟨log, th, pol, wt', sp, yi, single⟩)] 23 wr ∧ w.heap.size + 1 ≤ wr.heap.size) (fun _ i _ => m - (intOf i).toNat)
  case atStart => exact ⟨0, Nat.zero_le _, rfl, by rw [W0.out]; exact World.ownsRow_nil _ _ _ _, hS0, by simp⟩
  case round =>
    obtain ⟨k, hk, rfl, hown, hS, hsz⟩ := hrel
    clear hS0
    by_cases hlt : k < m
    · obtain ⟨c0, c1, c2, c3, c4, c5, c6⟩ := cells7 (hS.at_ (B := w.heap.size) (c := ⟨log, th, pol, wt', sp, yi, single⟩) (by simp))
      have hlen : (wt k).length ≤ 1000 := by rw [WL.out]; omega
      have hb4 : ∀ g, u4.ownBlock = some g → w.heap.size + 1 ≤ g := fun g hg => own_base hown hg
      go_wp2_with fail
      refine (N _ _).mono ?_
      rintro e w1 ⟨rfl, hb⟩
      have hown1 := hown.kept (row := none) ⟨hb.os, hb.tape, hb.output, hb.size, fun i hi _ => hb.block i hi⟩ (by cases hv : u4.ownBlock <;> simp)
      have hS1 := hS.on hb
      have hsz1 : w.heap.size + 1 ≤ w1.heap.size := Nat.le_trans hsz hb.size
      clear hb hown hS c0 c1 c2 c3 c4 c5 c6 N hsz
      generalize hnk : no (k : Int) = x at *
      go_wp2_with (at_builtin; refine wpList_append_own _ rfl _ _ 24 rfl (w.heap.size + 1) 3 i0 (.int .i64 0) 1 8 Try.underlying24 hi hz0 hz1 hz2 rfl (by decide) _ _ _ rfl (hown1.alloc _) ⟨w1.heap.size, 0, none⟩ 1 1 [.int .i64 x] rfl rfl (cell_one_new _ _ _) (by simp [Value.oneCell']) (by simp only [maxLen]; omega) (by omega) (by simp; omega) ?_; intro v' w2 hown' hgrow _)
      have hS2 := hS1.grown hgrow (fun g hg => hb4 g hg)
      have hsz2 : w.heap.size + 1 ≤ w2.heap.size := by have := hgrow.size; rw [World.size_alloc] at this; omega
      clear hgrow hb4 hown1 hS1
      go_roundw
      case rel => exact ⟨k + 1, by omega, by go_num, by rw [WS.out, hnk]; simpa using hown', hS2, hsz2⟩
      case measure => simp [intOf]; omega
    · obtain rfl : k = m := by omega
      go_wp2
      go_ret
      obtain ⟨A, cap, hv, hR⟩ := reads_own hown
      exact ⟨A, cap, by rw [hv]; rfl, hR, hS.2⟩

set_option maxRecDepth 100000 in
set_option maxHeartbeats 4000000 in
theorem walk_big (c : Cfg) (many : Int) (hn : 1000 < many) (w : World) : Calls Try.prog 15 #[c.val, .int .i64 many] w (GivesI w (walkTo c 1000)) := by
  obtain ⟨i0, hi, hz0, hz1, hz2⟩ := info_parts int_info
  have N := fun i W => next_any c i W
  have hS0 := (Boxes.nil w 23).add c
  have WS := Lib.hid (walkTo_succ c)
  have WL := Lib.hid (walkTo_length c)
  have w0 : walkTo c 0 = [] := rfl
  generalize hwt : walkTo c = wt at *
  generalize hno : nextOf c = no at *
  have W0 := Lib.hid w0
  clear hwt hno w0
  obtain ⟨log, th, pol, wt', sp, yi, single⟩ := c
  go_enter Try.func15, Try.ntmps15
  go_wp2
  go_loopw [4, 9] (fun v i wr => ∃ k : Nat, k ≤ 1000 ∧ i = .int .i64 k ∧ wr.ownsRow (w.heap.size + 1) 3 1 v (wt k).length ((wt k).map (Value.int .i64)) ∧ Boxes w [(w.heap.size, ⟨log, th, pol, wt', sp, yi, single⟩)] 23 wr ∧ w.heap.size + 1 ≤ wr.heap.size) (fun _ i _ => 1000 - (intOf i).toNat)
  case atStart => exact ⟨0, Nat.zero_le _, rfl, by rw [W0.out]; exact World.ownsRow_nil _ _ _ _, hS0, by simp⟩
  case round =>
    obtain ⟨k, hk, rfl, hown, hS, hsz⟩ := hrel
    clear hS0
    by_cases hlt : k < 1000
    · obtain ⟨c0, c1, c2, c3, c4, c5, c6⟩ := cells7 (hS.at_ (B := w.heap.size) (c := ⟨log, th, pol, wt', sp, yi, single⟩) (by simp))
      have hlen : (wt k).length ≤ 1000 := by rw [WL.out]; omega
      have hb4 : ∀ g, u4.ownBlock = some g → w.heap.size + 1 ≤ g := fun g hg => own_base hown hg
      go_wp2_with fail
      refine (N _ _).mono ?_
      rintro e w1 ⟨rfl, hb⟩
      have hown1 := hown.kept (row := none) ⟨hb.os, hb.tape, hb.output, hb.size, fun i hi _ => hb.block i hi⟩ (by cases hv : u4.ownBlock <;> simp)
      have hS1 := hS.on hb
      have hsz1 : w.heap.size + 1 ≤ w1.heap.size := Nat.le_trans hsz hb.size
      clear hb hown hS c0 c1 c2 c3 c4 c5 c6 N hsz
      generalize hnk : no (k : Int) = x at *
      go_wp2_with (at_builtin; refine wpList_append_own _ rfl _ _ 24 rfl (w.heap.size + 1) 3 i0 (.int .i64 0) 1 8 Try.underlying24 hi hz0 hz1 hz2 rfl (by decide) _ _ _ rfl (hown1.alloc _) ⟨w1.heap.size, 0, none⟩ 1 1 [.int .i64 x] rfl rfl (cell_one_new _ _ _) (by simp [Value.oneCell']) (by simp only [maxLen]; omega) (by omega) (by simp; omega) ?_; intro v' w2 hown' hgrow _)
      have hS2 := hS1.grown hgrow (fun g hg => hb4 g hg)
      have hsz2 : w.heap.size + 1 ≤ w2.heap.size := by have := hgrow.size; rw [World.size_alloc] at this; omega
      clear hgrow hb4 hown1 hS1
      go_roundw
      case rel => exact ⟨k + 1, by omega, by go_num, by rw [WS.out, hnk]; simpa using hown', hS2, hsz2⟩
      case measure => simp [intOf]; omega
    · obtain rfl : k = 1000 := by omega
      go_wp2
      go_ret
      obtain ⟨A, cap, hv, hR⟩ := reads_own hown
      exact ⟨A, cap, by rw [hv]; rfl, hR, hS.2⟩

/-- So often. -/
def walkOf (c : Cfg) (many : Int) : List Int := walkTo c (min (max many 0) 1000).toNat
theorem walk_any (c : Cfg) (many : Int) (w : World) : Calls Try.prog 15 #[c.val, .int .i64 many] w (GivesI w (walkOf c many)) := by
  by_cases h1 : many < 0
  · have e : walkOf c many = walkTo c 0 := by unfold walkOf; congr 1; omega
    rw [e]
    exact walk_neg c many h1 w
  · by_cases h2 : 1000 < many
    · have e : walkOf c many = walkTo c 1000 := by unfold walkOf; congr 1; omega
      rw [e]
      exact walk_big c many h2 w
    · have e : walkOf c many = walkTo c many.toNat := by unfold walkOf; congr 1; omega
      have em : ((many.toNat : Nat) : Int) = many := by omega
      have := walk_mid c many.toNat (by omega) w
      rwa [em, ← e] at this
theorem walk_at (l : List Int) (c : Cfg) (many : Int) (w : World) (h : walkOf c many = l) : Calls Try.prog 15 #[c.val, .int .i64 many] w (GivesI w l) := h ▸ walk_any c many w

end Go.Proofs.Ytjgdoogfoaaejaa
