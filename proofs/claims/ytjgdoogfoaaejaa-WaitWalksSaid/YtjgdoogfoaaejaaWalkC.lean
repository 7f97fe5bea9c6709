/-
  DERIVED. wait.Walk, at every configuration: the slice that it hands back has room for what it holds. (Printed by mk_walkc.py.)
-/
import Derived.Test.YtjgdoogfoaaejaaWalk
namespace Go.Proofs.Ytjgdoogfoaaejaa
open Go Go.RowKit Go.Shelf

/-- A slice of numbers is handed back, in a row that has room for them; what lay before lies as it lay. -/
def GivesC (w : World) (l : List Int) (e : Ending) (w' : World) : Prop :=
  ∃ A cap, e = .returned (.slice A l.length cap) ∧ ReadsI w' w'.heap.size A l ∧ Below w.heap.size w w' ∧ ((A = none ∧ l = [] ∧ cap = 0) ∨ ∃ g, A = some ⟨g, 0, none⟩ ∧ l.length ≤ cap)

theorem reads_ownC {w : World} {base : Nat} {v : Value} {l : List Int} (h : w.ownsRow base 3 1 v l.length (l.map (Value.int .i64))) : ∃ A cap, v = .slice A l.length cap ∧ ReadsI w w.heap.size A l ∧ ((A = none ∧ l = [] ∧ cap = 0) ∨ ∃ g, A = some ⟨g, 0, none⟩ ∧ l.length ≤ cap) := by
  obtain ⟨A, cap, hv, hR⟩ := reads_own h
  refine ⟨A, cap, hv, hR, ?_⟩
  rcases h.2 with ⟨h1, h2⟩ | ⟨g, cap', cur, h1, _, _, hle, _⟩
  · rw [hv] at h1
    injection h1 with e1 e2 e3
    exact .inl ⟨e1, List.eq_nil_of_length_eq_zero e2, e3⟩
  · rw [hv] at h1
    injection h1 with e1 e2 e3
    exact .inr ⟨g, e1, by omega⟩

set_option maxRecDepth 100000 in
set_option maxHeartbeats 4000000 in
theorem walkc_neg (c : Cfg) (many : Int) (hn : many < 0) (w : World) : Calls Try.prog 15 #[c.val, .int .i64 many] w (GivesC w (walkTo c 0)) := by
  obtain ⟨i0, hi, hz0, hz1, hz2⟩ := info_parts int_info
  have N := fun i W => next_any c i W
  have hS0 := (Boxes.nil w 23).add c
  have WS := Lib.hid (walkTo_succ c)
  have WL := Lib.hid (walkTo_length c)
  have w0 : walkTo c 0 = [] := rfl
  generalize hwt : walkTo c = wt at *
  generalize hno : nextOf c = no at *
  have W0 := Lib.hid w0
  clear hwt hno w0
  obtain ⟨log, th, pol, wt', sp, yi, single⟩ := c
  go_enter Try.func15, Try.ntmps15
  go_wp2
  go_loopw [4, 9] (fun v i wr => ∃ k : Nat, k ≤ 0 ∧ i = .int .i64 k ∧ wr.ownsRow (w.heap.size + 1) 3 1 v (wt k).length ((wt k).map (Value.int .i64)) ∧ Boxes w [(w.heap.size, ⟨log, th, pol, wt', sp, yi, single⟩)] 23 wr ∧ w.heap.size + 1 ≤ wr.heap.size) (fun _ i _ => 0 - (intOf i).toNat)
  case atStart => exact ⟨0, Nat.zero_le _, rfl, by rw [W0.out]; exact World.ownsRow_nil _ _ _ _, hS0, by simp⟩
  case round =>
    obtain ⟨k, hk, rfl, hown, hS, hsz⟩ := hrel
    clear hS0
    by_cases hlt : k < 0
    · exact absurd hlt (Nat.not_lt_zero k)
    · obtain rfl : k = 0 := by omega
      go_wp2
      go_ret
      obtain ⟨A, cap, hv, hR, hc⟩ := reads_ownC hown
      exact ⟨A, cap, by rw [hv]; rfl, hR, hS.2, hc⟩

set_option maxRecDepth 100000 in
set_option maxHeartbeats 4000000 in
theorem walkc_mid (c : Cfg) (m : Nat) (hn : m ≤ 1000) (w : World) : Calls Try.prog 15 #[c.val, .int .i64 m] w (GivesC w (walkTo c m)) := by
  obtain ⟨i0, hi, hz0, hz1, hz2⟩ := info_parts int_info
  have N := fun i W => next_any c i W
  have hS0 := (Boxes.nil w 23).add c
  have WS := Lib.hid (walkTo_succ c)
  have WL := Lib.hid (walkTo_length c)
  have w0 : walkTo c 0 = [] := rfl
  generalize hwt : walkTo c = wt at *
  generalize hno : nextOf c = no at *
  have W0 := Lib.hid w0
  clear hwt hno w0
  obtain ⟨log, th, pol, wt', sp, yi, single⟩ := c
  go_enter Try.func15, Try.ntmps15
  go_wp2
  go_loopw [4, 9] (fun v i wr => ∃ k : Nat, k ≤ m ∧ i = .int .i64 k ∧ wr.ownsRow (w.heap.size + 1) 3 1 v (wt k).length ((wt k).map (Value.int .i64)) ∧ Boxes w [(w.heap.size, ⟨log, th, pol, wt', sp, yi, single⟩)] 23 wr ∧ w.heap.size + 1 ≤ wr.heap.size) (fun _ i _ => m - (intOf i).toNat)
  case atStart => exact ⟨0, Nat.zero_le _, rfl, by rw [W0.out]; exact World.ownsRow_nil _ _ _ _, hS0, by simp⟩
  case round =>
    obtain ⟨k, hk, rfl, hown, hS, hsz⟩ := hrel
    clear hS0
    by_cases hlt : k < m
    · obtain ⟨c0, c1, c2, c3, c4, c5, c6⟩ := cells7 (hS.at_ (B := w.heap.size) (c := ⟨log, th, pol, wt', sp, yi, single⟩) (by simp))
      have hlen : (wt k).length ≤ 1000 := by rw [WL.out]; omega
      have hb4 : ∀ g, u4.ownBlock = some g → w.heap.size + 1 ≤ g := fun g hg => own_base hown hg
      go_wp2_with fail
      refine (N _ _).mono ?_
      rintro e w1 ⟨rfl, hb⟩
      have hown1 := hown.kept (row := none) ⟨hb.os, hb.tape, hb.output, hb.size, fun i hi _ => hb.block i hi⟩ (by cases hv : u4.ownBlock <;> simp)
      have hS1 := hS.on hb
      have hsz1 : w.heap.size + 1 ≤ w1.heap.size := Nat.le_trans hsz hb.size
      clear hb hown hS c0 c1 c2 c3 c4 c5 c6 N hsz
      generalize hnk : no (k : Int) = x at *
      go_wp2_with (at_builtin; refine wpList_append_own _ rfl _ _ 24 rfl (w.heap.size + 1) 3 i0 (.int .i64 0) 1 8 Try.underlying24 hi hz0 hz1 hz2 rfl (by decide) _ _ _ rfl (hown1.alloc _) ⟨w1.heap.size, 0, none⟩ 1 1 [.int .i64 x] rfl rfl (cell_one_new _ _ _) (by simp [Value.oneCell']) (by simp only [maxLen]; omega) (by omega) (by simp; omega) ?_; intro v' w2 hown' hgrow _)
      have hS2 := hS1.grown hgrow (fun g hg => hb4 g hg)
      have hsz2 : w.heap.size + 1 ≤ w2.heap.size := by have := hgrow.size; rw [World.size_alloc] at this; omega
      clear hgrow hb4 hown1 hS1
      go_roundw
      case rel => exact ⟨k + 1, by omega, by go_num, by rw [WS.out, hnk]; simpa using hown', hS2, hsz2⟩
      case measure => simp [intOf]; omega
    · obtain rfl : k = m := by omega
      go_wp2
      go_ret
      obtain ⟨A, cap, hv, hR, hc⟩ := reads_ownC hown
      exact ⟨A, cap, by rw [hv]; rfl, hR, hS.2, hc⟩

set_option maxRecDepth 100000 in
set_option maxHeartbeats 4000000 in
theorem walkc_big (c : Cfg) (many : Int) (hn : 1000 < many) (w : World) : Calls Try.prog 15 #[c.val, .int .i64 many] w (GivesC w (walkTo c 1000)) := by
  obtain ⟨i0, hi, hz0, hz1, hz2⟩ := info_parts int_info
  have N := fun i W => next_any c i W
  have hS0 := (Boxes.nil w 23).add c
  have WS := Lib.hid (walkTo_succ c)
  have WL := Lib.hid (walkTo_length c)
  have w0 : walkTo c 0 = [] := rfl
  generalize hwt : walkTo c = wt at *
  generalize hno : nextOf c = no at *
  have W0 := Lib.hid w0
  clear hwt hno w0
  obtain ⟨log, th, pol, wt', sp, yi, single⟩ := c
  go_enter Try.func15, Try.ntmps15
  go_wp2
  go_loopw [4, 9] (fun v i wr => ∃ k : Nat, k ≤ 1000 ∧ i = .int .i64 k ∧ wr.ownsRow (w.heap.size + 1) 3 1 v (wt k).length ((wt k).map (Value.int .i64)) ∧ Boxes w [(w.heap.size, ⟨log, th, pol, wt', sp, yi, single⟩)] 23 wr ∧ w.heap.size + 1 ≤ wr.heap.size) (fun _ i _ => 1000 - (intOf i).toNat)
  case atStart => exact ⟨0, Nat.zero_le _, rfl, by rw [W0.out]; exact World.ownsRow_nil _ _ _ _, hS0, by simp⟩
  case round =>
    obtain ⟨k, hk, rfl, hown, hS, hsz⟩ := hrel
    clear hS0
    by_cases hlt : k < 1000
    · obtain ⟨c0, c1, c2, c3, c4, c5, c6⟩ := cells7 (hS.at_ (B := w.heap.size) (c := ⟨log, th, pol, wt', sp, yi, single⟩) (by simp))
      have hlen : (wt k).length ≤ 1000 := by rw [WL.out]; omega
      have hb4 : ∀ g, u4.ownBlock = some g → w.heap.size + 1 ≤ g := fun g hg => own_base hown hg
      go_wp2_with fail
      refine (N _ _).mono ?_
      rintro e w1 ⟨rfl, hb⟩
      have hown1 := hown.kept (row := none) ⟨hb.os, hb.tape, hb.output, hb.size, fun i hi _ => hb.block i hi⟩ (by cases hv : u4.ownBlock <;> simp)
      have hS1 := hS.on hb
      have hsz1 : w.heap.size + 1 ≤ w1.heap.size := Nat.le_trans hsz hb.size
      clear hb hown hS c0 c1 c2 c3 c4 c5 c6 N hsz
      generalize hnk : no (k : Int) = x at *
      go_wp2_with (at_builtin; refine wpList_append_own _ rfl _ _ 24 rfl (w.heap.size + 1) 3 i0 (.int .i64 0) 1 8 Try.underlying24 hi hz0 hz1 hz2 rfl (by decide) _ _ _ rfl (hown1.alloc _) ⟨w1.heap.size, 0, none⟩ 1 1 [.int .i64 x] rfl rfl (cell_one_new _ _ _) (by simp [Value.oneCell']) (by simp only [maxLen]; omega) (by omega) (by simp; omega) ?_; intro v' w2 hown' hgrow _)
      have hS2 := hS1.grown hgrow (fun g hg => hb4 g hg)
      have hsz2 : w.heap.size + 1 ≤ w2.heap.size := by have := hgrow.size; rw [World.size_alloc] at this; omega
      clear hgrow hb4 hown1 hS1
      go_roundw
      case rel => exact ⟨k + 1, by omega, by go_num, by rw [WS.out, hnk]; simpa using hown', hS2, hsz2⟩
      case measure => simp [intOf]; omega
    · obtain rfl : k = 1000 := by omega
      go_wp2
      go_ret
      obtain ⟨A, cap, hv, hR, hc⟩ := reads_ownC hown
      exact ⟨A, cap, by rw [hv]; rfl, hR, hS.2, hc⟩

theorem walkc_any (c : Cfg) (many : Int) (w : World) : Calls Try.prog 15 #[c.val, .int .i64 many] w (GivesC w (walkOf c many)) := by
  by_cases h1 : many < 0
  · have e : walkOf c many = walkTo c 0 := by unfold walkOf; congr 1; omega
    rw [e]
    exact walkc_neg c many h1 w
  · by_cases h2 : 1000 < many
    · have e : walkOf c many = walkTo c 1000 := by unfold walkOf; congr 1; omega
      rw [e]
      exact walkc_big c many h2 w
    · have e : walkOf c many = walkTo c many.toNat := by unfold walkOf; congr 1; omega
      have em : ((many.toNat : Nat) : Int) = many := by omega
      have := walkc_mid c many.toNat (by omega) w
      rwa [em, ← e] at this
theorem walkc_at (l : List Int) (c : Cfg) (many : Int) (w : World) (h : walkOf c many = l) : Calls Try.prog 15 #[c.val, .int .i64 many] w (GivesC w l) := h ▸ walkc_any c many w

end Go.Proofs.Ytjgdoogfoaaejaa
