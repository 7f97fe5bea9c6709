/-
  DERIVED. sakiaref07's functions: the document's answer for layer 7. (Printed by mk_ref07.py.)
-/
import Derived.Test.YtjgdoogfoaaejaaPlainW
import Derived.Test.YtjgdoogfoaaejaaRefNext
namespace Go.Proofs.Ytjgdoogfoaaejaa
open Go Go.RowKit Go.Shelf

set_option maxRecDepth 100000 in
set_option maxHeartbeats 4000000 in
theorem refWalk_to (c : Cfg) (many : Int) (k0 : Nat) (hk0 : (min (max many 0) 1000).toNat = k0) (w : World) : Calls Try.prog 16 #[c.val, .int .i64 many] w (GivesI w (walkTo c k0)) := by
  obtain ⟨i0, hi, hz0, hz1, hz2⟩ := info_parts int_info
  have N := fun (i : Nat) W => refNext_any c i W (by omega)
  have hS0 := (Boxes.nil w 23).add c
  have WS := Lib.hid (walkTo_succ c)
  have WL := Lib.hid (walkTo_length c)
  have w0 : walkTo c 0 = [] := rfl
  generalize hwt : walkTo c = wt at *
  generalize hno : nextOf c = no at *
  have W0 := Lib.hid w0
  have HK := Lib.hid hk0
  clear hwt hno w0 hk0
  obtain ⟨log, th, pol, wt', sp, yi, single⟩ := c
  go_enter Try.func16, Try.ntmps16
  go_wp2
  go_loopw [5, 6] (fun v i wr => ∃ k : Nat, k ≤ k0 ∧ i = .int .i64 k ∧ wr.ownsRow (w.heap.size + 1) 3 1 v (wt k).length ((wt k).map (Value.int .i64)) ∧ Boxes w [(w.heap.size, ⟨log, th, pol, wt', sp, yi, single⟩)] 23 wr ∧ w.heap.size + 1 ≤ wr.heap.size) (fun _ i _ => k0 - (intOf i).toNat)
  case atStart => exact ⟨0, Nat.zero_le _, rfl, by rw [W0.out]; exact World.ownsRow_nil _ _ _ _, hS0, by simp⟩
  case round =>
    obtain ⟨k, hk, rfl, hown, hS, hsz⟩ := hrel
    clear hS0
    by_cases hlt : k < k0
    · have l1 : (k : Int) < many := by have := HK.out; omega
      have l2 : k < 1000 := by have := HK.out; omega
      obtain ⟨c0, c1, c2, c3, c4, c5, c6⟩ := cells7 (hS.at_ (B := w.heap.size) (c := ⟨log, th, pol, wt', sp, yi, single⟩) (by simp))
      have hlen : (wt k).length ≤ 1000 := by rw [WL.out]; omega
      have hb4 : ∀ g, u5.ownBlock = some g → w.heap.size + 1 ≤ g := fun g hg => own_base hown hg
      go_wp2_with fail
      refine (N _ _).mono ?_
      rintro e w1 ⟨rfl, hb⟩
      have hown1 := hown.kept (row := none) ⟨hb.os, hb.tape, hb.output, hb.size, fun i hi _ => hb.block i hi⟩ (by cases hv : u5.ownBlock <;> simp)
      have hS1 := hS.on hb
      have hsz1 : w.heap.size + 1 ≤ w1.heap.size := Nat.le_trans hsz hb.size
      clear hb hown hS c0 c1 c2 c3 c4 c5 c6 N hsz
      generalize hnk : no (k : Int) = x at *
      go_wp2_with (at_builtin; refine wpList_append_own _ rfl _ _ 24 rfl (w.heap.size + 1) 3 i0 (.int .i64 0) 1 8 Try.underlying24 hi hz0 hz1 hz2 rfl (by decide) _ _ _ rfl (hown1.alloc _) ⟨w1.heap.size, 0, none⟩ 1 1 [.int .i64 x] rfl rfl (cell_one_new _ _ _) (by simp [Value.oneCell']) (by simp only [maxLen]; omega) (by omega) (by simp; omega) ?_; intro v' w2 hown' hgrow _)
      have hS2 := hS1.grown hgrow (fun g hg => hb4 g hg)
      have hsz2 : w.heap.size + 1 ≤ w2.heap.size := by have := hgrow.size; rw [World.size_alloc] at this; omega
      clear hgrow hb4 hown1 hS1
      go_roundw
      case rel => exact ⟨k + 1, by omega, by go_num, by rw [WS.out, hnk]; simpa using hown', hS2, hsz2⟩
      case measure => simp [intOf]; omega
    · obtain rfl : k = k0 := by omega
      by_cases l1 : (k : Int) < many
      · have l2 : ¬ (k : Int) < 1000 := by have := HK.out; omega
        go_wp2
        go_ret
        obtain ⟨A, cap, hv, hR⟩ := reads_own hown
        exact ⟨A, cap, by rw [hv]; rfl, hR, hS.2⟩
      · go_wp2
        go_ret
        obtain ⟨A, cap, hv, hR⟩ := reads_own hown
        exact ⟨A, cap, by rw [hv]; rfl, hR, hS.2⟩
theorem refWalk_any (c : Cfg) (many : Int) (w : World) : Calls Try.prog 16 #[c.val, .int .i64 many] w (GivesI w (walkOf c many)) := refWalk_to c many _ rfl w

end Go.Proofs.Ytjgdoogfoaaejaa
