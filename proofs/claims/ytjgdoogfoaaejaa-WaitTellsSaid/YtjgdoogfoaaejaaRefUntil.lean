/-
  DERIVED. sakiaref07's functions: the document's answer for layer 7. (Printed by mk_ref07.py.)
-/
import Derived.Test.YtjgdoogfoaaejaaPlainW
import Derived.Test.YtjgdoogfoaaejaaRefNext
namespace Go.Proofs.Ytjgdoogfoaaejaa
open Go Go.RowKit Go.Shelf

set_option maxRecDepth 100000 in
set_option maxHeartbeats 4000000 in
theorem refUntil_any (c : Cfg) (w : World) : Calls Try.prog 10 #[c.val] w fun e w' => e = .returned (.tuple #[.int .i64 c.tries, .bool c.parks]) ∧ Below w.heap.size w w' := by
  have N := fun (i : Nat) W => refNext_any c i W (by omega)
  have NP := fun (i : Nat) => next_parks c i
  have TL := tries_low c
  have TN := fun h => tries_no (c := c) h
  have hS0 := (Boxes.nil w 23).add c
  generalize hno : nextOf c = no at *
  obtain ⟨log, th, pol, wt, sp, yi, single⟩ := c
  generalize Cfg.tries _ = t at *
  generalize Cfg.parks _ = b at *
  have NP' := Lib.hid NP
  have TL' := Lib.hid TL
  have TN' := Lib.hid TN
  clear NP TL TN hno
  go_enter Try.func10, Try.ntmps10
  go_wp2
  go_loopw [4] (fun i wr => ∃ k : Nat, k ≤ 20 ∧ i = .int .i64 k ∧ Hid (b = true → (k : Int) ≤ t) ∧ Boxes w [(w.heap.size, ⟨log, th, pol, wt, sp, yi, single⟩)] 23 wr) (fun i _ => 20 - (intOf i).toNat)
  case atStart => exact ⟨0, Nat.zero_le _, rfl, Lib.hid (fun _ => TL'.out.1), hS0⟩
  case round =>
    obtain ⟨k, hk, rfl, hb, hS⟩ := hrel
    clear hS0
    by_cases hlt : k < 20
    · obtain ⟨c0, c1, c2, c3, c4, c5, c6⟩ := cells7 (hS.at_ (B := w.heap.size) (c := ⟨log, th, pol, wt, sp, yi, single⟩) (by simp))
      go_wp2_with fail
      refine (N _ _).mono ?_
      rintro e w1 ⟨rfl, hb1⟩
      replace hS := hS.on hb1
      have np := Lib.hid (NP'.out k)
      have hm : max (k : Int) 0 = k := by omega
      generalize no (k : Int) = x at *
      clear hb1 c0 c1 c2 c3 c4 c5 c6 N
      by_cases hx : x = 2
      · have h1 := np.out.1 hx
        rw [hm] at h1
        have h2 := hb.out h1.1
        have h3 := Lib.hid (show t = (k : Int) by omega)
        have h4 := Lib.hid h1.1
        subst hx
        clear h1 h2 hm np hb
        have hB := hS.2
        clear hS
        go_wp2
        try rw [Exit.noGoto_ret]
        go_ret2
        exact ⟨by rw [h3.out, h4.out]; rfl, hB⟩
      · have hx' : (x == 2) = false := by simpa using hx
        have h1 := Lib.hid (show b = true → ((k : Int) + 1 ≤ t) from fun h => by
          have h2 := hb.out h
          have h3 : ¬ t ≤ max (k : Int) 0 := fun h4 => hx (np.out.2 ⟨h, h4⟩)
          rw [hm] at h3
          omega)
        clear hm np hb hx
        go_wp2
        go_roundw
        case rel => exact ⟨k + 1, by omega, by go_num, Lib.hid (fun h => by have := h1.out h; push_cast; omega), hS⟩
        case measure => simp [intOf]; omega
    · obtain rfl : k = 20 := by omega
      have hbf : b = false := by
        cases hq : b with
        | false => rfl
        | true =>
          have h1 := hb.out hq
          have h2 := TL'.out.2
          omega
      have ht := Lib.hid (TN'.out hbf)
      have hbf' := Lib.hid hbf
      have hB := hS.2
      clear hbf hS hb
      go_wp2
      try rw [Exit.noGoto_ret]
      go_ret2
      exact ⟨by rw [ht.out, hbf'.out]; rfl, hB⟩

end Go.Proofs.Ytjgdoogfoaaejaa
