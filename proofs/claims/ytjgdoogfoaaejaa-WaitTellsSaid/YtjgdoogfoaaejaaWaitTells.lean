/-
  WaitTells, for every input: the law's Go function returns true, and the arguments read afterwards as they read before. No condition beside those that the given statement itself bears. (Printed by mk_waittells.py.)
-/
import Derived.Test.YtjgdoogfoaaejaaRows
import Derived.Test.YtjgdoogfoaaejaaAwake7
import Derived.Test.YtjgdoogfoaaejaaOpen
import Derived.Test.YtjgdoogfoaaejaaPlainW
import Derived.Test.YtjgdoogfoaaejaaOpenW
import Derived.Test.YtjgdoogfoaaejaaOrd
import Derived.Test.YtjgdoogfoaaejaaRefWalk
import Derived.Test.YtjgdoogfoaaejaaRefUntil
import Derived.Test.YtjgdoogfoaaejaaRefMany
namespace Go.Proofs.Ytjgdoogfoaaejaa
open Go Go.ChangeShapes Go.WideShapes Go.ChangeAt Go.RowKit

set_option maxRecDepth 100000 in
set_option maxHeartbeats 20000000 in
theorem waitTells_long (c : Cfg) (n many : Int) (l : List Int) (A : Option Addr) (cap : Nat) (w : World) (h : 60 < l.length) :
    Calls Try.prog 3 #[c.val, .int .i64 n, .int .i64 many, .slice A l.length cap] w fun e w' => e = .returned (.bool true) ∧ Below w.heap.size w w' := by
  have hd : ((60 : Int) < (l.length : Nat)) := by omega
  obtain ⟨log, th, pol, wt, sp, yi, single⟩ := c
  go_enter Try.func3, Try.ntmps3
  go_wp2_with fail
  refine (awake_any _).mono ?_
  rintro e w1 ⟨rfl, hb⟩
  have hS := ((Boxes.nil w 23).add ⟨log, th, pol, wt, sp, yi, single⟩).on hb
  clear hb
  have hB := hS.2
  clear hS
  go_wp2
  go_ret
  exact ⟨rfl, hB⟩

set_option maxRecDepth 100000 in
set_option maxHeartbeats 20000000 in
theorem waitTells_big (c : Cfg) (n many : Int) (l : List Int) (A : Option Addr) (cap : Nat) (w : World) (h : ¬ 60 < l.length) (h2 : 60 < many) :
    Calls Try.prog 3 #[c.val, .int .i64 n, .int .i64 many, .slice A l.length cap] w fun e w' => e = .returned (.bool true) ∧ Below w.heap.size w w' := by
  have hd : ¬ ((60 : Int) < (l.length : Nat)) := by omega
  obtain ⟨log, th, pol, wt, sp, yi, single⟩ := c
  go_enter Try.func3, Try.ntmps3
  go_wp2_with fail
  refine (awake_any _).mono ?_
  rintro e w1 ⟨rfl, hb⟩
  have hS := ((Boxes.nil w 23).add ⟨log, th, pol, wt, sp, yi, single⟩).on hb
  clear hb
  have hB := hS.2
  clear hS
  go_wp2
  go_ret
  exact ⟨rfl, hB⟩

theorem next_max (c : Cfg) (n : Int) : nextOf c (max n 0) = nextOf c n := by
  simp only [nextOf, show max (max n 0) 0 = max n 0 by omega]

set_option maxRecDepth 100000 in
set_option maxHeartbeats 20000000 in
theorem waitTells_neg (c : Cfg) (n many : Int) (l : List Int) (A : Option Addr) (cap : Nat) (w : World) (hwf : ∀ x ∈ l, (Lit.int .i64 x).wf = true) (hR : ReadsI w w.heap.size A l) (h : ¬ 60 < l.length) (h2 : ¬ 60 < many) (hn : n < 0) :
    Calls Try.prog 3 #[c.val, .int .i64 n, .int .i64 many, .slice A l.length cap] w fun e w' => e = .returned (.bool true) ∧ Below w.heap.size w w' := by
  have hd : ¬ ((60 : Int) < (l.length : Nat)) := by omega
  have hd2 : ¬ ((60 : Int) < many) := by omega
  have hl : l.length ≤ 1000 := by omega
  have D1 := fun W => until_any c W
  have D2 := fun W => refUntil_any c W
  have D3 := fun W h => spent_any l A cap W hl hwf h
  have D4 := fun W => next_any c n W
  have D5 := fun W => refNext_any c 0 W (by omega)
  have em : nextOf c 0 = nextOf c n := by
    have := next_max c n
    rwa [show max n 0 = 0 by omega] at this
  rw [em] at D5
  have D6 := fun W => walk_any c many W
  have D7 := fun W => refWalk_any c many W
  have hL : (walkOf c many).length ≤ 1000 := by unfold walkOf; rw [walkTo_length]; omega
  generalize walkOf c many = L at *
  have D8 := fun W A B ca cb (hA : ReadsI W W.heap.size A L) (hB : ReadsI W W.heap.size B L) => ints_at_ (w := W) (A := A) (B := B) (a := L) (b := L) (ca := ca) (cb := cb) true (by omega) (by omega) hA hB (by simp)
  have D9 := fun q W h => refMany_any l A cap q W hl h
  obtain ⟨log, th, pol, wt, sp, yi, single⟩ := c
  generalize nextOf _ n = r at *
  generalize Cfg.tries _ = t at *
  generalize Cfg.parks _ = p at *
  generalize cnts l = cn at *
  clear hl hL hwf h h2 em
  have hR0 := hR.on ((Below.refl w.heap.size w).alloc (Nat.le_refl _) (.cells (Cfg.cells ⟨log, th, pol, wt, sp, yi, single⟩) 23))
  clear hR
  go_enter Try.func3, Try.ntmps3
  go_wp2_with fail
  refine (awake_any _).mono ?_
  rintro e w1 ⟨rfl, hb⟩
  have hS := ((Boxes.nil w 23).add ⟨log, th, pol, wt, sp, yi, single⟩).on hb
  have hR := hR0.on hb
  clear hb hR0
  obtain ⟨c0, c1, c2, c3, c4, c5, c6⟩ := cells7 (hS.at_ (B := w.heap.size) (c := ⟨log, th, pol, wt, sp, yi, single⟩) (by simp))
  go_wp2_with fail
  refine (D1 _).mono ?_
  rintro e w2 ⟨rfl, hb⟩
  replace hS := hS.on hb
  replace hR := hR.on hb
  clear hb c0 c1 c2 c3 c4 c5 c6
  obtain ⟨c0, c1, c2, c3, c4, c5, c6⟩ := cells7 (hS.at_ (B := w.heap.size) (c := ⟨log, th, pol, wt, sp, yi, single⟩) (by simp))
  go_wp2_with fail
  refine (D2 _).mono ?_
  rintro e w3 ⟨rfl, hb⟩
  replace hS := hS.on hb
  replace hR := hR.on hb
  clear hb c0 c1 c2 c3 c4 c5 c6
  go_wp2_with fail
  refine (D3 _ hR).mono ?_
  rintro e w4 ⟨rfl, hb⟩
  replace hS := hS.on hb
  replace hR := hR.on hb
  clear hb D1 D2 D3
  go_wp2
  replace hS := hS.drew
  replace hR := hR.on (Below.refl _ _).drew
  refine wp_region_ord (S := Boxes w [(w.heap.size, ⟨log, th, pol, wt, sp, yi, single⟩)] 23) (by kernel_rfl)
    [(true, 0), (true, 1), (true, 2), (true, 3), (true, 5), (true, 6), (true, 7), (false, 4), (false, 8), (true, 9), (true, 10), (true, 11), (true, 12), (true, 13), (true, 15), (true, 16), (false, 14), (false, 17), (false, 18), (true, 19), (true, 20), (true, 21), (true, 22), (true, 23), (true, 24), (true, 25), (true, 26), (true, 27), (true, 28), (true, 29), (true, 30), (true, 31), (true, 32), (false, 33), (true, 34), (true, 35), (true, 36), (true, 37), (true, 38), (false, 39), (true, 40), (true, 41), (true, 42), (true, 43), (true, 44), (false, 45), (true, 46), (true, 47), (true, 48)]
    (by kernel_rfl) (by kernel_rfl) (by kernel_rfl) (fun _ _ d _ _ h => by cases d <;> exact h) ?_
  simp only [inOrder, List.getElem?_cons_succ, List.getElem?_cons_zero, List.nil_append, List.cons_append]
  repeat (first
    | (refine Ord.idle hS rfl (fun V hV f hf => ?_) (by simp only [Act.put, List.setIfInBounds_toArray, List.set_cons_succ, List.set_cons_zero]; rfl) ?_
       · trivial)
    | (refine Ord.calm (v := ?_) hS rfl (fun V hV => ?_) (fun V hV f hf => ?_) (by simp only [Act.put, List.setIfInBounds_toArray, List.set_cons_succ, List.set_cons_zero]; rfl) ?_
       rotate_left
       · first
         | (go_simp; with_reducible rfl)
         | (obtain ⟨a0, a1, a2, a3, a4, a5, a6⟩ := cells7 (Boxes.at_ (B := w.heap.size) (c := ⟨log, th, pol, wt, sp, yi, single⟩) hV (by simp)); go_simp; with_reducible rfl)
       · trivial))
  refine Ord.only rfl ?_
  go_simp
  refine ⟨trivial, rfl, (callsIn_wide.2 (D4 _)).mono ?_⟩
  rintro e w5 ⟨rfl, hb⟩
  replace hR := hR.on hb
  replace hS := hS.on hb
  refine ⟨hS, ?_⟩
  clear hb D4
  repeat (first
    | (refine Ord.idle hS rfl (fun V hV f hf => ?_) (by simp only [Act.put, List.setIfInBounds_toArray, List.set_cons_succ, List.set_cons_zero]; rfl) ?_
       · trivial)
    | (refine Ord.calm (v := ?_) hS rfl (fun V hV => ?_) (fun V hV f hf => ?_) (by simp only [Act.put, List.setIfInBounds_toArray, List.set_cons_succ, List.set_cons_zero]; rfl) ?_
       rotate_left
       · first
         | (go_simp; with_reducible rfl)
         | (obtain ⟨a0, a1, a2, a3, a4, a5, a6⟩ := cells7 (Boxes.at_ (B := w.heap.size) (c := ⟨log, th, pol, wt, sp, yi, single⟩) hV (by simp)); go_simp; with_reducible rfl)
       · trivial))
  refine Ord.only rfl ?_
  go_simp
  refine ⟨trivial, rfl, (callsIn_wide.2 (D5 _)).mono ?_⟩
  rintro e w6 ⟨rfl, hb⟩
  replace hR := hR.on hb
  replace hS := hS.on hb
  refine ⟨hS, ?_⟩
  clear hb D5
  repeat (first
    | (refine Ord.idle hS rfl (fun V hV f hf => ?_) (by simp only [Act.put, List.setIfInBounds_toArray, List.set_cons_succ, List.set_cons_zero]; rfl) ?_
       · trivial)
    | (refine Ord.calm (v := ?_) hS rfl (fun V hV => ?_) (fun V hV f hf => ?_) (by simp only [Act.put, List.setIfInBounds_toArray, List.set_cons_succ, List.set_cons_zero]; rfl) ?_
       rotate_left
       · first
         | (go_simp; with_reducible rfl)
         | (obtain ⟨a0, a1, a2, a3, a4, a5, a6⟩ := cells7 (Boxes.at_ (B := w.heap.size) (c := ⟨log, th, pol, wt, sp, yi, single⟩) hV (by simp)); go_simp; with_reducible rfl)
       · trivial))
  refine Ord.only rfl ?_
  go_simp
  refine ⟨trivial, rfl, (callsIn_wide.2 (D6 _)).mono ?_⟩
  rintro e w7 ⟨A1, cap1, rfl, hA1, hb⟩
  replace hR := hR.on hb
  replace hS := hS.on hb
  refine ⟨hS, ?_⟩
  clear hb D6
  repeat (first
    | (refine Ord.idle hS rfl (fun V hV f hf => ?_) (by simp only [Act.put, List.setIfInBounds_toArray, List.set_cons_succ, List.set_cons_zero]; rfl) ?_
       · trivial)
    | (refine Ord.calm (v := ?_) hS rfl (fun V hV => ?_) (fun V hV f hf => ?_) (by simp only [Act.put, List.setIfInBounds_toArray, List.set_cons_succ, List.set_cons_zero]; rfl) ?_
       rotate_left
       · first
         | (go_simp; with_reducible rfl)
         | (obtain ⟨a0, a1, a2, a3, a4, a5, a6⟩ := cells7 (Boxes.at_ (B := w.heap.size) (c := ⟨log, th, pol, wt, sp, yi, single⟩) hV (by simp)); go_simp; with_reducible rfl)
       · trivial))
  refine Ord.only rfl ?_
  go_simp
  refine ⟨trivial, rfl, (callsIn_wide.2 (D7 _)).mono ?_⟩
  rintro e w8 ⟨A2, cap2, rfl, hA2, hb⟩
  replace hR := hR.on hb
  replace hA1 := hA1.on hb
  replace hS := hS.on hb
  refine ⟨hS, ?_⟩
  clear hb D7
  repeat (first
    | (refine Ord.idle hS rfl (fun V hV f hf => ?_) (by simp only [Act.put, List.setIfInBounds_toArray, List.set_cons_succ, List.set_cons_zero]; rfl) ?_
       · trivial)
    | (refine Ord.calm (v := ?_) hS rfl (fun V hV => ?_) (fun V hV f hf => ?_) (by simp only [Act.put, List.setIfInBounds_toArray, List.set_cons_succ, List.set_cons_zero]; rfl) ?_
       rotate_left
       · first
         | (go_simp; with_reducible rfl)
         | (obtain ⟨a0, a1, a2, a3, a4, a5, a6⟩ := cells7 (Boxes.at_ (B := w.heap.size) (c := ⟨log, th, pol, wt, sp, yi, single⟩) hV (by simp)); go_simp; with_reducible rfl)
       · trivial))
  refine Ord.only rfl ?_
  go_simp
  refine ⟨trivial, rfl, (callsIn_wide.2 (D8 _ _ _ _ _ hA1 hA2)).mono ?_⟩
  rintro e w9 ⟨rfl, hb⟩
  replace hR := hR.on hb
  replace hS := hS.on hb
  refine ⟨hS, ?_⟩
  clear hb D8 hA1 hA2
  repeat (first
    | (refine Ord.idle hS rfl (fun V hV f hf => ?_) (by simp only [Act.put, List.setIfInBounds_toArray, List.set_cons_succ, List.set_cons_zero]; rfl) ?_
       · trivial)
    | (refine Ord.calm (v := ?_) hS rfl (fun V hV => ?_) (fun V hV f hf => ?_) (by simp only [Act.put, List.setIfInBounds_toArray, List.set_cons_succ, List.set_cons_zero]; rfl) ?_
       rotate_left
       · first
         | (go_simp; with_reducible rfl)
         | (obtain ⟨a0, a1, a2, a3, a4, a5, a6⟩ := cells7 (Boxes.at_ (B := w.heap.size) (c := ⟨log, th, pol, wt, sp, yi, single⟩) hV (by simp)); go_simp; with_reducible rfl)
       · trivial))
  refine Ord.only rfl ?_
  go_simp
  refine ⟨trivial, rfl, (callsIn_wide.2 (D9 0 _ hR)).mono ?_⟩
  rintro e w10 ⟨rfl, hb⟩
  replace hR := hR.on hb
  replace hS := hS.on hb
  refine ⟨hS, ?_⟩
  clear hb 
  repeat (first
    | (refine Ord.idle hS rfl (fun V hV f hf => ?_) (by simp only [Act.put, List.setIfInBounds_toArray, List.set_cons_succ, List.set_cons_zero]; rfl) ?_
       · trivial)
    | (refine Ord.calm (v := ?_) hS rfl (fun V hV => ?_) (fun V hV f hf => ?_) (by simp only [Act.put, List.setIfInBounds_toArray, List.set_cons_succ, List.set_cons_zero]; rfl) ?_
       rotate_left
       · first
         | (go_simp; with_reducible rfl)
         | (obtain ⟨a0, a1, a2, a3, a4, a5, a6⟩ := cells7 (Boxes.at_ (B := w.heap.size) (c := ⟨log, th, pol, wt, sp, yi, single⟩) hV (by simp)); go_simp; with_reducible rfl)
       · trivial))
  refine Ord.only rfl ?_
  go_simp
  refine ⟨trivial, rfl, (callsIn_wide.2 (D9 1 _ hR)).mono ?_⟩
  rintro e w11 ⟨rfl, hb⟩
  replace hR := hR.on hb
  replace hS := hS.on hb
  refine ⟨hS, ?_⟩
  clear hb 
  repeat (first
    | (refine Ord.idle hS rfl (fun V hV f hf => ?_) (by simp only [Act.put, List.setIfInBounds_toArray, List.set_cons_succ, List.set_cons_zero]; rfl) ?_
       · trivial)
    | (refine Ord.calm (v := ?_) hS rfl (fun V hV => ?_) (fun V hV f hf => ?_) (by simp only [Act.put, List.setIfInBounds_toArray, List.set_cons_succ, List.set_cons_zero]; rfl) ?_
       rotate_left
       · first
         | (go_simp; with_reducible rfl)
         | (obtain ⟨a0, a1, a2, a3, a4, a5, a6⟩ := cells7 (Boxes.at_ (B := w.heap.size) (c := ⟨log, th, pol, wt, sp, yi, single⟩) hV (by simp)); go_simp; with_reducible rfl)
       · trivial))
  refine Ord.only rfl ?_
  go_simp
  refine ⟨trivial, rfl, (callsIn_wide.2 (D9 2 _ hR)).mono ?_⟩
  rintro e w12 ⟨rfl, hb⟩
  replace hR := hR.on hb
  replace hS := hS.on hb
  refine ⟨hS, ?_⟩
  clear hb D9
  repeat (first
    | (refine Ord.idle hS rfl (fun V hV f hf => ?_) (by simp only [Act.put, List.setIfInBounds_toArray, List.set_cons_succ, List.set_cons_zero]; rfl) ?_
       · trivial)
    | (refine Ord.calm (v := ?_) hS rfl (fun V hV => ?_) (fun V hV f hf => ?_) (by simp only [Act.put, List.setIfInBounds_toArray, List.set_cons_succ, List.set_cons_zero]; rfl) ?_
       rotate_left
       · first
         | (go_simp; with_reducible rfl)
         | (obtain ⟨a0, a1, a2, a3, a4, a5, a6⟩ := cells7 (Boxes.at_ (B := w.heap.size) (c := ⟨log, th, pol, wt, sp, yi, single⟩) hV (by simp)); go_simp; with_reducible rfl)
       · trivial))
  simp only [Ord, Exit.then]
  have hB := hS.2
  clear hS hR
  go_wp2
  go_ret
  exact ⟨rfl, hB⟩

set_option maxRecDepth 100000 in
set_option maxHeartbeats 20000000 in
theorem waitTells_pos (c : Cfg) (n many : Int) (l : List Int) (A : Option Addr) (cap : Nat) (w : World) (hwf : ∀ x ∈ l, (Lit.int .i64 x).wf = true) (hR : ReadsI w w.heap.size A l) (h : ¬ 60 < l.length) (h2 : ¬ 60 < many) (hn : ¬ n < 0) :
    Calls Try.prog 3 #[c.val, .int .i64 n, .int .i64 many, .slice A l.length cap] w fun e w' => e = .returned (.bool true) ∧ Below w.heap.size w w' := by
  have hd : ¬ ((60 : Int) < (l.length : Nat)) := by omega
  have hd2 : ¬ ((60 : Int) < many) := by omega
  have hl : l.length ≤ 1000 := by omega
  have D1 := fun W => until_any c W
  have D2 := fun W => refUntil_any c W
  have D3 := fun W h => spent_any l A cap W hl hwf h
  have D4 := fun W => next_any c n W
  have D5 := fun W => refNext_any c n W (by omega)
  have D6 := fun W => walk_any c many W
  have D7 := fun W => refWalk_any c many W
  have hL : (walkOf c many).length ≤ 1000 := by unfold walkOf; rw [walkTo_length]; omega
  generalize walkOf c many = L at *
  have D8 := fun W A B ca cb (hA : ReadsI W W.heap.size A L) (hB : ReadsI W W.heap.size B L) => ints_at_ (w := W) (A := A) (B := B) (a := L) (b := L) (ca := ca) (cb := cb) true (by omega) (by omega) hA hB (by simp)
  have D9 := fun q W h => refMany_any l A cap q W hl h
  obtain ⟨log, th, pol, wt, sp, yi, single⟩ := c
  generalize nextOf _ n = r at *
  generalize Cfg.tries _ = t at *
  generalize Cfg.parks _ = p at *
  generalize cnts l = cn at *
  clear hl hL hwf h h2
  have hR0 := hR.on ((Below.refl w.heap.size w).alloc (Nat.le_refl _) (.cells (Cfg.cells ⟨log, th, pol, wt, sp, yi, single⟩) 23))
  clear hR
  go_enter Try.func3, Try.ntmps3
  go_wp2_with fail
  refine (awake_any _).mono ?_
  rintro e w1 ⟨rfl, hb⟩
  have hS := ((Boxes.nil w 23).add ⟨log, th, pol, wt, sp, yi, single⟩).on hb
  have hR := hR0.on hb
  clear hb hR0
  obtain ⟨c0, c1, c2, c3, c4, c5, c6⟩ := cells7 (hS.at_ (B := w.heap.size) (c := ⟨log, th, pol, wt, sp, yi, single⟩) (by simp))
  go_wp2_with fail
  refine (D1 _).mono ?_
  rintro e w2 ⟨rfl, hb⟩
  replace hS := hS.on hb
  replace hR := hR.on hb
  clear hb c0 c1 c2 c3 c4 c5 c6
  obtain ⟨c0, c1, c2, c3, c4, c5, c6⟩ := cells7 (hS.at_ (B := w.heap.size) (c := ⟨log, th, pol, wt, sp, yi, single⟩) (by simp))
  go_wp2_with fail
  refine (D2 _).mono ?_
  rintro e w3 ⟨rfl, hb⟩
  replace hS := hS.on hb
  replace hR := hR.on hb
  clear hb c0 c1 c2 c3 c4 c5 c6
  go_wp2_with fail
  refine (D3 _ hR).mono ?_
  rintro e w4 ⟨rfl, hb⟩
  replace hS := hS.on hb
  replace hR := hR.on hb
  clear hb D1 D2 D3
  go_wp2
  replace hS := hS.drew
  replace hR := hR.on (Below.refl _ _).drew
  have hn2 : ¬ n < 0 := by omega
  have hn3 : (if n < 0 then 0 else n) = n := if_neg hn2
  refine wp_region_ord (S := Boxes w [(w.heap.size, ⟨log, th, pol, wt, sp, yi, single⟩)] 23) (by kernel_rfl)
    [(true, 0), (true, 1), (true, 2), (true, 3), (true, 5), (true, 6), (true, 7), (false, 4), (false, 8), (true, 9), (true, 10), (true, 11), (true, 12), (true, 13), (true, 15), (true, 16), (false, 14), (false, 17), (false, 18), (true, 19), (true, 20), (true, 21), (true, 22), (true, 23), (true, 24), (true, 25), (true, 26), (true, 27), (true, 28), (true, 29), (true, 30), (true, 31), (true, 32), (false, 33), (true, 34), (true, 35), (true, 36), (true, 37), (true, 38), (false, 39), (true, 40), (true, 41), (true, 42), (true, 43), (true, 44), (false, 45), (true, 46), (true, 47), (true, 48)]
    (by kernel_rfl) (by kernel_rfl) (by kernel_rfl) (fun _ _ d _ _ h => by cases d <;> exact h) ?_
  simp only [inOrder, List.getElem?_cons_succ, List.getElem?_cons_zero, List.nil_append, List.cons_append]
  repeat (first
    | (refine Ord.idle hS rfl (fun V hV f hf => ?_) (by simp only [Act.put, List.setIfInBounds_toArray, List.set_cons_succ, List.set_cons_zero]; rfl) ?_
       · trivial)
    | (refine Ord.calm (v := ?_) hS rfl (fun V hV => ?_) (fun V hV f hf => ?_) (by simp only [Act.put, List.setIfInBounds_toArray, List.set_cons_succ, List.set_cons_zero]; rfl) ?_
       rotate_left
       · first
         | (go_simp; with_reducible rfl)
         | (obtain ⟨a0, a1, a2, a3, a4, a5, a6⟩ := cells7 (Boxes.at_ (B := w.heap.size) (c := ⟨log, th, pol, wt, sp, yi, single⟩) hV (by simp)); go_simp; with_reducible rfl)
       · trivial))
  refine Ord.only rfl ?_
  go_simp
  refine ⟨trivial, rfl, (callsIn_wide.2 (D4 _)).mono ?_⟩
  rintro e w5 ⟨rfl, hb⟩
  replace hR := hR.on hb
  replace hS := hS.on hb
  refine ⟨hS, ?_⟩
  clear hb D4
  repeat (first
    | (refine Ord.idle hS rfl (fun V hV f hf => ?_) (by simp only [Act.put, List.setIfInBounds_toArray, List.set_cons_succ, List.set_cons_zero]; rfl) ?_
       · trivial)
    | (refine Ord.calm (v := ?_) hS rfl (fun V hV => ?_) (fun V hV f hf => ?_) (by simp only [Act.put, List.setIfInBounds_toArray, List.set_cons_succ, List.set_cons_zero]; rfl) ?_
       rotate_left
       · first
         | (go_simp; with_reducible rfl)
         | (obtain ⟨a0, a1, a2, a3, a4, a5, a6⟩ := cells7 (Boxes.at_ (B := w.heap.size) (c := ⟨log, th, pol, wt, sp, yi, single⟩) hV (by simp)); go_simp; with_reducible rfl)
       · trivial))
  refine Ord.only rfl ?_
  go_simp
  refine ⟨trivial, rfl, (callsIn_wide.2 (D5 _)).mono ?_⟩
  rintro e w6 ⟨rfl, hb⟩
  replace hR := hR.on hb
  replace hS := hS.on hb
  refine ⟨hS, ?_⟩
  clear hb D5
  repeat (first
    | (refine Ord.idle hS rfl (fun V hV f hf => ?_) (by simp only [Act.put, List.setIfInBounds_toArray, List.set_cons_succ, List.set_cons_zero]; rfl) ?_
       · trivial)
    | (refine Ord.calm (v := ?_) hS rfl (fun V hV => ?_) (fun V hV f hf => ?_) (by simp only [Act.put, List.setIfInBounds_toArray, List.set_cons_succ, List.set_cons_zero]; rfl) ?_
       rotate_left
       · first
         | (go_simp; with_reducible rfl)
         | (obtain ⟨a0, a1, a2, a3, a4, a5, a6⟩ := cells7 (Boxes.at_ (B := w.heap.size) (c := ⟨log, th, pol, wt, sp, yi, single⟩) hV (by simp)); go_simp; with_reducible rfl)
       · trivial))
  refine Ord.only rfl ?_
  go_simp
  refine ⟨trivial, rfl, (callsIn_wide.2 (D6 _)).mono ?_⟩
  rintro e w7 ⟨A1, cap1, rfl, hA1, hb⟩
  replace hR := hR.on hb
  replace hS := hS.on hb
  refine ⟨hS, ?_⟩
  clear hb D6
  repeat (first
    | (refine Ord.idle hS rfl (fun V hV f hf => ?_) (by simp only [Act.put, List.setIfInBounds_toArray, List.set_cons_succ, List.set_cons_zero]; rfl) ?_
       · trivial)
    | (refine Ord.calm (v := ?_) hS rfl (fun V hV => ?_) (fun V hV f hf => ?_) (by simp only [Act.put, List.setIfInBounds_toArray, List.set_cons_succ, List.set_cons_zero]; rfl) ?_
       rotate_left
       · first
         | (go_simp; with_reducible rfl)
         | (obtain ⟨a0, a1, a2, a3, a4, a5, a6⟩ := cells7 (Boxes.at_ (B := w.heap.size) (c := ⟨log, th, pol, wt, sp, yi, single⟩) hV (by simp)); go_simp; with_reducible rfl)
       · trivial))
  refine Ord.only rfl ?_
  go_simp
  refine ⟨trivial, rfl, (callsIn_wide.2 (D7 _)).mono ?_⟩
  rintro e w8 ⟨A2, cap2, rfl, hA2, hb⟩
  replace hR := hR.on hb
  replace hA1 := hA1.on hb
  replace hS := hS.on hb
  refine ⟨hS, ?_⟩
  clear hb D7
  repeat (first
    | (refine Ord.idle hS rfl (fun V hV f hf => ?_) (by simp only [Act.put, List.setIfInBounds_toArray, List.set_cons_succ, List.set_cons_zero]; rfl) ?_
       · trivial)
    | (refine Ord.calm (v := ?_) hS rfl (fun V hV => ?_) (fun V hV f hf => ?_) (by simp only [Act.put, List.setIfInBounds_toArray, List.set_cons_succ, List.set_cons_zero]; rfl) ?_
       rotate_left
       · first
         | (go_simp; with_reducible rfl)
         | (obtain ⟨a0, a1, a2, a3, a4, a5, a6⟩ := cells7 (Boxes.at_ (B := w.heap.size) (c := ⟨log, th, pol, wt, sp, yi, single⟩) hV (by simp)); go_simp; with_reducible rfl)
       · trivial))
  refine Ord.only rfl ?_
  go_simp
  refine ⟨trivial, rfl, (callsIn_wide.2 (D8 _ _ _ _ _ hA1 hA2)).mono ?_⟩
  rintro e w9 ⟨rfl, hb⟩
  replace hR := hR.on hb
  replace hS := hS.on hb
  refine ⟨hS, ?_⟩
  clear hb D8 hA1 hA2
  repeat (first
    | (refine Ord.idle hS rfl (fun V hV f hf => ?_) (by simp only [Act.put, List.setIfInBounds_toArray, List.set_cons_succ, List.set_cons_zero]; rfl) ?_
       · trivial)
    | (refine Ord.calm (v := ?_) hS rfl (fun V hV => ?_) (fun V hV f hf => ?_) (by simp only [Act.put, List.setIfInBounds_toArray, List.set_cons_succ, List.set_cons_zero]; rfl) ?_
       rotate_left
       · first
         | (go_simp; with_reducible rfl)
         | (obtain ⟨a0, a1, a2, a3, a4, a5, a6⟩ := cells7 (Boxes.at_ (B := w.heap.size) (c := ⟨log, th, pol, wt, sp, yi, single⟩) hV (by simp)); go_simp; with_reducible rfl)
       · trivial))
  refine Ord.only rfl ?_
  go_simp
  refine ⟨trivial, rfl, (callsIn_wide.2 (D9 0 _ hR)).mono ?_⟩
  rintro e w10 ⟨rfl, hb⟩
  replace hR := hR.on hb
  replace hS := hS.on hb
  refine ⟨hS, ?_⟩
  clear hb 
  repeat (first
    | (refine Ord.idle hS rfl (fun V hV f hf => ?_) (by simp only [Act.put, List.setIfInBounds_toArray, List.set_cons_succ, List.set_cons_zero]; rfl) ?_
       · trivial)
    | (refine Ord.calm (v := ?_) hS rfl (fun V hV => ?_) (fun V hV f hf => ?_) (by simp only [Act.put, List.setIfInBounds_toArray, List.set_cons_succ, List.set_cons_zero]; rfl) ?_
       rotate_left
       · first
         | (go_simp; with_reducible rfl)
         | (obtain ⟨a0, a1, a2, a3, a4, a5, a6⟩ := cells7 (Boxes.at_ (B := w.heap.size) (c := ⟨log, th, pol, wt, sp, yi, single⟩) hV (by simp)); go_simp; with_reducible rfl)
       · trivial))
  refine Ord.only rfl ?_
  go_simp
  refine ⟨trivial, rfl, (callsIn_wide.2 (D9 1 _ hR)).mono ?_⟩
  rintro e w11 ⟨rfl, hb⟩
  replace hR := hR.on hb
  replace hS := hS.on hb
  refine ⟨hS, ?_⟩
  clear hb 
  repeat (first
    | (refine Ord.idle hS rfl (fun V hV f hf => ?_) (by simp only [Act.put, List.setIfInBounds_toArray, List.set_cons_succ, List.set_cons_zero]; rfl) ?_
       · trivial)
    | (refine Ord.calm (v := ?_) hS rfl (fun V hV => ?_) (fun V hV f hf => ?_) (by simp only [Act.put, List.setIfInBounds_toArray, List.set_cons_succ, List.set_cons_zero]; rfl) ?_
       rotate_left
       · first
         | (go_simp; with_reducible rfl)
         | (obtain ⟨a0, a1, a2, a3, a4, a5, a6⟩ := cells7 (Boxes.at_ (B := w.heap.size) (c := ⟨log, th, pol, wt, sp, yi, single⟩) hV (by simp)); go_simp; with_reducible rfl)
       · trivial))
  refine Ord.only rfl ?_
  go_simp
  refine ⟨trivial, rfl, (callsIn_wide.2 (D9 2 _ hR)).mono ?_⟩
  rintro e w12 ⟨rfl, hb⟩
  replace hR := hR.on hb
  replace hS := hS.on hb
  refine ⟨hS, ?_⟩
  clear hb D9
  repeat (first
    | (refine Ord.idle hS rfl (fun V hV f hf => ?_) (by simp only [Act.put, List.setIfInBounds_toArray, List.set_cons_succ, List.set_cons_zero]; rfl) ?_
       · trivial)
    | (refine Ord.calm (v := ?_) hS rfl (fun V hV => ?_) (fun V hV f hf => ?_) (by simp only [Act.put, List.setIfInBounds_toArray, List.set_cons_succ, List.set_cons_zero]; rfl) ?_
       rotate_left
       · first
         | (go_simp; with_reducible rfl)
         | (obtain ⟨a0, a1, a2, a3, a4, a5, a6⟩ := cells7 (Boxes.at_ (B := w.heap.size) (c := ⟨log, th, pol, wt, sp, yi, single⟩) hV (by simp)); go_simp; with_reducible rfl)
       · trivial))
  simp only [Ord, Exit.then]
  have hB := hS.2
  clear hS hR
  go_wp2
  go_ret
  exact ⟨rfl, hB⟩

theorem waitTells_walk (c : Cfg) (n many : Int) (l : List Int) (A : Option Addr) (cap : Nat) (w : World) (hwf : ∀ x ∈ l, (Lit.int .i64 x).wf = true) (hR : ReadsI w w.heap.size A l) : Calls Try.prog 3 #[c.val, .int .i64 n, .int .i64 many, .slice A l.length cap] w fun e w' => e = .returned (.bool true) ∧ Below w.heap.size w w' := by
  by_cases h : 60 < l.length
  · exact waitTells_long c n many l A cap w h
  · by_cases h2 : 60 < many
    · exact waitTells_big c n many l A cap w h h2
    · by_cases hn : n < 0
      · exact waitTells_neg c n many l A cap w hwf hR h h2 hn
      · exact waitTells_pos c n many l A cap w hwf hR h h2 hn

/-! ### The row -/
set_option maxRecDepth 100000 in
theorem waitTells_lifted (os : Os) (started : os.Started) (H : Type) (enc : TypeId × Value → H) :
    ReturnsInHanded {} Try.checked os 3 .any (Rows.waitTellsSpec.pre6 enc Try.prog Try.f3 Rows.waitTellsRow.domain false) (Rows.waitTellsSpec.post enc Try.prog Try.f3 false true false false) := by
  refine returnsInHanded_of_change (C := Try.checked) own started (by kernel_rfl) Try.func3
    (ChangeSpec.witness6 (enc := enc) (C := Try.checked) false ⟨#[], #[.agg #[.int .i64 0, .int .i64 0, .int .i64 0, .int .i64 0, .int .i64 0, .int .i64 0, .bool false], .int .i64 0, .int .i64 0, .slice none 0 0], []⟩ 8 (by kernel_rfl) (by kernel_rfl) (by kernel_rfl) (by kernel_rfl)) ?_
  intro W base args ds gs before hval0 hW hcnd _
  have hval : ∀ (j : Nat) t v, Try.f3.params[j]? = some t → args[j]? = some v → Value.okWide Try.prog W .any base t v := hval0
  have hW' := hW
  obtain ⟨p, q, hA0, hV, rfl, hfz, hnd⟩ := hW
  have hA : DataW.TrodAll enc Try.prog W 0 (fun _ => true) true Try.f3.params.toList args.toList ds p := hA0
  rw [Try.params3] at hA hval
  obtain ⟨v0, vs0, d0, ds0, p0, q0, hargs, rfl, rfl, h0, r0⟩ := trodAll_cons hA
  obtain ⟨v1, vs1, d1, ds1, p1, q1, rfl, rfl, rfl, h1, r1⟩ := trodAll_cons r0
  obtain ⟨v2, vs2, d2, ds2, p2, q2, rfl, rfl, rfl, h2, r2⟩ := trodAll_cons r1
  obtain ⟨v3, vs3, d3, ds3, p3, q3, rfl, rfl, rfl, h3, r3⟩ := trodAll_cons r2
  obtain ⟨rfl, rfl, rfl⟩ := trodAll_nil r3
  obtain rfl : args = #[v0, v1, v2, v3] := by cases args; simp_all
  obtain ⟨rfl, rfl⟩ := trodVars_none hV
  have k0 := h0
  have lt0 : ∀ x ∈ p0, x.block < W.heap.size := by obtain ⟨m, hm⟩ := k0; exact DataW.trod_lt m _ _ _ hm
  obtain ⟨c0, rfl, w0⟩ := open_cfg (hval 0 23 v0 rfl rfl) h0
  obtain ⟨a1, rfl, rfl, rfl, w1⟩ := open_int Try.underlying3 (hval 1 3 v1 rfl rfl) h1
  obtain ⟨a2, rfl, rfl, rfl, w2⟩ := open_int Try.underlying3 (hval 2 3 v2 rfl rfl) h2
  have k3 := h3
  have lt3 : ∀ x ∈ p3, x.block < W.heap.size := by obtain ⟨m, hm⟩ := k3; exact DataW.trod_lt m _ _ _ hm
  obtain ⟨A3, len3, cap3, rfl⟩ := okWide_slice Try.underlying24 (hval 3 24 v3 rfl rfl)
  obtain ⟨l3, w3, wf3, wr3⟩ : ∃ l : List Int, l.length = len3 ∧ (∀ x ∈ l, (Lit.int .i64 x).wf = true) ∧ ReadsI W W.heap.size A3 l := by obtain ⟨fuel, hf⟩ := h3; exact open_nums_wf hf
  subst w3
  clear hA0 hval0
  refine (waitTells_walk c0 a1 a2 l3 A3 cap3 W wf3 wr3).mono fun e W' ⟨he, bel⟩ => ?_
  subst he
  exact ⟨_, rfl, _, _, _, [], _, [], hW', trodAll_mk1 (shut_bool Try.underlying4 _), (trodAll_cons_mk (Below.trod laidOut (by kernel_rfl) (of_decide_eq_true (by kernel_rfl)) k0 bel lt0) (trodAll_cons_mk (shut_int Try.underlying3 w1) (trodAll_cons_mk (shut_int Try.underlying3 w2) (trodAll_cons_mk (Below.trod laidOut (by kernel_rfl) (of_decide_eq_true (by kernel_rfl)) k3 bel lt3) trodAll_mk0)))), rfl, bel.frame _, fun h => by cases h⟩

theorem waitTells_over : Rows.waitTellsRow.holds Try.pinned (OpenSpec.ofChange Rows.waitTellsSpec) :=
  OpenClaim.holds_of_wide 3 Try.f3 rfl rfl rfl rfl rfl rfl rfl ⟨rfl, rfl, rfl, rfl, rfl⟩ rfl rfl rfl rfl rfl (by kernel_rfl) Try.func3 (by kernel_rfl)
    (of_decide_eq_true (by kernel_rfl)) (by unfold Func.isWrapper; first | (rw [if_pos (by decide +kernel)]; kernel_rfl) | (rw [if_neg (by decide +kernel)]; exact ⟨rfl, rfl⟩))
    (fun os started H enc _ => waitTells_lifted os started H enc)

/-- The statement. -/
theorem waitTells_holds : Rows.WaitTellsSaid := waitTells_over
#print axioms waitTells_holds

end Go.Proofs.Ytjgdoogfoaaejaa
