/-
  ConfAlike, for every two configurations: the law's Go function returns true, and the arguments read afterwards as they read before. No condition beside those that the given statement itself bears. (Printed by mk_confalike.py.)
-/
import Derived.Test.YtolkmpfnomeklaaRows
import Derived.Test.YtolkmpfnomeklaaOpen
import Derived.Test.YtolkmpfnomeklaaOrd
namespace Go.Proofs.Ytolkmpfnomeklaa
open Go Go.ChangeShapes Go.WideShapes Go.ChangeAt Go.RowKit

/-- Boxes of the call's own. -/
def Boxes (w : World) (l : List (Nat × Cfg)) (t : TypeId) (W : World) : Prop :=
  (∀ p ∈ l, W.heap[p.1]? = some (.cells p.2.cells t (0, 0))) ∧ Below w.heap.size w W
theorem Boxes.on {w : World} {l : List (Nat × Cfg)} {t : TypeId} {W V : World} (h : Boxes w l t W) (hb : Below W.heap.size W V) : Boxes w l t V :=
  ⟨fun p hp => (hb.block _ (Array.getElem?_eq_some_iff.1 (h.1 p hp)).1).trans (h.1 p hp), h.2.trans (hb.mono h.2.size)⟩
theorem Boxes.drew {w : World} {l : List (Nat × Cfg)} {t : TypeId} {W : World} (h : Boxes w l t W) : Boxes w l t W.drew := ⟨h.1, h.2.drew⟩
theorem Boxes.add {w : World} {l : List (Nat × Cfg)} {t : TypeId} {W : World} (h : Boxes w l t W) (c : Cfg) : Boxes w ((W.heap.size, c) :: l) t (W.alloc (.cells c.cells t)) :=
  ⟨fun p hp => by
    rcases List.mem_cons.1 hp with rfl | hp
    · exact World.alloc_heap_new W _
    · exact (Below.heap_alloc _ _ _ (Array.getElem?_eq_some_iff.1 (h.1 p hp)).1).trans (h.1 p hp), h.2.alloc h.2.size _⟩
theorem Boxes.at_ {w : World} {l : List (Nat × Cfg)} {t : TypeId} {W : World} (h : Boxes w l t W) {B : Nat} {c : Cfg} (hm : (B, c) ∈ l) : W.heap[B]? = some (.cells c.cells t (0, 0)) := h.1 _ hm
theorem Boxes.nil (w : World) (t : TypeId) : Boxes w [] t w := ⟨(fun _ h => by cases h), Below.refl _ _⟩

set_option maxRecDepth 100000 in
set_option maxHeartbeats 4000000 in
theorem confAlike_no (c d : Cfg) (w : World) (h : c.ok = false) : Calls Try.prog 8 #[c.val, d.val] w fun e w' => e = .returned (.bool true) ∧ Below w.heap.size w w' := by
  obtain ⟨log, th, pol, wt, sp, yi, single⟩ := c
  obtain ⟨log2, th2, pol2, wt2, sp2, yi2, single2⟩ := d
  have C1 := fun W => check_no _ W h
  clear h
  go_enter Try.func8, Try.ntmps8
  go_wp2_with fail
  refine (awake_any _).mono ?_
  rintro e w1 ⟨rfl, hb⟩
  have hS0 := (((Boxes.nil w 23).add ⟨log, th, pol, wt, sp, yi, single⟩).add ⟨log2, th2, pol2, wt2, sp2, yi2, single2⟩).on hb
  rw [World.size_alloc] at hS0
  clear hb
  obtain ⟨c0, c1, c2, c3, c4, c5, c6⟩ := cells7 (hS0.at_ (B := w.heap.size) (c := ⟨log, th, pol, wt, sp, yi, single⟩) (by simp))
  obtain ⟨d0, d1, d2, d3, d4, d5, d6⟩ := cells7 (hS0.at_ (B := w.heap.size + 1) (c := ⟨log2, th2, pol2, wt2, sp2, yi2, single2⟩) (by simp))
  have hlt := (Array.getElem?_eq_some_iff.1 (hS0.at_ (B := w.heap.size + 1) (c := ⟨log2, th2, pol2, wt2, sp2, yi2, single2⟩) (by simp))).1
  have hn0 : w.heap.size < w1.heap.size := by omega
  have hn1 : w.heap.size < w1.heap.size + 1 := by omega
  have hn2 : w.heap.size + 1 < w1.heap.size + 1 := by omega
  have hp1 : w.heap.size ≤ w1.heap.size := by omega
  have hp2 : w.heap.size + 1 ≤ w1.heap.size := by omega
  go_wp2
  have hS : Boxes w [(w1.heap.size + 1, ⟨log, wrap64 (th + 1), pol, wt, sp, yi, single⟩), (w1.heap.size, ⟨log, th2, pol2, wt2, sp2, yi2, single2⟩), (w.heap.size + 1, ⟨log2, th2, pol2, wt2, sp2, yi2, single2⟩), (w.heap.size, ⟨log, th, pol, wt, sp, yi, single⟩)] 23 ((w1.alloc (.cells (Cfg.cells ⟨log, th2, pol2, wt2, sp2, yi2, single2⟩) 23)).alloc (.cells (Cfg.cells ⟨log, wrap64 (th + 1), pol, wt, sp, yi, single⟩) 23)).drew := by
    have h := ((hS0.add ⟨log, th2, pol2, wt2, sp2, yi2, single2⟩).add ⟨log, wrap64 (th + 1), pol, wt, sp, yi, single⟩).drew
    rwa [World.size_alloc] at h
  clear hS0 hlt hn0 hn1 hn2 hp1 hp2 c0 c1 c2 c3 c4 c5 c6 d0 d1 d2 d3 d4 d5 d6
  refine wp_region_ord (S := Boxes w [(w1.heap.size + 1, ⟨log, wrap64 (th + 1), pol, wt, sp, yi, single⟩), (w1.heap.size, ⟨log, th2, pol2, wt2, sp2, yi2, single2⟩), (w.heap.size + 1, ⟨log2, th2, pol2, wt2, sp2, yi2, single2⟩), (w.heap.size, ⟨log, th, pol, wt, sp, yi, single⟩)] 23) (by kernel_rfl)
    [(true, 0), (false, 1), (true, 2), (true, 3), (true, 4), (false, 5), (true, 6), (true, 7), (true, 8), (true, 9), (true, 11), (false, 10), (false, 12), (true, 13), (true, 14), (true, 15)]
    (by kernel_rfl) (by kernel_rfl) (by kernel_rfl) (fun _ _ d _ _ h => by cases d <;> exact h) ?_
  simp only [inOrder, List.getElem?_cons_succ, List.getElem?_cons_zero, List.nil_append, List.cons_append]
  repeat (first
    | (refine Ord.idle hS rfl (fun V hV f hf => ?_) (by simp only [Act.put, List.setIfInBounds_toArray, List.set_cons_succ, List.set_cons_zero]; rfl) ?_
       · trivial)
    | (refine Ord.calm (v := ?_) hS rfl (fun V hV => ?_) (fun V hV f hf => ?_) (by simp only [Act.put, List.setIfInBounds_toArray, List.set_cons_succ, List.set_cons_zero]; rfl) ?_
       rotate_left
       · first
         | (go_simp; with_reducible rfl)
         | (obtain ⟨a0, a1, a2, a3, a4, a5, a6⟩ := cells7 (Boxes.at_ (B := w.heap.size) (c := ⟨log, th, pol, wt, sp, yi, single⟩) hV (by simp)); obtain ⟨b0, b1, b2, b3, b4, b5, b6⟩ := cells7 (Boxes.at_ (B := w1.heap.size) (c := ⟨log, th2, pol2, wt2, sp2, yi2, single2⟩) hV (by simp)); obtain ⟨d0, d1, d2, d3, d4, d5, d6⟩ := cells7 (Boxes.at_ (B := w1.heap.size + 1) (c := ⟨log, wrap64 (th + 1), pol, wt, sp, yi, single⟩) hV (by simp)); go_simp; with_reducible rfl)
       · trivial))
  refine Ord.only rfl ?_
  go_simp
  refine ⟨trivial, rfl, (callsIn_wide.2 (C1 _)).mono ?_⟩
  rintro e w2 ⟨rfl, hb⟩
  replace hS := hS.on hb
  refine ⟨hS, ?_⟩
  clear hb
  repeat (first
    | (refine Ord.idle hS rfl (fun V hV f hf => ?_) (by simp only [Act.put, List.setIfInBounds_toArray, List.set_cons_succ, List.set_cons_zero]; rfl) ?_
       · trivial)
    | (refine Ord.calm (v := ?_) hS rfl (fun V hV => ?_) (fun V hV f hf => ?_) (by simp only [Act.put, List.setIfInBounds_toArray, List.set_cons_succ, List.set_cons_zero]; rfl) ?_
       rotate_left
       · first
         | (go_simp; with_reducible rfl)
         | (obtain ⟨a0, a1, a2, a3, a4, a5, a6⟩ := cells7 (Boxes.at_ (B := w.heap.size) (c := ⟨log, th, pol, wt, sp, yi, single⟩) hV (by simp)); obtain ⟨b0, b1, b2, b3, b4, b5, b6⟩ := cells7 (Boxes.at_ (B := w1.heap.size) (c := ⟨log, th2, pol2, wt2, sp2, yi2, single2⟩) hV (by simp)); obtain ⟨d0, d1, d2, d3, d4, d5, d6⟩ := cells7 (Boxes.at_ (B := w1.heap.size + 1) (c := ⟨log, wrap64 (th + 1), pol, wt, sp, yi, single⟩) hV (by simp)); go_simp; with_reducible rfl)
       · trivial))
  simp only [Ord, Exit.then]
  go_wp2
  replace hS := hS.drew
  refine wp_region_ord (S := Boxes w [(w1.heap.size + 1, ⟨log, wrap64 (th + 1), pol, wt, sp, yi, single⟩), (w1.heap.size, ⟨log, th2, pol2, wt2, sp2, yi2, single2⟩), (w.heap.size + 1, ⟨log2, th2, pol2, wt2, sp2, yi2, single2⟩), (w.heap.size, ⟨log, th, pol, wt, sp, yi, single⟩)] 23) (by kernel_rfl)
    [(true, 0), (false, 1), (true, 2), (true, 3), (true, 4), (true, 5), (true, 6), (true, 7), (true, 8), (false, 9), (true, 10), (true, 11), (true, 12), (true, 13), (true, 14), (true, 15), (true, 16), (true, 17), (true, 18), (true, 20), (false, 19), (false, 21), (true, 22), (true, 23), (true, 24), (true, 25), (true, 27), (false, 26), (false, 28), (true, 29), (true, 30), (true, 31), (true, 32)]
    (by kernel_rfl) (by kernel_rfl) (by kernel_rfl) (fun _ _ d _ _ h => by cases d <;> exact h) ?_
  simp only [inOrder, List.getElem?_cons_succ, List.getElem?_cons_zero, List.nil_append, List.cons_append]
  repeat (first
    | (refine Ord.idle hS rfl (fun V hV f hf => ?_) (by simp only [Act.put, List.setIfInBounds_toArray, List.set_cons_succ, List.set_cons_zero]; rfl) ?_
       · trivial)
    | (refine Ord.calm (v := ?_) hS rfl (fun V hV => ?_) (fun V hV f hf => ?_) (by simp only [Act.put, List.setIfInBounds_toArray, List.set_cons_succ, List.set_cons_zero]; rfl) ?_
       rotate_left
       · first
         | (go_simp; with_reducible rfl)
         | (obtain ⟨a0, a1, a2, a3, a4, a5, a6⟩ := cells7 (Boxes.at_ (B := w.heap.size) (c := ⟨log, th, pol, wt, sp, yi, single⟩) hV (by simp)); obtain ⟨b0, b1, b2, b3, b4, b5, b6⟩ := cells7 (Boxes.at_ (B := w1.heap.size) (c := ⟨log, th2, pol2, wt2, sp2, yi2, single2⟩) hV (by simp)); obtain ⟨d0, d1, d2, d3, d4, d5, d6⟩ := cells7 (Boxes.at_ (B := w1.heap.size + 1) (c := ⟨log, wrap64 (th + 1), pol, wt, sp, yi, single⟩) hV (by simp)); go_simp; with_reducible rfl)
       · trivial))
  refine Ord.only rfl ?_
  go_simp
  refine ⟨trivial, rfl, (callsIn_wide.2 (C1 _)).mono ?_⟩
  rintro e w3 ⟨rfl, hb⟩
  replace hS := hS.on hb
  refine ⟨hS, ?_⟩
  clear hb
  repeat (first
    | (refine Ord.idle hS rfl (fun V hV f hf => ?_) (by simp only [Act.put, List.setIfInBounds_toArray, List.set_cons_succ, List.set_cons_zero]; rfl) ?_
       · trivial)
    | (refine Ord.calm (v := ?_) hS rfl (fun V hV => ?_) (fun V hV f hf => ?_) (by simp only [Act.put, List.setIfInBounds_toArray, List.set_cons_succ, List.set_cons_zero]; rfl) ?_
       rotate_left
       · first
         | (go_simp; with_reducible rfl)
         | (obtain ⟨a0, a1, a2, a3, a4, a5, a6⟩ := cells7 (Boxes.at_ (B := w.heap.size) (c := ⟨log, th, pol, wt, sp, yi, single⟩) hV (by simp)); obtain ⟨b0, b1, b2, b3, b4, b5, b6⟩ := cells7 (Boxes.at_ (B := w1.heap.size) (c := ⟨log, th2, pol2, wt2, sp2, yi2, single2⟩) hV (by simp)); obtain ⟨d0, d1, d2, d3, d4, d5, d6⟩ := cells7 (Boxes.at_ (B := w1.heap.size + 1) (c := ⟨log, wrap64 (th + 1), pol, wt, sp, yi, single⟩) hV (by simp)); go_simp; with_reducible rfl)
       · trivial))
  simp only [Ord, Exit.then]
  have hB := hS.2
  clear hS C1
  go_wp2
  go_ret
  exact ⟨rfl, hB⟩

/-- One thread more: it may be, with the same room and tries, below sixteen; at sixteen it may not. -/
theorem more_th (c : Cfg) (h : c.ok = true) : (c.th < 16 → Cfg.ok { c with th := c.th + 1 } = true) ∧ (c.th = 16 → Cfg.ok { c with th := 17 } = false) := by
  have h1 := (Cfg.ok_iff c).1 h
  refine ⟨fun hl => (Cfg.ok_iff _).2 ⟨h1.1, ⟨by dsimp only; omega, by dsimp only; omega⟩, h1.2.2⟩, fun _ => ?_⟩
  rw [← Bool.not_eq_true, Cfg.ok_iff]
  intro h2
  have h3 := h2.2.1.2
  dsimp only at h3
  omega
theorem more_room (c : Cfg) (h : c.ok = true) (hl : c.th < 16) : Cfg.room { c with th := c.th + 1 } = c.room := by
  simp only [Cfg.room, h, (more_th c h).1 hl]
theorem more_tries (c : Cfg) (h : c.ok = true) (hl : c.th < 16) : Cfg.tries { c with th := c.th + 1 } = c.tries := by
  simp only [Cfg.tries, Cfg.parks, h, (more_th c h).1 hl]
theorem alike_room (c d : Cfg) (h : c.ok = true) (he : Cfg.ok { d with log := c.log } = true) : Cfg.room { d with log := c.log } = c.room := by
  simp only [Cfg.room, h, he]

set_option maxRecDepth 100000 in
set_option maxHeartbeats 4000000 in
theorem confAlike_d16 (c d : Cfg) (w : World) (h : c.ok = true) (he : Cfg.ok { d with log := c.log } = false) (h16 : c.th = 16) : Calls Try.prog 8 #[c.val, d.val] w fun e w' => e = .returned (.bool true) ∧ Below w.heap.size w w' := by
  have C1 := fun W => check_ok _ W h
  have C2 := fun W => check_no _ W he
  have C5 := fun W => room_at 0 { c with th := 17 } W (by simp [Cfg.room, (more_th c h).2 h16])
  clear h he
  obtain ⟨log, th, pol, wt, sp, yi, single⟩ := c
  obtain ⟨log2, th2, pol2, wt2, sp2, yi2, single2⟩ := d
  dsimp only at h16
  subst h16
  go_enter Try.func8, Try.ntmps8
  go_wp2_with fail
  refine (awake_any _).mono ?_
  rintro e w1 ⟨rfl, hb⟩
  have hS0 := (((Boxes.nil w 23).add ⟨log, 16, pol, wt, sp, yi, single⟩).add ⟨log2, th2, pol2, wt2, sp2, yi2, single2⟩).on hb
  rw [World.size_alloc] at hS0
  clear hb
  obtain ⟨c0, c1, c2, c3, c4, c5, c6⟩ := cells7 (hS0.at_ (B := w.heap.size) (c := ⟨log, 16, pol, wt, sp, yi, single⟩) (by simp))
  obtain ⟨d0, d1, d2, d3, d4, d5, d6⟩ := cells7 (hS0.at_ (B := w.heap.size + 1) (c := ⟨log2, th2, pol2, wt2, sp2, yi2, single2⟩) (by simp))
  have hlt := (Array.getElem?_eq_some_iff.1 (hS0.at_ (B := w.heap.size + 1) (c := ⟨log2, th2, pol2, wt2, sp2, yi2, single2⟩) (by simp))).1
  have hn0 : w.heap.size < w1.heap.size := by omega
  have hn1 : w.heap.size < w1.heap.size + 1 := by omega
  have hn2 : w.heap.size + 1 < w1.heap.size + 1 := by omega
  have hp1 : w.heap.size ≤ w1.heap.size := by omega
  have hp2 : w.heap.size + 1 ≤ w1.heap.size := by omega
  go_wp2
  have hS : Boxes w [(w1.heap.size + 1, ⟨log, 17, pol, wt, sp, yi, single⟩), (w1.heap.size, ⟨log, th2, pol2, wt2, sp2, yi2, single2⟩), (w.heap.size + 1, ⟨log2, th2, pol2, wt2, sp2, yi2, single2⟩), (w.heap.size, ⟨log, 16, pol, wt, sp, yi, single⟩)] 23 ((w1.alloc (.cells (Cfg.cells ⟨log, th2, pol2, wt2, sp2, yi2, single2⟩) 23)).alloc (.cells (Cfg.cells ⟨log, 17, pol, wt, sp, yi, single⟩) 23)).drew := by
    have h := ((hS0.add ⟨log, th2, pol2, wt2, sp2, yi2, single2⟩).add ⟨log, 17, pol, wt, sp, yi, single⟩).drew
    rwa [World.size_alloc] at h
  clear hS0 hlt hn0 hn1 hn2 hp1 hp2 c0 c1 c2 c3 c4 c5 c6 d0 d1 d2 d3 d4 d5 d6
  refine wp_region_ord (S := Boxes w [(w1.heap.size + 1, ⟨log, 17, pol, wt, sp, yi, single⟩), (w1.heap.size, ⟨log, th2, pol2, wt2, sp2, yi2, single2⟩), (w.heap.size + 1, ⟨log2, th2, pol2, wt2, sp2, yi2, single2⟩), (w.heap.size, ⟨log, 16, pol, wt, sp, yi, single⟩)] 23) (by kernel_rfl)
    [(true, 0), (false, 1), (true, 2), (true, 3), (true, 4), (false, 5), (true, 6), (true, 7), (true, 8), (true, 9), (true, 11), (false, 10), (false, 12), (true, 13), (true, 14), (true, 15)]
    (by kernel_rfl) (by kernel_rfl) (by kernel_rfl) (fun _ _ d _ _ h => by cases d <;> exact h) ?_
  simp only [inOrder, List.getElem?_cons_succ, List.getElem?_cons_zero, List.nil_append, List.cons_append]
  repeat (first
    | (refine Ord.idle hS rfl (fun V hV f hf => ?_) (by simp only [Act.put, List.setIfInBounds_toArray, List.set_cons_succ, List.set_cons_zero]; rfl) ?_
       · trivial)
    | (refine Ord.calm (v := ?_) hS rfl (fun V hV => ?_) (fun V hV f hf => ?_) (by simp only [Act.put, List.setIfInBounds_toArray, List.set_cons_succ, List.set_cons_zero]; rfl) ?_
       rotate_left
       · first
         | (go_simp; with_reducible rfl)
         | (obtain ⟨a0, a1, a2, a3, a4, a5, a6⟩ := cells7 (Boxes.at_ (B := w.heap.size) (c := ⟨log, 16, pol, wt, sp, yi, single⟩) hV (by simp)); obtain ⟨b0, b1, b2, b3, b4, b5, b6⟩ := cells7 (Boxes.at_ (B := w1.heap.size) (c := ⟨log, th2, pol2, wt2, sp2, yi2, single2⟩) hV (by simp)); obtain ⟨d0, d1, d2, d3, d4, d5, d6⟩ := cells7 (Boxes.at_ (B := w1.heap.size + 1) (c := ⟨log, 17, pol, wt, sp, yi, single⟩) hV (by simp)); go_simp; with_reducible rfl)
       · trivial))
  refine Ord.only rfl ?_
  go_simp
  refine ⟨trivial, rfl, (callsIn_wide.2 (C1 _)).mono ?_⟩
  rintro e w2 ⟨rfl, hb⟩
  replace hS := hS.on hb
  refine ⟨hS, ?_⟩
  clear hb
  repeat (first
    | (refine Ord.idle hS rfl (fun V hV f hf => ?_) (by simp only [Act.put, List.setIfInBounds_toArray, List.set_cons_succ, List.set_cons_zero]; rfl) ?_
       · trivial)
    | (refine Ord.calm (v := ?_) hS rfl (fun V hV => ?_) (fun V hV f hf => ?_) (by simp only [Act.put, List.setIfInBounds_toArray, List.set_cons_succ, List.set_cons_zero]; rfl) ?_
       rotate_left
       · first
         | (go_simp; with_reducible rfl)
         | (obtain ⟨a0, a1, a2, a3, a4, a5, a6⟩ := cells7 (Boxes.at_ (B := w.heap.size) (c := ⟨log, 16, pol, wt, sp, yi, single⟩) hV (by simp)); obtain ⟨b0, b1, b2, b3, b4, b5, b6⟩ := cells7 (Boxes.at_ (B := w1.heap.size) (c := ⟨log, th2, pol2, wt2, sp2, yi2, single2⟩) hV (by simp)); obtain ⟨d0, d1, d2, d3, d4, d5, d6⟩ := cells7 (Boxes.at_ (B := w1.heap.size + 1) (c := ⟨log, 17, pol, wt, sp, yi, single⟩) hV (by simp)); go_simp; with_reducible rfl)
       · trivial))
  refine Ord.only rfl ?_
  go_simp
  refine ⟨trivial, rfl, (callsIn_wide.2 (C2 _)).mono ?_⟩
  rintro e w3 ⟨rfl, hb⟩
  replace hS := hS.on hb
  refine ⟨hS, ?_⟩
  clear hb
  repeat (first
    | (refine Ord.idle hS rfl (fun V hV f hf => ?_) (by simp only [Act.put, List.setIfInBounds_toArray, List.set_cons_succ, List.set_cons_zero]; rfl) ?_
       · trivial)
    | (refine Ord.calm (v := ?_) hS rfl (fun V hV => ?_) (fun V hV f hf => ?_) (by simp only [Act.put, List.setIfInBounds_toArray, List.set_cons_succ, List.set_cons_zero]; rfl) ?_
       rotate_left
       · first
         | (go_simp; with_reducible rfl)
         | (obtain ⟨a0, a1, a2, a3, a4, a5, a6⟩ := cells7 (Boxes.at_ (B := w.heap.size) (c := ⟨log, 16, pol, wt, sp, yi, single⟩) hV (by simp)); obtain ⟨b0, b1, b2, b3, b4, b5, b6⟩ := cells7 (Boxes.at_ (B := w1.heap.size) (c := ⟨log, th2, pol2, wt2, sp2, yi2, single2⟩) hV (by simp)); obtain ⟨d0, d1, d2, d3, d4, d5, d6⟩ := cells7 (Boxes.at_ (B := w1.heap.size + 1) (c := ⟨log, 17, pol, wt, sp, yi, single⟩) hV (by simp)); go_simp; with_reducible rfl)
       · trivial))
  simp only [Ord, Exit.then]
  go_wp2
  replace hS := hS.drew
  refine wp_region_ord (S := Boxes w [(w1.heap.size + 1, ⟨log, 17, pol, wt, sp, yi, single⟩), (w1.heap.size, ⟨log, th2, pol2, wt2, sp2, yi2, single2⟩), (w.heap.size + 1, ⟨log2, th2, pol2, wt2, sp2, yi2, single2⟩), (w.heap.size, ⟨log, 16, pol, wt, sp, yi, single⟩)] 23) (by kernel_rfl)
    [(true, 0), (false, 1), (true, 2), (true, 3), (true, 4), (true, 5), (true, 6), (true, 7), (true, 8), (false, 9), (true, 10), (true, 11), (true, 12), (true, 13), (true, 14), (true, 15), (true, 16), (true, 17), (true, 18), (true, 20), (false, 19), (false, 21), (true, 22), (true, 23), (true, 24), (true, 25), (true, 27), (false, 26), (false, 28), (true, 29), (true, 30), (true, 31), (true, 32)]
    (by kernel_rfl) (by kernel_rfl) (by kernel_rfl) (fun _ _ d _ _ h => by cases d <;> exact h) ?_
  simp only [inOrder, List.getElem?_cons_succ, List.getElem?_cons_zero, List.nil_append, List.cons_append]
  repeat (first
    | (refine Ord.idle hS rfl (fun V hV f hf => ?_) (by simp only [Act.put, List.setIfInBounds_toArray, List.set_cons_succ, List.set_cons_zero]; rfl) ?_
       · trivial)
    | (refine Ord.calm (v := ?_) hS rfl (fun V hV => ?_) (fun V hV f hf => ?_) (by simp only [Act.put, List.setIfInBounds_toArray, List.set_cons_succ, List.set_cons_zero]; rfl) ?_
       rotate_left
       · first
         | (go_simp; with_reducible rfl)
         | (obtain ⟨a0, a1, a2, a3, a4, a5, a6⟩ := cells7 (Boxes.at_ (B := w.heap.size) (c := ⟨log, 16, pol, wt, sp, yi, single⟩) hV (by simp)); obtain ⟨b0, b1, b2, b3, b4, b5, b6⟩ := cells7 (Boxes.at_ (B := w1.heap.size) (c := ⟨log, th2, pol2, wt2, sp2, yi2, single2⟩) hV (by simp)); obtain ⟨d0, d1, d2, d3, d4, d5, d6⟩ := cells7 (Boxes.at_ (B := w1.heap.size + 1) (c := ⟨log, 17, pol, wt, sp, yi, single⟩) hV (by simp)); go_simp; with_reducible rfl)
       · trivial))
  refine Ord.only rfl ?_
  go_simp
  refine ⟨trivial, rfl, (callsIn_wide.2 (C1 _)).mono ?_⟩
  rintro e w4 ⟨rfl, hb⟩
  replace hS := hS.on hb
  refine ⟨hS, ?_⟩
  clear hb
  repeat (first
    | (refine Ord.idle hS rfl (fun V hV f hf => ?_) (by simp only [Act.put, List.setIfInBounds_toArray, List.set_cons_succ, List.set_cons_zero]; rfl) ?_
       · trivial)
    | (refine Ord.calm (v := ?_) hS rfl (fun V hV => ?_) (fun V hV f hf => ?_) (by simp only [Act.put, List.setIfInBounds_toArray, List.set_cons_succ, List.set_cons_zero]; rfl) ?_
       rotate_left
       · first
         | (go_simp; with_reducible rfl)
         | (obtain ⟨a0, a1, a2, a3, a4, a5, a6⟩ := cells7 (Boxes.at_ (B := w.heap.size) (c := ⟨log, 16, pol, wt, sp, yi, single⟩) hV (by simp)); obtain ⟨b0, b1, b2, b3, b4, b5, b6⟩ := cells7 (Boxes.at_ (B := w1.heap.size) (c := ⟨log, th2, pol2, wt2, sp2, yi2, single2⟩) hV (by simp)); obtain ⟨d0, d1, d2, d3, d4, d5, d6⟩ := cells7 (Boxes.at_ (B := w1.heap.size + 1) (c := ⟨log, 17, pol, wt, sp, yi, single⟩) hV (by simp)); go_simp; with_reducible rfl)
       · trivial))
  refine Ord.only rfl ?_
  go_simp
  refine ⟨trivial, rfl, (callsIn_wide.2 (C5 _)).mono ?_⟩
  rintro e w5 ⟨rfl, hb⟩
  replace hS := hS.on hb
  refine ⟨hS, ?_⟩
  clear hb
  repeat (first
    | (refine Ord.idle hS rfl (fun V hV f hf => ?_) (by simp only [Act.put, List.setIfInBounds_toArray, List.set_cons_succ, List.set_cons_zero]; rfl) ?_
       · trivial)
    | (refine Ord.calm (v := ?_) hS rfl (fun V hV => ?_) (fun V hV f hf => ?_) (by simp only [Act.put, List.setIfInBounds_toArray, List.set_cons_succ, List.set_cons_zero]; rfl) ?_
       rotate_left
       · first
         | (go_simp; with_reducible rfl)
         | (obtain ⟨a0, a1, a2, a3, a4, a5, a6⟩ := cells7 (Boxes.at_ (B := w.heap.size) (c := ⟨log, 16, pol, wt, sp, yi, single⟩) hV (by simp)); obtain ⟨b0, b1, b2, b3, b4, b5, b6⟩ := cells7 (Boxes.at_ (B := w1.heap.size) (c := ⟨log, th2, pol2, wt2, sp2, yi2, single2⟩) hV (by simp)); obtain ⟨d0, d1, d2, d3, d4, d5, d6⟩ := cells7 (Boxes.at_ (B := w1.heap.size + 1) (c := ⟨log, 17, pol, wt, sp, yi, single⟩) hV (by simp)); go_simp; with_reducible rfl)
       · trivial))
  simp only [Ord, Exit.then]
  have hB := hS.2
  clear hS C1 C2 C5
  go_wp2
  go_ret
  exact ⟨rfl, hB⟩

set_option maxRecDepth 100000 in
set_option maxHeartbeats 4000000 in
theorem confAlike_dless (c d : Cfg) (w : World) (h : c.ok = true) (he : Cfg.ok { d with log := c.log } = false) (hl : c.th < 16) : Calls Try.prog 8 #[c.val, d.val] w fun e w' => e = .returned (.bool true) ∧ Below w.heap.size w w' := by
  have b1 : 1 ≤ c.th := ((Cfg.ok_iff c).1 h).2.1.1
  have C1 := fun W => check_ok _ W h
  have C2 := fun W => check_no _ W he
  have C3 := fun W => room_any c W
  have C5 := fun W => room_at c.room _ W (more_room c h hl)
  have C6 := fun W => conf_tries c W
  have C7 := fun W => tries_at c.tries _ W (more_tries c h hl)
  clear h he
  obtain ⟨log, th, pol, wt, sp, yi, single⟩ := c
  obtain ⟨log2, th2, pol2, wt2, sp2, yi2, single2⟩ := d
  dsimp only at hl b1
  have hb : (th == 16) = false := by simp; omega
  have hb2 : decide (th < 16) = true := by simpa using hl
  generalize Cfg.room ⟨log, th, pol, wt, sp, yi, single⟩ = r at *
  generalize Cfg.tries ⟨log, th, pol, wt, sp, yi, single⟩ = k at *
  go_enter Try.func8, Try.ntmps8
  go_wp2_with fail
  refine (awake_any _).mono ?_
  rintro e w1 ⟨rfl, hb⟩
  have hS0 := (((Boxes.nil w 23).add ⟨log, th, pol, wt, sp, yi, single⟩).add ⟨log2, th2, pol2, wt2, sp2, yi2, single2⟩).on hb
  rw [World.size_alloc] at hS0
  clear hb
  obtain ⟨c0, c1, c2, c3, c4, c5, c6⟩ := cells7 (hS0.at_ (B := w.heap.size) (c := ⟨log, th, pol, wt, sp, yi, single⟩) (by simp))
  obtain ⟨d0, d1, d2, d3, d4, d5, d6⟩ := cells7 (hS0.at_ (B := w.heap.size + 1) (c := ⟨log2, th2, pol2, wt2, sp2, yi2, single2⟩) (by simp))
  have hlt := (Array.getElem?_eq_some_iff.1 (hS0.at_ (B := w.heap.size + 1) (c := ⟨log2, th2, pol2, wt2, sp2, yi2, single2⟩) (by simp))).1
  have hn0 : w.heap.size < w1.heap.size := by omega
  have hn1 : w.heap.size < w1.heap.size + 1 := by omega
  have hn2 : w.heap.size + 1 < w1.heap.size + 1 := by omega
  have hp1 : w.heap.size ≤ w1.heap.size := by omega
  have hp2 : w.heap.size + 1 ≤ w1.heap.size := by omega
  go_wp2
  have hS : Boxes w [(w1.heap.size + 1, ⟨log, th + 1, pol, wt, sp, yi, single⟩), (w1.heap.size, ⟨log, th2, pol2, wt2, sp2, yi2, single2⟩), (w.heap.size + 1, ⟨log2, th2, pol2, wt2, sp2, yi2, single2⟩), (w.heap.size, ⟨log, th, pol, wt, sp, yi, single⟩)] 23 ((w1.alloc (.cells (Cfg.cells ⟨log, th2, pol2, wt2, sp2, yi2, single2⟩) 23)).alloc (.cells (Cfg.cells ⟨log, th + 1, pol, wt, sp, yi, single⟩) 23)).drew := by
    have h := ((hS0.add ⟨log, th2, pol2, wt2, sp2, yi2, single2⟩).add ⟨log, th + 1, pol, wt, sp, yi, single⟩).drew
    rwa [World.size_alloc] at h
  clear hS0 hlt hn0 hn1 hn2 hp1 hp2 c0 c1 c2 c3 c4 c5 c6 d0 d1 d2 d3 d4 d5 d6
  refine wp_region_ord (S := Boxes w [(w1.heap.size + 1, ⟨log, th + 1, pol, wt, sp, yi, single⟩), (w1.heap.size, ⟨log, th2, pol2, wt2, sp2, yi2, single2⟩), (w.heap.size + 1, ⟨log2, th2, pol2, wt2, sp2, yi2, single2⟩), (w.heap.size, ⟨log, th, pol, wt, sp, yi, single⟩)] 23) (by kernel_rfl)
    [(true, 0), (false, 1), (true, 2), (true, 3), (true, 4), (false, 5), (true, 6), (true, 7), (true, 8), (true, 9), (true, 11), (false, 10), (false, 12), (true, 13), (true, 14), (true, 15)]
    (by kernel_rfl) (by kernel_rfl) (by kernel_rfl) (fun _ _ d _ _ h => by cases d <;> exact h) ?_
  simp only [inOrder, List.getElem?_cons_succ, List.getElem?_cons_zero, List.nil_append, List.cons_append]
  repeat (first
    | (refine Ord.idle hS rfl (fun V hV f hf => ?_) (by simp only [Act.put, List.setIfInBounds_toArray, List.set_cons_succ, List.set_cons_zero]; rfl) ?_
       · trivial)
    | (refine Ord.calm (v := ?_) hS rfl (fun V hV => ?_) (fun V hV f hf => ?_) (by simp only [Act.put, List.setIfInBounds_toArray, List.set_cons_succ, List.set_cons_zero]; rfl) ?_
       rotate_left
       · first
         | (go_simp; with_reducible rfl)
         | (obtain ⟨a0, a1, a2, a3, a4, a5, a6⟩ := cells7 (Boxes.at_ (B := w.heap.size) (c := ⟨log, th, pol, wt, sp, yi, single⟩) hV (by simp)); obtain ⟨b0, b1, b2, b3, b4, b5, b6⟩ := cells7 (Boxes.at_ (B := w1.heap.size) (c := ⟨log, th2, pol2, wt2, sp2, yi2, single2⟩) hV (by simp)); obtain ⟨d0, d1, d2, d3, d4, d5, d6⟩ := cells7 (Boxes.at_ (B := w1.heap.size + 1) (c := ⟨log, th + 1, pol, wt, sp, yi, single⟩) hV (by simp)); go_simp; with_reducible rfl)
       · trivial))
  refine Ord.only rfl ?_
  go_simp
  refine ⟨trivial, rfl, (callsIn_wide.2 (C1 _)).mono ?_⟩
  rintro e w2 ⟨rfl, hb⟩
  replace hS := hS.on hb
  refine ⟨hS, ?_⟩
  clear hb
  repeat (first
    | (refine Ord.idle hS rfl (fun V hV f hf => ?_) (by simp only [Act.put, List.setIfInBounds_toArray, List.set_cons_succ, List.set_cons_zero]; rfl) ?_
       · trivial)
    | (refine Ord.calm (v := ?_) hS rfl (fun V hV => ?_) (fun V hV f hf => ?_) (by simp only [Act.put, List.setIfInBounds_toArray, List.set_cons_succ, List.set_cons_zero]; rfl) ?_
       rotate_left
       · first
         | (go_simp; with_reducible rfl)
         | (obtain ⟨a0, a1, a2, a3, a4, a5, a6⟩ := cells7 (Boxes.at_ (B := w.heap.size) (c := ⟨log, th, pol, wt, sp, yi, single⟩) hV (by simp)); obtain ⟨b0, b1, b2, b3, b4, b5, b6⟩ := cells7 (Boxes.at_ (B := w1.heap.size) (c := ⟨log, th2, pol2, wt2, sp2, yi2, single2⟩) hV (by simp)); obtain ⟨d0, d1, d2, d3, d4, d5, d6⟩ := cells7 (Boxes.at_ (B := w1.heap.size + 1) (c := ⟨log, th + 1, pol, wt, sp, yi, single⟩) hV (by simp)); go_simp; with_reducible rfl)
       · trivial))
  refine Ord.only rfl ?_
  go_simp
  refine ⟨trivial, rfl, (callsIn_wide.2 (C2 _)).mono ?_⟩
  rintro e w3 ⟨rfl, hb⟩
  replace hS := hS.on hb
  refine ⟨hS, ?_⟩
  clear hb
  repeat (first
    | (refine Ord.idle hS rfl (fun V hV f hf => ?_) (by simp only [Act.put, List.setIfInBounds_toArray, List.set_cons_succ, List.set_cons_zero]; rfl) ?_
       · trivial)
    | (refine Ord.calm (v := ?_) hS rfl (fun V hV => ?_) (fun V hV f hf => ?_) (by simp only [Act.put, List.setIfInBounds_toArray, List.set_cons_succ, List.set_cons_zero]; rfl) ?_
       rotate_left
       · first
         | (go_simp; with_reducible rfl)
         | (obtain ⟨a0, a1, a2, a3, a4, a5, a6⟩ := cells7 (Boxes.at_ (B := w.heap.size) (c := ⟨log, th, pol, wt, sp, yi, single⟩) hV (by simp)); obtain ⟨b0, b1, b2, b3, b4, b5, b6⟩ := cells7 (Boxes.at_ (B := w1.heap.size) (c := ⟨log, th2, pol2, wt2, sp2, yi2, single2⟩) hV (by simp)); obtain ⟨d0, d1, d2, d3, d4, d5, d6⟩ := cells7 (Boxes.at_ (B := w1.heap.size + 1) (c := ⟨log, th + 1, pol, wt, sp, yi, single⟩) hV (by simp)); go_simp; with_reducible rfl)
       · trivial))
  simp only [Ord, Exit.then]
  go_wp2
  replace hS := hS.drew
  refine wp_region_ord (S := Boxes w [(w1.heap.size + 1, ⟨log, th + 1, pol, wt, sp, yi, single⟩), (w1.heap.size, ⟨log, th2, pol2, wt2, sp2, yi2, single2⟩), (w.heap.size + 1, ⟨log2, th2, pol2, wt2, sp2, yi2, single2⟩), (w.heap.size, ⟨log, th, pol, wt, sp, yi, single⟩)] 23) (by kernel_rfl)
    [(true, 0), (false, 1), (true, 2), (true, 3), (true, 4), (true, 5), (true, 6), (true, 7), (true, 8), (false, 9), (true, 10), (true, 11), (true, 12), (true, 13), (true, 14), (true, 15), (true, 16), (true, 17), (true, 18), (true, 20), (false, 19), (false, 21), (true, 22), (true, 23), (true, 24), (true, 25), (true, 27), (false, 26), (false, 28), (true, 29), (true, 30), (true, 31), (true, 32)]
    (by kernel_rfl) (by kernel_rfl) (by kernel_rfl) (fun _ _ d _ _ h => by cases d <;> exact h) ?_
  simp only [inOrder, List.getElem?_cons_succ, List.getElem?_cons_zero, List.nil_append, List.cons_append]
  repeat (first
    | (refine Ord.idle hS rfl (fun V hV f hf => ?_) (by simp only [Act.put, List.setIfInBounds_toArray, List.set_cons_succ, List.set_cons_zero]; rfl) ?_
       · trivial)
    | (refine Ord.calm (v := ?_) hS rfl (fun V hV => ?_) (fun V hV f hf => ?_) (by simp only [Act.put, List.setIfInBounds_toArray, List.set_cons_succ, List.set_cons_zero]; rfl) ?_
       rotate_left
       · first
         | (go_simp; with_reducible rfl)
         | (obtain ⟨a0, a1, a2, a3, a4, a5, a6⟩ := cells7 (Boxes.at_ (B := w.heap.size) (c := ⟨log, th, pol, wt, sp, yi, single⟩) hV (by simp)); obtain ⟨b0, b1, b2, b3, b4, b5, b6⟩ := cells7 (Boxes.at_ (B := w1.heap.size) (c := ⟨log, th2, pol2, wt2, sp2, yi2, single2⟩) hV (by simp)); obtain ⟨d0, d1, d2, d3, d4, d5, d6⟩ := cells7 (Boxes.at_ (B := w1.heap.size + 1) (c := ⟨log, th + 1, pol, wt, sp, yi, single⟩) hV (by simp)); go_simp; with_reducible rfl)
       · trivial))
  refine Ord.only rfl ?_
  go_simp
  refine ⟨trivial, rfl, (callsIn_wide.2 (C1 _)).mono ?_⟩
  rintro e w4 ⟨rfl, hb⟩
  replace hS := hS.on hb
  refine ⟨hS, ?_⟩
  clear hb
  repeat (first
    | (refine Ord.idle hS rfl (fun V hV f hf => ?_) (by simp only [Act.put, List.setIfInBounds_toArray, List.set_cons_succ, List.set_cons_zero]; rfl) ?_
       · trivial)
    | (refine Ord.calm (v := ?_) hS rfl (fun V hV => ?_) (fun V hV f hf => ?_) (by simp only [Act.put, List.setIfInBounds_toArray, List.set_cons_succ, List.set_cons_zero]; rfl) ?_
       rotate_left
       · first
         | (go_simp; with_reducible rfl)
         | (obtain ⟨a0, a1, a2, a3, a4, a5, a6⟩ := cells7 (Boxes.at_ (B := w.heap.size) (c := ⟨log, th, pol, wt, sp, yi, single⟩) hV (by simp)); obtain ⟨b0, b1, b2, b3, b4, b5, b6⟩ := cells7 (Boxes.at_ (B := w1.heap.size) (c := ⟨log, th2, pol2, wt2, sp2, yi2, single2⟩) hV (by simp)); obtain ⟨d0, d1, d2, d3, d4, d5, d6⟩ := cells7 (Boxes.at_ (B := w1.heap.size + 1) (c := ⟨log, th + 1, pol, wt, sp, yi, single⟩) hV (by simp)); go_simp; with_reducible rfl)
       · trivial))
  refine Ord.only rfl ?_
  go_simp
  refine ⟨trivial, rfl, (callsIn_wide.2 (C5 _)).mono ?_⟩
  rintro e w5 ⟨rfl, hb⟩
  replace hS := hS.on hb
  refine ⟨hS, ?_⟩
  clear hb
  repeat (first
    | (refine Ord.idle hS rfl (fun V hV f hf => ?_) (by simp only [Act.put, List.setIfInBounds_toArray, List.set_cons_succ, List.set_cons_zero]; rfl) ?_
       · trivial)
    | (refine Ord.calm (v := ?_) hS rfl (fun V hV => ?_) (fun V hV f hf => ?_) (by simp only [Act.put, List.setIfInBounds_toArray, List.set_cons_succ, List.set_cons_zero]; rfl) ?_
       rotate_left
       · first
         | (go_simp; with_reducible rfl)
         | (obtain ⟨a0, a1, a2, a3, a4, a5, a6⟩ := cells7 (Boxes.at_ (B := w.heap.size) (c := ⟨log, th, pol, wt, sp, yi, single⟩) hV (by simp)); obtain ⟨b0, b1, b2, b3, b4, b5, b6⟩ := cells7 (Boxes.at_ (B := w1.heap.size) (c := ⟨log, th2, pol2, wt2, sp2, yi2, single2⟩) hV (by simp)); obtain ⟨d0, d1, d2, d3, d4, d5, d6⟩ := cells7 (Boxes.at_ (B := w1.heap.size + 1) (c := ⟨log, th + 1, pol, wt, sp, yi, single⟩) hV (by simp)); go_simp; with_reducible rfl)
       · trivial))
  refine Ord.only rfl ?_
  go_simp
  refine ⟨trivial, rfl, (callsIn_wide.2 (C3 _)).mono ?_⟩
  rintro e w6 ⟨rfl, hb⟩
  replace hS := hS.on hb
  refine ⟨hS, ?_⟩
  clear hb
  repeat (first
    | (refine Ord.idle hS rfl (fun V hV f hf => ?_) (by simp only [Act.put, List.setIfInBounds_toArray, List.set_cons_succ, List.set_cons_zero]; rfl) ?_
       · trivial)
    | (refine Ord.calm (v := ?_) hS rfl (fun V hV => ?_) (fun V hV f hf => ?_) (by simp only [Act.put, List.setIfInBounds_toArray, List.set_cons_succ, List.set_cons_zero]; rfl) ?_
       rotate_left
       · first
         | (go_simp; with_reducible rfl)
         | (obtain ⟨a0, a1, a2, a3, a4, a5, a6⟩ := cells7 (Boxes.at_ (B := w.heap.size) (c := ⟨log, th, pol, wt, sp, yi, single⟩) hV (by simp)); obtain ⟨b0, b1, b2, b3, b4, b5, b6⟩ := cells7 (Boxes.at_ (B := w1.heap.size) (c := ⟨log, th2, pol2, wt2, sp2, yi2, single2⟩) hV (by simp)); obtain ⟨d0, d1, d2, d3, d4, d5, d6⟩ := cells7 (Boxes.at_ (B := w1.heap.size + 1) (c := ⟨log, th + 1, pol, wt, sp, yi, single⟩) hV (by simp)); go_simp; with_reducible rfl)
       · trivial))
  refine Ord.only rfl ?_
  go_simp
  refine ⟨trivial, rfl, (callsIn_wide.2 (C7 _)).mono ?_⟩
  rintro e w7 ⟨rfl, hb⟩
  replace hS := hS.on hb
  refine ⟨hS, ?_⟩
  clear hb
  repeat (first
    | (refine Ord.idle hS rfl (fun V hV f hf => ?_) (by simp only [Act.put, List.setIfInBounds_toArray, List.set_cons_succ, List.set_cons_zero]; rfl) ?_
       · trivial)
    | (refine Ord.calm (v := ?_) hS rfl (fun V hV => ?_) (fun V hV f hf => ?_) (by simp only [Act.put, List.setIfInBounds_toArray, List.set_cons_succ, List.set_cons_zero]; rfl) ?_
       rotate_left
       · first
         | (go_simp; with_reducible rfl)
         | (obtain ⟨a0, a1, a2, a3, a4, a5, a6⟩ := cells7 (Boxes.at_ (B := w.heap.size) (c := ⟨log, th, pol, wt, sp, yi, single⟩) hV (by simp)); obtain ⟨b0, b1, b2, b3, b4, b5, b6⟩ := cells7 (Boxes.at_ (B := w1.heap.size) (c := ⟨log, th2, pol2, wt2, sp2, yi2, single2⟩) hV (by simp)); obtain ⟨d0, d1, d2, d3, d4, d5, d6⟩ := cells7 (Boxes.at_ (B := w1.heap.size + 1) (c := ⟨log, th + 1, pol, wt, sp, yi, single⟩) hV (by simp)); go_simp; with_reducible rfl)
       · trivial))
  refine Ord.only rfl ?_
  go_simp
  refine ⟨trivial, rfl, (callsIn_wide.2 (C6 _)).mono ?_⟩
  rintro e w8 ⟨rfl, hb⟩
  replace hS := hS.on hb
  refine ⟨hS, ?_⟩
  clear hb
  repeat (first
    | (refine Ord.idle hS rfl (fun V hV f hf => ?_) (by simp only [Act.put, List.setIfInBounds_toArray, List.set_cons_succ, List.set_cons_zero]; rfl) ?_
       · trivial)
    | (refine Ord.calm (v := ?_) hS rfl (fun V hV => ?_) (fun V hV f hf => ?_) (by simp only [Act.put, List.setIfInBounds_toArray, List.set_cons_succ, List.set_cons_zero]; rfl) ?_
       rotate_left
       · first
         | (go_simp; with_reducible rfl)
         | (obtain ⟨a0, a1, a2, a3, a4, a5, a6⟩ := cells7 (Boxes.at_ (B := w.heap.size) (c := ⟨log, th, pol, wt, sp, yi, single⟩) hV (by simp)); obtain ⟨b0, b1, b2, b3, b4, b5, b6⟩ := cells7 (Boxes.at_ (B := w1.heap.size) (c := ⟨log, th2, pol2, wt2, sp2, yi2, single2⟩) hV (by simp)); obtain ⟨d0, d1, d2, d3, d4, d5, d6⟩ := cells7 (Boxes.at_ (B := w1.heap.size + 1) (c := ⟨log, th + 1, pol, wt, sp, yi, single⟩) hV (by simp)); go_simp; with_reducible rfl)
       · trivial))
  simp only [Ord, Exit.then]
  have hB := hS.2
  clear hS C1 C2 C3 C5 C6 C7
  go_wp2
  go_ret
  exact ⟨rfl, hB⟩

set_option maxRecDepth 100000 in
set_option maxHeartbeats 4000000 in
theorem confAlike_e16 (c d : Cfg) (w : World) (h : c.ok = true) (he : Cfg.ok { d with log := c.log } = true) (h16 : c.th = 16) : Calls Try.prog 8 #[c.val, d.val] w fun e w' => e = .returned (.bool true) ∧ Below w.heap.size w w' := by
  have C1 := fun W => check_ok _ W h
  have C2 := fun W => check_ok _ W he
  have C3 := fun W => room_any c W
  have C4 := fun W => room_at c.room _ W (alike_room c d h he)
  have C5 := fun W => room_at 0 { c with th := 17 } W (by simp [Cfg.room, (more_th c h).2 h16])
  clear h he
  obtain ⟨log, th, pol, wt, sp, yi, single⟩ := c
  obtain ⟨log2, th2, pol2, wt2, sp2, yi2, single2⟩ := d
  dsimp only at h16
  subst h16
  generalize Cfg.room ⟨log, 16, pol, wt, sp, yi, single⟩ = r at *
  go_enter Try.func8, Try.ntmps8
  go_wp2_with fail
  refine (awake_any _).mono ?_
  rintro e w1 ⟨rfl, hb⟩
  have hS0 := (((Boxes.nil w 23).add ⟨log, 16, pol, wt, sp, yi, single⟩).add ⟨log2, th2, pol2, wt2, sp2, yi2, single2⟩).on hb
  rw [World.size_alloc] at hS0
  clear hb
  obtain ⟨c0, c1, c2, c3, c4, c5, c6⟩ := cells7 (hS0.at_ (B := w.heap.size) (c := ⟨log, 16, pol, wt, sp, yi, single⟩) (by simp))
  obtain ⟨d0, d1, d2, d3, d4, d5, d6⟩ := cells7 (hS0.at_ (B := w.heap.size + 1) (c := ⟨log2, th2, pol2, wt2, sp2, yi2, single2⟩) (by simp))
  have hlt := (Array.getElem?_eq_some_iff.1 (hS0.at_ (B := w.heap.size + 1) (c := ⟨log2, th2, pol2, wt2, sp2, yi2, single2⟩) (by simp))).1
  have hn0 : w.heap.size < w1.heap.size := by omega
  have hn1 : w.heap.size < w1.heap.size + 1 := by omega
  have hn2 : w.heap.size + 1 < w1.heap.size + 1 := by omega
  have hp1 : w.heap.size ≤ w1.heap.size := by omega
  have hp2 : w.heap.size + 1 ≤ w1.heap.size := by omega
  go_wp2
  have hS : Boxes w [(w1.heap.size + 1, ⟨log, 17, pol, wt, sp, yi, single⟩), (w1.heap.size, ⟨log, th2, pol2, wt2, sp2, yi2, single2⟩), (w.heap.size + 1, ⟨log2, th2, pol2, wt2, sp2, yi2, single2⟩), (w.heap.size, ⟨log, 16, pol, wt, sp, yi, single⟩)] 23 ((w1.alloc (.cells (Cfg.cells ⟨log, th2, pol2, wt2, sp2, yi2, single2⟩) 23)).alloc (.cells (Cfg.cells ⟨log, 17, pol, wt, sp, yi, single⟩) 23)).drew := by
    have h := ((hS0.add ⟨log, th2, pol2, wt2, sp2, yi2, single2⟩).add ⟨log, 17, pol, wt, sp, yi, single⟩).drew
    rwa [World.size_alloc] at h
  clear hS0 hlt hn0 hn1 hn2 hp1 hp2 c0 c1 c2 c3 c4 c5 c6 d0 d1 d2 d3 d4 d5 d6
  refine wp_region_ord (S := Boxes w [(w1.heap.size + 1, ⟨log, 17, pol, wt, sp, yi, single⟩), (w1.heap.size, ⟨log, th2, pol2, wt2, sp2, yi2, single2⟩), (w.heap.size + 1, ⟨log2, th2, pol2, wt2, sp2, yi2, single2⟩), (w.heap.size, ⟨log, 16, pol, wt, sp, yi, single⟩)] 23) (by kernel_rfl)
    [(true, 0), (false, 1), (true, 2), (true, 3), (true, 4), (false, 5), (true, 6), (true, 7), (true, 8), (true, 9), (true, 11), (false, 10), (false, 12), (true, 13), (true, 14), (true, 15)]
    (by kernel_rfl) (by kernel_rfl) (by kernel_rfl) (fun _ _ d _ _ h => by cases d <;> exact h) ?_
  simp only [inOrder, List.getElem?_cons_succ, List.getElem?_cons_zero, List.nil_append, List.cons_append]
  repeat (first
    | (refine Ord.idle hS rfl (fun V hV f hf => ?_) (by simp only [Act.put, List.setIfInBounds_toArray, List.set_cons_succ, List.set_cons_zero]; rfl) ?_
       · trivial)
    | (refine Ord.calm (v := ?_) hS rfl (fun V hV => ?_) (fun V hV f hf => ?_) (by simp only [Act.put, List.setIfInBounds_toArray, List.set_cons_succ, List.set_cons_zero]; rfl) ?_
       rotate_left
       · first
         | (go_simp; with_reducible rfl)
         | (obtain ⟨a0, a1, a2, a3, a4, a5, a6⟩ := cells7 (Boxes.at_ (B := w.heap.size) (c := ⟨log, 16, pol, wt, sp, yi, single⟩) hV (by simp)); obtain ⟨b0, b1, b2, b3, b4, b5, b6⟩ := cells7 (Boxes.at_ (B := w1.heap.size) (c := ⟨log, th2, pol2, wt2, sp2, yi2, single2⟩) hV (by simp)); obtain ⟨d0, d1, d2, d3, d4, d5, d6⟩ := cells7 (Boxes.at_ (B := w1.heap.size + 1) (c := ⟨log, 17, pol, wt, sp, yi, single⟩) hV (by simp)); go_simp; with_reducible rfl)
       · trivial))
  refine Ord.only rfl ?_
  go_simp
  refine ⟨trivial, rfl, (callsIn_wide.2 (C1 _)).mono ?_⟩
  rintro e w2 ⟨rfl, hb⟩
  replace hS := hS.on hb
  refine ⟨hS, ?_⟩
  clear hb
  repeat (first
    | (refine Ord.idle hS rfl (fun V hV f hf => ?_) (by simp only [Act.put, List.setIfInBounds_toArray, List.set_cons_succ, List.set_cons_zero]; rfl) ?_
       · trivial)
    | (refine Ord.calm (v := ?_) hS rfl (fun V hV => ?_) (fun V hV f hf => ?_) (by simp only [Act.put, List.setIfInBounds_toArray, List.set_cons_succ, List.set_cons_zero]; rfl) ?_
       rotate_left
       · first
         | (go_simp; with_reducible rfl)
         | (obtain ⟨a0, a1, a2, a3, a4, a5, a6⟩ := cells7 (Boxes.at_ (B := w.heap.size) (c := ⟨log, 16, pol, wt, sp, yi, single⟩) hV (by simp)); obtain ⟨b0, b1, b2, b3, b4, b5, b6⟩ := cells7 (Boxes.at_ (B := w1.heap.size) (c := ⟨log, th2, pol2, wt2, sp2, yi2, single2⟩) hV (by simp)); obtain ⟨d0, d1, d2, d3, d4, d5, d6⟩ := cells7 (Boxes.at_ (B := w1.heap.size + 1) (c := ⟨log, 17, pol, wt, sp, yi, single⟩) hV (by simp)); go_simp; with_reducible rfl)
       · trivial))
  refine Ord.only rfl ?_
  go_simp
  refine ⟨trivial, rfl, (callsIn_wide.2 (C2 _)).mono ?_⟩
  rintro e w3 ⟨rfl, hb⟩
  replace hS := hS.on hb
  refine ⟨hS, ?_⟩
  clear hb
  repeat (first
    | (refine Ord.idle hS rfl (fun V hV f hf => ?_) (by simp only [Act.put, List.setIfInBounds_toArray, List.set_cons_succ, List.set_cons_zero]; rfl) ?_
       · trivial)
    | (refine Ord.calm (v := ?_) hS rfl (fun V hV => ?_) (fun V hV f hf => ?_) (by simp only [Act.put, List.setIfInBounds_toArray, List.set_cons_succ, List.set_cons_zero]; rfl) ?_
       rotate_left
       · first
         | (go_simp; with_reducible rfl)
         | (obtain ⟨a0, a1, a2, a3, a4, a5, a6⟩ := cells7 (Boxes.at_ (B := w.heap.size) (c := ⟨log, 16, pol, wt, sp, yi, single⟩) hV (by simp)); obtain ⟨b0, b1, b2, b3, b4, b5, b6⟩ := cells7 (Boxes.at_ (B := w1.heap.size) (c := ⟨log, th2, pol2, wt2, sp2, yi2, single2⟩) hV (by simp)); obtain ⟨d0, d1, d2, d3, d4, d5, d6⟩ := cells7 (Boxes.at_ (B := w1.heap.size + 1) (c := ⟨log, 17, pol, wt, sp, yi, single⟩) hV (by simp)); go_simp; with_reducible rfl)
       · trivial))
  refine Ord.only rfl ?_
  go_simp
  refine ⟨trivial, rfl, (callsIn_wide.2 (C3 _)).mono ?_⟩
  rintro e w4 ⟨rfl, hb⟩
  replace hS := hS.on hb
  refine ⟨hS, ?_⟩
  clear hb
  repeat (first
    | (refine Ord.idle hS rfl (fun V hV f hf => ?_) (by simp only [Act.put, List.setIfInBounds_toArray, List.set_cons_succ, List.set_cons_zero]; rfl) ?_
       · trivial)
    | (refine Ord.calm (v := ?_) hS rfl (fun V hV => ?_) (fun V hV f hf => ?_) (by simp only [Act.put, List.setIfInBounds_toArray, List.set_cons_succ, List.set_cons_zero]; rfl) ?_
       rotate_left
       · first
         | (go_simp; with_reducible rfl)
         | (obtain ⟨a0, a1, a2, a3, a4, a5, a6⟩ := cells7 (Boxes.at_ (B := w.heap.size) (c := ⟨log, 16, pol, wt, sp, yi, single⟩) hV (by simp)); obtain ⟨b0, b1, b2, b3, b4, b5, b6⟩ := cells7 (Boxes.at_ (B := w1.heap.size) (c := ⟨log, th2, pol2, wt2, sp2, yi2, single2⟩) hV (by simp)); obtain ⟨d0, d1, d2, d3, d4, d5, d6⟩ := cells7 (Boxes.at_ (B := w1.heap.size + 1) (c := ⟨log, 17, pol, wt, sp, yi, single⟩) hV (by simp)); go_simp; with_reducible rfl)
       · trivial))
  refine Ord.only rfl ?_
  go_simp
  refine ⟨trivial, rfl, (callsIn_wide.2 (C4 _)).mono ?_⟩
  rintro e w5 ⟨rfl, hb⟩
  replace hS := hS.on hb
  refine ⟨hS, ?_⟩
  clear hb
  repeat (first
    | (refine Ord.idle hS rfl (fun V hV f hf => ?_) (by simp only [Act.put, List.setIfInBounds_toArray, List.set_cons_succ, List.set_cons_zero]; rfl) ?_
       · trivial)
    | (refine Ord.calm (v := ?_) hS rfl (fun V hV => ?_) (fun V hV f hf => ?_) (by simp only [Act.put, List.setIfInBounds_toArray, List.set_cons_succ, List.set_cons_zero]; rfl) ?_
       rotate_left
       · first
         | (go_simp; with_reducible rfl)
         | (obtain ⟨a0, a1, a2, a3, a4, a5, a6⟩ := cells7 (Boxes.at_ (B := w.heap.size) (c := ⟨log, 16, pol, wt, sp, yi, single⟩) hV (by simp)); obtain ⟨b0, b1, b2, b3, b4, b5, b6⟩ := cells7 (Boxes.at_ (B := w1.heap.size) (c := ⟨log, th2, pol2, wt2, sp2, yi2, single2⟩) hV (by simp)); obtain ⟨d0, d1, d2, d3, d4, d5, d6⟩ := cells7 (Boxes.at_ (B := w1.heap.size + 1) (c := ⟨log, 17, pol, wt, sp, yi, single⟩) hV (by simp)); go_simp; with_reducible rfl)
       · trivial))
  simp only [Ord, Exit.then]
  go_wp2
  replace hS := hS.drew
  refine wp_region_ord (S := Boxes w [(w1.heap.size + 1, ⟨log, 17, pol, wt, sp, yi, single⟩), (w1.heap.size, ⟨log, th2, pol2, wt2, sp2, yi2, single2⟩), (w.heap.size + 1, ⟨log2, th2, pol2, wt2, sp2, yi2, single2⟩), (w.heap.size, ⟨log, 16, pol, wt, sp, yi, single⟩)] 23) (by kernel_rfl)
    [(true, 0), (false, 1), (true, 2), (true, 3), (true, 4), (true, 5), (true, 6), (true, 7), (true, 8), (false, 9), (true, 10), (true, 11), (true, 12), (true, 13), (true, 14), (true, 15), (true, 16), (true, 17), (true, 18), (true, 20), (false, 19), (false, 21), (true, 22), (true, 23), (true, 24), (true, 25), (true, 27), (false, 26), (false, 28), (true, 29), (true, 30), (true, 31), (true, 32)]
    (by kernel_rfl) (by kernel_rfl) (by kernel_rfl) (fun _ _ d _ _ h => by cases d <;> exact h) ?_
  simp only [inOrder, List.getElem?_cons_succ, List.getElem?_cons_zero, List.nil_append, List.cons_append]
  repeat (first
    | (refine Ord.idle hS rfl (fun V hV f hf => ?_) (by simp only [Act.put, List.setIfInBounds_toArray, List.set_cons_succ, List.set_cons_zero]; rfl) ?_
       · trivial)
    | (refine Ord.calm (v := ?_) hS rfl (fun V hV => ?_) (fun V hV f hf => ?_) (by simp only [Act.put, List.setIfInBounds_toArray, List.set_cons_succ, List.set_cons_zero]; rfl) ?_
       rotate_left
       · first
         | (go_simp; with_reducible rfl)
         | (obtain ⟨a0, a1, a2, a3, a4, a5, a6⟩ := cells7 (Boxes.at_ (B := w.heap.size) (c := ⟨log, 16, pol, wt, sp, yi, single⟩) hV (by simp)); obtain ⟨b0, b1, b2, b3, b4, b5, b6⟩ := cells7 (Boxes.at_ (B := w1.heap.size) (c := ⟨log, th2, pol2, wt2, sp2, yi2, single2⟩) hV (by simp)); obtain ⟨d0, d1, d2, d3, d4, d5, d6⟩ := cells7 (Boxes.at_ (B := w1.heap.size + 1) (c := ⟨log, 17, pol, wt, sp, yi, single⟩) hV (by simp)); go_simp; with_reducible rfl)
       · trivial))
  refine Ord.only rfl ?_
  go_simp
  refine ⟨trivial, rfl, (callsIn_wide.2 (C1 _)).mono ?_⟩
  rintro e w6 ⟨rfl, hb⟩
  replace hS := hS.on hb
  refine ⟨hS, ?_⟩
  clear hb
  repeat (first
    | (refine Ord.idle hS rfl (fun V hV f hf => ?_) (by simp only [Act.put, List.setIfInBounds_toArray, List.set_cons_succ, List.set_cons_zero]; rfl) ?_
       · trivial)
    | (refine Ord.calm (v := ?_) hS rfl (fun V hV => ?_) (fun V hV f hf => ?_) (by simp only [Act.put, List.setIfInBounds_toArray, List.set_cons_succ, List.set_cons_zero]; rfl) ?_
       rotate_left
       · first
         | (go_simp; with_reducible rfl)
         | (obtain ⟨a0, a1, a2, a3, a4, a5, a6⟩ := cells7 (Boxes.at_ (B := w.heap.size) (c := ⟨log, 16, pol, wt, sp, yi, single⟩) hV (by simp)); obtain ⟨b0, b1, b2, b3, b4, b5, b6⟩ := cells7 (Boxes.at_ (B := w1.heap.size) (c := ⟨log, th2, pol2, wt2, sp2, yi2, single2⟩) hV (by simp)); obtain ⟨d0, d1, d2, d3, d4, d5, d6⟩ := cells7 (Boxes.at_ (B := w1.heap.size + 1) (c := ⟨log, 17, pol, wt, sp, yi, single⟩) hV (by simp)); go_simp; with_reducible rfl)
       · trivial))
  refine Ord.only rfl ?_
  go_simp
  refine ⟨trivial, rfl, (callsIn_wide.2 (C5 _)).mono ?_⟩
  rintro e w7 ⟨rfl, hb⟩
  replace hS := hS.on hb
  refine ⟨hS, ?_⟩
  clear hb
  repeat (first
    | (refine Ord.idle hS rfl (fun V hV f hf => ?_) (by simp only [Act.put, List.setIfInBounds_toArray, List.set_cons_succ, List.set_cons_zero]; rfl) ?_
       · trivial)
    | (refine Ord.calm (v := ?_) hS rfl (fun V hV => ?_) (fun V hV f hf => ?_) (by simp only [Act.put, List.setIfInBounds_toArray, List.set_cons_succ, List.set_cons_zero]; rfl) ?_
       rotate_left
       · first
         | (go_simp; with_reducible rfl)
         | (obtain ⟨a0, a1, a2, a3, a4, a5, a6⟩ := cells7 (Boxes.at_ (B := w.heap.size) (c := ⟨log, 16, pol, wt, sp, yi, single⟩) hV (by simp)); obtain ⟨b0, b1, b2, b3, b4, b5, b6⟩ := cells7 (Boxes.at_ (B := w1.heap.size) (c := ⟨log, th2, pol2, wt2, sp2, yi2, single2⟩) hV (by simp)); obtain ⟨d0, d1, d2, d3, d4, d5, d6⟩ := cells7 (Boxes.at_ (B := w1.heap.size + 1) (c := ⟨log, 17, pol, wt, sp, yi, single⟩) hV (by simp)); go_simp; with_reducible rfl)
       · trivial))
  simp only [Ord, Exit.then]
  have hB := hS.2
  clear hS C1 C2 C3 C4 C5
  go_wp2
  go_ret
  exact ⟨rfl, hB⟩

set_option maxRecDepth 100000 in
set_option maxHeartbeats 4000000 in
theorem confAlike_eless (c d : Cfg) (w : World) (h : c.ok = true) (he : Cfg.ok { d with log := c.log } = true) (hl : c.th < 16) : Calls Try.prog 8 #[c.val, d.val] w fun e w' => e = .returned (.bool true) ∧ Below w.heap.size w w' := by
  have b1 : 1 ≤ c.th := ((Cfg.ok_iff c).1 h).2.1.1
  have C1 := fun W => check_ok _ W h
  have C2 := fun W => check_ok _ W he
  have C3 := fun W => room_any c W
  have C4 := fun W => room_at c.room _ W (alike_room c d h he)
  have C5 := fun W => room_at c.room _ W (more_room c h hl)
  have C6 := fun W => conf_tries c W
  have C7 := fun W => tries_at c.tries _ W (more_tries c h hl)
  clear h he
  obtain ⟨log, th, pol, wt, sp, yi, single⟩ := c
  obtain ⟨log2, th2, pol2, wt2, sp2, yi2, single2⟩ := d
  dsimp only at hl b1
  have hb : (th == 16) = false := by simp; omega
  have hb2 : decide (th < 16) = true := by simpa using hl
  generalize Cfg.room ⟨log, th, pol, wt, sp, yi, single⟩ = r at *
  generalize Cfg.tries ⟨log, th, pol, wt, sp, yi, single⟩ = k at *
  go_enter Try.func8, Try.ntmps8
  go_wp2_with fail
  refine (awake_any _).mono ?_
  rintro e w1 ⟨rfl, hb⟩
  have hS0 := (((Boxes.nil w 23).add ⟨log, th, pol, wt, sp, yi, single⟩).add ⟨log2, th2, pol2, wt2, sp2, yi2, single2⟩).on hb
  rw [World.size_alloc] at hS0
  clear hb
  obtain ⟨c0, c1, c2, c3, c4, c5, c6⟩ := cells7 (hS0.at_ (B := w.heap.size) (c := ⟨log, th, pol, wt, sp, yi, single⟩) (by simp))
  obtain ⟨d0, d1, d2, d3, d4, d5, d6⟩ := cells7 (hS0.at_ (B := w.heap.size + 1) (c := ⟨log2, th2, pol2, wt2, sp2, yi2, single2⟩) (by simp))
  have hlt := (Array.getElem?_eq_some_iff.1 (hS0.at_ (B := w.heap.size + 1) (c := ⟨log2, th2, pol2, wt2, sp2, yi2, single2⟩) (by simp))).1
  have hn0 : w.heap.size < w1.heap.size := by omega
  have hn1 : w.heap.size < w1.heap.size + 1 := by omega
  have hn2 : w.heap.size + 1 < w1.heap.size + 1 := by omega
  have hp1 : w.heap.size ≤ w1.heap.size := by omega
  have hp2 : w.heap.size + 1 ≤ w1.heap.size := by omega
  go_wp2
  have hS : Boxes w [(w1.heap.size + 1, ⟨log, th + 1, pol, wt, sp, yi, single⟩), (w1.heap.size, ⟨log, th2, pol2, wt2, sp2, yi2, single2⟩), (w.heap.size + 1, ⟨log2, th2, pol2, wt2, sp2, yi2, single2⟩), (w.heap.size, ⟨log, th, pol, wt, sp, yi, single⟩)] 23 ((w1.alloc (.cells (Cfg.cells ⟨log, th2, pol2, wt2, sp2, yi2, single2⟩) 23)).alloc (.cells (Cfg.cells ⟨log, th + 1, pol, wt, sp, yi, single⟩) 23)).drew := by
    have h := ((hS0.add ⟨log, th2, pol2, wt2, sp2, yi2, single2⟩).add ⟨log, th + 1, pol, wt, sp, yi, single⟩).drew
    rwa [World.size_alloc] at h
  clear hS0 hlt hn0 hn1 hn2 hp1 hp2 c0 c1 c2 c3 c4 c5 c6 d0 d1 d2 d3 d4 d5 d6
  refine wp_region_ord (S := Boxes w [(w1.heap.size + 1, ⟨log, th + 1, pol, wt, sp, yi, single⟩), (w1.heap.size, ⟨log, th2, pol2, wt2, sp2, yi2, single2⟩), (w.heap.size + 1, ⟨log2, th2, pol2, wt2, sp2, yi2, single2⟩), (w.heap.size, ⟨log, th, pol, wt, sp, yi, single⟩)] 23) (by kernel_rfl)
    [(true, 0), (false, 1), (true, 2), (true, 3), (true, 4), (false, 5), (true, 6), (true, 7), (true, 8), (true, 9), (true, 11), (false, 10), (false, 12), (true, 13), (true, 14), (true, 15)]
    (by kernel_rfl) (by kernel_rfl) (by kernel_rfl) (fun _ _ d _ _ h => by cases d <;> exact h) ?_
  simp only [inOrder, List.getElem?_cons_succ, List.getElem?_cons_zero, List.nil_append, List.cons_append]
  repeat (first
    | (refine Ord.idle hS rfl (fun V hV f hf => ?_) (by simp only [Act.put, List.setIfInBounds_toArray, List.set_cons_succ, List.set_cons_zero]; rfl) ?_
       · trivial)
    | (refine Ord.calm (v := ?_) hS rfl (fun V hV => ?_) (fun V hV f hf => ?_) (by simp only [Act.put, List.setIfInBounds_toArray, List.set_cons_succ, List.set_cons_zero]; rfl) ?_
       rotate_left
       · first
         | (go_simp; with_reducible rfl)
         | (obtain ⟨a0, a1, a2, a3, a4, a5, a6⟩ := cells7 (Boxes.at_ (B := w.heap.size) (c := ⟨log, th, pol, wt, sp, yi, single⟩) hV (by simp)); obtain ⟨b0, b1, b2, b3, b4, b5, b6⟩ := cells7 (Boxes.at_ (B := w1.heap.size) (c := ⟨log, th2, pol2, wt2, sp2, yi2, single2⟩) hV (by simp)); obtain ⟨d0, d1, d2, d3, d4, d5, d6⟩ := cells7 (Boxes.at_ (B := w1.heap.size + 1) (c := ⟨log, th + 1, pol, wt, sp, yi, single⟩) hV (by simp)); go_simp; with_reducible rfl)
       · trivial))
  refine Ord.only rfl ?_
  go_simp
  refine ⟨trivial, rfl, (callsIn_wide.2 (C1 _)).mono ?_⟩
  rintro e w2 ⟨rfl, hb⟩
  replace hS := hS.on hb
  refine ⟨hS, ?_⟩
  clear hb
  repeat (first
    | (refine Ord.idle hS rfl (fun V hV f hf => ?_) (by simp only [Act.put, List.setIfInBounds_toArray, List.set_cons_succ, List.set_cons_zero]; rfl) ?_
       · trivial)
    | (refine Ord.calm (v := ?_) hS rfl (fun V hV => ?_) (fun V hV f hf => ?_) (by simp only [Act.put, List.setIfInBounds_toArray, List.set_cons_succ, List.set_cons_zero]; rfl) ?_
       rotate_left
       · first
         | (go_simp; with_reducible rfl)
         | (obtain ⟨a0, a1, a2, a3, a4, a5, a6⟩ := cells7 (Boxes.at_ (B := w.heap.size) (c := ⟨log, th, pol, wt, sp, yi, single⟩) hV (by simp)); obtain ⟨b0, b1, b2, b3, b4, b5, b6⟩ := cells7 (Boxes.at_ (B := w1.heap.size) (c := ⟨log, th2, pol2, wt2, sp2, yi2, single2⟩) hV (by simp)); obtain ⟨d0, d1, d2, d3, d4, d5, d6⟩ := cells7 (Boxes.at_ (B := w1.heap.size + 1) (c := ⟨log, th + 1, pol, wt, sp, yi, single⟩) hV (by simp)); go_simp; with_reducible rfl)
       · trivial))
  refine Ord.only rfl ?_
  go_simp
  refine ⟨trivial, rfl, (callsIn_wide.2 (C2 _)).mono ?_⟩
  rintro e w3 ⟨rfl, hb⟩
  replace hS := hS.on hb
  refine ⟨hS, ?_⟩
  clear hb
  repeat (first
    | (refine Ord.idle hS rfl (fun V hV f hf => ?_) (by simp only [Act.put, List.setIfInBounds_toArray, List.set_cons_succ, List.set_cons_zero]; rfl) ?_
       · trivial)
    | (refine Ord.calm (v := ?_) hS rfl (fun V hV => ?_) (fun V hV f hf => ?_) (by simp only [Act.put, List.setIfInBounds_toArray, List.set_cons_succ, List.set_cons_zero]; rfl) ?_
       rotate_left
       · first
         | (go_simp; with_reducible rfl)
         | (obtain ⟨a0, a1, a2, a3, a4, a5, a6⟩ := cells7 (Boxes.at_ (B := w.heap.size) (c := ⟨log, th, pol, wt, sp, yi, single⟩) hV (by simp)); obtain ⟨b0, b1, b2, b3, b4, b5, b6⟩ := cells7 (Boxes.at_ (B := w1.heap.size) (c := ⟨log, th2, pol2, wt2, sp2, yi2, single2⟩) hV (by simp)); obtain ⟨d0, d1, d2, d3, d4, d5, d6⟩ := cells7 (Boxes.at_ (B := w1.heap.size + 1) (c := ⟨log, th + 1, pol, wt, sp, yi, single⟩) hV (by simp)); go_simp; with_reducible rfl)
       · trivial))
  refine Ord.only rfl ?_
  go_simp
  refine ⟨trivial, rfl, (callsIn_wide.2 (C3 _)).mono ?_⟩
  rintro e w4 ⟨rfl, hb⟩
  replace hS := hS.on hb
  refine ⟨hS, ?_⟩
  clear hb
  repeat (first
    | (refine Ord.idle hS rfl (fun V hV f hf => ?_) (by simp only [Act.put, List.setIfInBounds_toArray, List.set_cons_succ, List.set_cons_zero]; rfl) ?_
       · trivial)
    | (refine Ord.calm (v := ?_) hS rfl (fun V hV => ?_) (fun V hV f hf => ?_) (by simp only [Act.put, List.setIfInBounds_toArray, List.set_cons_succ, List.set_cons_zero]; rfl) ?_
       rotate_left
       · first
         | (go_simp; with_reducible rfl)
         | (obtain ⟨a0, a1, a2, a3, a4, a5, a6⟩ := cells7 (Boxes.at_ (B := w.heap.size) (c := ⟨log, th, pol, wt, sp, yi, single⟩) hV (by simp)); obtain ⟨b0, b1, b2, b3, b4, b5, b6⟩ := cells7 (Boxes.at_ (B := w1.heap.size) (c := ⟨log, th2, pol2, wt2, sp2, yi2, single2⟩) hV (by simp)); obtain ⟨d0, d1, d2, d3, d4, d5, d6⟩ := cells7 (Boxes.at_ (B := w1.heap.size + 1) (c := ⟨log, th + 1, pol, wt, sp, yi, single⟩) hV (by simp)); go_simp; with_reducible rfl)
       · trivial))
  refine Ord.only rfl ?_
  go_simp
  refine ⟨trivial, rfl, (callsIn_wide.2 (C4 _)).mono ?_⟩
  rintro e w5 ⟨rfl, hb⟩
  replace hS := hS.on hb
  refine ⟨hS, ?_⟩
  clear hb
  repeat (first
    | (refine Ord.idle hS rfl (fun V hV f hf => ?_) (by simp only [Act.put, List.setIfInBounds_toArray, List.set_cons_succ, List.set_cons_zero]; rfl) ?_
       · trivial)
    | (refine Ord.calm (v := ?_) hS rfl (fun V hV => ?_) (fun V hV f hf => ?_) (by simp only [Act.put, List.setIfInBounds_toArray, List.set_cons_succ, List.set_cons_zero]; rfl) ?_
       rotate_left
       · first
         | (go_simp; with_reducible rfl)
         | (obtain ⟨a0, a1, a2, a3, a4, a5, a6⟩ := cells7 (Boxes.at_ (B := w.heap.size) (c := ⟨log, th, pol, wt, sp, yi, single⟩) hV (by simp)); obtain ⟨b0, b1, b2, b3, b4, b5, b6⟩ := cells7 (Boxes.at_ (B := w1.heap.size) (c := ⟨log, th2, pol2, wt2, sp2, yi2, single2⟩) hV (by simp)); obtain ⟨d0, d1, d2, d3, d4, d5, d6⟩ := cells7 (Boxes.at_ (B := w1.heap.size + 1) (c := ⟨log, th + 1, pol, wt, sp, yi, single⟩) hV (by simp)); go_simp; with_reducible rfl)
       · trivial))
  simp only [Ord, Exit.then]
  go_wp2
  replace hS := hS.drew
  refine wp_region_ord (S := Boxes w [(w1.heap.size + 1, ⟨log, th + 1, pol, wt, sp, yi, single⟩), (w1.heap.size, ⟨log, th2, pol2, wt2, sp2, yi2, single2⟩), (w.heap.size + 1, ⟨log2, th2, pol2, wt2, sp2, yi2, single2⟩), (w.heap.size, ⟨log, th, pol, wt, sp, yi, single⟩)] 23) (by kernel_rfl)
    [(true, 0), (false, 1), (true, 2), (true, 3), (true, 4), (true, 5), (true, 6), (true, 7), (true, 8), (false, 9), (true, 10), (true, 11), (true, 12), (true, 13), (true, 14), (true, 15), (true, 16), (true, 17), (true, 18), (true, 20), (false, 19), (false, 21), (true, 22), (true, 23), (true, 24), (true, 25), (true, 27), (false, 26), (false, 28), (true, 29), (true, 30), (true, 31), (true, 32)]
    (by kernel_rfl) (by kernel_rfl) (by kernel_rfl) (fun _ _ d _ _ h => by cases d <;> exact h) ?_
  simp only [inOrder, List.getElem?_cons_succ, List.getElem?_cons_zero, List.nil_append, List.cons_append]
  repeat (first
    | (refine Ord.idle hS rfl (fun V hV f hf => ?_) (by simp only [Act.put, List.setIfInBounds_toArray, List.set_cons_succ, List.set_cons_zero]; rfl) ?_
       · trivial)
    | (refine Ord.calm (v := ?_) hS rfl (fun V hV => ?_) (fun V hV f hf => ?_) (by simp only [Act.put, List.setIfInBounds_toArray, List.set_cons_succ, List.set_cons_zero]; rfl) ?_
       rotate_left
       · first
         | (go_simp; with_reducible rfl)
         | (obtain ⟨a0, a1, a2, a3, a4, a5, a6⟩ := cells7 (Boxes.at_ (B := w.heap.size) (c := ⟨log, th, pol, wt, sp, yi, single⟩) hV (by simp)); obtain ⟨b0, b1, b2, b3, b4, b5, b6⟩ := cells7 (Boxes.at_ (B := w1.heap.size) (c := ⟨log, th2, pol2, wt2, sp2, yi2, single2⟩) hV (by simp)); obtain ⟨d0, d1, d2, d3, d4, d5, d6⟩ := cells7 (Boxes.at_ (B := w1.heap.size + 1) (c := ⟨log, th + 1, pol, wt, sp, yi, single⟩) hV (by simp)); go_simp; with_reducible rfl)
       · trivial))
  refine Ord.only rfl ?_
  go_simp
  refine ⟨trivial, rfl, (callsIn_wide.2 (C1 _)).mono ?_⟩
  rintro e w6 ⟨rfl, hb⟩
  replace hS := hS.on hb
  refine ⟨hS, ?_⟩
  clear hb
  repeat (first
    | (refine Ord.idle hS rfl (fun V hV f hf => ?_) (by simp only [Act.put, List.setIfInBounds_toArray, List.set_cons_succ, List.set_cons_zero]; rfl) ?_
       · trivial)
    | (refine Ord.calm (v := ?_) hS rfl (fun V hV => ?_) (fun V hV f hf => ?_) (by simp only [Act.put, List.setIfInBounds_toArray, List.set_cons_succ, List.set_cons_zero]; rfl) ?_
       rotate_left
       · first
         | (go_simp; with_reducible rfl)
         | (obtain ⟨a0, a1, a2, a3, a4, a5, a6⟩ := cells7 (Boxes.at_ (B := w.heap.size) (c := ⟨log, th, pol, wt, sp, yi, single⟩) hV (by simp)); obtain ⟨b0, b1, b2, b3, b4, b5, b6⟩ := cells7 (Boxes.at_ (B := w1.heap.size) (c := ⟨log, th2, pol2, wt2, sp2, yi2, single2⟩) hV (by simp)); obtain ⟨d0, d1, d2, d3, d4, d5, d6⟩ := cells7 (Boxes.at_ (B := w1.heap.size + 1) (c := ⟨log, th + 1, pol, wt, sp, yi, single⟩) hV (by simp)); go_simp; with_reducible rfl)
       · trivial))
  refine Ord.only rfl ?_
  go_simp
  refine ⟨trivial, rfl, (callsIn_wide.2 (C5 _)).mono ?_⟩
  rintro e w7 ⟨rfl, hb⟩
  replace hS := hS.on hb
  refine ⟨hS, ?_⟩
  clear hb
  repeat (first
    | (refine Ord.idle hS rfl (fun V hV f hf => ?_) (by simp only [Act.put, List.setIfInBounds_toArray, List.set_cons_succ, List.set_cons_zero]; rfl) ?_
       · trivial)
    | (refine Ord.calm (v := ?_) hS rfl (fun V hV => ?_) (fun V hV f hf => ?_) (by simp only [Act.put, List.setIfInBounds_toArray, List.set_cons_succ, List.set_cons_zero]; rfl) ?_
       rotate_left
       · first
         | (go_simp; with_reducible rfl)
         | (obtain ⟨a0, a1, a2, a3, a4, a5, a6⟩ := cells7 (Boxes.at_ (B := w.heap.size) (c := ⟨log, th, pol, wt, sp, yi, single⟩) hV (by simp)); obtain ⟨b0, b1, b2, b3, b4, b5, b6⟩ := cells7 (Boxes.at_ (B := w1.heap.size) (c := ⟨log, th2, pol2, wt2, sp2, yi2, single2⟩) hV (by simp)); obtain ⟨d0, d1, d2, d3, d4, d5, d6⟩ := cells7 (Boxes.at_ (B := w1.heap.size + 1) (c := ⟨log, th + 1, pol, wt, sp, yi, single⟩) hV (by simp)); go_simp; with_reducible rfl)
       · trivial))
  refine Ord.only rfl ?_
  go_simp
  refine ⟨trivial, rfl, (callsIn_wide.2 (C3 _)).mono ?_⟩
  rintro e w8 ⟨rfl, hb⟩
  replace hS := hS.on hb
  refine ⟨hS, ?_⟩
  clear hb
  repeat (first
    | (refine Ord.idle hS rfl (fun V hV f hf => ?_) (by simp only [Act.put, List.setIfInBounds_toArray, List.set_cons_succ, List.set_cons_zero]; rfl) ?_
       · trivial)
    | (refine Ord.calm (v := ?_) hS rfl (fun V hV => ?_) (fun V hV f hf => ?_) (by simp only [Act.put, List.setIfInBounds_toArray, List.set_cons_succ, List.set_cons_zero]; rfl) ?_
       rotate_left
       · first
         | (go_simp; with_reducible rfl)
         | (obtain ⟨a0, a1, a2, a3, a4, a5, a6⟩ := cells7 (Boxes.at_ (B := w.heap.size) (c := ⟨log, th, pol, wt, sp, yi, single⟩) hV (by simp)); obtain ⟨b0, b1, b2, b3, b4, b5, b6⟩ := cells7 (Boxes.at_ (B := w1.heap.size) (c := ⟨log, th2, pol2, wt2, sp2, yi2, single2⟩) hV (by simp)); obtain ⟨d0, d1, d2, d3, d4, d5, d6⟩ := cells7 (Boxes.at_ (B := w1.heap.size + 1) (c := ⟨log, th + 1, pol, wt, sp, yi, single⟩) hV (by simp)); go_simp; with_reducible rfl)
       · trivial))
  refine Ord.only rfl ?_
  go_simp
  refine ⟨trivial, rfl, (callsIn_wide.2 (C7 _)).mono ?_⟩
  rintro e w9 ⟨rfl, hb⟩
  replace hS := hS.on hb
  refine ⟨hS, ?_⟩
  clear hb
  repeat (first
    | (refine Ord.idle hS rfl (fun V hV f hf => ?_) (by simp only [Act.put, List.setIfInBounds_toArray, List.set_cons_succ, List.set_cons_zero]; rfl) ?_
       · trivial)
    | (refine Ord.calm (v := ?_) hS rfl (fun V hV => ?_) (fun V hV f hf => ?_) (by simp only [Act.put, List.setIfInBounds_toArray, List.set_cons_succ, List.set_cons_zero]; rfl) ?_
       rotate_left
       · first
         | (go_simp; with_reducible rfl)
         | (obtain ⟨a0, a1, a2, a3, a4, a5, a6⟩ := cells7 (Boxes.at_ (B := w.heap.size) (c := ⟨log, th, pol, wt, sp, yi, single⟩) hV (by simp)); obtain ⟨b0, b1, b2, b3, b4, b5, b6⟩ := cells7 (Boxes.at_ (B := w1.heap.size) (c := ⟨log, th2, pol2, wt2, sp2, yi2, single2⟩) hV (by simp)); obtain ⟨d0, d1, d2, d3, d4, d5, d6⟩ := cells7 (Boxes.at_ (B := w1.heap.size + 1) (c := ⟨log, th + 1, pol, wt, sp, yi, single⟩) hV (by simp)); go_simp; with_reducible rfl)
       · trivial))
  refine Ord.only rfl ?_
  go_simp
  refine ⟨trivial, rfl, (callsIn_wide.2 (C6 _)).mono ?_⟩
  rintro e w10 ⟨rfl, hb⟩
  replace hS := hS.on hb
  refine ⟨hS, ?_⟩
  clear hb
  repeat (first
    | (refine Ord.idle hS rfl (fun V hV f hf => ?_) (by simp only [Act.put, List.setIfInBounds_toArray, List.set_cons_succ, List.set_cons_zero]; rfl) ?_
       · trivial)
    | (refine Ord.calm (v := ?_) hS rfl (fun V hV => ?_) (fun V hV f hf => ?_) (by simp only [Act.put, List.setIfInBounds_toArray, List.set_cons_succ, List.set_cons_zero]; rfl) ?_
       rotate_left
       · first
         | (go_simp; with_reducible rfl)
         | (obtain ⟨a0, a1, a2, a3, a4, a5, a6⟩ := cells7 (Boxes.at_ (B := w.heap.size) (c := ⟨log, th, pol, wt, sp, yi, single⟩) hV (by simp)); obtain ⟨b0, b1, b2, b3, b4, b5, b6⟩ := cells7 (Boxes.at_ (B := w1.heap.size) (c := ⟨log, th2, pol2, wt2, sp2, yi2, single2⟩) hV (by simp)); obtain ⟨d0, d1, d2, d3, d4, d5, d6⟩ := cells7 (Boxes.at_ (B := w1.heap.size + 1) (c := ⟨log, th + 1, pol, wt, sp, yi, single⟩) hV (by simp)); go_simp; with_reducible rfl)
       · trivial))
  simp only [Ord, Exit.then]
  have hB := hS.2
  clear hS C1 C2 C3 C4 C5 C6 C7
  go_wp2
  go_ret
  exact ⟨rfl, hB⟩

theorem confAlike_walk (c d : Cfg) (w : World) : Calls Try.prog 8 #[c.val, d.val] w fun e w' => e = .returned (.bool true) ∧ Below w.heap.size w w' := by
  by_cases h : c.ok = true
  · have h1 := ((Cfg.ok_iff c).1 h).2.1
    by_cases he : Cfg.ok { d with log := c.log } = true
    · by_cases h16 : c.th = 16
      · exact confAlike_e16 c d w h he h16
      · exact confAlike_eless c d w h he (by omega)
    · have he' : Cfg.ok { d with log := c.log } = false := by simpa using he
      by_cases h16 : c.th = 16
      · exact confAlike_d16 c d w h he' h16
      · exact confAlike_dless c d w h he' (by omega)
  · exact confAlike_no c d w (by simpa using h)

/-! ### The row -/
set_option maxRecDepth 100000 in
theorem confAlike_lifted (os : Os) (started : os.Started) (H : Type) (enc : TypeId × Value → H) :
    ReturnsInHanded {} Try.checked os 8 .any (Rows.confAlikeSpec.pre6 enc Try.prog Try.f8 Rows.confAlikeRow.domain false) (Rows.confAlikeSpec.post enc Try.prog Try.f8 false true false false) := by
  refine returnsInHanded_of_change (C := Try.checked) own started (by kernel_rfl) Try.func8
    (ChangeSpec.witness6 (enc := enc) (C := Try.checked) false ⟨#[], #[.agg #[.int .i64 0, .int .i64 0, .int .i64 0, .int .i64 0, .int .i64 0, .int .i64 0, .bool false], .agg #[.int .i64 0, .int .i64 0, .int .i64 0, .int .i64 0, .int .i64 0, .int .i64 0, .bool false]], []⟩ 8 (by kernel_rfl) (by kernel_rfl) (by kernel_rfl) (by kernel_rfl)) ?_
  intro W base args ds gs before hval0 hW hcnd _
  have hval : ∀ (j : Nat) t v, Try.f8.params[j]? = some t → args[j]? = some v → Value.okWide Try.prog W .any base t v := hval0
  have hW' := hW
  obtain ⟨p, q, hA0, hV, rfl, hfz, hnd⟩ := hW
  have hA : DataW.TrodAll enc Try.prog W 0 (fun _ => true) true Try.f8.params.toList args.toList ds p := hA0
  rw [Try.params8] at hA hval
  obtain ⟨v0, vs0, d0, ds0, p0, q0, hargs, rfl, rfl, h0, r0⟩ := trodAll_cons hA
  obtain ⟨v1, vs1, d1, ds1, p1, q1, rfl, rfl, rfl, h1, r1⟩ := trodAll_cons r0
  obtain ⟨rfl, rfl, rfl⟩ := trodAll_nil r1
  obtain rfl : args = #[v0, v1] := by cases args; simp_all
  obtain ⟨rfl, rfl⟩ := trodVars_none hV
  have k0 := h0
  have lt0 : ∀ x ∈ p0, x.block < W.heap.size := by obtain ⟨m, hm⟩ := k0; exact DataW.trod_lt m _ _ _ hm
  obtain ⟨c0, rfl, w0⟩ := open_cfg (hval 0 23 v0 rfl rfl) h0
  have k1 := h1
  have lt1 : ∀ x ∈ p1, x.block < W.heap.size := by obtain ⟨m, hm⟩ := k1; exact DataW.trod_lt m _ _ _ hm
  obtain ⟨c1, rfl, w1⟩ := open_cfg (hval 1 23 v1 rfl rfl) h1
  clear hA0 hval0
  refine (confAlike_walk c0 c1 W).mono fun e W' ⟨he, bel⟩ => ?_
  subst he
  exact ⟨_, rfl, _, _, _, [], _, [], hW', trodAll_mk1 (shut_bool Try.underlying4 _), (trodAll_cons_mk (Below.trod laidOut (by kernel_rfl) (of_decide_eq_true (by kernel_rfl)) k0 bel lt0) (trodAll_cons_mk (Below.trod laidOut (by kernel_rfl) (of_decide_eq_true (by kernel_rfl)) k1 bel lt1) trodAll_mk0)), rfl, bel.frame _, fun h => by cases h⟩

theorem confAlike_over : Rows.confAlikeRow.holds Try.pinned (OpenSpec.ofChange Rows.confAlikeSpec) :=
  OpenClaim.holds_of_wide 8 Try.f8 rfl rfl rfl rfl rfl rfl rfl ⟨rfl, rfl, rfl, rfl, rfl⟩ rfl rfl rfl rfl rfl (by kernel_rfl) Try.func8 (by kernel_rfl)
    (of_decide_eq_true (by kernel_rfl)) (by unfold Func.isWrapper; first | (rw [if_pos (by decide +kernel)]; kernel_rfl) | (rw [if_neg (by decide +kernel)]; exact ⟨rfl, rfl⟩))
    (fun os started H enc _ => confAlike_lifted os started H enc)

/-- The statement. -/
theorem confAlike_holds : Rows.ConfAlikeSaid := confAlike_over
#print axioms confAlike_holds

end Go.Proofs.Ytolkmpfnomeklaa
