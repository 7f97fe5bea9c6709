/-
  DERIVED. The head of the statements of layer 2: the calls whose answers the document fixes. (Printed by mk_awake2.py.)
-/
import Derived.Test.YtolkmpfnomeklaaCount
namespace Go.Proofs.Ytolkmpfnomeklaa
open Go Go.RowKit Go.Shelf

theorem room_at (r : Int) (c : Cfg) (w : World) (h : c.room = r) : Calls Try.prog 14 #[c.val] w fun e w' => e = .returned (.int .i64 r) ∧ Below w.heap.size w w' :=
  (room_any c w).mono fun _ _ ⟨he, hb⟩ => ⟨by rw [he, h], hb⟩
theorem tries_at (r : Int) (c : Cfg) (w : World) (h : c.tries = r) : Calls Try.prog 16 #[c.val] w fun e w' => e = .returned (.int .i64 r) ∧ Below w.heap.size w w' :=
  (conf_tries c w).mono fun _ _ ⟨he, hb⟩ => ⟨by rw [he, h], hb⟩
theorem count_at (n r : Int) (l : List Cfg) (A : Option Addr) (cap : Nat) (w : World) (hl : l.length ≤ 1000) (hR : ReadsC w w.heap.size A l) (hn : cnt l = n) (hr : rooms l = r) :
    Calls Try.prog 10 #[.slice A l.length cap] w fun e w' => e = .returned (.tuple #[.int .i64 n, .int .i64 r]) ∧ Below w.heap.size w w' :=
  (count_any l A cap w hl hR).mono fun _ _ ⟨he, hb⟩ => ⟨by rw [he, hn, hr], hb⟩

/-- A box's cells. -/
theorem cells7 {W : World} {B : Nat} {c : Cfg} {t : TypeId} (h : W.heap[B]? = some (.cells c.cells t (0, 0))) :
    W.cell? ⟨B, 0, none⟩ = some (.int .i64 c.log) ∧ W.cell? ⟨B, 1, none⟩ = some (.int .i64 c.th) ∧ W.cell? ⟨B, 2, none⟩ = some (.int .i64 c.pol) ∧ W.cell? ⟨B, 3, none⟩ = some (.int .i64 c.wt) ∧
    W.cell? ⟨B, 4, none⟩ = some (.int .i64 c.sp) ∧ W.cell? ⟨B, 5, none⟩ = some (.int .i64 c.yi) ∧ W.cell? ⟨B, 6, none⟩ = some (.bool c.single) :=
  ⟨(of_block h 0).1, (of_block h 1).1, (of_block h 2).1, (of_block h 3).1, (of_block h 4).1, (of_block h 5).1, (of_block h 6).1⟩

/-- Three boxes of the call's own. -/
structure Boxes3 (w : World) (c d e : Cfg) (t : TypeId) (W : World) : Prop where
  c : W.heap[w.heap.size]? = some (.cells c.cells t (0, 0))
  d : W.heap[w.heap.size + 1]? = some (.cells d.cells t (0, 0))
  e : W.heap[w.heap.size + 1 + 1]? = some (.cells e.cells t (0, 0))
  below : Below w.heap.size w W

theorem Boxes3.on {w : World} {c d e : Cfg} {t : TypeId} {W V : World} (h : Boxes3 w c d e t W) (hb : Below W.heap.size W V) : Boxes3 w c d e t V :=
  ⟨(hb.block _ (Array.getElem?_eq_some_iff.1 h.c).1).trans h.c, (hb.block _ (Array.getElem?_eq_some_iff.1 h.d).1).trans h.d, (hb.block _ (Array.getElem?_eq_some_iff.1 h.e).1).trans h.e, h.below.trans (hb.mono h.below.size)⟩
theorem Boxes3.more {w : World} {c d e : Cfg} {t : TypeId} {W : World} (h : Boxes3 w c d e t W) (o : Obj) : Boxes3 w c d e t (W.alloc o) :=
  h.on ((Below.refl _ _).alloc (Nat.le_refl _) o)
theorem Boxes3.start (w : World) (c d e : Cfg) (t : TypeId) : Boxes3 w c d e t (((w.alloc (.cells c.cells t)).alloc (.cells d.cells t)).alloc (.cells e.cells t)) := by
  have h1 := World.alloc_heap_new w (.cells c.cells t)
  have h2 := World.alloc_heap_new (w.alloc (.cells c.cells t)) (.cells d.cells t)
  have h3 := World.alloc_heap_new ((w.alloc (.cells c.cells t)).alloc (.cells d.cells t)) (.cells e.cells t)
  rw [World.size_alloc] at h2
  rw [World.size_alloc, World.size_alloc] at h3
  refine ⟨?_, ?_, h3, (((Below.refl _ w).alloc (Nat.le_refl _) _).alloc (by simp) _).alloc (by simp; omega) _⟩
  · rw [Below.heap_alloc _ _ _ (by simp; omega), Below.heap_alloc _ _ _ (by simp)]; exact h1
  · rw [Below.heap_alloc _ _ _ (by simp)]; exact h2

/-- Configurations as cells, one behind the other. -/
def flatC (l : List Cfg) : List Value := l.flatMap fun c => c.cells.toList
theorem flatC_cons (c : Cfg) (l : List Cfg) : flatC (c :: l) = c.cells.toList ++ flatC l := rfl
theorem flatC_get : ∀ (l : List Cfg) (i : Nat) (c : Cfg) (j : Nat) (v : Value), l[i]? = some c → c.cells[j]? = some v → (flatC l)[i * 7 + j]? = some v
  | [], i, c, j, v, hi, _ => by simp at hi
  | d :: l, 0, c, j, v, hi, hj => by
    obtain rfl : d = c := by simpa using hi
    have hlt : j < d.cells.toList.length := (Array.getElem?_eq_some_iff.1 hj).1
    rw [flatC_cons, Nat.zero_mul, Nat.zero_add, List.getElem?_append_left hlt]
    simpa using hj
  | d :: l, i + 1, c, j, v, hi, hj => by
    have h7 : d.cells.toList.length = 7 := rfl
    rw [flatC_cons, List.getElem?_append_right (by omega), h7, show (i + 1) * 7 + j - 7 = i * 7 + j by omega]
    exact flatC_get l i c j v (by simpa using hi) hj

/-- A block of configurations reads as these. -/
theorem readsC_block {W : World} {B b : Nat} {l : List Cfg} {cs : Array Value} {t : TypeId} (h : W.heap[b]? = some (.cells cs t (0, 0))) (hb : b < B) (hc : ∀ (k : Nat) (v : Value), (flatC l)[k]? = some v → cs[k]? = some v) :
    ReadsC W B (some ⟨b, 0, none⟩) l := fun _ =>
  ⟨b, 0, rfl, hb, fun i c hi j v hj => by rw [(of_block h _).1, Nat.zero_add]; exact hc _ _ (flatC_get l i c j v hi hj)⟩

theorem reads_new (W : World) (l : List Cfg) (t : TypeId) : ReadsC (W.alloc (.cells (flatC l).toArray t)) (W.heap.size + 1) (some ⟨W.heap.size, 0, none⟩) l :=
  readsC_block (World.alloc_heap_new W _) (by omega) (fun k v hk => by simpa using hk)

set_option maxRecDepth 100000 in
set_option maxHeartbeats 4000000 in
theorem awake_any (w : World) : Calls Try.prog 9 #[] w fun e w' => e = .returned (.bool true) ∧ Below w.heap.size w w' := by
  go_enter Try.func9, Try.ntmps9
  go_wp2_with fail
  have X0 := Boxes3.start w (⟨3, 4, 0, 2, 2, 3, false⟩ : Cfg) (⟨3, 4, 0, 3, 0, 0, false⟩ : Cfg) (⟨3, 4, 0, 0, 1, 0, false⟩ : Cfg) 23
  have R0 := reads_new (((w.alloc (.cells (⟨3, 4, 0, 2, 2, 3, false⟩ : Cfg).cells 23)).alloc (.cells (⟨3, 4, 0, 3, 0, 0, false⟩ : Cfg).cells 23)).alloc (.cells (⟨3, 4, 0, 0, 1, 0, false⟩ : Cfg).cells 23)) [(⟨3, 4, 0, 2, 2, 3, false⟩ : Cfg), (⟨3, 4, 0, 3, 0, 0, false⟩ : Cfg), (⟨3, 4, 0, 0, 1, 0, false⟩ : Cfg)] 23
  rw [World.size_alloc, World.size_alloc, World.size_alloc] at R0
  refine (count_at 2 16 [(⟨3, 4, 0, 2, 2, 3, false⟩ : Cfg), (⟨3, 4, 0, 3, 0, 0, false⟩ : Cfg), (⟨3, 4, 0, 0, 1, 0, false⟩ : Cfg)] _ _ _ (by simp) (by simp only [World.size_alloc]; exact R0) (by decide) (by decide)).mono ?_
  rintro e w1 ⟨rfl, hb⟩
  have X1 := (X0.more _).on hb
  clear X0 R0 hb
  obtain ⟨c0, c1, c2, c3, c4, c5, c6⟩ := cells7 X1.c
  go_wp2_with fail
  refine (check_ok  (⟨3, 4, 0, 2, 2, 3, false⟩ : Cfg) _ (by decide)).mono ?_
  rintro e w2 ⟨rfl, hb⟩
  have X2 := X1.on hb
  clear hb X1 c0 c1 c2 c3 c4 c5 c6
  obtain ⟨c0, c1, c2, c3, c4, c5, c6⟩ := cells7 X2.d
  go_wp2_with fail
  refine (check_ok  (⟨3, 4, 0, 3, 0, 0, false⟩ : Cfg) _ (by decide)).mono ?_
  rintro e w3 ⟨rfl, hb⟩
  have X3 := X2.on hb
  clear hb X2 c0 c1 c2 c3 c4 c5 c6
  obtain ⟨c0, c1, c2, c3, c4, c5, c6⟩ := cells7 X3.e
  go_wp2_with fail
  refine (check_no  (⟨3, 4, 0, 0, 1, 0, false⟩ : Cfg) _ (by decide)).mono ?_
  rintro e w4 ⟨rfl, hb⟩
  have X4 := X3.on hb
  clear hb X3 c0 c1 c2 c3 c4 c5 c6
  go_wp2_with fail
  refine (check_no  (⟨0, 0, 0, 0, 0, 0, false⟩ : Cfg) _ (by decide)).mono ?_
  rintro e w5 ⟨rfl, hb⟩
  have X5 := X4.on hb
  clear hb X4
  obtain ⟨c0, c1, c2, c3, c4, c5, c6⟩ := cells7 X5.c
  go_wp2_with fail
  refine (room_at 8 (⟨3, 4, 0, 2, 2, 3, false⟩ : Cfg) _ (by decide)).mono ?_
  rintro e w6 ⟨rfl, hb⟩
  have X6 := X5.on hb
  clear hb X5 c0 c1 c2 c3 c4 c5 c6
  obtain ⟨c0, c1, c2, c3, c4, c5, c6⟩ := cells7 X6.e
  go_wp2_with fail
  refine (room_at 0 (⟨3, 4, 0, 0, 1, 0, false⟩ : Cfg) _ (by decide)).mono ?_
  rintro e w7 ⟨rfl, hb⟩
  have X7 := X6.on hb
  clear hb X6 c0 c1 c2 c3 c4 c5 c6
  obtain ⟨c0, c1, c2, c3, c4, c5, c6⟩ := cells7 X7.c
  go_wp2_with fail
  refine (parks_yes  (⟨3, 4, 0, 2, 2, 3, false⟩ : Cfg) _ (by decide)).mono ?_
  rintro e w8 ⟨rfl, hb⟩
  have X8 := X7.on hb
  clear hb X7 c0 c1 c2 c3 c4 c5 c6
  obtain ⟨c0, c1, c2, c3, c4, c5, c6⟩ := cells7 X8.d
  go_wp2_with fail
  refine (parks_yes  (⟨3, 4, 0, 3, 0, 0, false⟩ : Cfg) _ (by decide)).mono ?_
  rintro e w9 ⟨rfl, hb⟩
  have X9 := X8.on hb
  clear hb X8 c0 c1 c2 c3 c4 c5 c6
  go_wp2_with fail
  refine (parks_not  (⟨1, 1, 0, 1, 0, 0, false⟩ : Cfg) _ (by decide)).mono ?_
  rintro e w10 ⟨rfl, hb⟩
  have X10 := X9.on hb
  clear hb X9
  obtain ⟨c0, c1, c2, c3, c4, c5, c6⟩ := cells7 X10.c
  go_wp2_with fail
  refine (tries_at 5 (⟨3, 4, 0, 2, 2, 3, false⟩ : Cfg) _ (by decide)).mono ?_
  rintro e w11 ⟨rfl, hb⟩
  have X11 := X10.on hb
  clear hb X10 c0 c1 c2 c3 c4 c5 c6
  obtain ⟨c0, c1, c2, c3, c4, c5, c6⟩ := cells7 X11.d
  go_wp2_with fail
  refine (tries_at 0 (⟨3, 4, 0, 3, 0, 0, false⟩ : Cfg) _ (by decide)).mono ?_
  rintro e w12 ⟨rfl, hb⟩
  have X12 := X11.on hb
  clear hb X11 c0 c1 c2 c3 c4 c5 c6
  have hB := X12.below
  clear X12
  go_wp2
  go_ret
  exact ⟨rfl, hB⟩

end Go.Proofs.Ytolkmpfnomeklaa
