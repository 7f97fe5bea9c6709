/-
  DERIVED. Event2.
-/
import Derived.Test.YtnbgpopjnpdmgaaGreatPaj
set_option linter.unusedVariables false
set_option linter.unusedSimpArgs false

namespace Go.Proofs.YtnbgpopjnpdmgaaGreat
open Go Go.RowKit Go.Shelf

def cmtE (ep : Int) (l : List Int) (seen id : Int) : List Int × Bool × Int := if evOk ep l = false then (l, false, 40) else if (entL l id).2 ≠ 0 ∨ ep ≠ seen then (l, false, (entL l id).2) else ((entL l id).1, true, 0)
theorem commit_any (ep seen id : Int) (l : List Int) (A : Option Addr) (c : Nat) (w : World) (hl : l.length ≤ 100000) (hA : Lies w w.heap.size A (ints l)) :
    Calls Tryz.prog 149 #[.agg #[.int .i64 ep, .slice A l.length c], .int .i64 seen, .int .i64 id] w fun e w' => ∃ A' c', e = .returned (.tuple #[.agg #[.int .i64 ep, .slice A' (cmtE ep l seen id).1.length c'], .bool (cmtE ep l seen id).2.1, .int .i64 (cmtE ep l seen id).2.2]) ∧ Mine w' w.heap.size 3 1 A' c' (cmtE ep l seen id).1.length (ints (cmtE ep l seen id).1) ∧ Below w.heap.size w w' := by
  unfold cmtE
  split
  · exact commit_no ep seen id l A c w hl hA (by assumption)
  · rename_i h1
    split
    · exact commit_bad ep seen id l A c w hl hA (by simpa using h1) (by assumption)
    · rename_i h2
      exact commit_yes ep seen id l A c w hl hA (by simpa using h1) (Classical.byContradiction fun h => h2 (.inl h)) (Classical.byContradiction fun h => h2 (.inr h))

/-- A slice lies in another block. -/
def Apart (A : Option Addr) (B : Nat) : Prop := ∀ b off t, A = some ⟨b, off, t⟩ → b ≠ B
theorem Lies.put {w : World} {B : Nat} {A : Option Addr} {xs : List Value} (h : Lies w B A xs) {C : Nat} (hC : Apart A C) (i : Nat) (v : Value) : Lies (w.setCell ⟨C, i, none⟩ v) B A xs := by
  rcases h with h | ⟨b, off, rfl, hB, hc⟩
  · exact .inl h
  · refine .inr ⟨b, off, rfl, hB, fun j x hj => ?_⟩
    have hne : b ≠ C := hC _ _ _ rfl
    have := hc j x hj
    rw [← this]
    exact World.cell?_of_block (Below.heap_setCell w ⟨C, i, none⟩ v b hne)
theorem Mine.apart {w : World} {base : Nat} {e : TypeId} {k : Nat} {A : Option Addr} {c n : Nat} {xs : List Value} (h : Mine w base e k A c n xs) {B : Nat} (hB : B < base) : Apart A B := fun b off t hA => by have := (h.base b off t hA).1; omega
theorem Lies.grown {w w' : World} {A : Option Addr} {xs : List Value} (h : Lies w w.heap.size A xs) {B : Nat} (hg : w.grownBy w' (some B)) (hA : Apart A B) : Lies w' w'.heap.size A xs := by
  rcases h with h | ⟨b, off, rfl, hB, hc⟩
  · exact .inl h
  · exact .inr ⟨b, off, rfl, Nat.lt_of_lt_of_le hB hg.size, fun j x hj => by rw [← hc j x hj]; exact World.cell?_of_block (hg.block b hB (by have := hA _ _ _ rfl; simpa using this))⟩
theorem below_grown {w w' : World} (hb : Below w.heap.size w w') : w.grownBy w' none := ⟨hb.os, hb.tape, hb.output, hb.size, fun i hi _ => hb.block i hi⟩
theorem Mine.by {w w' : World} {base : Nat} {e : TypeId} {k : Nat} {A : Option Addr} {c n : Nat} {xs : List Value} (h : Mine w base e k A c n xs) {B : Nat} (hg : w.grownBy w' (some B)) (hA : Apart A B) : Mine w' base e k A c n xs := by
  refine ⟨h.1, ?_⟩
  rcases h.2 with hn | ⟨g, cap, cur, e1, hb2, hgg, rest⟩
  · exact .inl hn
  · have hne := hA g 0 none (by injection e1)
    exact .inr ⟨g, cap, cur, e1, hb2, (hg.block g (Array.getElem?_eq_some_iff.1 hgg).1 (by simpa using hne)).trans hgg, rest⟩

set_option maxRecDepth 100000 in
set_option maxHeartbeats 2000000 in
theorem one_any (ep : Int) (l : List Int) (A : Option Addr) (c B : Nat) (w : World) (hl : l.length ≤ 100000) (hA : Lies w w.heap.size A (ints l)) (hcap : l.length ≤ c) (hB : w.heap[B]? = some (.cells #[.int .i64 ep, .slice A l.length c] 221 (0, 0))) :
    Calls Tryz.prog 193 #[.pointer (some ⟨B, 0, none⟩)] w fun e w' => ∃ A' c', e = .returned (.tuple #[.int .i64 (nxtL l).1, .bool (nxtL l).2.2]) ∧ w'.heap[B]? = some (.cells #[.int .i64 ep, .slice A' (nxtL l).2.1.length c'] 221 (0, 0)) ∧ Mine w' w.heap.size 3 1 A' c' (nxtL l).2.1.length (ints (nxtL l).2.1) ∧ w.grownBy w' (some B) := by
  have N := next_any l A c w hl hA hcap
  generalize nxtL l = x at *
  obtain ⟨x1, x2, x3⟩ := x
  dsimp only at *
  obtain ⟨a0, a1, f0, f1⟩ := cells2 hB
  have hBlt := blk_lt hB
  go_enter Tryz.func193, Tryz.ntmps193
  go_wp2_with (first
      | (go_at_call 194; (with_reducible refine (N).mono ?_); rintro e w1 ⟨A2, c2, rfl, hown, hb⟩; have k1 := kept hB hb; clear a0 a1 f0 f1; obtain ⟨a0, a1, f0, f1⟩ := cells2 k1))
  go_ret2
  refine ⟨A2, c2, rfl, put_cell k1 _, hown.other _ _ _ hBlt, hb.os, hb.tape, hb.output, by simpa using hb.size, fun k hk hne => ?_⟩
  exact (Below.heap_setCell w1 ⟨B, 1, none⟩ _ k (by simpa using hne)).trans (hb.block k hk)

/-- They are taken out one by one, as long as more is right. -/
def drainM (more : Nat → Bool) : Nat → List Int → List Int × List Int
  | _, [] => ([], [])
  | k, x :: r => if more k && lineOk (x :: r) then (x :: (drainM more (k + 1) r).1, (drainM more (k + 1) r).2) else ([], x :: r)
def all1 (n : Nat) : Bool := decide (n = 0)
def all2 (_ : Nat) : Bool := true
theorem drain_len (more : Nat → Bool) : ∀ (l : List Int) (k : Nat), (drainM more k l).1.length ≤ l.length := by
  intro l
  induction l with
  | nil => intro k; simp [drainM]
  | cons x r ih => intro k; have := ih (k + 1); unfold drainM; split <;> simp <;> omega
theorem nxt_cases (l : List Int) : (nxtL l = (0, l, false) ∧ ∀ more k, drainM more k l = ([], l)) ∨ (∃ x r, l = x :: r ∧ nxtL l = (x, r, true) ∧ ∀ more k, more k = true → drainM more k l = (x :: (drainM more (k + 1) r).1, (drainM more (k + 1) r).2)) := by
  unfold nxtL
  cases l with
  | nil => exact .inl ⟨by split <;> rfl, fun _ _ => rfl⟩
  | cons x r =>
    by_cases h : lineOk (x :: r) = true
    · exact .inr ⟨x, r, rfl, by rw [if_pos h], fun more k hm => by simp [drainM, hm, h]⟩
    · exact .inl ⟨by rw [if_neg h], fun more k => by simp [drainM, h]⟩
theorem more1_any (n : Nat) (w : World) : Calls Tryz.prog 181 #[.int .i64 n] w fun e w' => e = .returned (.bool (all1 n)) ∧ w' = w := by
  go_enter Tryz.func181, Tryz.ntmps181
  go_wp2
  go_ret
  exact ⟨by simp only [all1]; by_cases h : n = 0 <;> simp [h], rfl⟩
theorem more2_any (n : Nat) (w : World) : Calls Tryz.prog 186 #[.int .i64 n] w fun e w' => e = .returned (.bool (all2 n)) ∧ w' = w := by
  go_enter Tryz.func186, Tryz.ntmps186
  go_wp2
  go_ret
  exact ⟨rfl, rfl⟩

set_option maxRecDepth 100000 in
set_option maxHeartbeats 2000000 in
theorem come1_no (ep : Int) (l : List Int) (A : Option Addr) (c : Nat) (w : World) (hl : l.length ≤ 1000) (hA : Lies w w.heap.size A (ints l)) (h : evOk ep l = false) :
    Calls Tryz.prog 180 #[.agg #[.int .i64 ep, .slice A l.length c], .func (.func 181) #[] #[]] w fun e w' => ∃ A' c' A2 c2, e = .returned (.tuple #[.agg #[.int .i64 (ep), .slice A' (l).length c'], .slice A2 (([] : List Int)).length c2]) ∧ Mine w' w.heap.size 3 1 A' c' (l).length (ints (l)) ∧ Mine w' w.heap.size 3 1 A2 c2 (([] : List Int)).length (ints (([] : List Int))) ∧ Below w.heap.size w w' := by
  have E := fun W (hW : Below w.heap.size w W) => evCheck_any ep l A c W (by omega) (hA.on hW)
  rw [h] at E
  clear h
  have O := fun W (hW : Below w.heap.size w W) => evOwn_any ep l A c W (by omega) (hA.on hW)
  obtain ⟨k0, k1, hB0⟩ := two_new w (.cells #[.int .i64 ep, .slice A l.length c] 32) (.cells #[.int .i64 0, .slice none 0 0] 32)
  go_enter Tryz.func180, Tryz.ntmps180
  go_wp2_with (first
      | (go_at_call 104; (with_reducible refine (O _ hB0).mono ?_); rintro e w1 ⟨A1, c1, rfl, hown, hb⟩; have j0 := kept k0 hb; have j1 := kept k1 hb; have hB1 := hB0.trans (hb.mono hB0.size); have k2 := World.alloc_heap_new w1 (.cells #[.int .i64 ep, .slice A1 l.length c1] 221); have m0 := keep_alloc j0 (.cells #[.int .i64 ep, .slice A1 l.length c1] 221); have m1 := keep_alloc j1 (.cells #[.int .i64 ep, .slice A1 l.length c1] 221); have hB2 := hB1.alloc hB1.size (.cells #[.int .i64 ep, .slice A1 l.length c1] 221); obtain ⟨a0, a1, -, -⟩ := cells2 m0)
      | (go_at_call 46; (with_reducible refine (E _ hB2).mono ?_); rintro e w2 ⟨rfl, hb2⟩; have n0 := kept m0 hb2; have n1 := kept m1 hb2; have n2 := kept k2 hb2; clear a0 a1; obtain ⟨a0, a1, g0, g1⟩ := cells2 n2; obtain ⟨b0, b1, f0, f1⟩ := cells2 n1))
  clear b0 b1 f0 f1 a0 a1
  have s1 : w.heap.size + 1 < w1.heap.size := blk_lt j1
  have hx := ((((hown.alloc (.cells #[.int .i64 ep, .slice A1 l.length c1] 221)).kept hb2).mono (base' := w.heap.size + 2) (by simp)).other (w.heap.size + 1) 0 (.int .i64 ep) (by omega)).other (w.heap.size + 1) 1 (.slice A1 l.length c1) (by omega)
  obtain ⟨r0, r1, -, -⟩ := cells2 (put_cell (put_cell n1 (.int .i64 ep) (i := 0)) (.slice A1 l.length c1) (i := 1))
  have hB3 := hB2.trans (hb2.mono hB2.size)
  refine bodyPost_ret (v := .tuple #[.agg #[.int .i64 ep, .slice A1 l.length c1], .slice none 0 0]) (by simp [results, Tryz.f180, go_sem, r0, r1]) rfl ⟨A1, c1, none, 0, rfl, hx.mono (by omega), World.ownsRow_nil _ _ _ _, ?_⟩
  go_grown

set_option maxRecDepth 100000 in
set_option maxHeartbeats 2000000 in
theorem come1_yes (ep : Int) (l : List Int) (A : Option Addr) (c : Nat) (w : World) (hl : l.length ≤ 1000) (hA : Lies w w.heap.size A (ints l)) (h : evOk ep l = true) :
    Calls Tryz.prog 180 #[.agg #[.int .i64 ep, .slice A l.length c], .func (.func 181) #[] #[]] w fun e w' => ∃ A' c' A2 c2, e = .returned (.tuple #[.agg #[.int .i64 (min (ep + 1) 1099511627776), .slice A' ((drainM all1 0 l).2).length c'], .slice A2 ((drainM all1 0 l).1).length c2]) ∧ Mine w' w.heap.size 3 1 A' c' ((drainM all1 0 l).2).length (ints ((drainM all1 0 l).2)) ∧ Mine w' w.heap.size 3 1 A2 c2 ((drainM all1 0 l).1).length (ints ((drainM all1 0 l).1)) ∧ Below w.heap.size w w' := by
  obtain ⟨i0, hi, hz0, hz1, hz2⟩ := info_parts int_inf
  have E := fun W (hW : Below w.heap.size w W) => evCheck_any ep l A c W (by omega) (hA.on hW)
  rw [h] at E
  have hle : ep ≤ 1099511627776 ∧ 0 ≤ ep := by
    unfold evOk at h
    simp only [Bool.and_eq_true, decide_eq_true_eq] at h
    exact ⟨h.2.1, h.1⟩
  clear h
  have O := fun W (hW : Below w.heap.size w W) => evOwn_any ep l A c W (by omega) (hA.on hW)
  have M := fun (n : Nat) W => more1_any n W
  generalize hD : drainM all1 0 l = D
  have HD := Lib.hid hD
  clear hD
  obtain ⟨k0, k1, hB0⟩ := two_new w (.cells #[.int .i64 ep, .slice A l.length c] 32) (.cells #[.int .i64 0, .slice none 0 0] 32)
  go_enter Tryz.func180, Tryz.ntmps180
  go_wp2_with (first
      | (go_at_call 104; (with_reducible refine (O _ hB0).mono ?_); rintro e w1 ⟨A1, c1, rfl, hown, hb⟩; have j0 := kept k0 hb; have j1 := kept k1 hb; have hB1 := hB0.trans (hb.mono hB0.size); have k2 := World.alloc_heap_new w1 (.cells #[.int .i64 ep, .slice A1 l.length c1] 221); have m0 := keep_alloc j0 (.cells #[.int .i64 ep, .slice A1 l.length c1] 221); have m1 := keep_alloc j1 (.cells #[.int .i64 ep, .slice A1 l.length c1] 221); have hB2 := hB1.alloc hB1.size (.cells #[.int .i64 ep, .slice A1 l.length c1] 221); obtain ⟨a0, a1, -, -⟩ := cells2 m0)
      | (go_at_call 46; (with_reducible refine (E _ hB2).mono ?_); rintro e w2 ⟨rfl, hb2⟩; have n0 := kept m0 hb2; have n1 := kept m1 hb2; have n2 := kept k2 hb2; clear a0 a1; obtain ⟨a0, a1, g0, g1⟩ := cells2 n2; obtain ⟨b0, b1, f0, f1⟩ := cells2 n1))
  clear b0 b1 f0 f1 a0 a1 g0 g1
  have s1 : w.heap.size + 1 < w1.heap.size := blk_lt j1
  have hx0 := (hown.alloc (.cells #[.int .i64 ep, .slice A1 l.length c1] 221)).kept hb2
  have s2 := hb2.size
  have p0 := put_cell (i := 0) n2 (.int .i64 (min (ep + 1) 1099511627776))
  have p1 := keep_cell (i := 0) (C := w1.heap.size) n1 (by omega) (.int .i64 (min (ep + 1) 1099511627776))
  have hx1 : Apart A1 w1.heap.size := fun b off t hA => by have := (hown.base b off t hA).2; omega
  have hx2 := (hx0.mono (base' := w.heap.size + 2) (by simp)).grown (w' := w2.setCell ⟨w1.heap.size, 0, none⟩ (.int .i64 (min (ep + 1) 1099511627776))) (fun g off t hA => Below.heap_setCell w2 ⟨w1.heap.size, 0, none⟩ _ g (hx1 g off t hA))
  have hB3 : Below w.heap.size w (w2.setCell ⟨w1.heap.size, 0, none⟩ (.int .i64 (min (ep + 1) 1099511627776))) := (hB2.trans (hb2.mono hB2.size)).setCell (show w.heap.size ≤ w1.heap.size by omega) _
  have s3 : w1.heap.size < (w2.setCell ⟨w1.heap.size, 0, none⟩ (.int .i64 (min (ep + 1) 1099511627776))).heap.size := by simp at s2 ⊢; omega
  generalize hBb : w1.heap.size = Bb at *
  generalize w2.setCell ⟨Bb, 0, none⟩ (.int .i64 (min (ep + 1) 1099511627776)) = wl at *
  clear n0 n1 n2 hb2 hB2 m0 m1 k2 k0 k1 hB0 hown hb j0 j1 hB1 E O hx0 s2 hBb hA
  go_loopw [7] (fun v wr => ∃ (cur outl : List Int) (A3 : Option Addr) (c3 : Nat) (Ao : Option Addr) (co : Nat), v = .slice Ao outl.length co ∧ wr.heap[Bb]? = some (.cells #[.int .i64 (min (ep + 1) 1099511627776), .slice A3 cur.length c3] 221 (0, 0)) ∧ Mine wr (w.heap.size + 2) 3 1 A3 c3 cur.length (ints cur) ∧ Apart A3 Bb ∧ Mine wr (Bb + 1) 3 1 Ao co outl.length (ints outl) ∧
      wr.heap[w.heap.size + 1]? = some ((.cells #[.int .i64 0, .slice none 0 0] 32)) ∧ Below w.heap.size w wr ∧ (outl ++ (drainM all1 outl.length cur).1, (drainM all1 outl.length cur).2) = drainM all1 0 l ∧ outl.length + cur.length ≤ 1000 ∧ Bb < wr.heap.size) (fun v _ => match v with | .slice _ n _ => 1001 - n | _ => 0)
  case atStart => exact ⟨l, [], A1, c1, none, 0, rfl, p0, hx2, hx1, World.ownsRow_nil _ _ _ _, p1, hB3, rfl, by simpa using hl, s3⟩
  case round =>
    obtain ⟨cur, outl, A3, c3, Ao, co, rfl, kb, hA3, hx, hAo, kr, hB, hdr, hle2, hlt⟩ := hrel
    have hcap := hA3.cap
    have N := fun W => one_any (min (ep + 1) 1099511627776) cur A3 c3 Bb W (by omega)
    have HR := Lib.hid hdr
    clear hdr p0 p1 hx2 hx1 hB3 s3
    cases hm : all1 outl.length with
    | false =>
      have e1 : drainM all1 outl.length cur = ([], cur) := by cases cur <;> simp [drainM, hm]
      have HR2 : Hid ((outl, cur) = drainM all1 0 l) := by have := HR.out; rw [e1, List.append_nil] at this; exact this
      clear HR e1
      have HR := HR2
      replace M := M outl.length
      rw [hm] at M
      clear hm
      go_wp2_with (go_at_call 181; (refine (M _).mono ?_); rintro e w4 ⟨rfl, hw⟩; obtain rfl := hw.symm; clear hw; obtain ⟨e0, e1, -, -⟩ := cells2 kb; obtain ⟨q0, q1, q2, q3⟩ := cells2 kr)
      obtain ⟨r0, r1, -, -⟩ := cells2 (put_cell (put_cell kr (.int .i64 (min (ep + 1) 1099511627776)) (i := 0)) (.slice A3 cur.length c3) (i := 1))
      have hx := ((hA3.other (w.heap.size + 1) 0 (.int .i64 (min (ep + 1) 1099511627776)) (by omega)).other (w.heap.size + 1) 1 (.slice A3 cur.length c3) (by omega)).mono (base' := w.heap.size) (by omega)
      have hy := ((hAo.other (w.heap.size + 1) 0 (.int .i64 (min (ep + 1) 1099511627776)) (by omega)).other (w.heap.size + 1) 1 (.slice A3 cur.length c3) (by omega)).mono (base' := w.heap.size) (by omega)
      refine bodyPost_ret (v := .tuple #[.agg #[.int .i64 (min (ep + 1) 1099511627776), .slice A3 cur.length c3], .slice Ao outl.length co]) (by simp [results, Tryz.f180, go_sem, r0, r1]) rfl ?_
      rw [← HD.out, ← HR.out]
      refine ⟨A3, c3, Ao, co, rfl, hx, hy, ?_⟩
      go_grown
    | true =>
      replace M := M outl.length
      rw [hm] at M
      rcases nxt_cases cur with ⟨hn, hd⟩ | ⟨x, r, rfl, hn, hd⟩
      · have HR2 : Hid ((outl, cur) = drainM all1 0 l) := by have := HR.out; rw [hd, List.append_nil] at this; exact this
        clear HR hd hm
        have HR := HR2
        rw [hn] at N
        clear hn
        go_wp2_with (first
          | (go_at_call 181; (refine (M _).mono ?_); rintro e w4 ⟨rfl, hw⟩; obtain rfl := hw.symm; clear hw)
          | (go_at_call 193; (refine (N _ hA3.lies hcap kb).mono ?_); rintro e w5 ⟨A4, c4, rfl, kb5, hA4, hg5⟩; have kr5 := (hg5.block (w.heap.size + 1) (blk_lt kr) (by simp; omega)).trans kr; have hAo2 := hAo.by hg5 (hAo.apart (by omega)); have hB5 := hB.grown hg5 (by omega) (by intro g hg; injection hg with hg; omega); have hs5 := hg5.size; obtain ⟨e0, e1, -, -⟩ := cells2 kb5; obtain ⟨q0, q1, q2, q3⟩ := cells2 kr5))
        obtain ⟨r0, r1, -, -⟩ := cells2 (put_cell (put_cell kr5 (.int .i64 (min (ep + 1) 1099511627776)) (i := 0)) (.slice A4 cur.length c4) (i := 1))
        have hx := ((hA4.other (w.heap.size + 1) 0 (.int .i64 (min (ep + 1) 1099511627776)) (by omega)).other (w.heap.size + 1) 1 (.slice A4 cur.length c4) (by omega)).mono (base' := w.heap.size) (by omega)
        have hy := ((hAo2.other (w.heap.size + 1) 0 (.int .i64 (min (ep + 1) 1099511627776)) (by omega)).other (w.heap.size + 1) 1 (.slice A4 cur.length c4) (by omega)).mono (base' := w.heap.size) (by omega)
        refine bodyPost_ret (v := .tuple #[.agg #[.int .i64 (min (ep + 1) 1099511627776), .slice A4 cur.length c4], .slice Ao outl.length co]) (by simp [results, Tryz.f180, go_sem, r0, r1]) rfl ?_
        rw [← HD.out, ← HR.out]
        refine ⟨A4, c4, Ao, co, rfl, hx, hy, ?_⟩
        go_grown
      · have HR2 : Hid ((outl ++ [x] ++ (drainM all1 (outl.length + 1) r).1, (drainM all1 (outl.length + 1) r).2) = drainM all1 0 l) := by have := HR.out; rw [hd _ _ hm] at this; have h3 : (outl ++ [x] ++ (drainM all1 (outl.length + 1) r).1, (drainM all1 (outl.length + 1) r).2) = drainM all1 0 l := (by rw [← this]; try simp); exact h3
        clear HR hd hm
        have HR := HR2
        rw [hn] at N
        clear hn
        have hsz := hB.size
        go_wp2_with (first
          | (go_at_call 181; (refine (M _).mono ?_); rintro e w4 ⟨rfl, hw⟩; obtain rfl := hw.symm; clear hw)
          | (go_at_call 193; (refine (N _ hA3.lies hcap kb).mono ?_); rintro e w5 ⟨A4, c4, rfl, kb5, hA4, hg5⟩; have kr5 := (hg5.block (w.heap.size + 1) (blk_lt kr) (by simp; omega)).trans kr; have hAo2 := hAo.by hg5 (hAo.apart (by omega)); have hB5 := hB.grown hg5 (by omega) (by intro g hg; injection hg with hg; omega); have hs5 := hg5.size; obtain ⟨e0, e1, -, -⟩ := cells2 kb5; obtain ⟨q0, q1, q2, q3⟩ := cells2 kr5)
          | (at_builtin; refine wpList_append_own _ rfl _ _ 30 rfl (Bb + 1) 3 i0 (.int .i64 0) 1 8 Tryz.underlying30 hi hz0 hz1 hz2 rfl (by decide) _ _ _ rfl (World.ownsRow.alloc hAo2 _) ⟨w5.heap.size, 0, none⟩ 1 1 [.int .i64 x] rfl rfl (cell_one _ _ _) (by simp [Value.oneCell']) (by simp only [maxLen]; omega) (by omega) (by simp; omega) ?_; intro v' w6 hown' hgrow hnil))
        have hown2 : w6.ownsRow (Bb + 1) 3 1 v' (outl ++ [x]).length (ints (outl ++ [x])) := by simpa using hown'
        have hne : ∀ k, k < w5.heap.size → (∀ off t, Ao ≠ some ⟨k, off, t⟩) → w6.heap[k]? = w5.heap[k]? := fun k hk hno => by
          have hgrow2 : (w5.alloc _).grownBy w6 (Value.slice Ao outl.length co).ownBlock := hgrow
          rw [hgrow2.block k (by simp; omega) (fun e => by
            cases Ao with
            | none => simp [Value.ownBlock] at e
            | some a => obtain ⟨b, off, t⟩ := a; simp [Value.ownBlock] at e; subst e; exact hno off t rfl)]
          exact Below.heap_alloc _ _ _ hk
        have hB6 : Below w.heap.size w w6 := (hB5.alloc hB5.size _).grown hgrow (by simp; omega) (by intro g hg; have := (World.ownsRow.lt hAo2 g hg).1; omega)
        have kb6 := (hne Bb (by omega) (fun off t e => by have := (hAo.base _ _ _ e).1; omega)).trans kb5
        have kr6 := (hne (w.heap.size + 1) (by omega) (fun off t e => by have := (hAo.base _ _ _ e).1; omega)).trans kr5
        have hA6 := (hA4.mono (base' := w.heap.size + 2) (by omega)).grown (w' := w6) (fun g off t e => hne g (hA4.base _ _ _ e).2 (fun off t e2 => by have h1 := (hAo.base _ _ _ e2).2; have h2 := (hA4.base _ _ _ e).1; omega))
        have ap : Apart A4 Bb := fun g off t e => by have := (hA4.base _ _ _ e).1; omega
        have hs6 := hgrow.size
        rw [World.size_alloc] at hs6
        have hlen : (outl ++ [x]).length = outl.length + 1 := by simp
        obtain ⟨A7, c7, rfl⟩ : ∃ A7 c7, v' = .slice A7 (outl ++ [x]).length c7 := by
          rcases hown2.2 with ⟨e1, e2⟩ | ⟨g, cap, cur, e1, _⟩
          · exact ⟨none, 0, by rw [e1, e2]⟩
          · exact ⟨_, cap, e1⟩
        go_roundw
        case rel => exact ⟨r, outl ++ [x], A4, c4, A7, c7, rfl, kb6, hA6, ap, hown2, kr6, hB6, by rw [hlen]; exact HR.out, by simp at hle2 ⊢; omega, by omega⟩
        case measure => simp; omega

set_option maxRecDepth 100000 in
set_option maxHeartbeats 2000000 in
theorem come2_no (ep : Int) (l : List Int) (A : Option Addr) (c : Nat) (w : World) (hl : l.length ≤ 1000) (hA : Lies w w.heap.size A (ints l)) (h : evOk ep l = false) :
    Calls Tryz.prog 180 #[.agg #[.int .i64 ep, .slice A l.length c], .func (.func 186) #[] #[]] w fun e w' => ∃ A' c' A2 c2, e = .returned (.tuple #[.agg #[.int .i64 (ep), .slice A' (l).length c'], .slice A2 (([] : List Int)).length c2]) ∧ Mine w' w.heap.size 3 1 A' c' (l).length (ints (l)) ∧ Mine w' w.heap.size 3 1 A2 c2 (([] : List Int)).length (ints (([] : List Int))) ∧ Below w.heap.size w w' := by
  have E := fun W (hW : Below w.heap.size w W) => evCheck_any ep l A c W (by omega) (hA.on hW)
  rw [h] at E
  clear h
  have O := fun W (hW : Below w.heap.size w W) => evOwn_any ep l A c W (by omega) (hA.on hW)
  obtain ⟨k0, k1, hB0⟩ := two_new w (.cells #[.int .i64 ep, .slice A l.length c] 32) (.cells #[.int .i64 0, .slice none 0 0] 32)
  go_enter Tryz.func180, Tryz.ntmps180
  go_wp2_with (first
      | (go_at_call 104; (with_reducible refine (O _ hB0).mono ?_); rintro e w1 ⟨A1, c1, rfl, hown, hb⟩; have j0 := kept k0 hb; have j1 := kept k1 hb; have hB1 := hB0.trans (hb.mono hB0.size); have k2 := World.alloc_heap_new w1 (.cells #[.int .i64 ep, .slice A1 l.length c1] 221); have m0 := keep_alloc j0 (.cells #[.int .i64 ep, .slice A1 l.length c1] 221); have m1 := keep_alloc j1 (.cells #[.int .i64 ep, .slice A1 l.length c1] 221); have hB2 := hB1.alloc hB1.size (.cells #[.int .i64 ep, .slice A1 l.length c1] 221); obtain ⟨a0, a1, -, -⟩ := cells2 m0)
      | (go_at_call 46; (with_reducible refine (E _ hB2).mono ?_); rintro e w2 ⟨rfl, hb2⟩; have n0 := kept m0 hb2; have n1 := kept m1 hb2; have n2 := kept k2 hb2; clear a0 a1; obtain ⟨a0, a1, g0, g1⟩ := cells2 n2; obtain ⟨b0, b1, f0, f1⟩ := cells2 n1))
  clear b0 b1 f0 f1 a0 a1
  have s1 : w.heap.size + 1 < w1.heap.size := blk_lt j1
  have hx := ((((hown.alloc (.cells #[.int .i64 ep, .slice A1 l.length c1] 221)).kept hb2).mono (base' := w.heap.size + 2) (by simp)).other (w.heap.size + 1) 0 (.int .i64 ep) (by omega)).other (w.heap.size + 1) 1 (.slice A1 l.length c1) (by omega)
  obtain ⟨r0, r1, -, -⟩ := cells2 (put_cell (put_cell n1 (.int .i64 ep) (i := 0)) (.slice A1 l.length c1) (i := 1))
  have hB3 := hB2.trans (hb2.mono hB2.size)
  refine bodyPost_ret (v := .tuple #[.agg #[.int .i64 ep, .slice A1 l.length c1], .slice none 0 0]) (by simp [results, Tryz.f180, go_sem, r0, r1]) rfl ⟨A1, c1, none, 0, rfl, hx.mono (by omega), World.ownsRow_nil _ _ _ _, ?_⟩
  go_grown

set_option maxRecDepth 100000 in
set_option maxHeartbeats 2000000 in
theorem come2_yes (ep : Int) (l : List Int) (A : Option Addr) (c : Nat) (w : World) (hl : l.length ≤ 1000) (hA : Lies w w.heap.size A (ints l)) (h : evOk ep l = true) :
    Calls Tryz.prog 180 #[.agg #[.int .i64 ep, .slice A l.length c], .func (.func 186) #[] #[]] w fun e w' => ∃ A' c' A2 c2, e = .returned (.tuple #[.agg #[.int .i64 (min (ep + 1) 1099511627776), .slice A' ((drainM all2 0 l).2).length c'], .slice A2 ((drainM all2 0 l).1).length c2]) ∧ Mine w' w.heap.size 3 1 A' c' ((drainM all2 0 l).2).length (ints ((drainM all2 0 l).2)) ∧ Mine w' w.heap.size 3 1 A2 c2 ((drainM all2 0 l).1).length (ints ((drainM all2 0 l).1)) ∧ Below w.heap.size w w' := by
  obtain ⟨i0, hi, hz0, hz1, hz2⟩ := info_parts int_inf
  have E := fun W (hW : Below w.heap.size w W) => evCheck_any ep l A c W (by omega) (hA.on hW)
  rw [h] at E
  have hle : ep ≤ 1099511627776 ∧ 0 ≤ ep := by
    unfold evOk at h
    simp only [Bool.and_eq_true, decide_eq_true_eq] at h
    exact ⟨h.2.1, h.1⟩
  clear h
  have O := fun W (hW : Below w.heap.size w W) => evOwn_any ep l A c W (by omega) (hA.on hW)
  have M := fun (n : Nat) W => more2_any n W
  generalize hD : drainM all2 0 l = D
  have HD := Lib.hid hD
  clear hD
  obtain ⟨k0, k1, hB0⟩ := two_new w (.cells #[.int .i64 ep, .slice A l.length c] 32) (.cells #[.int .i64 0, .slice none 0 0] 32)
  go_enter Tryz.func180, Tryz.ntmps180
  go_wp2_with (first
      | (go_at_call 104; (with_reducible refine (O _ hB0).mono ?_); rintro e w1 ⟨A1, c1, rfl, hown, hb⟩; have j0 := kept k0 hb; have j1 := kept k1 hb; have hB1 := hB0.trans (hb.mono hB0.size); have k2 := World.alloc_heap_new w1 (.cells #[.int .i64 ep, .slice A1 l.length c1] 221); have m0 := keep_alloc j0 (.cells #[.int .i64 ep, .slice A1 l.length c1] 221); have m1 := keep_alloc j1 (.cells #[.int .i64 ep, .slice A1 l.length c1] 221); have hB2 := hB1.alloc hB1.size (.cells #[.int .i64 ep, .slice A1 l.length c1] 221); obtain ⟨a0, a1, -, -⟩ := cells2 m0)
      | (go_at_call 46; (with_reducible refine (E _ hB2).mono ?_); rintro e w2 ⟨rfl, hb2⟩; have n0 := kept m0 hb2; have n1 := kept m1 hb2; have n2 := kept k2 hb2; clear a0 a1; obtain ⟨a0, a1, g0, g1⟩ := cells2 n2; obtain ⟨b0, b1, f0, f1⟩ := cells2 n1))
  clear b0 b1 f0 f1 a0 a1 g0 g1
  have s1 : w.heap.size + 1 < w1.heap.size := blk_lt j1
  have hx0 := (hown.alloc (.cells #[.int .i64 ep, .slice A1 l.length c1] 221)).kept hb2
  have s2 := hb2.size
  have p0 := put_cell (i := 0) n2 (.int .i64 (min (ep + 1) 1099511627776))
  have p1 := keep_cell (i := 0) (C := w1.heap.size) n1 (by omega) (.int .i64 (min (ep + 1) 1099511627776))
  have hx1 : Apart A1 w1.heap.size := fun b off t hA => by have := (hown.base b off t hA).2; omega
  have hx2 := (hx0.mono (base' := w.heap.size + 2) (by simp)).grown (w' := w2.setCell ⟨w1.heap.size, 0, none⟩ (.int .i64 (min (ep + 1) 1099511627776))) (fun g off t hA => Below.heap_setCell w2 ⟨w1.heap.size, 0, none⟩ _ g (hx1 g off t hA))
  have hB3 : Below w.heap.size w (w2.setCell ⟨w1.heap.size, 0, none⟩ (.int .i64 (min (ep + 1) 1099511627776))) := (hB2.trans (hb2.mono hB2.size)).setCell (show w.heap.size ≤ w1.heap.size by omega) _
  have s3 : w1.heap.size < (w2.setCell ⟨w1.heap.size, 0, none⟩ (.int .i64 (min (ep + 1) 1099511627776))).heap.size := by simp at s2 ⊢; omega
  generalize hBb : w1.heap.size = Bb at *
  generalize w2.setCell ⟨Bb, 0, none⟩ (.int .i64 (min (ep + 1) 1099511627776)) = wl at *
  clear n0 n1 n2 hb2 hB2 m0 m1 k2 k0 k1 hB0 hown hb j0 j1 hB1 E O hx0 s2 hBb hA
  go_loopw [7] (fun v wr => ∃ (cur outl : List Int) (A3 : Option Addr) (c3 : Nat) (Ao : Option Addr) (co : Nat), v = .slice Ao outl.length co ∧ wr.heap[Bb]? = some (.cells #[.int .i64 (min (ep + 1) 1099511627776), .slice A3 cur.length c3] 221 (0, 0)) ∧ Mine wr (w.heap.size + 2) 3 1 A3 c3 cur.length (ints cur) ∧ Apart A3 Bb ∧ Mine wr (Bb + 1) 3 1 Ao co outl.length (ints outl) ∧
      wr.heap[w.heap.size + 1]? = some ((.cells #[.int .i64 0, .slice none 0 0] 32)) ∧ Below w.heap.size w wr ∧ (outl ++ (drainM all2 outl.length cur).1, (drainM all2 outl.length cur).2) = drainM all2 0 l ∧ outl.length + cur.length ≤ 1000 ∧ Bb < wr.heap.size) (fun v _ => match v with | .slice _ n _ => 1001 - n | _ => 0)
  case atStart => exact ⟨l, [], A1, c1, none, 0, rfl, p0, hx2, hx1, World.ownsRow_nil _ _ _ _, p1, hB3, rfl, by simpa using hl, s3⟩
  case round =>
    obtain ⟨cur, outl, A3, c3, Ao, co, rfl, kb, hA3, hx, hAo, kr, hB, hdr, hle2, hlt⟩ := hrel
    have hcap := hA3.cap
    have N := fun W => one_any (min (ep + 1) 1099511627776) cur A3 c3 Bb W (by omega)
    have HR := Lib.hid hdr
    clear hdr p0 p1 hx2 hx1 hB3 s3
    cases hm : all2 outl.length with
    | false =>
      have e1 : drainM all2 outl.length cur = ([], cur) := by cases cur <;> simp [drainM, hm]
      have HR2 : Hid ((outl, cur) = drainM all2 0 l) := by have := HR.out; rw [e1, List.append_nil] at this; exact this
      clear HR e1
      have HR := HR2
      replace M := M outl.length
      rw [hm] at M
      clear hm
      go_wp2_with (go_at_call 186; (refine (M _).mono ?_); rintro e w4 ⟨rfl, hw⟩; obtain rfl := hw.symm; clear hw; obtain ⟨e0, e1, -, -⟩ := cells2 kb; obtain ⟨q0, q1, q2, q3⟩ := cells2 kr)
      obtain ⟨r0, r1, -, -⟩ := cells2 (put_cell (put_cell kr (.int .i64 (min (ep + 1) 1099511627776)) (i := 0)) (.slice A3 cur.length c3) (i := 1))
      have hx := ((hA3.other (w.heap.size + 1) 0 (.int .i64 (min (ep + 1) 1099511627776)) (by omega)).other (w.heap.size + 1) 1 (.slice A3 cur.length c3) (by omega)).mono (base' := w.heap.size) (by omega)
      have hy := ((hAo.other (w.heap.size + 1) 0 (.int .i64 (min (ep + 1) 1099511627776)) (by omega)).other (w.heap.size + 1) 1 (.slice A3 cur.length c3) (by omega)).mono (base' := w.heap.size) (by omega)
      refine bodyPost_ret (v := .tuple #[.agg #[.int .i64 (min (ep + 1) 1099511627776), .slice A3 cur.length c3], .slice Ao outl.length co]) (by simp [results, Tryz.f180, go_sem, r0, r1]) rfl ?_
      rw [← HD.out, ← HR.out]
      refine ⟨A3, c3, Ao, co, rfl, hx, hy, ?_⟩
      go_grown
    | true =>
      replace M := M outl.length
      rw [hm] at M
      rcases nxt_cases cur with ⟨hn, hd⟩ | ⟨x, r, rfl, hn, hd⟩
      · have HR2 : Hid ((outl, cur) = drainM all2 0 l) := by have := HR.out; rw [hd, List.append_nil] at this; exact this
        clear HR hd hm
        have HR := HR2
        rw [hn] at N
        clear hn
        go_wp2_with (first
          | (go_at_call 186; (refine (M _).mono ?_); rintro e w4 ⟨rfl, hw⟩; obtain rfl := hw.symm; clear hw)
          | (go_at_call 193; (refine (N _ hA3.lies hcap kb).mono ?_); rintro e w5 ⟨A4, c4, rfl, kb5, hA4, hg5⟩; have kr5 := (hg5.block (w.heap.size + 1) (blk_lt kr) (by simp; omega)).trans kr; have hAo2 := hAo.by hg5 (hAo.apart (by omega)); have hB5 := hB.grown hg5 (by omega) (by intro g hg; injection hg with hg; omega); have hs5 := hg5.size; obtain ⟨e0, e1, -, -⟩ := cells2 kb5; obtain ⟨q0, q1, q2, q3⟩ := cells2 kr5))
        obtain ⟨r0, r1, -, -⟩ := cells2 (put_cell (put_cell kr5 (.int .i64 (min (ep + 1) 1099511627776)) (i := 0)) (.slice A4 cur.length c4) (i := 1))
        have hx := ((hA4.other (w.heap.size + 1) 0 (.int .i64 (min (ep + 1) 1099511627776)) (by omega)).other (w.heap.size + 1) 1 (.slice A4 cur.length c4) (by omega)).mono (base' := w.heap.size) (by omega)
        have hy := ((hAo2.other (w.heap.size + 1) 0 (.int .i64 (min (ep + 1) 1099511627776)) (by omega)).other (w.heap.size + 1) 1 (.slice A4 cur.length c4) (by omega)).mono (base' := w.heap.size) (by omega)
        refine bodyPost_ret (v := .tuple #[.agg #[.int .i64 (min (ep + 1) 1099511627776), .slice A4 cur.length c4], .slice Ao outl.length co]) (by simp [results, Tryz.f180, go_sem, r0, r1]) rfl ?_
        rw [← HD.out, ← HR.out]
        refine ⟨A4, c4, Ao, co, rfl, hx, hy, ?_⟩
        go_grown
      · have HR2 : Hid ((outl ++ [x] ++ (drainM all2 (outl.length + 1) r).1, (drainM all2 (outl.length + 1) r).2) = drainM all2 0 l) := by have := HR.out; rw [hd _ _ hm] at this; have h3 : (outl ++ [x] ++ (drainM all2 (outl.length + 1) r).1, (drainM all2 (outl.length + 1) r).2) = drainM all2 0 l := (by rw [← this]; try simp); exact h3
        clear HR hd hm
        have HR := HR2
        rw [hn] at N
        clear hn
        have hsz := hB.size
        go_wp2_with (first
          | (go_at_call 186; (refine (M _).mono ?_); rintro e w4 ⟨rfl, hw⟩; obtain rfl := hw.symm; clear hw)
          | (go_at_call 193; (refine (N _ hA3.lies hcap kb).mono ?_); rintro e w5 ⟨A4, c4, rfl, kb5, hA4, hg5⟩; have kr5 := (hg5.block (w.heap.size + 1) (blk_lt kr) (by simp; omega)).trans kr; have hAo2 := hAo.by hg5 (hAo.apart (by omega)); have hB5 := hB.grown hg5 (by omega) (by intro g hg; injection hg with hg; omega); have hs5 := hg5.size; obtain ⟨e0, e1, -, -⟩ := cells2 kb5; obtain ⟨q0, q1, q2, q3⟩ := cells2 kr5)
          | (at_builtin; refine wpList_append_own _ rfl _ _ 30 rfl (Bb + 1) 3 i0 (.int .i64 0) 1 8 Tryz.underlying30 hi hz0 hz1 hz2 rfl (by decide) _ _ _ rfl (World.ownsRow.alloc hAo2 _) ⟨w5.heap.size, 0, none⟩ 1 1 [.int .i64 x] rfl rfl (cell_one _ _ _) (by simp [Value.oneCell']) (by simp only [maxLen]; omega) (by omega) (by simp; omega) ?_; intro v' w6 hown' hgrow hnil))
        have hown2 : w6.ownsRow (Bb + 1) 3 1 v' (outl ++ [x]).length (ints (outl ++ [x])) := by simpa using hown'
        have hne : ∀ k, k < w5.heap.size → (∀ off t, Ao ≠ some ⟨k, off, t⟩) → w6.heap[k]? = w5.heap[k]? := fun k hk hno => by
          have hgrow2 : (w5.alloc _).grownBy w6 (Value.slice Ao outl.length co).ownBlock := hgrow
          rw [hgrow2.block k (by simp; omega) (fun e => by
            cases Ao with
            | none => simp [Value.ownBlock] at e
            | some a => obtain ⟨b, off, t⟩ := a; simp [Value.ownBlock] at e; subst e; exact hno off t rfl)]
          exact Below.heap_alloc _ _ _ hk
        have hB6 : Below w.heap.size w w6 := (hB5.alloc hB5.size _).grown hgrow (by simp; omega) (by intro g hg; have := (World.ownsRow.lt hAo2 g hg).1; omega)
        have kb6 := (hne Bb (by omega) (fun off t e => by have := (hAo.base _ _ _ e).1; omega)).trans kb5
        have kr6 := (hne (w.heap.size + 1) (by omega) (fun off t e => by have := (hAo.base _ _ _ e).1; omega)).trans kr5
        have hA6 := (hA4.mono (base' := w.heap.size + 2) (by omega)).grown (w' := w6) (fun g off t e => hne g (hA4.base _ _ _ e).2 (fun off t e2 => by have h1 := (hAo.base _ _ _ e2).2; have h2 := (hA4.base _ _ _ e).1; omega))
        have ap : Apart A4 Bb := fun g off t e => by have := (hA4.base _ _ _ e).1; omega
        have hs6 := hgrow.size
        rw [World.size_alloc] at hs6
        have hlen : (outl ++ [x]).length = outl.length + 1 := by simp
        obtain ⟨A7, c7, rfl⟩ : ∃ A7 c7, v' = .slice A7 (outl ++ [x]).length c7 := by
          rcases hown2.2 with ⟨e1, e2⟩ | ⟨g, cap, cur, e1, _⟩
          · exact ⟨none, 0, by rw [e1, e2]⟩
          · exact ⟨_, cap, e1⟩
        go_roundw
        case rel => exact ⟨r, outl ++ [x], A4, c4, A7, c7, rfl, kb6, hA6, ap, hown2, kr6, hB6, by rw [hlen]; exact HR.out, by simp at hle2 ⊢; omega, by omega⟩
        case measure => simp; omega

end Go.Proofs.YtnbgpopjnpdmgaaGreat
