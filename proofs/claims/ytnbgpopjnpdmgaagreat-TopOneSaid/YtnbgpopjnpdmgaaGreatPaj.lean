/-
  DERIVED. Line3, Blk, Event.
-/
import Derived.Shelf.SlicesE.Delete
import Derived.Lib.OwnBridge
import Derived.Ground.SlgnProg
import Derived.Test.YtnbgpopjnpdmgaaGreatPai
import Derived.Test.YtnbgpopjnpdmgaaGreatPab
import Derived.Handy
set_option linter.unusedVariables false
set_option linter.unusedSimpArgs false

namespace Go.Proofs.YtnbgpopjnpdmgaaGreat
open Go Go.RowKit Go.Shelf

def Tryz.del_ren : Go.Shelf.Ren := ⟨fun | 45 => 136 | n => n, fun | 22 => 30 | 23 => 3 | 3 => 3 | 4 => 4 | 0 => 0 | n => n, fun | n => n⟩
theorem Tryz.del : Go.Proofs.SlLaysE.n45 Tryz.prog Tryz.del_ren := {
  mixed := by kernel_rfl
  f45 := ⟨Tryz.f136.name, by decide, Tryz.func136.trans (congrArg some (by kernel_rfl))⟩
  t0 := Tryz.underlying0
  a0 := Tryz.isAgg0
  z0 := Tryz.sizeOf0
  v0 := Tryz.zeroValue0
  t3 := Tryz.underlying3
  a3 := Tryz.isAgg3
  z3 := Tryz.sizeOf3
  v3 := Tryz.zeroValue3
  t4 := Tryz.underlying4
  a4 := Tryz.isAgg4
  z4 := Tryz.sizeOf4
  v4 := Tryz.zeroValue4
  t22 := Tryz.underlying30
  a22 := Tryz.isAgg30
  z22 := Tryz.sizeOf30
  v22 := Tryz.zeroValue30
  a23 := Tryz.isAgg3
  z23 := Tryz.sizeOf3 }

theorem Mine.mono {w : World} {base base' : Nat} {e : TypeId} {k : Nat} {A : Option Addr} {c n : Nat} {xs : List Value} (h : Mine w base e k A c n xs) (hb : base' ≤ base) : Mine w base' e k A c n xs := by
  refine ⟨h.1, ?_⟩
  rcases h.2 with hn | ⟨g, cap, cur, e1, hb2, rest⟩
  · exact .inl hn
  · exact .inr ⟨g, cap, cur, e1, Nat.le_trans hb hb2, rest⟩
theorem Mine.cap {w : World} {base : Nat} {e : TypeId} {k : Nat} {A : Option Addr} {c n : Nat} {xs : List Value} (h : Mine w base e k A c n xs) : n ≤ c := by
  rcases h.2 with ⟨e1, e2⟩ | ⟨g, cap, cur, e1, hb2, hg, hn, _⟩
  · injection e1 with a b d; omega
  · injection e1 with a b d; omega

/-- One out of a row of the call's own. -/
theorem delete_any (l : List Int) (k : Nat) (A : Option Addr) (c base : Nat) (w : World) (hk : k < l.length) (hown : Mine w base 3 1 A c l.length (ints l)) :
    Calls Tryz.prog 136 #[.slice A l.length c, .int .i64 k, .int .i64 ((k : Int) + 1)] w fun e w' => ∃ A' c', e = .returned (.slice A' (l.eraseIdx k).length c') ∧ Mine w' base 3 1 A' c' (l.eraseIdx k).length (ints (l.eraseIdx k)) ∧ Below base w w' := by
  obtain ⟨i0, hi, hz0, hz1, hz2⟩ := info_parts int_inf
  have hown1 : w.ownsRow base 3 1 (.slice A l.length c) l.length (l.map (Value.int .i64)) := by rw [← ints_map]; exact hown
  obtain ⟨g, cap, hv, hbase, hg, hn, hm, hl, hH⟩ := Lib.holds_of_ownsRow hown1 (by
    intro e
    injection e with a b
    omega)
  obtain ⟨rfl, -, rfl⟩ : A = some ⟨g, 0, none⟩ ∧ l.length = l.length ∧ c = cap := by injection hv with a b c; exact ⟨a, b, c⟩
  have C := AnyE.slices_Delete Tryz.del (Value.int .i64) (fun _ => rfl) (0 : Int) Tryz.zeroValue3 i0 hi hz1 g 0 c k (k + 1) l.toArray w hH (by simpa using hn) (by simp only [maxLen] at hm; omega) (by omega) (by simp; omega)
  have hlen : (l.eraseIdx k).length = l.length - 1 := List.length_eraseIdx_of_lt hk
  rw [show ((k + 1 : Nat) : Int) = (k : Int) + 1 by omega] at C
  change Calls Tryz.prog 136 #[.slice (some ⟨g, 0, none⟩) l.length c, .int .i64 k, .int .i64 ((k : Int) + 1)] w _ at C
  refine C.mono ?_
  rintro e w' ⟨rfl, q, rfl⟩
  have hyl : (l.take k ++ l.drop (k + 1) ++ [(0 : Int)]).length = l.length := by simp; omega
  have he : (l.take k ++ l.drop (k + 1) ++ [(0 : Int)]).take (l.length - 1) = l.eraseIdx k := by
    rw [List.take_append_of_le_length (by simp; omega), List.take_of_length_le (by simp; omega), List.eraseIdx_eq_take_drop_succ]
  have hU := Lib.ownsRow_putRow (q := q) (k := l.length - 1) hown1 hyl (by omega)
  rw [he, ← ints_map] at hU
  refine ⟨some ⟨g, 0, none⟩, c, ?_, ?_, ?_⟩
  · rw [hlen]; simp
  · have : k + 1 - k = 1 := by omega
    simp only [this, List.replicate_one]
    rw [hlen]
    exact hU
  · exact Lib.below_putRow ⟨rfl, rfl, rfl, Nat.le_refl _, fun _ _ => rfl⟩ hbase

/-- One less. -/
def levL (l : List Int) (x : Int) : List Int × Int := if plc l x < 0 then (l, 40) else (l.eraseIdx (plc l x).toNat, 0)

set_option maxRecDepth 100000 in
set_option maxHeartbeats 2000000 in
theorem leave_no (l : List Int) (x : Int) (A : Option Addr) (c : Nat) (w : World) (hl : l.length ≤ 100000) (hA : Lies w w.heap.size A (ints l)) (h : plc l x < 0) :
    Calls Tryz.prog 103 #[.slice A l.length c, .int .i64 x] w fun e w' => ∃ A' c', e = .returned (.tuple #[.slice A' (l).length c', .int .i64 40]) ∧ Mine w' w.heap.size 3 1 A' c' (l).length (ints (l)) ∧ Below w.heap.size w w' := by
  have K := fun W (hW : Below w.heap.size w W) => clone_ints (ints l) A l.length c W (by rw [ints_len, Nat.mul_one]) (one_ints l) (hA.on hW) (by omega)
  have P := fun W (hW : Below w.heap.size w W) => place_any l x A c W hl (hA.on hW)
  generalize plc l x = i at *
  go_enter Tryz.func103, Tryz.ntmps103
  go_wp2_with (first
      | (go_at_call 50; with_reducible refine (K _ (Below.refl _ _)).mono ?_; rintro e w1 ⟨A1, c1, rfl, hown, hb⟩)
      | (go_at_call 135; with_reducible refine (P _ hb).mono ?_; rintro e w2 ⟨rfl, hb2⟩; have hown2 := hown.kept hb2; have hB := hb.trans (hb2.mono hb.size)))
  go_ret2
  exact ⟨A1, c1, rfl, hown2, hB⟩

set_option maxRecDepth 100000 in
set_option maxHeartbeats 2000000 in
theorem leave_yes (l : List Int) (x : Int) (A : Option Addr) (c : Nat) (w : World) (hl : l.length ≤ 100000) (hA : Lies w w.heap.size A (ints l)) (k : Nat) (h : plc l x = k) :
    Calls Tryz.prog 103 #[.slice A l.length c, .int .i64 x] w fun e w' => ∃ A' c', e = .returned (.tuple #[.slice A' (l.eraseIdx k).length c', .int .i64 0]) ∧ Mine w' w.heap.size 3 1 A' c' (l.eraseIdx k).length (ints (l.eraseIdx k)) ∧ Below w.heap.size w w' := by
  have K := fun W (hW : Below w.heap.size w W) => clone_ints (ints l) A l.length c W (by rw [ints_len, Nat.mul_one]) (one_ints l) (hA.on hW) (by omega)
  have P := fun W (hW : Below w.heap.size w W) => place_any l x A c W hl (hA.on hW)
  have hk : k < l.length := by have := (plc_lt l x).1; omega
  have D := fun A c W (hW : Mine W w.heap.size 3 1 A c l.length (ints l)) => delete_any l k A c w.heap.size W hk hW
  rw [h] at P
  clear h
  go_enter Tryz.func103, Tryz.ntmps103
  go_wp2_with (first
      | (go_at_call 50; with_reducible refine (K _ (Below.refl _ _)).mono ?_; rintro e w1 ⟨A1, c1, rfl, hown, hb⟩)
      | (go_at_call 135; with_reducible refine (P _ hb).mono ?_; rintro e w2 ⟨rfl, hb2⟩; have hown2 := hown.kept hb2; have hB := hb.trans (hb2.mono hb.size))
      | (go_at_call 136; with_reducible refine (D _ _ _ hown2).mono ?_; rintro e w3 ⟨A3, c3, rfl, hown3, hb3⟩))
  go_ret2
  exact ⟨A3, c3, rfl, hown3, hB.trans hb3⟩

theorem leave_any (l : List Int) (x : Int) (A : Option Addr) (c : Nat) (w : World) (hl : l.length ≤ 100000) (hA : Lies w w.heap.size A (ints l)) : Calls Tryz.prog 103 #[.slice A l.length c, .int .i64 x] w fun e w' => ∃ A' c', e = .returned (.tuple #[.slice A' ((levL l x).1).length c', .int .i64 (levL l x).2]) ∧ Mine w' w.heap.size 3 1 A' c' ((levL l x).1).length (ints ((levL l x).1)) ∧ Below w.heap.size w w' := by
  unfold levL
  split
  · exact leave_no l x A c w hl hA (by assumption)
  · have e : plc l x = ((plc l x).toNat : Nat) := by omega
    exact leave_yes l x A c w hl hA _ e

/-- The first one, and the others. -/
def nxtL (l : List Int) : Int × List Int × Bool := if lineOk l then (match l with | [] => (0, [], false) | x :: r => (x, r, true)) else (0, l, false)

set_option maxRecDepth 100000 in
set_option maxHeartbeats 2000000 in
theorem next_no (l : List Int) (A : Option Addr) (c : Nat) (w : World) (hl : l.length ≤ 100000) (hA : Lies w w.heap.size A (ints l)) (h : lineOk l = false) :
    Calls Tryz.prog 194 #[.slice A l.length c] w fun e w' => ∃ A' c', e = .returned (.tuple #[.int .i64 0, .slice A' (l).length c', .bool false]) ∧ Mine w' w.heap.size 3 1 A' c' (l).length (ints (l)) ∧ Below w.heap.size w w' := by
  have K := fun W (hW : Below w.heap.size w W) => clone_ints (ints l) A l.length c W (by rw [ints_len, Nat.mul_one]) (one_ints l) (hA.on hW) (by omega)
  have C := lineCheck_any l A c w hl hA
  rw [h] at C
  clear h
  go_enter Tryz.func194, Tryz.ntmps194
  go_wp2_with (first
      | (go_at_call 70; with_reducible refine (C).mono ?_; rintro e w1 ⟨rfl, hb1⟩)
      | (go_at_call 50; with_reducible refine (K _ hb1).mono ?_; rintro e w2 ⟨A1, c1, rfl, hown, hb⟩))
  go_ret3
  exact ⟨A1, c1, rfl, hown.mono hb1.size, hb1.trans (hb.mono hb1.size)⟩

set_option maxRecDepth 100000 in
set_option maxHeartbeats 2000000 in
theorem next_nil (A : Option Addr) (c : Nat) (w : World) (hA : Lies w w.heap.size A (ints [])) :
    Calls Tryz.prog 194 #[.slice A 0 c] w fun e w' => ∃ A' c', e = .returned (.tuple #[.int .i64 0, .slice A' (([] : List Int)).length c', .bool false]) ∧ Mine w' w.heap.size 3 1 A' c' (([] : List Int)).length (ints (([] : List Int))) ∧ Below w.heap.size w w' := by
  have K := fun W (hW : Below w.heap.size w W) => clone_ints [] A 0 c W (by rfl) (one_ints []) (hA.on hW) (by omega)
  have C : Calls Tryz.prog 70 #[.slice A 0 c] w fun e w' => e = .returned (.bool true) ∧ Below w.heap.size w w' := lineCheck_any [] A c w (by simp) hA
  go_enter Tryz.func194, Tryz.ntmps194
  go_wp2_with (first
      | (go_at_call 70; with_reducible refine (C).mono ?_; rintro e w1 ⟨rfl, hb1⟩)
      | (go_at_call 50; with_reducible refine (K _ hb1).mono ?_; rintro e w2 ⟨A1, c1, rfl, hown, hb⟩))
  go_ret3
  exact ⟨A1, c1, rfl, hown.mono hb1.size, hb1.trans (hb.mono hb1.size)⟩

set_option maxRecDepth 100000 in
set_option maxHeartbeats 2000000 in
theorem next_yes (x : Int) (r : List Int) (b off c : Nat) (w : World) (hl : (x :: r).length ≤ 100000) (hA : Lies w w.heap.size (some ⟨b, off, none⟩) (ints (x :: r))) (h : lineOk (x :: r) = true) (hcap : (x :: r).length ≤ c) :
    Calls Tryz.prog 194 #[.slice (some ⟨b, off, none⟩) (r.length + 1) c] w fun e w' => ∃ A' c', e = .returned (.tuple #[.int .i64 x, .slice A' (r).length c', .bool true]) ∧ Mine w' w.heap.size 3 1 A' c' (r).length (ints (r)) ∧ Below w.heap.size w w' := by
  have hc1 := hA
  have hb0 : b < w.heap.size := by
    rcases hA with ⟨h, _⟩ | ⟨b2, off2, h, hb, _⟩
    · cases h
    · injection h with h; injection h with h1; omega
  have c0 : w.cell? ⟨b, off, none⟩ = some (.int .i64 x) := by
    rcases hA with ⟨h, _⟩ | ⟨b2, off2, h, hb, hc⟩
    · cases h
    · injection h with h; injection h with h1 h2; subst h1; subst h2; exact hc 0 _ rfl
  have C : Calls Tryz.prog 70 #[.slice (some ⟨b, off, none⟩) (r.length + 1) c] w fun e w' => e = .returned (.bool true) ∧ Below w.heap.size w w' := by
    have := lineCheck_any (x :: r) (some ⟨b, off, none⟩) c w hl hA
    rw [h] at this
    exact this
  have hr : Lies w w.heap.size (if c = 1 then some ⟨b, off, none⟩ else some ⟨b, off + 1, none⟩) (ints r) := by
    rcases hA with ⟨h, _⟩ | ⟨b2, off2, h, hb, hc⟩
    · cases h
    · injection h with h; injection h with h1 h2; subst h1; subst h2
      by_cases hq1 : c = 1
      · have : r = [] := List.eq_nil_of_length_eq_zero (by simp at hcap; omega)
        subst this
        rw [if_pos hq1]
        exact .inr ⟨b, off, rfl, hb0, fun i v hi => by simp at hi⟩
      · rw [if_neg hq1]
        exact .inr ⟨b, off + 1, rfl, hb0, fun i v hi => by rw [Nat.add_assoc, Nat.add_comm 1 i]; exact hc (i + 1) v (by simpa using hi)⟩
  have hcc : r.length + 1 ≤ c := hcap
  have K := fun W (hW : Below w.heap.size w W) => clone_ints (ints r) (if c = 1 then some ⟨b, off, none⟩ else some ⟨b, off + 1, none⟩) r.length (c - 1) W (by rw [ints_len, Nat.mul_one]) (one_ints r) (hr.on hW) (by simp at hl; omega)
  clear h
  go_enter Tryz.func194, Tryz.ntmps194
  go_wp2_with (first
      | (go_at_call 70; with_reducible refine (C).mono ?_; rintro e w1 ⟨rfl, hb1⟩))
  have hS : Below w.heap.size w w1.drew := hb1.drew
  refine wp_region_ord (S := (Below w.heap.size w)) (by kernel_rfl)
    [(true, 0), (true, 1), (true, 2), (true, 3), (true, 4), (false, 5), (true, 6), (true, 7), (true, 8)]
    (by kernel_rfl) (by kernel_rfl) (by kernel_rfl) (fun _ _ d _ _ h => by cases d <;> exact h) ?_
  simp only [inOrder, List.getElem?_cons_succ, List.getElem?_cons_zero, List.nil_append, List.cons_append]
  repeat (first
    | (refine Ord.idle hS rfl (fun V hV f hf => ?_) (by simp only [Act.put, List.setIfInBounds_toArray, List.set_cons_succ, List.set_cons_zero]; rfl) ?_
       · trivial)
    | (refine Ord.calm (v := ?_) hS rfl (fun V hV => ?_) (fun V hV f hf => ?_) (by simp only [Act.put, List.setIfInBounds_toArray, List.set_cons_succ, List.set_cons_zero]; rfl) ?_
       rotate_left
       · first
         | (go_simp; with_reducible rfl)
         | (have cx := (hV.cell (p := ⟨b, off, none⟩) hb0).trans c0; go_simp; with_reducible rfl)
         | (go_simp; refine (if_pos ?hc).trans ?_; omega; with_reducible rfl)
       · trivial))
  refine Ord.only rfl ?_
  go_simp
  refine ⟨trivial, rfl, (callsIn_wide.2 (K _ hS)).mono ?_⟩
  rintro e w3 ⟨A2, c2, rfl, hown, hb⟩; replace hown := Mine.mono hown hS.size
  replace hS := hS.trans (hb.mono hS.size)
  refine ⟨hS, ?_⟩
  clear hb
  repeat (first
    | (refine Ord.idle hS rfl (fun V hV f hf => ?_) (by simp only [Act.put, List.setIfInBounds_toArray, List.set_cons_succ, List.set_cons_zero]; rfl) ?_
       · trivial)
    | (refine Ord.calm (v := ?_) hS rfl (fun V hV => ?_) (fun V hV f hf => ?_) (by simp only [Act.put, List.setIfInBounds_toArray, List.set_cons_succ, List.set_cons_zero]; rfl) ?_
       rotate_left
       · first
         | (go_simp; with_reducible rfl)
         | (have cx := (hV.cell (p := ⟨b, off, none⟩) hb0).trans c0; go_simp; with_reducible rfl)
         | (go_simp; refine (if_pos ?hc).trans ?_; omega; with_reducible rfl)
       · trivial))
  simp only [Ord, Exit.then]
  go_wp2
  all_goals
    go_ret3
    exact ⟨A2, c2, rfl, hown, hS⟩

theorem next_any (l : List Int) (A : Option Addr) (c : Nat) (w : World) (hl : l.length ≤ 100000) (hA : Lies w w.heap.size A (ints l)) (hcap : l.length ≤ c) : Calls Tryz.prog 194 #[.slice A l.length c] w fun e w' => ∃ A' c', e = .returned (.tuple #[.int .i64 (nxtL l).1, .slice A' ((nxtL l).2.1).length c', .bool (nxtL l).2.2]) ∧ Mine w' w.heap.size 3 1 A' c' ((nxtL l).2.1).length (ints ((nxtL l).2.1)) ∧ Below w.heap.size w w' := by
  unfold nxtL
  split
  · rename_i h
    cases l with
    | nil => exact next_nil A c w hA
    | cons x r =>
      obtain ⟨b, off, rfl, -, -⟩ := hA.open_ (by simp)
      exact next_yes x r b off c w hl hA h hcap
  · rename_i h
    exact next_no l A c w hl hA (by simpa using h)

end Go.Proofs.YtnbgpopjnpdmgaaGreat

namespace Go.Proofs.YtnbgpopjnpdmgaaGreat
open Go Go.RowKit Go.Shelf

/-- Below base all is as it was in w; and these blocks lie so. -/
structure Blk (w : World) (base : Nat) (L : List (Nat × Obj)) (W : World) : Prop where
  below : Below base w W
  all : ∀ p ∈ L, W.heap[p.1]? = some p.2
  le : base ≤ w.heap.size
theorem Blk.nil (w : World) : Blk w w.heap.size [] w := ⟨Below.refl _ _, (fun p hp => by cases hp), Nat.le_refl _⟩
theorem kept {W V : World} {B : Nat} {o : Obj} (h : W.heap[B]? = some o) (hb : Below W.heap.size W V) : V.heap[B]? = some o := (hb.block _ (Array.getElem?_eq_some_iff.1 h).1).trans h
theorem Blk.size {w : World} {base : Nat} {L : List (Nat × Obj)} {W : World} (h : Blk w base L W) : base ≤ W.heap.size := Nat.le_trans h.le h.below.size
theorem Blk.on {w : World} {base : Nat} {L : List (Nat × Obj)} {W V : World} (h : Blk w base L W) (hb : Below W.heap.size W V) : Blk w base L V :=
  ⟨h.below.trans (hb.mono h.size), fun p hp => kept (h.all p hp) hb, h.le⟩
theorem Blk.drew {w : World} {base : Nat} {L : List (Nat × Obj)} {W : World} (h : Blk w base L W) : Blk w base L W.drew := ⟨h.below.drew, h.all, h.le⟩
theorem Blk.get {w : World} {base : Nat} {L : List (Nat × Obj)} {W : World} {B : Nat} {o : Obj} (h : Blk w base L W) (hm : (B, o) ∈ L) : W.heap[B]? = some o := h.all _ hm
theorem Blk.add {w : World} {base : Nat} {L : List (Nat × Obj)} {W : World} (h : Blk w base L W) (o : Obj) : Blk w base ((W.heap.size, o) :: L) (W.alloc o) :=
  ⟨h.below.alloc h.size o, fun p hp => by
    rcases List.mem_cons.1 hp with rfl | hp
    · exact World.alloc_heap_new W o
    · have := h.all p hp
      exact (Below.heap_alloc _ _ _ (Array.getElem?_eq_some_iff.1 this).1).trans this, h.le⟩
theorem Blk.less {w : World} {base : Nat} {L M : List (Nat × Obj)} {W : World} (h : Blk w base L W) (hs : ∀ p ∈ M, p ∈ L) : Blk w base M W := ⟨h.below, fun p hp => h.all p (hs p hp), h.le⟩
theorem Blk.other {w : World} {base : Nat} {L : List (Nat × Obj)} {W : World} (h : Blk w base L W) (B i : Nat) (v : Value) (hB : base ≤ B) (hL : ∀ p ∈ L, p.1 ≠ B) : Blk w base L (W.setCell ⟨B, i, none⟩ v) :=
  ⟨h.below.setCell hB v, fun p hp => (Below.heap_setCell W ⟨B, i, none⟩ v p.1 (hL p hp)).trans (h.all p hp), h.le⟩
/-- One block is written. -/
theorem put_cell {W : World} {B i : Nat} {cs : Array Value} {t : TypeId} {fr : Nat × Nat} (h : W.heap[B]? = some (.cells cs t fr)) (v : Value) : (W.setCell ⟨B, i, none⟩ v).heap[B]? = some (.cells (cs.setIfInBounds i v) t fr) := by
  simp [World.setCell, Array.getElem?_modify, h]
theorem Blk.put {w : World} {base : Nat} {L : List (Nat × Obj)} {W : World} {B : Nat} {cs : Array Value} {t : TypeId} {fr : Nat × Nat} (h : Blk w base ((B, .cells cs t fr) :: L) W) (i : Nat) (v : Value) (hB : base ≤ B) (hL : ∀ p ∈ L, p.1 ≠ B) :
    Blk w base ((B, .cells (cs.setIfInBounds i v) t fr) :: L) (W.setCell ⟨B, i, none⟩ v) :=
  ⟨h.below.setCell hB v, fun p hp => by
    rcases List.mem_cons.1 hp with rfl | hp
    · exact put_cell (h.all _ (List.mem_cons_self ..)) v
    · exact (Below.heap_setCell W ⟨B, i, none⟩ v p.1 (hL p hp)).trans (h.all p (List.mem_cons_of_mem _ hp)), h.le⟩
theorem keep_cell {W : World} {B C i : Nat} {o : Obj} (h : W.heap[B]? = some o) (hne : B ≠ C) (v : Value) : (W.setCell ⟨C, i, none⟩ v).heap[B]? = some o := (Below.heap_setCell W ⟨C, i, none⟩ v B hne).trans h
theorem keep_alloc {W : World} {B : Nat} {o : Obj} (h : W.heap[B]? = some o) (o' : Obj) : (W.alloc o').heap[B]? = some o := (Below.heap_alloc _ _ _ (Array.getElem?_eq_some_iff.1 h).1).trans h
theorem blk_lt {W : World} {B : Nat} {o : Obj} (h : W.heap[B]? = some o) : B < W.heap.size := (Array.getElem?_eq_some_iff.1 h).1
/-- A cell holds a value. -/
def At (B o : Nat) (v : Value) (V : World) : Prop := V.cell? ⟨B, o, none⟩ = some v
theorem cells2 {W : World} {B : Nat} {a b : Value} {t : TypeId} (h : W.heap[B]? = some (.cells #[a, b] t (0, 0))) :
    W.cell? ⟨B, 0, none⟩ = some a ∧ W.cell? ⟨B, 1, none⟩ = some b ∧ W.frozen? ⟨B, 0, none⟩ = false ∧ W.frozen? ⟨B, 1, none⟩ = false :=
  ⟨(of_block h 0).1, (of_block h 1).1, (of_block h 0).2, (of_block h 1).2⟩
theorem cells1 {W : World} {B : Nat} {a : Value} {t : TypeId} (h : W.heap[B]? = some (.cells #[a] t (0, 0))) : W.cell? ⟨B, 0, none⟩ = some a ∧ W.frozen? ⟨B, 0, none⟩ = false := ⟨(of_block h 0).1, (of_block h 0).2⟩

theorem Mine.grown {w w' : World} {base : Nat} {e : TypeId} {k : Nat} {A : Option Addr} {c n : Nat} {xs : List Value} (h : Mine w base e k A c n xs) (hb : ∀ g off t, A = some ⟨g, off, t⟩ → w'.heap[g]? = w.heap[g]?) : Mine w' base e k A c n xs := by
  refine ⟨h.1, ?_⟩
  rcases h.2 with hn | ⟨g, cap, cur, e1, hb2, hg, rest⟩
  · exact .inl hn
  · exact .inr ⟨g, cap, cur, e1, hb2, (hb g 0 none (by injection e1)).trans hg, rest⟩
/-- A row stands where another block is written. -/
theorem Mine.other {w : World} {base : Nat} {e : TypeId} {k : Nat} {A : Option Addr} {c n : Nat} {xs : List Value} (h : Mine w base e k A c n xs) (B i : Nat) (v : Value) (hB : B < base) : Mine (w.setCell ⟨B, i, none⟩ v) base e k A c n xs :=
  h.grown fun g off t hA => Below.heap_setCell w ⟨B, i, none⟩ v g (by have := (h.base g off t hA).1; show g ≠ B; omega)
theorem Mine.drew {w : World} {base : Nat} {e : TypeId} {k : Nat} {A : Option Addr} {c n : Nat} {xs : List Value} (h : Mine w base e k A c n xs) : Mine w.drew base e k A c n xs := h
theorem Mine.alloc {w : World} {base : Nat} {e : TypeId} {k : Nat} {A : Option Addr} {c n : Nat} {xs : List Value} (h : Mine w base e k A c n xs) (o : Obj) : Mine (w.alloc o) base e k A c n xs := World.ownsRow.alloc h o

end Go.Proofs.YtnbgpopjnpdmgaaGreat

namespace Go.Proofs.YtnbgpopjnpdmgaaGreat
open Go Go.RowKit Go.Shelf

set_option maxRecDepth 100000 in
set_option maxHeartbeats 2000000 in
theorem evOwn_any (ep : Int) (l : List Int) (A : Option Addr) (c : Nat) (w : World) (hl : l.length ≤ 100000) (hA : Lies w w.heap.size A (ints l)) :
    Calls Tryz.prog 104 #[.agg #[.int .i64 ep, .slice A l.length c]] w fun e w' => ∃ A' c', e = .returned (.agg #[.int .i64 ep, .slice A' l.length c']) ∧ Mine w' w.heap.size 3 1 A' c' l.length (ints l) ∧ Below w.heap.size w w' := by
  have K := fun W (hW : Below w.heap.size w W) => clone_ints (ints l) A l.length c W (by rw [ints_len, Nat.mul_one]) (one_ints l) (hA.on hW) (by omega)
  have hS0 := ((Blk.nil w).add (.cells #[.int .i64 ep, .slice A l.length c] 32)).add (.cells #[.int .i64 0, .slice none 0 0] 32)
  rw [World.size_alloc] at hS0
  go_enter Tryz.func104, Tryz.ntmps104
  go_wp2_with fail
  have hS := hS0.drew
  clear hS0
  refine wp_region_ord3 (Blk w w.heap.size [(w.heap.size + 1, (.cells #[.int .i64 0, .slice none 0 0] 32)), (w.heap.size, (.cells #[.int .i64 ep, .slice A l.length c] 32))]) (fun _ => True) 6 (by kernel_rfl)
    [(2, 0), (2, 2), (1, 1), (1, 3), (0, 4), (2, 5), (0, 6)]
    (by kernel_rfl) (by kernel_rfl) (by decide) (by kernel_rfl) (fun _ _ d _ _ h => by cases d <;> exact h) ?_
  simp only [inOrder2, List.getElem?_cons_succ, List.getElem?_cons_zero, List.nil_append, List.cons_append]
  iterate 2 (((with_reducible refine o3_calmF (v := ?_) (a' := ?_) hS ?_ (fun V => ?_) ?_ ?_); rotate_left 2; (rfl); (first | (go_simp; with_reducible rfl) | (go_simp; refine (if_pos ?_).trans ?_; omega; with_reducible rfl)); (simp only [Act.put, List.setIfInBounds_toArray, List.set_cons_succ, List.set_cons_zero]; rfl)))
  iterate 2 (((with_reducible refine o3_pre (v := ?_) (a' := ?_) hS ?_ (fun V hV => ?_) ?_ ?_); rotate_left 2; (rfl); (obtain ⟨a0, a1, -, -⟩ := cells2 (Blk.get (B := w.heap.size) (o := (.cells #[.int .i64 ep, .slice A l.length c] 32)) hV (by simp)); first | (go_simp; with_reducible rfl) | (go_simp; refine (if_pos ?_).trans ?_; omega; with_reducible rfl)); (simp only [Act.put, List.setIfInBounds_toArray, List.set_cons_succ, List.set_cons_zero]; rfl)))
  refine o3_onlyF rfl rfl ?_
  go_simp
  refine ⟨trivial, rfl, (callsIn_wide.2 (K _ hS.below)).mono ?_⟩
  rintro e w1 ⟨A1, c1, rfl, hown, hb⟩
  refine ⟨hS.on hb, ?_⟩
  replace hS := hS.on hb
  ((with_reducible refine o3_calmF (v := ?_) (a' := ?_) hS ?_ (fun V => ?_) ?_ ?_); rotate_left 2; (rfl); (first | (go_simp; with_reducible rfl) | (go_simp; refine (if_pos ?_).trans ?_; omega; with_reducible rfl)); (simp only [Act.put, List.setIfInBounds_toArray, List.set_cons_succ, List.set_cons_zero]; rfl))
  obtain ⟨b0, b1, f0, f1⟩ := cells2 (Blk.get (B := w.heap.size + 1) (o := (.cells #[.int .i64 0, .slice none 0 0] 32)) hS (by simp))
  refine o3_onlyS rfl rfl ?_
  go_simp
  refine o3_end _ ?_
  simp only [Exit.then]
  have hB := hS.below
  have k := hS.get (B := w.heap.size + 1) (o := (.cells #[.int .i64 0, .slice none 0 0] 32)) (by simp)
  obtain ⟨r0, r1, -, -⟩ := cells2 (put_cell (put_cell k (.int .i64 ep) (i := 0)) (.slice A1 l.length c1) (i := 1))
  replace hown := ((hown.mono (base' := w.heap.size + 2) (by simp)).other (w.heap.size + 1) 0 (.int .i64 ep) (by omega)).other (w.heap.size + 1) 1 (.slice A1 l.length c1) (by omega)
  clear b0 b1 f0 f1 k
  go_wp2
  refine bodyPost_ret (v := .agg #[.int .i64 ep, .slice A1 l.length c1]) (by simp [results, Tryz.f104, go_sem, r0, r1]) rfl ⟨A1, c1, rfl, hown.mono (by omega), ?_⟩
  go_grown

def evOk (ep : Int) (l : List Int) : Bool := decide (0 ≤ ep) && (decide (ep ≤ 1099511627776) && lineOk l)

set_option maxRecDepth 100000 in
set_option maxHeartbeats 2000000 in
theorem evCheck_no (ep : Int) (l : List Int) (A : Option Addr) (c : Nat) (w : World) (hl : l.length ≤ 100000) (hA : Lies w w.heap.size A (ints l)) (h : ¬ (0 ≤ ep ∧ ep ≤ 1099511627776)) :
    Calls Tryz.prog 46 #[.agg #[.int .i64 ep, .slice A l.length c]] w fun e w' => e = .returned (.bool false) ∧ Below w.heap.size w w' := by
  go_enter Tryz.func46, Tryz.ntmps46
  go_wp2_with fail
  all_goals first
    | (exfalso; omega)
    | (go_ret; exact ⟨rfl, by go_grown⟩)

set_option maxRecDepth 100000 in
set_option maxHeartbeats 2000000 in
theorem evCheck_yes (ep : Int) (l : List Int) (A : Option Addr) (c : Nat) (w : World) (hl : l.length ≤ 100000) (hA : Lies w w.heap.size A (ints l)) (h1 : 0 ≤ ep) (h2 : ep ≤ 1099511627776) :
    Calls Tryz.prog 46 #[.agg #[.int .i64 ep, .slice A l.length c]] w fun e w' => e = .returned (.bool (lineOk l)) ∧ Below w.heap.size w w' := by
  have C := fun W (hW : Below w.heap.size w W) => lineCheck_any l A c W hl (hA.on hW)
  generalize lineOk l = r at *
  go_enter Tryz.func46, Tryz.ntmps46
  go_wp2_with (first
      | (go_at_call 70; (with_reducible refine (C _ (below_one w _)).mono ?_); rintro e w1 ⟨rfl, hb⟩))
  go_ret
  exact ⟨rfl, (below_one w _).trans (hb.mono (by simp))⟩

theorem evCheck_any (ep : Int) (l : List Int) (A : Option Addr) (c : Nat) (w : World) (hl : l.length ≤ 100000) (hA : Lies w w.heap.size A (ints l)) : Calls Tryz.prog 46 #[.agg #[.int .i64 ep, .slice A l.length c]] w fun e w' => e = .returned (.bool (evOk ep l)) ∧ Below w.heap.size w w' := by
  by_cases h : 0 ≤ ep ∧ ep ≤ 1099511627776
  · have e : evOk ep l = lineOk l := by simp [evOk, h.1, h.2]
    rw [e]
    exact evCheck_yes ep l A c w hl hA h.1 h.2
  · have e : evOk ep l = false := by
      unfold evOk
      by_cases h1 : 0 ≤ ep
      · have h2 : ¬ ep ≤ 1099511627776 := fun h2 => h ⟨h1, h2⟩
        simp [h2]
      · simp [h1]
    rw [e]
    exact evCheck_no ep l A c w hl hA h

set_option maxRecDepth 100000 in
set_option maxHeartbeats 2000000 in
theorem evPrep_true (ep : Int) (l : List Int) (A : Option Addr) (c : Nat) (w : World) (hl : l.length ≤ 100000) (hA : Lies w w.heap.size A (ints l)) (h : evOk ep l = true) :
    Calls Tryz.prog 147 #[.agg #[.int .i64 ep, .slice A l.length c]] w fun e w' => e = .returned (.int .i64 (ep)) ∧ Below w.heap.size w w' := by
  have E := fun W (hW : Below w.heap.size w W) => evCheck_any ep l A c W hl (hA.on hW)
  rw [h] at E
  clear h
  go_enter Tryz.func147, Tryz.ntmps147
  go_wp2_with (first
      | (go_at_call 46; (with_reducible refine (E _ (below_one w _)).mono ?_); rintro e w1 ⟨rfl, hb⟩; obtain ⟨a0, a1, -, -⟩ := cells2 (kept (World.alloc_heap_new w (.cells #[.int .i64 ep, .slice A l.length c] 32)) hb)))
  go_ret
  exact ⟨rfl, (below_one w _).trans (hb.mono (by simp))⟩

set_option maxRecDepth 100000 in
set_option maxHeartbeats 2000000 in
theorem evPrep_false (ep : Int) (l : List Int) (A : Option Addr) (c : Nat) (w : World) (hl : l.length ≤ 100000) (hA : Lies w w.heap.size A (ints l)) (h : evOk ep l = false) :
    Calls Tryz.prog 147 #[.agg #[.int .i64 ep, .slice A l.length c]] w fun e w' => e = .returned (.int .i64 (-1)) ∧ Below w.heap.size w w' := by
  have E := fun W (hW : Below w.heap.size w W) => evCheck_any ep l A c W hl (hA.on hW)
  rw [h] at E
  clear h
  go_enter Tryz.func147, Tryz.ntmps147
  go_wp2_with (first
      | (go_at_call 46; (with_reducible refine (E _ (below_one w _)).mono ?_); rintro e w1 ⟨rfl, hb⟩; obtain ⟨a0, a1, -, -⟩ := cells2 (kept (World.alloc_heap_new w (.cells #[.int .i64 ep, .slice A l.length c] 32)) hb)))
  go_ret
  exact ⟨rfl, (below_one w _).trans (hb.mono (by simp))⟩

theorem evPrep_any (ep : Int) (l : List Int) (A : Option Addr) (c : Nat) (w : World) (hl : l.length ≤ 100000) (hA : Lies w w.heap.size A (ints l)) : Calls Tryz.prog 147 #[.agg #[.int .i64 ep, .slice A l.length c]] w fun e w' => e = .returned (.int .i64 (if evOk ep l then ep else -1)) ∧ Below w.heap.size w w' := by
  cases h : evOk ep l with
  | true => exact evPrep_true ep l A c w hl hA h
  | false => exact evPrep_false ep l A c w hl hA h

set_option maxRecDepth 100000 in
set_option maxHeartbeats 2000000 in
theorem commit_no (ep seen id : Int) (l : List Int) (A : Option Addr) (c : Nat) (w : World) (hl : l.length ≤ 100000) (hA : Lies w w.heap.size A (ints l)) (h : evOk ep l = false) :
    Calls Tryz.prog 149 #[.agg #[.int .i64 ep, .slice A l.length c], .int .i64 seen, .int .i64 id] w fun e w' => ∃ A' c', e = .returned (.tuple #[.agg #[.int .i64 ep, .slice A' (l).length c'], .bool false, .int .i64 40]) ∧ Mine w' w.heap.size 3 1 A' c' (l).length (ints (l)) ∧ Below w.heap.size w w' := by
  have E := fun W (hW : Below w.heap.size w W) => evCheck_any ep l A c W hl (hA.on hW)
  rw [h] at E
  clear h
  have O := fun W (hW : Below w.heap.size w W) => evOwn_any ep l A c W hl (hA.on hW)
  obtain ⟨k0, k1, hB0⟩ := two_new w (.cells #[.int .i64 ep, .slice A l.length c] 32) (.cells #[.int .i64 0, .slice none 0 0] 32)
  go_enter Tryz.func149, Tryz.ntmps149
  go_wp2_with (first
      | (go_at_call 46; (with_reducible refine (E _ hB0).mono ?_); rintro e w1 ⟨rfl, hb⟩; replace k0 := kept k0 hb; replace k1 := kept k1 hb; have hB := hB0.trans (hb.mono hB0.size); obtain ⟨a0, a1, -, -⟩ := cells2 k0)
      | (go_at_call 104; (with_reducible refine (O _ hB).mono ?_); rintro e w2 ⟨A1, c1, rfl, hown, hb2⟩; replace k0 := kept k0 hb2; replace k1 := kept k1 hb2; have hB2 := hB.trans (hb2.mono hB.size); obtain ⟨b0, b1, f0, f1⟩ := cells2 k1))
  clear b0 b1 f0 f1
  have hsz := hB.size
  have hk := blk_lt k1
  have hsz1 := hb.size
  have hsz2 : w.heap.size + 1 < w1.heap.size := by simp at hsz1; omega
  obtain ⟨r0, r1, -, -⟩ := cells2 (put_cell (put_cell k1 (.int .i64 ep) (i := 0)) (.slice A1 l.length c1) (i := 1))
  replace hown := (hown.other (w.heap.size + 1) 0 (.int .i64 ep) hsz2).other (w.heap.size + 1) 1 (.slice A1 l.length c1) hsz2
  refine bodyPost_ret (v := .tuple #[.agg #[.int .i64 ep, .slice A1 l.length c1], .bool false, .int .i64 40]) (by simp [results, Tryz.f149, go_sem, r0, r1]) rfl ⟨A1, c1, rfl, hown.mono hsz, ?_⟩
  go_grown

set_option maxRecDepth 100000 in
set_option maxHeartbeats 2000000 in
theorem commit_bad (ep seen id : Int) (l : List Int) (A : Option Addr) (c : Nat) (w : World) (hl : l.length ≤ 100000) (hA : Lies w w.heap.size A (ints l)) (h : evOk ep l = true) (h2 : (entL l id).2 ≠ 0 ∨ ep ≠ seen) :
    Calls Tryz.prog 149 #[.agg #[.int .i64 ep, .slice A l.length c], .int .i64 seen, .int .i64 id] w fun e w' => ∃ A' c', e = .returned (.tuple #[.agg #[.int .i64 ep, .slice A' (l).length c'], .bool false, .int .i64 (entL l id).2]) ∧ Mine w' w.heap.size 3 1 A' c' (l).length (ints (l)) ∧ Below w.heap.size w w' := by
  have E := fun W (hW : Below w.heap.size w W) => evCheck_any ep l A c W hl (hA.on hW)
  rw [h] at E
  clear h
  have O := fun W (hW : Below w.heap.size w W) => evOwn_any ep l A c W hl (hA.on hW)
  have N := fun W (hW : Below w.heap.size w W) => enter_any l id A c W hl (hA.on hW)
  have hcase : ((entL l id).2 != 0) = true ∨ (((entL l id).2 != 0) = false ∧ (ep != seen) = true) := by
    by_cases hz : (entL l id).2 = 0
    · exact .inr ⟨by simp [hz], by rcases h2 with h2 | h2; exact absurd hz h2; simpa using h2⟩
    · exact .inl (by simpa using hz)
  clear h2
  generalize entL l id = en at *
  obtain ⟨L2, bad⟩ := en
  dsimp only at *
  obtain ⟨k0, k1, hB0⟩ := two_new w (.cells #[.int .i64 ep, .slice A l.length c] 32) (.cells #[.int .i64 0, .slice none 0 0] 32)
  go_enter Tryz.func149, Tryz.ntmps149
  rcases hcase with hq | ⟨hq, hq2⟩
  all_goals
    go_wp2_with (first
        | (go_at_call 46; (with_reducible refine (E _ hB0).mono ?_); rintro e w1 ⟨rfl, hb⟩; replace k0 := kept k0 hb; replace k1 := kept k1 hb; have hB := hB0.trans (hb.mono hB0.size); obtain ⟨a0, a1, -, -⟩ := cells2 k0)
        | (go_at_call 138; (with_reducible refine (N _ hB).mono ?_); rintro e w2 ⟨A3, c3, rfl, hown3, hb2⟩; replace k0 := kept k0 hb2; replace k1 := kept k1 hb2; have hB2 := hB.trans (hb2.mono hB.size); clear a0 a1; obtain ⟨a0, a1, -, -⟩ := cells2 k0; obtain ⟨b0, b1, f0, f1⟩ := cells2 k1)
        | (go_at_call 104; (with_reducible refine (O _ hB2).mono ?_); rintro e w4 ⟨A1, c1, rfl, hown, hb4⟩; replace k0 := kept k0 hb4; replace k1 := kept k1 hb4; have hB4 := hB2.trans (hb4.mono hB2.size); obtain ⟨b0, b1, f0, f1⟩ := cells2 k1))
    clear b0 b1 f0 f1
    have hsz := hB.size
    have hsz1 := hb.size
    have hsz2 : w.heap.size + 1 < w2.heap.size := by have := hb2.size; simp at hsz1; omega
    obtain ⟨r0, r1, -, -⟩ := cells2 (put_cell (put_cell k1 (.int .i64 ep) (i := 0)) (.slice A1 l.length c1) (i := 1))
    replace hown := (hown.other (w.heap.size + 1) 0 (.int .i64 ep) hsz2).other (w.heap.size + 1) 1 (.slice A1 l.length c1) hsz2
    refine bodyPost_ret (v := .tuple #[.agg #[.int .i64 ep, .slice A1 l.length c1], .bool false, .int .i64 bad]) (by simp [results, Tryz.f149, go_sem, r0, r1]) rfl ⟨A1, c1, rfl, hown.mono hB2.size, ?_⟩
    go_grown

set_option maxRecDepth 100000 in
set_option maxHeartbeats 2000000 in
theorem commit_yes (ep seen id : Int) (l : List Int) (A : Option Addr) (c : Nat) (w : World) (hl : l.length ≤ 100000) (hA : Lies w w.heap.size A (ints l)) (h : evOk ep l = true) (h2 : (entL l id).2 = 0) (h3 : ep = seen) :
    Calls Tryz.prog 149 #[.agg #[.int .i64 ep, .slice A l.length c], .int .i64 seen, .int .i64 id] w fun e w' => ∃ A' c', e = .returned (.tuple #[.agg #[.int .i64 ep, .slice A' ((entL l id).1).length c'], .bool true, .int .i64 0]) ∧ Mine w' w.heap.size 3 1 A' c' ((entL l id).1).length (ints ((entL l id).1)) ∧ Below w.heap.size w w' := by
  subst h3
  have E := fun W (hW : Below w.heap.size w W) => evCheck_any ep l A c W hl (hA.on hW)
  rw [h] at E
  clear h
  have N := fun W (hW : Below w.heap.size w W) => enter_any l id A c W hl (hA.on hW)
  rw [h2] at N
  clear h2
  generalize (entL l id).1 = L2 at *
  have hq : (ep != ep) = false := by simp
  obtain ⟨k0, k1, hB0⟩ := two_new w (.cells #[.int .i64 ep, .slice A l.length c] 32) (.cells #[.int .i64 0, .slice none 0 0] 32)
  go_enter Tryz.func149, Tryz.ntmps149
  go_wp2_with (first
      | (go_at_call 46; (with_reducible refine (E _ hB0).mono ?_); rintro e w1 ⟨rfl, hb⟩; replace k0 := kept k0 hb; replace k1 := kept k1 hb; have hB := hB0.trans (hb.mono hB0.size); obtain ⟨a0, a1, -, -⟩ := cells2 k0)
      | (go_at_call 138; (with_reducible refine (N _ hB).mono ?_); rintro e w2 ⟨A3, c3, rfl, hown3, hb2⟩; replace k0 := kept k0 hb2; replace k1 := kept k1 hb2; have hB2 := hB.trans (hb2.mono hB.size); clear a0 a1; obtain ⟨a0, a1, -, -⟩ := cells2 k0; obtain ⟨b0, b1, f0, f1⟩ := cells2 k1))
  clear b0 b1 f0 f1
  have hsz := hB.size
  have hsz1 := hb.size
  have hsz2 : w.heap.size + 1 < w1.heap.size := by simp at hsz1; omega
  obtain ⟨r0, r1, -, -⟩ := cells2 (put_cell (put_cell k1 (.int .i64 ep) (i := 0)) (.slice A3 L2.length c3) (i := 1))
  replace hown3 := (hown3.other (w.heap.size + 1) 0 (.int .i64 ep) hsz2).other (w.heap.size + 1) 1 (.slice A3 L2.length c3) hsz2
  refine bodyPost_ret (v := .tuple #[.agg #[.int .i64 ep, .slice A3 L2.length c3], .bool true, .int .i64 0]) (by simp [results, Tryz.f149, go_sem, r0, r1]) rfl ⟨A3, c3, rfl, hown3.mono hsz, ?_⟩
  go_grown

end Go.Proofs.YtnbgpopjnpdmgaaGreat
