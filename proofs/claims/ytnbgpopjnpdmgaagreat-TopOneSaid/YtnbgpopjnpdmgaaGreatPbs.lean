/-
  DERIVED. Things.
-/
import Derived.Test.YtnbgpopjnpdmgaaGreatPbl
import Derived.Test.YtnbgpopjnpdmgaaGreatPbr
import Derived.Test.YtnbgpopjnpdmgaaGreatPau
set_option linter.unusedVariables false
set_option linter.unusedSimpArgs false

namespace Go.Proofs.YtnbgpopjnpdmgaaGreat
open Go Go.RowKit Go.Shelf

def slotDiff (a b : List Pl) : Nat := (a.zip b).countP fun p => p.1 != p.2
theorem slotDiff_snoc {a b : List Pl} {k : Nat} {x y : Pl} (hx : a[k]? = some x) (hy : b[k]? = some y) : slotDiff (a.take (k + 1)) (b.take (k + 1)) = slotDiff (a.take k) (b.take k) + bit (x != y) := by
  have h1 := (List.getElem?_eq_some_iff.1 hx).1
  have h2 := (List.getElem?_eq_some_iff.1 hy).1
  unfold slotDiff
  rw [take_snoc hx, take_snoc hy, List.zip_append (by rw [List.length_take, List.length_take]; omega), List.countP_append]
  simp [bit, List.countP_cons]
theorem slotDiff_end {a b : List Pl} {k : Nat} (h : k = min a.length b.length) : slotDiff (a.take k) (b.take k) = slotDiff a b := by
  subst h
  unfold slotDiff
  rw [← List.zip_eq_zip_take_min]
def AnyN (n : Int) (e : Ending) : Prop := ∃ m : Int, m ≤ n ∧ e = .returned (.int .i64 m)
theorem bne_dec {α : Type} [BEq α] [LawfulBEq α] [DecidableEq α] (a b : α) : (a != b) = !decide (a = b) := by
  by_cases h : a = b <;> simp [h]

set_option maxRecDepth 100000 in
set_option maxHeartbeats 32000000 in
theorem things_eq (S T : St) (L L2 : Lay) (w : World) (hsm : S.small) (hsT : T.small) (hH : Holds w S L) (hT : Holds w T L2) (hd : S.diff T ≤ 1) (hw1 : S.word.head = T.word.head) (hw2 : S.word.tail = T.word.tail) (hw3 : S.word.mode = T.word.mode) :
    Calls Tryz.prog 9 #[S.val L, T.val L2] w fun e w' => AnyN 1 e ∧ Below w.heap.size w w' := by
  have k0 := World.alloc_heap_new w (.cells (S.cells L) 36)
  have k1 := World.alloc_heap_new (w.alloc (.cells (S.cells L) 36)) (.cells (T.cells L2) 36)
  rw [World.size_alloc] at k1
  replace k0 := keep_alloc k0 (.cells (T.cells L2) 36)
  have hB0 : Below w.heap.size w ((w.alloc (.cells (S.cells L) 36)).alloc (.cells (T.cells L2) 36)) := (below_one w _).trans ((below_one _ _).mono (by simp))
  have I3 := fun W (hW : Below w.heap.size w W) => ints14_any S.sends T.sends L.a2 L2.a2 L.c2 L2.c2 W hsm.2.1 (hH.on hW).h2 (hT.on hW).h2
  have I4 := fun W (hW : Below w.heap.size w W) => ints14_any S.recvs T.recvs L.a3 L2.a3 L.c3 L2.c3 W hsm.2.2.1 (hH.on hW).h3 (hT.on hW).h3
  have I5 := fun W (hW : Below w.heap.size w W) => ints14_any S.fl T.fl L.a4 L2.a4 L.c4 L2.c4 W hsm.2.2.2.1 (hH.on hW).h4 (hT.on hW).h4
  have I6 := fun W (hW : Below w.heap.size w W) => ints14_any S.el T.el L.a5 L2.a5 L.c5 L2.c5 W hsm.2.2.2.2.1 (hH.on hW).h5 (hT.on hW).h5
  have hd9 : bit (S.word != T.word) + slotDiff S.slots T.slots + bit (!decide (S.sends = T.sends)) + bit (!decide (S.recvs = T.recvs)) + bit (S.fe != T.fe || !decide (S.fl = T.fl)) + bit (S.ee != T.ee || !decide (S.el = T.el)) ≤ 1 := by
    have := hd
    unfold St.diff at this
    rw [bne_dec S.sends, bne_dec S.recvs, bne_dec S.fl, bne_dec S.el] at this
    exact this
  have hs1 := hsm.1
  have hs2 := hsT.1
  have z1 := hH.h1
  have z2 := hT.h1
  clear hd hsm hsT hH hT
  generalize decide (S.sends = T.sends) = q3 at *
  generalize decide (S.recvs = T.recvs) = q4 at *
  generalize decide (S.fl = T.fl) = q5 at *
  generalize decide (S.el = T.el) = q6 at *
  have c7 := (of_block k0 7).1; have c8 := (of_block k0 8).1; have c9 := (of_block k0 9).1
  have d7 := (of_block k1 7).1; have d8 := (of_block k1 8).1; have d9 := (of_block k1 9).1
  simp only [St.cells, List.getElem?_toArray, List.getElem?_cons_succ, List.getElem?_cons_zero] at c7 c8 c9 d7 d8 d9
  have hw : (S.word != T.word) = false := by cases hS : S.word; cases hT : T.word; rw [hS, hT] at hw1 hw2 hw3; simp at hw1 hw2 hw3; simp [hw1, hw2, hw3]
  go_enter Tryz.func9, Tryz.ntmps9
  go_wp2
  go_loopw [5, 6] (fun v i wr => ∃ k : Nat, k ≤ min S.slots.length T.slots.length ∧ i = .int .i64 k ∧ v = .int .i64 ((0 + slotDiff (S.slots.take k) (T.slots.take k) : Nat) : Int) ∧ wr.heap[w.heap.size]? = some (.cells (S.cells L) 36) ∧ wr.heap[w.heap.size + 1]? = some (.cells (T.cells L2) 36) ∧ Below w.heap.size w wr) (fun _ i _ => S.slots.length - (intOf i).toNat)
  case atStart => exact ⟨0, Nat.zero_le _, rfl, by simp [slotDiff], k0, k1, hB0⟩
  case round =>
    clear k0 k1 hB0
    obtain ⟨k, hk, rfl, rfl, K0, K1, hB⟩ := hrel
    have a10 : wr.cell? ⟨w.heap.size, 10, none⟩ = some (.slice L.a1 S.slots.length L.c1) := (of_block K0 10).1
    have b10 : wr.cell? ⟨w.heap.size + 1, 10, none⟩ = some (.slice L2.a1 T.slots.length L2.c1) := (of_block K1 10).1
    by_cases hlt : k < min S.slots.length T.slots.length
    · have h1 : k < S.slots.length := by omega
      have h2 : k < T.slots.length := by omega
      obtain ⟨x, hx⟩ : ∃ x, S.slots[k]? = some x := ⟨_, List.getElem?_eq_getElem h1⟩
      obtain ⟨y, hy⟩ : ∃ y, T.slots[k]? = some y := ⟨_, List.getElem?_eq_getElem h2⟩
      obtain ⟨bs, os, hA1, hbs, hcs⟩ := (z1.below hB).open_ (by rw [pls_len]; omega)
      obtain ⟨bt, ot, hA2, hbt, hct⟩ := (z2.below hB).open_ (by rw [pls_len]; omega)
      have x0 := hcs _ _ (pls_at hx).1
      have x1 := hcs _ _ (pls_at hx).2
      have y0 := hct _ _ (pls_at hy).1
      have y1 := hct _ _ (pls_at hy).2
      rw [← Nat.add_assoc] at x1 y1
      rw [hA1] at a10
      rw [hA2] at b10
      have hsn := slotDiff_snoc hx hy
      have HS := Lib.hid hsn
      have hle9 : slotDiff (S.slots.take k) (T.slots.take k) ≤ k := by unfold slotDiff; exact Nat.le_trans List.countP_le_length (by rw [List.length_zip, List.length_take]; omega)
      generalize slotDiff (S.slots.take k) (T.slots.take k) = sd at *
      have HA1 := Lib.hid hA1
      have HA2 := Lib.hid hA2
      clear hsn hcs hct hx hy hA1 hA2
      by_cases e1 : x.stamp = y.stamp
      · by_cases e2 : x.val = y.val
        · have exy : x = y := by cases x; cases y; simp at e1 e2; simp [e1, e2]
          go_wp2
          go_quiet (fail)
          all_goals
            go_wp2
            go_roundw
            case rel => exact ⟨k + 1, by omega, by go_num, by rw [HS.out, exy]; simp [bit] <;> omega, K0, K1, below_drewN hB _⟩
            case measure => simp [intOf]; omega
        · have exy : (x != y) = true := by simp; intro e; exact e2 (by rw [e])
          go_wp2
          go_quiet (fail)
          all_goals
            go_wp2
            go_roundw
            case rel => exact ⟨k + 1, by omega, by go_num, by rw [HS.out, exy]; simp [bit] <;> omega, K0, K1, below_drewN hB _⟩
            case measure => simp [intOf]; omega
      · have exy : (x != y) = true := by simp; intro e; exact e1 (by rw [e])
        go_wp2
        go_quiet (fail)
        all_goals
          go_wp2
          go_roundw
          case rel => exact ⟨k + 1, by omega, by go_num, by rw [HS.out, exy]; simp [bit] <;> omega, K0, K1, below_drewN hB _⟩
          case measure => simp [intOf]; omega
    · have hend := slotDiff_end (a := S.slots) (b := T.slots) (k := k) (by omega)
      rw [hend]
      generalize slotDiff S.slots T.slots = sd at *
      have HB := hB
      have c11 : wr.cell? ⟨w.heap.size, 11, none⟩ = some (.slice L.a2 S.sends.length L.c2) := (of_block K0 11).1
      have d11 : wr.cell? ⟨w.heap.size + 1, 11, none⟩ = some (.slice L2.a2 T.sends.length L2.c2) := (of_block K1 11).1
      have c12 : wr.cell? ⟨w.heap.size, 12, none⟩ = some (.slice L.a3 S.recvs.length L.c3) := (of_block K0 12).1
      have d12 : wr.cell? ⟨w.heap.size + 1, 12, none⟩ = some (.slice L2.a3 T.recvs.length L2.c3) := (of_block K1 12).1
      have c13 : wr.cell? ⟨w.heap.size, 13, none⟩ = some (.int .i64 S.fe) := (of_block K0 13).1
      have d13 : wr.cell? ⟨w.heap.size + 1, 13, none⟩ = some (.int .i64 T.fe) := (of_block K1 13).1
      have c14 : wr.cell? ⟨w.heap.size, 14, none⟩ = some (.slice L.a4 S.fl.length L.c4) := (of_block K0 14).1
      have d14 : wr.cell? ⟨w.heap.size + 1, 14, none⟩ = some (.slice L2.a4 T.fl.length L2.c4) := (of_block K1 14).1
      have c15 : wr.cell? ⟨w.heap.size, 15, none⟩ = some (.int .i64 S.ee) := (of_block K0 15).1
      have d15 : wr.cell? ⟨w.heap.size + 1, 15, none⟩ = some (.int .i64 T.ee) := (of_block K1 15).1
      have c16 : wr.cell? ⟨w.heap.size, 16, none⟩ = some (.slice L.a5 S.el.length L.c5) := (of_block K0 16).1
      have d16 : wr.cell? ⟨w.heap.size + 1, 16, none⟩ = some (.slice L2.a5 T.el.length L2.c5) := (of_block K1 16).1
      clear K0 K1 hB
      by_cases hf : S.fe = T.fe
      · by_cases he : S.ee = T.ee
        · cases q3 <;> cases q4 <;> cases q5 <;> cases q6
          all_goals first
            | (exfalso; simp [bit, hf, he, hw] at hd9; done)
            | (exfalso; simp [bit, hf, he, hw] at hd9; omega)
            | skip
          all_goals
            go_wp2_with (first
                | (go_at_call 21; (with_reducible refine (I3 _ HB).mono ?_); rintro e w4 ⟨rfl, hb4⟩; replace HB := HB.trans (hb4.mono HB.size); replace c11 := keep_c c11 hb4; replace d11 := keep_c d11 hb4; replace c12 := keep_c c12 hb4; replace d12 := keep_c d12 hb4; replace c13 := keep_c c13 hb4; replace d13 := keep_c d13 hb4; replace c14 := keep_c c14 hb4; replace d14 := keep_c d14 hb4; replace c15 := keep_c c15 hb4; replace d15 := keep_c d15 hb4; replace c16 := keep_c c16 hb4; replace d16 := keep_c d16 hb4)
                | (go_at_call 21; (with_reducible refine (I4 _ HB).mono ?_); rintro e w4 ⟨rfl, hb4⟩; replace HB := HB.trans (hb4.mono HB.size); replace c11 := keep_c c11 hb4; replace d11 := keep_c d11 hb4; replace c12 := keep_c c12 hb4; replace d12 := keep_c d12 hb4; replace c13 := keep_c c13 hb4; replace d13 := keep_c d13 hb4; replace c14 := keep_c c14 hb4; replace d14 := keep_c d14 hb4; replace c15 := keep_c c15 hb4; replace d15 := keep_c d15 hb4; replace c16 := keep_c c16 hb4; replace d16 := keep_c d16 hb4)
                | (go_at_call 21; (with_reducible refine (I5 _ HB).mono ?_); rintro e w4 ⟨rfl, hb4⟩; replace HB := HB.trans (hb4.mono HB.size); replace c11 := keep_c c11 hb4; replace d11 := keep_c d11 hb4; replace c12 := keep_c c12 hb4; replace d12 := keep_c d12 hb4; replace c13 := keep_c c13 hb4; replace d13 := keep_c d13 hb4; replace c14 := keep_c c14 hb4; replace d14 := keep_c d14 hb4; replace c15 := keep_c c15 hb4; replace d15 := keep_c d15 hb4; replace c16 := keep_c c16 hb4; replace d16 := keep_c d16 hb4)
                | (go_at_call 21; (with_reducible refine (I6 _ HB).mono ?_); rintro e w4 ⟨rfl, hb4⟩; replace HB := HB.trans (hb4.mono HB.size); replace c11 := keep_c c11 hb4; replace d11 := keep_c d11 hb4; replace c12 := keep_c c12 hb4; replace d12 := keep_c d12 hb4; replace c13 := keep_c c13 hb4; replace d13 := keep_c d13 hb4; replace c14 := keep_c c14 hb4; replace d14 := keep_c d14 hb4; replace c15 := keep_c c15 hb4; replace d15 := keep_c d15 hb4; replace c16 := keep_c c16 hb4; replace d16 := keep_c d16 hb4))
            all_goals
              go_ret
              exact ⟨⟨_, by first | omega | (simp [bit, hf, he, hw] at hd9; omega) | (simp [bit, hf, he, hw] at hd9; simp [hd9]) | (simp [bit] at hd9; omega) | (simp [bit] at hd9; simp [hd9]), rfl⟩, HB⟩
        · cases q3 <;> cases q4 <;> cases q5
          all_goals first
            | (exfalso; simp [bit, hf, he, hw] at hd9; done)
            | (exfalso; simp [bit, hf, he, hw] at hd9; omega)
            | skip
          all_goals
            go_wp2_with (first
                | (go_at_call 21; (with_reducible refine (I3 _ HB).mono ?_); rintro e w4 ⟨rfl, hb4⟩; replace HB := HB.trans (hb4.mono HB.size); replace c11 := keep_c c11 hb4; replace d11 := keep_c d11 hb4; replace c12 := keep_c c12 hb4; replace d12 := keep_c d12 hb4; replace c13 := keep_c c13 hb4; replace d13 := keep_c d13 hb4; replace c14 := keep_c c14 hb4; replace d14 := keep_c d14 hb4; replace c15 := keep_c c15 hb4; replace d15 := keep_c d15 hb4; replace c16 := keep_c c16 hb4; replace d16 := keep_c d16 hb4)
                | (go_at_call 21; (with_reducible refine (I4 _ HB).mono ?_); rintro e w4 ⟨rfl, hb4⟩; replace HB := HB.trans (hb4.mono HB.size); replace c11 := keep_c c11 hb4; replace d11 := keep_c d11 hb4; replace c12 := keep_c c12 hb4; replace d12 := keep_c d12 hb4; replace c13 := keep_c c13 hb4; replace d13 := keep_c d13 hb4; replace c14 := keep_c c14 hb4; replace d14 := keep_c d14 hb4; replace c15 := keep_c c15 hb4; replace d15 := keep_c d15 hb4; replace c16 := keep_c c16 hb4; replace d16 := keep_c d16 hb4)
                | (go_at_call 21; (with_reducible refine (I5 _ HB).mono ?_); rintro e w4 ⟨rfl, hb4⟩; replace HB := HB.trans (hb4.mono HB.size); replace c11 := keep_c c11 hb4; replace d11 := keep_c d11 hb4; replace c12 := keep_c c12 hb4; replace d12 := keep_c d12 hb4; replace c13 := keep_c c13 hb4; replace d13 := keep_c d13 hb4; replace c14 := keep_c c14 hb4; replace d14 := keep_c d14 hb4; replace c15 := keep_c c15 hb4; replace d15 := keep_c d15 hb4; replace c16 := keep_c c16 hb4; replace d16 := keep_c d16 hb4)
                | (go_at_call 21; (with_reducible refine (I6 _ HB).mono ?_); rintro e w4 ⟨rfl, hb4⟩; replace HB := HB.trans (hb4.mono HB.size); replace c11 := keep_c c11 hb4; replace d11 := keep_c d11 hb4; replace c12 := keep_c c12 hb4; replace d12 := keep_c d12 hb4; replace c13 := keep_c c13 hb4; replace d13 := keep_c d13 hb4; replace c14 := keep_c c14 hb4; replace d14 := keep_c d14 hb4; replace c15 := keep_c c15 hb4; replace d15 := keep_c d15 hb4; replace c16 := keep_c c16 hb4; replace d16 := keep_c d16 hb4))
            all_goals
              go_ret
              exact ⟨⟨_, by first | omega | (simp [bit, hf, he, hw] at hd9; omega) | (simp [bit, hf, he, hw] at hd9; simp [hd9]) | (simp [bit] at hd9; omega) | (simp [bit] at hd9; simp [hd9]), rfl⟩, HB⟩
      · by_cases he : S.ee = T.ee
        · cases q3 <;> cases q4 <;> cases q6
          all_goals first
            | (exfalso; simp [bit, hf, he, hw] at hd9; done)
            | (exfalso; simp [bit, hf, he, hw] at hd9; omega)
            | skip
          all_goals
            go_wp2_with (first
                | (go_at_call 21; (with_reducible refine (I3 _ HB).mono ?_); rintro e w4 ⟨rfl, hb4⟩; replace HB := HB.trans (hb4.mono HB.size); replace c11 := keep_c c11 hb4; replace d11 := keep_c d11 hb4; replace c12 := keep_c c12 hb4; replace d12 := keep_c d12 hb4; replace c13 := keep_c c13 hb4; replace d13 := keep_c d13 hb4; replace c14 := keep_c c14 hb4; replace d14 := keep_c d14 hb4; replace c15 := keep_c c15 hb4; replace d15 := keep_c d15 hb4; replace c16 := keep_c c16 hb4; replace d16 := keep_c d16 hb4)
                | (go_at_call 21; (with_reducible refine (I4 _ HB).mono ?_); rintro e w4 ⟨rfl, hb4⟩; replace HB := HB.trans (hb4.mono HB.size); replace c11 := keep_c c11 hb4; replace d11 := keep_c d11 hb4; replace c12 := keep_c c12 hb4; replace d12 := keep_c d12 hb4; replace c13 := keep_c c13 hb4; replace d13 := keep_c d13 hb4; replace c14 := keep_c c14 hb4; replace d14 := keep_c d14 hb4; replace c15 := keep_c c15 hb4; replace d15 := keep_c d15 hb4; replace c16 := keep_c c16 hb4; replace d16 := keep_c d16 hb4)
                | (go_at_call 21; (with_reducible refine (I5 _ HB).mono ?_); rintro e w4 ⟨rfl, hb4⟩; replace HB := HB.trans (hb4.mono HB.size); replace c11 := keep_c c11 hb4; replace d11 := keep_c d11 hb4; replace c12 := keep_c c12 hb4; replace d12 := keep_c d12 hb4; replace c13 := keep_c c13 hb4; replace d13 := keep_c d13 hb4; replace c14 := keep_c c14 hb4; replace d14 := keep_c d14 hb4; replace c15 := keep_c c15 hb4; replace d15 := keep_c d15 hb4; replace c16 := keep_c c16 hb4; replace d16 := keep_c d16 hb4)
                | (go_at_call 21; (with_reducible refine (I6 _ HB).mono ?_); rintro e w4 ⟨rfl, hb4⟩; replace HB := HB.trans (hb4.mono HB.size); replace c11 := keep_c c11 hb4; replace d11 := keep_c d11 hb4; replace c12 := keep_c c12 hb4; replace d12 := keep_c d12 hb4; replace c13 := keep_c c13 hb4; replace d13 := keep_c d13 hb4; replace c14 := keep_c c14 hb4; replace d14 := keep_c d14 hb4; replace c15 := keep_c c15 hb4; replace d15 := keep_c d15 hb4; replace c16 := keep_c c16 hb4; replace d16 := keep_c d16 hb4))
            all_goals
              go_ret
              exact ⟨⟨_, by first | omega | (simp [bit, hf, he, hw] at hd9; omega) | (simp [bit, hf, he, hw] at hd9; simp [hd9]) | (simp [bit] at hd9; omega) | (simp [bit] at hd9; simp [hd9]), rfl⟩, HB⟩
        · exfalso
          simp [bit, hf, he, hw] at hd9

set_option maxRecDepth 100000 in
set_option maxHeartbeats 32000000 in
theorem things_h (S T : St) (L L2 : Lay) (w : World) (hsm : S.small) (hsT : T.small) (hH : Holds w S L) (hT : Holds w T L2) (hd : S.diff T ≤ 1) (hw1 : ¬ S.word.head = T.word.head) :
    Calls Tryz.prog 9 #[S.val L, T.val L2] w fun e w' => AnyN 1 e ∧ Below w.heap.size w w' := by
  have k0 := World.alloc_heap_new w (.cells (S.cells L) 36)
  have k1 := World.alloc_heap_new (w.alloc (.cells (S.cells L) 36)) (.cells (T.cells L2) 36)
  rw [World.size_alloc] at k1
  replace k0 := keep_alloc k0 (.cells (T.cells L2) 36)
  have hB0 : Below w.heap.size w ((w.alloc (.cells (S.cells L) 36)).alloc (.cells (T.cells L2) 36)) := (below_one w _).trans ((below_one _ _).mono (by simp))
  have I3 := fun W (hW : Below w.heap.size w W) => ints14_any S.sends T.sends L.a2 L2.a2 L.c2 L2.c2 W hsm.2.1 (hH.on hW).h2 (hT.on hW).h2
  have I4 := fun W (hW : Below w.heap.size w W) => ints14_any S.recvs T.recvs L.a3 L2.a3 L.c3 L2.c3 W hsm.2.2.1 (hH.on hW).h3 (hT.on hW).h3
  have I5 := fun W (hW : Below w.heap.size w W) => ints14_any S.fl T.fl L.a4 L2.a4 L.c4 L2.c4 W hsm.2.2.2.1 (hH.on hW).h4 (hT.on hW).h4
  have I6 := fun W (hW : Below w.heap.size w W) => ints14_any S.el T.el L.a5 L2.a5 L.c5 L2.c5 W hsm.2.2.2.2.1 (hH.on hW).h5 (hT.on hW).h5
  have hd9 : bit (S.word != T.word) + slotDiff S.slots T.slots + bit (!decide (S.sends = T.sends)) + bit (!decide (S.recvs = T.recvs)) + bit (S.fe != T.fe || !decide (S.fl = T.fl)) + bit (S.ee != T.ee || !decide (S.el = T.el)) ≤ 1 := by
    have := hd
    unfold St.diff at this
    rw [bne_dec S.sends, bne_dec S.recvs, bne_dec S.fl, bne_dec S.el] at this
    exact this
  have hs1 := hsm.1
  have hs2 := hsT.1
  have z1 := hH.h1
  have z2 := hT.h1
  clear hd hsm hsT hH hT
  generalize decide (S.sends = T.sends) = q3 at *
  generalize decide (S.recvs = T.recvs) = q4 at *
  generalize decide (S.fl = T.fl) = q5 at *
  generalize decide (S.el = T.el) = q6 at *
  have c7 := (of_block k0 7).1; have c8 := (of_block k0 8).1; have c9 := (of_block k0 9).1
  have d7 := (of_block k1 7).1; have d8 := (of_block k1 8).1; have d9 := (of_block k1 9).1
  simp only [St.cells, List.getElem?_toArray, List.getElem?_cons_succ, List.getElem?_cons_zero] at c7 c8 c9 d7 d8 d9
  have hw : (S.word != T.word) = true := by simp; intro e; exact hw1 (by rw [e])
  go_enter Tryz.func9, Tryz.ntmps9
  go_wp2
  go_loopw [5, 6] (fun v i wr => ∃ k : Nat, k ≤ min S.slots.length T.slots.length ∧ i = .int .i64 k ∧ v = .int .i64 ((1 + slotDiff (S.slots.take k) (T.slots.take k) : Nat) : Int) ∧ wr.heap[w.heap.size]? = some (.cells (S.cells L) 36) ∧ wr.heap[w.heap.size + 1]? = some (.cells (T.cells L2) 36) ∧ Below w.heap.size w wr) (fun _ i _ => S.slots.length - (intOf i).toNat)
  case atStart => exact ⟨0, Nat.zero_le _, rfl, by simp [slotDiff], k0, k1, hB0⟩
  case round =>
    clear k0 k1 hB0
    obtain ⟨k, hk, rfl, rfl, K0, K1, hB⟩ := hrel
    have a10 : wr.cell? ⟨w.heap.size, 10, none⟩ = some (.slice L.a1 S.slots.length L.c1) := (of_block K0 10).1
    have b10 : wr.cell? ⟨w.heap.size + 1, 10, none⟩ = some (.slice L2.a1 T.slots.length L2.c1) := (of_block K1 10).1
    by_cases hlt : k < min S.slots.length T.slots.length
    · have h1 : k < S.slots.length := by omega
      have h2 : k < T.slots.length := by omega
      obtain ⟨x, hx⟩ : ∃ x, S.slots[k]? = some x := ⟨_, List.getElem?_eq_getElem h1⟩
      obtain ⟨y, hy⟩ : ∃ y, T.slots[k]? = some y := ⟨_, List.getElem?_eq_getElem h2⟩
      obtain ⟨bs, os, hA1, hbs, hcs⟩ := (z1.below hB).open_ (by rw [pls_len]; omega)
      obtain ⟨bt, ot, hA2, hbt, hct⟩ := (z2.below hB).open_ (by rw [pls_len]; omega)
      have x0 := hcs _ _ (pls_at hx).1
      have x1 := hcs _ _ (pls_at hx).2
      have y0 := hct _ _ (pls_at hy).1
      have y1 := hct _ _ (pls_at hy).2
      rw [← Nat.add_assoc] at x1 y1
      rw [hA1] at a10
      rw [hA2] at b10
      have hsn := slotDiff_snoc hx hy
      have HS := Lib.hid hsn
      have hle9 : slotDiff (S.slots.take k) (T.slots.take k) ≤ k := by unfold slotDiff; exact Nat.le_trans List.countP_le_length (by rw [List.length_zip, List.length_take]; omega)
      generalize slotDiff (S.slots.take k) (T.slots.take k) = sd at *
      have HA1 := Lib.hid hA1
      have HA2 := Lib.hid hA2
      clear hsn hcs hct hx hy hA1 hA2
      by_cases e1 : x.stamp = y.stamp
      · by_cases e2 : x.val = y.val
        · have exy : x = y := by cases x; cases y; simp at e1 e2; simp [e1, e2]
          go_wp2
          go_quiet (fail)
          all_goals
            go_wp2
            go_roundw
            case rel => exact ⟨k + 1, by omega, by go_num, by rw [HS.out, exy]; simp [bit] <;> omega, K0, K1, below_drewN hB _⟩
            case measure => simp [intOf]; omega
        · have exy : (x != y) = true := by simp; intro e; exact e2 (by rw [e])
          go_wp2
          go_quiet (fail)
          all_goals
            go_wp2
            go_roundw
            case rel => exact ⟨k + 1, by omega, by go_num, by rw [HS.out, exy]; simp [bit] <;> omega, K0, K1, below_drewN hB _⟩
            case measure => simp [intOf]; omega
      · have exy : (x != y) = true := by simp; intro e; exact e1 (by rw [e])
        go_wp2
        go_quiet (fail)
        all_goals
          go_wp2
          go_roundw
          case rel => exact ⟨k + 1, by omega, by go_num, by rw [HS.out, exy]; simp [bit] <;> omega, K0, K1, below_drewN hB _⟩
          case measure => simp [intOf]; omega
    · have hend := slotDiff_end (a := S.slots) (b := T.slots) (k := k) (by omega)
      rw [hend]
      generalize slotDiff S.slots T.slots = sd at *
      have HB := hB
      have c11 : wr.cell? ⟨w.heap.size, 11, none⟩ = some (.slice L.a2 S.sends.length L.c2) := (of_block K0 11).1
      have d11 : wr.cell? ⟨w.heap.size + 1, 11, none⟩ = some (.slice L2.a2 T.sends.length L2.c2) := (of_block K1 11).1
      have c12 : wr.cell? ⟨w.heap.size, 12, none⟩ = some (.slice L.a3 S.recvs.length L.c3) := (of_block K0 12).1
      have d12 : wr.cell? ⟨w.heap.size + 1, 12, none⟩ = some (.slice L2.a3 T.recvs.length L2.c3) := (of_block K1 12).1
      have c13 : wr.cell? ⟨w.heap.size, 13, none⟩ = some (.int .i64 S.fe) := (of_block K0 13).1
      have d13 : wr.cell? ⟨w.heap.size + 1, 13, none⟩ = some (.int .i64 T.fe) := (of_block K1 13).1
      have c14 : wr.cell? ⟨w.heap.size, 14, none⟩ = some (.slice L.a4 S.fl.length L.c4) := (of_block K0 14).1
      have d14 : wr.cell? ⟨w.heap.size + 1, 14, none⟩ = some (.slice L2.a4 T.fl.length L2.c4) := (of_block K1 14).1
      have c15 : wr.cell? ⟨w.heap.size, 15, none⟩ = some (.int .i64 S.ee) := (of_block K0 15).1
      have d15 : wr.cell? ⟨w.heap.size + 1, 15, none⟩ = some (.int .i64 T.ee) := (of_block K1 15).1
      have c16 : wr.cell? ⟨w.heap.size, 16, none⟩ = some (.slice L.a5 S.el.length L.c5) := (of_block K0 16).1
      have d16 : wr.cell? ⟨w.heap.size + 1, 16, none⟩ = some (.slice L2.a5 T.el.length L2.c5) := (of_block K1 16).1
      clear K0 K1 hB
      by_cases hf : S.fe = T.fe
      · by_cases he : S.ee = T.ee
        · cases q3 <;> cases q4 <;> cases q5 <;> cases q6
          all_goals first
            | (exfalso; simp [bit, hf, he, hw] at hd9; done)
            | (exfalso; simp [bit, hf, he, hw] at hd9; omega)
            | skip
          all_goals
            go_wp2_with (first
                | (go_at_call 21; (with_reducible refine (I3 _ HB).mono ?_); rintro e w4 ⟨rfl, hb4⟩; replace HB := HB.trans (hb4.mono HB.size); replace c11 := keep_c c11 hb4; replace d11 := keep_c d11 hb4; replace c12 := keep_c c12 hb4; replace d12 := keep_c d12 hb4; replace c13 := keep_c c13 hb4; replace d13 := keep_c d13 hb4; replace c14 := keep_c c14 hb4; replace d14 := keep_c d14 hb4; replace c15 := keep_c c15 hb4; replace d15 := keep_c d15 hb4; replace c16 := keep_c c16 hb4; replace d16 := keep_c d16 hb4)
                | (go_at_call 21; (with_reducible refine (I4 _ HB).mono ?_); rintro e w4 ⟨rfl, hb4⟩; replace HB := HB.trans (hb4.mono HB.size); replace c11 := keep_c c11 hb4; replace d11 := keep_c d11 hb4; replace c12 := keep_c c12 hb4; replace d12 := keep_c d12 hb4; replace c13 := keep_c c13 hb4; replace d13 := keep_c d13 hb4; replace c14 := keep_c c14 hb4; replace d14 := keep_c d14 hb4; replace c15 := keep_c c15 hb4; replace d15 := keep_c d15 hb4; replace c16 := keep_c c16 hb4; replace d16 := keep_c d16 hb4)
                | (go_at_call 21; (with_reducible refine (I5 _ HB).mono ?_); rintro e w4 ⟨rfl, hb4⟩; replace HB := HB.trans (hb4.mono HB.size); replace c11 := keep_c c11 hb4; replace d11 := keep_c d11 hb4; replace c12 := keep_c c12 hb4; replace d12 := keep_c d12 hb4; replace c13 := keep_c c13 hb4; replace d13 := keep_c d13 hb4; replace c14 := keep_c c14 hb4; replace d14 := keep_c d14 hb4; replace c15 := keep_c c15 hb4; replace d15 := keep_c d15 hb4; replace c16 := keep_c c16 hb4; replace d16 := keep_c d16 hb4)
                | (go_at_call 21; (with_reducible refine (I6 _ HB).mono ?_); rintro e w4 ⟨rfl, hb4⟩; replace HB := HB.trans (hb4.mono HB.size); replace c11 := keep_c c11 hb4; replace d11 := keep_c d11 hb4; replace c12 := keep_c c12 hb4; replace d12 := keep_c d12 hb4; replace c13 := keep_c c13 hb4; replace d13 := keep_c d13 hb4; replace c14 := keep_c c14 hb4; replace d14 := keep_c d14 hb4; replace c15 := keep_c c15 hb4; replace d15 := keep_c d15 hb4; replace c16 := keep_c c16 hb4; replace d16 := keep_c d16 hb4))
            all_goals
              go_ret
              exact ⟨⟨_, by first | omega | (simp [bit, hf, he, hw] at hd9; omega) | (simp [bit, hf, he, hw] at hd9; simp [hd9]) | (simp [bit] at hd9; omega) | (simp [bit] at hd9; simp [hd9]), rfl⟩, HB⟩
        · cases q3 <;> cases q4 <;> cases q5
          all_goals first
            | (exfalso; simp [bit, hf, he, hw] at hd9; done)
            | (exfalso; simp [bit, hf, he, hw] at hd9; omega)
            | skip
          all_goals
            go_wp2_with (first
                | (go_at_call 21; (with_reducible refine (I3 _ HB).mono ?_); rintro e w4 ⟨rfl, hb4⟩; replace HB := HB.trans (hb4.mono HB.size); replace c11 := keep_c c11 hb4; replace d11 := keep_c d11 hb4; replace c12 := keep_c c12 hb4; replace d12 := keep_c d12 hb4; replace c13 := keep_c c13 hb4; replace d13 := keep_c d13 hb4; replace c14 := keep_c c14 hb4; replace d14 := keep_c d14 hb4; replace c15 := keep_c c15 hb4; replace d15 := keep_c d15 hb4; replace c16 := keep_c c16 hb4; replace d16 := keep_c d16 hb4)
                | (go_at_call 21; (with_reducible refine (I4 _ HB).mono ?_); rintro e w4 ⟨rfl, hb4⟩; replace HB := HB.trans (hb4.mono HB.size); replace c11 := keep_c c11 hb4; replace d11 := keep_c d11 hb4; replace c12 := keep_c c12 hb4; replace d12 := keep_c d12 hb4; replace c13 := keep_c c13 hb4; replace d13 := keep_c d13 hb4; replace c14 := keep_c c14 hb4; replace d14 := keep_c d14 hb4; replace c15 := keep_c c15 hb4; replace d15 := keep_c d15 hb4; replace c16 := keep_c c16 hb4; replace d16 := keep_c d16 hb4)
                | (go_at_call 21; (with_reducible refine (I5 _ HB).mono ?_); rintro e w4 ⟨rfl, hb4⟩; replace HB := HB.trans (hb4.mono HB.size); replace c11 := keep_c c11 hb4; replace d11 := keep_c d11 hb4; replace c12 := keep_c c12 hb4; replace d12 := keep_c d12 hb4; replace c13 := keep_c c13 hb4; replace d13 := keep_c d13 hb4; replace c14 := keep_c c14 hb4; replace d14 := keep_c d14 hb4; replace c15 := keep_c c15 hb4; replace d15 := keep_c d15 hb4; replace c16 := keep_c c16 hb4; replace d16 := keep_c d16 hb4)
                | (go_at_call 21; (with_reducible refine (I6 _ HB).mono ?_); rintro e w4 ⟨rfl, hb4⟩; replace HB := HB.trans (hb4.mono HB.size); replace c11 := keep_c c11 hb4; replace d11 := keep_c d11 hb4; replace c12 := keep_c c12 hb4; replace d12 := keep_c d12 hb4; replace c13 := keep_c c13 hb4; replace d13 := keep_c d13 hb4; replace c14 := keep_c c14 hb4; replace d14 := keep_c d14 hb4; replace c15 := keep_c c15 hb4; replace d15 := keep_c d15 hb4; replace c16 := keep_c c16 hb4; replace d16 := keep_c d16 hb4))
            all_goals
              go_ret
              exact ⟨⟨_, by first | omega | (simp [bit, hf, he, hw] at hd9; omega) | (simp [bit, hf, he, hw] at hd9; simp [hd9]) | (simp [bit] at hd9; omega) | (simp [bit] at hd9; simp [hd9]), rfl⟩, HB⟩
      · by_cases he : S.ee = T.ee
        · cases q3 <;> cases q4 <;> cases q6
          all_goals first
            | (exfalso; simp [bit, hf, he, hw] at hd9; done)
            | (exfalso; simp [bit, hf, he, hw] at hd9; omega)
            | skip
          all_goals
            go_wp2_with (first
                | (go_at_call 21; (with_reducible refine (I3 _ HB).mono ?_); rintro e w4 ⟨rfl, hb4⟩; replace HB := HB.trans (hb4.mono HB.size); replace c11 := keep_c c11 hb4; replace d11 := keep_c d11 hb4; replace c12 := keep_c c12 hb4; replace d12 := keep_c d12 hb4; replace c13 := keep_c c13 hb4; replace d13 := keep_c d13 hb4; replace c14 := keep_c c14 hb4; replace d14 := keep_c d14 hb4; replace c15 := keep_c c15 hb4; replace d15 := keep_c d15 hb4; replace c16 := keep_c c16 hb4; replace d16 := keep_c d16 hb4)
                | (go_at_call 21; (with_reducible refine (I4 _ HB).mono ?_); rintro e w4 ⟨rfl, hb4⟩; replace HB := HB.trans (hb4.mono HB.size); replace c11 := keep_c c11 hb4; replace d11 := keep_c d11 hb4; replace c12 := keep_c c12 hb4; replace d12 := keep_c d12 hb4; replace c13 := keep_c c13 hb4; replace d13 := keep_c d13 hb4; replace c14 := keep_c c14 hb4; replace d14 := keep_c d14 hb4; replace c15 := keep_c c15 hb4; replace d15 := keep_c d15 hb4; replace c16 := keep_c c16 hb4; replace d16 := keep_c d16 hb4)
                | (go_at_call 21; (with_reducible refine (I5 _ HB).mono ?_); rintro e w4 ⟨rfl, hb4⟩; replace HB := HB.trans (hb4.mono HB.size); replace c11 := keep_c c11 hb4; replace d11 := keep_c d11 hb4; replace c12 := keep_c c12 hb4; replace d12 := keep_c d12 hb4; replace c13 := keep_c c13 hb4; replace d13 := keep_c d13 hb4; replace c14 := keep_c c14 hb4; replace d14 := keep_c d14 hb4; replace c15 := keep_c c15 hb4; replace d15 := keep_c d15 hb4; replace c16 := keep_c c16 hb4; replace d16 := keep_c d16 hb4)
                | (go_at_call 21; (with_reducible refine (I6 _ HB).mono ?_); rintro e w4 ⟨rfl, hb4⟩; replace HB := HB.trans (hb4.mono HB.size); replace c11 := keep_c c11 hb4; replace d11 := keep_c d11 hb4; replace c12 := keep_c c12 hb4; replace d12 := keep_c d12 hb4; replace c13 := keep_c c13 hb4; replace d13 := keep_c d13 hb4; replace c14 := keep_c c14 hb4; replace d14 := keep_c d14 hb4; replace c15 := keep_c c15 hb4; replace d15 := keep_c d15 hb4; replace c16 := keep_c c16 hb4; replace d16 := keep_c d16 hb4))
            all_goals
              go_ret
              exact ⟨⟨_, by first | omega | (simp [bit, hf, he, hw] at hd9; omega) | (simp [bit, hf, he, hw] at hd9; simp [hd9]) | (simp [bit] at hd9; omega) | (simp [bit] at hd9; simp [hd9]), rfl⟩, HB⟩
        · exfalso
          simp [bit, hf, he, hw] at hd9

set_option maxRecDepth 100000 in
set_option maxHeartbeats 32000000 in
theorem things_t (S T : St) (L L2 : Lay) (w : World) (hsm : S.small) (hsT : T.small) (hH : Holds w S L) (hT : Holds w T L2) (hd : S.diff T ≤ 1) (hw1 : S.word.head = T.word.head) (hw2 : ¬ S.word.tail = T.word.tail) :
    Calls Tryz.prog 9 #[S.val L, T.val L2] w fun e w' => AnyN 1 e ∧ Below w.heap.size w w' := by
  have k0 := World.alloc_heap_new w (.cells (S.cells L) 36)
  have k1 := World.alloc_heap_new (w.alloc (.cells (S.cells L) 36)) (.cells (T.cells L2) 36)
  rw [World.size_alloc] at k1
  replace k0 := keep_alloc k0 (.cells (T.cells L2) 36)
  have hB0 : Below w.heap.size w ((w.alloc (.cells (S.cells L) 36)).alloc (.cells (T.cells L2) 36)) := (below_one w _).trans ((below_one _ _).mono (by simp))
  have I3 := fun W (hW : Below w.heap.size w W) => ints14_any S.sends T.sends L.a2 L2.a2 L.c2 L2.c2 W hsm.2.1 (hH.on hW).h2 (hT.on hW).h2
  have I4 := fun W (hW : Below w.heap.size w W) => ints14_any S.recvs T.recvs L.a3 L2.a3 L.c3 L2.c3 W hsm.2.2.1 (hH.on hW).h3 (hT.on hW).h3
  have I5 := fun W (hW : Below w.heap.size w W) => ints14_any S.fl T.fl L.a4 L2.a4 L.c4 L2.c4 W hsm.2.2.2.1 (hH.on hW).h4 (hT.on hW).h4
  have I6 := fun W (hW : Below w.heap.size w W) => ints14_any S.el T.el L.a5 L2.a5 L.c5 L2.c5 W hsm.2.2.2.2.1 (hH.on hW).h5 (hT.on hW).h5
  have hd9 : bit (S.word != T.word) + slotDiff S.slots T.slots + bit (!decide (S.sends = T.sends)) + bit (!decide (S.recvs = T.recvs)) + bit (S.fe != T.fe || !decide (S.fl = T.fl)) + bit (S.ee != T.ee || !decide (S.el = T.el)) ≤ 1 := by
    have := hd
    unfold St.diff at this
    rw [bne_dec S.sends, bne_dec S.recvs, bne_dec S.fl, bne_dec S.el] at this
    exact this
  have hs1 := hsm.1
  have hs2 := hsT.1
  have z1 := hH.h1
  have z2 := hT.h1
  clear hd hsm hsT hH hT
  generalize decide (S.sends = T.sends) = q3 at *
  generalize decide (S.recvs = T.recvs) = q4 at *
  generalize decide (S.fl = T.fl) = q5 at *
  generalize decide (S.el = T.el) = q6 at *
  have c7 := (of_block k0 7).1; have c8 := (of_block k0 8).1; have c9 := (of_block k0 9).1
  have d7 := (of_block k1 7).1; have d8 := (of_block k1 8).1; have d9 := (of_block k1 9).1
  simp only [St.cells, List.getElem?_toArray, List.getElem?_cons_succ, List.getElem?_cons_zero] at c7 c8 c9 d7 d8 d9
  have hw : (S.word != T.word) = true := by simp; intro e; exact hw2 (by rw [e])
  go_enter Tryz.func9, Tryz.ntmps9
  go_wp2
  go_loopw [5, 6] (fun v i wr => ∃ k : Nat, k ≤ min S.slots.length T.slots.length ∧ i = .int .i64 k ∧ v = .int .i64 ((1 + slotDiff (S.slots.take k) (T.slots.take k) : Nat) : Int) ∧ wr.heap[w.heap.size]? = some (.cells (S.cells L) 36) ∧ wr.heap[w.heap.size + 1]? = some (.cells (T.cells L2) 36) ∧ Below w.heap.size w wr) (fun _ i _ => S.slots.length - (intOf i).toNat)
  case atStart => exact ⟨0, Nat.zero_le _, rfl, by simp [slotDiff], k0, k1, hB0⟩
  case round =>
    clear k0 k1 hB0
    obtain ⟨k, hk, rfl, rfl, K0, K1, hB⟩ := hrel
    have a10 : wr.cell? ⟨w.heap.size, 10, none⟩ = some (.slice L.a1 S.slots.length L.c1) := (of_block K0 10).1
    have b10 : wr.cell? ⟨w.heap.size + 1, 10, none⟩ = some (.slice L2.a1 T.slots.length L2.c1) := (of_block K1 10).1
    by_cases hlt : k < min S.slots.length T.slots.length
    · have h1 : k < S.slots.length := by omega
      have h2 : k < T.slots.length := by omega
      obtain ⟨x, hx⟩ : ∃ x, S.slots[k]? = some x := ⟨_, List.getElem?_eq_getElem h1⟩
      obtain ⟨y, hy⟩ : ∃ y, T.slots[k]? = some y := ⟨_, List.getElem?_eq_getElem h2⟩
      obtain ⟨bs, os, hA1, hbs, hcs⟩ := (z1.below hB).open_ (by rw [pls_len]; omega)
      obtain ⟨bt, ot, hA2, hbt, hct⟩ := (z2.below hB).open_ (by rw [pls_len]; omega)
      have x0 := hcs _ _ (pls_at hx).1
      have x1 := hcs _ _ (pls_at hx).2
      have y0 := hct _ _ (pls_at hy).1
      have y1 := hct _ _ (pls_at hy).2
      rw [← Nat.add_assoc] at x1 y1
      rw [hA1] at a10
      rw [hA2] at b10
      have hsn := slotDiff_snoc hx hy
      have HS := Lib.hid hsn
      have hle9 : slotDiff (S.slots.take k) (T.slots.take k) ≤ k := by unfold slotDiff; exact Nat.le_trans List.countP_le_length (by rw [List.length_zip, List.length_take]; omega)
      generalize slotDiff (S.slots.take k) (T.slots.take k) = sd at *
      have HA1 := Lib.hid hA1
      have HA2 := Lib.hid hA2
      clear hsn hcs hct hx hy hA1 hA2
      by_cases e1 : x.stamp = y.stamp
      · by_cases e2 : x.val = y.val
        · have exy : x = y := by cases x; cases y; simp at e1 e2; simp [e1, e2]
          go_wp2
          go_quiet (fail)
          all_goals
            go_wp2
            go_roundw
            case rel => exact ⟨k + 1, by omega, by go_num, by rw [HS.out, exy]; simp [bit] <;> omega, K0, K1, below_drewN hB _⟩
            case measure => simp [intOf]; omega
        · have exy : (x != y) = true := by simp; intro e; exact e2 (by rw [e])
          go_wp2
          go_quiet (fail)
          all_goals
            go_wp2
            go_roundw
            case rel => exact ⟨k + 1, by omega, by go_num, by rw [HS.out, exy]; simp [bit] <;> omega, K0, K1, below_drewN hB _⟩
            case measure => simp [intOf]; omega
      · have exy : (x != y) = true := by simp; intro e; exact e1 (by rw [e])
        go_wp2
        go_quiet (fail)
        all_goals
          go_wp2
          go_roundw
          case rel => exact ⟨k + 1, by omega, by go_num, by rw [HS.out, exy]; simp [bit] <;> omega, K0, K1, below_drewN hB _⟩
          case measure => simp [intOf]; omega
    · have hend := slotDiff_end (a := S.slots) (b := T.slots) (k := k) (by omega)
      rw [hend]
      generalize slotDiff S.slots T.slots = sd at *
      have HB := hB
      have c11 : wr.cell? ⟨w.heap.size, 11, none⟩ = some (.slice L.a2 S.sends.length L.c2) := (of_block K0 11).1
      have d11 : wr.cell? ⟨w.heap.size + 1, 11, none⟩ = some (.slice L2.a2 T.sends.length L2.c2) := (of_block K1 11).1
      have c12 : wr.cell? ⟨w.heap.size, 12, none⟩ = some (.slice L.a3 S.recvs.length L.c3) := (of_block K0 12).1
      have d12 : wr.cell? ⟨w.heap.size + 1, 12, none⟩ = some (.slice L2.a3 T.recvs.length L2.c3) := (of_block K1 12).1
      have c13 : wr.cell? ⟨w.heap.size, 13, none⟩ = some (.int .i64 S.fe) := (of_block K0 13).1
      have d13 : wr.cell? ⟨w.heap.size + 1, 13, none⟩ = some (.int .i64 T.fe) := (of_block K1 13).1
      have c14 : wr.cell? ⟨w.heap.size, 14, none⟩ = some (.slice L.a4 S.fl.length L.c4) := (of_block K0 14).1
      have d14 : wr.cell? ⟨w.heap.size + 1, 14, none⟩ = some (.slice L2.a4 T.fl.length L2.c4) := (of_block K1 14).1
      have c15 : wr.cell? ⟨w.heap.size, 15, none⟩ = some (.int .i64 S.ee) := (of_block K0 15).1
      have d15 : wr.cell? ⟨w.heap.size + 1, 15, none⟩ = some (.int .i64 T.ee) := (of_block K1 15).1
      have c16 : wr.cell? ⟨w.heap.size, 16, none⟩ = some (.slice L.a5 S.el.length L.c5) := (of_block K0 16).1
      have d16 : wr.cell? ⟨w.heap.size + 1, 16, none⟩ = some (.slice L2.a5 T.el.length L2.c5) := (of_block K1 16).1
      clear K0 K1 hB
      by_cases hf : S.fe = T.fe
      · by_cases he : S.ee = T.ee
        · cases q3 <;> cases q4 <;> cases q5 <;> cases q6
          all_goals first
            | (exfalso; simp [bit, hf, he, hw] at hd9; done)
            | (exfalso; simp [bit, hf, he, hw] at hd9; omega)
            | skip
          all_goals
            go_wp2_with (first
                | (go_at_call 21; (with_reducible refine (I3 _ HB).mono ?_); rintro e w4 ⟨rfl, hb4⟩; replace HB := HB.trans (hb4.mono HB.size); replace c11 := keep_c c11 hb4; replace d11 := keep_c d11 hb4; replace c12 := keep_c c12 hb4; replace d12 := keep_c d12 hb4; replace c13 := keep_c c13 hb4; replace d13 := keep_c d13 hb4; replace c14 := keep_c c14 hb4; replace d14 := keep_c d14 hb4; replace c15 := keep_c c15 hb4; replace d15 := keep_c d15 hb4; replace c16 := keep_c c16 hb4; replace d16 := keep_c d16 hb4)
                | (go_at_call 21; (with_reducible refine (I4 _ HB).mono ?_); rintro e w4 ⟨rfl, hb4⟩; replace HB := HB.trans (hb4.mono HB.size); replace c11 := keep_c c11 hb4; replace d11 := keep_c d11 hb4; replace c12 := keep_c c12 hb4; replace d12 := keep_c d12 hb4; replace c13 := keep_c c13 hb4; replace d13 := keep_c d13 hb4; replace c14 := keep_c c14 hb4; replace d14 := keep_c d14 hb4; replace c15 := keep_c c15 hb4; replace d15 := keep_c d15 hb4; replace c16 := keep_c c16 hb4; replace d16 := keep_c d16 hb4)
                | (go_at_call 21; (with_reducible refine (I5 _ HB).mono ?_); rintro e w4 ⟨rfl, hb4⟩; replace HB := HB.trans (hb4.mono HB.size); replace c11 := keep_c c11 hb4; replace d11 := keep_c d11 hb4; replace c12 := keep_c c12 hb4; replace d12 := keep_c d12 hb4; replace c13 := keep_c c13 hb4; replace d13 := keep_c d13 hb4; replace c14 := keep_c c14 hb4; replace d14 := keep_c d14 hb4; replace c15 := keep_c c15 hb4; replace d15 := keep_c d15 hb4; replace c16 := keep_c c16 hb4; replace d16 := keep_c d16 hb4)
                | (go_at_call 21; (with_reducible refine (I6 _ HB).mono ?_); rintro e w4 ⟨rfl, hb4⟩; replace HB := HB.trans (hb4.mono HB.size); replace c11 := keep_c c11 hb4; replace d11 := keep_c d11 hb4; replace c12 := keep_c c12 hb4; replace d12 := keep_c d12 hb4; replace c13 := keep_c c13 hb4; replace d13 := keep_c d13 hb4; replace c14 := keep_c c14 hb4; replace d14 := keep_c d14 hb4; replace c15 := keep_c c15 hb4; replace d15 := keep_c d15 hb4; replace c16 := keep_c c16 hb4; replace d16 := keep_c d16 hb4))
            all_goals
              go_ret
              exact ⟨⟨_, by first | omega | (simp [bit, hf, he, hw] at hd9; omega) | (simp [bit, hf, he, hw] at hd9; simp [hd9]) | (simp [bit] at hd9; omega) | (simp [bit] at hd9; simp [hd9]), rfl⟩, HB⟩
        · cases q3 <;> cases q4 <;> cases q5
          all_goals first
            | (exfalso; simp [bit, hf, he, hw] at hd9; done)
            | (exfalso; simp [bit, hf, he, hw] at hd9; omega)
            | skip
          all_goals
            go_wp2_with (first
                | (go_at_call 21; (with_reducible refine (I3 _ HB).mono ?_); rintro e w4 ⟨rfl, hb4⟩; replace HB := HB.trans (hb4.mono HB.size); replace c11 := keep_c c11 hb4; replace d11 := keep_c d11 hb4; replace c12 := keep_c c12 hb4; replace d12 := keep_c d12 hb4; replace c13 := keep_c c13 hb4; replace d13 := keep_c d13 hb4; replace c14 := keep_c c14 hb4; replace d14 := keep_c d14 hb4; replace c15 := keep_c c15 hb4; replace d15 := keep_c d15 hb4; replace c16 := keep_c c16 hb4; replace d16 := keep_c d16 hb4)
                | (go_at_call 21; (with_reducible refine (I4 _ HB).mono ?_); rintro e w4 ⟨rfl, hb4⟩; replace HB := HB.trans (hb4.mono HB.size); replace c11 := keep_c c11 hb4; replace d11 := keep_c d11 hb4; replace c12 := keep_c c12 hb4; replace d12 := keep_c d12 hb4; replace c13 := keep_c c13 hb4; replace d13 := keep_c d13 hb4; replace c14 := keep_c c14 hb4; replace d14 := keep_c d14 hb4; replace c15 := keep_c c15 hb4; replace d15 := keep_c d15 hb4; replace c16 := keep_c c16 hb4; replace d16 := keep_c d16 hb4)
                | (go_at_call 21; (with_reducible refine (I5 _ HB).mono ?_); rintro e w4 ⟨rfl, hb4⟩; replace HB := HB.trans (hb4.mono HB.size); replace c11 := keep_c c11 hb4; replace d11 := keep_c d11 hb4; replace c12 := keep_c c12 hb4; replace d12 := keep_c d12 hb4; replace c13 := keep_c c13 hb4; replace d13 := keep_c d13 hb4; replace c14 := keep_c c14 hb4; replace d14 := keep_c d14 hb4; replace c15 := keep_c c15 hb4; replace d15 := keep_c d15 hb4; replace c16 := keep_c c16 hb4; replace d16 := keep_c d16 hb4)
                | (go_at_call 21; (with_reducible refine (I6 _ HB).mono ?_); rintro e w4 ⟨rfl, hb4⟩; replace HB := HB.trans (hb4.mono HB.size); replace c11 := keep_c c11 hb4; replace d11 := keep_c d11 hb4; replace c12 := keep_c c12 hb4; replace d12 := keep_c d12 hb4; replace c13 := keep_c c13 hb4; replace d13 := keep_c d13 hb4; replace c14 := keep_c c14 hb4; replace d14 := keep_c d14 hb4; replace c15 := keep_c c15 hb4; replace d15 := keep_c d15 hb4; replace c16 := keep_c c16 hb4; replace d16 := keep_c d16 hb4))
            all_goals
              go_ret
              exact ⟨⟨_, by first | omega | (simp [bit, hf, he, hw] at hd9; omega) | (simp [bit, hf, he, hw] at hd9; simp [hd9]) | (simp [bit] at hd9; omega) | (simp [bit] at hd9; simp [hd9]), rfl⟩, HB⟩
      · by_cases he : S.ee = T.ee
        · cases q3 <;> cases q4 <;> cases q6
          all_goals first
            | (exfalso; simp [bit, hf, he, hw] at hd9; done)
            | (exfalso; simp [bit, hf, he, hw] at hd9; omega)
            | skip
          all_goals
            go_wp2_with (first
                | (go_at_call 21; (with_reducible refine (I3 _ HB).mono ?_); rintro e w4 ⟨rfl, hb4⟩; replace HB := HB.trans (hb4.mono HB.size); replace c11 := keep_c c11 hb4; replace d11 := keep_c d11 hb4; replace c12 := keep_c c12 hb4; replace d12 := keep_c d12 hb4; replace c13 := keep_c c13 hb4; replace d13 := keep_c d13 hb4; replace c14 := keep_c c14 hb4; replace d14 := keep_c d14 hb4; replace c15 := keep_c c15 hb4; replace d15 := keep_c d15 hb4; replace c16 := keep_c c16 hb4; replace d16 := keep_c d16 hb4)
                | (go_at_call 21; (with_reducible refine (I4 _ HB).mono ?_); rintro e w4 ⟨rfl, hb4⟩; replace HB := HB.trans (hb4.mono HB.size); replace c11 := keep_c c11 hb4; replace d11 := keep_c d11 hb4; replace c12 := keep_c c12 hb4; replace d12 := keep_c d12 hb4; replace c13 := keep_c c13 hb4; replace d13 := keep_c d13 hb4; replace c14 := keep_c c14 hb4; replace d14 := keep_c d14 hb4; replace c15 := keep_c c15 hb4; replace d15 := keep_c d15 hb4; replace c16 := keep_c c16 hb4; replace d16 := keep_c d16 hb4)
                | (go_at_call 21; (with_reducible refine (I5 _ HB).mono ?_); rintro e w4 ⟨rfl, hb4⟩; replace HB := HB.trans (hb4.mono HB.size); replace c11 := keep_c c11 hb4; replace d11 := keep_c d11 hb4; replace c12 := keep_c c12 hb4; replace d12 := keep_c d12 hb4; replace c13 := keep_c c13 hb4; replace d13 := keep_c d13 hb4; replace c14 := keep_c c14 hb4; replace d14 := keep_c d14 hb4; replace c15 := keep_c c15 hb4; replace d15 := keep_c d15 hb4; replace c16 := keep_c c16 hb4; replace d16 := keep_c d16 hb4)
                | (go_at_call 21; (with_reducible refine (I6 _ HB).mono ?_); rintro e w4 ⟨rfl, hb4⟩; replace HB := HB.trans (hb4.mono HB.size); replace c11 := keep_c c11 hb4; replace d11 := keep_c d11 hb4; replace c12 := keep_c c12 hb4; replace d12 := keep_c d12 hb4; replace c13 := keep_c c13 hb4; replace d13 := keep_c d13 hb4; replace c14 := keep_c c14 hb4; replace d14 := keep_c d14 hb4; replace c15 := keep_c c15 hb4; replace d15 := keep_c d15 hb4; replace c16 := keep_c c16 hb4; replace d16 := keep_c d16 hb4))
            all_goals
              go_ret
              exact ⟨⟨_, by first | omega | (simp [bit, hf, he, hw] at hd9; omega) | (simp [bit, hf, he, hw] at hd9; simp [hd9]) | (simp [bit] at hd9; omega) | (simp [bit] at hd9; simp [hd9]), rfl⟩, HB⟩
        · exfalso
          simp [bit, hf, he, hw] at hd9

set_option maxRecDepth 100000 in
set_option maxHeartbeats 32000000 in
theorem things_m (S T : St) (L L2 : Lay) (w : World) (hsm : S.small) (hsT : T.small) (hH : Holds w S L) (hT : Holds w T L2) (hd : S.diff T ≤ 1) (hw1 : S.word.head = T.word.head) (hw2 : S.word.tail = T.word.tail) (hw3 : ¬ S.word.mode = T.word.mode) :
    Calls Tryz.prog 9 #[S.val L, T.val L2] w fun e w' => AnyN 1 e ∧ Below w.heap.size w w' := by
  have k0 := World.alloc_heap_new w (.cells (S.cells L) 36)
  have k1 := World.alloc_heap_new (w.alloc (.cells (S.cells L) 36)) (.cells (T.cells L2) 36)
  rw [World.size_alloc] at k1
  replace k0 := keep_alloc k0 (.cells (T.cells L2) 36)
  have hB0 : Below w.heap.size w ((w.alloc (.cells (S.cells L) 36)).alloc (.cells (T.cells L2) 36)) := (below_one w _).trans ((below_one _ _).mono (by simp))
  have I3 := fun W (hW : Below w.heap.size w W) => ints14_any S.sends T.sends L.a2 L2.a2 L.c2 L2.c2 W hsm.2.1 (hH.on hW).h2 (hT.on hW).h2
  have I4 := fun W (hW : Below w.heap.size w W) => ints14_any S.recvs T.recvs L.a3 L2.a3 L.c3 L2.c3 W hsm.2.2.1 (hH.on hW).h3 (hT.on hW).h3
  have I5 := fun W (hW : Below w.heap.size w W) => ints14_any S.fl T.fl L.a4 L2.a4 L.c4 L2.c4 W hsm.2.2.2.1 (hH.on hW).h4 (hT.on hW).h4
  have I6 := fun W (hW : Below w.heap.size w W) => ints14_any S.el T.el L.a5 L2.a5 L.c5 L2.c5 W hsm.2.2.2.2.1 (hH.on hW).h5 (hT.on hW).h5
  have hd9 : bit (S.word != T.word) + slotDiff S.slots T.slots + bit (!decide (S.sends = T.sends)) + bit (!decide (S.recvs = T.recvs)) + bit (S.fe != T.fe || !decide (S.fl = T.fl)) + bit (S.ee != T.ee || !decide (S.el = T.el)) ≤ 1 := by
    have := hd
    unfold St.diff at this
    rw [bne_dec S.sends, bne_dec S.recvs, bne_dec S.fl, bne_dec S.el] at this
    exact this
  have hs1 := hsm.1
  have hs2 := hsT.1
  have z1 := hH.h1
  have z2 := hT.h1
  clear hd hsm hsT hH hT
  generalize decide (S.sends = T.sends) = q3 at *
  generalize decide (S.recvs = T.recvs) = q4 at *
  generalize decide (S.fl = T.fl) = q5 at *
  generalize decide (S.el = T.el) = q6 at *
  have c7 := (of_block k0 7).1; have c8 := (of_block k0 8).1; have c9 := (of_block k0 9).1
  have d7 := (of_block k1 7).1; have d8 := (of_block k1 8).1; have d9 := (of_block k1 9).1
  simp only [St.cells, List.getElem?_toArray, List.getElem?_cons_succ, List.getElem?_cons_zero] at c7 c8 c9 d7 d8 d9
  have hw : (S.word != T.word) = true := by simp; intro e; exact hw3 (by rw [e])
  go_enter Tryz.func9, Tryz.ntmps9
  go_wp2
  go_loopw [5, 6] (fun v i wr => ∃ k : Nat, k ≤ min S.slots.length T.slots.length ∧ i = .int .i64 k ∧ v = .int .i64 ((1 + slotDiff (S.slots.take k) (T.slots.take k) : Nat) : Int) ∧ wr.heap[w.heap.size]? = some (.cells (S.cells L) 36) ∧ wr.heap[w.heap.size + 1]? = some (.cells (T.cells L2) 36) ∧ Below w.heap.size w wr) (fun _ i _ => S.slots.length - (intOf i).toNat)
  case atStart => exact ⟨0, Nat.zero_le _, rfl, by simp [slotDiff], k0, k1, hB0⟩
  case round =>
    clear k0 k1 hB0
    obtain ⟨k, hk, rfl, rfl, K0, K1, hB⟩ := hrel
    have a10 : wr.cell? ⟨w.heap.size, 10, none⟩ = some (.slice L.a1 S.slots.length L.c1) := (of_block K0 10).1
    have b10 : wr.cell? ⟨w.heap.size + 1, 10, none⟩ = some (.slice L2.a1 T.slots.length L2.c1) := (of_block K1 10).1
    by_cases hlt : k < min S.slots.length T.slots.length
    · have h1 : k < S.slots.length := by omega
      have h2 : k < T.slots.length := by omega
      obtain ⟨x, hx⟩ : ∃ x, S.slots[k]? = some x := ⟨_, List.getElem?_eq_getElem h1⟩
      obtain ⟨y, hy⟩ : ∃ y, T.slots[k]? = some y := ⟨_, List.getElem?_eq_getElem h2⟩
      obtain ⟨bs, os, hA1, hbs, hcs⟩ := (z1.below hB).open_ (by rw [pls_len]; omega)
      obtain ⟨bt, ot, hA2, hbt, hct⟩ := (z2.below hB).open_ (by rw [pls_len]; omega)
      have x0 := hcs _ _ (pls_at hx).1
      have x1 := hcs _ _ (pls_at hx).2
      have y0 := hct _ _ (pls_at hy).1
      have y1 := hct _ _ (pls_at hy).2
      rw [← Nat.add_assoc] at x1 y1
      rw [hA1] at a10
      rw [hA2] at b10
      have hsn := slotDiff_snoc hx hy
      have HS := Lib.hid hsn
      have hle9 : slotDiff (S.slots.take k) (T.slots.take k) ≤ k := by unfold slotDiff; exact Nat.le_trans List.countP_le_length (by rw [List.length_zip, List.length_take]; omega)
      generalize slotDiff (S.slots.take k) (T.slots.take k) = sd at *
      have HA1 := Lib.hid hA1
      have HA2 := Lib.hid hA2
      clear hsn hcs hct hx hy hA1 hA2
      by_cases e1 : x.stamp = y.stamp
      · by_cases e2 : x.val = y.val
        · have exy : x = y := by cases x; cases y; simp at e1 e2; simp [e1, e2]
          go_wp2
          go_quiet (fail)
          all_goals
            go_wp2
            go_roundw
            case rel => exact ⟨k + 1, by omega, by go_num, by rw [HS.out, exy]; simp [bit] <;> omega, K0, K1, below_drewN hB _⟩
            case measure => simp [intOf]; omega
        · have exy : (x != y) = true := by simp; intro e; exact e2 (by rw [e])
          go_wp2
          go_quiet (fail)
          all_goals
            go_wp2
            go_roundw
            case rel => exact ⟨k + 1, by omega, by go_num, by rw [HS.out, exy]; simp [bit] <;> omega, K0, K1, below_drewN hB _⟩
            case measure => simp [intOf]; omega
      · have exy : (x != y) = true := by simp; intro e; exact e1 (by rw [e])
        go_wp2
        go_quiet (fail)
        all_goals
          go_wp2
          go_roundw
          case rel => exact ⟨k + 1, by omega, by go_num, by rw [HS.out, exy]; simp [bit] <;> omega, K0, K1, below_drewN hB _⟩
          case measure => simp [intOf]; omega
    · have hend := slotDiff_end (a := S.slots) (b := T.slots) (k := k) (by omega)
      rw [hend]
      generalize slotDiff S.slots T.slots = sd at *
      have HB := hB
      have c11 : wr.cell? ⟨w.heap.size, 11, none⟩ = some (.slice L.a2 S.sends.length L.c2) := (of_block K0 11).1
      have d11 : wr.cell? ⟨w.heap.size + 1, 11, none⟩ = some (.slice L2.a2 T.sends.length L2.c2) := (of_block K1 11).1
      have c12 : wr.cell? ⟨w.heap.size, 12, none⟩ = some (.slice L.a3 S.recvs.length L.c3) := (of_block K0 12).1
      have d12 : wr.cell? ⟨w.heap.size + 1, 12, none⟩ = some (.slice L2.a3 T.recvs.length L2.c3) := (of_block K1 12).1
      have c13 : wr.cell? ⟨w.heap.size, 13, none⟩ = some (.int .i64 S.fe) := (of_block K0 13).1
      have d13 : wr.cell? ⟨w.heap.size + 1, 13, none⟩ = some (.int .i64 T.fe) := (of_block K1 13).1
      have c14 : wr.cell? ⟨w.heap.size, 14, none⟩ = some (.slice L.a4 S.fl.length L.c4) := (of_block K0 14).1
      have d14 : wr.cell? ⟨w.heap.size + 1, 14, none⟩ = some (.slice L2.a4 T.fl.length L2.c4) := (of_block K1 14).1
      have c15 : wr.cell? ⟨w.heap.size, 15, none⟩ = some (.int .i64 S.ee) := (of_block K0 15).1
      have d15 : wr.cell? ⟨w.heap.size + 1, 15, none⟩ = some (.int .i64 T.ee) := (of_block K1 15).1
      have c16 : wr.cell? ⟨w.heap.size, 16, none⟩ = some (.slice L.a5 S.el.length L.c5) := (of_block K0 16).1
      have d16 : wr.cell? ⟨w.heap.size + 1, 16, none⟩ = some (.slice L2.a5 T.el.length L2.c5) := (of_block K1 16).1
      clear K0 K1 hB
      by_cases hf : S.fe = T.fe
      · by_cases he : S.ee = T.ee
        · cases q3 <;> cases q4 <;> cases q5 <;> cases q6
          all_goals first
            | (exfalso; simp [bit, hf, he, hw] at hd9; done)
            | (exfalso; simp [bit, hf, he, hw] at hd9; omega)
            | skip
          all_goals
            go_wp2_with (first
                | (go_at_call 21; (with_reducible refine (I3 _ HB).mono ?_); rintro e w4 ⟨rfl, hb4⟩; replace HB := HB.trans (hb4.mono HB.size); replace c11 := keep_c c11 hb4; replace d11 := keep_c d11 hb4; replace c12 := keep_c c12 hb4; replace d12 := keep_c d12 hb4; replace c13 := keep_c c13 hb4; replace d13 := keep_c d13 hb4; replace c14 := keep_c c14 hb4; replace d14 := keep_c d14 hb4; replace c15 := keep_c c15 hb4; replace d15 := keep_c d15 hb4; replace c16 := keep_c c16 hb4; replace d16 := keep_c d16 hb4)
                | (go_at_call 21; (with_reducible refine (I4 _ HB).mono ?_); rintro e w4 ⟨rfl, hb4⟩; replace HB := HB.trans (hb4.mono HB.size); replace c11 := keep_c c11 hb4; replace d11 := keep_c d11 hb4; replace c12 := keep_c c12 hb4; replace d12 := keep_c d12 hb4; replace c13 := keep_c c13 hb4; replace d13 := keep_c d13 hb4; replace c14 := keep_c c14 hb4; replace d14 := keep_c d14 hb4; replace c15 := keep_c c15 hb4; replace d15 := keep_c d15 hb4; replace c16 := keep_c c16 hb4; replace d16 := keep_c d16 hb4)
                | (go_at_call 21; (with_reducible refine (I5 _ HB).mono ?_); rintro e w4 ⟨rfl, hb4⟩; replace HB := HB.trans (hb4.mono HB.size); replace c11 := keep_c c11 hb4; replace d11 := keep_c d11 hb4; replace c12 := keep_c c12 hb4; replace d12 := keep_c d12 hb4; replace c13 := keep_c c13 hb4; replace d13 := keep_c d13 hb4; replace c14 := keep_c c14 hb4; replace d14 := keep_c d14 hb4; replace c15 := keep_c c15 hb4; replace d15 := keep_c d15 hb4; replace c16 := keep_c c16 hb4; replace d16 := keep_c d16 hb4)
                | (go_at_call 21; (with_reducible refine (I6 _ HB).mono ?_); rintro e w4 ⟨rfl, hb4⟩; replace HB := HB.trans (hb4.mono HB.size); replace c11 := keep_c c11 hb4; replace d11 := keep_c d11 hb4; replace c12 := keep_c c12 hb4; replace d12 := keep_c d12 hb4; replace c13 := keep_c c13 hb4; replace d13 := keep_c d13 hb4; replace c14 := keep_c c14 hb4; replace d14 := keep_c d14 hb4; replace c15 := keep_c c15 hb4; replace d15 := keep_c d15 hb4; replace c16 := keep_c c16 hb4; replace d16 := keep_c d16 hb4))
            all_goals
              go_ret
              exact ⟨⟨_, by first | omega | (simp [bit, hf, he, hw] at hd9; omega) | (simp [bit, hf, he, hw] at hd9; simp [hd9]) | (simp [bit] at hd9; omega) | (simp [bit] at hd9; simp [hd9]), rfl⟩, HB⟩
        · cases q3 <;> cases q4 <;> cases q5
          all_goals first
            | (exfalso; simp [bit, hf, he, hw] at hd9; done)
            | (exfalso; simp [bit, hf, he, hw] at hd9; omega)
            | skip
          all_goals
            go_wp2_with (first
                | (go_at_call 21; (with_reducible refine (I3 _ HB).mono ?_); rintro e w4 ⟨rfl, hb4⟩; replace HB := HB.trans (hb4.mono HB.size); replace c11 := keep_c c11 hb4; replace d11 := keep_c d11 hb4; replace c12 := keep_c c12 hb4; replace d12 := keep_c d12 hb4; replace c13 := keep_c c13 hb4; replace d13 := keep_c d13 hb4; replace c14 := keep_c c14 hb4; replace d14 := keep_c d14 hb4; replace c15 := keep_c c15 hb4; replace d15 := keep_c d15 hb4; replace c16 := keep_c c16 hb4; replace d16 := keep_c d16 hb4)
                | (go_at_call 21; (with_reducible refine (I4 _ HB).mono ?_); rintro e w4 ⟨rfl, hb4⟩; replace HB := HB.trans (hb4.mono HB.size); replace c11 := keep_c c11 hb4; replace d11 := keep_c d11 hb4; replace c12 := keep_c c12 hb4; replace d12 := keep_c d12 hb4; replace c13 := keep_c c13 hb4; replace d13 := keep_c d13 hb4; replace c14 := keep_c c14 hb4; replace d14 := keep_c d14 hb4; replace c15 := keep_c c15 hb4; replace d15 := keep_c d15 hb4; replace c16 := keep_c c16 hb4; replace d16 := keep_c d16 hb4)
                | (go_at_call 21; (with_reducible refine (I5 _ HB).mono ?_); rintro e w4 ⟨rfl, hb4⟩; replace HB := HB.trans (hb4.mono HB.size); replace c11 := keep_c c11 hb4; replace d11 := keep_c d11 hb4; replace c12 := keep_c c12 hb4; replace d12 := keep_c d12 hb4; replace c13 := keep_c c13 hb4; replace d13 := keep_c d13 hb4; replace c14 := keep_c c14 hb4; replace d14 := keep_c d14 hb4; replace c15 := keep_c c15 hb4; replace d15 := keep_c d15 hb4; replace c16 := keep_c c16 hb4; replace d16 := keep_c d16 hb4)
                | (go_at_call 21; (with_reducible refine (I6 _ HB).mono ?_); rintro e w4 ⟨rfl, hb4⟩; replace HB := HB.trans (hb4.mono HB.size); replace c11 := keep_c c11 hb4; replace d11 := keep_c d11 hb4; replace c12 := keep_c c12 hb4; replace d12 := keep_c d12 hb4; replace c13 := keep_c c13 hb4; replace d13 := keep_c d13 hb4; replace c14 := keep_c c14 hb4; replace d14 := keep_c d14 hb4; replace c15 := keep_c c15 hb4; replace d15 := keep_c d15 hb4; replace c16 := keep_c c16 hb4; replace d16 := keep_c d16 hb4))
            all_goals
              go_ret
              exact ⟨⟨_, by first | omega | (simp [bit, hf, he, hw] at hd9; omega) | (simp [bit, hf, he, hw] at hd9; simp [hd9]) | (simp [bit] at hd9; omega) | (simp [bit] at hd9; simp [hd9]), rfl⟩, HB⟩
      · by_cases he : S.ee = T.ee
        · cases q3 <;> cases q4 <;> cases q6
          all_goals first
            | (exfalso; simp [bit, hf, he, hw] at hd9; done)
            | (exfalso; simp [bit, hf, he, hw] at hd9; omega)
            | skip
          all_goals
            go_wp2_with (first
                | (go_at_call 21; (with_reducible refine (I3 _ HB).mono ?_); rintro e w4 ⟨rfl, hb4⟩; replace HB := HB.trans (hb4.mono HB.size); replace c11 := keep_c c11 hb4; replace d11 := keep_c d11 hb4; replace c12 := keep_c c12 hb4; replace d12 := keep_c d12 hb4; replace c13 := keep_c c13 hb4; replace d13 := keep_c d13 hb4; replace c14 := keep_c c14 hb4; replace d14 := keep_c d14 hb4; replace c15 := keep_c c15 hb4; replace d15 := keep_c d15 hb4; replace c16 := keep_c c16 hb4; replace d16 := keep_c d16 hb4)
                | (go_at_call 21; (with_reducible refine (I4 _ HB).mono ?_); rintro e w4 ⟨rfl, hb4⟩; replace HB := HB.trans (hb4.mono HB.size); replace c11 := keep_c c11 hb4; replace d11 := keep_c d11 hb4; replace c12 := keep_c c12 hb4; replace d12 := keep_c d12 hb4; replace c13 := keep_c c13 hb4; replace d13 := keep_c d13 hb4; replace c14 := keep_c c14 hb4; replace d14 := keep_c d14 hb4; replace c15 := keep_c c15 hb4; replace d15 := keep_c d15 hb4; replace c16 := keep_c c16 hb4; replace d16 := keep_c d16 hb4)
                | (go_at_call 21; (with_reducible refine (I5 _ HB).mono ?_); rintro e w4 ⟨rfl, hb4⟩; replace HB := HB.trans (hb4.mono HB.size); replace c11 := keep_c c11 hb4; replace d11 := keep_c d11 hb4; replace c12 := keep_c c12 hb4; replace d12 := keep_c d12 hb4; replace c13 := keep_c c13 hb4; replace d13 := keep_c d13 hb4; replace c14 := keep_c c14 hb4; replace d14 := keep_c d14 hb4; replace c15 := keep_c c15 hb4; replace d15 := keep_c d15 hb4; replace c16 := keep_c c16 hb4; replace d16 := keep_c d16 hb4)
                | (go_at_call 21; (with_reducible refine (I6 _ HB).mono ?_); rintro e w4 ⟨rfl, hb4⟩; replace HB := HB.trans (hb4.mono HB.size); replace c11 := keep_c c11 hb4; replace d11 := keep_c d11 hb4; replace c12 := keep_c c12 hb4; replace d12 := keep_c d12 hb4; replace c13 := keep_c c13 hb4; replace d13 := keep_c d13 hb4; replace c14 := keep_c c14 hb4; replace d14 := keep_c d14 hb4; replace c15 := keep_c c15 hb4; replace d15 := keep_c d15 hb4; replace c16 := keep_c c16 hb4; replace d16 := keep_c d16 hb4))
            all_goals
              go_ret
              exact ⟨⟨_, by first | omega | (simp [bit, hf, he, hw] at hd9; omega) | (simp [bit, hf, he, hw] at hd9; simp [hd9]) | (simp [bit] at hd9; omega) | (simp [bit] at hd9; simp [hd9]), rfl⟩, HB⟩
        · exfalso
          simp [bit, hf, he, hw] at hd9

theorem things_any (S T : St) (L L2 : Lay) (w : World) (hsm : S.small) (hsT : T.small) (hH : Holds w S L) (hT : Holds w T L2) (hd : S.diff T ≤ 1) : Calls Tryz.prog 9 #[S.val L, T.val L2] w fun e w' => AnyN 1 e ∧ Below w.heap.size w w' := by
  by_cases hw1 : S.word.head = T.word.head
  · by_cases hw2 : S.word.tail = T.word.tail
    · by_cases hw3 : S.word.mode = T.word.mode
      · exact things_eq S T L L2 w hsm hsT hH hT hd hw1 hw2 hw3
      · exact things_m S T L L2 w hsm hsT hH hT hd hw1 hw2 hw3
    · exact things_t S T L L2 w hsm hsT hH hT hd hw1 hw2
  · exact things_h S T L L2 w hsm hsT hH hT hd hw1

end Go.Proofs.YtnbgpopjnpdmgaaGreat
