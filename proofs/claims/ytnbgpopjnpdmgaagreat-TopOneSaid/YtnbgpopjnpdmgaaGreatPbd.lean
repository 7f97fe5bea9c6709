/-
  DERIVED. Is, StepSend.
-/
import Derived.Test.YtnbgpopjnpdmgaaGreatPbc
set_option linter.unusedVariables false
set_option linter.unusedSimpArgs false

namespace Go.Proofs.YtnbgpopjnpdmgaaGreat
open Go Go.RowKit Go.Shelf

/-- A thread of a side, that runs. -/
def St.isOf (S : St) (side id : Int) : Bool := S.ok && (decide (0 ≤ id) && (match S.ths[id.toNat]? with | some t => t.runs == 0 && sideOf t.kind == side | none => false))
theorem isOf_no {S : St} {side id : Int} (h : S.ok = false ∨ ¬ (0 ≤ id ∧ id < S.ths.length)) : S.isOf side id = false := by
  unfold St.isOf
  rcases h with h | h
  · simp [h]
  · by_cases h0 : 0 ≤ id
    · have : S.ths[id.toNat]? = none := List.getElem?_eq_none_iff.2 (by omega)
      simp [this]
    · simp [h0]
theorem isOf_at {S : St} {side : Int} {k : Nat} {t : Th} (ho : S.ok = true) (ht : S.ths[k]? = some t) : S.isOf side k = (t.runs == 0 && sideOf t.kind == side) := by
  simp [St.isOf, ho, ht]
theorem loadTh {W : World} {g s : Nat} {t : Th} (hcs : ∀ j v, t.list[j]? = some v → W.cell? ⟨g, s + j, none⟩ = some v) {a : Act} {x : Operand} {dst : Option Tmp} {ty : TypeId} {ps : String} {af : Array Edge} {gd : Option (Nat × Bool)} (hx : a.eval x = .pointer (some ⟨g, s, none⟩)) :
    (execOp a.eval (Oper.mk dst (.load 51 x) ty ps af gd)).run Tryz.prog W = .ok (.value t.value) W := loadT Tryz.isAgg51 Tryz.sizeOf51 (cs := t.list) hcs rfl hx
theorem wpList_valg {P : Program} {ops : Array Oper} {Q : Exit → Act → World → Prop} {rest : List Oper} {a : Act} {w w' : World} {v : Value} {o : Oper} {dst : Option Tmp}
    (ho : o.dst = dst) (hw : Region.wanted o (yielded ops a.tmps) = true) (hrun : (execOp a.eval o).run P w = .ok (.value v) w') (h : wpList P ops Q rest (a.put dst v) w') : wpList P ops Q (o :: rest) a w := by
  subst ho
  exact wpList_step fun K hK => by
    simp only [hw, if_true]
    unfold Oper.wp
    rw [hrun]
    exact hK _ _ h
/-- The cells of a thread in memory. -/
theorem Holds.thread {w : World} {S : St} {L : Lay} (h : Holds w S L) {k : Nat} {t : Th} (ht : S.ths[k]? = some t) : ∃ g off, L.a6 = some ⟨g, off, none⟩ ∧ g < w.heap.size ∧ ∀ j v, t.list[j]? = some v → w.cell? ⟨g, off + k * 11 + j, none⟩ = some v := by
  have hk := (List.getElem?_eq_some_iff.1 ht).1
  obtain ⟨g, off, hA, hg, hc⟩ := h.h6.open_ (by rw [ths_len]; omega)
  refine ⟨g, off, hA, hg, fun j v hj => ?_⟩
  rw [Nat.add_assoc]
  exact hc _ _ (flat_at (f := Th.list) (k := 11) (fun _ => rfl) ht hj)

set_option maxRecDepth 100000 in
set_option maxHeartbeats 2000000 in
theorem may_c (t : Th) (w : World) :
    Calls Tryz.prog 169 #[t.value] w fun e w' => e = .returned (.bool (t.runs == 0 && sideOf t.kind == 3)) ∧ Below w.heap.size w w' := by
  have RN := fun t W => th_runs t W
  have SD := fun a W => op_side a W
  have k0 := World.alloc_heap_new w (.cells t.cells 51)
  have hB0 : Below w.heap.size w (w.alloc (.cells t.cells 51)) := below_one w _
  have kk := cells11 k0
  go_enter Tryz.func169, Tryz.ntmps169
  generalize hr : t.runs = r at *
  generalize hs : sideOf t.kind = s at *
  by_cases h1 : r = 0
  · subst h1
    go_wp2_with (first
        | (go_at_call 56; (with_reducible refine (RN t _).mono ?_); rw [hr]; rintro e w2 ⟨rfl, hb⟩; have hB := hB0.trans (hb.mono hB0.size); have kk := cells11 (kept k0 hb))
        | (go_at_call 48; (with_reducible refine (SD _ _).mono ?_); rw [hs]; rintro e w3 ⟨rfl, hw⟩; obtain rfl := hw.symm; clear hw))
    go_ret
    exact ⟨by simp, hB⟩
  · have h1' : (r == 0) = false := by simpa using h1
    go_wp2_with (first
        | (go_at_call 56; (with_reducible refine (RN t _).mono ?_); rw [hr]; rintro e w2 ⟨rfl, hb⟩; have hB := hB0.trans (hb.mono hB0.size); have kk := cells11 (kept k0 hb)))
    go_ret
    exact ⟨by simp [h1'], hB⟩

set_option maxRecDepth 100000 in
set_option maxHeartbeats 2000000 in
theorem is_no_s (S : St) (L : Lay) (id : Int) (w : World) (hsm : S.small) (hH : Holds w S L) (h : S.ok = false ∨ ¬ (0 ≤ id ∧ id < S.ths.length)) :
    Calls Tryz.prog 106 #[S.val L, .int .i64 id] w fun e w' => e = .returned (.bool false) ∧ Below w.heap.size w w' := by
  have K := fun W (hW : Below w.heap.size w W) => check_state S L W hsm (hH.on hW)
  have RN := fun t W => th_runs t W
  have SD := fun a W => op_side a W
  have k0 := World.alloc_heap_new w (.cells (S.cells L) 36)
  have hB0 : Below w.heap.size w (w.alloc (.cells (S.cells L) 36)) := below_one w _
  have hl6 := hsm.2.2.2.2.2.1
  have hcase : S.ok = false ∨ (S.ok = true ∧ id < 0) ∨ (S.ok = true ∧ 0 ≤ id ∧ ¬ id < S.ths.length) := by
    cases ho : S.ok with
    | false => exact .inl rfl
    | true =>
      rcases h with h | h
      · rw [ho] at h; cases h
      · by_cases h0 : id < 0
        · exact .inr (.inl ⟨rfl, h0⟩)
        · exact .inr (.inr ⟨rfl, by omega, by omega⟩)
  clear h
  go_enter Tryz.func106, Tryz.ntmps106
  rcases hcase with hq | ⟨hq, hq2⟩ | ⟨hq, hq2, hq3⟩
  all_goals
    rw [hq] at K
    go_wp2_with (first
        | ((with_reducible refine wpList_val (load36 k0 ?_ ?_) ?_); (focus rfl); (focus rfl))
        | (go_at_call 22; (with_reducible refine (K _ hB0).mono ?_); rintro e w1 ⟨rfl, hb⟩; have hB := hB0.trans (hb.mono hB0.size); have k1 := kept k0 hb; have c18 : w1.cell? ⟨w.heap.size, 18, none⟩ = some (.slice L.a6 S.ths.length L.c6) := (by rw [(of_block k1 18).1]; simp)))
    go_ret
    exact ⟨rfl, hB⟩

set_option maxRecDepth 100000 in
set_option maxHeartbeats 2000000 in
theorem is_yes_s (S : St) (L : Lay) (k : Nat) (t : Th) (w : World) (hsm : S.small) (hH : Holds w S L) (ho : S.ok = true) (ht : S.ths[k]? = some t) :
    Calls Tryz.prog 106 #[S.val L, .int .i64 k] w fun e w' => e = .returned (.bool (t.runs == 0 && sideOf t.kind == 1)) ∧ Below w.heap.size w w' := by
  have K := fun W (hW : Below w.heap.size w W) => check_state S L W hsm (hH.on hW)
  have RN := fun t W => th_runs t W
  have SD := fun a W => op_side a W
  have k0 := World.alloc_heap_new w (.cells (S.cells L) 36)
  have hB0 : Below w.heap.size w (w.alloc (.cells (S.cells L) 36)) := below_one w _
  have hl6 := hsm.2.2.2.2.2.1
  obtain ⟨g, off, hA, hg, hcs0⟩ := hH.thread ht
  have HA := Lib.hid hA
  have hk := (List.getElem?_eq_some_iff.1 ht).1

  rw [ho] at K
  clear hA ht hH ho
  generalize hr : t.runs = r at *
  generalize hs : sideOf t.kind = s at *
  go_enter Tryz.func106, Tryz.ntmps106
  by_cases h1 : r = 0
  · subst h1
    go_wp2_with (first
        | ((with_reducible refine wpList_val (load36 k0 ?_ ?_) ?_); (focus rfl); (focus rfl))
        | ((with_reducible refine wpList_valg rfl ?_ (loadTh hcs ?_) ?_); (focus rfl); (focus rfl))
        | (go_at_call 22; (with_reducible refine (K _ hB0).mono ?_); rintro e w1 ⟨rfl, hb⟩; have hB := hB0.trans (hb.mono hB0.size); have k1 := kept k0 hb; have c18 : w1.cell? ⟨w.heap.size, 18, none⟩ = some (.slice (some ⟨g, off, none⟩) S.ths.length L.c6) := (by rw [(of_block k1 18).1]; simp [HA.out]); have hcs := fun j v h => keep_c (hcs0 j v h) hB)
        | (go_at_call 56; (with_reducible refine (RN t _).mono ?_); rw [hr]; rintro e w2 ⟨rfl, hb2⟩; have kk := cells11 (kept (World.alloc_heap_new w1 (.cells t.cells 51)) hb2); replace hB := (hB.alloc hB.size (.cells t.cells 51)).trans (hb2.mono (by have := hB.size; simp; omega)))
        | (go_at_call 48; (with_reducible refine (SD _ _).mono ?_); rw [hs]; rintro e w3 ⟨rfl, hw⟩; obtain rfl := hw.symm; clear hw))
    go_ret
    exact ⟨by simp, hB⟩
  · have h1' : (r == 0) = false := by simpa using h1
    go_wp2_with (first
        | ((with_reducible refine wpList_val (load36 k0 ?_ ?_) ?_); (focus rfl); (focus rfl))
        | ((with_reducible refine wpList_valg rfl ?_ (loadTh hcs ?_) ?_); (focus rfl); (focus rfl))
        | (go_at_call 22; (with_reducible refine (K _ hB0).mono ?_); rintro e w1 ⟨rfl, hb⟩; have hB := hB0.trans (hb.mono hB0.size); have k1 := kept k0 hb; have c18 : w1.cell? ⟨w.heap.size, 18, none⟩ = some (.slice (some ⟨g, off, none⟩) S.ths.length L.c6) := (by rw [(of_block k1 18).1]; simp [HA.out]); have hcs := fun j v h => keep_c (hcs0 j v h) hB)
        | (go_at_call 56; (with_reducible refine (RN t _).mono ?_); rw [hr]; rintro e w2 ⟨rfl, hb2⟩; have kk := cells11 (kept (World.alloc_heap_new w1 (.cells t.cells 51)) hb2); replace hB := (hB.alloc hB.size (.cells t.cells 51)).trans (hb2.mono (by have := hB.size; simp; omega)))
        | (go_at_call 48; (with_reducible refine (SD _ _).mono ?_); rw [hs]; rintro e w3 ⟨rfl, hw⟩; obtain rfl := hw.symm; clear hw))
    go_ret
    exact ⟨by simp [h1'], hB⟩

theorem is_s (S : St) (L : Lay) (id : Int) (w : World) (hsm : S.small) (hH : Holds w S L) : Calls Tryz.prog 106 #[S.val L, .int .i64 id] w fun e w' => e = .returned (.bool (S.isOf 1 id)) ∧ Below w.heap.size w w' := by
  by_cases h : S.ok = false ∨ ¬ (0 ≤ id ∧ id < S.ths.length)
  · rw [isOf_no h]
    exact is_no_s S L id w hsm hH h
  · have ho : S.ok = true := by cases hq : S.ok with | true => rfl | false => exact absurd (.inl hq) h
    have hi : 0 ≤ id ∧ id < S.ths.length := Classical.byContradiction fun h2 => h (.inr h2)
    obtain ⟨k, rfl⟩ : ∃ k : Nat, id = k := ⟨id.toNat, by omega⟩
    have ht := List.getElem?_eq_getElem (l := S.ths) (i := k) (by omega)
    rw [isOf_at ho ht]
    exact is_yes_s S L k _ w hsm hH ho ht

set_option maxRecDepth 100000 in
set_option maxHeartbeats 2000000 in
theorem is_no_r (S : St) (L : Lay) (id : Int) (w : World) (hsm : S.small) (hH : Holds w S L) (h : S.ok = false ∨ ¬ (0 ≤ id ∧ id < S.ths.length)) :
    Calls Tryz.prog 120 #[S.val L, .int .i64 id] w fun e w' => e = .returned (.bool false) ∧ Below w.heap.size w w' := by
  have K := fun W (hW : Below w.heap.size w W) => check_state S L W hsm (hH.on hW)
  have RN := fun t W => th_runs t W
  have SD := fun a W => op_side a W
  have k0 := World.alloc_heap_new w (.cells (S.cells L) 36)
  have hB0 : Below w.heap.size w (w.alloc (.cells (S.cells L) 36)) := below_one w _
  have hl6 := hsm.2.2.2.2.2.1
  have hcase : S.ok = false ∨ (S.ok = true ∧ id < 0) ∨ (S.ok = true ∧ 0 ≤ id ∧ ¬ id < S.ths.length) := by
    cases ho : S.ok with
    | false => exact .inl rfl
    | true =>
      rcases h with h | h
      · rw [ho] at h; cases h
      · by_cases h0 : id < 0
        · exact .inr (.inl ⟨rfl, h0⟩)
        · exact .inr (.inr ⟨rfl, by omega, by omega⟩)
  clear h
  go_enter Tryz.func120, Tryz.ntmps120
  rcases hcase with hq | ⟨hq, hq2⟩ | ⟨hq, hq2, hq3⟩
  all_goals
    rw [hq] at K
    go_wp2_with (first
        | ((with_reducible refine wpList_val (load36 k0 ?_ ?_) ?_); (focus rfl); (focus rfl))
        | (go_at_call 22; (with_reducible refine (K _ hB0).mono ?_); rintro e w1 ⟨rfl, hb⟩; have hB := hB0.trans (hb.mono hB0.size); have k1 := kept k0 hb; have c18 : w1.cell? ⟨w.heap.size, 18, none⟩ = some (.slice L.a6 S.ths.length L.c6) := (by rw [(of_block k1 18).1]; simp)))
    go_ret
    exact ⟨rfl, hB⟩

set_option maxRecDepth 100000 in
set_option maxHeartbeats 2000000 in
theorem is_yes_r (S : St) (L : Lay) (k : Nat) (t : Th) (w : World) (hsm : S.small) (hH : Holds w S L) (ho : S.ok = true) (ht : S.ths[k]? = some t) :
    Calls Tryz.prog 120 #[S.val L, .int .i64 k] w fun e w' => e = .returned (.bool (t.runs == 0 && sideOf t.kind == 2)) ∧ Below w.heap.size w w' := by
  have K := fun W (hW : Below w.heap.size w W) => check_state S L W hsm (hH.on hW)
  have RN := fun t W => th_runs t W
  have SD := fun a W => op_side a W
  have k0 := World.alloc_heap_new w (.cells (S.cells L) 36)
  have hB0 : Below w.heap.size w (w.alloc (.cells (S.cells L) 36)) := below_one w _
  have hl6 := hsm.2.2.2.2.2.1
  obtain ⟨g, off, hA, hg, hcs0⟩ := hH.thread ht
  have HA := Lib.hid hA
  have hk := (List.getElem?_eq_some_iff.1 ht).1

  rw [ho] at K
  clear hA ht hH ho
  generalize hr : t.runs = r at *
  generalize hs : sideOf t.kind = s at *
  go_enter Tryz.func120, Tryz.ntmps120
  by_cases h1 : r = 0
  · subst h1
    go_wp2_with (first
        | ((with_reducible refine wpList_val (load36 k0 ?_ ?_) ?_); (focus rfl); (focus rfl))
        | ((with_reducible refine wpList_valg rfl ?_ (loadTh hcs ?_) ?_); (focus rfl); (focus rfl))
        | (go_at_call 22; (with_reducible refine (K _ hB0).mono ?_); rintro e w1 ⟨rfl, hb⟩; have hB := hB0.trans (hb.mono hB0.size); have k1 := kept k0 hb; have c18 : w1.cell? ⟨w.heap.size, 18, none⟩ = some (.slice (some ⟨g, off, none⟩) S.ths.length L.c6) := (by rw [(of_block k1 18).1]; simp [HA.out]); have hcs := fun j v h => keep_c (hcs0 j v h) hB; have f1 := hcs 1 _ rfl)
        | (go_at_call 56; (with_reducible refine (RN t _).mono ?_); rw [hr]; rintro e w2 ⟨rfl, hb2⟩; replace hB := hB.trans (hb2.mono hB.size); replace k1 := kept k1 hb2; have c18 : w2.cell? ⟨w.heap.size, 18, none⟩ = some (.slice (some ⟨g, off, none⟩) S.ths.length L.c6) := (by rw [(of_block k1 18).1]; simp [HA.out]); have f1 := keep_c f1 hb2)
        | (go_at_call 48; (with_reducible refine (SD _ _).mono ?_); rw [hs]; rintro e w3 ⟨rfl, hw⟩; obtain rfl := hw.symm; clear hw))
    go_ret
    exact ⟨by simp, hB⟩
  · have h1' : (r == 0) = false := by simpa using h1
    go_wp2_with (first
        | ((with_reducible refine wpList_val (load36 k0 ?_ ?_) ?_); (focus rfl); (focus rfl))
        | ((with_reducible refine wpList_valg rfl ?_ (loadTh hcs ?_) ?_); (focus rfl); (focus rfl))
        | (go_at_call 22; (with_reducible refine (K _ hB0).mono ?_); rintro e w1 ⟨rfl, hb⟩; have hB := hB0.trans (hb.mono hB0.size); have k1 := kept k0 hb; have c18 : w1.cell? ⟨w.heap.size, 18, none⟩ = some (.slice (some ⟨g, off, none⟩) S.ths.length L.c6) := (by rw [(of_block k1 18).1]; simp [HA.out]); have hcs := fun j v h => keep_c (hcs0 j v h) hB; have f1 := hcs 1 _ rfl)
        | (go_at_call 56; (with_reducible refine (RN t _).mono ?_); rw [hr]; rintro e w2 ⟨rfl, hb2⟩; replace hB := hB.trans (hb2.mono hB.size); replace k1 := kept k1 hb2; have c18 : w2.cell? ⟨w.heap.size, 18, none⟩ = some (.slice (some ⟨g, off, none⟩) S.ths.length L.c6) := (by rw [(of_block k1 18).1]; simp [HA.out]); have f1 := keep_c f1 hb2)
        | (go_at_call 48; (with_reducible refine (SD _ _).mono ?_); rw [hs]; rintro e w3 ⟨rfl, hw⟩; obtain rfl := hw.symm; clear hw))
    go_ret
    exact ⟨by simp [h1'], hB⟩

theorem is_r (S : St) (L : Lay) (id : Int) (w : World) (hsm : S.small) (hH : Holds w S L) : Calls Tryz.prog 120 #[S.val L, .int .i64 id] w fun e w' => e = .returned (.bool (S.isOf 2 id)) ∧ Below w.heap.size w w' := by
  by_cases h : S.ok = false ∨ ¬ (0 ≤ id ∧ id < S.ths.length)
  · rw [isOf_no h]
    exact is_no_r S L id w hsm hH h
  · have ho : S.ok = true := by cases hq : S.ok with | true => rfl | false => exact absurd (.inl hq) h
    have hi : 0 ≤ id ∧ id < S.ths.length := Classical.byContradiction fun h2 => h (.inr h2)
    obtain ⟨k, rfl⟩ : ∃ k : Nat, id = k := ⟨id.toNat, by omega⟩
    have ht := List.getElem?_eq_getElem (l := S.ths) (i := k) (by omega)
    rw [isOf_at ho ht]
    exact is_yes_r S L k _ w hsm hH ho ht

set_option maxRecDepth 100000 in
set_option maxHeartbeats 2000000 in
theorem is_no_c (S : St) (L : Lay) (id : Int) (w : World) (hsm : S.small) (hH : Holds w S L) (h : S.ok = false ∨ ¬ (0 ≤ id ∧ id < S.ths.length)) :
    Calls Tryz.prog 124 #[S.val L, .int .i64 id] w fun e w' => e = .returned (.bool false) ∧ Below w.heap.size w w' := by
  have K := fun W (hW : Below w.heap.size w W) => check_state S L W hsm (hH.on hW)
  have RN := fun t W => th_runs t W
  have SD := fun a W => op_side a W
  have k0 := World.alloc_heap_new w (.cells (S.cells L) 36)
  have hB0 : Below w.heap.size w (w.alloc (.cells (S.cells L) 36)) := below_one w _
  have hl6 := hsm.2.2.2.2.2.1
  have hcase : S.ok = false ∨ (S.ok = true ∧ id < 0) ∨ (S.ok = true ∧ 0 ≤ id ∧ ¬ id < S.ths.length) := by
    cases ho : S.ok with
    | false => exact .inl rfl
    | true =>
      rcases h with h | h
      · rw [ho] at h; cases h
      · by_cases h0 : id < 0
        · exact .inr (.inl ⟨rfl, h0⟩)
        · exact .inr (.inr ⟨rfl, by omega, by omega⟩)
  clear h
  go_enter Tryz.func124, Tryz.ntmps124
  rcases hcase with hq | ⟨hq, hq2⟩ | ⟨hq, hq2, hq3⟩
  all_goals
    rw [hq] at K
    go_wp2_with (first
        | ((with_reducible refine wpList_val (load36 k0 ?_ ?_) ?_); (focus rfl); (focus rfl))
        | (go_at_call 22; (with_reducible refine (K _ hB0).mono ?_); rintro e w1 ⟨rfl, hb⟩; have hB := hB0.trans (hb.mono hB0.size); have k1 := kept k0 hb; have c18 : w1.cell? ⟨w.heap.size, 18, none⟩ = some (.slice L.a6 S.ths.length L.c6) := (by rw [(of_block k1 18).1]; simp)))
    go_ret
    exact ⟨rfl, hB⟩

set_option maxRecDepth 100000 in
set_option maxHeartbeats 2000000 in
theorem is_yes_c (S : St) (L : Lay) (k : Nat) (t : Th) (w : World) (hsm : S.small) (hH : Holds w S L) (ho : S.ok = true) (ht : S.ths[k]? = some t) :
    Calls Tryz.prog 124 #[S.val L, .int .i64 k] w fun e w' => e = .returned (.bool (t.runs == 0 && sideOf t.kind == 3)) ∧ Below w.heap.size w w' := by
  have K := fun W (hW : Below w.heap.size w W) => check_state S L W hsm (hH.on hW)
  have RN := fun t W => th_runs t W
  have SD := fun a W => op_side a W
  have k0 := World.alloc_heap_new w (.cells (S.cells L) 36)
  have hB0 : Below w.heap.size w (w.alloc (.cells (S.cells L) 36)) := below_one w _
  have hl6 := hsm.2.2.2.2.2.1
  obtain ⟨g, off, hA, hg, hcs0⟩ := hH.thread ht
  have HA := Lib.hid hA
  have hk := (List.getElem?_eq_some_iff.1 ht).1

  rw [ho] at K
  clear hA ht hH ho
  generalize hM : (t.runs == 0 && sideOf t.kind == 3) = M at *
  go_enter Tryz.func124, Tryz.ntmps124
  go_wp2_with (first
      | ((with_reducible refine wpList_val (load36 k0 ?_ ?_) ?_); (focus rfl); (focus rfl))
      | ((with_reducible refine wpList_valg rfl ?_ (loadTh hcs ?_) ?_); (focus rfl); (focus rfl))
      | (go_at_call 22; (with_reducible refine (K _ hB0).mono ?_); rintro e w1 ⟨rfl, hb⟩; have hB := hB0.trans (hb.mono hB0.size); have k1 := kept k0 hb; have c18 : w1.cell? ⟨w.heap.size, 18, none⟩ = some (.slice (some ⟨g, off, none⟩) S.ths.length L.c6) := (by rw [(of_block k1 18).1]; simp [HA.out]); have hcs := fun j v h => keep_c (hcs0 j v h) hB)
      | (go_at_call 169; (with_reducible refine (may_c t _).mono ?_); rw [hM]; rintro e w2 ⟨rfl, hb2⟩; replace hB := hB.trans (hb2.mono hB.size)))
  go_ret
  exact ⟨rfl, hB⟩

theorem is_c (S : St) (L : Lay) (id : Int) (w : World) (hsm : S.small) (hH : Holds w S L) : Calls Tryz.prog 124 #[S.val L, .int .i64 id] w fun e w' => e = .returned (.bool (S.isOf 3 id)) ∧ Below w.heap.size w w' := by
  by_cases h : S.ok = false ∨ ¬ (0 ≤ id ∧ id < S.ths.length)
  · rw [isOf_no h]
    exact is_no_c S L id w hsm hH h
  · have ho : S.ok = true := by cases hq : S.ok with | true => rfl | false => exact absurd (.inl hq) h
    have hi : 0 ≤ id ∧ id < S.ths.length := Classical.byContradiction fun h2 => h (.inr h2)
    obtain ⟨k, rfl⟩ : ∃ k : Nat, id = k := ⟨id.toNat, by omega⟩
    have ht := List.getElem?_eq_getElem (l := S.ths) (i := k) (by omega)
    rw [isOf_at ho ht]
    exact is_yes_c S L k _ w hsm hH ho ht

end Go.Proofs.YtnbgpopjnpdmgaaGreat

namespace Go.Proofs.YtnbgpopjnpdmgaaGreat
open Go Go.RowKit Go.Shelf

theorem wake_none (S : St) : S.wakeAt (-1) = S := by simp [St.wakeAt]
/-- What one step of a sender does. -/
def St.sendAt (S : St) (k : Nat) (t : Th) : St :=
  if t.pc = 0 then { S with sends := (entL S.sends k).1 }.mod k (Th.at 1) else
  if t.pc = 1 then S.first1 k t (plc S.sends k == 0) else
  if t.pc = 2 then S.look1 k t (S.word.acc S.slots.length).2.2 else
  if t.pc = 3 then S.write1 k (wrtS S.slots t.reg t.val) else
  if t.pc = 4 then St.accept1 { S with word := (S.word.acc S.slots.length).1 } k t (S.word.acc S.slots.length).2.2 else
  if t.pc = 5 then (S.mod k (Th.sn (if evOk S.fe S.fl then S.fe else -1))).mod k (Th.at 7) else
  if t.pc = 6 then (if (ntfE S.ee S.el).2 then { S with ee := (comeE all1 S.ee S.el).1, el := (comeE all1 S.ee S.el).2.1 }.wakeAt (ntfE S.ee S.el).1 else { S with ee := (comeE all1 S.ee S.el).1, el := (comeE all1 S.ee S.el).2.1 }).mod k (Th.at 9) else
  if t.pc = 7 then S.again1 k t (S.word.acc S.slots.length).2.2 else
  if t.pc = 8 then (S.mod k (Th.at 2)).commit2 k (Th.at 2 t) (cmtE S.fe S.fl t.seen k) else
  if t.pc = 9 then { S with sends := (levL S.sends k).1 }.mod k (fun t => t.done.1) else
  if t.pc = 10 then St.evict1 { S with word := (S.word.evi S.slots.length t.reg).1 } k (S.value t.reg) (S.word.evi S.slots.length t.reg).2 else
  S.rel1 k (relS S.slots t.reg)
def St.sendStep (S : St) (id : Int) : St := if S.isOf 1 id then (match S.ths[id.toNat]? with | some t => S.sendAt id.toNat t | none => S) else S
theorem place_of {t : Th} (h : t.ok = true) : (0 ≤ t.pc ∧ t.pc ≤ 11) ∧ (0 ≤ t.tries ∧ t.tries ≤ 1099511627776) ∧ (0 ≤ t.reg ∧ t.reg ≤ 1099511627776) := by
  simp only [Th.ok, Th.placeOk, Bool.and_eq_true, decide_eq_true_eq] at h
  exact ⟨h.2.2.2.2.1.1.1.1, h.2.2.2.2.1.1.1.2, h.2.2.2.2.1.1.2⟩
theorem th_of {S : St} (h : S.ok = true) {k : Nat} {t : Th} (ht : S.ths[k]? = some t) : t.ok = true := by
  simp only [St.ok, Bool.and_eq_true, Bool.not_eq_true', List.any_eq_false] at h
  have := h.2.2.2.2.2.2.2.2.2.2 t (List.mem_of_getElem? ht)
  simpa [badT] using this
def sendFn (p : Nat) : FuncId := ([107, 108, 109, 110, 111, 112, 113, 114, 115, 116, 117, 118] : List FuncId).getD p 0
theorem sendFn_at (p : Nat) (h : p < 12) : (#[.func (.func 107) #[] #[], .func (.func 108) #[] #[], .func (.func 109) #[] #[], .func (.func 110) #[] #[], .func (.func 111) #[] #[], .func (.func 112) #[] #[], .func (.func 113) #[] #[], .func (.func 114) #[] #[], .func (.func 115) #[] #[], .func (.func 116) #[] #[], .func (.func 117) #[] #[], .func (.func 118) #[] #[]] : Array Value)[p]? = some (.func (.func (sendFn p)) #[] #[]) := by
  match p, h with
  | 0, _ | 1, _ | 2, _ | 3, _ | 4, _ | 5, _ | 6, _ | 7, _ | 8, _ | 9, _ | 10, _ | 11, _ => rfl
theorem cf0 (v : Value) (W : World) : Sem.run Tryz.prog (callFunc 107 #[v]) W = .ok (.enter 107 #[v]) W := by kernel_rfl
theorem cf1 (v : Value) (W : World) : Sem.run Tryz.prog (callFunc 108 #[v]) W = .ok (.enter 108 #[v]) W := by kernel_rfl
theorem cf2 (v : Value) (W : World) : Sem.run Tryz.prog (callFunc 109 #[v]) W = .ok (.enter 109 #[v]) W := by kernel_rfl
theorem cf3 (v : Value) (W : World) : Sem.run Tryz.prog (callFunc 110 #[v]) W = .ok (.enter 110 #[v]) W := by kernel_rfl
theorem cf4 (v : Value) (W : World) : Sem.run Tryz.prog (callFunc 111 #[v]) W = .ok (.enter 111 #[v]) W := by kernel_rfl
theorem cf5 (v : Value) (W : World) : Sem.run Tryz.prog (callFunc 112 #[v]) W = .ok (.enter 112 #[v]) W := by kernel_rfl
theorem cf6 (v : Value) (W : World) : Sem.run Tryz.prog (callFunc 113 #[v]) W = .ok (.enter 113 #[v]) W := by kernel_rfl
theorem cf7 (v : Value) (W : World) : Sem.run Tryz.prog (callFunc 114 #[v]) W = .ok (.enter 114 #[v]) W := by kernel_rfl
theorem cf8 (v : Value) (W : World) : Sem.run Tryz.prog (callFunc 115 #[v]) W = .ok (.enter 115 #[v]) W := by kernel_rfl
theorem cf9 (v : Value) (W : World) : Sem.run Tryz.prog (callFunc 116 #[v]) W = .ok (.enter 116 #[v]) W := by kernel_rfl
theorem cf10 (v : Value) (W : World) : Sem.run Tryz.prog (callFunc 117 #[v]) W = .ok (.enter 117 #[v]) W := by kernel_rfl
theorem cf11 (v : Value) (W : World) : Sem.run Tryz.prog (callFunc 118 #[v]) W = .ok (.enter 118 #[v]) W := by kernel_rfl
theorem callFn (p : Nat) (h : p < 12) (v : Value) (W : World) : Sem.run Tryz.prog (callFunc (sendFn p) #[v]) W = .ok (.enter (sendFn p) #[v]) W := by
  match p, h with
  | 0, _ => exact cf0 v W
  | 1, _ => exact cf1 v W
  | 2, _ => exact cf2 v W
  | 3, _ => exact cf3 v W
  | 4, _ => exact cf4 v W
  | 5, _ => exact cf5 v W
  | 6, _ => exact cf6 v W
  | 7, _ => exact cf7 v W
  | 8, _ => exact cf8 v W
  | 9, _ => exact cf9 v W
  | 10, _ => exact cf10 v W
  | 11, _ => exact cf11 v W
theorem okSend : okT 157 := by unfold okT; decide
theorem send_fn (S : St) (L : Lay) (base b gb k : Nat) (t : Th) (p : Nat) (w : World) (hR : RunAt 157 base b gb S L k w) (hsm : S.small) (ht : S.ths[k]? = some t) (ho : S.ok = true) (hp : t.pc = p) :
    Calls Tryz.prog (sendFn p) #[.pointer (some ⟨b, 0, none⟩)] w fun e w' => e = .returned (.tuple #[]) ∧ Ran 157 base b k (S.sendAt k t) w w' := by
  obtain ⟨h1, h2, h3⟩ := place_of (th_of ho ht)
  have hok := ok_slots ho
  have h12 : p < 12 := by omega
  unfold St.sendAt
  rw [hp]
  match p, h12 with
  | 0, _ => exact enter_s S L base b gb k w hR hsm
  | 1, _ => exact first_s S L base b gb k w hR hsm t ht h2
  | 2, _ => exact look_s S L base b gb k w hR hsm t ht h2
  | 3, _ => exact write_s S L base b gb k w hR hsm t ht hok h3.1
  | 4, _ => exact accept_s S L base b gb k w hR hsm t ht
  | 5, _ => exact prepare_s S L base b gb k w hR hsm t ht
  | 6, _ => exact notify_s S L base b gb k w hR hsm
  | 7, _ => exact again_s S L base b gb k w hR hsm t ht
  | 8, _ => exact commit_s S L base b gb k w hR hsm t ht
  | 9, _ => exact leave_s S L base b gb k w hR hsm t ht
  | 10, _ => exact evict_s S L base b gb k w hR hsm t ht
  | 11, _ => exact release_s S L base b gb k w hR hsm t ht hok h3.1 h3.2

set_option maxRecDepth 100000 in
set_option maxHeartbeats 8000000 in
theorem sendStep_no (S : St) (L : Lay) (id : Int) (w : World) (hsm : S.small) (hH : Holds w S L) (hi : S.isOf 1 id = false) :
    Calls Tryz.prog 86 #[S.val L, .int .i64 id] w fun e w' => ∃ L', e = .returned ((S).val L') ∧ Owns w' w.heap.size (S) L' ∧ Below w.heap.size w w' := by
  have WK := fun W (hW : Below w.heap.size w W) => wake_any S L (-1) W hsm (hH.on hW)
  rw [wake_none] at WK
  have IS := fun W (hW : Below w.heap.size w W) => is_s S L id W hsm (hH.on hW)
  obtain ⟨k0, k1, hB0⟩ := two_new w (.cells (S.cells L) 36) (.cells #[.int .i64 0, .int .i64 0, .int .i64 0, .int .i64 0, .int .i64 0, .int .i64 0, .bool false, .int .i64 0, .int .i64 0, .int .i64 0, .slice none 0 0, .slice none 0 0, .slice none 0 0, .int .i64 0, .slice none 0 0, .int .i64 0, .slice none 0 0, .int .i64 0, .slice none 0 0, .slice none 0 0] 36)
  go_enter Tryz.func86, Tryz.ntmps86
  go_wp2_with (first
      | ((with_reducible refine wpList_val (load36 k0 ?_ ?_) ?_); (focus rfl); (focus rfl))
      | (go_at_call 18; (with_reducible refine (WK _ hB0).mono ?_); rintro e w1 ⟨L1, rfl, ho, hb⟩; have kz := World.alloc_heap_new w1 (.cells #[.int .i64 0, .int .i64 0, .int .i64 0, .int .i64 0, .int .i64 0, .int .i64 0, .bool false, .int .i64 0, .int .i64 0, .int .i64 0, .slice none 0 0, .slice none 0 0, .slice none 0 0, .int .i64 0, .slice none 0 0, .int .i64 0, .slice none 0 0, .int .i64 0, .slice none 0 0, .slice none 0 0] 36); obtain ⟨v1, hst1, kb, hBz, hothz⟩ := run_store_block (P := Tryz.prog) (base := w1.heap.size) (cs := (S.cells L1).toList) kz rfl (st_one S L1) (Nat.le_refl _); have hbv : Below w1.heap.size w1 v1 := (below_one w1 _).trans hBz; replace k0 := kept (kept k0 hb) hbv; replace k1 := kept (kept k1 hb) hbv; replace ho := ho.kept hbv; have hB1 := (hB0.trans (hb.mono hB0.size)).trans (hbv.mono (Nat.le_trans hB0.size hb.size)); have hzz := hb.size)
      | ((with_reducible refine wpList_skip (store36 hst1 ?_ ?_ ?_) ?_); (focus rfl); (focus rfl); (focus rfl))
      | (go_at_call 106; (with_reducible refine (IS _ hB1).mono ?_); rw [hi]; rintro e w2 ⟨rfl, hb2⟩; replace k0 := kept k0 hb2; replace k1 := kept k1 hb2; replace kb := kept kb hb2; replace ho := ho.kept hb2; have hB2 := hB1.trans (hb2.mono hB1.size); have hzz2 := hb2.size ; obtain ⟨v2, hst2, kr, hB3, hoth⟩ := run_store_block (P := Tryz.prog) (base := w.heap.size) (cs := (S.cells L1).toList) k1 rfl (st_one S L1) (by omega))
      | ((with_reducible refine wpList_val (load36 kb ?_ ?_) ?_); (focus rfl); (focus rfl))
      | ((with_reducible refine wpList_skip (store36 hst2 ?_ ?_ ?_) ?_); (focus rfl); (focus rfl); (focus rfl)))
  refine bodyPost_ret (results36 kr rfl rfl rfl) rfl ⟨L1, rfl, (ho.same (B := w.heap.size + 1) (by simp) hoth).mono (by simp; omega), hB2.trans hB3⟩

set_option maxRecDepth 100000 in
set_option maxHeartbeats 8000000 in
theorem sendStep_yes (S : St) (L : Lay) (k : Nat) (t : Th) (w : World) (hsm : S.small) (hH : Holds w S L) (ho0 : S.ok = true) (ht : S.ths[k]? = some t) (hi : S.isOf 1 k = true) :
    Calls Tryz.prog 86 #[S.val L, .int .i64 k] w fun e w' => ∃ L', e = .returned ((S.sendAt k t).val L') ∧ Owns w' w.heap.size (S.sendAt k t) L' ∧ Below w.heap.size w w' := by
  have WK := fun W (hW : Below w.heap.size w W) => wake_any S L (-1) W hsm (hH.on hW)
  rw [wake_none] at WK
  have IS := fun W (hW : Below w.heap.size w W) => is_s S L k W hsm (hH.on hW)
  obtain ⟨k0, k1, hB0⟩ := two_new w (.cells (S.cells L) 36) (.cells #[.int .i64 0, .int .i64 0, .int .i64 0, .int .i64 0, .int .i64 0, .int .i64 0, .bool false, .int .i64 0, .int .i64 0, .int .i64 0, .slice none 0 0, .slice none 0 0, .slice none 0 0, .int .i64 0, .slice none 0 0, .int .i64 0, .slice none 0 0, .int .i64 0, .slice none 0 0, .slice none 0 0] 36)
  have hk := (List.getElem?_eq_some_iff.1 ht).1
  obtain ⟨h1, -, -⟩ := place_of (th_of ho0 ht)
  obtain ⟨p, hp⟩ : ∃ p : Nat, t.pc = p := ⟨t.pc.toNat, by omega⟩
  have hp12 : p < 12 := by omega
  have HP := Lib.hid hp
  have CF := fun v W => callFn p hp12 v W
  clear hp h1
  go_enter Tryz.func86, Tryz.ntmps86
  go_wp2_with (first
      | ((with_reducible refine wpList_val (load36 k0 ?_ ?_) ?_); (focus rfl); (focus rfl))
      | (go_at_call 18; (with_reducible refine (WK _ hB0).mono ?_); rintro e w1 ⟨L1, rfl, ho, hb⟩; have kz := World.alloc_heap_new w1 (.cells #[.int .i64 0, .int .i64 0, .int .i64 0, .int .i64 0, .int .i64 0, .int .i64 0, .bool false, .int .i64 0, .int .i64 0, .int .i64 0, .slice none 0 0, .slice none 0 0, .slice none 0 0, .int .i64 0, .slice none 0 0, .int .i64 0, .slice none 0 0, .int .i64 0, .slice none 0 0, .slice none 0 0] 36); obtain ⟨v1, hst1, kb, hBz, hothz⟩ := run_store_block (P := Tryz.prog) (base := w1.heap.size) (cs := (S.cells L1).toList) kz rfl (st_one S L1) (Nat.le_refl _); have hbv : Below w1.heap.size w1 v1 := (below_one w1 _).trans hBz; replace k0 := kept (kept k0 hb) hbv; replace k1 := kept (kept k1 hb) hbv; replace ho := ho.kept hbv; have hB1 := (hB0.trans (hb.mono hB0.size)).trans (hbv.mono (Nat.le_trans hB0.size hb.size)); have hzz := hb.size)
      | ((with_reducible refine wpList_skip (store36 hst1 ?_ ?_ ?_) ?_); (focus rfl); (focus rfl); (focus rfl))
      | (go_at_call 106; (with_reducible refine (IS _ hB1).mono ?_); rw [hi]; rintro e w2 ⟨rfl, hb2⟩; replace k0 := kept k0 hb2; replace k1 := kept k1 hb2; replace kb := kept kb hb2; replace ho := ho.kept hb2; have hB2 := hB1.trans (hb2.mono hB1.size); have hzz2 := hb2.size ; have kn := World.alloc_heap_new w2 (.cells #[.nilFunc, .nilFunc, .nilFunc, .nilFunc, .nilFunc, .nilFunc, .nilFunc, .nilFunc, .nilFunc, .nilFunc, .nilFunc, .nilFunc] 155); obtain ⟨v3, hstF, kF, hBF, hothF⟩ := run_store_block (P := Tryz.prog) (base := w2.heap.size) (cs := [.func (.func 107) #[] #[], .func (.func 108) #[] #[], .func (.func 109) #[] #[], .func (.func 110) #[] #[], .func (.func 111) #[] #[], .func (.func 112) #[] #[], .func (.func 113) #[] #[], .func (.func 114) #[] #[], .func (.func 115) #[] #[], .func (.func 116) #[] #[], .func (.func 117) #[] #[], .func (.func 118) #[] #[]]) kn rfl (by intro v hv; simp at hv; rcases hv with rfl | rfl | rfl | rfl | rfl | rfl | rfl | rfl | rfl | rfl | rfl | rfl <;> rfl) (Nat.le_refl _); have hbF : Below w2.heap.size w2 v3 := (below_one w2 _).trans hBF; replace k0 := kept k0 hbF; replace k1 := kept k1 hbF; replace kb := kept kb hbF; replace ho := ho.kept hbF; have hB3 := hB2.trans (hbF.mono hB2.size); have hzF := blk_lt kF; have hbz : ((w.alloc (.cells (S.cells L) 36)).alloc (.cells #[.int .i64 0, .int .i64 0, .int .i64 0, .int .i64 0, .int .i64 0, .int .i64 0, .bool false, .int .i64 0, .int .i64 0, .int .i64 0, .slice none 0 0, .slice none 0 0, .slice none 0 0, .int .i64 0, .slice none 0 0, .int .i64 0, .slice none 0 0, .int .i64 0, .slice none 0 0, .slice none 0 0] 36)).heap.size = w.heap.size + 2 := (by simp); rw [hbz] at ho hzz; have hz12 := hb.size; rw [hbz] at hz12; have hsz3 : w.heap.size + 2 ≤ v3.heap.size := Nat.le_trans hz12 (Nat.le_trans hbv.size (Nat.le_trans hb2.size hbF.size)); obtain ⟨gb, h6⟩ := ho.form6 (show 0 < S.ths.length by omega); have hR : RunAt 157 (w.heap.size + 2) v3.heap.size gb S L1 k (v3.alloc (.cells (S.cells21 L1 k) 157)) := ⟨World.alloc_heap_new v3 _, ho.alloc _, hsz3, h6, hk, okSend⟩; clear h6; have k13 := keep_alloc k1 (.cells (S.cells21 L1 k) 157); have cF := keep_c ((of_block kF p).1.trans (sendFn_at p hp12)) (below_one v3 (.cells (S.cells21 L1 k) 157)); have hB4 := hB3.trans ((below_one v3 (.cells (S.cells21 L1 k) 157)).mono hB3.size))
      | ((with_reducible refine wpList_val (load36 kb ?_ ?_) ?_); (focus rfl); (focus rfl))
      | ((with_reducible refine wpList_skip (storeT Tryz.sizeOf155 hstF ?_ ?_ ?_) ?_); (focus rfl); (focus rfl); (focus rfl))
      | (go_at_call 119; (with_reducible refine (me_s _ _ _ _ _ _ _ hR).mono ?_); rintro e w4 ⟨rfl, hw⟩; subst hw; replace hR := hR.drew; obtain ⟨f4, -⟩ := hR.field ht (j := 4) rfl; rw [HP.out] at f4; replace hB4 := hB4.drew; replace k13 := k13))

  refine (send_fn S L1 _ _ _ k t p _ hR hsm ht ho0 HP.out).mono ?_
  rintro e w5 ⟨rfl, h5⟩
  obtain ⟨L5, gb5, hR5, hB5⟩ := h5
  have k15 := (hB5.block (w.heap.size + 1) (by omega)).trans k13
  obtain ⟨v6, hst6, kr, hB6, hoth⟩ := run_store_block (P := Tryz.prog) (base := w.heap.size) (cs := (St.cells (S.sendAt k t) L5).toList) k15 rfl (st_one _ L5) (by omega)

  go_wp2_with (first
      | ((with_reducible refine wpList_val (loadBox hR5 ?_) ?_); (focus rfl))
      | ((with_reducible refine wpList_skip (store36 hst6 ?_ ?_ ?_) ?_); (focus rfl); (focus rfl); (focus rfl)))
  refine bodyPost_ret (results36 kr rfl rfl rfl) rfl ⟨L5, rfl, (hR5.ho.same (B := w.heap.size + 1) (by omega) hoth).mono (by omega), (hB4.trans (hB5.mono (by omega))).trans hB6⟩

end Go.Proofs.YtnbgpopjnpdmgaaGreat
