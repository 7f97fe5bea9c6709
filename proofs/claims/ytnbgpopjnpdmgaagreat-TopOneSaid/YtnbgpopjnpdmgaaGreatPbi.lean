/-
  DERIVED. Pick.
-/
import Derived.Test.YtnbgpopjnpdmgaaGreatPbh
set_option linter.unusedVariables false
set_option linter.unusedSimpArgs false

namespace Go.Proofs.YtnbgpopjnpdmgaaGreat
open Go Go.RowKit Go.Shelf

def St.stepOf (S : St) (sd id : Int) : St := if sd = 1 then S.sendStep id else if sd = 2 then S.recvStep id else S.closeStep id
/-- A pick. -/
def St.pick (S : St) (id : Int) : St × Int :=
  if S.ok = false then (S, 20) else if id < 0 ∨ S.ths.length ≤ id then (S, 123) else match S.ths[id.toNat]? with
  | none => (S, 0)
  | some t => if t.runs ≠ 0 then (S, t.runs) else (S.stepOf (sideOf t.kind) id, 0)
theorem lookup_run {P : Program} {w : World} (m x : Operand) (t : TypeId) (k e : TypeId) (q : IntKind) (ht : P.underlying t = some (.map k e)) (hk : P.underlying k = some (.int q)) {a : Act} {dst : Option Tmp} {ty : TypeId} {ps : String} {af : Array Edge}
    (b : Nat) (hm : a.eval m = .map (some b)) (n : Int) (hx : a.eval x = .int q n) (es : Array MapEntry) (clock : Nat) (hb : w.heap[b]? = some (.map es clock)) (i : Nat) (v : Value)
    (hf : Instr.findNow (.int q) (.int q n) es.toList 0 = some (some (i, v))) : (execOp a.eval (Oper.mk dst (.lookup t m x false) ty ps af none)).run P w = .ok (.value v) w := by
  simp [execOp, hm, hx, Instr.lookup, run_underlying ht, MapKept.run_getObj_map hb, MapKept.run_checkKey (k := .int q n) hk rfl, MapKept.run_findKey hk hf, Result.andThen]
theorem field_run {W : World} {v : Value} {a : Act} {x : Operand} {dst : Option Tmp} {ty : TypeId} {ps : String} {af : Array Edge} (hx : a.eval x = .agg #[v]) :
    (execOp a.eval (Oper.mk dst (.field 118 x 0) ty ps af none)).run Tryz.prog W = .ok (.value v) W := by
  have h1 := Tryz.runUnderlying118
  have h2 := Tryz.isAgg57
  simp [execOp, hx, Instr.field, h1, h2, part, asAgg]
def sEs : Array MapEntry := #[⟨.int .i64 1, (.agg #[.func (.func 86) #[] #[]]), 0⟩, ⟨.int .i64 2, (.agg #[.func (.func 87) #[] #[]]), 1⟩, ⟨.int .i64 3, (.agg #[.func (.func 88) #[] #[]]), 2⟩]

set_option maxRecDepth 100000 in
set_option maxHeartbeats 4000000 in
theorem sides_any (w : World) :
    Calls Tryz.prog 74 #[] w fun e w' => ∃ mb, e = .returned (.map (some mb)) ∧ w'.heap[mb]? = some (.map sEs 3) ∧ Below w.heap.size w w' := by
  have h0 := World.alloc_heap_new w (.map #[] 0)
  have hB0 := below_one w (.map #[] 0)
  have hmm := @run_makeMap Tryz.prog
  go_enter Tryz.func74, Tryz.ntmps74
  go_wp2_with (first
      | (refine wpList_insert_at rfl (.tmp 1) (.const (.int .i64 1)) (.tmp 2) 119 rfl 3 118 .i64 Tryz.underlying119 Tryz.underlying3 w.heap.size rfl 1 rfl _ rfl #[] 0 h0 rfl ?_; intro v1 h1 g1 z1; have hB1 := hB0.trans (g1.mono (by omega)); clear h0 g1 z1 hB0)
      | (refine wpList_insert_at rfl (.tmp 1) (.const (.int .i64 2)) (.tmp 3) 119 rfl 3 118 .i64 Tryz.underlying119 Tryz.underlying3 w.heap.size rfl 2 rfl _ rfl #[⟨.int .i64 1, (.agg #[.func (.func 86) #[] #[]]), 0⟩] 1 h1 rfl ?_; intro v2 h2 g2 z2; have hB2 := hB1.trans (g2.mono (by omega)); clear h1 g2 z2 hB1)
      | (refine wpList_insert_at rfl (.tmp 1) (.const (.int .i64 3)) (.tmp 4) 119 rfl 3 118 .i64 Tryz.underlying119 Tryz.underlying3 w.heap.size rfl 3 rfl _ rfl #[⟨.int .i64 1, (.agg #[.func (.func 86) #[] #[]]), 0⟩, ⟨.int .i64 2, (.agg #[.func (.func 87) #[] #[]]), 1⟩] 2 h2 rfl ?_; intro v3 h3 g3 z3; have hB3 := hB2.trans (g3.mono (by omega)); clear h2 g3 z3 hB2))
  go_ret
  exact ⟨_, rfl, h3, hB3⟩

set_option maxRecDepth 100000 in
set_option maxHeartbeats 4000000 in
theorem stay_any (S : St) (L : Lay) (B : Nat) (e0 : Int) (w : World) (hsm : S.small) (hH : Holds w S L) (hk : w.heap[B]? = some (.cells (S.cells L) 36 (0, 0))) :
    Calls Tryz.prog 73 #[.int .i64 e0, .pointer (some ⟨B, 0, none⟩)] w fun e w' => ∃ L', e = .returned (.tuple #[(S).val L', .int .i64 (e0)]) ∧ Owns w' w.heap.size (S) L' ∧ Below w.heap.size w w' := by
  have WK := fun W (hW : Below w.heap.size w W) => wake_any S L (-1) W hsm (hH.on hW)
  rw [wake_none] at WK
  have k1 := World.alloc_heap_new w (.cells #[.int .i64 0, .int .i64 0, .int .i64 0, .int .i64 0, .int .i64 0, .int .i64 0, .bool false, .int .i64 0, .int .i64 0, .int .i64 0, .slice none 0 0, .slice none 0 0, .slice none 0 0, .int .i64 0, .slice none 0 0, .int .i64 0, .slice none 0 0, .int .i64 0, .slice none 0 0, .slice none 0 0] 36)
  have hB1 := below_one w (.cells #[.int .i64 0, .int .i64 0, .int .i64 0, .int .i64 0, .int .i64 0, .int .i64 0, .bool false, .int .i64 0, .int .i64 0, .int .i64 0, .slice none 0 0, .slice none 0 0, .slice none 0 0, .int .i64 0, .slice none 0 0, .int .i64 0, .slice none 0 0, .int .i64 0, .slice none 0 0, .slice none 0 0] 36)
  have k0 := keep_alloc hk (.cells #[.int .i64 0, .int .i64 0, .int .i64 0, .int .i64 0, .int .i64 0, .int .i64 0, .bool false, .int .i64 0, .int .i64 0, .int .i64 0, .slice none 0 0, .slice none 0 0, .slice none 0 0, .int .i64 0, .slice none 0 0, .int .i64 0, .slice none 0 0, .int .i64 0, .slice none 0 0, .slice none 0 0] 36)
  clear hk
  go_enter Tryz.func73, Tryz.ntmps73
  go_wp2_with (first
      | ((with_reducible refine wpList_val (load36 k0 ?_ ?_) ?_); (focus rfl); (focus rfl))
      | (go_at_call 18; (with_reducible refine (WK _ hB1).mono ?_); rintro e w1 ⟨L1, rfl, ho, hb⟩; replace k1 := kept k1 hb; have hB2 := hB1.trans (hb.mono hB1.size); obtain ⟨v2, hst2, kr, hB3, hoth⟩ := run_store_block (P := Tryz.prog) (base := w.heap.size) (cs := (S.cells L1).toList) k1 rfl (st_one S L1) (Nat.le_refl _))
      | ((with_reducible refine wpList_skip (store36 hst2 ?_ ?_ ?_) ?_); (focus rfl); (focus rfl); (focus rfl)))
  refine bodyPost_ret (results36_2 kr rfl rfl rfl) rfl ⟨L1, rfl, (ho.same (B := w.heap.size) (by simp) hoth).mono (by simp), hB2.trans hB3⟩

set_option maxRecDepth 100000 in
set_option maxHeartbeats 8000000 in
theorem pick_bad (S : St) (L : Lay) (id : Int) (w : World) (hsm : S.small) (hH : Holds w S L) (h : S.ok = false) :
    Calls Tryz.prog 55 #[S.val L, .int .i64 id] w fun e w' => ∃ L', e = .returned (.tuple #[(S).val L', .int .i64 (20)]) ∧ Owns w' w.heap.size (S) L' ∧ Below w.heap.size w w' := by
  have K := fun W (hW : Below w.heap.size w W) => check_state S L W hsm (hH.on hW)
  obtain ⟨k0, k1, hB0⟩ := two_new w (.cells (S.cells L) 36) (.cells #[.int .i64 0, .int .i64 0, .int .i64 0, .int .i64 0, .int .i64 0, .int .i64 0, .bool false, .int .i64 0, .int .i64 0, .int .i64 0, .slice none 0 0, .slice none 0 0, .slice none 0 0, .int .i64 0, .slice none 0 0, .int .i64 0, .slice none 0 0, .int .i64 0, .slice none 0 0, .slice none 0 0] 36)
  have hl6 := hsm.2.2.2.2.2.1
  rw [h] at K
  clear h
  go_enter Tryz.func55, Tryz.ntmps55
  go_wp2_with (first
      | ((with_reducible refine wpList_val (load36 k0 ?_ ?_) ?_); (focus rfl); (focus rfl))
      | (go_at_call 22; (with_reducible refine (K _ hB0).mono ?_); rintro e w1 ⟨rfl, hb⟩; replace hb := hb; have hB := hB0.trans (hb.mono hB0.size); replace k0 := kept k0 hb; replace k1 := kept k1 hb)
      | (go_at_call 73; (with_reducible refine (stay_any S L w.heap.size 20 _ hsm (hH.on hB) k0).mono ?_); rintro e w5 ⟨L1, rfl, ho, hb5⟩; have hz1 := blk_lt k1; replace k1 := kept k1 hb5; have hsz := hB.size; replace hB := hB.trans (hb5.mono hB.size); obtain ⟨v2, hst2, kr, hB3, hoth⟩ := run_store_block (P := Tryz.prog) (base := w.heap.size) (cs := (S.cells L1).toList) k1 rfl (st_one S L1) (by omega))
      | ((with_reducible refine wpList_skip (store36 hst2 ?_ ?_ ?_) ?_); (focus rfl); (focus rfl); (focus rfl)))
  refine bodyPost_ret (results36_2 kr rfl rfl rfl) rfl ⟨L1, rfl, (ho.same (B := w.heap.size + 1) (by omega) hoth).mono (by omega), hB.trans hB3⟩

set_option maxRecDepth 100000 in
set_option maxHeartbeats 8000000 in
theorem pick_none (S : St) (L : Lay) (id : Int) (w : World) (hsm : S.small) (hH : Holds w S L) (h : S.ok = true) (h2 : id < 0 ∨ (0 ≤ id ∧ S.ths.length ≤ id)) :
    Calls Tryz.prog 55 #[S.val L, .int .i64 id] w fun e w' => ∃ L', e = .returned (.tuple #[(S).val L', .int .i64 (123)]) ∧ Owns w' w.heap.size (S) L' ∧ Below w.heap.size w w' := by
  have K := fun W (hW : Below w.heap.size w W) => check_state S L W hsm (hH.on hW)
  obtain ⟨k0, k1, hB0⟩ := two_new w (.cells (S.cells L) 36) (.cells #[.int .i64 0, .int .i64 0, .int .i64 0, .int .i64 0, .int .i64 0, .int .i64 0, .bool false, .int .i64 0, .int .i64 0, .int .i64 0, .slice none 0 0, .slice none 0 0, .slice none 0 0, .int .i64 0, .slice none 0 0, .int .i64 0, .slice none 0 0, .int .i64 0, .slice none 0 0, .slice none 0 0] 36)
  have hl6 := hsm.2.2.2.2.2.1
  rw [h] at K
  clear h
  go_enter Tryz.func55, Tryz.ntmps55
  rcases h2 with h2 | ⟨h2, h3⟩
  all_goals
    go_wp2_with (first
        | ((with_reducible refine wpList_val (load36 k0 ?_ ?_) ?_); (focus rfl); (focus rfl))
        | (go_at_call 22; (with_reducible refine (K _ hB0).mono ?_); rintro e w1 ⟨rfl, hb⟩; replace hb := hb; have hB := hB0.trans (hb.mono hB0.size); replace k0 := kept k0 hb; replace k1 := kept k1 hb; have c18 : w1.cell? ⟨w.heap.size, 18, none⟩ = some (.slice L.a6 S.ths.length L.c6) := (by rw [(of_block k0 18).1]; simp))
        | (go_at_call 73; (with_reducible refine (stay_any S L w.heap.size 123 _ hsm (hH.on hB) k0).mono ?_); rintro e w5 ⟨L1, rfl, ho, hb5⟩; have hz1 := blk_lt k1; replace k1 := kept k1 hb5; have hsz := hB.size; replace hB := hB.trans (hb5.mono hB.size); obtain ⟨v2, hst2, kr, hB3, hoth⟩ := run_store_block (P := Tryz.prog) (base := w.heap.size) (cs := (S.cells L1).toList) k1 rfl (st_one S L1) (by omega))
        | ((with_reducible refine wpList_skip (store36 hst2 ?_ ?_ ?_) ?_); (focus rfl); (focus rfl); (focus rfl)))
    refine bodyPost_ret (results36_2 kr rfl rfl rfl) rfl ⟨L1, rfl, (ho.same (B := w.heap.size + 1) (by omega) hoth).mono (by omega), hB.trans hB3⟩

set_option maxRecDepth 100000 in
set_option maxHeartbeats 8000000 in
theorem pick_idle (S : St) (L : Lay) (k : Nat) (t : Th) (w : World) (hsm : S.small) (hH : Holds w S L) (ho0 : S.ok = true) (ht : S.ths[k]? = some t) (h : t.runs ≠ 0) :
    Calls Tryz.prog 55 #[S.val L, .int .i64 k] w fun e w' => ∃ L', e = .returned (.tuple #[(S).val L', .int .i64 (t.runs)]) ∧ Owns w' w.heap.size (S) L' ∧ Below w.heap.size w w' := by
  have K := fun W (hW : Below w.heap.size w W) => check_state S L W hsm (hH.on hW)
  obtain ⟨k0, k1, hB0⟩ := two_new w (.cells (S.cells L) 36) (.cells #[.int .i64 0, .int .i64 0, .int .i64 0, .int .i64 0, .int .i64 0, .int .i64 0, .bool false, .int .i64 0, .int .i64 0, .int .i64 0, .slice none 0 0, .slice none 0 0, .slice none 0 0, .int .i64 0, .slice none 0 0, .int .i64 0, .slice none 0 0, .int .i64 0, .slice none 0 0, .slice none 0 0] 36)
  have hl6 := hsm.2.2.2.2.2.1
  obtain ⟨g, off, hA, hg, hcs0⟩ := hH.thread ht
  have HA := Lib.hid hA
  have hk := (List.getElem?_eq_some_iff.1 ht).1
  have RN := fun W => th_runs t W
  rw [ho0] at K
  clear hA ht ho0
  generalize hr : t.runs = r at *
  have h1 : (r != 0) = true := by simpa using h
  go_enter Tryz.func55, Tryz.ntmps55
  go_wp2_with (first
      | ((with_reducible refine wpList_val (load36 k0 ?_ ?_) ?_); (focus rfl); (focus rfl))
      | (go_at_call 22; (with_reducible refine (K _ hB0).mono ?_); rintro e w1 ⟨rfl, hb⟩; replace hb := hb; have hB := hB0.trans (hb.mono hB0.size); replace k0 := kept k0 hb; replace k1 := kept k1 hb; have c18 : w1.cell? ⟨w.heap.size, 18, none⟩ = some (.slice (some ⟨g, off, none⟩) S.ths.length L.c6) := (by rw [(of_block k0 18).1]; simp [HA.out]); have hcs := fun j v h => keep_c (hcs0 j v h) hB)
      | ((with_reducible refine wpList_valg rfl ?_ (loadTh hcs ?_) ?_); (focus rfl); (focus rfl))
      | (go_at_call 56; (with_reducible refine (RN _).mono ?_); rintro e w2 ⟨rfl, hb2⟩; have kt := kept (World.alloc_heap_new w1 (.cells t.cells 51)) hb2; have hb3 : Below w1.heap.size w1 w2 := (below_one w1 (.cells t.cells 51)).trans (hb2.mono (by simp)); replace k0 := kept k0 hb3; replace k1 := kept k1 hb3; replace hB := hB.trans (hb3.mono hB.size))
      | (go_at_call 73; (with_reducible refine (stay_any S L w.heap.size r _ hsm (hH.on hB) k0).mono ?_); rintro e w5 ⟨L1, rfl, ho, hb5⟩; have hz1 := blk_lt k1; replace k1 := kept k1 hb5; have hsz := hB.size; replace hB := hB.trans (hb5.mono hB.size); obtain ⟨v2, hst2, kr, hB3, hoth⟩ := run_store_block (P := Tryz.prog) (base := w.heap.size) (cs := (S.cells L1).toList) k1 rfl (st_one S L1) (by omega))
      | ((with_reducible refine wpList_skip (store36 hst2 ?_ ?_ ?_) ?_); (focus rfl); (focus rfl); (focus rfl)))
  refine bodyPost_ret (results36_2 kr rfl rfl rfl) rfl ⟨L1, rfl, (ho.same (B := w.heap.size + 1) (by omega) hoth).mono (by omega), hB.trans hB3⟩

set_option maxRecDepth 100000 in
set_option maxHeartbeats 8000000 in
theorem pick_go1 (S : St) (L : Lay) (k : Nat) (t : Th) (w : World) (hsm : S.small) (hH : Holds w S L) (ho0 : S.ok = true) (ht : S.ths[k]? = some t) (h : t.runs = 0) (hsd : sideOf t.kind = 1) :
    Calls Tryz.prog 55 #[S.val L, .int .i64 k] w fun e w' => ∃ L', e = .returned (.tuple #[(S.sendStep k).val L', .int .i64 (0)]) ∧ Owns w' w.heap.size (S.sendStep k) L' ∧ Below w.heap.size w w' := by
  have SN := fun W (hW : Below w.heap.size w W) => sendStep_any S L k W hsm (hH.on hW)
  generalize S.sendStep k = S2 at *
  have K := fun W (hW : Below w.heap.size w W) => check_state S L W hsm (hH.on hW)
  obtain ⟨k0, k1, hB0⟩ := two_new w (.cells (S.cells L) 36) (.cells #[.int .i64 0, .int .i64 0, .int .i64 0, .int .i64 0, .int .i64 0, .int .i64 0, .bool false, .int .i64 0, .int .i64 0, .int .i64 0, .slice none 0 0, .slice none 0 0, .slice none 0 0, .int .i64 0, .slice none 0 0, .int .i64 0, .slice none 0 0, .int .i64 0, .slice none 0 0, .slice none 0 0] 36)
  have hl6 := hsm.2.2.2.2.2.1
  obtain ⟨g, off, hA, hg, hcs0⟩ := hH.thread ht
  have HA := Lib.hid hA
  have hk := (List.getElem?_eq_some_iff.1 ht).1
  have RN := fun W => th_runs t W
  rw [ho0] at K
  clear hA ht ho0
  rw [h] at RN
  go_enter Tryz.func55, Tryz.ntmps55
  go_wp2_with (first
      | ((with_reducible refine wpList_val (load36 k0 ?_ ?_) ?_); (focus rfl); (focus rfl))
      | (go_at_call 22; (with_reducible refine (K _ hB0).mono ?_); rintro e w1 ⟨rfl, hb⟩; replace hb := hb; have hB := hB0.trans (hb.mono hB0.size); replace k0 := kept k0 hb; replace k1 := kept k1 hb; have c18 : w1.cell? ⟨w.heap.size, 18, none⟩ = some (.slice (some ⟨g, off, none⟩) S.ths.length L.c6) := (by rw [(of_block k0 18).1]; simp [HA.out]); have hcs := fun j v h => keep_c (hcs0 j v h) hB)
      | ((with_reducible refine wpList_valg rfl ?_ (loadTh hcs ?_) ?_); (focus rfl); (focus rfl))
      | (go_at_call 56; (with_reducible refine (RN _).mono ?_); rintro e w2 ⟨rfl, hb2⟩; have kt := kept (World.alloc_heap_new w1 (.cells t.cells 51)) hb2; have hb3 : Below w1.heap.size w1 w2 := (below_one w1 (.cells t.cells 51)).trans (hb2.mono (by simp)); replace k0 := kept k0 hb3; replace k1 := kept k1 hb3; replace hB := hB.trans (hb3.mono hB.size)))
  have hS : (Blk w w.heap.size [(w.heap.size, (.cells (S.cells L) 36)), (w.heap.size + 1, (.cells #[.int .i64 0, .int .i64 0, .int .i64 0, .int .i64 0, .int .i64 0, .int .i64 0, .bool false, .int .i64 0, .int .i64 0, .int .i64 0, .slice none 0 0, .slice none 0 0, .slice none 0 0, .int .i64 0, .slice none 0 0, .int .i64 0, .slice none 0 0, .int .i64 0, .slice none 0 0, .slice none 0 0] 36)), (w1.heap.size, (.cells t.cells 51))]) w2.drew := ⟨hB.drew, by
    intro p hp
    simp only [List.mem_cons, List.not_mem_nil, or_false] at hp
    rcases hp with rfl | rfl | rfl
    · exact k0
    · exact k1
    · exact kt, Nat.le_refl _⟩
  clear k0 k1 kt hB hb2 hb3 hcs hcs0
  refine wp_region_tree (Blk w w.heap.size [(w.heap.size, (.cells (S.cells L) 36)), (w.heap.size + 1, (.cells #[.int .i64 0, .int .i64 0, .int .i64 0, .int .i64 0, .int .i64 0, .int .i64 0, .bool false, .int .i64 0, .int .i64 0, .int .i64 0, .slice none 0 0, .slice none 0 0, .slice none 0 0, .int .i64 0, .slice none 0 0, .int .i64 0, .slice none 0 0, .int .i64 0, .slice none 0 0, .slice none 0 0] 36)), (w1.heap.size, (.cells t.cells 51))]) (fun _ => True) 9 (by kernel_rfl)
    (.leaf [(2, 1), (2, 7), (1, 2), (1, 6), (0, 0), (0, 3), (0, 4), (2, 5), (0, 8), (0, 9), (2, 10)])
    (by kernel_rfl) (by kernel_rfl) (by decide) (by kernel_rfl) (fun _ _ d _ _ h => by cases d <;> exact h) ?_
  generalize w2.drew = w3 at *
  refine tree_leaf ?_
  simp only [inOrder2, List.getElem?_cons_succ, List.getElem?_cons_zero, List.nil_append, List.cons_append]
  iterate 2 (((with_reducible refine o3_calmF (v := ?_) (a' := ?_) hS ?_ (fun V => ?_) ?_ ?_); rotate_left 2; (rfl); (first | (go_simp; with_reducible rfl) | (go_simp; refine (if_pos ?_).trans ?_; omega; with_reducible rfl)); (simp only [Act.put, List.setIfInBounds_toArray, List.set_cons_succ, List.set_cons_zero] <;> rfl)))
  ((with_reducible refine o3_pre (v := ?_) (a' := ?_) hS ?_ (fun V hV => ?_) ?_ ?_); rotate_left 2; (rfl); (obtain ⟨-, q1, -⟩ := cells11 (hV.get (B := w1.heap.size) (o := (.cells t.cells 51)) (by simp)); first | (go_simp; with_reducible rfl) | (go_simp; refine (if_pos ?_).trans ?_; omega; with_reducible rfl)); (simp only [Act.put, List.setIfInBounds_toArray, List.set_cons_succ, List.set_cons_zero] <;> rfl))
  ((with_reducible refine o3_pre (v := .agg (S.cells L)) (a' := ?_) hS ?_ (fun V hV => ?_) ?_ ?_); rotate_left; (focus rfl); (focus (exact load36 (cs := (S.cells L).toList) (hV.get (B := w.heap.size) (o := (.cells (S.cells L) 36)) (by simp)) rfl rfl)); (focus (simp only [Act.put, List.setIfInBounds_toArray, List.set_cons_succ, List.set_cons_zero] <;> rfl)))
  refine o3_onlyF rfl rfl ?_
  go_simp
  refine ⟨trivial, rfl, (callsIn_wide.2 (sides_any _)).mono ?_⟩
  rintro e w6 ⟨mb, rfl, hm, hb6⟩
  replace hS := hS.on hb6
  clear hb6
  refine ⟨hS, ?_⟩
  refine o3_onlyF rfl rfl ?_
  go_simp
  refine ⟨trivial, rfl, (callsIn_wide.2 (op_side t.kind _)).mono ?_⟩
  rw [hsd]
  rintro e w7 ⟨rfl, hw⟩
  obtain rfl := hw.symm
  clear hw
  refine ⟨hS, ?_⟩
  refine o3_valF (a' := ?_) rfl rfl (lookup_run (.tmp 46) (.tmp 49) 119 3 118 .i64 Tryz.underlying119 Tryz.underlying3 mb rfl 1 rfl _ 3 hm 0 (.agg #[.func (.func 86) #[] #[]]) rfl) ?_ hS ?_
  rotate_left
  focus (simp only [Act.put, List.setIfInBounds_toArray, List.set_cons_succ, List.set_cons_zero] <;> rfl)
  clear hm
  ((with_reducible refine o3_calmF (v := .func (.func 86) #[] #[]) (a' := ?_) hS ?_ (fun V => ?_) ?_ ?_); rotate_left; (focus rfl); (focus (exact field_run rfl)); (focus (simp only [Act.put, List.setIfInBounds_toArray, List.set_cons_succ, List.set_cons_zero] <;> rfl)))
  refine o3_onlyF rfl rfl ?_
  go_simp
  refine ⟨trivial, rfl, (callsIn_wide.2 (SN _ hS.below)).mono ?_⟩
  rintro e w8 ⟨L1, rfl, ho, hb8⟩
  have hz := blk_lt (hS.get (B := w.heap.size + 1) (o := (.cells #[.int .i64 0, .int .i64 0, .int .i64 0, .int .i64 0, .int .i64 0, .int .i64 0, .bool false, .int .i64 0, .int .i64 0, .int .i64 0, .slice none 0 0, .slice none 0 0, .slice none 0 0, .int .i64 0, .slice none 0 0, .int .i64 0, .slice none 0 0, .int .i64 0, .slice none 0 0, .slice none 0 0] 36)) (by simp))
  replace hS := hS.on hb8
  refine ⟨hS, ?_⟩
  obtain ⟨v2, hst2, kr, hB5, hoth⟩ := run_store_block (P := Tryz.prog) (base := w.heap.size) (cs := (S2.cells L1).toList) (hS.get (B := w.heap.size + 1) (o := (.cells #[.int .i64 0, .int .i64 0, .int .i64 0, .int .i64 0, .int .i64 0, .int .i64 0, .bool false, .int .i64 0, .int .i64 0, .int .i64 0, .slice none 0 0, .slice none 0 0, .slice none 0 0, .int .i64 0, .slice none 0 0, .int .i64 0, .slice none 0 0, .int .i64 0, .slice none 0 0, .slice none 0 0] 36)) (by simp)) rfl (st_one S2 L1) (by omega)
  refine o3_skipS rfl rfl (store36 hst2 rfl rfl rfl) rfl trivial ?_
  ((with_reducible refine o3_calmT (v := ?_) (a' := ?_) trivial ?_ (fun V => ?_) ?_ ?_); rotate_left 2; (rfl); (first | (go_simp; with_reducible rfl) | (go_simp; refine (if_pos ?_).trans ?_; omega; with_reducible rfl)); (simp only [Act.put, List.setIfInBounds_toArray, List.set_cons_succ, List.set_cons_zero] <;> rfl))
  refine tree_end _ ?_
  try simp only [Exit.then]
  go_wp2
  exact bodyPost_ret (results36_2 kr rfl rfl rfl) rfl ⟨L1, rfl, (ho.same (B := w.heap.size + 1) (by omega) hoth).mono (by omega), hS.below.trans hB5⟩

set_option maxRecDepth 100000 in
set_option maxHeartbeats 8000000 in
theorem pick_go2 (S : St) (L : Lay) (k : Nat) (t : Th) (w : World) (hsm : S.small) (hH : Holds w S L) (ho0 : S.ok = true) (ht : S.ths[k]? = some t) (h : t.runs = 0) (hsd : sideOf t.kind = 2) :
    Calls Tryz.prog 55 #[S.val L, .int .i64 k] w fun e w' => ∃ L', e = .returned (.tuple #[(S.recvStep k).val L', .int .i64 (0)]) ∧ Owns w' w.heap.size (S.recvStep k) L' ∧ Below w.heap.size w w' := by
  have SN := fun W (hW : Below w.heap.size w W) => recvStep_any S L k W hsm (hH.on hW)
  generalize S.recvStep k = S2 at *
  have K := fun W (hW : Below w.heap.size w W) => check_state S L W hsm (hH.on hW)
  obtain ⟨k0, k1, hB0⟩ := two_new w (.cells (S.cells L) 36) (.cells #[.int .i64 0, .int .i64 0, .int .i64 0, .int .i64 0, .int .i64 0, .int .i64 0, .bool false, .int .i64 0, .int .i64 0, .int .i64 0, .slice none 0 0, .slice none 0 0, .slice none 0 0, .int .i64 0, .slice none 0 0, .int .i64 0, .slice none 0 0, .int .i64 0, .slice none 0 0, .slice none 0 0] 36)
  have hl6 := hsm.2.2.2.2.2.1
  obtain ⟨g, off, hA, hg, hcs0⟩ := hH.thread ht
  have HA := Lib.hid hA
  have hk := (List.getElem?_eq_some_iff.1 ht).1
  have RN := fun W => th_runs t W
  rw [ho0] at K
  clear hA ht ho0
  rw [h] at RN
  go_enter Tryz.func55, Tryz.ntmps55
  go_wp2_with (first
      | ((with_reducible refine wpList_val (load36 k0 ?_ ?_) ?_); (focus rfl); (focus rfl))
      | (go_at_call 22; (with_reducible refine (K _ hB0).mono ?_); rintro e w1 ⟨rfl, hb⟩; replace hb := hb; have hB := hB0.trans (hb.mono hB0.size); replace k0 := kept k0 hb; replace k1 := kept k1 hb; have c18 : w1.cell? ⟨w.heap.size, 18, none⟩ = some (.slice (some ⟨g, off, none⟩) S.ths.length L.c6) := (by rw [(of_block k0 18).1]; simp [HA.out]); have hcs := fun j v h => keep_c (hcs0 j v h) hB)
      | ((with_reducible refine wpList_valg rfl ?_ (loadTh hcs ?_) ?_); (focus rfl); (focus rfl))
      | (go_at_call 56; (with_reducible refine (RN _).mono ?_); rintro e w2 ⟨rfl, hb2⟩; have kt := kept (World.alloc_heap_new w1 (.cells t.cells 51)) hb2; have hb3 : Below w1.heap.size w1 w2 := (below_one w1 (.cells t.cells 51)).trans (hb2.mono (by simp)); replace k0 := kept k0 hb3; replace k1 := kept k1 hb3; replace hB := hB.trans (hb3.mono hB.size)))
  have hS : (Blk w w.heap.size [(w.heap.size, (.cells (S.cells L) 36)), (w.heap.size + 1, (.cells #[.int .i64 0, .int .i64 0, .int .i64 0, .int .i64 0, .int .i64 0, .int .i64 0, .bool false, .int .i64 0, .int .i64 0, .int .i64 0, .slice none 0 0, .slice none 0 0, .slice none 0 0, .int .i64 0, .slice none 0 0, .int .i64 0, .slice none 0 0, .int .i64 0, .slice none 0 0, .slice none 0 0] 36)), (w1.heap.size, (.cells t.cells 51))]) w2.drew := ⟨hB.drew, by
    intro p hp
    simp only [List.mem_cons, List.not_mem_nil, or_false] at hp
    rcases hp with rfl | rfl | rfl
    · exact k0
    · exact k1
    · exact kt, Nat.le_refl _⟩
  clear k0 k1 kt hB hb2 hb3 hcs hcs0
  refine wp_region_tree (Blk w w.heap.size [(w.heap.size, (.cells (S.cells L) 36)), (w.heap.size + 1, (.cells #[.int .i64 0, .int .i64 0, .int .i64 0, .int .i64 0, .int .i64 0, .int .i64 0, .bool false, .int .i64 0, .int .i64 0, .int .i64 0, .slice none 0 0, .slice none 0 0, .slice none 0 0, .int .i64 0, .slice none 0 0, .int .i64 0, .slice none 0 0, .int .i64 0, .slice none 0 0, .slice none 0 0] 36)), (w1.heap.size, (.cells t.cells 51))]) (fun _ => True) 9 (by kernel_rfl)
    (.leaf [(2, 1), (2, 7), (1, 2), (1, 6), (0, 0), (0, 3), (0, 4), (2, 5), (0, 8), (0, 9), (2, 10)])
    (by kernel_rfl) (by kernel_rfl) (by decide) (by kernel_rfl) (fun _ _ d _ _ h => by cases d <;> exact h) ?_
  generalize w2.drew = w3 at *
  refine tree_leaf ?_
  simp only [inOrder2, List.getElem?_cons_succ, List.getElem?_cons_zero, List.nil_append, List.cons_append]
  iterate 2 (((with_reducible refine o3_calmF (v := ?_) (a' := ?_) hS ?_ (fun V => ?_) ?_ ?_); rotate_left 2; (rfl); (first | (go_simp; with_reducible rfl) | (go_simp; refine (if_pos ?_).trans ?_; omega; with_reducible rfl)); (simp only [Act.put, List.setIfInBounds_toArray, List.set_cons_succ, List.set_cons_zero] <;> rfl)))
  ((with_reducible refine o3_pre (v := ?_) (a' := ?_) hS ?_ (fun V hV => ?_) ?_ ?_); rotate_left 2; (rfl); (obtain ⟨-, q1, -⟩ := cells11 (hV.get (B := w1.heap.size) (o := (.cells t.cells 51)) (by simp)); first | (go_simp; with_reducible rfl) | (go_simp; refine (if_pos ?_).trans ?_; omega; with_reducible rfl)); (simp only [Act.put, List.setIfInBounds_toArray, List.set_cons_succ, List.set_cons_zero] <;> rfl))
  ((with_reducible refine o3_pre (v := .agg (S.cells L)) (a' := ?_) hS ?_ (fun V hV => ?_) ?_ ?_); rotate_left; (focus rfl); (focus (exact load36 (cs := (S.cells L).toList) (hV.get (B := w.heap.size) (o := (.cells (S.cells L) 36)) (by simp)) rfl rfl)); (focus (simp only [Act.put, List.setIfInBounds_toArray, List.set_cons_succ, List.set_cons_zero] <;> rfl)))
  refine o3_onlyF rfl rfl ?_
  go_simp
  refine ⟨trivial, rfl, (callsIn_wide.2 (sides_any _)).mono ?_⟩
  rintro e w6 ⟨mb, rfl, hm, hb6⟩
  replace hS := hS.on hb6
  clear hb6
  refine ⟨hS, ?_⟩
  refine o3_onlyF rfl rfl ?_
  go_simp
  refine ⟨trivial, rfl, (callsIn_wide.2 (op_side t.kind _)).mono ?_⟩
  rw [hsd]
  rintro e w7 ⟨rfl, hw⟩
  obtain rfl := hw.symm
  clear hw
  refine ⟨hS, ?_⟩
  refine o3_valF (a' := ?_) rfl rfl (lookup_run (.tmp 46) (.tmp 49) 119 3 118 .i64 Tryz.underlying119 Tryz.underlying3 mb rfl 2 rfl _ 3 hm 1 (.agg #[.func (.func 87) #[] #[]]) rfl) ?_ hS ?_
  rotate_left
  focus (simp only [Act.put, List.setIfInBounds_toArray, List.set_cons_succ, List.set_cons_zero] <;> rfl)
  clear hm
  ((with_reducible refine o3_calmF (v := .func (.func 87) #[] #[]) (a' := ?_) hS ?_ (fun V => ?_) ?_ ?_); rotate_left; (focus rfl); (focus (exact field_run rfl)); (focus (simp only [Act.put, List.setIfInBounds_toArray, List.set_cons_succ, List.set_cons_zero] <;> rfl)))
  refine o3_onlyF rfl rfl ?_
  go_simp
  refine ⟨trivial, rfl, (callsIn_wide.2 (SN _ hS.below)).mono ?_⟩
  rintro e w8 ⟨L1, rfl, ho, hb8⟩
  have hz := blk_lt (hS.get (B := w.heap.size + 1) (o := (.cells #[.int .i64 0, .int .i64 0, .int .i64 0, .int .i64 0, .int .i64 0, .int .i64 0, .bool false, .int .i64 0, .int .i64 0, .int .i64 0, .slice none 0 0, .slice none 0 0, .slice none 0 0, .int .i64 0, .slice none 0 0, .int .i64 0, .slice none 0 0, .int .i64 0, .slice none 0 0, .slice none 0 0] 36)) (by simp))
  replace hS := hS.on hb8
  refine ⟨hS, ?_⟩
  obtain ⟨v2, hst2, kr, hB5, hoth⟩ := run_store_block (P := Tryz.prog) (base := w.heap.size) (cs := (S2.cells L1).toList) (hS.get (B := w.heap.size + 1) (o := (.cells #[.int .i64 0, .int .i64 0, .int .i64 0, .int .i64 0, .int .i64 0, .int .i64 0, .bool false, .int .i64 0, .int .i64 0, .int .i64 0, .slice none 0 0, .slice none 0 0, .slice none 0 0, .int .i64 0, .slice none 0 0, .int .i64 0, .slice none 0 0, .int .i64 0, .slice none 0 0, .slice none 0 0] 36)) (by simp)) rfl (st_one S2 L1) (by omega)
  refine o3_skipS rfl rfl (store36 hst2 rfl rfl rfl) rfl trivial ?_
  ((with_reducible refine o3_calmT (v := ?_) (a' := ?_) trivial ?_ (fun V => ?_) ?_ ?_); rotate_left 2; (rfl); (first | (go_simp; with_reducible rfl) | (go_simp; refine (if_pos ?_).trans ?_; omega; with_reducible rfl)); (simp only [Act.put, List.setIfInBounds_toArray, List.set_cons_succ, List.set_cons_zero] <;> rfl))
  refine tree_end _ ?_
  try simp only [Exit.then]
  go_wp2
  exact bodyPost_ret (results36_2 kr rfl rfl rfl) rfl ⟨L1, rfl, (ho.same (B := w.heap.size + 1) (by omega) hoth).mono (by omega), hS.below.trans hB5⟩

set_option maxRecDepth 100000 in
set_option maxHeartbeats 8000000 in
theorem pick_go3 (S : St) (L : Lay) (k : Nat) (t : Th) (w : World) (hsm : S.small) (hH : Holds w S L) (ho0 : S.ok = true) (ht : S.ths[k]? = some t) (h : t.runs = 0) (hsd : sideOf t.kind = 3) :
    Calls Tryz.prog 55 #[S.val L, .int .i64 k] w fun e w' => ∃ L', e = .returned (.tuple #[(S.closeStep k).val L', .int .i64 (0)]) ∧ Owns w' w.heap.size (S.closeStep k) L' ∧ Below w.heap.size w w' := by
  have SN := fun W (hW : Below w.heap.size w W) => closeStep_any S L k W hsm (hH.on hW)
  generalize S.closeStep k = S2 at *
  have K := fun W (hW : Below w.heap.size w W) => check_state S L W hsm (hH.on hW)
  obtain ⟨k0, k1, hB0⟩ := two_new w (.cells (S.cells L) 36) (.cells #[.int .i64 0, .int .i64 0, .int .i64 0, .int .i64 0, .int .i64 0, .int .i64 0, .bool false, .int .i64 0, .int .i64 0, .int .i64 0, .slice none 0 0, .slice none 0 0, .slice none 0 0, .int .i64 0, .slice none 0 0, .int .i64 0, .slice none 0 0, .int .i64 0, .slice none 0 0, .slice none 0 0] 36)
  have hl6 := hsm.2.2.2.2.2.1
  obtain ⟨g, off, hA, hg, hcs0⟩ := hH.thread ht
  have HA := Lib.hid hA
  have hk := (List.getElem?_eq_some_iff.1 ht).1
  have RN := fun W => th_runs t W
  rw [ho0] at K
  clear hA ht ho0
  rw [h] at RN
  go_enter Tryz.func55, Tryz.ntmps55
  go_wp2_with (first
      | ((with_reducible refine wpList_val (load36 k0 ?_ ?_) ?_); (focus rfl); (focus rfl))
      | (go_at_call 22; (with_reducible refine (K _ hB0).mono ?_); rintro e w1 ⟨rfl, hb⟩; replace hb := hb; have hB := hB0.trans (hb.mono hB0.size); replace k0 := kept k0 hb; replace k1 := kept k1 hb; have c18 : w1.cell? ⟨w.heap.size, 18, none⟩ = some (.slice (some ⟨g, off, none⟩) S.ths.length L.c6) := (by rw [(of_block k0 18).1]; simp [HA.out]); have hcs := fun j v h => keep_c (hcs0 j v h) hB)
      | ((with_reducible refine wpList_valg rfl ?_ (loadTh hcs ?_) ?_); (focus rfl); (focus rfl))
      | (go_at_call 56; (with_reducible refine (RN _).mono ?_); rintro e w2 ⟨rfl, hb2⟩; have kt := kept (World.alloc_heap_new w1 (.cells t.cells 51)) hb2; have hb3 : Below w1.heap.size w1 w2 := (below_one w1 (.cells t.cells 51)).trans (hb2.mono (by simp)); replace k0 := kept k0 hb3; replace k1 := kept k1 hb3; replace hB := hB.trans (hb3.mono hB.size)))
  have hS : (Blk w w.heap.size [(w.heap.size, (.cells (S.cells L) 36)), (w.heap.size + 1, (.cells #[.int .i64 0, .int .i64 0, .int .i64 0, .int .i64 0, .int .i64 0, .int .i64 0, .bool false, .int .i64 0, .int .i64 0, .int .i64 0, .slice none 0 0, .slice none 0 0, .slice none 0 0, .int .i64 0, .slice none 0 0, .int .i64 0, .slice none 0 0, .int .i64 0, .slice none 0 0, .slice none 0 0] 36)), (w1.heap.size, (.cells t.cells 51))]) w2.drew := ⟨hB.drew, by
    intro p hp
    simp only [List.mem_cons, List.not_mem_nil, or_false] at hp
    rcases hp with rfl | rfl | rfl
    · exact k0
    · exact k1
    · exact kt, Nat.le_refl _⟩
  clear k0 k1 kt hB hb2 hb3 hcs hcs0
  refine wp_region_tree (Blk w w.heap.size [(w.heap.size, (.cells (S.cells L) 36)), (w.heap.size + 1, (.cells #[.int .i64 0, .int .i64 0, .int .i64 0, .int .i64 0, .int .i64 0, .int .i64 0, .bool false, .int .i64 0, .int .i64 0, .int .i64 0, .slice none 0 0, .slice none 0 0, .slice none 0 0, .int .i64 0, .slice none 0 0, .int .i64 0, .slice none 0 0, .int .i64 0, .slice none 0 0, .slice none 0 0] 36)), (w1.heap.size, (.cells t.cells 51))]) (fun _ => True) 9 (by kernel_rfl)
    (.leaf [(2, 1), (2, 7), (1, 2), (1, 6), (0, 0), (0, 3), (0, 4), (2, 5), (0, 8), (0, 9), (2, 10)])
    (by kernel_rfl) (by kernel_rfl) (by decide) (by kernel_rfl) (fun _ _ d _ _ h => by cases d <;> exact h) ?_
  generalize w2.drew = w3 at *
  refine tree_leaf ?_
  simp only [inOrder2, List.getElem?_cons_succ, List.getElem?_cons_zero, List.nil_append, List.cons_append]
  iterate 2 (((with_reducible refine o3_calmF (v := ?_) (a' := ?_) hS ?_ (fun V => ?_) ?_ ?_); rotate_left 2; (rfl); (first | (go_simp; with_reducible rfl) | (go_simp; refine (if_pos ?_).trans ?_; omega; with_reducible rfl)); (simp only [Act.put, List.setIfInBounds_toArray, List.set_cons_succ, List.set_cons_zero] <;> rfl)))
  ((with_reducible refine o3_pre (v := ?_) (a' := ?_) hS ?_ (fun V hV => ?_) ?_ ?_); rotate_left 2; (rfl); (obtain ⟨-, q1, -⟩ := cells11 (hV.get (B := w1.heap.size) (o := (.cells t.cells 51)) (by simp)); first | (go_simp; with_reducible rfl) | (go_simp; refine (if_pos ?_).trans ?_; omega; with_reducible rfl)); (simp only [Act.put, List.setIfInBounds_toArray, List.set_cons_succ, List.set_cons_zero] <;> rfl))
  ((with_reducible refine o3_pre (v := .agg (S.cells L)) (a' := ?_) hS ?_ (fun V hV => ?_) ?_ ?_); rotate_left; (focus rfl); (focus (exact load36 (cs := (S.cells L).toList) (hV.get (B := w.heap.size) (o := (.cells (S.cells L) 36)) (by simp)) rfl rfl)); (focus (simp only [Act.put, List.setIfInBounds_toArray, List.set_cons_succ, List.set_cons_zero] <;> rfl)))
  refine o3_onlyF rfl rfl ?_
  go_simp
  refine ⟨trivial, rfl, (callsIn_wide.2 (sides_any _)).mono ?_⟩
  rintro e w6 ⟨mb, rfl, hm, hb6⟩
  replace hS := hS.on hb6
  clear hb6
  refine ⟨hS, ?_⟩
  refine o3_onlyF rfl rfl ?_
  go_simp
  refine ⟨trivial, rfl, (callsIn_wide.2 (op_side t.kind _)).mono ?_⟩
  rw [hsd]
  rintro e w7 ⟨rfl, hw⟩
  obtain rfl := hw.symm
  clear hw
  refine ⟨hS, ?_⟩
  refine o3_valF (a' := ?_) rfl rfl (lookup_run (.tmp 46) (.tmp 49) 119 3 118 .i64 Tryz.underlying119 Tryz.underlying3 mb rfl 3 rfl _ 3 hm 2 (.agg #[.func (.func 88) #[] #[]]) rfl) ?_ hS ?_
  rotate_left
  focus (simp only [Act.put, List.setIfInBounds_toArray, List.set_cons_succ, List.set_cons_zero] <;> rfl)
  clear hm
  ((with_reducible refine o3_calmF (v := .func (.func 88) #[] #[]) (a' := ?_) hS ?_ (fun V => ?_) ?_ ?_); rotate_left; (focus rfl); (focus (exact field_run rfl)); (focus (simp only [Act.put, List.setIfInBounds_toArray, List.set_cons_succ, List.set_cons_zero] <;> rfl)))
  refine o3_onlyF rfl rfl ?_
  go_simp
  refine ⟨trivial, rfl, (callsIn_wide.2 (SN _ hS.below)).mono ?_⟩
  rintro e w8 ⟨L1, rfl, ho, hb8⟩
  have hz := blk_lt (hS.get (B := w.heap.size + 1) (o := (.cells #[.int .i64 0, .int .i64 0, .int .i64 0, .int .i64 0, .int .i64 0, .int .i64 0, .bool false, .int .i64 0, .int .i64 0, .int .i64 0, .slice none 0 0, .slice none 0 0, .slice none 0 0, .int .i64 0, .slice none 0 0, .int .i64 0, .slice none 0 0, .int .i64 0, .slice none 0 0, .slice none 0 0] 36)) (by simp))
  replace hS := hS.on hb8
  refine ⟨hS, ?_⟩
  obtain ⟨v2, hst2, kr, hB5, hoth⟩ := run_store_block (P := Tryz.prog) (base := w.heap.size) (cs := (S2.cells L1).toList) (hS.get (B := w.heap.size + 1) (o := (.cells #[.int .i64 0, .int .i64 0, .int .i64 0, .int .i64 0, .int .i64 0, .int .i64 0, .bool false, .int .i64 0, .int .i64 0, .int .i64 0, .slice none 0 0, .slice none 0 0, .slice none 0 0, .int .i64 0, .slice none 0 0, .int .i64 0, .slice none 0 0, .int .i64 0, .slice none 0 0, .slice none 0 0] 36)) (by simp)) rfl (st_one S2 L1) (by omega)
  refine o3_skipS rfl rfl (store36 hst2 rfl rfl rfl) rfl trivial ?_
  ((with_reducible refine o3_calmT (v := ?_) (a' := ?_) trivial ?_ (fun V => ?_) ?_ ?_); rotate_left 2; (rfl); (first | (go_simp; with_reducible rfl) | (go_simp; refine (if_pos ?_).trans ?_; omega; with_reducible rfl)); (simp only [Act.put, List.setIfInBounds_toArray, List.set_cons_succ, List.set_cons_zero] <;> rfl))
  refine tree_end _ ?_
  try simp only [Exit.then]
  go_wp2
  exact bodyPost_ret (results36_2 kr rfl rfl rfl) rfl ⟨L1, rfl, (ho.same (B := w.heap.size + 1) (by omega) hoth).mono (by omega), hS.below.trans hB5⟩

theorem runs_side {t : Th} (h : t.ok = true) (hr : t.runs = 0) : sideOf t.kind = 1 ∨ sideOf t.kind = 2 ∨ sideOf t.kind = 3 := by
  simp only [Th.ok, Bool.and_eq_true] at h
  have h2 := h.2.2.1
  have h0 : t.status ≠ 0 := by
    intro e
    simp [Th.runs, e] at hr
  simp only [Th.kindOk, Bool.or_eq_true, Bool.and_eq_true, decide_eq_true_eq] at h2
  have h3 := sideOf_range t.kind
  omega
theorem pick_any (S : St) (L : Lay) (id : Int) (w : World) (hsm : S.small) (hH : Holds w S L) : Calls Tryz.prog 55 #[S.val L, .int .i64 id] w fun e w' => ∃ L', e = .returned (.tuple #[((S.pick id).1).val L', .int .i64 ((S.pick id).2)]) ∧ Owns w' w.heap.size ((S.pick id).1) L' ∧ Below w.heap.size w w' := by
  unfold St.pick
  by_cases h : S.ok = false
  · rw [if_pos h]
    exact pick_bad S L id w hsm hH h
  · rw [if_neg h]
    have hok : S.ok = true := by simpa using h
    by_cases h2 : id < 0 ∨ S.ths.length ≤ id
    · rw [if_pos h2]
      exact pick_none S L id w hsm hH hok (by omega)
    · rw [if_neg h2]
      obtain ⟨k, rfl⟩ : ∃ k : Nat, id = k := ⟨id.toNat, by omega⟩
      have ht := List.getElem?_eq_getElem (l := S.ths) (i := k) (by omega)
      generalize S.ths[k] = t at ht
      have e : ((k : Int)).toNat = k := by simp
      rw [e, ht]
      dsimp only
      by_cases hr : t.runs = 0
      · rw [if_neg (by simpa using hr)]
        rcases runs_side (th_of hok ht) hr with hs | hs | hs
        · rw [hs]; exact pick_go1 S L k t w hsm hH hok ht hr hs
        · rw [hs]; exact pick_go2 S L k t w hsm hH hok ht hr hs
        · rw [hs]; exact pick_go3 S L k t w hsm hH hok ht hr hs
      · rw [if_pos hr]
        exact pick_idle S L k t w hsm hH hok ht hr

end Go.Proofs.YtnbgpopjnpdmgaaGreat
