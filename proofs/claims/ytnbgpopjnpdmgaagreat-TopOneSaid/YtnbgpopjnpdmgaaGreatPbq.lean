/-
  DERIVED. AwakeT.
-/
import Derived.Test.YtnbgpopjnpdmgaaGreatPbm
import Derived.Test.YtnbgpopjnpdmgaaGreatPat
set_option linter.unusedVariables false
set_option linter.unusedSimpArgs false

namespace Go.Proofs.YtnbgpopjnpdmgaaGreat
open Go Go.RowKit Go.Shelf

theorem load36g {W : World} {B : Nat} {cs : List Value} {t : TypeId} (h : W.heap[B]? = some (.cells cs.toArray t (0, 0))) (hk : cs.length = 20) {a : Act} {x : Operand} {dst : Option Tmp} {ty : TypeId} {ps : String} {af : Array Edge} {gd : Option (Nat × Bool)} (hx : a.eval x = .pointer (some ⟨B, 0, none⟩)) :
    (execOp a.eval (Oper.mk dst (.load 36 x) ty ps af gd)).run Tryz.prog W = .ok (.value (.agg cs.toArray)) W := by
  have hl := run_load_block (P := Tryz.prog) h hk
  have h1 := Tryz.isAgg36
  have h2 := Tryz.sizeOf36
  simp [execOp, hx, Instr.loadAt, Instr.sureAddr, loadVar, loadCells, h1, h2, hl]
def St.smallB (S : St) : Bool := decide (S.slots.length ≤ 1000) && (decide (S.sends.length ≤ 1000) && (decide (S.recvs.length ≤ 1000) && (decide (S.fl.length ≤ 1000) && (decide (S.el.length ≤ 1000) && (decide (S.ths.length ≤ 1000) && decide (S.log.length ≤ 1000))))))
theorem smallB_iff {S : St} (h : S.smallB = true) : S.small := by
  simpa [St.smallB, St.small] using h
def St.goodR (S : St) (l : List Int) (k : Nat) : Bool := (List.range (k + 1)).all fun i => decide (0 < (S.roundN l i).ths.length) && ((S.roundN l i).quiet == decide (i = k)) && (List.range (l.length + 1)).all fun j => ((S.roundN l i).someN (l.take j)).smallB
theorem rounds_good (S : St) (L : Lay) (l : List Int) (k : Nat) (w : World) (hl0 : l = allN S.ths.length) (hk : k < 200) (h0 : S.smallB = true) (h : S.goodR l k = true) (hH : Holds w S L) :
    Calls Tryz.prog 11 #[S.val L, .int .i64 200] w fun e w' => ∃ L' : Lay, e = .returned (.tuple #[(S.roundN l k).val L', .int .i64 k]) ∧ Owns w' w.heap.size (S.roundN l k) L' ∧ Below w.heap.size w w' := by
  simp only [St.goodR, List.all_eq_true, List.mem_range, Bool.and_eq_true, decide_eq_true_eq, beq_iff_eq] at h
  refine rounds_at S L l k w hl0 hk (smallB_iff h0) (fun i hi j hj => smallB_iff ((h i (by omega)).2 j (by omega))) (fun i hi => (h i (by omega)).1.1) (fun i hi => ?_) ?_ hH
  · rw [(h i (by omega)).1.2]
    simp
    omega
  · rw [(h k (by omega)).1.2]
    simp
abbrev c0 : Cfg := ⟨1, 2, 0, 3, 0, 0, false⟩
def aw1 : St := ((newSt c0).invoke 0 4 0 0).1
abbrev aw2 : St := aw1.roundN (allN 2) 6
def aw3 : St := (aw2.invoke 1 1 7 0).1
abbrev aw4 : St := aw3.roundN (allN 2) 11

set_option maxRecDepth 100000 in
set_option maxHeartbeats 16000000 in
theorem awake_core (S0 S1 S2 S3 S4 : St) (t0 t1 : Th) (w : World) (h0 : newSt c0 = S0) (s0 : S0.small) (i1 : S0.invoke 0 4 0 0 = (S1, 0)) (R1 : ∀ L W, Holds W S1 L → Calls Tryz.prog 11 #[S1.val L, .int .i64 200] W fun e w' => ∃ L' : Lay, e = .returned (.tuple #[S2.val L', .int .i64 6]) ∧ Owns w' W.heap.size S2 L' ∧ Below W.heap.size W w') (s2 : S2.small) (i2 : S2.invoke 1 1 7 0 = (S3, 0)) (R2 : ∀ L W, Holds W S3 L → Calls Tryz.prog 11 #[S3.val L, .int .i64 200] W fun e w' => ∃ L' : Lay, e = .returned (.tuple #[S4.val L', .int .i64 11]) ∧ Owns w' W.heap.size S4 L' ∧ Below W.heap.size W w') (s4 : S4.small) (hlen : S4.ths.length = 2) (g0 : S4.ths[0]? = some t0) (g1 : S4.ths[1]? = some t1) (q1 : t0.got = 7) (q2 : t0.result = 1) (q3 : t1.result = 1) (hq : S4.quiet = true) (hok : S4.ok = true) (hn : ∀ t ∈ S4.ths, t.status ≠ 2) :
    Calls Tryz.prog 4 #[] w fun e w' => e = .returned (.bool true) ∧ Below w.heap.size w w' := by
  go_enter Tryz.func4, Tryz.ntmps4
  go_wp2_with (first
      | (go_at_call 6; (with_reducible refine (new_yes c0 _ (by decide)).mono ?_); rw [h0]; rintro e w1 ⟨L1, rfl, ho, hb⟩; have hB1 := hb; have kz := World.alloc_heap_new w1 (.cells #[.int .i64 0, .int .i64 0, .int .i64 0, .int .i64 0, .int .i64 0, .int .i64 0, .bool false, .int .i64 0, .int .i64 0, .int .i64 0, .slice none 0 0, .slice none 0 0, .slice none 0 0, .int .i64 0, .slice none 0 0, .int .i64 0, .slice none 0 0, .int .i64 0, .slice none 0 0, .slice none 0 0] 36); obtain ⟨v1, hst1, kb, hBz, hothz⟩ := run_store_block (P := Tryz.prog) (base := w1.heap.size) (cs := (S0.cells L1).toList) kz rfl (st_one S0 L1) (Nat.le_refl _); have hbv : Below w1.heap.size w1 v1 := (below_one w1 _).trans hBz; have hsz1 := hb.size; replace ho := ho.kept hbv; have hB := hB1.trans (hbv.mono hsz1); have hlb := blk_lt kb)
      | ((with_reducible refine wpList_val (load36 kb ?_ ?_) ?_); (focus rfl); (focus rfl))
      | ((with_reducible refine wpList_val (load36 kb2 ?_ ?_) ?_); (focus rfl); (focus rfl))
      | ((with_reducible refine wpList_val (load36 kb3 ?_ ?_) ?_); (focus rfl); (focus rfl))
      | ((with_reducible refine wpList_val (load36 kb4 ?_ ?_) ?_); (focus rfl); (focus rfl))
      | (go_at_call 10; (with_reducible refine (invoke_any S0 L1 0 4 0 0 _ s0 ho.holds).mono ?_); rw [i1]; rintro e w2 ⟨L2, rfl, ho2, hb2⟩; have kx2 := kept kb hb2; have hBx2 := hB.trans (hb2.mono hB.size); have hsz2 := hBx2.size; have hsy2 := hB.size; obtain ⟨v2, hst2, kb2, hBv2, hov2⟩ := run_store_block (P := Tryz.prog) (base := w1.heap.size) (cs := (S1.cells L2).toList) kx2 rfl (st_one S1 L2) (Nat.le_refl _); replace ho2 := (ho2.mono (base' := w.heap.size) (by omega)).put kx2 okSt hov2; have hB12 := hBx2.trans (hBv2.mono hsz1))
      | (go_at_call 11; (with_reducible refine (R1 L2 _ ho2.holds).mono ?_); rintro e w3 ⟨L3, rfl, ho3, hb3⟩; have kx3 := kept kb2 hb3; have hBx3 := hB12.trans (hb3.mono hB12.size); have hsz3 := hBx3.size; have hsy3 := hB12.size; obtain ⟨v3, hst3, kb3, hBv3, hov3⟩ := run_store_block (P := Tryz.prog) (base := w1.heap.size) (cs := (S2.cells L3).toList) kx3 rfl (st_one S2 L3) (Nat.le_refl _); replace ho3 := (ho3.mono (base' := w.heap.size) (by omega)).put kx3 okSt hov3; have hB13 := hBx3.trans (hBv3.mono hsz1))
      | (go_at_call 10; (with_reducible refine (invoke_any S2 L3 1 1 7 0 _ s2 ho3.holds).mono ?_); rw [i2]; rintro e w4 ⟨L4, rfl, ho4, hb4⟩; have kx4 := kept kb3 hb4; have hBx4 := hB13.trans (hb4.mono hB13.size); have hsz4 := hBx4.size; have hsy4 := hB13.size; obtain ⟨v4, hst4, kb4, hBv4, hov4⟩ := run_store_block (P := Tryz.prog) (base := w1.heap.size) (cs := (S3.cells L4).toList) kx4 rfl (st_one S3 L4) (Nat.le_refl _); replace ho4 := (ho4.mono (base' := w.heap.size) (by omega)).put kx4 okSt hov4; have hB14 := hBx4.trans (hBv4.mono hsz1))
      | (go_at_call 11; (with_reducible refine (R2 L4 _ ho4.holds).mono ?_); rintro e w5 ⟨L5, rfl, ho5, hb5⟩; have kx5 := kept kb4 hb5; have hBx5 := hB14.trans (hb5.mono hB14.size); have hsz5 := hBx5.size; have hsy5 := hB14.size; obtain ⟨v5, hst5, kb5, hBv5, hov5⟩ := run_store_block (P := Tryz.prog) (base := w1.heap.size) (cs := (S4.cells L5).toList) kx5 rfl (st_one S4 L5) (Nat.le_refl _); replace ho5 := (ho5.mono (base' := w.heap.size) (by omega)).put kx5 okSt hov5; have hB15 := hBx5.trans (hBv5.mono hsz1); obtain ⟨gb, h6, -⟩ := ho5.m6.some_ (by omega); have hm6 := ho5.m6; rw [h6] at hm6; have c18 : v5.cell? ⟨w1.heap.size, 18, none⟩ = some (.slice (some ⟨gb, 0, none⟩) S4.ths.length L5.c6) := (by rw [(of_block kb5 18).1]; simp [h6]); have f10 := (hm6.cellAt (flat_at (f := Th.list) (k := 11) (fun _ => rfl) g0 (j := 10) rfl)).1; have f9 := (hm6.cellAt (flat_at (f := Th.list) (k := 11) (fun _ => rfl) g0 (j := 9) rfl)).1; have f19 := (hm6.cellAt (flat_at (f := Th.list) (k := 11) (fun _ => rfl) g1 (j := 9) rfl)).1; rw [q1] at f10; rw [q2] at f9; rw [q3] at f19; have hl0 : 0 < S4.ths.length := (by omega); have hl1 : 1 < S4.ths.length := (by omega); have hne : ((S4.ths.length : Int) != 2) = false := (by simp [hlen]); have HL := Lib.hid hlen; clear hlen h6 g0 g1 q1 q2 q3)
      | ((with_reducible refine wpList_valg rfl ?_ (load36g kb5 ?_ ?_) ?_); (focus rfl); (focus rfl); (focus rfl))
      | (go_at_call 12; (with_reducible refine (quiet_any S4 L5 _ s4 ho5.holds hl0).mono ?_); rw [hq]; rintro e w6 ⟨rfl, hb6⟩; have kb6 := kept kb5 hb6; have ho6 := ho5.kept hb6; have hB16 := hB15.trans (hb6.mono hB15.size))
      | ((with_reducible refine wpList_valg rfl ?_ (load36g kb6 ?_ ?_) ?_); (focus rfl); (focus rfl); (focus rfl))
      | (go_at_call 13; (with_reducible refine (safe_any S4 L5 _ s4 ho6.holds hok hn).mono ?_); rintro e w7 ⟨rfl, hb7⟩; have hB17 := hB16.trans (hb7.mono hB16.size))
      | ((with_reducible refine wpList_skip (store36 hst1 ?_ ?_ ?_) ?_); (focus rfl); (focus rfl); (focus rfl))
      | ((with_reducible refine wpList_skip (store36 hst2 ?_ ?_ ?_) ?_); (focus rfl); (focus rfl); (focus rfl))
      | ((with_reducible refine wpList_skip (store36 hst3 ?_ ?_ ?_) ?_); (focus rfl); (focus rfl); (focus rfl))
      | ((with_reducible refine wpList_skip (store36 hst4 ?_ ?_ ?_) ?_); (focus rfl); (focus rfl); (focus rfl))
      | ((with_reducible refine wpList_skip (store36 hst5 ?_ ?_ ?_) ?_); (focus rfl); (focus rfl); (focus rfl)))
  go_ret
  exact ⟨rfl, hB17⟩

set_option maxRecDepth 100000 in
theorem awake_all (w : World) : Calls Tryz.prog 4 #[] w fun e w' => e = .returned (.bool true) ∧ Below w.heap.size w w' := by
  obtain ⟨t0, g0⟩ : ∃ t, aw4.ths[0]? = some t := Option.isSome_iff_exists.1 (by kernel_rfl)
  obtain ⟨t1, g1⟩ : ∃ t, aw4.ths[1]? = some t := Option.isSome_iff_exists.1 (by kernel_rfl)
  have q1 : (aw4.ths[0]?).map (·.got) = some 7 := by kernel_rfl
  have q2 : (aw4.ths[0]?).map (·.result) = some 1 := by kernel_rfl
  have q3 : (aw4.ths[1]?).map (·.result) = some 1 := by kernel_rfl
  rw [g0] at q1 q2
  rw [g1] at q3
  simp only [Option.map_some, Option.some.injEq] at q1 q2 q3
  have hst : aw4.ths.all (fun t => t.status != 2) = true := by kernel_rfl
  refine awake_core (newSt c0) aw1 aw2 aw3 aw4 t0 t1 w rfl (smallB_iff (by kernel_rfl)) (by kernel_rfl) ?_ (smallB_iff (by kernel_rfl)) (by kernel_rfl) ?_ (smallB_iff (by kernel_rfl)) (by kernel_rfl) g0 g1 q1 q2 q3 (by kernel_rfl) (by kernel_rfl) ?_
  · intro L W hH
    exact rounds_good aw1 L (allN 2) 6 W (by kernel_rfl) (by decide) (by kernel_rfl) (by kernel_rfl) hH
  · intro L W hH
    exact rounds_good aw3 L (allN 2) 11 W (by kernel_rfl) (by decide) (by kernel_rfl) (by kernel_rfl) hH
  · intro t ht
    have := List.all_eq_true.1 hst t ht
    simpa using this

end Go.Proofs.YtnbgpopjnpdmgaaGreat
