/-
  DERIVED. Tick1, Tick.
-/
import Derived.Test.YtnbgpopjnpdmgaaGreatPbp
import Derived.Test.YtnbgpopjnpdmgaaGreatPbr
import Derived.Test.YtnbgpopjnpdmgaaGreatPbh
import Derived.Test.YtnbgpopjnpdmgaaGreatPbl
set_option linter.unusedVariables false
set_option linter.unusedSimpArgs false

namespace Go.Proofs.YtnbgpopjnpdmgaaGreat
open Go Go.RowKit Go.Shelf

/-- Block b holds a state; its slices are the call's own; its threads lie in block gb. -/
structure BoxAt (base b gb : Nat) (S : St) (L : Lay) (W : World) : Prop where
  hb : W.heap[b]? = some (.cells (S.cells L) 36 (0, 0))
  ho : Owns W base S L
  le : base ≤ b
  h6 : L.a6 = some ⟨gb, 0, none⟩
theorem okSt : okT 36 := by unfold okT; decide
section
variable {base b gb : Nat} {S : St} {L : Lay} {W V : World}
theorem BoxAt.on (h : BoxAt base b gb S L W) (hb : Below W.heap.size W V) : BoxAt base b gb S L V := ⟨kept h.hb hb, h.ho.kept hb, h.le, h.h6⟩
theorem BoxAt.mine (h : BoxAt base b gb S L W) : Mine W base 51 11 (some ⟨gb, 0, none⟩) L.c6 S.ths.length (Go.Proofs.YtnbgpopjnpdmgaaGreat.ths S.ths) := by have := h.ho.m6; rwa [h.h6] at this
theorem BoxAt.base_le (h : BoxAt base b gb S L W) : base ≤ gb ∧ gb < W.heap.size ∧ b ≠ gb ∧ b < W.heap.size ∧ base ≤ W.heap.size := by
  have h1 := h.mine.base gb 0 none rfl
  have h2 := h.mine.notBlock h.hb okSt.2.2.1 gb 0 none rfl
  have h3 := blk_lt h.hb
  have h4 := h.le
  exact ⟨h1.1, h1.2, fun e => h2 e.symm, h3, by omega⟩
theorem BoxAt.field (h : BoxAt base b gb S L W) {k : Nat} {t : Th} (ht : S.ths[k]? = some t) {j : Nat} {v : Value} (hj : t.list[j]? = some v) : W.cell? ⟨gb, k * 11 + j, none⟩ = some v ∧ W.frozen? ⟨gb, k * 11 + j, none⟩ = false :=
  h.mine.cellAt (flat_at (f := Th.list) (k := 11) (fun _ => rfl) ht hj)
theorem BoxAt.cell (h : BoxAt base b gb S L W) (i : Nat) : W.cell? ⟨b, i, none⟩ = (S.cells L)[i]? ∧ W.frozen? ⟨b, i, none⟩ = false := of_block h.hb i
theorem BoxAt.stored (h : BoxAt base b gb S L W) {k : Nat} {t : Th} (hm : Mine V base 51 11 (some ⟨gb, 0, none⟩) L.c6 S.ths.length (Go.Proofs.YtnbgpopjnpdmgaaGreat.ths (S.ths.set k t))) (hg : W.grownBy V (some gb)) : BoxAt base b gb (S.setTh k t) L V := by
  have hbb := h.base_le
  have hb2 := (hg.block b hbb.2.2.2.1 (by have := hbb.2.2.1; simpa using this)).trans h.hb
  refine ⟨?_, h.ho.setTh hg h.h6 (by rw [h.h6]; exact hm), h.le, h.h6⟩
  have e : (S.setTh k t).cells L = S.cells L := by simp [St.setTh, St.cells]
  rw [e]
  exact hb2
theorem BoxAt.set (h : BoxAt base b gb S L W) {k : Nat} {t t' : Th} (ht : S.ths[k]? = some t) (j : Nat) (v : Value) (hj : j < 11) (hx : t.list.set j v = t'.list) : BoxAt base b gb (S.setTh k t') L (W.setCell ⟨gb, k * 11 + j, none⟩ v) := by
  have hk := (List.getElem?_eq_some_iff.1 ht).1
  have hm := h.mine.set (k * 11 + j) v (by have := ths_len S.ths; omega)
  rw [flat_set (f := Th.list) (k := 11) (fun _ => rfl) ht hj hx] at hm
  exact h.stored hm ⟨rfl, rfl, rfl, by simp, fun i _ hi => Below.heap_setCell W ⟨gb, k * 11 + j, none⟩ v i (by simpa using hi)⟩
theorem BoxAt.box {S' : St} {L' : Lay} (h : BoxAt base b gb S L W) (hb' : V.heap[b]? = some (.cells (S'.cells L') 36 (0, 0))) (hs : ∀ j, j ≠ b → V.heap[j]? = W.heap[j]?) (ho : Owns W base S' L') (e6 : L'.a6 = L.a6) : BoxAt base b gb S' L' V :=
  ⟨hb', ho.put h.hb okSt hs, h.le, e6.trans h.h6⟩
variable {A : Option Addr} {c : Nat} {l : List Int} {ep : Int}
theorem BoxAt.putFull (h : BoxAt base b gb S L W) (m : Mine W base 3 1 A c l.length (ints l)) : BoxAt base b gb { S with fe := ep, fl := l } { L with a4 := A, c4 := c } ((W.setCell ⟨b, 13, none⟩ (.int .i64 ep)).setCell ⟨b, 14, none⟩ (.slice A l.length c)) :=
  h.box (put_cell (i := 14) (put_cell (i := 13) h.hb (.int .i64 ep)) _) (two_cells W b 13 14 _ _) (Owns.of h.ho.m1 h.ho.m2 h.ho.m3 m h.ho.m5 h.ho.m6 h.ho.m7) rfl
theorem BoxAt.putEmpty (h : BoxAt base b gb S L W) (m : Mine W base 3 1 A c l.length (ints l)) : BoxAt base b gb { S with ee := ep, el := l } { L with a5 := A, c5 := c } ((W.setCell ⟨b, 15, none⟩ (.int .i64 ep)).setCell ⟨b, 16, none⟩ (.slice A l.length c)) :=
  h.box (put_cell (i := 16) (put_cell (i := 15) h.hb (.int .i64 ep)) _) (two_cells W b 15 16 _ _) (Owns.of h.ho.m1 h.ho.m2 h.ho.m3 h.ho.m4 m h.ho.m6 h.ho.m7) rfl
end
theorem World.setCell_size' (w : World) (p : Addr) (v : Value) : (w.setCell p v).heap.size = w.heap.size := by simp
/-- Another state lies in the box, not longer. -/
def TickTo (base b : Nat) (S : St) (w' : World) : Prop := ∃ S' L' gb', BoxAt base b gb' S' L' w' ∧ Gr 0 0 S S' ∧ S'.ths.length = S.ths.length
theorem cnl_len (ep : Int) (l : List Int) (id : Int) : (cnlE ep l id).1.length ≤ l.length := by
  unfold cnlE
  split
  · exact Nat.le_refl _
  · show (levL l id).1.length ≤ l.length
    unfold levL
    split
    · exact Nat.le_refl _
    · exact List.length_eraseIdx_le ..

set_option maxRecDepth 100000 in
set_option maxHeartbeats 8000000 in
theorem tick1_any (S : St) (L : Lay) (base b gb k : Nat) (w : World) (hR : BoxAt base b gb S L w) (hk : k < S.ths.length) (hsm : S.small) :
    Calls Tryz.prog 80 #[.int .i64 k, .pointer (some ⟨b, 0, none⟩)] w fun e w' => e = .returned (.tuple #[]) ∧ TickTo base b S w' ∧ (∀ j, j < w.heap.size → j ≠ b → j ≠ gb → w'.heap[j]? = w.heap[j]?) ∧ Below base w w' := by
  obtain ⟨t, ht⟩ : ∃ t, S.ths[k]? = some t := ⟨_, List.getElem?_eq_getElem hk⟩
  have hbb := hR.base_le
  have hlb := hR.le
  have C1 := fun W (hW : BoxAt base b gb (S.setTh k { t with late := true }) L W) => cancel_any S.fe k S.fl L.a4 L.c4 W hsm.2.2.2.1 hW.ho.m4.lies
  have C2 := fun W (hW : Lies W W.heap.size L.a5 (ints S.el)) => cancel_any S.ee k S.el L.a5 L.c5 W hsm.2.2.2.2.1 hW
  have hl1 := cnl_len S.fe S.fl k
  have hl2 := cnl_len S.ee S.el k
  obtain ⟨c18, -⟩ := hR.cell 18
  rw [show (S.cells L)[18]? = some (.slice L.a6 S.ths.length L.c6) from rfl, hR.h6] at c18
  obtain ⟨c8, f8⟩ := hR.field ht (j := 8) rfl
  have hV := hR.set (t' := { t with late := true }) ht 8 (.bool true) (by omega) rfl
  have hBV : Below base w (w.setCell ⟨gb, k * 11 + 8, none⟩ (.bool true)) := (Below.refl base w).setCell (show base ≤ gb by omega) _
  have htV : (S.setTh k { t with late := true }).ths[k]? = some { t with late := true } := setTh_get hk
  have d0 : (w.setCell ⟨gb, k * 11 + 8, none⟩ (.bool true)).cell? ⟨gb, k * 11, none⟩ = some (.int .i64 t.status) := (hV.field htV (j := 0) rfl).1
  obtain ⟨e13, -⟩ := hV.cell 13
  obtain ⟨e14, -⟩ := hV.cell 14
  change _ = some (Value.int .i64 S.fe) at e13
  change _ = some (Value.slice L.a4 S.fl.length L.c4) at e14
  change _ = some (Value.bool t.late) at c8
  have hVV : (w.setCell ⟨gb, k * 11 + 8, none⟩ (.bool true)).heap.size = w.heap.size := by simp
  by_cases h2 : t.status = 2
  · have h2' : (t.status == 2) = true := by simpa using h2
    clear h2
    have hgr := setTh_gr S k { t with late := true }
    have hnl : (S.setTh k { t with late := true }).ths.length = S.ths.length := by simp [St.setTh]
    have e15 : (S.setTh k { t with late := true }).ee = S.ee := rfl
    have e16 : (S.setTh k { t with late := true }).el = S.el := rfl
    generalize { t with late := true } = t1 at *
    generalize S.setTh k t1 = S1 at *
    have WK := fun W => th_wake t1 W
    have hk1 : k < S1.ths.length := by omega
    go_enter Tryz.func80, Tryz.ntmps80
    go_wp2_with (first
      | (go_at_call 81; (with_reducible refine (C1 _ hV).mono ?_); rintro e w2 ⟨A1, c1, rfl, hm, hb⟩; clear C1; have hm' := hm.mono (base' := base) (by omega); have hB2 := hBV.trans (hb.mono (by omega)); have hV2 := hV.on hb; obtain ⟨b13, f13⟩ := hV2.cell 13; obtain ⟨b14, f14⟩ := hV2.cell 14; change _ = some (Value.int .i64 S1.fe) at b13; change _ = some (Value.slice L.a4 S1.fl.length L.c4) at b14; have hV3 := hV2.putFull (ep := S.fe) hm'; obtain ⟨b15, f15⟩ := hV3.cell 15; obtain ⟨b16, f16⟩ := hV3.cell 16; change _ = some (Value.int .i64 S1.ee) at b15; change _ = some (Value.slice L.a5 S1.el.length L.c5) at b16; rw [e15] at b15; rw [e16] at b16; have hB3 := (hB2.setCell (p := ⟨b, 13, none⟩) hlb (.int .i64 S.fe)).setCell (p := ⟨b, 14, none⟩) hlb (.slice A1 (cnlE S.fe S.fl k).1.length c1); have hl5 := hV3.ho.m5.lies; change Lies _ _ L.a5 (ints S1.el) at hl5; rw [e16] at hl5)
      | (go_at_call 81; (with_reducible refine (C2 _ hl5).mono ?_); rintro e w5 ⟨A5, c5, rfl, hm5, hb5⟩; have hbb3 := hV3.base_le; have hm5' := hm5.mono (base' := base) hbb3.2.2.2.2; have hB5 := hB3.trans (hb5.mono hbb3.2.2.2.2); have hV5 := hV3.on hb5; obtain ⟨g15, q15⟩ := hV5.cell 15; obtain ⟨g16, q16⟩ := hV5.cell 16; change _ = some (Value.int .i64 S1.ee) at g15; change _ = some (Value.slice L.a5 S1.el.length L.c5) at g16; have hV6 := hV5.putEmpty (ep := S.ee) hm5'; have hB6 := (hB5.setCell (p := ⟨b, 15, none⟩) hlb (.int .i64 S.ee)).setCell (p := ⟨b, 16, none⟩) hlb (.slice A5 (cnlE S.ee S.el k).1.length c5); have hcs := fun j v h => (hV6.field htV (j := j) (v := v) h).1)
      | ((with_reducible refine wpList_val (loadTh hcs ?_) ?_); (focus rfl))
      | (go_at_call 38; (with_reducible refine (WK _).mono ?_); rintro e w7 ⟨rfl, hb7⟩; have hbb6 := hV6.base_le; have hV7 := hV6.on hb7; have hB7 := hB6.trans (hb7.mono hbb6.2.2.2.2); obtain ⟨V, hst, hm8, hg8, hB8⟩ := store_th hV7.mine hk1 t1.wake)
      | ((with_reducible refine wpList_skip (storeT Tryz.sizeOf51 hst ?_ ?_ ?_) ?_); (focus rfl); (focus rfl); (focus rfl)))
    go_returns
    refine ⟨rfl, ⟨_, _, _, hV7.stored hm8 hg8, ⟨hgr.g1, hgr.g2, hgr.g3, hl1, hl2, by have := hgr.g6; simp [St.setTh]; omega, hgr.g7⟩, by simp [St.setTh]; omega⟩, ?_, hB7.trans hB8⟩
    intro j hj h1 h2
    have z2 := hb.size
    have z5 := hb5.size
    have z7 := hb7.size
    simp only [World.setCell_size'] at z2 z5 z7
    exact (hg8.block j (by omega) (by simpa using h2)).trans ((hb7.block j (by simp only [World.setCell_size']; omega)).trans ((two_cells _ b 15 16 _ _ j h1).trans ((hb5.block j (by simp only [World.setCell_size']; omega)).trans ((two_cells _ b 13 14 _ _ j h1).trans ((hb.block j (by simp only [World.setCell_size']; omega)).trans (Below.heap_setCell w ⟨gb, k * 11 + 8, none⟩ _ j h2))))))
  · have h2' : (t.status == 2) = false := by simpa using h2
    clear h2
    go_enter Tryz.func80, Tryz.ntmps80
    go_wp2
    go_returns
    exact ⟨rfl, ⟨_, _, _, hV, setTh_gr _ _ _, by simp [St.setTh]⟩, fun j hj h1 h2 => Below.heap_setCell w ⟨gb, k * 11 + 8, none⟩ _ j h2, hBV⟩

end Go.Proofs.YtnbgpopjnpdmgaaGreat

namespace Go.Proofs.YtnbgpopjnpdmgaaGreat
open Go Go.RowKit Go.Shelf

theorem results36_3 {W : World} {B s r q : Nat} {cs : List Value} {t : TypeId} {fn : Func} {tmps : Array Value} (h : W.heap[B]? = some (.cells cs.toArray t (0, 0))) (hk : cs.length = 20) (hf : fn.results = #[.cell s 36, .tmp r, .tmp q]) (hp : tmps.getD s undef = .pointer (some ⟨B, 0, none⟩)) :
    (results fn tmps).run Tryz.prog W = .ok (.tuple #[.agg cs.toArray, tmps.getD r undef, tmps.getD q undef]) W := by
  have hl := run_load_block (P := Tryz.prog) h hk
  have h1 := Tryz.isAgg36
  have h2 := Tryz.sizeOf36
  rw [Array.getD_eq_getD_getElem?] at hp
  simp [results, hf, hp, h1, h2, hl, asAddr, loadVar, loadCells]
theorem mv_exec {P : Program} {W : World} {v : Value} {a : Act} {x : Operand} {dst : Option Tmp} {ty : TypeId} {ps : String} {af : Array Edge} (h : a.eval x = v) : (execOp a.eval (Oper.mk dst (.move x) ty ps af none)).run P W = .ok (.value v) W := by simp [execOp, h]
def TickEnd (w : World) (S : St) (e : Ending) (w' : World) : Prop := ∃ S' L' A n c er, e = .returned (.tuple #[S'.val L', .slice A n c, .int .i64 er]) ∧ Owns w' w.heap.size S' L' ∧ Gr 0 0 S S' ∧ Below w.heap.size w w'

set_option maxRecDepth 100000 in
set_option maxHeartbeats 8000000 in
theorem tick_bad (S : St) (L : Lay) (n : Int) (w : World) (hsm : S.small) (hH : Holds w S L) (h8 : S.ths.length ≤ 700) (h : S.ok = false) :
    Calls Tryz.prog 61 #[S.val L, .int .i64 n] w fun e w' => TickEnd w S e w' := by
  have WK := fun W (hW : Below w.heap.size w W) => wake_any S L (-1) W hsm (hH.on hW)
  rw [wake_none] at WK
  have K := fun W (hW : Below w.heap.size w W) => check_state S L W hsm (hH.on hW)
  obtain ⟨k0, k1, hB0⟩ := two_new w (.cells (S.cells L) 36) (.cells #[.int .i64 0, .int .i64 0, .int .i64 0, .int .i64 0, .int .i64 0, .int .i64 0, .bool false, .int .i64 0, .int .i64 0, .int .i64 0, .slice none 0 0, .slice none 0 0, .slice none 0 0, .int .i64 0, .slice none 0 0, .int .i64 0, .slice none 0 0, .int .i64 0, .slice none 0 0, .slice none 0 0] 36)
  have hbz : ((w.alloc (.cells (S.cells L) 36)).alloc (.cells #[.int .i64 0, .int .i64 0, .int .i64 0, .int .i64 0, .int .i64 0, .int .i64 0, .bool false, .int .i64 0, .int .i64 0, .int .i64 0, .slice none 0 0, .slice none 0 0, .slice none 0 0, .int .i64 0, .slice none 0 0, .int .i64 0, .slice none 0 0, .int .i64 0, .slice none 0 0, .slice none 0 0] 36)).heap.size = w.heap.size + 2 := (by simp)
  rw [h] at K
  clear h
  go_enter Tryz.func61, Tryz.ntmps61
  go_wp2_with (first
      | ((with_reducible refine wpList_val (load36 k0 ?_ ?_) ?_); (focus rfl); (focus rfl))
      | ((with_reducible refine wpList_val (load36 kb ?_ ?_) ?_); (focus rfl); (focus rfl))
      | (go_at_call 18; (with_reducible refine (WK _ hB0).mono ?_); rintro e w1 ⟨L1, rfl, ho, hb⟩; rw [hbz] at ho hb; have hz1 : w.heap.size + 2 ≤ w1.heap.size := (by have := hb.size; omega); have kz := World.alloc_heap_new w1 (.cells #[.int .i64 0, .int .i64 0, .int .i64 0, .int .i64 0, .int .i64 0, .int .i64 0, .bool false, .int .i64 0, .int .i64 0, .int .i64 0, .slice none 0 0, .slice none 0 0, .slice none 0 0, .int .i64 0, .slice none 0 0, .int .i64 0, .slice none 0 0, .int .i64 0, .slice none 0 0, .slice none 0 0] 36); obtain ⟨v2, hst2, kb, hB2, hoth2⟩ := run_store_block (P := Tryz.prog) (base := w1.heap.size) (cs := (S.cells L1).toList) kz rfl (st_one S L1) (Nat.le_refl _); have hbv : Below w1.heap.size w1 v2 := (below_one w1 _).trans hB2; replace ho := ho.kept hbv; have hb' := hb.trans (hbv.mono hz1); replace k0 := kept k0 (by rw [hbz]; exact hb'); replace k1 := kept k1 (by rw [hbz]; exact hb'); have hB := hB0.trans (hb'.mono (by omega)); generalize hb7 : w1.heap.size = b7 at *)
      | (go_at_call 22; (with_reducible refine (K _ hB).mono ?_); rintro e w3 ⟨rfl, hb3⟩; have hB3 := hB.trans (hb3.mono hB.size); replace k0 := kept k0 hb3; replace k1 := kept k1 hb3; replace kb := kept kb hb3; replace ho := ho.kept hb3; obtain ⟨v4, hst4, kr, hB4, hoth4⟩ := run_store_block (P := Tryz.prog) (base := w.heap.size) (cs := (S.cells L1).toList) k1 rfl (st_one S L1) (by omega))
      | ((with_reducible refine wpList_skip (store36 hst2 ?_ ?_ ?_) ?_); (focus rfl); (focus rfl); (focus rfl))
      | ((with_reducible refine wpList_skip (store36 hst4 ?_ ?_ ?_) ?_); (focus rfl); (focus rfl); (focus rfl)))
  refine bodyPost_ret (results36_3 kr rfl rfl rfl) rfl ⟨S, L1, none, 0, 0, _, rfl, (ho.put k1 okSt hoth4).mono (by omega), Gr.refl S, hB3.trans hB4⟩

set_option maxRecDepth 100000 in
set_option maxHeartbeats 8000000 in
theorem tick_time (S : St) (L : Lay) (n : Int) (w : World) (hsm : S.small) (hH : Holds w S L) (h8 : S.ths.length ≤ 700) (h : S.ok = true) (hn : n < 0 ∨ (¬ n < 0 ∧ 1099511627776 - S.now < n)) :
    Calls Tryz.prog 61 #[S.val L, .int .i64 n] w fun e w' => TickEnd w S e w' := by
  have WK := fun W (hW : Below w.heap.size w W) => wake_any S L (-1) W hsm (hH.on hW)
  rw [wake_none] at WK
  have K := fun W (hW : Below w.heap.size w W) => check_state S L W hsm (hH.on hW)
  obtain ⟨k0, k1, hB0⟩ := two_new w (.cells (S.cells L) 36) (.cells #[.int .i64 0, .int .i64 0, .int .i64 0, .int .i64 0, .int .i64 0, .int .i64 0, .bool false, .int .i64 0, .int .i64 0, .int .i64 0, .slice none 0 0, .slice none 0 0, .slice none 0 0, .int .i64 0, .slice none 0 0, .int .i64 0, .slice none 0 0, .int .i64 0, .slice none 0 0, .slice none 0 0] 36)
  have hbz : ((w.alloc (.cells (S.cells L) 36)).alloc (.cells #[.int .i64 0, .int .i64 0, .int .i64 0, .int .i64 0, .int .i64 0, .int .i64 0, .bool false, .int .i64 0, .int .i64 0, .int .i64 0, .slice none 0 0, .slice none 0 0, .slice none 0 0, .int .i64 0, .slice none 0 0, .int .i64 0, .slice none 0 0, .int .i64 0, .slice none 0 0, .slice none 0 0] 36)).heap.size = w.heap.size + 2 := (by simp)
  have hnow : 0 ≤ S.now ∧ S.now ≤ 1099511627776 := by simp only [St.ok, Bool.and_eq_true, decide_eq_true_eq] at h; exact ⟨h.2.2.2.2.2.2.2.1, h.2.2.2.2.2.2.2.2.1⟩
  rw [h] at K
  clear h
  go_enter Tryz.func61, Tryz.ntmps61
  rcases hn with hn | ⟨hn, hn2⟩
  all_goals
    go_wp2_with (first
        | ((with_reducible refine wpList_val (load36 k0 ?_ ?_) ?_); (focus rfl); (focus rfl))
        | ((with_reducible refine wpList_val (load36 kb ?_ ?_) ?_); (focus rfl); (focus rfl))
        | (go_at_call 18; (with_reducible refine (WK _ hB0).mono ?_); rintro e w1 ⟨L1, rfl, ho, hb⟩; rw [hbz] at ho hb; have hz1 : w.heap.size + 2 ≤ w1.heap.size := (by have := hb.size; omega); have kz := World.alloc_heap_new w1 (.cells #[.int .i64 0, .int .i64 0, .int .i64 0, .int .i64 0, .int .i64 0, .int .i64 0, .bool false, .int .i64 0, .int .i64 0, .int .i64 0, .slice none 0 0, .slice none 0 0, .slice none 0 0, .int .i64 0, .slice none 0 0, .int .i64 0, .slice none 0 0, .int .i64 0, .slice none 0 0, .slice none 0 0] 36); obtain ⟨v2, hst2, kb, hB2, hoth2⟩ := run_store_block (P := Tryz.prog) (base := w1.heap.size) (cs := (S.cells L1).toList) kz rfl (st_one S L1) (Nat.le_refl _); have hbv : Below w1.heap.size w1 v2 := (below_one w1 _).trans hB2; replace ho := ho.kept hbv; have hb' := hb.trans (hbv.mono hz1); replace k0 := kept k0 (by rw [hbz]; exact hb'); replace k1 := kept k1 (by rw [hbz]; exact hb'); have hB := hB0.trans (hb'.mono (by omega)); generalize hb7 : w1.heap.size = b7 at *)
        | (go_at_call 22; (with_reducible refine (K _ hB).mono ?_); rintro e w3 ⟨rfl, hb3⟩; have hB3 := hB.trans (hb3.mono hB.size); replace k0 := kept k0 hb3; replace k1 := kept k1 hb3; replace kb := kept kb hb3; replace ho := ho.kept hb3; obtain ⟨v4, hst4, kr, hB4, hoth4⟩ := run_store_block (P := Tryz.prog) (base := w.heap.size) (cs := (S.cells L1).toList) k1 rfl (st_one S L1) (by omega); obtain ⟨c17, -⟩ := of_block k0 17; change _ = some (Value.int .i64 S.now) at c17)
        | ((with_reducible refine wpList_skip (store36 hst2 ?_ ?_ ?_) ?_); (focus rfl); (focus rfl); (focus rfl))
        | ((with_reducible refine wpList_skip (store36 hst4 ?_ ?_ ?_) ?_); (focus rfl); (focus rfl); (focus rfl)))
    refine bodyPost_ret (results36_3 kr rfl rfl rfl) rfl ⟨S, L1, none, 0, 0, _, rfl, (ho.put k1 okSt hoth4).mono (by omega), Gr.refl S, hB3.trans hB4⟩

set_option maxRecDepth 100000 in
set_option maxHeartbeats 16000000 in
theorem tick_go (S : St) (L : Lay) (n : Int) (w : World) (hsm : S.small) (hH : Holds w S L) (h8 : S.ths.length ≤ 700) (h : S.ok = true) (hn : ¬ n < 0) (hn2 : ¬ 1099511627776 - S.now < n) :
    Calls Tryz.prog 61 #[S.val L, .int .i64 n] w fun e w' => TickEnd w S e w' := by
  have WK := fun W (hW : Below w.heap.size w W) => wake_any S L (-1) W hsm (hH.on hW)
  rw [wake_none] at WK
  have K := fun W (hW : Below w.heap.size w W) => check_state S L W hsm (hH.on hW)
  obtain ⟨k0, k1, hB0⟩ := two_new w (.cells (S.cells L) 36) (.cells #[.int .i64 0, .int .i64 0, .int .i64 0, .int .i64 0, .int .i64 0, .int .i64 0, .bool false, .int .i64 0, .int .i64 0, .int .i64 0, .slice none 0 0, .slice none 0 0, .slice none 0 0, .int .i64 0, .slice none 0 0, .int .i64 0, .slice none 0 0, .int .i64 0, .slice none 0 0, .slice none 0 0] 36)
  have hbz : ((w.alloc (.cells (S.cells L) 36)).alloc (.cells #[.int .i64 0, .int .i64 0, .int .i64 0, .int .i64 0, .int .i64 0, .int .i64 0, .bool false, .int .i64 0, .int .i64 0, .int .i64 0, .slice none 0 0, .slice none 0 0, .slice none 0 0, .int .i64 0, .slice none 0 0, .int .i64 0, .slice none 0 0, .int .i64 0, .slice none 0 0, .slice none 0 0] 36)).heap.size = w.heap.size + 2 := (by simp)
  have hnow : 0 ≤ S.now ∧ S.now ≤ 1099511627776 := by simp only [St.ok, Bool.and_eq_true, decide_eq_true_eq] at h; exact ⟨h.2.2.2.2.2.2.2.1, h.2.2.2.2.2.2.2.2.1⟩
  rw [h] at K
  clear h
  go_enter Tryz.func61, Tryz.ntmps61
  go_wp2_with (first
      | ((with_reducible refine wpList_val (load36 k0 ?_ ?_) ?_); (focus rfl); (focus rfl))
      | ((with_reducible refine wpList_val (load36 kb ?_ ?_) ?_); (focus rfl); (focus rfl))
      | (go_at_call 18; (with_reducible refine (WK _ hB0).mono ?_); rintro e w1 ⟨L1, rfl, ho, hb⟩; rw [hbz] at ho hb; have hz1 : w.heap.size + 2 ≤ w1.heap.size := (by have := hb.size; omega); have kz := World.alloc_heap_new w1 (.cells #[.int .i64 0, .int .i64 0, .int .i64 0, .int .i64 0, .int .i64 0, .int .i64 0, .bool false, .int .i64 0, .int .i64 0, .int .i64 0, .slice none 0 0, .slice none 0 0, .slice none 0 0, .int .i64 0, .slice none 0 0, .int .i64 0, .slice none 0 0, .int .i64 0, .slice none 0 0, .slice none 0 0] 36); obtain ⟨v2, hst2, kb, hB2, hoth2⟩ := run_store_block (P := Tryz.prog) (base := w1.heap.size) (cs := (S.cells L1).toList) kz rfl (st_one S L1) (Nat.le_refl _); have hbv : Below w1.heap.size w1 v2 := (below_one w1 _).trans hB2; replace ho := ho.kept hbv; have hb' := hb.trans (hbv.mono hz1); replace k0 := kept k0 (by rw [hbz]; exact hb'); replace k1 := kept k1 (by rw [hbz]; exact hb'); have hB := hB0.trans (hb'.mono (by omega)); generalize hb7 : w1.heap.size = b7 at *)
      | (go_at_call 22; (with_reducible refine (K _ hB).mono ?_); rintro e w3 ⟨rfl, hb3⟩; have hB3 := hB.trans (hb3.mono hB.size); replace k0 := kept k0 hb3; replace k1 := kept k1 hb3; replace kb := kept kb hb3; replace ho := ho.kept hb3; obtain ⟨v4, hst4, kr, hB4, hoth4⟩ := run_store_block (P := Tryz.prog) (base := w.heap.size) (cs := (S.cells L1).toList) k1 rfl (st_one S L1) (by omega); obtain ⟨c17, -⟩ := of_block k0 17; change _ = some (Value.int .i64 S.now) at c17; obtain ⟨d17, f17⟩ := of_block kb 17; change _ = some (Value.int .i64 S.now) at d17)
      | ((with_reducible refine wpList_skip (store36 hst2 ?_ ?_ ?_) ?_); (focus rfl); (focus rfl); (focus rfl)))
  have hB5 : Below w.heap.size w (w3.setCell ⟨b7, 17, none⟩ (.int .i64 (S.now + n))) := hB3.setCell (p := ⟨b7, 17, none⟩) (show w.heap.size ≤ b7 by omega) _
  have kb5 : (w3.setCell ⟨b7, 17, none⟩ (.int .i64 (S.now + n))).heap[b7]? = some (.cells (St.cells { S with now := S.now + n } L1) 36 (0, 0)) := put_cell (i := 17) kb (.int .i64 (S.now + n))
  have ho5 : Owns (w3.setCell ⟨b7, 17, none⟩ (.int .i64 (S.now + n))) w.heap.size { S with now := S.now + n } L1 := by
    have q := (ho.put kb okSt (one_cell w3 b7 17 (.int .i64 (S.now + n)))).mono (show w.heap.size ≤ w.heap.size + 2 by omega)
    exact ⟨q.m1, q.m2, q.m3, q.m4, q.m5, q.m6, q.m7, q.sep, q.sep7⟩
  have hg5 : Gr 0 0 S { S with now := S.now + n } := ⟨Nat.le_refl _, Nat.le_refl _, Nat.le_refl _, Nat.le_refl _, Nat.le_refl _, Nat.le_refl _, Nat.le_refl _⟩
  have hn5 : (St.ths { S with now := S.now + n }).length = S.ths.length := rfl
  have k05 := keep_cell (C := b7) (i := 17) k0 (by omega) (.int .i64 (S.now + n))
  have k15 := keep_cell (C := b7) (i := 17) k1 (by omega) (.int .i64 (S.now + n))
  have DU := fun W (hW : Below w.heap.size w W) => dues_any S L W hsm (hH.on hW) h8
  clear k0 k1 kb ho hB hB3 hb3 hst4 kr hB4 hoth4 f17 d17 c17 hbv hb' hb hB0 hbz hst2 hB2 hoth2 kz WK K hb7
  generalize w3.setCell ⟨b7, 17, none⟩ (.int .i64 (S.now + n)) = w5 at *
  generalize ({ S with now := S.now + n } : St) = S2 at *
  have hS : (Blk w w.heap.size [(w.heap.size, (.cells (S.cells L) 36)), (w.heap.size + 1, (.cells #[.int .i64 0, .int .i64 0, .int .i64 0, .int .i64 0, .int .i64 0, .int .i64 0, .bool false, .int .i64 0, .int .i64 0, .int .i64 0, .slice none 0 0, .slice none 0 0, .slice none 0 0, .int .i64 0, .slice none 0 0, .int .i64 0, .slice none 0 0, .int .i64 0, .slice none 0 0, .slice none 0 0] 36)), (b7, (.cells (S2.cells L1) 36))]) w5.drew := ⟨hB5.drew, by
    intro p hp
    simp only [List.mem_cons, List.not_mem_nil, or_false] at hp
    rcases hp with rfl | rfl | rfl
    · exact k05
    · exact k15
    · exact kb5, Nat.le_refl _⟩
  have ho := ho5.drew
  clear k05 k15 kb5 hB5 ho5
  refine wp_region_ord3 (Blk w w.heap.size [(w.heap.size, (.cells (S.cells L) 36)), (w.heap.size + 1, (.cells #[.int .i64 0, .int .i64 0, .int .i64 0, .int .i64 0, .int .i64 0, .int .i64 0, .bool false, .int .i64 0, .int .i64 0, .int .i64 0, .slice none 0 0, .slice none 0 0, .slice none 0 0, .int .i64 0, .slice none 0 0, .int .i64 0, .slice none 0 0, .int .i64 0, .slice none 0 0, .slice none 0 0] 36)), (b7, (.cells (S2.cells L1) 36))]) (Blk w w.heap.size [(w.heap.size, (.cells (S.cells L) 36)), (w.heap.size + 1, (.cells #[.int .i64 0, .int .i64 0, .int .i64 0, .int .i64 0, .int .i64 0, .int .i64 0, .bool false, .int .i64 0, .int .i64 0, .int .i64 0, .slice none 0 0, .slice none 0 0, .slice none 0 0, .int .i64 0, .slice none 0 0, .int .i64 0, .slice none 0 0, .int .i64 0, .slice none 0 0, .slice none 0 0] 36)), (b7, (.cells (S2.cells L1) 36))]) 1 (by kernel_rfl)
    [(2, 2), (1, 0), (2, 3), (0, 1), (0, 4), (2, 5), (2, 6), (2, 7), (2, 8), (2, 9)]
    (by kernel_rfl) (by kernel_rfl) (by decide) (by kernel_rfl) (fun _ _ d _ _ h => by cases d <;> exact h) ?_
  simp only [inOrder2, List.getElem?_cons_succ, List.getElem?_cons_zero, List.nil_append, List.cons_append]
  generalize w5.drew = w5d at *
  ((with_reducible refine o3_calmF (v := ?_) (a' := ?_) hS ?_ (fun V => ?_) ?_ ?_); rotate_left 2; (rfl); (first | (go_simp; with_reducible rfl) | (go_simp; refine (if_pos ?_).trans ?_; omega; with_reducible rfl)); (simp only [Act.put, List.setIfInBounds_toArray, List.set_cons_succ, List.set_cons_zero] <;> rfl))
  ((with_reducible refine o3_pre (v := .agg (S.cells L)) (a' := ?_) hS ?_ (fun V hV => ?_) ?_ ?_); rotate_left; (focus rfl); (focus (exact load36 (cs := (S.cells L).toList) (hV.get (B := w.heap.size) (o := (.cells (S.cells L) 36)) (by simp)) rfl rfl)); (focus (simp only [Act.put, List.setIfInBounds_toArray, List.set_cons_succ, List.set_cons_zero] <;> rfl)))
  ((with_reducible refine o3_both (v := ?_) (a' := ?_) hS ?_ (fun V hV => ?_) (fun V hV => ?_) ?_ ?_); rotate_left 2; (focus rfl); (focus (obtain ⟨d17, -⟩ := of_block (hV.get (B := b7) (o := (.cells (S2.cells L1) 36)) (by simp)) 17; replace d17 : V.cell? ⟨b7, 17, none⟩ = some (.int .i64 S2.now) := d17; first | (go_simp; with_reducible rfl) | (go_simp; refine (if_pos ?_).trans ?_; omega; with_reducible rfl))); (focus (obtain ⟨d17, -⟩ := of_block (hV.get (B := b7) (o := (.cells (S2.cells L1) 36)) (by simp)) 17; replace d17 : V.cell? ⟨b7, 17, none⟩ = some (.int .i64 S2.now) := d17; first | (go_simp; done) | (go_simp; with_reducible rfl))); (focus (simp only [Act.put, List.setIfInBounds_toArray, List.set_cons_succ, List.set_cons_zero] <;> rfl)))
  refine o3_onlyS rfl rfl ?_
  go_simp
  refine ⟨trivial, rfl, (callsIn_wide.2 (DU _ hS.below)).mono ?_⟩
  rintro e w6 ⟨A6, c6, ds, rfl, hm6, hlen6, hin6, hb6⟩
  replace hS := hS.on hb6
  replace ho := ho.kept hb6
  have hsz6 := hS.below.size
  refine ⟨hS, ?_⟩
  refine o3_onlyT  rfl ?_
  go_simp
  refine ⟨trivial, rfl, (callsIn_wide.2 (late_any (DuIn S.ths.length) ds A6 c6 S2.now w6 (by omega) hm6.lies hin6)).mono ?_⟩
  rintro e w7 ⟨A7, c7, is, A8, n8, c8, rfl, hm7, hlen7, hin7, hb7⟩
  replace hS := hS.on hb7
  replace ho := ho.kept hb7
  refine ⟨hS, ?_⟩
  iterate 5 (((with_reducible refine o3_calmT (v := ?_) (a' := ?_) hS ?_ (fun V => ?_) ?_ ?_); rotate_left 2; (rfl); (first | (go_simp; with_reducible rfl) | (go_simp; refine (if_pos ?_).trans ?_; omega; with_reducible rfl)); (simp only [Act.put, List.setIfInBounds_toArray, List.set_cons_succ, List.set_cons_zero] <;> rfl)))
  refine o3_end _ ?_
  try simp only [Exit.then]
  go_wp2
  have kb := hS.get (B := b7) (o := (.cells (S2.cells L1) 36)) (by simp)
  have k1 := hS.get (B := w.heap.size + 1) (o := (.cells #[.int .i64 0, .int .i64 0, .int .i64 0, .int .i64 0, .int .i64 0, .int .i64 0, .bool false, .int .i64 0, .int .i64 0, .int .i64 0, .slice none 0 0, .slice none 0 0, .slice none 0 0, .int .i64 0, .slice none 0 0, .int .i64 0, .slice none 0 0, .int .i64 0, .slice none 0 0, .slice none 0 0] 36)) (by simp)
  have hB := hS.below
  have hmI : Mine w7 w.heap.size 3 1 A7 c7 is.length (ints is) := hm7.mono (by have := hb6.size; have := hb7.size; have := hS.below.size; have hz := hsz6; omega)
  clear hS hm6 hm7 hb6 hb7 DU
  go_loopw [47] (fun i wr => ∃ (k : Nat) (S' : St) (L' : Lay), k ≤ is.length ∧ i = .int .i64 k ∧ wr.heap[b7]? = some (.cells (S'.cells L') 36 (0, 0)) ∧ wr.heap[w.heap.size + 1]? = some (.cells #[.int .i64 0, .int .i64 0, .int .i64 0, .int .i64 0, .int .i64 0, .int .i64 0, .bool false, .int .i64 0, .int .i64 0, .int .i64 0, .slice none 0 0, .slice none 0 0, .slice none 0 0, .int .i64 0, .slice none 0 0, .int .i64 0, .slice none 0 0, .int .i64 0, .slice none 0 0, .slice none 0 0] 36) ∧ Owns wr w.heap.size S' L' ∧ Gr 0 0 S S' ∧ S'.ths.length = S.ths.length ∧ Mine wr w.heap.size 3 1 A7 c7 is.length (ints is) ∧ Below w.heap.size w wr) (fun i _ => is.length - (intOf i).toNat)
  case atStart => exact ⟨0, S2, L1, Nat.zero_le _, rfl, kb, k1, ho, hg5, hn5, hmI, hB⟩
  case round =>
    clear kb k1 ho hg5 hn5 hmI hB
    obtain ⟨k, S', L', hk, rfl, kb, k1, ho, hgr, hn', hmI, hB⟩ := hrel
    by_cases hlt : k < is.length
    · obtain ⟨x, hx⟩ : ∃ x, is[k]? = some x := ⟨_, List.getElem?_eq_getElem hlt⟩
      obtain ⟨d, hd, hxd⟩ := hin7 x (List.mem_of_getElem? hx)
      obtain ⟨j, rfl⟩ : ∃ j : Nat, x = j := ⟨x.toNat, by have := hd.1; omega⟩
      have hj : j < S'.ths.length := by have := hd.2; omega
      obtain ⟨gi, hA, -, -⟩ := hmI.some_ (by omega)
      subst hA
      obtain ⟨e0, -⟩ := hmI.cellAt (j := k) (v := .int .i64 j) (ints_get hx)
      obtain ⟨gb, h6⟩ := ho.form6 (by omega)
      have hR : BoxAt w.heap.size b7 gb S' L' wr := ⟨kb, ho, by omega, h6⟩
      have hsm' : S'.small := ⟨Nat.le_trans hgr.g1 hsm.1, Nat.le_trans hgr.g2 hsm.2.1, Nat.le_trans hgr.g3 hsm.2.2.1, Nat.le_trans hgr.g4 hsm.2.2.2.1, Nat.le_trans hgr.g5 hsm.2.2.2.2.1, Nat.le_trans hgr.g6 hsm.2.2.2.2.2.1, Nat.le_trans hgr.g7 hsm.2.2.2.2.2.2⟩
      have TK := tick1_any S' L' w.heap.size b7 gb j wr hR hj hsm'
      have hne1 := hR.mine.notBlock k1 okSt.2.2.1 gb 0 none rfl
      have hneI := hmI.notBlock kb okSt.2.1 gi 0 none rfl
      have hneG := hmI.apartT hR.mine (by decide) gb 0 none rfl gi 0 none rfl
      have hltI := (hmI.base gi 0 none rfl).2
      have hlt1 := blk_lt k1
      clear hd hxd hx hsm' hR h6 ho kb
      go_wp2_with (first
        | (go_at_call 80; (with_reducible refine TK.mono ?_); rintro e w8 ⟨rfl, ⟨S3, L3, gb3, hR3, hg3, hn3⟩, hfr, hB8⟩; clear TK))
      go_roundw
      case rel => exact ⟨k + 1, S3, L3, by omega, by go_num, hR3.hb, (hfr _ hlt1 (by omega) (fun e => hne1 e.symm)).trans k1, hR3.ho, hgr.trans hg3, hn3.trans hn', hmI.grown (fun g off t e => by cases e; exact hfr _ hltI hneI hneG), hB.trans hB8⟩
      case measure => simp [intOf]; omega
    · obtain ⟨v4, hst4, kr, hB4, hoth4⟩ := run_store_block (P := Tryz.prog) (base := w.heap.size) (cs := (S'.cells L').toList) k1 rfl (st_one S' L') (by omega)
      go_wp2_with (first
        | ((with_reducible refine wpList_val (load36 kb ?_ ?_) ?_); (focus rfl); (focus rfl); (with_reducible refine wpList_val (mv_exec (v := .slice A7 is.length c7) ?_) ?_); (focus rfl))
        | ((with_reducible refine wpList_skip (store36 hst4 ?_ ?_ ?_) ?_); (focus rfl); (focus rfl); (focus rfl)))
      exact bodyPost_ret (results36_3 kr rfl rfl rfl) rfl ⟨S', L', _, _, _, _, rfl, ho.put k1 okSt hoth4, hgr, hB.trans hB4⟩

end Go.Proofs.YtnbgpopjnpdmgaaGreat
