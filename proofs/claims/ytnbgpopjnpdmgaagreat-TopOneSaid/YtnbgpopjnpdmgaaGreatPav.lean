/-
  DERIVED. Run, Run1, Run2.
-/
import Derived.Test.YtnbgpopjnpdmgaaGreatPau
import Derived.Test.YtnbgpopjnpdmgaaGreatPab
set_option linter.unusedVariables false
set_option linter.unusedSimpArgs false

namespace Go.Proofs.YtnbgpopjnpdmgaaGreat
open Go Go.RowKit Go.Shelf

abbrev St.cells21 (S : St) (L : Lay) (id : Int) : Array Value := #[.int .i64 S.cfg.log, .int .i64 S.cfg.th, .int .i64 S.cfg.pol, .int .i64 S.cfg.wt, .int .i64 S.cfg.sp, .int .i64 S.cfg.yi, .bool S.cfg.single,
  .int .i64 S.word.head, .int .i64 S.word.tail, .int .i64 S.word.mode, .slice L.a1 S.slots.length L.c1, .slice L.a2 S.sends.length L.c2, .slice L.a3 S.recvs.length L.c3,
  .int .i64 S.fe, .slice L.a4 S.fl.length L.c4, .int .i64 S.ee, .slice L.a5 S.el.length L.c5, .int .i64 S.now, .slice L.a6 S.ths.length L.c6, .slice L.a7 S.log.length L.c7, .int .i64 id]
def okT (T : TypeId) : Prop := T ≠ 65 ∧ T ≠ 3 ∧ T ≠ 51 ∧ T ≠ 96
/-- Block b holds a state and the number k; its slices are the call's own; its threads lie in block gb. -/
structure RunAt (T : TypeId) (base b gb : Nat) (S : St) (L : Lay) (k : Nat) (W : World) : Prop where
  hb : W.heap[b]? = some (.cells (S.cells21 L k) T (0, 0))
  ho : Owns W base S L
  le : base ≤ b
  h6 : L.a6 = some ⟨gb, 0, none⟩
  hk : k < S.ths.length
  ok : okT T
theorem RunAt.on {T : TypeId} {base b gb : Nat} {S : St} {L : Lay} {k : Nat} {W V : World} (h : RunAt T base b gb S L k W) (hb : Below W.heap.size W V) : RunAt T base b gb S L k V := ⟨kept h.hb hb, h.ho.kept hb, h.le, h.h6, h.hk, h.ok⟩
theorem RunAt.drew {T : TypeId} {base b gb : Nat} {S : St} {L : Lay} {k : Nat} {W : World} (h : RunAt T base b gb S L k W) : RunAt T base b gb S L k W.drew := ⟨h.hb, h.ho.drew, h.le, h.h6, h.hk, h.ok⟩
theorem RunAt.mine {T : TypeId} {base b gb : Nat} {S : St} {L : Lay} {k : Nat} {W : World} (h : RunAt T base b gb S L k W) : Mine W base 51 11 (some ⟨gb, 0, none⟩) L.c6 S.ths.length (Go.Proofs.YtnbgpopjnpdmgaaGreat.ths S.ths) := by have := h.ho.m6; rwa [h.h6] at this
theorem RunAt.base_le {T : TypeId} {base b gb : Nat} {S : St} {L : Lay} {k : Nat} {W : World} (h : RunAt T base b gb S L k W) : base ≤ gb ∧ gb < W.heap.size ∧ b ≠ gb ∧ b < W.heap.size ∧ base ≤ W.heap.size := by
  have h1 := h.mine.base gb 0 none rfl
  have h2 := h.mine.notBlock h.hb h.ok.2.2.1 gb 0 none rfl
  have h3 := blk_lt h.hb
  have h4 := h.le
  exact ⟨h1.1, h1.2, fun e => h2 e.symm, h3, by omega⟩
/-- A field of a thread. -/
theorem RunAt.field {T : TypeId} {base b gb : Nat} {S : St} {L : Lay} {k : Nat} {W : World} {t : Th} (h : RunAt T base b gb S L k W) (ht : S.ths[k]? = some t) {j : Nat} {v : Value} (hj : t.list[j]? = some v) : W.cell? ⟨gb, k * 11 + j, none⟩ = some v ∧ W.frozen? ⟨gb, k * 11 + j, none⟩ = false :=
  h.mine.cellAt (flat_at (f := Th.list) (k := 11) (fun _ => rfl) ht hj)
/-- A cell of the box. -/
theorem RunAt.cell {T : TypeId} {base b gb : Nat} {S : St} {L : Lay} {k : Nat} {W : World} (h : RunAt T base b gb S L k W) (i : Nat) : W.cell? ⟨b, i, none⟩ = (S.cells21 L k)[i]? ∧ W.frozen? ⟨b, i, none⟩ = false := of_block h.hb i
theorem RunAt.the {T : TypeId} {base b gb : Nat} {S : St} {L : Lay} {k : Nat} {W : World} (h : RunAt T base b gb S L k W) : ∃ t, S.ths[k]? = some t := ⟨_, List.getElem?_eq_getElem h.hk⟩
/-- A field of its thread is written. -/
theorem RunAt.set {T : TypeId} {base b gb : Nat} {S : St} {L : Lay} {k : Nat} {W : World} {t t' : Th} (h : RunAt T base b gb S L k W) (ht : S.ths[k]? = some t) (j : Nat) (v : Value) (hj : j < 11) (hx : t.list.set j v = t'.list) : RunAt T base b gb (S.setTh k t') L k (W.setCell ⟨gb, k * 11 + j, none⟩ v) := by
  have hbb := h.base_le
  have hm := h.mine.set (k * 11 + j) v (by have := ths_len S.ths; have := h.hk; omega)
  rw [flat_set (f := Th.list) (k := 11) (fun _ => rfl) ht hj hx] at hm
  have hg : W.grownBy (W.setCell ⟨gb, k * 11 + j, none⟩ v) (some gb) := ⟨rfl, rfl, rfl, by simp, fun i _ hi => Below.heap_setCell W ⟨gb, k * 11 + j, none⟩ v i (by simpa using hi)⟩
  have hb2 := keep_cell (i := k * 11 + j) h.hb hbb.2.2.1 v
  refine ⟨?_, h.ho.setTh hg h.h6 (by rw [h.h6]; exact hm), h.le, h.h6, by simpa [St.setTh] using h.hk, h.ok⟩
  have e : (S.setTh k t').cells21 L k = S.cells21 L k := by simp [St.setTh, St.cells21]
  rw [e]
  exact hb2
theorem setTh_get {S : St} {k : Nat} {t : Th} (hk : k < S.ths.length) : (S.setTh k t).ths[k]? = some t := by simp [St.setTh, hk]
theorem setTh_twice (S : St) (k : Nat) (t t' : Th) : (S.setTh k t).setTh k t' = S.setTh k t' := by simp [St.setTh]
/-- The state is loaded. -/
theorem RunAt.load {T : TypeId} {base b gb : Nat} {S : St} {L : Lay} {k : Nat} {W : World} (h : RunAt T base b gb S L k W) : ∀ j v, (S.cells L).toList[j]? = some v → W.cell? ⟨b, 0 + j, none⟩ = some v := by
  intro j v hj
  rw [Nat.zero_add, (h.cell j).1]
  have hl : j < 20 := by
    have := (List.getElem?_eq_some_iff.1 hj).1
    simpa using this
  match j, hl, hj with
  | 0, _, hj | 1, _, hj | 2, _, hj | 3, _, hj | 4, _, hj | 5, _, hj | 6, _, hj | 7, _, hj | 8, _, hj | 9, _, hj | 10, _, hj | 11, _, hj | 12, _, hj | 13, _, hj | 14, _, hj | 15, _, hj | 16, _, hj | 17, _, hj | 18, _, hj | 19, _, hj => exact hj
/-- Another state is stored. -/
theorem run_store_state {T : TypeId} {W : World} {b base : Nat} {S S' : St} {L L' : Lay} {k : Int} (h : W.heap[b]? = some (.cells (S.cells21 L k) T (0, 0))) (hB : base ≤ b) :
    ∃ V, Sem.run Tryz.prog (storeCells ⟨b, 0, none⟩ (S'.cells L').toList 0) W = .ok () V ∧ V.heap[b]? = some (.cells (S'.cells21 L' k) T (0, 0)) ∧ Below base W V ∧ ∀ j, j ≠ b → V.heap[j]? = W.heap[j]? := by
  have hst := run_storeCells_at Tryz.prog b 0 T (S'.cells L').toList 0 _ W h (by simp) (st_one S' L')
  have e : ((S.cells21 L k).toList.take (0 + 0) ++ (S'.cells L').toList ++ (S.cells21 L k).toList.drop (0 + 0 + (S'.cells L').toList.length)).toArray = S'.cells21 L' k := by simp [St.cells21, St.cells]
  rw [e] at hst
  exact ⟨_, hst, setRow_heap W b _ _ T (0, 0) h, ⟨rfl, rfl, rfl, by simp [World.setRow], fun j hj => setRow_other W b j _ (by omega)⟩, fun j hj => setRow_other W b j _ hj⟩
theorem Owns.form6 {W : World} {base : Nat} {S : St} {L : Lay} (h : Owns W base S L) (hk : 0 < S.ths.length) : ∃ g, L.a6 = some ⟨g, 0, none⟩ := by
  obtain ⟨g, hg, _⟩ := h.m6.some_ hk
  exact ⟨g, hg⟩
def St.sz (S : St) (n : Nat) : Prop := S.slots.length ≤ n ∧ S.sends.length ≤ n ∧ S.recvs.length ≤ n ∧ S.fl.length ≤ n ∧ S.el.length ≤ n ∧ S.ths.length ≤ n ∧ S.log.length ≤ n
theorem St.sz.small {S : St} {n : Nat} (h : S.sz n) (hn : n ≤ 1000) : S.small := ⟨by have := h.1; omega, by have := h.2.1; omega, by have := h.2.2.1; omega, by have := h.2.2.2.1; omega, by have := h.2.2.2.2.1; omega, by have := h.2.2.2.2.2.1; omega, by have := h.2.2.2.2.2.2; omega⟩

end Go.Proofs.YtnbgpopjnpdmgaaGreat

namespace Go.Proofs.YtnbgpopjnpdmgaaGreat
open Go Go.RowKit Go.Shelf

set_option maxRecDepth 100000 in
set_option maxHeartbeats 2000000 in
theorem me_s (S : St) (L : Lay) (base b gb k : Nat) (w : World) (hR : RunAt 157 base b gb (S) L k w) :
    Calls Tryz.prog 119 #[.pointer (some ⟨b, 0, none⟩)] w fun e w' => e = .returned (.pointer (some ⟨gb, k * 11, none⟩)) ∧ w' = w.drew := by
  have hk := hR.hk
  have hS0 := hR.drew
  go_enter Tryz.func119, Tryz.ntmps119
  go_wp2_with fail
  have hS := hS0
  refine wp_region_ord (S := (RunAt 157 base b gb S L k)) (by kernel_rfl)
    [(true, 0), (true, 1), (true, 2), (true, 3), (true, 4), (true, 5), (true, 6), (true, 7), (true, 8), (true, 9), (true, 10)]
    (by kernel_rfl) (by kernel_rfl) (by kernel_rfl) (fun _ _ d _ _ h => by cases d <;> exact h) ?_
  simp only [inOrder, List.getElem?_cons_succ, List.getElem?_cons_zero, List.nil_append, List.cons_append]
  repeat (first
    | (refine Ord.idle hS rfl (fun V hV f hf => ?_) (by simp only [Act.put, List.setIfInBounds_toArray, List.set_cons_succ, List.set_cons_zero]; rfl) ?_
       · trivial)
    | (refine Ord.calm (v := ?_) hS rfl (fun V hV => ?_) (fun V hV f hf => ?_) (by simp only [Act.put, List.setIfInBounds_toArray, List.set_cons_succ, List.set_cons_zero]; rfl) ?_
       rotate_left
       · first
         | (go_simp; with_reducible rfl)
         | (have c18 : V.cell? ⟨b, 18, none⟩ = some (.slice (some ⟨gb, 0, none⟩) S.ths.length L.c6) := (by rw [(hV.cell 18).1]; simp [hV.h6]); have c20 : V.cell? ⟨b, 20, none⟩ = some (.int .i64 k) := (hV.cell 20).1; go_simp; with_reducible rfl)
         | (go_simp; refine (if_pos ?hc).trans ?_; omega; with_reducible rfl)
       · trivial))
  simp only [Ord, Exit.then]
  go_wp2
  go_ret
  exact ⟨rfl, rfl⟩

set_option maxRecDepth 100000 in
set_option maxHeartbeats 2000000 in
theorem at_s (S : St) (L : Lay) (base b gb k : Nat) (t : Th) (pc : Int) (w : World) (hR : RunAt 157 base b gb (S) L k w) (ht : S.ths[k]? = some t) :
    Calls Tryz.prog 139 #[.pointer (some ⟨b, 0, none⟩), .int .i64 pc] w fun e w' => e = .returned (.tuple #[]) ∧ RunAt 157 base b gb (S.setTh k { t with pc := pc }) L k w' ∧ Below base w w' := by
  have M := fun W h => me_s S L base b gb k W h
  have hbb := hR.base_le
  go_enter Tryz.func139, Tryz.ntmps139
  go_wp2_with (go_at_call 119; (with_reducible refine (M _ hR).mono ?_); rintro e w1 ⟨rfl, hw⟩; subst hw; have hR1 := hR.drew; obtain ⟨c4, f4⟩ := hR1.field ht (j := 4) rfl; have hR2 := hR1.set (t' := { t with pc := pc }) ht 4 (.int .i64 pc) (by omega) rfl)
  go_returns
  refine ⟨rfl, hR2, ?_⟩
  exact ((Below.refl base w).drew).setCell (show base ≤ gb by omega) _

set_option maxRecDepth 100000 in
set_option maxHeartbeats 2000000 in
theorem on_s (S : St) (L : Lay) (base b gb k : Nat) (t : Th) (w : World) (hR : RunAt 157 base b gb (S) L k w) (ht : S.ths[k]? = some t) (hr : 0 ≤ t.tries ∧ t.tries ≤ 1099511627776) :
    Calls Tryz.prog 142 #[.pointer (some ⟨b, 0, none⟩)] w fun e w' => e = .returned (.tuple #[]) ∧ RunAt 157 base b gb (S.setTh k { t with tries := min (t.tries + 1) 1099511627776 }) L k w' ∧ Below base w w' := by
  have M := fun W h => me_s S L base b gb k W h
  have hbb := hR.base_le
  go_enter Tryz.func142, Tryz.ntmps142
  go_wp2_with (first
    | (go_at_call 119; (with_reducible refine (M _ hR).mono ?_); rintro e w1 ⟨rfl, hw⟩; subst hw; have hR1 := hR.drew)
    | (go_at_call 119; (with_reducible refine (M _ hR1).mono ?_); rintro e w1 ⟨rfl, hw⟩; subst hw; have hR2 := hR1.drew; obtain ⟨c7, f7⟩ := hR2.field ht (j := 7) rfl; have hR3 := hR2.set (t' := { t with tries := min (t.tries + 1) 1099511627776 }) ht 7 (.int .i64 (min (t.tries + 1) 1099511627776)) (by omega) rfl))
  go_returns
  refine ⟨rfl, hR3, ?_⟩
  exact ((Below.refl base w).drew.drew).setCell (show base ≤ gb by omega) _

set_option maxRecDepth 100000 in
set_option maxHeartbeats 2000000 in
theorem me_r (S : St) (L : Lay) (base b gb k : Nat) (w : World) (hR : RunAt 161 base b gb (S) L k w) :
    Calls Tryz.prog 122 #[.pointer (some ⟨b, 0, none⟩)] w fun e w' => e = .returned (.pointer (some ⟨gb, k * 11, none⟩)) ∧ w' = w.drew := by
  have hk := hR.hk
  have hS0 := hR.drew
  go_enter Tryz.func122, Tryz.ntmps122
  go_wp2_with fail
  have hS := hS0
  refine wp_region_ord (S := (RunAt 161 base b gb S L k)) (by kernel_rfl)
    [(true, 0), (true, 1), (true, 2), (true, 3), (true, 4), (true, 5), (true, 6), (true, 7), (true, 8), (true, 9), (true, 10)]
    (by kernel_rfl) (by kernel_rfl) (by kernel_rfl) (fun _ _ d _ _ h => by cases d <;> exact h) ?_
  simp only [inOrder, List.getElem?_cons_succ, List.getElem?_cons_zero, List.nil_append, List.cons_append]
  repeat (first
    | (refine Ord.idle hS rfl (fun V hV f hf => ?_) (by simp only [Act.put, List.setIfInBounds_toArray, List.set_cons_succ, List.set_cons_zero]; rfl) ?_
       · trivial)
    | (refine Ord.calm (v := ?_) hS rfl (fun V hV => ?_) (fun V hV f hf => ?_) (by simp only [Act.put, List.setIfInBounds_toArray, List.set_cons_succ, List.set_cons_zero]; rfl) ?_
       rotate_left
       · first
         | (go_simp; with_reducible rfl)
         | (have c18 : V.cell? ⟨b, 18, none⟩ = some (.slice (some ⟨gb, 0, none⟩) S.ths.length L.c6) := (by rw [(hV.cell 18).1]; simp [hV.h6]); have c20 : V.cell? ⟨b, 20, none⟩ = some (.int .i64 k) := (hV.cell 20).1; go_simp; with_reducible rfl)
         | (go_simp; refine (if_pos ?hc).trans ?_; omega; with_reducible rfl)
       · trivial))
  simp only [Ord, Exit.then]
  go_wp2
  go_ret
  exact ⟨rfl, rfl⟩

set_option maxRecDepth 100000 in
set_option maxHeartbeats 2000000 in
theorem at_r (S : St) (L : Lay) (base b gb k : Nat) (t : Th) (pc : Int) (w : World) (hR : RunAt 161 base b gb (S) L k w) (ht : S.ths[k]? = some t) :
    Calls Tryz.prog 155 #[.pointer (some ⟨b, 0, none⟩), .int .i64 pc] w fun e w' => e = .returned (.tuple #[]) ∧ RunAt 161 base b gb (S.setTh k { t with pc := pc }) L k w' ∧ Below base w w' := by
  have M := fun W h => me_r S L base b gb k W h
  have hbb := hR.base_le
  go_enter Tryz.func155, Tryz.ntmps155
  go_wp2_with (go_at_call 122; (with_reducible refine (M _ hR).mono ?_); rintro e w1 ⟨rfl, hw⟩; subst hw; have hR1 := hR.drew; obtain ⟨c4, f4⟩ := hR1.field ht (j := 4) rfl; have hR2 := hR1.set (t' := { t with pc := pc }) ht 4 (.int .i64 pc) (by omega) rfl)
  go_returns
  refine ⟨rfl, hR2, ?_⟩
  exact ((Below.refl base w).drew).setCell (show base ≤ gb by omega) _

set_option maxRecDepth 100000 in
set_option maxHeartbeats 2000000 in
theorem on_r (S : St) (L : Lay) (base b gb k : Nat) (t : Th) (w : World) (hR : RunAt 161 base b gb (S) L k w) (ht : S.ths[k]? = some t) (hr : 0 ≤ t.tries ∧ t.tries ≤ 1099511627776) :
    Calls Tryz.prog 158 #[.pointer (some ⟨b, 0, none⟩)] w fun e w' => e = .returned (.tuple #[]) ∧ RunAt 161 base b gb (S.setTh k { t with tries := min (t.tries + 1) 1099511627776 }) L k w' ∧ Below base w w' := by
  have M := fun W h => me_r S L base b gb k W h
  have hbb := hR.base_le
  go_enter Tryz.func158, Tryz.ntmps158
  go_wp2_with (first
    | (go_at_call 122; (with_reducible refine (M _ hR).mono ?_); rintro e w1 ⟨rfl, hw⟩; subst hw; have hR1 := hR.drew)
    | (go_at_call 122; (with_reducible refine (M _ hR1).mono ?_); rintro e w1 ⟨rfl, hw⟩; subst hw; have hR2 := hR1.drew; obtain ⟨c7, f7⟩ := hR2.field ht (j := 7) rfl; have hR3 := hR2.set (t' := { t with tries := min (t.tries + 1) 1099511627776 }) ht 7 (.int .i64 (min (t.tries + 1) 1099511627776)) (by omega) rfl))
  go_returns
  refine ⟨rfl, hR3, ?_⟩
  exact ((Below.refl base w).drew.drew).setCell (show base ≤ gb by omega) _

set_option maxRecDepth 100000 in
set_option maxHeartbeats 2000000 in
theorem me_c (S : St) (L : Lay) (base b gb k : Nat) (w : World) (hR : RunAt 167 base b gb (S) L k w) :
    Calls Tryz.prog 125 #[.pointer (some ⟨b, 0, none⟩)] w fun e w' => e = .returned (.pointer (some ⟨gb, k * 11, none⟩)) ∧ w' = w.drew := by
  have hk := hR.hk
  have hS0 := hR.drew
  go_enter Tryz.func125, Tryz.ntmps125
  go_wp2_with fail
  have hS := hS0
  refine wp_region_ord (S := (RunAt 167 base b gb S L k)) (by kernel_rfl)
    [(true, 0), (true, 1), (true, 2), (true, 3), (true, 4), (true, 5), (true, 6), (true, 7), (true, 8), (true, 9), (true, 10)]
    (by kernel_rfl) (by kernel_rfl) (by kernel_rfl) (fun _ _ d _ _ h => by cases d <;> exact h) ?_
  simp only [inOrder, List.getElem?_cons_succ, List.getElem?_cons_zero, List.nil_append, List.cons_append]
  repeat (first
    | (refine Ord.idle hS rfl (fun V hV f hf => ?_) (by simp only [Act.put, List.setIfInBounds_toArray, List.set_cons_succ, List.set_cons_zero]; rfl) ?_
       · trivial)
    | (refine Ord.calm (v := ?_) hS rfl (fun V hV => ?_) (fun V hV f hf => ?_) (by simp only [Act.put, List.setIfInBounds_toArray, List.set_cons_succ, List.set_cons_zero]; rfl) ?_
       rotate_left
       · first
         | (go_simp; with_reducible rfl)
         | (have c18 : V.cell? ⟨b, 18, none⟩ = some (.slice (some ⟨gb, 0, none⟩) S.ths.length L.c6) := (by rw [(hV.cell 18).1]; simp [hV.h6]); have c20 : V.cell? ⟨b, 20, none⟩ = some (.int .i64 k) := (hV.cell 20).1; go_simp; with_reducible rfl)
         | (go_simp; refine (if_pos ?hc).trans ?_; omega; with_reducible rfl)
       · trivial))
  simp only [Ord, Exit.then]
  go_wp2
  go_ret
  exact ⟨rfl, rfl⟩

end Go.Proofs.YtnbgpopjnpdmgaaGreat

namespace Go.Proofs.YtnbgpopjnpdmgaaGreat
open Go Go.RowKit Go.Shelf

/-- Its thread k is another. -/
def St.mod (S : St) (k : Nat) (f : Th → Th) : St := { S with ths := S.ths.modify k f }
def Th.at (pc : Int) (t : Th) : Th := { t with pc := pc }
def Th.on (t : Th) : Th := { t with tries := min (t.tries + 1) 1099511627776 }
def Th.rg (r : Int) (t : Th) : Th := { t with reg := r }
def Th.sn (r : Int) (t : Th) : Th := { t with seen := r }
def Th.gt (r : Int) (t : Th) : Th := { t with got := r }
theorem mod_set {S : St} {k : Nat} {t : Th} (ht : S.ths[k]? = some t) (f : Th → Th) : S.mod k f = S.setTh k (f t) := by
  obtain ⟨hk, he⟩ := List.getElem?_eq_some_iff.1 ht
  have : S.ths.modify k f = S.ths.set k (f t) := by
    apply List.ext_getElem?
    intro j
    rw [List.getElem?_modify, List.getElem?_set]
    by_cases h : k = j
    · subst h
      simp [hk, he]
    · simp [h]
  simp only [St.mod, St.setTh, this]
theorem mod_get {S : St} {k : Nat} {t : Th} (ht : S.ths[k]? = some t) (f : Th → Th) : (S.mod k f).ths[k]? = some (f t) := by simp [St.mod, ht]
theorem mod_len (S : St) (k : Nat) (f : Th → Th) : (S.mod k f).ths.length = S.ths.length := by simp [St.mod]
theorem mod_small {S : St} {k : Nat} {f : Th → Th} (h : S.small) : (S.mod k f).small := ⟨h.1, h.2.1, h.2.2.1, h.2.2.2.1, h.2.2.2.2.1, by rw [mod_len]; exact h.2.2.2.2.2.1, h.2.2.2.2.2.2⟩
theorem tell_len (S : St) (id kind r o : Int) : (S.tell id kind r o).ths.length = S.ths.length := by
  unfold St.tell
  split
  · split <;> simp [St.setTh]
  · rfl
theorem wake_len (S : St) (id : Int) : (S.wakeAt id).ths.length = S.ths.length := by
  unfold St.wakeAt
  repeat' split
  all_goals simp [St.setTh]
/-- Behind a walk of base: a state, and who steps in it. -/
def Ran (T : TypeId) (base b k : Nat) (S : St) (w w' : World) : Prop := ∃ L gb, RunAt T base b gb S L k w' ∧ Below base w w'
theorem RunAt.ran {T : TypeId} {base b gb : Nat} {S : St} {L : Lay} {k : Nat} {w W : World} (h : RunAt T base b gb S L k W) (hb : Below base w W) : Ran T base b k S w W := ⟨L, gb, h, hb⟩
theorem Ran.trans {T : TypeId} {base b k : Nat} {S : St} {w w1 w2 : World} (h : Ran T base b k S w1 w2) (hb : Below base w w1) : Ran T base b k S w w2 := by
  obtain ⟨L, gb, h1, h2⟩ := h
  exact ⟨L, gb, h1, hb.trans h2⟩
theorem RunAt.mod {T : TypeId} {base b gb : Nat} {S : St} {L : Lay} {k : Nat} {W : World} {t : Th} (h : RunAt T base b gb S L k W) (ht : S.ths[k]? = some t) (f : Th → Th) (j : Nat) (v : Value) (hj : j < 11) (hx : t.list.set j v = (f t).list) : RunAt T base b gb (S.mod k f) L k (W.setCell ⟨gb, k * 11 + j, none⟩ v) := by
  rw [mod_set ht]
  exact h.set ht j v hj hx
/-- The box is written. -/
theorem RunAt.box {T : TypeId} {base b gb : Nat} {S S' : St} {L L' : Lay} {k : Nat} {W W' : World} (h : RunAt T base b gb S L k W) (hb' : W'.heap[b]? = some (.cells (S'.cells21 L' k) T (0, 0))) (hs : ∀ j, j ≠ b → W'.heap[j]? = W.heap[j]?) (ho : Owns W base S' L') (e6 : L'.a6 = L.a6) (en : S'.ths.length = S.ths.length) : RunAt T base b gb S' L' k W' :=
  ⟨hb', ho.put h.hb h.ok hs, h.le, e6.trans h.h6, by rw [en]; exact h.hk, h.ok⟩
theorem one_cell (W : World) (b i : Nat) (v : Value) : ∀ j, j ≠ b → (W.setCell ⟨b, i, none⟩ v).heap[j]? = W.heap[j]? := fun j hj => Below.heap_setCell W ⟨b, i, none⟩ v j hj
theorem two_cells (W : World) (b i i' : Nat) (v v' : Value) : ∀ j, j ≠ b → ((W.setCell ⟨b, i, none⟩ v).setCell ⟨b, i', none⟩ v').heap[j]? = W.heap[j]? := fun j hj => (one_cell _ b i' v' j hj).trans (one_cell W b i v j hj)
theorem three_cells (W : World) (b i i' i2 : Nat) (v v' v2 : Value) : ∀ j, j ≠ b → (((W.setCell ⟨b, i, none⟩ v).setCell ⟨b, i', none⟩ v').setCell ⟨b, i2, none⟩ v2).heap[j]? = W.heap[j]? := fun j hj => (one_cell _ b i2 v2 j hj).trans (two_cells W b i i' v v' j hj)
section
variable {T : TypeId} {base b gb : Nat} {S : St} {L : Lay} {k : Nat} {W : World} {A : Option Addr} {c : Nat}
theorem RunAt.putSends {l : List Int} (h : RunAt T base b gb S L k W) (m : Mine W base 3 1 A c l.length (ints l)) : RunAt T base b gb { S with sends := l } { L with a2 := A, c2 := c } k (W.setCell ⟨b, 11, none⟩ (.slice A l.length c)) :=
  h.box (put_cell (i := 11) h.hb _) (one_cell W b 11 _) (Owns.of h.ho.m1 m h.ho.m3 h.ho.m4 h.ho.m5 h.ho.m6 h.ho.m7) rfl rfl
theorem RunAt.putRecvs {l : List Int} (h : RunAt T base b gb S L k W) (m : Mine W base 3 1 A c l.length (ints l)) : RunAt T base b gb { S with recvs := l } { L with a3 := A, c3 := c } k (W.setCell ⟨b, 12, none⟩ (.slice A l.length c)) :=
  h.box (put_cell (i := 12) h.hb _) (one_cell W b 12 _) (Owns.of h.ho.m1 h.ho.m2 m h.ho.m4 h.ho.m5 h.ho.m6 h.ho.m7) rfl rfl
theorem RunAt.putSlots {l : List Pl} (h : RunAt T base b gb S L k W) (m : Mine W base 65 2 A c l.length (pls l)) : RunAt T base b gb { S with slots := l } { L with a1 := A, c1 := c } k (W.setCell ⟨b, 10, none⟩ (.slice A l.length c)) :=
  h.box (put_cell (i := 10) h.hb _) (one_cell W b 10 _) (Owns.of m h.ho.m2 h.ho.m3 h.ho.m4 h.ho.m5 h.ho.m6 h.ho.m7) rfl rfl
theorem RunAt.putFull {l : List Int} {ep : Int} (h : RunAt T base b gb S L k W) (m : Mine W base 3 1 A c l.length (ints l)) : RunAt T base b gb { S with fe := ep, fl := l } { L with a4 := A, c4 := c } k ((W.setCell ⟨b, 13, none⟩ (.int .i64 ep)).setCell ⟨b, 14, none⟩ (.slice A l.length c)) :=
  h.box (put_cell (i := 14) (put_cell (i := 13) h.hb (.int .i64 ep)) _) (two_cells W b 13 14 _ _) (Owns.of h.ho.m1 h.ho.m2 h.ho.m3 m h.ho.m5 h.ho.m6 h.ho.m7) rfl rfl
theorem RunAt.putEmpty {l : List Int} {ep : Int} (h : RunAt T base b gb S L k W) (m : Mine W base 3 1 A c l.length (ints l)) : RunAt T base b gb { S with ee := ep, el := l } { L with a5 := A, c5 := c } k ((W.setCell ⟨b, 15, none⟩ (.int .i64 ep)).setCell ⟨b, 16, none⟩ (.slice A l.length c)) :=
  h.box (put_cell (i := 16) (put_cell (i := 15) h.hb (.int .i64 ep)) _) (two_cells W b 15 16 _ _) (Owns.of h.ho.m1 h.ho.m2 h.ho.m3 h.ho.m4 m h.ho.m6 h.ho.m7) rfl rfl
theorem RunAt.putWord {x : W3} (h : RunAt T base b gb S L k W) : RunAt T base b gb { S with word := x } L k (((W.setCell ⟨b, 7, none⟩ (.int .i64 x.head)).setCell ⟨b, 8, none⟩ (.int .i64 x.tail)).setCell ⟨b, 9, none⟩ (.int .i64 x.mode)) :=
  h.box (put_cell (i := 9) (put_cell (i := 8) (put_cell (i := 7) h.hb (.int .i64 x.head)) (.int .i64 x.tail)) _) (three_cells W b 7 8 9 _ _ _) (Owns.of h.ho.m1 h.ho.m2 h.ho.m3 h.ho.m4 h.ho.m5 h.ho.m6 h.ho.m7) rfl rfl
end
theorem box_below {T : TypeId} {base b gb : Nat} {S : St} {L : Lay} {k : Nat} {W W' : World} (h : RunAt T base b gb S L k W) (hs : ∀ j, j ≠ b → W'.heap[j]? = W.heap[j]?) (h1 : W'.os = W.os) (h2 : W'.tape = W.tape) (h3 : W'.output = W.output) (h4 : W.heap.size ≤ W'.heap.size) : Below base W W' := ⟨h1, h2, h3, h4, fun j hj => hs j (by have := h.le; omega)⟩
theorem loadBox {T : TypeId} {base b gb : Nat} {S : St} {L : Lay} {k : Nat} {W : World} (h : RunAt T base b gb S L k W) {a : Act} {x : Operand} {dst : Option Tmp} {ty : TypeId} {ps : String} {af : Array Edge} (hx : a.eval x = .pointer (some ⟨b, 0, none⟩)) :
    (execOp a.eval (Oper.mk dst (.load 36 x) ty ps af none)).run Tryz.prog W = .ok (.value (.agg (S.cells L))) W := by
  have hl := run_loadCells_list (P := Tryz.prog) W ⟨b, 0, none⟩ (S.cells L).toList (fun j v hj => by rw [Addr.add_lit]; exact h.load j v hj)
  have e : (S.cells L).toList.length = 20 := rfl
  rw [e] at hl
  unfold loadCells at hl
  have h1 := Tryz.isAgg36
  have h2 := Tryz.sizeOf36
  simp [execOp, hx, Instr.loadAt, Instr.sureAddr, loadVar, loadCells, h1, h2, hl]
/-- Its thread is stored whole. -/
theorem RunAt.stored {T : TypeId} {base b gb : Nat} {S : St} {L : Lay} {k : Nat} {W V : World} {t : Th} (h : RunAt T base b gb S L k W) (hm : Mine V base 51 11 (some ⟨gb, 0, none⟩) L.c6 S.ths.length (Go.Proofs.YtnbgpopjnpdmgaaGreat.ths (S.ths.set k t))) (hg : W.grownBy V (some gb)) : RunAt T base b gb (S.setTh k t) L k V := by
  have hbb := h.base_le
  have hb2 := (hg.block b hbb.2.2.2.1 (by have := hbb.2.2.1; simpa using this)).trans h.hb
  refine ⟨?_, h.ho.setTh hg h.h6 (by rw [h.h6]; exact hm), h.le, h.h6, by simpa [St.setTh] using h.hk, h.ok⟩
  have e : (S.setTh k t).cells21 L k = S.cells21 L k := by simp [St.setTh, St.cells21]
  rw [e]
  exact hb2
/-- Another state lies in the box. -/
theorem RunAt.state {T : TypeId} {base b gb B : Nat} {S S' : St} {L L' : Lay} {k : Nat} {W V : World} (h : RunAt T base b gb S L k W) (hbV : V.heap[b]? = some (.cells (S'.cells21 L' k) T (0, 0))) (hoth : ∀ j, j ≠ b → V.heap[j]? = W.heap[j]?) (ho : Owns W B S' L') (hB : base ≤ B) (hn : S'.ths.length = S.ths.length) : ∃ gb', RunAt T base b gb' S' L' k V := by
  have ho2 : Owns V base S' L' := (ho.mono hB).put h.hb h.ok hoth
  have hk := h.hk
  obtain ⟨g, h6⟩ := ho2.form6 (by omega)
  exact ⟨g, hbV, ho2, h.le, h6, by omega, h.ok⟩

theorem go_s (S : St) (L : Lay) (base b gb k : Nat) (pc : Int) (w : World) (hR : RunAt 157 base b gb (S) L k w) : Calls Tryz.prog 139 #[.pointer (some ⟨b, 0, none⟩), .int .i64 pc] w fun e w' => e = .returned (.tuple #[]) ∧ RunAt 157 base b gb (S.mod k (Th.at pc)) L k w' ∧ Below base w w' := by
  obtain ⟨t, ht⟩ := hR.the
  refine (at_s S L base b gb k t pc w hR ht).mono ?_
  rintro e w' ⟨rfl, h, hb⟩
  rw [mod_set ht]
  exact ⟨rfl, h, hb⟩

theorem try_s (S : St) (L : Lay) (base b gb k : Nat) (t : Th) (w : World) (hR : RunAt 157 base b gb (S) L k w) (ht : S.ths[k]? = some t) (hr : 0 ≤ t.tries ∧ t.tries ≤ 1099511627776) : Calls Tryz.prog 142 #[.pointer (some ⟨b, 0, none⟩)] w fun e w' => e = .returned (.tuple #[]) ∧ RunAt 157 base b gb (S.mod k Th.on) L k w' ∧ Below base w w' := by
  refine (on_s S L base b gb k t w hR ht hr).mono ?_
  rintro e w' ⟨rfl, h, hb⟩
  rw [mod_set ht]
  exact ⟨rfl, h, hb⟩

set_option maxRecDepth 100000 in
set_option maxHeartbeats 2000000 in
theorem tell_s (S : St) (L : Lay) (base b gb k : Nat) (kind r o pc : Int) (w : World) (hR : RunAt 157 base b gb (S) L k w) (hsm : S.small) :
    Calls Tryz.prog 146 #[.pointer (some ⟨b, 0, none⟩), .int .i64 kind, .int .i64 r, .int .i64 o, .int .i64 pc] w fun e w' => e = .returned (.tuple #[]) ∧ Ran 157 base b k ((S.tell k kind r o).mod k (Th.at pc)) w w' := by
  generalize hS2 : S.tell k kind r o = S2 at *
  have hn : S2.ths.length = S.ths.length := by rw [← hS2]; exact tell_len ..
  go_enter Tryz.func146, Tryz.ntmps146
  go_wp2_with fail
  refine wp_region_ord3 (RunAt 157 base b gb S L k) (fun _ => True) 15 (by kernel_rfl)
    [(2, 0), (2, 1), (2, 2), (2, 3), (2, 5), (2, 6), (2, 7), (2, 9), (2, 10), (2, 11), (1, 4), (1, 8), (0, 12), (2, 13), (2, 14), (0, 15)]
    (by kernel_rfl) (by kernel_rfl) (by decide) (by kernel_rfl) (fun _ _ d _ _ h => by cases d <;> exact h) ?_
  simp only [inOrder2, List.getElem?_cons_succ, List.getElem?_cons_zero, List.nil_append, List.cons_append]
  have hB0 := (Below.refl base w).drew
  have hS := hR.drew
  have hsz0 := hR.base_le.2.2.2.2
  have hsz1 : base ≤ w.drew.heap.size := hsz0
  clear hR
  generalize w.drew = w0 at *
  iterate 10 (((with_reducible refine o3_calmF (v := ?_) (a' := ?_) hS ?_ (fun V => ?_) ?_ ?_); rotate_left 2; (rfl); (first | (go_simp; with_reducible rfl) | (go_simp; refine (if_pos ?_).trans ?_; omega; with_reducible rfl)); (simp only [Act.put, List.setIfInBounds_toArray, List.set_cons_succ, List.set_cons_zero] <;> rfl)))
  ((with_reducible refine o3_pre (v := .agg (S.cells L)) (a' := ?_) hS ?_ (fun V hV => ?_) ?_ ?_); rotate_left; (focus rfl); (focus (exact loadBox hV rfl)); (focus (simp only [Act.put, List.setIfInBounds_toArray, List.set_cons_succ, List.set_cons_zero] <;> rfl)))
  ((with_reducible refine o3_pre (v := ?_) (a' := ?_) hS ?_ (fun V hV => ?_) ?_ ?_); rotate_left 2; (rfl); (have c20 : V.cell? ⟨b, 20, none⟩ = some (.int .i64 k) := (hV.cell 20).1; first | (go_simp; with_reducible rfl) | (go_simp; refine (if_pos ?_).trans ?_; omega; with_reducible rfl)); (simp only [Act.put, List.setIfInBounds_toArray, List.set_cons_succ, List.set_cons_zero] <;> rfl))
  refine o3_onlyF rfl rfl ?_
  go_simp
  refine ⟨trivial, rfl, (callsIn_wide.2 (tell_any S L k kind r o _ hsm hS.ho.holds)).mono ?_⟩
  rw [hS2]
  rintro e w1 ⟨L1, rfl, ho1, hb1⟩
  replace hS := hS.on hb1
  refine ⟨hS, ?_⟩
  iterate 2 (((with_reducible refine o3_calmF (v := ?_) (a' := ?_) hS ?_ (fun V => ?_) ?_ ?_); rotate_left 2; (rfl); (first | (go_simp; with_reducible rfl) | (go_simp; refine (if_pos ?_).trans ?_; omega; with_reducible rfl)); (simp only [Act.put, List.setIfInBounds_toArray, List.set_cons_succ, List.set_cons_zero] <;> rfl)))
  obtain ⟨V, hst, hbV, hBV, hoth⟩ := run_store_state (S' := S2) (L' := L1) hS.hb hS.le
  refine o3_skipS rfl rfl (store36 hst rfl rfl rfl) rfl trivial ?_
  refine o3_end _ ?_
  try simp only [Exit.then]
  obtain ⟨gb2, hV⟩ := hS.state hbV hoth ho1 (by omega) hn
  have hB2 := (hB0.trans (hb1.mono (by omega))).trans hBV
  clear hS hst hoth ho1 hbV
  go_wp2_with (first
      | (go_at_call 139; (with_reducible refine (go_s S2 L1 base b gb2 k _ _ hV).mono ?_); rintro e w5 ⟨rfl, h5, hb5⟩))
  go_returns
  exact ⟨rfl, h5.ran (hB2.trans hb5)⟩

set_option maxRecDepth 100000 in
set_option maxHeartbeats 2000000 in
theorem ends_s (S : St) (L : Lay) (base b gb k : Nat) (r : Int) (w : World) (hR : RunAt 157 base b gb (S) L k w) (hsm : S.small) (t : Th) (ht : S.ths[k]? = some t) :
    Calls Tryz.prog 141 #[.pointer (some ⟨b, 0, none⟩), .int .i64 r] w fun e w' => e = .returned (.tuple #[]) ∧ Ran 157 base b k ((S.tell k t.kind r 0).mod k (Th.at 9)) w w' := by
  go_enter Tryz.func141, Tryz.ntmps141
  go_wp2_with (first
      | (go_at_call 119; (with_reducible refine (me_s S L base b gb k _ hR).mono ?_); rintro e w1 ⟨rfl, hw⟩; subst hw; have hR1 := hR.drew; obtain ⟨f1, -⟩ := hR1.field ht (j := 1) rfl)
      | (go_at_call 146; (with_reducible refine (tell_s S L base b gb k t.kind r 0 9 _ hR1 hsm).mono ?_); rintro e w5 ⟨rfl, h5⟩))
  go_returns
  exact ⟨rfl, h5.trans (Below.refl base w).drew⟩

theorem go_r (S : St) (L : Lay) (base b gb k : Nat) (pc : Int) (w : World) (hR : RunAt 161 base b gb (S) L k w) : Calls Tryz.prog 155 #[.pointer (some ⟨b, 0, none⟩), .int .i64 pc] w fun e w' => e = .returned (.tuple #[]) ∧ RunAt 161 base b gb (S.mod k (Th.at pc)) L k w' ∧ Below base w w' := by
  obtain ⟨t, ht⟩ := hR.the
  refine (at_r S L base b gb k t pc w hR ht).mono ?_
  rintro e w' ⟨rfl, h, hb⟩
  rw [mod_set ht]
  exact ⟨rfl, h, hb⟩

theorem try_r (S : St) (L : Lay) (base b gb k : Nat) (t : Th) (w : World) (hR : RunAt 161 base b gb (S) L k w) (ht : S.ths[k]? = some t) (hr : 0 ≤ t.tries ∧ t.tries ≤ 1099511627776) : Calls Tryz.prog 158 #[.pointer (some ⟨b, 0, none⟩)] w fun e w' => e = .returned (.tuple #[]) ∧ RunAt 161 base b gb (S.mod k Th.on) L k w' ∧ Below base w w' := by
  refine (on_r S L base b gb k t w hR ht hr).mono ?_
  rintro e w' ⟨rfl, h, hb⟩
  rw [mod_set ht]
  exact ⟨rfl, h, hb⟩

set_option maxRecDepth 100000 in
set_option maxHeartbeats 2000000 in
theorem tell_r (S : St) (L : Lay) (base b gb k : Nat) (r o pc : Int) (w : World) (hR : RunAt 161 base b gb (S) L k w) (hsm : S.small) (t : Th) (ht : S.ths[k]? = some t) :
    Calls Tryz.prog 183 #[.pointer (some ⟨b, 0, none⟩), .int .i64 r, .int .i64 o, .int .i64 pc] w fun e w' => e = .returned (.tuple #[]) ∧ Ran 161 base b k ((S.tell k t.kind r o).mod k (Th.at pc)) w w' := by
  generalize hS2 : S.tell k t.kind r o = S2 at *
  have hn : S2.ths.length = S.ths.length := by rw [← hS2]; exact tell_len ..
  go_enter Tryz.func183, Tryz.ntmps183
  go_wp2_with fail
  refine wp_region_ord3 (RunAt 161 base b gb S L k) (fun _ => True) 19 (by kernel_rfl)
    [(2, 0), (2, 1), (2, 2), (2, 3), (2, 5), (2, 6), (2, 7), (2, 9), (2, 14), (2, 15), (1, 4), (1, 8), (0, 10), (2, 11), (2, 12), (1, 13), (0, 16), (2, 17), (2, 18), (0, 19)]
    (by kernel_rfl) (by kernel_rfl) (by decide) (by kernel_rfl) (fun _ _ d _ _ h => by cases d <;> exact h) ?_
  simp only [inOrder2, List.getElem?_cons_succ, List.getElem?_cons_zero, List.nil_append, List.cons_append]
  have hB0 := (Below.refl base w).drew
  have hS := hR.drew
  have hsz0 := hR.base_le.2.2.2.2
  have hsz1 : base ≤ w.drew.heap.size := hsz0
  clear hR
  generalize w.drew = w0 at *
  iterate 10 (((with_reducible refine o3_calmF (v := ?_) (a' := ?_) hS ?_ (fun V => ?_) ?_ ?_); rotate_left 2; (rfl); (first | (go_simp; with_reducible rfl) | (go_simp; refine (if_pos ?_).trans ?_; omega; with_reducible rfl)); (simp only [Act.put, List.setIfInBounds_toArray, List.set_cons_succ, List.set_cons_zero] <;> rfl)))
  ((with_reducible refine o3_pre (v := .agg (S.cells L)) (a' := ?_) hS ?_ (fun V hV => ?_) ?_ ?_); rotate_left; (focus rfl); (focus (exact loadBox hV rfl)); (focus (simp only [Act.put, List.setIfInBounds_toArray, List.set_cons_succ, List.set_cons_zero] <;> rfl)))
  ((with_reducible refine o3_pre (v := ?_) (a' := ?_) hS ?_ (fun V hV => ?_) ?_ ?_); rotate_left 2; (rfl); (have c20 : V.cell? ⟨b, 20, none⟩ = some (.int .i64 k) := (hV.cell 20).1; have f1 := (hV.field ht (j := 1) rfl).1; first | (go_simp; with_reducible rfl) | (go_simp; refine (if_pos ?_).trans ?_; omega; with_reducible rfl)); (simp only [Act.put, List.setIfInBounds_toArray, List.set_cons_succ, List.set_cons_zero] <;> rfl))
  refine o3_onlyF rfl rfl ?_
  go_simp
  refine ⟨trivial, rfl, (callsIn_wide.2 (me_r S L base b gb k _ hS)).mono ?_⟩
  rintro e w9 ⟨rfl, hw⟩
  subst hw
  replace hS := hS.drew
  replace hB0 := hB0.drew
  have hsz2 : base ≤ w0.drew.heap.size := hsz1
  refine ⟨hS, ?_⟩
  generalize w0.drew = w3 at *
  iterate 2 (((with_reducible refine o3_calmF (v := ?_) (a' := ?_) hS ?_ (fun V => ?_) ?_ ?_); rotate_left 2; (rfl); (first | (go_simp; with_reducible rfl) | (go_simp; refine (if_pos ?_).trans ?_; omega; with_reducible rfl)); (simp only [Act.put, List.setIfInBounds_toArray, List.set_cons_succ, List.set_cons_zero] <;> rfl)))
  ((with_reducible refine o3_pre (v := ?_) (a' := ?_) hS ?_ (fun V hV => ?_) ?_ ?_); rotate_left 2; (rfl); (have c20 : V.cell? ⟨b, 20, none⟩ = some (.int .i64 k) := (hV.cell 20).1; have f1 := (hV.field ht (j := 1) rfl).1; first | (go_simp; with_reducible rfl) | (go_simp; refine (if_pos ?_).trans ?_; omega; with_reducible rfl)); (simp only [Act.put, List.setIfInBounds_toArray, List.set_cons_succ, List.set_cons_zero] <;> rfl))
  refine o3_onlyF rfl rfl ?_
  go_simp
  refine ⟨trivial, rfl, (callsIn_wide.2 (tell_any S L k t.kind r o _ hsm hS.ho.holds)).mono ?_⟩
  rw [hS2]
  rintro e w1 ⟨L1, rfl, ho1, hb1⟩
  replace hS := hS.on hb1
  refine ⟨hS, ?_⟩
  iterate 2 (((with_reducible refine o3_calmF (v := ?_) (a' := ?_) hS ?_ (fun V => ?_) ?_ ?_); rotate_left 2; (rfl); (first | (go_simp; with_reducible rfl) | (go_simp; refine (if_pos ?_).trans ?_; omega; with_reducible rfl)); (simp only [Act.put, List.setIfInBounds_toArray, List.set_cons_succ, List.set_cons_zero] <;> rfl)))
  obtain ⟨V, hst, hbV, hBV, hoth⟩ := run_store_state (S' := S2) (L' := L1) hS.hb hS.le
  refine o3_skipS rfl rfl (store36 hst rfl rfl rfl) rfl trivial ?_
  refine o3_end _ ?_
  try simp only [Exit.then]
  obtain ⟨gb2, hV⟩ := hS.state hbV hoth ho1 (by omega) hn
  have hB2 := (hB0.trans (hb1.mono (by omega))).trans hBV
  clear hS hst hoth ho1 hbV
  go_wp2_with (first
      | (go_at_call 155; (with_reducible refine (go_r S2 L1 base b gb2 k _ _ hV).mono ?_); rintro e w5 ⟨rfl, h5, hb5⟩))
  go_returns
  exact ⟨rfl, h5.ran (hB2.trans hb5)⟩

set_option maxRecDepth 100000 in
set_option maxHeartbeats 2000000 in
theorem ends_r (S : St) (L : Lay) (base b gb k : Nat) (r : Int) (w : World) (hR : RunAt 161 base b gb (S) L k w) (hsm : S.small) (t : Th) (ht : S.ths[k]? = some t) :
    Calls Tryz.prog 157 #[.pointer (some ⟨b, 0, none⟩), .int .i64 r] w fun e w' => e = .returned (.tuple #[]) ∧ Ran 161 base b k ((S.tell k t.kind r 0).mod k (Th.at 9)) w w' := by
  go_enter Tryz.func157, Tryz.ntmps157
  go_wp2_with (first
      | (go_at_call 183; (with_reducible refine (tell_r S L base b gb k r 0 9 _ hR hsm t ht).mono ?_); rintro e w5 ⟨rfl, h5⟩))
  go_returns
  exact ⟨rfl, h5⟩

set_option maxRecDepth 100000 in
set_option maxHeartbeats 2000000 in
theorem room_s (S : St) (L : Lay) (base b gb k : Nat) (w : World) (hR : RunAt 157 base b gb (S) L k w) :
    Calls Tryz.prog 143 #[.pointer (some ⟨b, 0, none⟩)] w fun e w' => e = .returned (.int .i64 S.slots.length) ∧ w' = w := by
  have c10 := (hR.cell 10).1
  go_enter Tryz.func143, Tryz.ntmps143
  go_wp2
  go_ret
  exact ⟨rfl, rfl⟩

end Go.Proofs.YtnbgpopjnpdmgaaGreat
