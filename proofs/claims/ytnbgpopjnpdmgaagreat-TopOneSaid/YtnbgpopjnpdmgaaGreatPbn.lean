/-
  DERIVED. DueMap, Told.
-/
import Derived.Maps.RangeWalk
import Derived.Maps.RangeRun
import Derived.MapFrom
import Derived.Test.YtnbgpopjnpdmgaaGreatPbl
set_option linter.unusedVariables false
set_option linter.unusedSimpArgs false

namespace Go.Proofs.YtnbgpopjnpdmgaaGreat
open Go Go.RowKit Go.Shelf

open Go.ChangeMaps (setBlock)
/-- A map whose keys are numbers and whose values are of a make. -/
def MapV (mb n : Nat) (V : Value → Prop) (W : World) : Prop :=
  ∃ es clock, W.heap[mb]? = some (.map es clock) ∧ es.size ≤ n ∧ MapKept.Stamped es clock ∧ MapFrom.Passes (fun k => MapKept.IsKey (.int .i64) k) V es
theorem isKey_int (k : Int) : MapKept.IsKey (.int .i64) (.int .i64 k) := rfl
theorem MapV.new (W : World) (V : Value → Prop) : MapV W.heap.size 0 V (W.alloc (.map #[] 0)) := ⟨#[], 0, World.alloc_heap_new W _, by simp, MapKept.stamped_empty 0, MapFrom.passes_empty _ _⟩
theorem MapV.on {mb n : Nat} {V : Value → Prop} {W W' : World} (h : MapV mb n V W) (hb : W'.heap[mb]? = W.heap[mb]?) : MapV mb n V W' := by
  obtain ⟨es, clock, h1, h2, h3, h4⟩ := h
  exact ⟨es, clock, hb.trans h1, h2, h3, h4⟩
theorem MapV.lt {mb n : Nat} {V : Value → Prop} {W : World} (h : MapV mb n V W) : mb < W.heap.size := by
  obtain ⟨es, clock, h1, -⟩ := h
  exact (Array.getElem?_eq_some_iff.1 h1).1
theorem MapV.more {mb n m : Nat} {V : Value → Prop} {W : World} (h : MapV mb n V W) (hm : n ≤ m) : MapV mb m V W := by
  obtain ⟨es, clock, h1, h2, h3, h4⟩ := h
  exact ⟨es, clock, h1, by omega, h3, h4⟩
/-- The world, or the world with one draw more. -/
def StepW (w w1 : World) : Prop := w1 = w ∨ w1 = w.drew
/-- A step out of what is left. -/
def InLeft (es : Array MapEntry) (seen : Array Nat) (e : MapEntry) : Prop := e ∈ (leftOf es seen).toList
/-- Only one block has changed. -/
structure One (mb : Nat) (W W' : World) : Prop where
  os : W'.os = W.os
  tape : W'.tape = W.tape
  output : W'.output = W.output
  size : W'.heap.size = W.heap.size
  block : ∀ j, j ≠ mb → W'.heap[j]? = W.heap[j]?
theorem One.below {mb base : Nat} {W W' : World} (h : One mb W W') (hb : base ≤ mb) : Below base W W' := ⟨h.os, h.tape, h.output, by rw [h.size]; exact Nat.le_refl _, fun j hj => h.block j (by omega)⟩
section
variable {P : Program} {w : World} {ops : Array Oper} {rest : List Oper} {o : Oper} {a : Act} {Q : Exit → Act → World → Prop} {mb n : Nat} {V : Value → Prop} {mty kt et : TypeId}
theorem upd_run (hm : P.underlying mty = some (.map kt et)) (hd : P.underlying kt = some (.int .i64)) (h : MapV mb n V w) (k : Int) (v : Value) (hv : V v) :
    ∃ w', (Instr.mapUpdate mty (.map (some mb)) (.int .i64 k) v).run P w = .ok () w' ∧ MapV mb (n + 1) V w' ∧ One mb w w' := by
  obtain ⟨es, clock, hb, hn, hs, hp⟩ := h
  have hks : ∀ x ∈ es.toList, MapKept.IsKey (.int .i64) x.key := fun x hx => (hp x hx).1
  have hk := isKey_int k
  have hrun : ∃ es' clock', (Instr.mapUpdate mty (.map (some mb)) (.int .i64 k) v).run P w = .ok () { w with heap := w.heap.setIfInBounds mb (.map es' clock') } := by
    rcases MapKept.findNow_spec hk es.toList 0 hks with ⟨h1, h2⟩ | ⟨j, e, h1, h2, h3⟩
    · exact ⟨_, _, by simp [Instr.mapUpdate, run_underlying hm, MapKept.run_getObj_map hb, MapKept.run_checkKey hd hk, MapKept.run_findKey hd h1, MapKept.run_setObj_map _ hb, Result.andThen]; rfl⟩
    · have hj : es[j]? = some e := by simpa using h2
      exact ⟨_, _, by simp [Instr.mapUpdate, run_underlying hm, MapKept.run_getObj_map hb, MapKept.run_checkKey hd hk, MapKept.run_findKey hd h1, hj, h3, MapKept.run_keyThatStays hk, MapKept.run_setObj_map _ hb, Result.andThen]; rfl⟩
  obtain ⟨es', clock', hrun⟩ := hrun
  obtain ⟨e1, k1, a1, a2, a3⟩ := MapFrom.mapUpdate_passes (K := fun k => MapKept.IsKey (.int .i64) k) (V := V) hm hd hb hks hk hp hk hv hrun
  obtain ⟨e2, k2, b1, b2, b3, b4⟩ := MapKept.mapUpdate_keeps hm hd hb hs hks hk hrun
  rw [a1] at b1
  injection b1 with b1
  injection b1 with b1 b5
  subst b1
  subst b5
  exact ⟨_, hrun, ⟨e1, k1, a1, by omega, b2, a2⟩, ⟨rfl, rfl, rfl, by simp, fun j hj => (MapKept.heap_set hb).2 j hj⟩⟩
theorem del_run {ty : TypeId} (hm : P.underlying mty = some (.map kt et)) (hd : P.underlying kt = some (.int .i64)) (h : MapV mb n V w) (k : Int) :
    ∃ w', (Builtin.delete_ #[mty, kt] ty #[.map (some mb), .int .i64 k]).run P w = .ok (.tuple #[]) w' ∧ MapV mb n V w' ∧ One mb w w' := by
  obtain ⟨es, clock, hb, hn, hs, hp⟩ := h
  have hks : ∀ x ∈ es.toList, MapKept.IsKey (.int .i64) x.key := fun x hx => (hp x hx).1
  have hk := isKey_int k
  rcases MapKept.findNow_spec hk es.toList 0 hks with ⟨h1, h2⟩ | ⟨j, e, h1, h2, h3⟩
  · refine ⟨{ w with heap := w.heap.setIfInBounds mb (.map es clock) }, by simp [Builtin.delete_, run_underlying hm, MapKept.run_getObj_map hb, MapKept.run_checkKey hd hk, MapKept.run_findKey hd h1, MapKept.run_setObj_map _ hb, Result.andThen], ⟨es, clock, (MapKept.heap_set hb).1, hn, hs, hp⟩, ⟨rfl, rfl, rfl, by simp, fun j hj => (MapKept.heap_set hb).2 j hj⟩⟩
  · refine ⟨{ w with heap := w.heap.setIfInBounds mb (.map (es.eraseIdxIfInBounds j) clock) }, by simp [Builtin.delete_, run_underlying hm, MapKept.run_getObj_map hb, MapKept.run_checkKey hd hk, MapKept.run_findKey hd h1, MapKept.run_setObj_map _ hb, Result.andThen], ⟨_, clock, (MapKept.heap_set hb).1, Nat.le_trans (MapFrom.size_erase es j) hn, MapKept.stamped_erase hs j, MapFrom.passes_erase hp j⟩, ⟨rfl, rfl, rfl, by simp, fun j hj => (MapKept.heap_set hb).2 j hj⟩⟩
theorem look_run (hm : P.underlying mty = some (.map kt et)) (hd : P.underlying kt = some (.int .i64)) (h : MapV mb n V w) (k : Int) (z : Value) (hz : (zeroValue et).run P w = .ok z w) (hV : V z) (ok : Bool) :
    ∃ v b, V v ∧ (Instr.lookup mty (.map (some mb)) (.int .i64 k) ok).run P w = .ok (if ok then .tuple #[v, .bool b] else v) w := by
  obtain ⟨es, clock, hb, hn, hs, hp⟩ := h
  have hks : ∀ x ∈ es.toList, MapKept.IsKey (.int .i64) x.key := fun x hx => (hp x hx).1
  have hk := isKey_int k
  rcases MapKept.findNow_spec hk es.toList 0 hks with ⟨h1, h2⟩ | ⟨j, e, h1, h2, h3⟩
  · exact ⟨z, false, hV, by simp [Instr.lookup, run_underlying hm, MapKept.run_getObj_map hb, MapKept.run_checkKey hd hk, MapKept.run_findKey hd h1, hz, Result.andThen]⟩
  · have hj : es[j]? = some e := by simpa using h2
    exact ⟨e.val, true, (hp e (MapFrom.at_mem hj)).2, by simp [Instr.lookup, run_underlying hm, MapKept.run_getObj_map hb, MapKept.run_checkKey hd hk, MapKept.run_findKey hd h1, Result.andThen]⟩
theorem wpList_upd (hg : o.guard = none) (m x v : Operand) (hop : o.op = Op.mapUpdate mty m x v) (hm : P.underlying mty = some (.map kt et)) (hd : P.underlying kt = some (.int .i64)) (h : MapV mb n V w) (hme : a.eval m = .map (some mb)) (k : Int) (hx : a.eval x = .int .i64 k) (val : Value) (hv : a.eval v = val) (hV : V val)
    (hK : ∀ w', MapV mb (n + 1) V w' → One mb w w' → wpList P ops Q rest (a.put o.dst undef) w') : wpList P ops Q (o :: rest) a w := by
  refine wpList_plain hg fun K' hK' => ?_
  obtain ⟨w', hrun, h1, h2⟩ := upd_run hm hd h k val hV
  unfold Oper.wp
  simp [execOp, hop, hme, hx, hv, hrun, Result.andThen]
  exact hK' _ _ (hK w' h1 h2)
theorem left_less {es : Array MapEntry} {seen : Array Nat} {e : MapEntry} (he : e ∈ (leftOf es seen).toList) : (leftOf es (seen.push e.born)).size < (leftOf es seen).size := by
  have h1 : (leftOf es (seen.push e.born)).toList = (leftOf es seen).toList.filter (fun x => !(x.born == e.born)) := by
    simp only [leftOf, Array.toList_filter, List.filter_filter]
    apply List.filter_congr
    intro x _
    by_cases h : x.born = e.born <;> simp [h]
  rw [← Array.length_toList, ← Array.length_toList, h1]
  have h2 := List.length_filter_lt_length_iff_exists (p := fun x : MapEntry => !(x.born == e.born)) (l := (leftOf es seen).toList)
  exact h2.2 ⟨e, he, by simp⟩
theorem wpList_next_any (hg : o.guard = none) (it : Operand) (hop : o.op = Op.next it false) (r bm since c0 : Nat) (seen : Array Nat) (es : Array MapEntry) (clock : Nat) (hit : a.eval it = .pointer (some ⟨r, 0, none⟩))
    (hr : w.heap[r]? = some (.mapIter (some bm) since seen c0)) (hb : w.heap[bm]? = some (.map es clock)) (hold : ∀ x ∈ es.toList, x.born < since) (hsc : since ≤ c0)
    (h0 : wpList P ops Q rest (a.put o.dst (.tuple #[.bool false])) w)
    (h1 : ∀ e, InLeft es seen e → ∀ w1, StepW w w1 → wpList P ops Q rest (a.put o.dst (.tuple #[.bool true, e.key, e.val])) (setBlock w1 r (.mapIter (some bm) since (seen.push e.born) clock))) : wpList P ops Q (o :: rest) a w := by
  refine wpList_plain hg fun K' hK' => ?_
  unfold Oper.wp
  rcases run_next_at (P := P) w o.type r bm since c0 seen es clock hr hb hold hsc with ⟨-, hrun⟩ | ⟨e, he, w1, hw1, hrun⟩
  · simp [execOp, hop, hit, hrun, Result.andThen]
    exact hK' _ _ h0
  · simp [execOp, hop, hit, hrun, Result.andThen]
    exact hK' _ _ (h1 e he w1 hw1)
theorem wpList_entry_any (hg : o.guard = none) (it : Operand) (hop : o.op = Op.entry it) (r bm since : Nat) (seen : Array Nat) (es : Array MapEntry) (clock : Nat) (e : MapEntry) (hit : a.eval it = .pointer (some ⟨r, 0, none⟩))
    (hr : w.heap[r]? = some (.mapIter (some bm) since (seen.push e.born) clock)) (hb : w.heap[bm]? = some (.map es clock)) (he : e ∈ es.toList) (hn : (es.toList.map (·.born)).Nodup)
    (hK : wpList P ops Q rest (a.put o.dst (.tuple #[e.key, e.val])) w) : wpList P ops Q (o :: rest) a w := by
  refine wpList_plain hg fun K' hK' => ?_
  have hrun := run_entry_at (P := P) w r bm since seen es clock e hr hb he hn
  unfold Oper.wp
  simp [execOp, hop, hit, hrun, Result.andThen]
  exact hK' _ _ hK
end

end Go.Proofs.YtnbgpopjnpdmgaaGreat

namespace Go.Proofs.YtnbgpopjnpdmgaaGreat
open Go Go.RowKit Go.Shelf

open Go.ChangeMaps (setBlock)
def DuV (Q : Du → Prop) (v : Value) : Prop := ∃ d : Du, v = .agg d.cells.toArray ∧ Q d

theorem BelowBut.below {base B : Nat} {w w' : World} (h : BelowBut base B w w') (hB : base ≤ B) : Below base w w' := ⟨h.os, h.tape, h.output, h.size, fun j hj => h.block j hj (by omega)⟩
/-- A block that is no row of cells is another. -/
theorem PileX.swapOdd {base B r : Nat} {A : Option Addr} {c : Nat} {l : List Du} {W V : World} {o : Obj} (h : PileX base B A c l W) (hr : W.heap[r]? = some o) (ho : ∀ cs T fr, o ≠ Obj.cells cs T fr) (hV : ∀ j, j ≠ r → V.heap[j]? = W.heap[j]?) (hs : W.heap.size ≤ V.heap.size) : PileX base B A c l V := by
  refine ⟨Nat.le_trans h.le hs, (hV B (fun e => ?_)).trans h.hb, h.hm.grown fun g o' t hA => hV g (fun e => ?_)⟩
  · subst e
    rw [h.hb] at hr
    injection hr with hr
    exact ho _ _ _ hr.symm
  · subst e
    obtain ⟨cs, T, fr, h3⟩ := h.hm.isCells hA
    rw [h3] at hr
    injection hr with hr
    exact ho _ _ _ hr.symm
theorem mine_empty (W : World) (base g : Nat) (hg : W.heap[g]? = some (.cells #[] 141 (0, 0))) (hb : base ≤ g) : Mine W base 141 2 (some ⟨g, 0, none⟩) 0 0 [] :=
  ⟨by simp, .inr ⟨g, 0, #[], rfl, hb, hg, Nat.le_refl _, by simp [maxLen], by simp, by simp⟩⟩
theorem set_block {w1 w : World} (h : StepW w w1) {r : Nat} {o0 o : Obj} (hr : w.heap[r]? = some o0) :
    (setBlock w1 r o).heap[r]? = some o ∧ (∀ j, j ≠ r → (setBlock w1 r o).heap[j]? = w.heap[j]?) ∧ (setBlock w1 r o).heap.size = w.heap.size ∧ (setBlock w1 r o).os = w.os ∧ (setBlock w1 r o).tape = w.tape ∧ (setBlock w1 r o).output = w.output := by
  have hr1 : w1.heap[r]? = some o0 := by rcases h with rfl | rfl <;> exact hr
  have hh : w1.heap = w.heap := by rcases h with rfl | rfl <;> rfl
  refine ⟨(MapKept.heap_set hr1).1, fun j hj => ((MapKept.heap_set hr1).2 j hj).trans (by rw [hh]), by simp [setBlock, hh], ?_, ?_, ?_⟩
  all_goals (rcases h with rfl | rfl <;> rfl)

set_option maxRecDepth 100000 in
set_option maxHeartbeats 8000000 in
theorem told_any (Q : Du → Prop) (mb n : Nat) (w : World) (hM : MapV mb n (DuV Q) w) (hn : n ≤ 900) :
    Calls Tryz.prog 100 #[.map (some mb)] w fun e w' => ∃ (A' : Option Addr) (c' : Nat) (l' : List Du), e = .returned (.slice A' l'.length c') ∧ Mine w' w.heap.size 141 2 A' c' l'.length (dus l') ∧ l'.length ≤ n ∧ (∀ d ∈ l', Q d) ∧ Below w.heap.size w w' := by
  have hlt := hM.lt
  obtain ⟨es, clock, hb, hen, hst, hps⟩ := hM
  have hg0 := keep_alloc (World.alloc_heap_new w (.cells #[] 141)) (.cells #[.slice (some ⟨w.heap.size, 0, none⟩) 0 0] 175)
  have hs0 : (w.alloc (.cells #[] 141)).heap.size = w.heap.size + 1 := by simp
  have hB0 : ((w.alloc (.cells #[] 141)).alloc (.cells #[.slice (some ⟨w.heap.size, 0, none⟩) 0 0] 175)).heap[w.heap.size + 1]? = some (.cells #[.slice (some ⟨w.heap.size, 0, none⟩) 0 0] 175) := by
    have := World.alloc_heap_new (w.alloc (.cells #[] 141)) (.cells #[.slice (some ⟨w.heap.size, 0, none⟩) 0 0] 175)
    rwa [hs0] at this
  have hX0 : PileX w.heap.size (w.heap.size + 1) (some ⟨w.heap.size, 0, none⟩) 0 [] ((w.alloc (.cells #[] 141)).alloc (.cells #[.slice (some ⟨w.heap.size, 0, none⟩) 0 0] 175)) := ⟨by simp; omega, hB0, mine_empty _ _ _ hg0 (Nat.le_refl _)⟩
  have hb0 := keep_alloc (keep_alloc hb (.cells #[] 141)) (.cells #[.slice (some ⟨w.heap.size, 0, none⟩) 0 0] 175)
  have hrg := run_range_map (P := Tryz.prog) ((w.alloc (.cells #[] 141)).alloc (.cells #[.slice (some ⟨w.heap.size, 0, none⟩) 0 0] 175)) 142 3 141 mb es clock Tryz.underlying142 hb0
  have hs1 : ((w.alloc (.cells #[] 141)).alloc (.cells #[.slice (some ⟨w.heap.size, 0, none⟩) 0 0] 175)).heap.size = w.heap.size + 2 := by simp
  have hBw : Below w.heap.size w ((w.alloc (.cells #[] 141)).alloc (.cells #[.slice (some ⟨w.heap.size, 0, none⟩) 0 0] 175)) := (below_one w _).trans ((below_one _ _).mono (by simp))
  rw [hs1] at hrg
  go_enter Tryz.func100, Tryz.ntmps100
  go_wp2
  have hr0 := World.alloc_heap_new ((w.alloc (.cells #[] 141)).alloc (.cells #[.slice (some ⟨w.heap.size, 0, none⟩) 0 0] 175)) (.mapIter (some mb) clock #[] clock)
  rw [hs1] at hr0
  have hX1 := hX0.on (below_one _ (.mapIter (some mb) clock #[] clock))
  have hBw1 := hBw.alloc hBw.size (.mapIter (some mb) clock #[] clock)
  clear hg0 hs0 hB0 hX0 hb0 hrg hs1 hBw
  generalize ((w.alloc (.cells #[] 141)).alloc (.cells #[.slice (some ⟨w.heap.size, 0, none⟩) 0 0] 175)).alloc (.mapIter (some mb) clock #[] clock) = wl at *
  go_loopw [10] (fun _ wr => ∃ (seen : Array Nat) (c0 : Nat) (l2 : List Du), wr.heap[w.heap.size + 2]? = some (.mapIter (some mb) clock seen c0) ∧ clock ≤ c0 ∧ PileAt w.heap.size (w.heap.size + 1) l2 wr ∧ l2.length + (leftOf es seen).size ≤ n ∧ (∀ d ∈ l2, Q d) ∧ BelowBut w.heap.size (w.heap.size + 1) w wr) (fun _ wr => match wr.heap[w.heap.size + 2]? with | some (.mapIter _ _ seen _) => (leftOf es seen).size | _ => 0)
  case atStart => exact ⟨#[], clock, [], hr0, Nat.le_refl _, ⟨_, _, hX1⟩, by have := Array.size_filter_le (p := fun e : MapEntry => !(#[] : Array Nat).contains e.born) (xs := es); simp only [leftOf, List.length_nil]; omega, by simp, BelowBut.of hBw1 (Nat.le_refl _)⟩
  case round =>
    clear hr0 hX1 hBw1
    obtain ⟨seen, c0, l2, hr, hc0, ⟨A, c, hX⟩, hlen, hQ, hB⟩ := hrel
    have hbr := (hB.block mb hlt (by omega)).trans hb
    go_wp2_with (at_next; refine wpList_next_any rfl (.tmp 9) rfl (w.heap.size + 2) mb clock c0 seen es clock rfl hr hbr (fun x hx => hst.1 x hx) hc0 ?_ ?_)
    · go_wp2_with (first
          | (go_at_call 133; (with_reducible refine (sorted_any w.heap.size (w.heap.size + 1) A c l2 _ hX (by omega)).mono ?_); rintro e w3 ⟨A', c', l', rfl, hm3, hF3, hB3⟩))
      go_ret
      exact ⟨A', c', l', rfl, hm3.mono (by have := hB.size; omega), by have := hF3.1; omega, fun d hd => hQ d (hF3.2 d hd), (hB.trans hB3).below (by omega)⟩
    · intro e he w1 hw1
      have hle := left_less he
      have hmem : e ∈ es.toList := by
        unfold InLeft at he
        simp only [leftOf, Array.toList_filter, List.mem_filter] at he
        exact he.1
      obtain ⟨hrV, hoV, hsV, ho1, ho2, ho3⟩ := set_block hw1 (o := .mapIter (some mb) clock (seen.push e.born) clock) hr
      generalize setBlock w1 (w.heap.size + 2) (.mapIter (some mb) clock (seen.push e.born) clock) = V at *
      have hXV := hX.swapOdd hr (by simp) hoV (Nat.le_of_eq hsV.symm)
      have hbV := (hoV mb (by omega)).trans hbr
      have hBV : BelowBut w.heap.size (w.heap.size + 1) w V := ⟨ho1.trans hB.os, ho2.trans hB.tape, ho3.trans hB.output, by have := hB.size; omega, fun j hj hn => (hoV j (by omega)).trans (hB.block j hj hn)⟩
      obtain ⟨ek, ev, eb⟩ := e
      obtain ⟨d, rfl, hQd⟩ := (hps _ hmem).2
      dsimp only at *
      go_wp2_with (first
          | (refine wpList_entry_any rfl (.tmp 9) rfl (w.heap.size + 2) mb clock seen es clock ⟨ek, .agg d.cells.toArray, eb⟩ rfl hrV hbV hmem hst.2.1 ?_)
          | (go_at_call 132; (with_reducible refine (heap_push w.heap.size (w.heap.size + 1) A c l2 d _ (hXV.on (below_one V (.cells d.cells.toArray 141))) (by omega)).mono ?_); rintro e w5 ⟨rfl, l3, hX5, hF5, hB5, hO5⟩; have hr5 := hO5 _ _ (keep_alloc hrV _) (by simp)))
      go_roundw
      case rel =>
        refine ⟨seen.push eb, clock, l3, hr5, Nat.le_refl _, hX5, ?_, fun x hx => ?_, (hBV.trans (BelowBut.of (below_one V _) (by have := hBV.size; omega))).trans hB5⟩
        · have := hF5.1
          simp at this
          omega
        · rcases List.mem_append.1 (hF5.2 x hx) with h | h
          · exact hQ x h
          · rw [List.mem_singleton.1 h]; exact hQd
      case measure =>
        rw [hr5, hr]
        exact hle

end Go.Proofs.YtnbgpopjnpdmgaaGreat
