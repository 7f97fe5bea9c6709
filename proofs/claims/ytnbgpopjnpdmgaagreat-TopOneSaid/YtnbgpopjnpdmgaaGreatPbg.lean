/-
  DERIVED. Steps, RecvStep.
-/
import Derived.Test.YtnbgpopjnpdmgaaGreatPbf
import Derived.Test.YtnbgpopjnpdmgaaGreatPay
import Derived.Test.YtnbgpopjnpdmgaaGreatPbd
set_option linter.unusedVariables false
set_option linter.unusedSimpArgs false

namespace Go.Proofs.YtnbgpopjnpdmgaaGreat
open Go Go.RowKit Go.Shelf

section
variable {P : Program} {w : World} {ops : Array Oper} {rest : List Oper} {o : Oper} {a : Act} {Q : Exit → Act → World → Prop}
theorem wpList_lookup_ok (hg : o.guard = none) (m x : Operand) (t : TypeId) (hop : o.op = Op.lookup t m x true) (k e : TypeId) (q : IntKind) (ht : P.underlying t = some (.map k e)) (hk : P.underlying k = some (.int q))
    (b : Nat) (hm : a.eval m = .map (some b)) (n : Int) (hx : a.eval x = .int q n) (es : Array MapEntry) (clock : Nat) (hb : w.heap[b]? = some (.map es clock)) (i : Nat) (v : Value)
    (hf : Instr.findNow (.int q) (.int q n) es.toList 0 = some (some (i, v)))
    (hK : wpList P ops Q rest (a.put o.dst (.tuple #[v, .bool true])) w) :
    wpList P ops Q (o :: rest) a w := by
  refine wpList_plain hg fun K' hK' => ?_
  have hrun : (Instr.lookup t (.map (some b)) (.int q n) true).run P w = .ok (.tuple #[v, .bool true]) w := by
    simp [Instr.lookup, run_underlying ht, MapKept.run_getObj_map hb, MapKept.run_checkKey (k := .int q n) hk rfl, MapKept.run_findKey hk hf, Result.andThen]
  unfold Oper.wp
  simp [execOp, hop, hm, hx, hrun, Result.andThen]
  exact hK' _ _ hK
theorem wpList_lookup_no (hg : o.guard = none) (m x : Operand) (t : TypeId) (hop : o.op = Op.lookup t m x true) (k e : TypeId) (q : IntKind) (ht : P.underlying t = some (.map k e)) (hk : P.underlying k = some (.int q))
    (b : Nat) (hm : a.eval m = .map (some b)) (n : Int) (hx : a.eval x = .int q n) (es : Array MapEntry) (clock : Nat) (hb : w.heap[b]? = some (.map es clock)) (z : Value) (hz : (zeroValue e).run P w = .ok z w)
    (hf : Instr.findNow (.int q) (.int q n) es.toList 0 = some none)
    (hK : wpList P ops Q rest (a.put o.dst (.tuple #[z, .bool false])) w) :
    wpList P ops Q (o :: rest) a w := by
  refine wpList_plain hg fun K' hK' => ?_
  have hrun : (Instr.lookup t (.map (some b)) (.int q n) true).run P w = .ok (.tuple #[z, .bool false]) w := by
    simp [Instr.lookup, run_underlying ht, MapKept.run_getObj_map hb, MapKept.run_checkKey (k := .int q n) hk rfl, MapKept.run_findKey hk hf, hz, Result.andThen]
  unfold Oper.wp
  simp [execOp, hop, hm, hx, hrun, Result.andThen]
  exact hK' _ _ hK
end

set_option maxRecDepth 100000 in
set_option maxHeartbeats 4000000 in
theorem steps_r (b : Nat) (w : World) :
    Calls Tryz.prog 121 #[.pointer (some ⟨b, 0, none⟩)] w fun e w' => e = .returned (.map (some (w.heap.size + 1))) ∧ w'.heap[w.heap.size]? = some (.cells #[.pointer (some ⟨b, 0, none⟩)] 159 (0, 0)) ∧ w'.heap[w.heap.size + 1]? = some (.map #[⟨.int .i64 0, (.func (.func 154) #[] #[.pointer (some ⟨w.heap.size, 0, none⟩)]), 0⟩, ⟨.int .i64 1, (.func (.func 156) #[] #[.pointer (some ⟨w.heap.size, 0, none⟩)]), 1⟩, ⟨.int .i64 2, (.func (.func 159) #[] #[.pointer (some ⟨w.heap.size, 0, none⟩)]), 2⟩, ⟨.int .i64 3, (.func (.func 162) #[.pointer (some ⟨b, 0, none⟩)] #[]), 3⟩, ⟨.int .i64 4, (.func (.func 163) #[] #[.pointer (some ⟨w.heap.size, 0, none⟩)]), 4⟩, ⟨.int .i64 5, (.func (.func 165) #[] #[.pointer (some ⟨w.heap.size, 0, none⟩)]), 5⟩, ⟨.int .i64 6, (.func (.func 166) #[] #[.pointer (some ⟨w.heap.size, 0, none⟩)]), 6⟩, ⟨.int .i64 7, (.func (.func 167) #[] #[.pointer (some ⟨w.heap.size, 0, none⟩)]), 7⟩, ⟨.int .i64 8, (.func (.func 168) #[] #[.pointer (some ⟨w.heap.size, 0, none⟩)]), 8⟩] 9) ∧ Below w.heap.size w w' := by
  have q0 := World.alloc_heap_new w (.cells #[.pointer (some ⟨b, 0, none⟩)] 159)
  have hs0 : (w.alloc (.cells #[.pointer (some ⟨b, 0, none⟩)] 159)).heap.size = w.heap.size + 1 := by simp
  have h0 : ((w.alloc (.cells #[.pointer (some ⟨b, 0, none⟩)] 159)).alloc (.map #[] 0)).heap[w.heap.size + 1]? = some (.map #[] 0) := by have := World.alloc_heap_new (w.alloc (.cells #[.pointer (some ⟨b, 0, none⟩)] 159)) (.map #[] 0); rwa [hs0] at this
  have hx0 := (Below.heap_alloc (w.alloc (.cells #[.pointer (some ⟨b, 0, none⟩)] 159)) (.map #[] 0) _ (Array.getElem?_eq_some_iff.1 q0).1).trans q0
  have hB0 : Below w.heap.size w ((w.alloc (.cells #[.pointer (some ⟨b, 0, none⟩)] 159)).alloc (.map #[] 0)) := (below_one w _).alloc (by simp) _
  clear q0 hs0
  have hmm := @run_makeMap Tryz.prog
  go_enter Tryz.func121, Tryz.ntmps121
  go_wp2_with (first
      | (refine wpList_insert_at rfl (.tmp 3) (.const (.int .i64 0)) (.tmp 4) 163 rfl 3 1 .i64 Tryz.underlying163 Tryz.underlying3 (w.heap.size + 1) rfl 0 rfl _ rfl #[] 0 h0 rfl ?_; intro v1 h1 g1 z1; have hB1 := hB0.trans (g1.mono (by omega)); have hx1 := (g1.block _ (by omega)).trans hx0; clear h0 g1 z1 hB0 hx0)
      | (refine wpList_insert_at rfl (.tmp 3) (.const (.int .i64 1)) (.tmp 5) 163 rfl 3 1 .i64 Tryz.underlying163 Tryz.underlying3 (w.heap.size + 1) rfl 1 rfl _ rfl #[⟨.int .i64 0, (.func (.func 154) #[] #[.pointer (some ⟨w.heap.size, 0, none⟩)]), 0⟩] 1 h1 rfl ?_; intro v2 h2 g2 z2; have hB2 := hB1.trans (g2.mono (by omega)); have hx2 := (g2.block _ (by omega)).trans hx1; clear h1 g2 z2 hB1 hx1)
      | (refine wpList_insert_at rfl (.tmp 3) (.const (.int .i64 2)) (.tmp 6) 163 rfl 3 1 .i64 Tryz.underlying163 Tryz.underlying3 (w.heap.size + 1) rfl 2 rfl _ rfl #[⟨.int .i64 0, (.func (.func 154) #[] #[.pointer (some ⟨w.heap.size, 0, none⟩)]), 0⟩, ⟨.int .i64 1, (.func (.func 156) #[] #[.pointer (some ⟨w.heap.size, 0, none⟩)]), 1⟩] 2 h2 rfl ?_; intro v3 h3 g3 z3; have hB3 := hB2.trans (g3.mono (by omega)); have hx3 := (g3.block _ (by omega)).trans hx2; clear h2 g3 z3 hB2 hx2; have c0 := cellOf hx3)
      | (refine wpList_insert_at rfl (.tmp 3) (.const (.int .i64 3)) (.tmp 8) 163 rfl 3 1 .i64 Tryz.underlying163 Tryz.underlying3 (w.heap.size + 1) rfl 3 rfl _ rfl #[⟨.int .i64 0, (.func (.func 154) #[] #[.pointer (some ⟨w.heap.size, 0, none⟩)]), 0⟩, ⟨.int .i64 1, (.func (.func 156) #[] #[.pointer (some ⟨w.heap.size, 0, none⟩)]), 1⟩, ⟨.int .i64 2, (.func (.func 159) #[] #[.pointer (some ⟨w.heap.size, 0, none⟩)]), 2⟩] 3 h3 rfl ?_; intro v4 h4 g4 z4; have hB4 := hB3.trans (g4.mono (by omega)); have hx4 := (g4.block _ (by omega)).trans hx3; clear h3 g4 z4 hB3 hx3)
      | (refine wpList_insert_at rfl (.tmp 3) (.const (.int .i64 4)) (.tmp 9) 163 rfl 3 1 .i64 Tryz.underlying163 Tryz.underlying3 (w.heap.size + 1) rfl 4 rfl _ rfl #[⟨.int .i64 0, (.func (.func 154) #[] #[.pointer (some ⟨w.heap.size, 0, none⟩)]), 0⟩, ⟨.int .i64 1, (.func (.func 156) #[] #[.pointer (some ⟨w.heap.size, 0, none⟩)]), 1⟩, ⟨.int .i64 2, (.func (.func 159) #[] #[.pointer (some ⟨w.heap.size, 0, none⟩)]), 2⟩, ⟨.int .i64 3, (.func (.func 162) #[.pointer (some ⟨b, 0, none⟩)] #[]), 3⟩] 4 h4 rfl ?_; intro v5 h5 g5 z5; have hB5 := hB4.trans (g5.mono (by omega)); have hx5 := (g5.block _ (by omega)).trans hx4; clear h4 g5 z5 hB4 hx4)
      | (refine wpList_insert_at rfl (.tmp 3) (.const (.int .i64 5)) (.tmp 10) 163 rfl 3 1 .i64 Tryz.underlying163 Tryz.underlying3 (w.heap.size + 1) rfl 5 rfl _ rfl #[⟨.int .i64 0, (.func (.func 154) #[] #[.pointer (some ⟨w.heap.size, 0, none⟩)]), 0⟩, ⟨.int .i64 1, (.func (.func 156) #[] #[.pointer (some ⟨w.heap.size, 0, none⟩)]), 1⟩, ⟨.int .i64 2, (.func (.func 159) #[] #[.pointer (some ⟨w.heap.size, 0, none⟩)]), 2⟩, ⟨.int .i64 3, (.func (.func 162) #[.pointer (some ⟨b, 0, none⟩)] #[]), 3⟩, ⟨.int .i64 4, (.func (.func 163) #[] #[.pointer (some ⟨w.heap.size, 0, none⟩)]), 4⟩] 5 h5 rfl ?_; intro v6 h6 g6 z6; have hB6 := hB5.trans (g6.mono (by omega)); have hx6 := (g6.block _ (by omega)).trans hx5; clear h5 g6 z6 hB5 hx5)
      | (refine wpList_insert_at rfl (.tmp 3) (.const (.int .i64 6)) (.tmp 11) 163 rfl 3 1 .i64 Tryz.underlying163 Tryz.underlying3 (w.heap.size + 1) rfl 6 rfl _ rfl #[⟨.int .i64 0, (.func (.func 154) #[] #[.pointer (some ⟨w.heap.size, 0, none⟩)]), 0⟩, ⟨.int .i64 1, (.func (.func 156) #[] #[.pointer (some ⟨w.heap.size, 0, none⟩)]), 1⟩, ⟨.int .i64 2, (.func (.func 159) #[] #[.pointer (some ⟨w.heap.size, 0, none⟩)]), 2⟩, ⟨.int .i64 3, (.func (.func 162) #[.pointer (some ⟨b, 0, none⟩)] #[]), 3⟩, ⟨.int .i64 4, (.func (.func 163) #[] #[.pointer (some ⟨w.heap.size, 0, none⟩)]), 4⟩, ⟨.int .i64 5, (.func (.func 165) #[] #[.pointer (some ⟨w.heap.size, 0, none⟩)]), 5⟩] 6 h6 rfl ?_; intro v7 h7 g7 z7; have hB7 := hB6.trans (g7.mono (by omega)); have hx7 := (g7.block _ (by omega)).trans hx6; clear h6 g7 z7 hB6 hx6)
      | (refine wpList_insert_at rfl (.tmp 3) (.const (.int .i64 7)) (.tmp 12) 163 rfl 3 1 .i64 Tryz.underlying163 Tryz.underlying3 (w.heap.size + 1) rfl 7 rfl _ rfl #[⟨.int .i64 0, (.func (.func 154) #[] #[.pointer (some ⟨w.heap.size, 0, none⟩)]), 0⟩, ⟨.int .i64 1, (.func (.func 156) #[] #[.pointer (some ⟨w.heap.size, 0, none⟩)]), 1⟩, ⟨.int .i64 2, (.func (.func 159) #[] #[.pointer (some ⟨w.heap.size, 0, none⟩)]), 2⟩, ⟨.int .i64 3, (.func (.func 162) #[.pointer (some ⟨b, 0, none⟩)] #[]), 3⟩, ⟨.int .i64 4, (.func (.func 163) #[] #[.pointer (some ⟨w.heap.size, 0, none⟩)]), 4⟩, ⟨.int .i64 5, (.func (.func 165) #[] #[.pointer (some ⟨w.heap.size, 0, none⟩)]), 5⟩, ⟨.int .i64 6, (.func (.func 166) #[] #[.pointer (some ⟨w.heap.size, 0, none⟩)]), 6⟩] 7 h7 rfl ?_; intro v8 h8 g8 z8; have hB8 := hB7.trans (g8.mono (by omega)); have hx8 := (g8.block _ (by omega)).trans hx7; clear h7 g8 z8 hB7 hx7)
      | (refine wpList_insert_at rfl (.tmp 3) (.const (.int .i64 8)) (.tmp 13) 163 rfl 3 1 .i64 Tryz.underlying163 Tryz.underlying3 (w.heap.size + 1) rfl 8 rfl _ rfl #[⟨.int .i64 0, (.func (.func 154) #[] #[.pointer (some ⟨w.heap.size, 0, none⟩)]), 0⟩, ⟨.int .i64 1, (.func (.func 156) #[] #[.pointer (some ⟨w.heap.size, 0, none⟩)]), 1⟩, ⟨.int .i64 2, (.func (.func 159) #[] #[.pointer (some ⟨w.heap.size, 0, none⟩)]), 2⟩, ⟨.int .i64 3, (.func (.func 162) #[.pointer (some ⟨b, 0, none⟩)] #[]), 3⟩, ⟨.int .i64 4, (.func (.func 163) #[] #[.pointer (some ⟨w.heap.size, 0, none⟩)]), 4⟩, ⟨.int .i64 5, (.func (.func 165) #[] #[.pointer (some ⟨w.heap.size, 0, none⟩)]), 5⟩, ⟨.int .i64 6, (.func (.func 166) #[] #[.pointer (some ⟨w.heap.size, 0, none⟩)]), 6⟩, ⟨.int .i64 7, (.func (.func 167) #[] #[.pointer (some ⟨w.heap.size, 0, none⟩)]), 7⟩] 8 h8 rfl ?_; intro v9 h9 g9 z9; have hB9 := hB8.trans (g9.mono (by omega)); have hx9 := (g9.block _ (by omega)).trans hx8; clear h8 g9 z9 hB8 hx8))
  go_ret
  exact ⟨rfl, hx9, h9, hB9⟩

end Go.Proofs.YtnbgpopjnpdmgaaGreat

namespace Go.Proofs.YtnbgpopjnpdmgaaGreat
open Go Go.RowKit Go.Shelf

theorem load21 {T : TypeId} {b : Nat} {S : St} {L : Lay} {i : Int} {W : World} (h : W.heap[b]? = some (.cells (S.cells21 L i) T (0, 0))) {a : Act} {x : Operand} {dst : Option Tmp} {ty : TypeId} {ps : String} {af : Array Edge} (hx : a.eval x = .pointer (some ⟨b, 0, none⟩)) :
    (execOp a.eval (Oper.mk dst (.load 36 x) ty ps af none)).run Tryz.prog W = .ok (.value (.agg (S.cells L))) W := by
  have hc : ∀ j v, (S.cells L).toList[j]? = some v → W.cell? ⟨b, 0 + j, none⟩ = some v := by
    intro j v hj
    rw [Nat.zero_add, (of_block h j).1]
    have hl : j < 20 := by
      have := (List.getElem?_eq_some_iff.1 hj).1
      simpa using this
    match j, hl, hj with
    | 0, _, hj | 1, _, hj | 2, _, hj | 3, _, hj | 4, _, hj | 5, _, hj | 6, _, hj | 7, _, hj | 8, _, hj | 9, _, hj | 10, _, hj | 11, _, hj | 12, _, hj | 13, _, hj | 14, _, hj | 15, _, hj | 16, _, hj | 17, _, hj | 18, _, hj | 19, _, hj => exact hj
  have hl := run_loadCells_list (P := Tryz.prog) W ⟨b, 0, none⟩ (S.cells L).toList (fun j v hj => by rw [Addr.add_lit]; exact hc j v hj)
  have e : (S.cells L).toList.length = 20 := rfl
  rw [e] at hl
  unfold loadCells at hl
  have h1 := Tryz.isAgg36
  have h2 := Tryz.sizeOf36
  simp [execOp, hx, Instr.loadAt, Instr.sureAddr, loadVar, loadCells, h1, h2, hl]
theorem okWalk : okT 161 := by unfold okT; decide
theorem isOf_yes {S : St} {side id : Int} (h : S.isOf side id = true) : S.ok = true ∧ ∃ (k : Nat) (t : Th), id = k ∧ S.ths[k]? = some t ∧ t.runs = 0 ∧ sideOf t.kind = side := by
  simp only [St.isOf, Bool.and_eq_true, decide_eq_true_eq] at h
  refine ⟨h.1, ?_⟩
  cases hx : S.ths[id.toNat]? with
  | none => rw [hx] at h; simp at h
  | some t =>
    rw [hx] at h
    simp at h
    exact ⟨id.toNat, t, by omega, hx, h.2.2.1, h.2.2.2⟩

def St.recvAt (S : St) (k : Nat) (t : Th) : St :=
  if t.pc = 0 then { S with recvs := (entL S.recvs k).1 }.mod k (Th.at 1) else
  if t.pc = 1 then S.first1 k t (plc S.recvs k == 0) else
  if t.pc = 2 then S.rlook1 k t (S.word.tak S.slots.length).2.2 else
  if t.pc = 3 then S.take1 k t (S.word.tak S.slots.length) else
  if t.pc = 4 then St.mod { S.mod k (Th.gt (rdS S.slots t.reg).1) with slots := (relS S.slots t.reg).1 } k (Th.at 6) else
  if t.pc = 5 then (S.mod k (Th.sn (if evOk S.ee S.el then S.ee else -1))).mod k (Th.at 7) else
  if t.pc = 6 then (if (ntfE S.fe S.fl).2 then { S with fe := (comeE all1 S.fe S.fl).1, fl := (comeE all1 S.fe S.fl).2.1 }.wakeAt (ntfE S.fe S.fl).1 else { S with fe := (comeE all1 S.fe S.fl).1, fl := (comeE all1 S.fe S.fl).2.1 }).mod k (Th.at 9) else
  if t.pc = 7 then S.ragain1 k t (S.word.tak S.slots.length).2.2 else
  if t.pc = 8 then (S.mod k (Th.at 2)).rcommit2 k (Th.at 2 t) (cmtE S.ee S.el t.seen k) else
  { S with recvs := (levL S.recvs k).1 }.mod k (fun t => t.done.1)
def St.recvStep (S : St) (id : Int) : St := if S.isOf 2 id then (match S.ths[id.toNat]? with | some t => S.recvAt id.toNat t | none => S) else S
def rFn (p : Nat) : FuncId := ([154, 156, 159, 162, 163, 165, 166, 167, 168] : List FuncId).getD p 0
def rB (b pb p : Nat) : Nat := if p = 3 then b else pb
def rBnd (b p : Nat) : Array Value := if p = 3 then #[.pointer (some ⟨b, 0, none⟩)] else #[]
def rCap (pb p : Nat) : Array Value := if p = 3 then #[] else #[.pointer (some ⟨pb, 0, none⟩)]
theorem rArgs (b pb p : Nat) : rBnd b p ++ rCap pb p = #[.pointer (some ⟨rB b pb p, 0, none⟩)] := by
  unfold rBnd rCap rB
  split <;> simp
def rEs (b pb : Nat) : Array MapEntry := #[⟨.int .i64 0, (.func (.func 154) #[] #[.pointer (some ⟨pb, 0, none⟩)]), 0⟩, ⟨.int .i64 1, (.func (.func 156) #[] #[.pointer (some ⟨pb, 0, none⟩)]), 1⟩, ⟨.int .i64 2, (.func (.func 159) #[] #[.pointer (some ⟨pb, 0, none⟩)]), 2⟩, ⟨.int .i64 3, (.func (.func 162) #[.pointer (some ⟨b, 0, none⟩)] #[]), 3⟩, ⟨.int .i64 4, (.func (.func 163) #[] #[.pointer (some ⟨pb, 0, none⟩)]), 4⟩, ⟨.int .i64 5, (.func (.func 165) #[] #[.pointer (some ⟨pb, 0, none⟩)]), 5⟩, ⟨.int .i64 6, (.func (.func 166) #[] #[.pointer (some ⟨pb, 0, none⟩)]), 6⟩, ⟨.int .i64 7, (.func (.func 167) #[] #[.pointer (some ⟨pb, 0, none⟩)]), 7⟩, ⟨.int .i64 8, (.func (.func 168) #[] #[.pointer (some ⟨pb, 0, none⟩)]), 8⟩]
theorem rFind (b pb p : Nat) (h : p < 9) : Instr.findNow (.int .i64) (.int .i64 p) (rEs b pb).toList 0 = some (some (p, .func (.func (rFn p)) (rBnd b p) (rCap pb p))) := by
  match p, h with
  | 0, _ | 1, _ | 2, _ | 3, _ | 4, _ | 5, _ | 6, _ | 7, _ | 8, _ => rfl
theorem rFindNo (b pb p : Nat) (h : 9 ≤ p) : Instr.findNow (.int .i64) (.int .i64 p) (rEs b pb).toList 0 = some none := by
  have hh : ∀ j : Int, j < 9 → ((p : Int) == j) = false := fun j hj => by
    have : ¬ (p : Int) = j := by omega
    simpa using this
  simp only [rEs, Instr.findNow, Instr.sameNow, if_true, hh 0 (by omega), hh 1 (by omega), hh 2 (by omega), hh 3 (by omega), hh 4 (by omega), hh 5 (by omega), hh 6 (by omega), hh 7 (by omega), hh 8 (by omega)]
theorem rcf0 (v : Value) (W : World) : Sem.run Tryz.prog (callFunc 154 #[v]) W = .ok (.enter 154 #[v]) W := by kernel_rfl
theorem rcf1 (v : Value) (W : World) : Sem.run Tryz.prog (callFunc 156 #[v]) W = .ok (.enter 156 #[v]) W := by kernel_rfl
theorem rcf2 (v : Value) (W : World) : Sem.run Tryz.prog (callFunc 159 #[v]) W = .ok (.enter 159 #[v]) W := by kernel_rfl
theorem rcf3 (v : Value) (W : World) : Sem.run Tryz.prog (callFunc 162 #[v]) W = .ok (.enter 162 #[v]) W := by kernel_rfl
theorem rcf4 (v : Value) (W : World) : Sem.run Tryz.prog (callFunc 163 #[v]) W = .ok (.enter 163 #[v]) W := by kernel_rfl
theorem rcf5 (v : Value) (W : World) : Sem.run Tryz.prog (callFunc 165 #[v]) W = .ok (.enter 165 #[v]) W := by kernel_rfl
theorem rcf6 (v : Value) (W : World) : Sem.run Tryz.prog (callFunc 166 #[v]) W = .ok (.enter 166 #[v]) W := by kernel_rfl
theorem rcf7 (v : Value) (W : World) : Sem.run Tryz.prog (callFunc 167 #[v]) W = .ok (.enter 167 #[v]) W := by kernel_rfl
theorem rcf8 (v : Value) (W : World) : Sem.run Tryz.prog (callFunc 168 #[v]) W = .ok (.enter 168 #[v]) W := by kernel_rfl
theorem rCallFn (p : Nat) (h : p < 9) (v : Value) (W : World) : Sem.run Tryz.prog (callFunc (rFn p) #[v]) W = .ok (.enter (rFn p) #[v]) W := by
  match p, h with
  | 0, _ => exact rcf0 v W
  | 1, _ => exact rcf1 v W
  | 2, _ => exact rcf2 v W
  | 3, _ => exact rcf3 v W
  | 4, _ => exact rcf4 v W
  | 5, _ => exact rcf5 v W
  | 6, _ => exact rcf6 v W
  | 7, _ => exact rcf7 v W
  | 8, _ => exact rcf8 v W

theorem recv_fn (S : St) (L : Lay) (base b gb pb k : Nat) (t : Th) (p : Nat) (w : World) (hP : WalkAt base b gb pb S L k w) (hsm : S.small) (ht : S.ths[k]? = some t) (ho : S.ok = true) (hp : t.pc = p) (h9 : p < 9) :
    Calls Tryz.prog (rFn p) #[.pointer (some ⟨rB b pb p, 0, none⟩)] w fun e w' => e = .returned (.tuple #[]) ∧ Ran 161 base b k (S.recvAt k t) w w' := by
  obtain ⟨h1, h2, h3⟩ := place_of (th_of ho ht)
  have hok := ok_slots ho
  unfold St.recvAt
  rw [hp]
  match p, h9 with
  | 0, _ => exact enter_r S L base b gb pb k w hP hsm
  | 1, _ => exact first_r S L base b gb pb k w hP hsm t ht h2
  | 2, _ => exact look_r S L base b gb pb k w hP hsm t ht h2
  | 3, _ => exact take_r S L base b gb k w hP.run hsm t ht
  | 4, _ => exact read_r S L base b gb pb k w hP hsm t ht hok h3.1 h3.2
  | 5, _ => exact prepare_r S L base b gb pb k w hP hsm t ht
  | 6, _ => exact notify_r S L base b gb pb k w hP hsm
  | 7, _ => exact again_r S L base b gb pb k w hP hsm t ht
  | 8, _ => exact commit_r S L base b gb pb k w hP hsm t ht
theorem recv_out (S : St) (k : Nat) (t : Th) (p : Nat) (hp : t.pc = p) (h9 : 9 ≤ p) : S.recvAt k t = { S with recvs := (levL S.recvs k).1 }.mod k (fun t => t.done.1) := by
  unfold St.recvAt
  rw [hp]
  have hh : ∀ j : Int, j < 9 → ¬ ((p : Int) = j) := fun j hj => by omega
  rw [if_neg (hh 0 (by omega)), if_neg (hh 1 (by omega)), if_neg (hh 2 (by omega)), if_neg (hh 3 (by omega)), if_neg (hh 4 (by omega)), if_neg (hh 5 (by omega)), if_neg (hh 6 (by omega)), if_neg (hh 7 (by omega)), if_neg (hh 8 (by omega))]

set_option maxRecDepth 100000 in
set_option maxHeartbeats 8000000 in
theorem recvStep_no (S : St) (L : Lay) (id : Int) (w : World) (hsm : S.small) (hH : Holds w S L) (hi : S.isOf 2 id = false) :
    Calls Tryz.prog 87 #[S.val L, .int .i64 id] w fun e w' => ∃ L', e = .returned ((S).val L') ∧ Owns w' w.heap.size (S) L' ∧ Below w.heap.size w w' := by
  have WK := fun W (hW : Below w.heap.size w W) => wake_any S L (-1) W hsm (hH.on hW)
  rw [wake_none] at WK
  have IS := fun W (hW : Below w.heap.size w W) => is_r S L id W hsm (hH.on hW)
  obtain ⟨k0, k1, hB0⟩ := two_new w (.cells (S.cells L) 36) (.cells #[.int .i64 0, .int .i64 0, .int .i64 0, .int .i64 0, .int .i64 0, .int .i64 0, .bool false, .int .i64 0, .int .i64 0, .int .i64 0, .slice none 0 0, .slice none 0 0, .slice none 0 0, .int .i64 0, .slice none 0 0, .int .i64 0, .slice none 0 0, .int .i64 0, .slice none 0 0, .slice none 0 0] 36)
  go_enter Tryz.func87, Tryz.ntmps87
  go_wp2_with (first
      | ((with_reducible refine wpList_val (load36 k0 ?_ ?_) ?_); (focus rfl); (focus rfl))
      | (go_at_call 18; (with_reducible refine (WK _ hB0).mono ?_); rintro e w1 ⟨L1, rfl, ho, hb⟩; have hzz := hb.size; have kb := World.alloc_heap_new w1 (.cells (S.cells21 L1 id) 161); have hbv := below_one w1 (.cells (S.cells21 L1 id) 161); replace k0 := kept (kept k0 hb) hbv; replace k1 := kept (kept k1 hb) hbv; replace ho := ho.kept hbv; have hB1 := (hB0.trans (hb.mono hB0.size)).trans (hbv.mono (Nat.le_trans hB0.size hb.size)); have hzv := hbv.size)
      | (go_at_call 120; (with_reducible refine (IS _ hB1).mono ?_); rw [hi]; rintro e w2 ⟨rfl, hb2⟩; replace k0 := kept k0 hb2; replace k1 := kept k1 hb2; replace kb := kept kb hb2; replace ho := ho.kept hb2; have hB2 := hB1.trans (hb2.mono hB1.size); have hzz2 := hb2.size ; obtain ⟨v2, hst2, kr, hB3, hoth⟩ := run_store_block (P := Tryz.prog) (base := w.heap.size) (cs := (S.cells L1).toList) k1 rfl (st_one S L1) (by omega))
      | ((with_reducible refine wpList_val (load21 kb ?_) ?_); (focus rfl))
      | ((with_reducible refine wpList_skip (store36 hst2 ?_ ?_ ?_) ?_); (focus rfl); (focus rfl); (focus rfl)))
  refine bodyPost_ret (results36 kr rfl rfl rfl) rfl ⟨L1, rfl, (ho.same (B := w.heap.size + 1) (by simp) hoth).mono (by simp; omega), hB2.trans hB3⟩

set_option maxRecDepth 100000 in
set_option maxHeartbeats 8000000 in
theorem recvStep_in (S : St) (L : Lay) (k : Nat) (t : Th) (w : World) (hsm : S.small) (hH : Holds w S L) (ho0 : S.ok = true) (ht : S.ths[k]? = some t) (hi : S.isOf 2 k = true) (h9 : t.pc < 9) :
    Calls Tryz.prog 87 #[S.val L, .int .i64 k] w fun e w' => ∃ L', e = .returned ((S.recvAt k t).val L') ∧ Owns w' w.heap.size (S.recvAt k t) L' ∧ Below w.heap.size w w' := by
  have WK := fun W (hW : Below w.heap.size w W) => wake_any S L (-1) W hsm (hH.on hW)
  rw [wake_none] at WK
  have IS := fun W (hW : Below w.heap.size w W) => is_r S L k W hsm (hH.on hW)
  obtain ⟨k0, k1, hB0⟩ := two_new w (.cells (S.cells L) 36) (.cells #[.int .i64 0, .int .i64 0, .int .i64 0, .int .i64 0, .int .i64 0, .int .i64 0, .bool false, .int .i64 0, .int .i64 0, .int .i64 0, .slice none 0 0, .slice none 0 0, .slice none 0 0, .int .i64 0, .slice none 0 0, .int .i64 0, .slice none 0 0, .int .i64 0, .slice none 0 0, .slice none 0 0] 36)
  have hk := (List.getElem?_eq_some_iff.1 ht).1
  obtain ⟨h1, -, -⟩ := place_of (th_of ho0 ht)
  obtain ⟨p, hp⟩ : ∃ p : Nat, t.pc = p := ⟨t.pc.toNat, by omega⟩
  rw [hp] at h9
  replace h9 : p < 9 := by omega
  have HP := Lib.hid hp
  clear hp h1
  have CF := fun v W => rCallFn p h9 v W
  have RA := fun b pb => rArgs b pb p
  go_enter Tryz.func87, Tryz.ntmps87
  go_wp2_with (first
      | ((with_reducible refine wpList_val (load36 k0 ?_ ?_) ?_); (focus rfl); (focus rfl))
      | (go_at_call 18; (with_reducible refine (WK _ hB0).mono ?_); rintro e w1 ⟨L1, rfl, ho, hb⟩; have hzz := hb.size; have kb := World.alloc_heap_new w1 (.cells (S.cells21 L1 k) 161); have hbv := below_one w1 (.cells (S.cells21 L1 k) 161); replace k0 := kept (kept k0 hb) hbv; replace k1 := kept (kept k1 hb) hbv; replace ho := ho.kept hbv; have hB1 := (hB0.trans (hb.mono hB0.size)).trans (hbv.mono (Nat.le_trans hB0.size hb.size)); have hzv := hbv.size)
      | (go_at_call 120; (with_reducible refine (IS _ hB1).mono ?_); rw [hi]; rintro e w2 ⟨rfl, hb2⟩; replace k0 := kept k0 hb2; replace k1 := kept k1 hb2; replace kb := kept kb hb2; replace ho := ho.kept hb2; have hB2 := hB1.trans (hb2.mono hB1.size); have hzz2 := hb2.size ; have hbz : ((w.alloc (.cells (S.cells L) 36)).alloc (.cells #[.int .i64 0, .int .i64 0, .int .i64 0, .int .i64 0, .int .i64 0, .int .i64 0, .bool false, .int .i64 0, .int .i64 0, .int .i64 0, .slice none 0 0, .slice none 0 0, .slice none 0 0, .int .i64 0, .slice none 0 0, .int .i64 0, .slice none 0 0, .int .i64 0, .slice none 0 0, .slice none 0 0] 36)).heap.size = w.heap.size + 2 := (by simp); rw [hbz] at ho hzz; have hsz : w.heap.size + 2 ≤ w1.heap.size := hzz; obtain ⟨gb, h6⟩ := ho.form6 (show 0 < S.ths.length by omega); have hR : RunAt 161 (w.heap.size + 2) w1.heap.size gb S L1 k w2 := ⟨kb, ho, hsz, h6, hk, okWalk⟩; clear h6; have hsz2 : w.heap.size + 2 ≤ w2.heap.size := Nat.le_trans hsz (Nat.le_trans hzv hzz2); have k12 := k1)
      | (go_at_call 121; (with_reducible refine (steps_r _ _).mono ?_); rintro e w3 ⟨rfl, hcp, hmp, hb3⟩; replace hR := hR.on hb3; replace k12 := kept k12 hb3; have hB3 := hB2.trans (hb3.mono hB2.size); have hP : WalkAt (w.heap.size + 2) w1.heap.size gb w2.heap.size S L1 k w3 := ⟨hR, hcp⟩; clear hR hcp)
      | (go_at_call 122; (with_reducible refine (me_r _ _ _ _ _ _ _ hP.run).mono ?_); rintro e w4 ⟨rfl, hw⟩; subst hw; replace hP := hP.drew; obtain ⟨f4, -⟩ := hP.run.field ht (j := 4) rfl; rw [HP.out] at f4; replace hB3 := hB3.drew; replace k12 := k12; replace hmp : w3.drew.heap[w2.heap.size + 1]? = some (.map (rEs w1.heap.size w2.heap.size) 9) := hmp)
      | (refine wpList_lookup_ok rfl (.tmp 23) (.tmp 28) 163 rfl 3 1 .i64 Tryz.underlying163 Tryz.underlying3 (w2.heap.size + 1) rfl p rfl _ 9 hmp p _ (rFind w1.heap.size w2.heap.size p h9) ?_))
  refine (recv_fn S L1 _ _ _ _ k t p _ hP hsm ht ho0 HP.out h9).mono ?_
  rintro e w5 ⟨rfl, h5⟩
  obtain ⟨L5, gb5, hR5, hB5⟩ := h5
  have k15 := (hB5.block (w.heap.size + 1) (by omega)).trans k12
  obtain ⟨v6, hst6, kr, hB6, hoth⟩ := run_store_block (P := Tryz.prog) (base := w.heap.size) (cs := (St.cells (S.recvAt k t) L5).toList) k15 rfl (st_one _ L5) (by omega)
  go_wp2_with (first
      | ((with_reducible refine wpList_val (loadBox hR5 ?_) ?_); (focus rfl))
      | ((with_reducible refine wpList_skip (store36 hst6 ?_ ?_ ?_) ?_); (focus rfl); (focus rfl); (focus rfl)))
  refine bodyPost_ret (results36 kr rfl rfl rfl) rfl ⟨L5, rfl, (hR5.ho.same (B := w.heap.size + 1) (by omega) hoth).mono (by omega), (hB3.trans (hB5.mono (by omega))).trans hB6⟩

set_option maxRecDepth 100000 in
set_option maxHeartbeats 8000000 in
theorem recvStep_out (S : St) (L : Lay) (k : Nat) (t : Th) (w : World) (hsm : S.small) (hH : Holds w S L) (ho0 : S.ok = true) (ht : S.ths[k]? = some t) (hi : S.isOf 2 k = true) (h9 : 9 ≤ t.pc) :
    Calls Tryz.prog 87 #[S.val L, .int .i64 k] w fun e w' => ∃ L', e = .returned ((S.recvAt k t).val L') ∧ Owns w' w.heap.size (S.recvAt k t) L' ∧ Below w.heap.size w w' := by
  have WK := fun W (hW : Below w.heap.size w W) => wake_any S L (-1) W hsm (hH.on hW)
  rw [wake_none] at WK
  have IS := fun W (hW : Below w.heap.size w W) => is_r S L k W hsm (hH.on hW)
  obtain ⟨k0, k1, hB0⟩ := two_new w (.cells (S.cells L) 36) (.cells #[.int .i64 0, .int .i64 0, .int .i64 0, .int .i64 0, .int .i64 0, .int .i64 0, .bool false, .int .i64 0, .int .i64 0, .int .i64 0, .slice none 0 0, .slice none 0 0, .slice none 0 0, .int .i64 0, .slice none 0 0, .int .i64 0, .slice none 0 0, .int .i64 0, .slice none 0 0, .slice none 0 0] 36)
  have hk := (List.getElem?_eq_some_iff.1 ht).1
  obtain ⟨h1, -, -⟩ := place_of (th_of ho0 ht)
  obtain ⟨p, hp⟩ : ∃ p : Nat, t.pc = p := ⟨t.pc.toNat, by omega⟩
  rw [hp] at h9
  replace h9 : 9 ≤ p := by omega
  have HP := Lib.hid hp
  clear hp h1
  rw [recv_out S k t p HP.out h9]
  go_enter Tryz.func87, Tryz.ntmps87
  go_wp2_with (first
      | ((with_reducible refine wpList_val (load36 k0 ?_ ?_) ?_); (focus rfl); (focus rfl))
      | (go_at_call 18; (with_reducible refine (WK _ hB0).mono ?_); rintro e w1 ⟨L1, rfl, ho, hb⟩; have hzz := hb.size; have kb := World.alloc_heap_new w1 (.cells (S.cells21 L1 k) 161); have hbv := below_one w1 (.cells (S.cells21 L1 k) 161); replace k0 := kept (kept k0 hb) hbv; replace k1 := kept (kept k1 hb) hbv; replace ho := ho.kept hbv; have hB1 := (hB0.trans (hb.mono hB0.size)).trans (hbv.mono (Nat.le_trans hB0.size hb.size)); have hzv := hbv.size)
      | (go_at_call 120; (with_reducible refine (IS _ hB1).mono ?_); rw [hi]; rintro e w2 ⟨rfl, hb2⟩; replace k0 := kept k0 hb2; replace k1 := kept k1 hb2; replace kb := kept kb hb2; replace ho := ho.kept hb2; have hB2 := hB1.trans (hb2.mono hB1.size); have hzz2 := hb2.size ; have hbz : ((w.alloc (.cells (S.cells L) 36)).alloc (.cells #[.int .i64 0, .int .i64 0, .int .i64 0, .int .i64 0, .int .i64 0, .int .i64 0, .bool false, .int .i64 0, .int .i64 0, .int .i64 0, .slice none 0 0, .slice none 0 0, .slice none 0 0, .int .i64 0, .slice none 0 0, .int .i64 0, .slice none 0 0, .int .i64 0, .slice none 0 0, .slice none 0 0] 36)).heap.size = w.heap.size + 2 := (by simp); rw [hbz] at ho hzz; have hsz : w.heap.size + 2 ≤ w1.heap.size := hzz; obtain ⟨gb, h6⟩ := ho.form6 (show 0 < S.ths.length by omega); have hR : RunAt 161 (w.heap.size + 2) w1.heap.size gb S L1 k w2 := ⟨kb, ho, hsz, h6, hk, okWalk⟩; clear h6; have hsz2 : w.heap.size + 2 ≤ w2.heap.size := Nat.le_trans hsz (Nat.le_trans hzv hzz2); have k12 := k1)
      | (go_at_call 121; (with_reducible refine (steps_r _ _).mono ?_); rintro e w3 ⟨rfl, hcp, hmp, hb3⟩; replace hR := hR.on hb3; replace k12 := kept k12 hb3; have hB3 := hB2.trans (hb3.mono hB2.size); have hP : WalkAt (w.heap.size + 2) w1.heap.size gb w2.heap.size S L1 k w3 := ⟨hR, hcp⟩; clear hR hcp)
      | (go_at_call 122; (with_reducible refine (me_r _ _ _ _ _ _ _ hP.run).mono ?_); rintro e w4 ⟨rfl, hw⟩; subst hw; replace hP := hP.drew; obtain ⟨f4, -⟩ := hP.run.field ht (j := 4) rfl; rw [HP.out] at f4; replace hB3 := hB3.drew; replace k12 := k12; replace hmp : w3.drew.heap[w2.heap.size + 1]? = some (.map (rEs w1.heap.size w2.heap.size) 9) := hmp)
      | (refine wpList_lookup_no rfl (.tmp 23) (.tmp 28) 163 rfl 3 1 .i64 Tryz.underlying163 Tryz.underlying3 (w2.heap.size + 1) rfl p rfl _ 9 hmp .nilFunc (Tryz.zeroValue1 _) (rFindNo w1.heap.size w2.heap.size p h9) ?_))
  refine (leave_r S L1 _ _ _ k _ hP.run hsm t ht).mono ?_
  rintro e w5 ⟨rfl, h5⟩
  obtain ⟨L5, gb5, hR5, hB5⟩ := h5
  have k15 := (hB5.block (w.heap.size + 1) (by omega)).trans k12
  obtain ⟨v6, hst6, kr, hB6, hoth⟩ := run_store_block (P := Tryz.prog) (base := w.heap.size) (cs := (St.cells (St.mod { S with recvs := (levL S.recvs k).1 } k (fun t => t.done.1)) L5).toList) k15 rfl (st_one _ L5) (by omega)
  go_wp2_with (first
      | ((with_reducible refine wpList_val (loadBox hR5 ?_) ?_); (focus rfl))
      | ((with_reducible refine wpList_skip (store36 hst6 ?_ ?_ ?_) ?_); (focus rfl); (focus rfl); (focus rfl)))
  refine bodyPost_ret (results36 kr rfl rfl rfl) rfl ⟨L5, rfl, (hR5.ho.same (B := w.heap.size + 1) (by omega) hoth).mono (by omega), (hB3.trans (hB5.mono (by omega))).trans hB6⟩

theorem sendStep_any (S : St) (L : Lay) (id : Int) (w : World) (hsm : S.small) (hH : Holds w S L) : Calls Tryz.prog 86 #[S.val L, .int .i64 id] w fun e w' => ∃ L', e = .returned ((S.sendStep id).val L') ∧ Owns w' w.heap.size (S.sendStep id) L' ∧ Below w.heap.size w w' := by
  cases hi : S.isOf 1 id with
  | false =>
    have e : S.sendStep id = S := by simp [St.sendStep, hi]
    rw [e]
    exact sendStep_no S L id w hsm hH hi
  | true =>
    obtain ⟨ho, k, t, rfl, ht, -, -⟩ := isOf_yes hi
    have e : S.sendStep k = S.sendAt k t := by simp [St.sendStep, hi, ht]
    rw [e]
    exact sendStep_yes S L k t w hsm hH ho ht hi

theorem recvStep_any (S : St) (L : Lay) (id : Int) (w : World) (hsm : S.small) (hH : Holds w S L) : Calls Tryz.prog 87 #[S.val L, .int .i64 id] w fun e w' => ∃ L', e = .returned ((S.recvStep id).val L') ∧ Owns w' w.heap.size (S.recvStep id) L' ∧ Below w.heap.size w w' := by
  cases hi : S.isOf 2 id with
  | false =>
    have e : S.recvStep id = S := by simp [St.recvStep, hi]
    rw [e]
    exact recvStep_no S L id w hsm hH hi
  | true =>
    obtain ⟨ho, k, t, rfl, ht, -, -⟩ := isOf_yes hi
    have e : S.recvStep k = S.recvAt k t := by simp [St.recvStep, hi, ht]
    rw [e]
    by_cases h9 : t.pc < 9
    · exact recvStep_in S L k t w hsm hH ho ht hi h9
    · exact recvStep_out S L k t w hsm hH ho ht hi (by omega)

end Go.Proofs.YtnbgpopjnpdmgaaGreat
