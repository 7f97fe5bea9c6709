/-
  DERIVED. Map.
-/
import Derived.Below
import Derived.MapKept
import Derived.Maps.OwnOps
set_option linter.unusedVariables false
set_option linter.unusedSimpArgs false

namespace Go.Proofs.YtnbgpopjnpdmgaaGreat
open Go Go.RowKit

section
variable {P : Program} {w : World} {ops : Array Oper} {rest : List Oper} {o : Oper} {a : Act} {Q : Exit → Act → World → Prop}

theorem wpList_insert_at (hg : o.guard = none) (m x v : Operand) (t : TypeId) (hop : o.op = Op.insert t m x v) (k e : TypeId) (q : IntKind) (ht : P.underlying t = some (.map k e)) (hk : P.underlying k = some (.int q))
    (b : Nat) (hm : a.eval m = .map (some b)) (n : Int) (hx : a.eval x = .int q n) (val : Value) (hv : a.eval v = val) (es : Array MapEntry) (clock : Nat) (hb : w.heap[b]? = some (.map es clock))
    (hf : Instr.findNow (.int q) (.int q n) es.toList 0 = some none)
    (hK : ∀ w' : World, w'.heap[b]? = some (.map (es.push ⟨.int q n, val, clock⟩) (clock + 1)) → Below b w w' → w'.heap.size = w.heap.size → wpList P ops Q rest (a.put o.dst undef) w') :
    wpList P ops Q (o :: rest) a w := by
  refine wpList_plain hg fun K' hK' => ?_
  have hrun : (Instr.mapUpdate t (.map (some b)) (.int q n) val).run P w = .ok () { w with heap := w.heap.setIfInBounds b (.map (es.push ⟨.int q n, val, clock⟩) (clock + 1)) } := by
    simp [Instr.mapUpdate, run_underlying ht, MapKept.run_getObj_map hb, MapKept.run_checkKey (k := .int q n) hk rfl, MapKept.run_findKey hk hf, MapKept.run_setObj_map _ hb, Result.andThen]
  have hs := MapKept.heap_set (o' := .map (es.push ⟨.int q n, val, clock⟩) (clock + 1)) hb
  unfold Oper.wp
  simp [execOp, hop, hm, hx, hv, hrun, Result.andThen]
  exact hK' _ _ (hK _ hs.1 ⟨rfl, rfl, rfl, by simp, fun i hi => hs.2 i (by omega)⟩ (by simp))

theorem wpList_lookup_at (hg : o.guard = none) (m x : Operand) (t : TypeId) (hop : o.op = Op.lookup t m x false) (k e : TypeId) (q : IntKind) (ht : P.underlying t = some (.map k e)) (hk : P.underlying k = some (.int q))
    (b : Nat) (hm : a.eval m = .map (some b)) (n : Int) (hx : a.eval x = .int q n) (es : Array MapEntry) (clock : Nat) (hb : w.heap[b]? = some (.map es clock)) (i : Nat) (v : Value)
    (hf : Instr.findNow (.int q) (.int q n) es.toList 0 = some (some (i, v)))
    (hK : wpList P ops Q rest (a.put o.dst v) w) :
    wpList P ops Q (o :: rest) a w := by
  refine wpList_plain hg fun K' hK' => ?_
  have hrun : (Instr.lookup t (.map (some b)) (.int q n) false).run P w = .ok v w := by
    simp [Instr.lookup, run_underlying ht, MapKept.run_getObj_map hb, MapKept.run_checkKey (k := .int q n) hk rfl, MapKept.run_findKey hk hf, Result.andThen]
  unfold Oper.wp
  simp [execOp, hop, hm, hx, hrun, Result.andThen]
  exact hK' _ _ hK
end

end Go.Proofs.YtnbgpopjnpdmgaaGreat
