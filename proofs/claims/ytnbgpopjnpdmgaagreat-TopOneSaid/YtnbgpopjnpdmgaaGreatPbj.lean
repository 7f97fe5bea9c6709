/-
  DERIVED. Call, Quiet.
-/
import Derived.Test.YtnbgpopjnpdmgaaGreatPbi
import Derived.Test.YtnbgpopjnpdmgaaGreatPaf
set_option linter.unusedVariables false
set_option linter.unusedSimpArgs false

namespace Go.Proofs.YtnbgpopjnpdmgaaGreat
open Go Go.RowKit Go.Shelf

theorem cells4 {W : World} {B : Nat} {a b c d : Value} {t : TypeId} (h : W.heap[B]? = some (.cells #[a, b, c, d] t (0, 0))) :
    W.cell? ⟨B, 0, none⟩ = some a ∧ W.cell? ⟨B, 1, none⟩ = some b ∧ W.cell? ⟨B, 2, none⟩ = some c ∧ W.cell? ⟨B, 3, none⟩ = some d ∧ W.frozen? ⟨B, 0, none⟩ = false ∧ W.frozen? ⟨B, 1, none⟩ = false ∧ W.frozen? ⟨B, 2, none⟩ = false ∧ W.frozen? ⟨B, 3, none⟩ = false :=
  ⟨(of_block h 0).1, (of_block h 1).1, (of_block h 2).1, (of_block h 3).1, (of_block h 0).2, (of_block h 1).2, (of_block h 2).2, (of_block h 3).2⟩
section
variable {n : Nat} {P : Program} {ops : Array Oper} {Q : Exit → Act → World → Prop} {S0 S1 : World → Prop} {st i : Nat} {rest : List (Nat × Nat × Oper)} {a a' : Act} {w w' : World} {o : Oper} {v : Value}
theorem o3_valT (hw : Region.wanted o (yielded ops a.tmps) = true) (hrun : (execOp a.eval o).run P w = .ok (.value v) w') (ha : a.put o.dst v = a') (hS : S1 w') (h : Ord3 n P ops Q S0 S1 st rest true a' w') :
    Ord3 n P ops Q S0 S1 st ((0, i, o) :: rest) true a w := o3_onlyT hw (wpIn_val hrun ⟨hS, by rw [ha]; exact h⟩)
end
def lookVal (f : Option (Nat × Value)) (z : Value) : Value := match f with | some (_, v) => v | none => z
theorem lookup3_run {P : Program} {w : World} (m x : Operand) (t : TypeId) (k e : TypeId) (q : IntKind) (ht : P.underlying t = some (.map k e)) (hk : P.underlying k = some (.int q)) {a : Act} {dst : Option Tmp} {ty : TypeId} {ps : String} {af : Array Edge}
    (b : Nat) (hm : a.eval m = .map (some b)) (n : Int) (hx : a.eval x = .int q n) (es : Array MapEntry) (clock : Nat) (hb : w.heap[b]? = some (.map es clock)) (z : Value) (hz : (zeroValue e).run P w = .ok z w) (f : Option (Nat × Value))
    (hf : Instr.findNow (.int q) (.int q n) es.toList 0 = some f) : (execOp a.eval (Oper.mk dst (.lookup t m x true) ty ps af none)).run P w = .ok (.value (.tuple #[lookVal f z, .bool f.isSome])) w := by
  cases f with
  | none => simp [lookVal, execOp, hm, hx, Instr.lookup, run_underlying ht, MapKept.run_getObj_map hb, MapKept.run_checkKey (k := .int q n) hk rfl, MapKept.run_findKey hk hf, hz, Result.andThen]
  | some p =>
    obtain ⟨i, v⟩ := p
    simp [lookVal, execOp, hm, hx, Instr.lookup, run_underlying ht, MapKept.run_getObj_map hb, MapKept.run_checkKey (k := .int q n) hk rfl, MapKept.run_findKey hk hf, Result.andThen]
def bEs : Array MapEntry := #[⟨.int .i64 11, .func (.func 39) #[] #[], 0⟩, ⟨.int .i64 10, .func (.func 40) #[] #[], 1⟩]
def bFind (k : Int) : Option (Nat × Value) := if k = 11 then some (0, .func (.func 39) #[] #[]) else if k = 10 then some (1, .func (.func 40) #[] #[]) else none
theorem bFind_at (k : Int) : Instr.findNow (.int .i64) (.int .i64 k) bEs.toList 0 = some (bFind k) := by
  unfold bFind
  by_cases h1 : k = 11
  · subst h1; rfl
  · by_cases h2 : k = 10
    · subst h2; rfl
    · have e1 : (k == 11) = false := by simpa using h1
      have e2 : (k == 10) = false := by simpa using h2
      simp [bEs, Instr.findNow, Instr.sameNow, e1, e2, h1, h2]

set_option maxRecDepth 100000 in
set_option maxHeartbeats 4000000 in
theorem by_any (w : World) :
    Calls Tryz.prog 19 #[] w fun e w' => ∃ mb, e = .returned (.map (some mb)) ∧ w'.heap[mb]? = some (.map bEs 2) ∧ Below w.heap.size w w' := by
  have h0 := World.alloc_heap_new w (.map #[] 0)
  have hB0 := below_one w (.map #[] 0)
  have hmm := @run_makeMap Tryz.prog
  go_enter Tryz.func19, Tryz.ntmps19
  go_wp2_with (first
      | (refine wpList_insert_at rfl (.tmp 1) (.const (.int .i64 11)) (.func 39) 60 rfl 3 58 .i64 Tryz.underlying60 Tryz.underlying3 w.heap.size rfl 11 rfl _ rfl #[] 0 h0 rfl ?_; intro v1 h1 g1 z1; have hB1 := hB0.trans (g1.mono (by omega)); clear h0 g1 z1 hB0)
      | (refine wpList_insert_at rfl (.tmp 1) (.const (.int .i64 10)) (.func 40) 60 rfl 3 58 .i64 Tryz.underlying60 Tryz.underlying3 w.heap.size rfl 10 rfl _ rfl #[⟨.int .i64 11, .func (.func 39) #[] #[], 0⟩] 1 h1 rfl ?_; intro v2 h2 g2 z2; have hB2 := hB1.trans (g2.mono (by omega)); clear h1 g2 z2 hB1))
  go_ret
  exact ⟨_, rfl, h2, hB2⟩

set_option maxRecDepth 100000 in
set_option maxHeartbeats 4000000 in
theorem bare_any (k th v u : Int) (w : World) :
    Calls Tryz.prog 35 #[.agg #[.int .i64 k, .int .i64 th, .int .i64 v, .int .i64 u]] w fun e w' => ∃ a b c, e = .returned (.agg #[.int .i64 k, .int .i64 a, .int .i64 b, .int .i64 c]) ∧ Below w.heap.size w w' := by
  have SD := fun W => op_side k W
  have TM := fun W => op_timed k W
  generalize sideOf k = s at *
  generalize timedOf k = tm at *
  by_cases h : k = 11
  · subst h
    cases tm
    all_goals
      go_enter Tryz.func35, Tryz.ntmps35
      go_wp2_with (first
          | (go_at_call 48; (with_reducible refine (SD _).mono ?_); rintro e w3 ⟨rfl, hw⟩; obtain rfl := hw.symm; clear hw)
          | (go_at_call 53; (with_reducible refine (TM _).mono ?_); rintro e w3 ⟨rfl, hw⟩; obtain rfl := hw.symm; clear hw))
      go_returns
      exact ⟨_, _, _, rfl, by go_grown⟩
  · have h1 : (k == 11) = false := by simpa using h
    have h2 : (k != 11) = true := by simpa using h
    by_cases hs : s = 1
    · subst hs
      cases tm
      all_goals
        go_enter Tryz.func35, Tryz.ntmps35
        go_wp2_with (first
            | (go_at_call 48; (with_reducible refine (SD _).mono ?_); rintro e w3 ⟨rfl, hw⟩; obtain rfl := hw.symm; clear hw)
            | (go_at_call 53; (with_reducible refine (TM _).mono ?_); rintro e w3 ⟨rfl, hw⟩; obtain rfl := hw.symm; clear hw))
        go_returns
        exact ⟨_, _, _, rfl, by go_grown⟩
    · have h3 : (s == 1) = false := by simpa using hs
      cases tm
      all_goals
        go_enter Tryz.func35, Tryz.ntmps35
        go_wp2_with (first
            | (go_at_call 48; (with_reducible refine (SD _).mono ?_); rintro e w3 ⟨rfl, hw⟩; obtain rfl := hw.symm; clear hw)
            | (go_at_call 53; (with_reducible refine (TM _).mono ?_); rintro e w3 ⟨rfl, hw⟩; obtain rfl := hw.symm; clear hw))
        go_returns
        exact ⟨_, _, _, rfl, by go_grown⟩

set_option maxRecDepth 100000 in
set_option maxHeartbeats 8000000 in
theorem callCheck_any (k th v u : Int) (w : World) :
    Calls Tryz.prog 17 #[.agg #[.int .i64 k, .int .i64 th, .int .i64 v, .int .i64 u]] w fun e w' => ∃ e0, e = .returned (.int .i64 e0) ∧ Below w.heap.size w w' := by
  have OC := fun W => op_check k W
  have BR := fun W => bare_any k th v u W
  have T2 := fun n W => call_time n W
  generalize decide (0 < sideOf k) = oc at *
  have hS := ((Blk.nil w).add (.cells #[.int .i64 k, .int .i64 th, .int .i64 v, .int .i64 u] 41)).add (.cells #[.int .i64 k, .int .i64 th, .int .i64 v, .int .i64 u] 63)
  simp only [World.size_alloc] at hS
  obtain ⟨q0, q1, q2, q3, -⟩ := cells4 (hS.get (B := w.heap.size) (o := (.cells #[.int .i64 k, .int .i64 th, .int .i64 v, .int .i64 u] 41)) (by simp))
  go_enter Tryz.func17, Tryz.ntmps17
  go_wp2_with fail
  replace hS : (Blk w w.heap.size [(w.heap.size, (.cells #[.int .i64 k, .int .i64 th, .int .i64 v, .int .i64 u] 41)), (w.heap.size + 1, (.cells #[.int .i64 k, .int .i64 th, .int .i64 v, .int .i64 u] 63))]) _ := hS.less (by simp)
  clear q0 q1 q2 q3
  refine wp_region_ord3 (Blk w w.heap.size [(w.heap.size, (.cells #[.int .i64 k, .int .i64 th, .int .i64 v, .int .i64 u] 41)), (w.heap.size + 1, (.cells #[.int .i64 k, .int .i64 th, .int .i64 v, .int .i64 u] 63))]) (Blk w w.heap.size [(w.heap.size, (.cells #[.int .i64 k, .int .i64 th, .int .i64 v, .int .i64 u] 41)), (w.heap.size + 1, (.cells #[.int .i64 k, .int .i64 th, .int .i64 v, .int .i64 u] 63))]) 0 (by kernel_rfl)
    [(2, 1), (2, 2), (0, 0), (0, 3), (2, 4), (2, 5), (2, 6), (2, 7), (2, 8)]
    (by kernel_rfl) (by kernel_rfl) (by decide) (by kernel_rfl) (fun _ _ d _ _ h => by cases d <;> exact h) ?_
  simp only [inOrder2, List.getElem?_cons_succ, List.getElem?_cons_zero, List.nil_append, List.cons_append]
  have hS := hS.drew
  ((with_reducible refine o3_calmF (v := ?_) (a' := ?_) hS ?_ (fun V => ?_) ?_ ?_); rotate_left 2; (rfl); (first | (go_simp; with_reducible rfl) | (go_simp; refine (if_pos ?_).trans ?_; omega; with_reducible rfl)); (simp only [Act.put, List.setIfInBounds_toArray, List.set_cons_succ, List.set_cons_zero] <;> rfl))
  ((with_reducible refine o3_both (v := ?_) (a' := ?_) hS ?_ (fun V hV => ?_) (fun V hV => ?_) ?_ ?_); rotate_left 2; (focus rfl); (focus (obtain ⟨q0, q1, q2, q3, -⟩ := cells4 (hV.get (B := w.heap.size) (o := (.cells #[.int .i64 k, .int .i64 th, .int .i64 v, .int .i64 u] 41)) (by simp)); first | (go_simp; with_reducible rfl) | (go_simp; refine (if_pos ?_).trans ?_; omega; with_reducible rfl))); (focus (obtain ⟨q0, q1, q2, q3, -⟩ := cells4 (hV.get (B := w.heap.size) (o := (.cells #[.int .i64 k, .int .i64 th, .int .i64 v, .int .i64 u] 41)) (by simp)); first | (go_simp; done) | (go_simp; with_reducible rfl))); (focus (simp only [Act.put, List.setIfInBounds_toArray, List.set_cons_succ, List.set_cons_zero] <;> rfl)))
  refine o3_onlyS rfl rfl ?_
  go_simp
  refine ⟨trivial, rfl, (callsIn_wide.2 (by_any _)).mono ?_⟩
  rintro e w1 ⟨mb, rfl, hm, hb⟩
  replace hS := hS.on hb
  clear hb
  refine ⟨hS, ?_⟩
  refine o3_valT (a' := ?_) rfl (lookup3_run (.tmp 8) (.tmp 10) 60 3 58 .i64 Tryz.underlying60 Tryz.underlying3 mb rfl k rfl _ 2 hm .nilFunc (Tryz.zeroValue58 _) _ (bFind_at k)) ?_ hS ?_
  rotate_left
  focus (simp only [Act.put, List.setIfInBounds_toArray, List.set_cons_succ, List.set_cons_zero] <;> rfl)
  clear hm
  iterate 5 (((with_reducible refine o3_calmT (v := ?_) (a' := ?_) hS ?_ (fun V => ?_) ?_ ?_); rotate_left 2; (rfl); (first | (go_simp; with_reducible rfl) | (go_simp; refine (if_pos ?_).trans ?_; omega; with_reducible rfl)); (simp only [Act.put, List.setIfInBounds_toArray, List.set_cons_succ, List.set_cons_zero] <;> rfl)))
  refine o3_end _ ?_
  try simp only [Exit.then]
  generalize (bFind k).isSome = b0 at *
  generalize lookVal (bFind k) .nilFunc = v0 at *
  cases b0 with
  | true =>
    obtain ⟨q0, q1, q2, q3, -⟩ := cells4 (hS.get (B := w.heap.size) (o := (.cells #[.int .i64 k, .int .i64 th, .int .i64 v, .int .i64 u] 41)) (by simp))
    go_wp2_with fail
    clear q0 q1 q2 q3
    refine wp_region_ord3 (Blk w w.heap.size [(w.heap.size, (.cells #[.int .i64 k, .int .i64 th, .int .i64 v, .int .i64 u] 41)), (w.heap.size + 1, (.cells #[.int .i64 k, .int .i64 th, .int .i64 v, .int .i64 u] 63))]) (Blk w w.heap.size [(w.heap.size, (.cells #[.int .i64 k, .int .i64 th, .int .i64 v, .int .i64 u] 41)), (w.heap.size + 1, (.cells #[.int .i64 k, .int .i64 th, .int .i64 v, .int .i64 u] 63))]) 2 (by kernel_rfl)
      [(1, 1), (2, 0), (0, 2), (2, 3), (2, 4)]
      (by kernel_rfl) (by kernel_rfl) (by decide) (by kernel_rfl) (fun _ _ d _ _ h => by cases d <;> exact h) ?_
    simp only [inOrder2, List.getElem?_cons_succ, List.getElem?_cons_zero, List.nil_append, List.cons_append]
    replace hS := hS.drew
    ((with_reducible refine o3_pre (v := ?_) (a' := ?_) hS ?_ (fun V hV => ?_) ?_ ?_); rotate_left 2; (rfl); (obtain ⟨q0, q1, q2, q3, -⟩ := cells4 (hV.get (B := w.heap.size + 1) (o := (.cells #[.int .i64 k, .int .i64 th, .int .i64 v, .int .i64 u] 63)) (by simp)); first | (go_simp; with_reducible rfl) | (go_simp; refine (if_pos ?_).trans ?_; omega; with_reducible rfl)); (simp only [Act.put, List.setIfInBounds_toArray, List.set_cons_succ, List.set_cons_zero] <;> rfl))
    ((with_reducible refine o3_both (v := ?_) (a' := ?_) hS ?_ (fun V hV => ?_) (fun V hV => ?_) ?_ ?_); rotate_left 2; (focus rfl); (focus (obtain ⟨q0, q1, q2, q3, -⟩ := cells4 (hV.get (B := w.heap.size + 1) (o := (.cells #[.int .i64 k, .int .i64 th, .int .i64 v, .int .i64 u] 63)) (by simp)); first | (go_simp; with_reducible rfl) | (go_simp; refine (if_pos ?_).trans ?_; omega; with_reducible rfl))); (focus (obtain ⟨q0, q1, q2, q3, -⟩ := cells4 (hV.get (B := w.heap.size + 1) (o := (.cells #[.int .i64 k, .int .i64 th, .int .i64 v, .int .i64 u] 63)) (by simp)); first | (go_simp; done) | (go_simp; with_reducible rfl))); (focus (simp only [Act.put, List.setIfInBounds_toArray, List.set_cons_succ, List.set_cons_zero] <;> rfl)))
    refine o3_onlyS rfl rfl ?_
    go_simp
    refine ⟨trivial, rfl, (callsIn_wide.2 (BR _)).mono ?_⟩
    rintro e w2 ⟨xa, xb, xc, rfl, hb⟩
    replace hS := hS.on hb
    clear hb
    obtain ⟨qq, hqq⟩ : ∃ qq : Bool, Hid (qq = (!(th == xa && v == xb && u == xc))) := ⟨_, Lib.hid rfl⟩
    refine ⟨hS, ?_⟩
    ((with_reducible refine o3_calmT (v := .bool qq) (a' := ?_) hS ?_ (fun V => ?_) ?_ ?_); rotate_left; (focus rfl); (focus (rw [hqq.out]; go_simp; by_cases h1 : th = xa <;> by_cases h2 : v = xb <;> by_cases h3 : u = xc <;> simp [h1, h2, h3])); (focus (simp only [Act.put, List.setIfInBounds_toArray, List.set_cons_succ, List.set_cons_zero] <;> rfl)))
    ((with_reducible refine o3_calmT (v := ?_) (a' := ?_) hS ?_ (fun V => ?_) ?_ ?_); rotate_left 2; (rfl); (first | (go_simp; with_reducible rfl) | (go_simp; refine (if_pos ?_).trans ?_; omega; with_reducible rfl)); (simp only [Act.put, List.setIfInBounds_toArray, List.set_cons_succ, List.set_cons_zero] <;> rfl))
    refine o3_end _ ?_
    try simp only [Exit.then]
    obtain ⟨q0, q1, q2, q3, -⟩ := cells4 (hS.get (B := w.heap.size) (o := (.cells #[.int .i64 k, .int .i64 th, .int .i64 v, .int .i64 u] 41)) (by simp))
    clear hqq
    cases qq with
    | true =>
      go_wp2
      go_ret
      first | exact ⟨_, rfl, hS.below⟩ | exact ⟨⟨_, rfl⟩, hS.below⟩ | exact hS.below
    | false =>
      by_cases h1 : th < 0
      · go_wp2
        go_ret
        first | exact ⟨_, rfl, hS.below⟩ | exact ⟨⟨_, rfl⟩, hS.below⟩ | exact hS.below
      · by_cases h2 : th ≥ 16
        · go_wp2
          go_ret
          first | exact ⟨_, rfl, hS.below⟩ | exact ⟨⟨_, rfl⟩, hS.below⟩ | exact hS.below
        · have TU := T2 u
          cases hu : (decide (0 ≤ u) && decide (u ≤ 1099511627776)) with
          | false =>
            rw [hu] at TU
            clear hu
            go_wp2_with (first
                | (go_at_call 36; (with_reducible refine (TU _).mono ?_); rintro e w5 ⟨rfl, hw⟩; obtain rfl := hw.symm; clear hw))
            go_ret
            first | exact ⟨_, rfl, hS.below⟩ | exact ⟨⟨_, rfl⟩, hS.below⟩ | exact hS.below
          | true =>
            rw [hu] at TU
            clear hu
            by_cases h3 : k = 11
            · subst h3
              have TV := T2 v
              generalize (decide (0 ≤ v) && decide (v ≤ 1099511627776)) = tv at *
              cases tv
              all_goals
                go_wp2_with (first
                    | (go_at_call 36; (with_reducible refine (TU _).mono ?_); rintro e w5 ⟨rfl, hw⟩; obtain rfl := hw.symm; clear hw)
                    | (go_at_call 36; (with_reducible refine (TV _).mono ?_); rintro e w5 ⟨rfl, hw⟩; obtain rfl := hw.symm; clear hw))
                go_ret
                first | exact ⟨_, rfl, hS.below⟩ | exact ⟨⟨_, rfl⟩, hS.below⟩ | exact hS.below
            · have h4 : (k == 11) = false := by simpa using h3
              go_wp2_with (first
                  | (go_at_call 36; (with_reducible refine (TU _).mono ?_); rintro e w5 ⟨rfl, hw⟩; obtain rfl := hw.symm; clear hw))
              go_ret
              first | exact ⟨_, rfl, hS.below⟩ | exact ⟨⟨_, rfl⟩, hS.below⟩ | exact hS.below
  | false =>
    cases oc with
    | false =>
      obtain ⟨q0, q1, q2, q3, -⟩ := cells4 (hS.get (B := w.heap.size) (o := (.cells #[.int .i64 k, .int .i64 th, .int .i64 v, .int .i64 u] 41)) (by simp))
      go_wp2_with (first
          | (go_at_call 34; (with_reducible refine (OC _).mono ?_); rintro e w5 ⟨rfl, hw⟩; obtain rfl := hw.symm; clear hw))
      go_ret
      first | exact ⟨_, rfl, hS.below⟩ | exact ⟨⟨_, rfl⟩, hS.below⟩ | exact hS.below
    | true =>
      obtain ⟨q0, q1, q2, q3, -⟩ := cells4 (hS.get (B := w.heap.size) (o := (.cells #[.int .i64 k, .int .i64 th, .int .i64 v, .int .i64 u] 41)) (by simp))
      go_wp2_with (first
          | (go_at_call 34; (with_reducible refine (OC _).mono ?_); rintro e w5 ⟨rfl, hw⟩; obtain rfl := hw.symm; clear hw))
      clear q0 q1 q2 q3
      refine wp_region_ord3 (Blk w w.heap.size [(w.heap.size, (.cells #[.int .i64 k, .int .i64 th, .int .i64 v, .int .i64 u] 41)), (w.heap.size + 1, (.cells #[.int .i64 k, .int .i64 th, .int .i64 v, .int .i64 u] 63))]) (Blk w w.heap.size [(w.heap.size, (.cells #[.int .i64 k, .int .i64 th, .int .i64 v, .int .i64 u] 41)), (w.heap.size + 1, (.cells #[.int .i64 k, .int .i64 th, .int .i64 v, .int .i64 u] 63))]) 2 (by kernel_rfl)
        [(1, 1), (2, 0), (0, 2), (2, 3), (2, 4)]
        (by kernel_rfl) (by kernel_rfl) (by decide) (by kernel_rfl) (fun _ _ d _ _ h => by cases d <;> exact h) ?_
      simp only [inOrder2, List.getElem?_cons_succ, List.getElem?_cons_zero, List.nil_append, List.cons_append]
      replace hS := hS.drew
      ((with_reducible refine o3_pre (v := ?_) (a' := ?_) hS ?_ (fun V hV => ?_) ?_ ?_); rotate_left 2; (rfl); (obtain ⟨q0, q1, q2, q3, -⟩ := cells4 (hV.get (B := w.heap.size + 1) (o := (.cells #[.int .i64 k, .int .i64 th, .int .i64 v, .int .i64 u] 63)) (by simp)); first | (go_simp; with_reducible rfl) | (go_simp; refine (if_pos ?_).trans ?_; omega; with_reducible rfl)); (simp only [Act.put, List.setIfInBounds_toArray, List.set_cons_succ, List.set_cons_zero] <;> rfl))
      ((with_reducible refine o3_both (v := ?_) (a' := ?_) hS ?_ (fun V hV => ?_) (fun V hV => ?_) ?_ ?_); rotate_left 2; (focus rfl); (focus (obtain ⟨q0, q1, q2, q3, -⟩ := cells4 (hV.get (B := w.heap.size + 1) (o := (.cells #[.int .i64 k, .int .i64 th, .int .i64 v, .int .i64 u] 63)) (by simp)); first | (go_simp; with_reducible rfl) | (go_simp; refine (if_pos ?_).trans ?_; omega; with_reducible rfl))); (focus (obtain ⟨q0, q1, q2, q3, -⟩ := cells4 (hV.get (B := w.heap.size + 1) (o := (.cells #[.int .i64 k, .int .i64 th, .int .i64 v, .int .i64 u] 63)) (by simp)); first | (go_simp; done) | (go_simp; with_reducible rfl))); (focus (simp only [Act.put, List.setIfInBounds_toArray, List.set_cons_succ, List.set_cons_zero] <;> rfl)))
      refine o3_onlyS rfl rfl ?_
      go_simp
      refine ⟨trivial, rfl, (callsIn_wide.2 (BR _)).mono ?_⟩
      rintro e w2 ⟨xa, xb, xc, rfl, hb⟩
      replace hS := hS.on hb
      clear hb
      obtain ⟨qq, hqq⟩ : ∃ qq : Bool, Hid (qq = (!(th == xa && v == xb && u == xc))) := ⟨_, Lib.hid rfl⟩
      refine ⟨hS, ?_⟩
      ((with_reducible refine o3_calmT (v := .bool qq) (a' := ?_) hS ?_ (fun V => ?_) ?_ ?_); rotate_left; (focus rfl); (focus (rw [hqq.out]; go_simp; by_cases h1 : th = xa <;> by_cases h2 : v = xb <;> by_cases h3 : u = xc <;> simp [h1, h2, h3])); (focus (simp only [Act.put, List.setIfInBounds_toArray, List.set_cons_succ, List.set_cons_zero] <;> rfl)))
      ((with_reducible refine o3_calmT (v := ?_) (a' := ?_) hS ?_ (fun V => ?_) ?_ ?_); rotate_left 2; (rfl); (first | (go_simp; with_reducible rfl) | (go_simp; refine (if_pos ?_).trans ?_; omega; with_reducible rfl)); (simp only [Act.put, List.setIfInBounds_toArray, List.set_cons_succ, List.set_cons_zero] <;> rfl))
      refine o3_end _ ?_
      try simp only [Exit.then]
      obtain ⟨q0, q1, q2, q3, -⟩ := cells4 (hS.get (B := w.heap.size) (o := (.cells #[.int .i64 k, .int .i64 th, .int .i64 v, .int .i64 u] 41)) (by simp))
      clear hqq
      cases qq with
      | true =>
        go_wp2
        go_ret
        first | exact ⟨_, rfl, hS.below⟩ | exact ⟨⟨_, rfl⟩, hS.below⟩ | exact hS.below
      | false =>
        by_cases h1 : th < 0
        · go_wp2
          go_ret
          first | exact ⟨_, rfl, hS.below⟩ | exact ⟨⟨_, rfl⟩, hS.below⟩ | exact hS.below
        · by_cases h2 : th ≥ 16
          · go_wp2
            go_ret
            first | exact ⟨_, rfl, hS.below⟩ | exact ⟨⟨_, rfl⟩, hS.below⟩ | exact hS.below
          · have TU := T2 u
            cases hu : (decide (0 ≤ u) && decide (u ≤ 1099511627776)) with
            | false =>
              rw [hu] at TU
              clear hu
              go_wp2_with (first
                  | (go_at_call 36; (with_reducible refine (TU _).mono ?_); rintro e w5 ⟨rfl, hw⟩; obtain rfl := hw.symm; clear hw))
              go_ret
              first | exact ⟨_, rfl, hS.below⟩ | exact ⟨⟨_, rfl⟩, hS.below⟩ | exact hS.below
            | true =>
              rw [hu] at TU
              clear hu
              by_cases h3 : k = 11
              · subst h3
                have TV := T2 v
                generalize (decide (0 ≤ v) && decide (v ≤ 1099511627776)) = tv at *
                cases tv
                all_goals
                  go_wp2_with (first
                      | (go_at_call 36; (with_reducible refine (TU _).mono ?_); rintro e w5 ⟨rfl, hw⟩; obtain rfl := hw.symm; clear hw)
                      | (go_at_call 36; (with_reducible refine (TV _).mono ?_); rintro e w5 ⟨rfl, hw⟩; obtain rfl := hw.symm; clear hw))
                  go_ret
                  first | exact ⟨_, rfl, hS.below⟩ | exact ⟨⟨_, rfl⟩, hS.below⟩ | exact hS.below
              · have h4 : (k == 11) = false := by simpa using h3
                go_wp2_with (first
                    | (go_at_call 36; (with_reducible refine (TU _).mono ?_); rintro e w5 ⟨rfl, hw⟩; obtain rfl := hw.symm; clear hw))
                go_ret
                first | exact ⟨_, rfl, hS.below⟩ | exact ⟨⟨_, rfl⟩, hS.below⟩ | exact hS.below

set_option maxRecDepth 100000 in
set_option maxHeartbeats 4000000 in
theorem decode_no (l : List Int) (A : Option Addr) (c : Nat) (w : World) (hl : l.length ≠ 4) (hl2 : l.length ≤ 100000) :
    Calls Tryz.prog 7 #[.slice A l.length c] w fun e w' => ∃ a b c d e0, e = .returned (.tuple #[.agg #[.int .i64 a, .int .i64 b, .int .i64 c, .int .i64 d], .int .i64 e0]) ∧ Below w.heap.size w w' := by
  have h1 : ((l.length : Int) != 4) = true := by simpa using (show ¬ ((l.length : Int) = 4) by omega)
  go_enter Tryz.func7, Tryz.ntmps7
  go_wp2
  go_returns
  exact ⟨0, 0, 0, 0, 190, rfl, by go_grown⟩

set_option maxRecDepth 100000 in
set_option maxHeartbeats 4000000 in
theorem decode_yes (x0 x1 x2 x3 : Int) (A : Option Addr) (c : Nat) (w : World) (hA : Lies w w.heap.size A (ints [x0, x1, x2, x3])) :
    Calls Tryz.prog 7 #[.slice A 4 c] w fun e w' => ∃ a b c d e0, e = .returned (.tuple #[.agg #[.int .i64 a, .int .i64 b, .int .i64 c, .int .i64 d], .int .i64 e0]) ∧ Below w.heap.size w w' := by
  obtain ⟨b, off, rfl, hb0, hc⟩ := hA.open_ (by simp [ints_len])
  go_enter Tryz.func7, Tryz.ntmps7
  go_wp2_with fail
  have kz0 := World.alloc_heap_new w (.cells #[.int .i64 0, .int .i64 0, .int .i64 0, .int .i64 0] 41)
  refine wp_region_ord3 (fun V => Below w.heap.size w V) (AnyW) 14 (by kernel_rfl)
    [(2, 0), (2, 1), (2, 3), (2, 4), (2, 6), (2, 7), (2, 9), (2, 10), (1, 2), (1, 5), (1, 8), (1, 11), (2, 12), (0, 13), (0, 14)]
    (by kernel_rfl) (by kernel_rfl) (by decide) (by kernel_rfl) (fun _ _ d _ _ h => by cases d <;> exact h) ?_
  simp only [inOrder2, List.getElem?_cons_succ, List.getElem?_cons_zero, List.nil_append, List.cons_append]
  have hS := (Below.refl w.heap.size w).alloc (Nat.le_refl _) (.cells #[.int .i64 0, .int .i64 0, .int .i64 0, .int .i64 0] 41)
  have hS0 := hS
  replace hS := hS.drew
  generalize hw3 : ((w.alloc (.cells #[.int .i64 0, .int .i64 0, .int .i64 0, .int .i64 0] 41)).drew) = w3 at *
  iterate 8 (((with_reducible refine o3_calmF (v := ?_) (a' := ?_) hS ?_ (fun V => ?_) ?_ ?_); rotate_left 2; (rfl); (first | (go_simp; with_reducible rfl) | (go_simp; refine (if_pos ?_).trans ?_; omega; with_reducible rfl)); (simp only [Act.put, List.setIfInBounds_toArray, List.set_cons_succ, List.set_cons_zero] <;> rfl)))
  iterate 4 (((with_reducible refine o3_pre (v := ?_) (a' := ?_) hS ?_ (fun V hV => ?_) ?_ ?_); rotate_left 2; (rfl); (have d0 := keep_c (hc 0 _ rfl) hV; have d1 := keep_c (hc 1 _ rfl) hV; have d2 := keep_c (hc 2 _ rfl) hV; have d3 := keep_c (hc 3 _ rfl) hV; rw [Nat.add_zero] at d0; first | (go_simp; with_reducible rfl) | (go_simp; refine (if_pos ?_).trans ?_; omega; with_reducible rfl)); (simp only [Act.put, List.setIfInBounds_toArray, List.set_cons_succ, List.set_cons_zero] <;> rfl)))
  ((with_reducible refine o3_calmF (v := ?_) (a' := ?_) hS ?_ (fun V => ?_) ?_ ?_); rotate_left 2; (rfl); (first | (go_simp; with_reducible rfl) | (go_simp; refine (if_pos ?_).trans ?_; omega; with_reducible rfl)); (simp only [Act.put, List.setIfInBounds_toArray, List.set_cons_succ, List.set_cons_zero] <;> rfl))
  refine o3_onlyF rfl rfl ?_
  go_simp
  have kB := World.alloc_heap_new w3 (.cells #[.int .i64 0, .int .i64 0, .int .i64 0, .int .i64 0] 41)
  have hB2 := hS.alloc hS.size (.cells #[.int .i64 0, .int .i64 0, .int .i64 0, .int .i64 0] 41)
  have hz3 := hS.size
  have hS0' := hS
  refine ⟨hB2, ?_⟩
  obtain ⟨e0, e1, e2, e3, g0, g1, g2, g3⟩ := cells4 kB
  refine o3_onlyS rfl rfl ?_
  go_simp
  refine ⟨trivial, ?_⟩
  refine o3_end _ ?_
  try simp only [Exit.then]
  have kz : w3.heap[w.heap.size]? = some (.cells #[.int .i64 0, .int .i64 0, .int .i64 0, .int .i64 0] 41) := by rw [← hw3]; exact kz0
  have hlz := blk_lt kz
  have k4 := World.alloc_heap_new w3 (.cells #[.int .i64 x0, .int .i64 x1, .int .i64 x2, .int .i64 x3] 41)
  have kz4 := keep_alloc kz (.cells #[.int .i64 x0, .int .i64 x1, .int .i64 x2, .int .i64 x3] 41)
  have hB4 := hS0'.alloc hz3 (.cells #[.int .i64 x0, .int .i64 x1, .int .i64 x2, .int .i64 x3] 41)
  clear kz0 kz hw3 e0 e1 e2 e3 g0 g1 g2 g3 kB hB2 hS
  generalize w3.alloc (.cells #[.int .i64 x0, .int .i64 x1, .int .i64 x2, .int .i64 x3] 41) = wq at *
  obtain ⟨p0, p1, p2, p3, -⟩ := cells4 k4
  go_wp2_with (first
      | (go_at_call 17; go_loud (with_reducible refine (callCheck_any x0 x1 x2 x3 _).mono ?_); go_loud (rintro e w5 ⟨er, rfl, hb⟩); go_loud ( have hB5 := hB4.trans (hb.mono hB4.size); have k5 := kept k4 hb; have kz5 := kept kz4 hb; obtain ⟨m0, m1, m2, m3, -⟩ := cells4 k5; obtain ⟨n0, n1, n2, n3, o0, o1, o2, o3⟩ := cells4 kz5; have HB := hb)))
  · obtain ⟨r0, r1, r2, r3, -⟩ := cells4 (put_cell (i := 3) (put_cell (i := 2) (put_cell (i := 1) (put_cell (i := 0) kz5 (.int .i64 0)) (.int .i64 0)) (.int .i64 0)) (.int .i64 0))
    refine bodyPost_ret (v := .tuple #[.agg #[.int .i64 0, .int .i64 0, .int .i64 0, .int .i64 0], .int .i64 er]) (by simp [results, Tryz.f7, go_sem, r0, r1, r2, r3]) rfl ⟨_, _, _, _, _, rfl, ?_⟩
    exact (((hB5.setCell (p := ⟨w.heap.size, 0, none⟩) (Nat.le_refl _) _).setCell (p := ⟨w.heap.size, 1, none⟩) (Nat.le_refl _) _).setCell (p := ⟨w.heap.size, 2, none⟩) (Nat.le_refl _) _).setCell (p := ⟨w.heap.size, 3, none⟩) (Nat.le_refl _) _
  · obtain ⟨r0, r1, r2, r3, -⟩ := cells4 (put_cell (i := 3) (put_cell (i := 2) (put_cell (i := 1) (put_cell (i := 0) kz5 (.int .i64 x0)) (.int .i64 x1)) (.int .i64 x2)) (.int .i64 x3))
    refine bodyPost_ret (v := .tuple #[.agg #[.int .i64 x0, .int .i64 x1, .int .i64 x2, .int .i64 x3], .int .i64 0]) (by simp [results, Tryz.f7, go_sem, r0, r1, r2, r3]) rfl ⟨_, _, _, _, _, rfl, ?_⟩
    exact (((hB5.setCell (p := ⟨w.heap.size, 0, none⟩) (Nat.le_refl _) _).setCell (p := ⟨w.heap.size, 1, none⟩) (Nat.le_refl _) _).setCell (p := ⟨w.heap.size, 2, none⟩) (Nat.le_refl _) _).setCell (p := ⟨w.heap.size, 3, none⟩) (Nat.le_refl _) _

end Go.Proofs.YtnbgpopjnpdmgaaGreat

namespace Go.Proofs.YtnbgpopjnpdmgaaGreat
open Go Go.RowKit Go.Shelf

theorem Holds.open6 {w : World} {S : St} {L : Lay} (h : Holds w S L) (hp : 0 < S.ths.length) : ∃ g off, L.a6 = some ⟨g, off, none⟩ ∧ g < w.heap.size ∧ ∀ (k : Nat) (t : Th), S.ths[k]? = some t → ∀ j v, t.list[j]? = some v → w.cell? ⟨g, off + k * 11 + j, none⟩ = some v := by
  obtain ⟨g, off, hA, hg, hc⟩ := h.h6.open_ (by rw [ths_len]; omega)
  refine ⟨g, off, hA, hg, fun k t ht j v hj => ?_⟩
  rw [Nat.add_assoc]
  exact hc _ _ (flat_at (f := Th.list) (k := 11) (fun _ => rfl) ht hj)
def St.quiet (S : St) : Bool := !S.ok || S.ths.all (fun t => t.runs != 0)

set_option maxRecDepth 100000 in
set_option maxHeartbeats 4000000 in
theorem active_no (S : St) (L : Lay) (w : World) (hsm : S.small) (hH : Holds w S L) (h : S.ok = false) :
    Calls Tryz.prog 29 #[S.val L] w fun e w' => ∃ A' n c', e = .returned (.slice A' n c') ∧ (decide (n = 0)) = S.quiet ∧ Below w.heap.size w w' := by
  have K := fun W (hW : Below w.heap.size w W) => check_state S L W hsm (hH.on hW)
  have k0 := World.alloc_heap_new w (.cells (S.cells L) 36)
  have hB0 : Below w.heap.size w (w.alloc (.cells (S.cells L) 36)) := below_one w _
  have hl6 := hsm.2.2.2.2.2.1
  rw [h] at K
  have hq : S.quiet = true := by simp [St.quiet, h]
  clear h
  go_enter Tryz.func29, Tryz.ntmps29
  go_wp2_with (first
      | ((with_reducible refine wpList_val (load36 k0 ?_ ?_) ?_); (focus rfl); (focus rfl))
      | (go_at_call 22; (with_reducible refine (K _ hB0).mono ?_); rintro e w1 ⟨rfl, hb⟩; have hB := hB0.trans (hb.mono hB0.size); replace k0 := kept k0 hb))
  go_ret
  exact ⟨none, 0, 0, rfl, by rw [hq]; rfl, hB⟩

set_option maxRecDepth 100000 in
set_option maxHeartbeats 8000000 in
theorem active_yes (S : St) (L : Lay) (w : World) (hsm : S.small) (hH : Holds w S L) (h : S.ok = true) (hpos : 0 < S.ths.length) :
    Calls Tryz.prog 29 #[S.val L] w fun e w' => ∃ A' n c', e = .returned (.slice A' n c') ∧ (decide (n = 0)) = S.quiet ∧ Below w.heap.size w w' := by
  have K := fun W (hW : Below w.heap.size w W) => check_state S L W hsm (hH.on hW)
  have k0 := World.alloc_heap_new w (.cells (S.cells L) 36)
  have hB0 : Below w.heap.size w (w.alloc (.cells (S.cells L) 36)) := below_one w _
  have hl6 := hsm.2.2.2.2.2.1
  obtain ⟨g, off, hA, hg, hc6⟩ := hH.open6 hpos
  have HA := Lib.hid hA
  clear hA
  rw [h] at K
  obtain ⟨i0, hi, hz0, hz1, hz2⟩ := info_parts int_inf
  have hq : S.quiet = S.ths.all (fun t => t.runs != 0) := by simp [St.quiet, h]
  rw [hq]
  clear h hH hq
  go_enter Tryz.func29, Tryz.ntmps29
  go_wp2_with (first
      | ((with_reducible refine wpList_val (load36 k0 ?_ ?_) ?_); (focus rfl); (focus rfl))
      | (go_at_call 22; (with_reducible refine (K _ hB0).mono ?_); rintro e w1 ⟨rfl, hb⟩; have hB := hB0.trans (hb.mono hB0.size); replace k0 := kept k0 hb; have c18 : w1.cell? ⟨w.heap.size, 18, none⟩ = some (.slice (some ⟨g, off, none⟩) S.ths.length L.c6) := (by rw [(of_block k0 18).1]; simp [HA.out])))
  clear c18 k0 hB0 hb K
  go_loopw [2, 11] (fun v i wr => ∃ (k : Nat) (U : List Int) (A' : Option Addr) (c' : Nat), k ≤ S.ths.length ∧ i = .int .i64 k ∧ v = .slice A' U.length c' ∧ U.length ≤ k ∧ (decide (U.length = 0)) = (S.ths.take k).all (fun t => t.runs != 0) ∧ Mine wr w.heap.size 3 1 A' c' U.length (ints U) ∧ Below w.heap.size w wr) (fun _ i _ => S.ths.length - (intOf i).toNat)
  case atStart => exact ⟨0, [], none, 0, Nat.zero_le _, rfl, rfl, Nat.le_refl _, by simp, World.ownsRow_nil _ _ _ _, hB⟩
  case round =>
    clear hB
    obtain ⟨k, U, A', c', hk, rfl, rfl, hU, hall, hown, hB⟩ := hrel
    have hsz : w.heap.size ≤ wr.heap.size := hB.size
    by_cases hlt : k < S.ths.length
    · obtain ⟨t, ht⟩ : ∃ t, S.ths[k]? = some t := ⟨_, List.getElem?_eq_getElem hlt⟩
      have hcs := fun j v h => keep_c (hc6 k t ht j v h) hB
      have hsn : (S.ths.take (k + 1)).all (fun t => t.runs != 0) = ((S.ths.take k).all (fun t => t.runs != 0) && (t.runs != 0)) := by rw [take_snoc ht, List.all_append]; simp
      have RN := fun W => th_runs t W
      generalize t.runs = r at *
      have HS := Lib.hid hsn
      clear hsn ht hc6
      by_cases h0 : r = 0
      · subst h0
        go_wp2_with (first
            | ((with_reducible refine wpList_val (loadTh hcs ?_) ?_); (focus rfl))
            | (go_at_call 56; (with_reducible refine (RN _).mono ?_); rintro e w2 ⟨rfl, hb2⟩; have hb3 : Below wr.heap.size wr w2 := (below_one wr (.cells t.cells 51)).trans (hb2.mono (by simp)); have hB3 := hB.trans (hb3.mono hsz); have hsz2 := hB3.size; replace hown := hown.kept hb3)
            | (at_builtin; go_loud (refine wpList_append_own _ rfl _ _ 30 rfl w.heap.size 3 i0 (.int .i64 0) 1 8 Tryz.underlying30 hi hz0 hz1 hz2 rfl (by decide) _ _ _ rfl (World.ownsRow.alloc hown _) ⟨w2.heap.size, 0, none⟩ 1 1 [.int .i64 k] rfl rfl (cell_one _ _ _) (by simp [Value.oneCell']) (by simp only [maxLen]; omega) (by omega) (by simp; omega) ?_); intro v' wz hown' hgrow hnil))
        have hB2 : Below w.heap.size w wz := (hB3.alloc (Nat.le_trans hsz hb3.size) _).grown hgrow (by have := hb3.size; simp; omega) (by intro g hg; exact (World.ownsRow.lt hown g hg).1)
        have hown2 : wz.ownsRow w.heap.size 3 1 v' (U ++ [(k : Int)]).length (ints (U ++ [(k : Int)])) := by simpa using hown'
        clear hown hown' hgrow hB hB3
        obtain ⟨A2, c2, rfl⟩ : ∃ A2 c2, v' = .slice A2 (U ++ [(k : Int)]).length c2 := by
          rcases hown2.2 with ⟨e1, e2⟩ | ⟨g, cap, cur, e1, _⟩
          · exact ⟨none, 0, by rw [e1, e2]⟩
          · exact ⟨_, cap, e1⟩
        go_roundw
        case rel => exact ⟨k + 1, U ++ [(k : Int)], A2, c2, by omega, by go_num, rfl, by simp; omega, by rw [HS.out]; simp, hown2, hB2⟩
        case measure => simp [intOf]; omega
      · have h0' : (r == 0) = false := by simpa using h0
        have h0n : (r != 0) = true := by simpa using h0
        go_wp2_with (first
            | ((with_reducible refine wpList_val (loadTh hcs ?_) ?_); (focus rfl))
            | (go_at_call 56; (with_reducible refine (RN _).mono ?_); rintro e w2 ⟨rfl, hb2⟩; have hb3 : Below wr.heap.size wr w2 := (below_one wr (.cells t.cells 51)).trans (hb2.mono (by simp)); have hB3 := hB.trans (hb3.mono hsz); have hsz2 := hB3.size; replace hown := hown.kept hb3))
        go_roundw
        case rel => exact ⟨k + 1, U, A', c', by omega, by go_num, rfl, by omega, by rw [HS.out, hall, h0n]; simp, hown, hB3⟩
        case measure => simp [intOf]; omega
    · obtain rfl : k = S.ths.length := by omega
      rw [List.take_length] at *
      go_wp2
      go_ret
      exact ⟨A', _, c', rfl, hall, hB⟩

theorem active_any (S : St) (L : Lay) (w : World) (hsm : S.small) (hH : Holds w S L) (hpos : 0 < S.ths.length) : Calls Tryz.prog 29 #[S.val L] w fun e w' => ∃ A' n c', e = .returned (.slice A' n c') ∧ (decide (n = 0)) = S.quiet ∧ Below w.heap.size w w' := by
  cases h : S.ok with
  | false => exact active_no S L w hsm hH h
  | true => exact active_yes S L w hsm hH h hpos

set_option maxRecDepth 100000 in
set_option maxHeartbeats 4000000 in
theorem quiet_any (S : St) (L : Lay) (w : World) (hsm : S.small) (hH : Holds w S L) (hpos : 0 < S.ths.length) :
    Calls Tryz.prog 12 #[S.val L] w fun e w' => e = .returned (.bool S.quiet) ∧ Below w.heap.size w w' := by
  have K := fun W (hW : Below w.heap.size w W) => active_any S L W hsm (hH.on hW) hpos
  have k0 := World.alloc_heap_new w (.cells (S.cells L) 36)
  have hB0 : Below w.heap.size w (w.alloc (.cells (S.cells L) 36)) := below_one w _
  have hl6 := hsm.2.2.2.2.2.1
  generalize S.quiet = q at *
  go_enter Tryz.func12, Tryz.ntmps12
  go_wp2_with (first
      | ((with_reducible refine wpList_val (load36 k0 ?_ ?_) ?_); (focus rfl); (focus rfl))
      | (go_at_call 29; (with_reducible refine (K _ hB0).mono ?_); rintro e w1 ⟨A1, n, c1, rfl, rfl, hb⟩; have hB := hB0.trans (hb.mono hB0.size)))
  have hd : ((n : Int) == 0) = decide (n = 0) := by by_cases h0 : n = 0 <;> simp [h0]
  go_ret
  exact ⟨by rw [hd]; rfl, hB⟩

set_option maxRecDepth 100000 in
set_option maxHeartbeats 4000000 in
theorem parked_no (S : St) (L : Lay) (k : Nat) (w : World) (hsm : S.small) (hH : Holds w S L) (h : S.ok = true) (t : Th) (ht : S.ths[k]? = some t) (hs : t.status ≠ 2) :
    Calls Tryz.prog 30 #[S.val L, .int .i64 k] w fun e w' => e = .returned (.bool false) ∧ Below w.heap.size w w' := by
  have K := fun W (hW : Below w.heap.size w W) => check_state S L W hsm (hH.on hW)
  have k0 := World.alloc_heap_new w (.cells (S.cells L) 36)
  have hB0 : Below w.heap.size w (w.alloc (.cells (S.cells L) 36)) := below_one w _
  have hl6 := hsm.2.2.2.2.2.1
  have hk := (List.getElem?_eq_some_iff.1 ht).1
  have hpos : 0 < S.ths.length := by omega
  obtain ⟨g, off, hA, hg, hc6⟩ := hH.open6 hpos
  have HA := Lib.hid hA
  clear hA
  rw [h] at K
  have hcs0 := hc6 k t ht
  have hs' : (t.status == 2) = false := by simpa using hs
  clear h hH ht hc6 hs
  go_enter Tryz.func30, Tryz.ntmps30
  go_wp2_with (first
      | ((with_reducible refine wpList_val (load36 k0 ?_ ?_) ?_); (focus rfl); (focus rfl))
      | (go_at_call 22; (with_reducible refine (K _ hB0).mono ?_); rintro e w1 ⟨rfl, hb⟩; have hB := hB0.trans (hb.mono hB0.size); replace k0 := kept k0 hb; have c18 : w1.cell? ⟨w.heap.size, 18, none⟩ = some (.slice (some ⟨g, off, none⟩) S.ths.length L.c6) := (by rw [(of_block k0 18).1]; simp [HA.out]); have hcs := fun j v h => keep_c (hcs0 j v h) hB; have f0 := hcs 0 _ rfl; rw [Nat.add_zero] at f0))
  go_ret
  exact ⟨rfl, hB⟩

set_option maxRecDepth 100000 in
set_option maxHeartbeats 4000000 in
theorem safe_any (S : St) (L : Lay) (w : World) (hsm : S.small) (hH : Holds w S L) (h : S.ok = true) (hn : ∀ t ∈ S.ths, t.status ≠ 2) :
    Calls Tryz.prog 13 #[S.val L] w fun e w' => e = .returned (.bool true) ∧ Below w.heap.size w w' := by
  have k0 := World.alloc_heap_new w (.cells (S.cells L) 36)
  have hB0 : Below w.heap.size w (w.alloc (.cells (S.cells L) 36)) := below_one w _
  have hl6 := hsm.2.2.2.2.2.1
  have P : ∀ (k : Nat) W, k < S.ths.length → Below w.heap.size w W → Calls Tryz.prog 30 #[S.val L, .int .i64 k] W fun e w' => e = .returned (.bool false) ∧ Below W.heap.size W w' :=
    fun k W hk hW => parked_no S L k W hsm (hH.on hW) h _ (List.getElem?_eq_getElem hk) (hn _ (List.getElem_mem hk))
  have c18 : (w.alloc (.cells (S.cells L) 36)).cell? ⟨w.heap.size, 18, none⟩ = some (.slice L.a6 S.ths.length L.c6) := (of_block k0 18).1
  clear h hn hH
  go_enter Tryz.func13, Tryz.ntmps13
  go_wp2_with (first
      | fail)
  go_loopw [7] (fun i wr => ∃ k : Nat, k ≤ S.ths.length ∧ i = .int .i64 k ∧ wr.heap[w.heap.size]? = some (.cells (S.cells L) 36 (0, 0)) ∧ Below w.heap.size w wr) (fun i _ => S.ths.length - (intOf i).toNat)
  case atStart => exact ⟨0, Nat.zero_le _, rfl, k0, hB0⟩
  case round =>
    clear hB0 k0 c18
    obtain ⟨k, hk, rfl, k0, hB⟩ := hrel
    by_cases hlt : k < S.ths.length
    · go_wp2_with (first
          | ((with_reducible refine wpList_val (load36 k0 ?_ ?_) ?_); (focus rfl); (focus rfl))
          | (go_at_call 30; (with_reducible refine (P k _ hlt hB).mono ?_); rintro e w2 ⟨rfl, hb2⟩; have hB2 := hB.trans (hb2.mono hB.size); have k2 := kept k0 hb2))
      go_roundw
      case rel => exact ⟨k + 1, by omega, by go_num, k2, hB2⟩
      case measure => simp [intOf]; omega
    · obtain rfl : k = S.ths.length := by omega
      go_wp2
      go_ret
      exact ⟨rfl, hB⟩

end Go.Proofs.YtnbgpopjnpdmgaaGreat
