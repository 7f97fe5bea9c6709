/-
  DERIVED. Pile, Heap.
-/
import Derived.Test.YtnbgpopjnpdmgaaGreatPbj
import Derived.Test.YtnbgpopjnpdmgaaGreatPau
set_option linter.unusedVariables false
set_option linter.unusedSimpArgs false

namespace Go.Proofs.YtnbgpopjnpdmgaaGreat
open Go Go.RowKit Go.Shelf

def AnyB (e : Ending) : Prop := ∃ q : Bool, e = .returned (.bool q)
theorem one_du (t : Du) : ∀ v ∈ t.cells, v.oneCell' = true := by
  intro v h
  simp at h
  rcases h with rfl | rfl <;> rfl
theorem dus_len (l : List Du) : (dus l).length = l.length * 2 := flat_len (k := 2) (fun _ => rfl) l
theorem dus_set (l : List Du) {k : Nat} (hk : k < l.length) (t : Du) : (dus l).take (k * 2) ++ t.cells ++ (dus l).drop (k * 2 + t.cells.length) = dus (l.set k t) := by
  induction l generalizing k with
  | nil => simp at hk
  | cons a l ih =>
    cases k with
    | zero => simp [dus]
    | succ k =>
      have := ih (k := k) (by simpa using hk)
      simp only [dus, List.flatMap_cons, List.set_cons_succ] at this ⊢
      rw [← this]
      have ha : a.cells.length = 2 := rfl
      have ht : t.cells.length = 2 := rfl
      rw [List.take_append, List.drop_append, ha, ht, show (k + 1) * 2 - 2 = k * 2 by omega, show (k + 1) * 2 + 2 - 2 = k * 2 + 2 by omega, List.take_of_length_le (by rw [ha]; omega), List.drop_of_length_le (by rw [ha]; omega)]
      simp [ha]
theorem store_du {W : World} {base c n g : Nat} {l : List Du} (hm : Mine W base 141 2 (some ⟨g, 0, none⟩) c n (dus l)) {k : Nat} (hk : k < l.length) (t : Du) :
    ∃ V, Sem.run Tryz.prog (storeCells ⟨g, k * 2, none⟩ t.cells 0) W = .ok () V ∧ Mine V base 141 2 (some ⟨g, 0, none⟩) c n (dus (l.set k t)) ∧ W.grownBy V (some g) ∧ Below base W V := by
  have ht : t.cells.length = 2 := rfl
  obtain ⟨V, h1, h2, h3, h4⟩ := run_store_part (P := Tryz.prog) hm (k * 2) t.cells (by rw [dus_len, ht]; omega) (one_du t)
  exact ⟨V, h1, by rw [← dus_set l hk t]; exact h2, h3, h4⟩
theorem du_inf : (Tryz.prog.info? 141).map (fun i => (i.zero, i.size, i.bytes)) = some (some (.agg #[.int .i64 0, .int .i64 0]), 2, 16) := by kernel_rfl
/-- A row, shorter. -/
theorem Mine.shrink {w : World} {base : Nat} {e : TypeId} {k g c n m : Nat} {xs : List Value} (h : Mine w base e k (some ⟨g, 0, none⟩) c n xs) (hm : m ≤ n) : Mine w base e k (some ⟨g, 0, none⟩) c m (xs.take (m * k)) := by
  have hl : xs.length = n * k := h.1
  have hmk : m * k ≤ n * k := Nat.mul_le_mul_right k hm
  refine ⟨by rw [List.length_take]; omega, ?_⟩
  rcases h.2 with ⟨e1, _⟩ | ⟨g', cap, cur, e1, hb, hg, hn, hx, hs, ht⟩
  · cases e1
  · injection e1 with a1 a2 a3
    injection a1 with a1
    injection a1 with a1
    subst a1
    subst a3
    refine .inr ⟨g, c, cur, rfl, hb, hg, by omega, hx, hs, ?_⟩
    rw [← ht, List.take_take, Nat.min_eq_left hmk]
theorem dus_take (l : List Du) (m : Nat) : (dus l).take (m * 2) = dus (l.take m) := by
  induction l generalizing m with
  | nil => simp [dus]
  | cons a l ih =>
    cases m with
    | zero => simp [dus]
    | succ m =>
      have := ih m
      simp only [dus, List.flatMap_cons, List.take_succ_cons] at this ⊢
      rw [← this, List.take_append, show a.cells.length = 2 from rfl, show (m + 1) * 2 - 2 = m * 2 by omega, List.take_of_length_le (by show 2 ≤ _; omega)]
/-- All blocks below base stand but one. -/
structure BelowBut (base B : Nat) (w w' : World) : Prop where
  os : w'.os = w.os
  tape : w'.tape = w.tape
  output : w'.output = w.output
  size : w.heap.size ≤ w'.heap.size
  block : ∀ j, j < base → j ≠ B → w'.heap[j]? = w.heap[j]?
theorem BelowBut.refl (base B : Nat) (w : World) : BelowBut base B w w := ⟨rfl, rfl, rfl, Nat.le_refl _, fun _ _ _ => rfl⟩
theorem BelowBut.trans {base B : Nat} {a b c : World} (h : BelowBut base B a b) (k : BelowBut base B b c) : BelowBut base B a c :=
  ⟨k.os.trans h.os, k.tape.trans h.tape, k.output.trans h.output, Nat.le_trans h.size k.size, fun j hj hn => (k.block j hj hn).trans (h.block j hj hn)⟩
theorem BelowBut.of {base B B2 : Nat} {a b : World} (h : Below B2 a b) (hb : base ≤ B2) : BelowBut base B a b := ⟨h.os, h.tape, h.output, h.size, fun j hj _ => h.block j (by omega)⟩
theorem BelowBut.cell {base B i : Nat} {v : Value} {a b : World} (h : BelowBut base B a b) : BelowBut base B a (b.setCell ⟨B, i, none⟩ v) :=
  ⟨h.os, h.tape, h.output, by simpa [World.setCell] using h.size, fun j hj hn => (Below.heap_setCell b ⟨B, i, none⟩ v j hn).trans (h.block j hj hn)⟩
/-- All blocks stand but one and a row. -/
structure Frame (B : Nat) (A : Option Addr) (w w' : World) : Prop where
  os : w'.os = w.os
  tape : w'.tape = w.tape
  output : w'.output = w.output
  size : w.heap.size ≤ w'.heap.size
  block : ∀ j, j < w.heap.size → j ≠ B → (∀ o t, A ≠ some ⟨j, o, t⟩) → w'.heap[j]? = w.heap[j]?
theorem Frame.refl (B : Nat) (A : Option Addr) (w : World) : Frame B A w w := ⟨rfl, rfl, rfl, Nat.le_refl _, fun _ _ _ _ => rfl⟩
theorem Frame.trans {B : Nat} {A : Option Addr} {a b c : World} (h : Frame B A a b) (k : Frame B A b c) : Frame B A a c :=
  ⟨k.os.trans h.os, k.tape.trans h.tape, k.output.trans h.output, Nat.le_trans h.size k.size, fun j hj hn ha => (k.block j (Nat.lt_of_lt_of_le hj h.size) hn ha).trans (h.block j hj hn ha)⟩
theorem Frame.of {B : Nat} {A : Option Addr} {a b : World} (h : Below a.heap.size a b) : Frame B A a b := ⟨h.os, h.tape, h.output, h.size, fun j hj _ _ => h.block j hj⟩
theorem Frame.cell {B i : Nat} {A : Option Addr} {v : Value} {a b : World} (h : Frame B A a b) : Frame B A a (b.setCell ⟨B, i, none⟩ v) :=
  ⟨h.os, h.tape, h.output, by simpa [World.setCell] using h.size, fun j hj hn ha => (Below.heap_setCell b ⟨B, i, none⟩ v j hn).trans (h.block j hj hn ha)⟩
theorem Frame.row {B g : Nat} {a b : World} (h : a.grownBy b (some g)) : Frame B (some ⟨g, 0, none⟩) a b :=
  ⟨h.os, h.tape, h.output, h.size, fun j hj _ ha => h.block j hj (fun e => by injection e with e; subst e; exact ha 0 none rfl)⟩
theorem Frame.but {base B : Nat} {A : Option Addr} {e : TypeId} {k c n : Nat} {xs : List Value} {a b : World} (h : Frame B A a b) (hm : Mine a base e k A c n xs) (hle : base ≤ a.heap.size) : BelowBut base B a b :=
  ⟨h.os, h.tape, h.output, h.size, fun j hj hn => h.block j (by omega) hn (fun o t e => by have := (hm.base j o t e).1; omega)⟩
/-- A pile. -/
structure PileX (base B : Nat) (A : Option Addr) (c : Nat) (l : List Du) (W : World) : Prop where
  le : base ≤ W.heap.size
  hb : W.heap[B]? = some (.cells #[.slice A l.length c] 175 (0, 0))
  hm : Mine W base 141 2 A c l.length (dus l)
theorem PileX.on {base B : Nat} {A : Option Addr} {c : Nat} {l : List Du} {W V : World} (h : PileX base B A c l W) (hb : Below W.heap.size W V) : PileX base B A c l V := ⟨Nat.le_trans h.le hb.size, kept h.hb hb, h.hm.kept hb⟩
theorem PileX.drew {base B : Nat} {A : Option Addr} {c : Nat} {l : List Du} {W : World} (h : PileX base B A c l W) : PileX base B A c l W.drew := ⟨h.le, h.hb, h.hm⟩
theorem Mine.isCells {w : World} {base : Nat} {e : TypeId} {k : Nat} {A : Option Addr} {c n : Nat} {xs : List Value} (h : Mine w base e k A c n xs) {g o : Nat} {t : Option Nat} (hA : A = some ⟨g, o, t⟩) : ∃ cs T fr, w.heap[g]? = some (.cells cs T fr) := by
  rcases h.2 with ⟨e1, _⟩ | ⟨g', cap, cur, e1, hb, hg, _⟩
  · rw [hA] at e1; cases e1
  · rw [hA] at e1
    injection e1 with a1
    injection a1 with a1
    injection a1 with a1
    subst a1
    exact ⟨_, _, _, hg⟩
theorem PileX.ne {base B : Nat} {A : Option Addr} {c : Nat} {l : List Du} {W : World} (h : PileX base B A c l W) {g o : Nat} {t : Option Nat} (hA : A = some ⟨g, o, t⟩) : g ≠ B := h.hm.notBlock h.hb (by decide) g o t hA
/-- What is no row of cells stands. -/
def Odd (w w' : World) : Prop := ∀ (j : Nat) (o : Obj), w.heap[j]? = some o → (∀ cs T fr, o ≠ Obj.cells cs T fr) → w'.heap[j]? = some o
theorem Odd.trans {a b c : World} (h : Odd a b) (k : Odd b c) : Odd a c := fun j o h1 h2 => k j o (h j o h1 h2) h2
theorem PileX.odd {base B : Nat} {A : Option Addr} {c : Nat} {l : List Du} {W V : World} (h : PileX base B A c l W) (hf : Frame B A W V) : Odd W V := fun j o h1 h2 => by
  refine (hf.block j (blk_lt h1) (fun e => ?_) (fun o' t' hA => ?_)).trans h1
  · subst e
    rw [h.hb] at h1
    injection h1 with h1
    exact h2 _ _ _ h1.symm
  · obtain ⟨cs, T, fr, h3⟩ := h.hm.isCells hA
    rw [h3] at h1
    injection h1 with h1
    exact h2 _ _ _ h1.symm
theorem PileX.c0 {base B : Nat} {A : Option Addr} {c : Nat} {l : List Du} {W : World} (h : PileX base B A c l W) : W.cell? ⟨B, 0, none⟩ = some (.slice A l.length c) ∧ W.frozen? ⟨B, 0, none⟩ = false := of_block h.hb 0
theorem PileX.du {base B g : Nat} {c : Nat} {l : List Du} {W : World} (h : PileX base B (some ⟨g, 0, none⟩) c l W) {k : Nat} {d : Du} (hk : l[k]? = some d) : W.cell? ⟨g, k * 2, none⟩ = some (.int .i64 d.at_) ∧ W.cell? ⟨g, k * 2 + 1, none⟩ = some (.int .i64 d.id) := by
  have h0 := (h.hm.cellAt (flat_at (f := Du.cells) (k := 2) (fun _ => rfl) hk (j := 0) rfl)).1
  have h1 := (h.hm.cellAt (flat_at (f := Du.cells) (k := 2) (fun _ => rfl) hk (j := 1) rfl)).1
  exact ⟨by simpa using h0, h1⟩
def PileAt (base B : Nat) (l : List Du) (W : World) : Prop := ∃ A c, PileX base B A c l W
theorem typeAssert_run {W : World} {v : Value} {a : Act} {x : Operand} {dst : Option Tmp} {ty : TypeId} {ps : String} {af : Array Edge} (hx : a.eval x = .iface 141 v) :
    (execOp a.eval (Oper.mk dst (.typeAssert x 20 141 false) ty ps af none)).run Tryz.prog W = .ok (.value v) W := by
  have h1 := Tryz.runUnderlying141
  simp [execOp, hx, Instr.typeAssert, h1]

set_option maxRecDepth 100000 in
set_option maxHeartbeats 4000000 in
theorem ahead_any (a b : Du) (w : World) :
    Calls Tryz.prog 131 #[.agg a.cells.toArray, .agg b.cells.toArray] w fun e w' => AnyB e ∧ Below w.heap.size w w' := by
  obtain ⟨x, y⟩ := a
  obtain ⟨u, v⟩ := b
  by_cases h1 : x < u
  · go_enter Tryz.func131, Tryz.ntmps131
    go_wp2
    go_returns
    exact ⟨⟨_, rfl⟩, by go_grown⟩
  · by_cases h2 : x = u
    · subst h2
      have h3 : ¬ x < x := by omega
      go_enter Tryz.func131, Tryz.ntmps131
      go_wp2
      go_returns
      exact ⟨⟨_, rfl⟩, by go_grown⟩
    · have h3 : (x == u) = false := by simpa using h2
      go_enter Tryz.func131, Tryz.ntmps131
      go_wp2
      go_returns
      exact ⟨⟨_, rfl⟩, by go_grown⟩

set_option maxRecDepth 100000 in
set_option maxHeartbeats 2000000 in
theorem pile_len (base B : Nat) (A : Option Addr) (c : Nat) (l : List Du) (w : World) (hX : PileX base B A c l w) :
    Calls Tryz.prog 211 #[.pointer (some ⟨B, 0, none⟩)] w fun e w' => e = .returned (.int .i64 l.length) ∧ w' = w := by
  have c0 := hX.c0.1
  go_enter Tryz.func211, Tryz.ntmps211
  go_wp2
  go_ret
  exact ⟨rfl, rfl⟩

set_option maxRecDepth 100000 in
set_option maxHeartbeats 2000000 in
theorem pile_less (base B : Nat) (A : Option Addr) (c : Nat) (l : List Du) (i j : Nat) (w : World) (hi : i < l.length) (hj : j < l.length) (hX : PileX base B A c l w) :
    Calls Tryz.prog 212 #[.pointer (some ⟨B, 0, none⟩), .int .i64 i, .int .i64 j] w fun e w' => AnyB e ∧ Below w.heap.size w w' := by
  obtain ⟨g, rfl, -, -⟩ := hX.hm.some_ (by omega)
  obtain ⟨di, hdi⟩ : ∃ d, l[i]? = some d := ⟨_, List.getElem?_eq_getElem hi⟩
  obtain ⟨dj, hdj⟩ : ∃ d, l[j]? = some d := ⟨_, List.getElem?_eq_getElem hj⟩
  go_enter Tryz.func212, Tryz.ntmps212
  go_wp2_with fail
  refine wp_region_ord3 (PileX base B (some ⟨g, 0, none⟩) c l) (PileX base B (some ⟨g, 0, none⟩) c l) 12 (by kernel_rfl)
    [(2, 0), (2, 1), (2, 3), (2, 6), (2, 7), (2, 9), (2, 2), (2, 4), (1, 5), (2, 8), (2, 10), (1, 11), (0, 12), (2, 13)]
    (by kernel_rfl) (by kernel_rfl) (by decide) (by kernel_rfl) (fun _ _ d _ _ h => by cases d <;> exact h) ?_
  simp only [inOrder2, List.getElem?_cons_succ, List.getElem?_cons_zero, List.nil_append, List.cons_append]
  have hS := hX.drew
  iterate 6 (((with_reducible refine o3_calmF (v := ?_) (a' := ?_) hS ?_ (fun V => ?_) ?_ ?_); rotate_left 2; (rfl); (first | (go_simp; with_reducible rfl) | (go_simp; refine (if_pos ?_).trans ?_; omega; with_reducible rfl)); (simp only [Act.put, List.setIfInBounds_toArray, List.set_cons_succ, List.set_cons_zero] <;> rfl)))
  ((with_reducible refine o3_both (v := ?_) (a' := ?_) hS ?_ (fun V hV => ?_) (fun V hV => ?_) ?_ ?_); rotate_left 2; (focus rfl); (focus (have c0 := hV.c0.1; obtain ⟨x0, x1⟩ := hV.du hdi; obtain ⟨y0, y1⟩ := hV.du hdj; first | (go_simp; with_reducible rfl) | (go_simp; refine (if_pos ?_).trans ?_; omega; with_reducible rfl))); (focus (have c0 := hV.c0.1; obtain ⟨x0, x1⟩ := hV.du hdi; obtain ⟨y0, y1⟩ := hV.du hdj; first | (go_simp; done) | (go_simp; with_reducible rfl))); (focus (simp only [Act.put, List.setIfInBounds_toArray, List.set_cons_succ, List.set_cons_zero] <;> rfl)))
  ((with_reducible refine o3_calmF (v := ?_) (a' := ?_) hS ?_ (fun V => ?_) ?_ ?_); rotate_left 2; (rfl); (first | (go_simp; with_reducible rfl) | (go_simp; refine (if_pos ?_).trans ?_; omega; with_reducible rfl)); (simp only [Act.put, List.setIfInBounds_toArray, List.set_cons_succ, List.set_cons_zero] <;> rfl))
  ((with_reducible refine o3_pre (v := ?_) (a' := ?_) hS ?_ (fun V hV => ?_) ?_ ?_); rotate_left 2; (rfl); (have c0 := hV.c0.1; obtain ⟨x0, x1⟩ := hV.du hdi; obtain ⟨y0, y1⟩ := hV.du hdj; first | (go_simp; with_reducible rfl) | (go_simp; refine (if_pos ?_).trans ?_; omega; with_reducible rfl)); (simp only [Act.put, List.setIfInBounds_toArray, List.set_cons_succ, List.set_cons_zero] <;> rfl))
  ((with_reducible refine o3_both (v := ?_) (a' := ?_) hS ?_ (fun V hV => ?_) (fun V hV => ?_) ?_ ?_); rotate_left 2; (focus rfl); (focus (have c0 := hV.c0.1; obtain ⟨x0, x1⟩ := hV.du hdi; obtain ⟨y0, y1⟩ := hV.du hdj; first | (go_simp; with_reducible rfl) | (go_simp; refine (if_pos ?_).trans ?_; omega; with_reducible rfl))); (focus (have c0 := hV.c0.1; obtain ⟨x0, x1⟩ := hV.du hdi; obtain ⟨y0, y1⟩ := hV.du hdj; first | (go_simp; done) | (go_simp; with_reducible rfl))); (focus (simp only [Act.put, List.setIfInBounds_toArray, List.set_cons_succ, List.set_cons_zero] <;> rfl)))
  ((with_reducible refine o3_calmF (v := ?_) (a' := ?_) hS ?_ (fun V => ?_) ?_ ?_); rotate_left 2; (rfl); (first | (go_simp; with_reducible rfl) | (go_simp; refine (if_pos ?_).trans ?_; omega; with_reducible rfl)); (simp only [Act.put, List.setIfInBounds_toArray, List.set_cons_succ, List.set_cons_zero] <;> rfl))
  ((with_reducible refine o3_pre (v := ?_) (a' := ?_) hS ?_ (fun V hV => ?_) ?_ ?_); rotate_left 2; (rfl); (have c0 := hV.c0.1; obtain ⟨x0, x1⟩ := hV.du hdi; obtain ⟨y0, y1⟩ := hV.du hdj; first | (go_simp; with_reducible rfl) | (go_simp; refine (if_pos ?_).trans ?_; omega; with_reducible rfl)); (simp only [Act.put, List.setIfInBounds_toArray, List.set_cons_succ, List.set_cons_zero] <;> rfl))
  refine o3_onlyS rfl rfl ?_
  go_simp
  refine ⟨trivial, rfl, (callsIn_wide.2 (ahead_any di dj _)).mono ?_⟩
  rintro e w2 ⟨⟨q, rfl⟩, hb⟩
  have hB := hb
  replace hS := hS.on hb
  refine ⟨hS, ?_⟩
  ((with_reducible refine o3_calmT (v := ?_) (a' := ?_) hS ?_ (fun V => ?_) ?_ ?_); rotate_left 2; (rfl); (first | (go_simp; with_reducible rfl) | (go_simp; refine (if_pos ?_).trans ?_; omega; with_reducible rfl)); (simp only [Act.put, List.setIfInBounds_toArray, List.set_cons_succ, List.set_cons_zero] <;> rfl))
  refine o3_end _ ?_
  try simp only [Exit.then]
  go_wp2
  go_ret
  exact ⟨⟨q, rfl⟩, (Below.refl _ _).drew.trans hB⟩

set_option maxRecDepth 100000 in
set_option maxHeartbeats 2000000 in
theorem pile_swap (base B : Nat) (A : Option Addr) (c : Nat) (l : List Du) (i j : Nat) (w : World) (hi : i < l.length) (hj : j < l.length) (hX : PileX base B A c l w) :
    Calls Tryz.prog 215 #[.pointer (some ⟨B, 0, none⟩), .int .i64 i, .int .i64 j] w fun e w' => ∃ l', e = .returned (.tuple #[]) ∧ PileX base B A c l' w' ∧ l'.length = l.length ∧ (∀ d ∈ l', d ∈ l) ∧ Frame B A w w' := by
  obtain ⟨g, rfl, -, -⟩ := hX.hm.some_ (by omega)
  obtain ⟨di, hdi⟩ : ∃ d, l[i]? = some d := ⟨_, List.getElem?_eq_getElem hi⟩
  obtain ⟨dj, hdj⟩ : ∃ d, l[j]? = some d := ⟨_, List.getElem?_eq_getElem hj⟩
  go_enter Tryz.func215, Tryz.ntmps215
  go_wp2_with fail
  refine wp_region_ord3 (PileX base B (some ⟨g, 0, none⟩) c l) (fun _ => True) 21 (by kernel_rfl)
    [(2, 0), (2, 1), (2, 3), (2, 4), (2, 5), (2, 7), (2, 8), (2, 9), (2, 11), (2, 14), (2, 15), (2, 17), (1, 2), (1, 6), (1, 10), (2, 12), (1, 13), (1, 16), (2, 18), (1, 19), (2, 20), (0, 21), (2, 22), (0, 23)]
    (by kernel_rfl) (by kernel_rfl) (by decide) (by kernel_rfl) (fun _ _ d _ _ h => by cases d <;> exact h) ?_
  simp only [inOrder2, List.getElem?_cons_succ, List.getElem?_cons_zero, List.nil_append, List.cons_append]
  have hS := hX.drew
  iterate 12 (((with_reducible refine o3_calmF (v := ?_) (a' := ?_) hS ?_ (fun V => ?_) ?_ ?_); rotate_left 2; (rfl); (first | (go_simp; with_reducible rfl) | (go_simp; refine (if_pos ?_).trans ?_; omega; with_reducible rfl)); (simp only [Act.put, List.setIfInBounds_toArray, List.set_cons_succ, List.set_cons_zero] <;> rfl)))
  iterate 3 (((with_reducible refine o3_pre (v := ?_) (a' := ?_) hS ?_ (fun V hV => ?_) ?_ ?_); rotate_left 2; (rfl); (have c0 := hV.c0.1; obtain ⟨x0, x1⟩ := hV.du hdi; obtain ⟨y0, y1⟩ := hV.du hdj; first | (go_simp; with_reducible rfl) | (go_simp; refine (if_pos ?_).trans ?_; omega; with_reducible rfl)); (simp only [Act.put, List.setIfInBounds_toArray, List.set_cons_succ, List.set_cons_zero] <;> rfl)))
  ((with_reducible refine o3_calmF (v := ?_) (a' := ?_) hS ?_ (fun V => ?_) ?_ ?_); rotate_left 2; (rfl); (first | (go_simp; with_reducible rfl) | (go_simp; refine (if_pos ?_).trans ?_; omega; with_reducible rfl)); (simp only [Act.put, List.setIfInBounds_toArray, List.set_cons_succ, List.set_cons_zero] <;> rfl))
  iterate 2 (((with_reducible refine o3_pre (v := ?_) (a' := ?_) hS ?_ (fun V hV => ?_) ?_ ?_); rotate_left 2; (rfl); (have c0 := hV.c0.1; obtain ⟨x0, x1⟩ := hV.du hdi; obtain ⟨y0, y1⟩ := hV.du hdj; first | (go_simp; with_reducible rfl) | (go_simp; refine (if_pos ?_).trans ?_; omega; with_reducible rfl)); (simp only [Act.put, List.setIfInBounds_toArray, List.set_cons_succ, List.set_cons_zero] <;> rfl)))
  ((with_reducible refine o3_calmF (v := ?_) (a' := ?_) hS ?_ (fun V => ?_) ?_ ?_); rotate_left 2; (rfl); (first | (go_simp; with_reducible rfl) | (go_simp; refine (if_pos ?_).trans ?_; omega; with_reducible rfl)); (simp only [Act.put, List.setIfInBounds_toArray, List.set_cons_succ, List.set_cons_zero] <;> rfl))
  ((with_reducible refine o3_pre (v := ?_) (a' := ?_) hS ?_ (fun V hV => ?_) ?_ ?_); rotate_left 2; (rfl); (have c0 := hV.c0.1; obtain ⟨x0, x1⟩ := hV.du hdi; obtain ⟨y0, y1⟩ := hV.du hdj; first | (go_simp; with_reducible rfl) | (go_simp; refine (if_pos ?_).trans ?_; omega; with_reducible rfl)); (simp only [Act.put, List.setIfInBounds_toArray, List.set_cons_succ, List.set_cons_zero] <;> rfl))
  ((with_reducible refine o3_calmF (v := ?_) (a' := ?_) hS ?_ (fun V => ?_) ?_ ?_); rotate_left 2; (rfl); (first | (go_simp; with_reducible rfl) | (go_simp; refine (if_pos ?_).trans ?_; omega; with_reducible rfl)); (simp only [Act.put, List.setIfInBounds_toArray, List.set_cons_succ, List.set_cons_zero] <;> rfl))
  obtain ⟨V, hst, hm2, hg2, hB2⟩ := store_du hS.hm hi dj
  refine o3_skipS rfl rfl (storeT Tryz.sizeOf141 hst rfl rfl rfl) rfl trivial ?_
  ((with_reducible refine o3_calmT (v := ?_) (a' := ?_) trivial ?_ (fun V => ?_) ?_ ?_); rotate_left 2; (rfl); (first | (go_simp; with_reducible rfl) | (go_simp; refine (if_pos ?_).trans ?_; omega; with_reducible rfl)); (simp only [Act.put, List.setIfInBounds_toArray, List.set_cons_succ, List.set_cons_zero] <;> rfl))
  obtain ⟨V2, hst2, hm3, hg3, hB3⟩ := store_du hm2 (k := j) (by rw [List.length_set]; exact hj) di
  refine o3_skipT rfl (storeT Tryz.sizeOf141 hst2 rfl rfl rfl) rfl trivial ?_
  refine o3_end _ ?_
  try simp only [Exit.then]
  go_wp2
  go_returns
  have hgB : some B ≠ some g := fun e => hX.ne rfl (by injection e with e; exact e.symm)
  have hk : V2.heap[B]? = some (.cells #[.slice (some ⟨g, 0, none⟩) l.length c] 175 (0, 0)) := (hg3.block B (Nat.lt_of_lt_of_le (blk_lt hX.drew.hb) hg2.size) hgB).trans ((hg2.block B (blk_lt hX.drew.hb) hgB).trans hX.hb)
  refine ⟨(l.set i dj).set j di, rfl, ⟨Nat.le_trans hX.le (hB2.trans hB3).size, by simpa using hk, by simpa using hm3⟩, by simp, fun d hd => ?_, ((Frame.of (Below.refl _ _).drew).trans (Frame.row hg2)).trans (Frame.row hg3)⟩
  rcases List.mem_or_eq_of_mem_set hd with h | rfl
  · rcases List.mem_or_eq_of_mem_set h with h | rfl
    · exact h
    · exact List.mem_of_getElem? hdj
  · exact List.mem_of_getElem? hdi

theorem du_cells (W : World) (x : Du) : ∀ j u, x.cells[j]? = some u → (W.alloc (.cells x.cells.toArray 141)).cell? ((⟨W.heap.size, 0, none⟩ : Addr).add j) = some u := by
  intro j u hj
  rw [Addr.add_lit, Nat.zero_add, (of_block (World.alloc_heap_new W _) j).1]
  simpa using hj
theorem Mine.form {w : World} {base : Nat} {e : TypeId} {k : Nat} {A : Option Addr} {c n : Nat} {xs : List Value} (h : Mine w base e k A c n xs) {a : Addr} (hA : A = some a) : ∃ g, a = ⟨g, 0, none⟩ ∧ base ≤ g := by
  rcases h.2 with ⟨e1, _⟩ | ⟨g, cap, cur, e1, hb, _⟩
  · rw [hA] at e1; cases e1
  · rw [hA] at e1
    injection e1 with a1
    injection a1 with a1
    exact ⟨g, a1, hb⟩

set_option maxRecDepth 100000 in
set_option maxHeartbeats 4000000 in
theorem pile_push (base B : Nat) (A : Option Addr) (c : Nat) (l : List Du) (d : Du) (w : World) (hl : l.length ≤ 1000) (hX : PileX base B A c l w) :
    Calls Tryz.prog 214 #[.pointer (some ⟨B, 0, none⟩), .iface 141 (.agg d.cells.toArray)] w fun e w' => e = .returned (.tuple #[]) ∧ PileAt base B (l ++ [d]) w' ∧ BelowBut base B w w' ∧ Odd w w' := by
  obtain ⟨i0, hi, hz0, hz1, hz2⟩ := info_parts du_inf
  go_enter Tryz.func214, Tryz.ntmps214
  go_wp2_with fail
  refine wp_region_ord3 (fun V => V.heap[B]? = some (.cells #[.slice A l.length c] 175 (0, 0))) (AnyW) 9 (by kernel_rfl)
    [(2, 0), (2, 1), (2, 2), (2, 4), (1, 3), (0, 5), (0, 6), (0, 7), (2, 8), (0, 9)]
    (by kernel_rfl) (by kernel_rfl) (by decide) (by kernel_rfl) (fun _ _ d _ _ h => by cases d <;> exact h) ?_
  simp only [inOrder2, List.getElem?_cons_succ, List.getElem?_cons_zero, List.nil_append, List.cons_append]
  have hS := hX.drew.hb
  have hm := hX.drew.hm
  have hX0 := hX.drew
  have hle0 := hX.le
  have hle : base ≤ w.drew.heap.size := hX.le
  have hbw : Below base w w.drew := (Below.refl _ _).drew
  have hbw0 : ∀ j : Nat, w.drew.heap[j]? = w.heap[j]? := fun _ => rfl
  clear hX
  generalize w.drew = w3 at *
  iterate 4 (((with_reducible refine o3_calmF (v := ?_) (a' := ?_) hS ?_ (fun V => ?_) ?_ ?_); rotate_left 2; (rfl); (first | (go_simp; with_reducible rfl) | (go_simp; refine (if_pos ?_).trans ?_; omega; with_reducible rfl)); (simp only [Act.put, List.setIfInBounds_toArray, List.set_cons_succ, List.set_cons_zero] <;> rfl)))
  ((with_reducible refine o3_pre (v := ?_) (a' := ?_) hS ?_ (fun V hV => ?_) ?_ ?_); rotate_left 2; (rfl); (have c0 := (of_block hV 0).1; first | (go_simp; with_reducible rfl) | (go_simp; refine (if_pos ?_).trans ?_; omega; with_reducible rfl)); (simp only [Act.put, List.setIfInBounds_toArray, List.set_cons_succ, List.set_cons_zero] <;> rfl))
  refine o3_valF (a' := ?_) rfl rfl (typeAssert_run rfl) ?_ hS ?_
  rotate_left
  focus (simp only [Act.put, List.setIfInBounds_toArray, List.set_cons_succ, List.set_cons_zero] <;> rfl)
  refine o3_onlyF rfl rfl ?_
  go_simp
  refine ⟨keep_alloc hS _, ?_⟩
  replace hS := keep_alloc hS (.cells d.cells.toArray 141)
  have hem := World.ownsRow.alloc hm (.cells d.cells.toArray 141)
  obtain ⟨v', w4, hrun, hown, hg4, -⟩ := run_append_own (P := Tryz.prog) (w3.alloc (.cells d.cells.toArray 141)) base 175 175 141 i0 _ 2 16 Tryz.underlying175 hi hz0 hz1 hz2 rfl (by decide) (.slice A l.length c) l.length (dus l) hem ⟨w3.heap.size, 0, none⟩ 1 1 d.cells rfl (du_cells w3 d) (one_du d) (by simp only [maxLen]; omega) (by omega) (by simp; omega)
  obtain ⟨A2, c2, rfl⟩ : ∃ A2 c2, v' = .slice A2 (l.length + 1) c2 := by
    rcases hown.2 with ⟨e1, e2⟩ | ⟨g, cap, cur, e1, _⟩
    · omega
    · exact ⟨_, cap, e1⟩
  have hno : ∀ j, j < base → some j ≠ (Value.slice A l.length c).ownBlock := by
    intro j hj e
    cases hA : A with
    | none => rw [hA] at e; simp [Value.ownBlock] at e
    | some a =>
      obtain ⟨g, rfl⟩ : ∃ g, a = ⟨g, 0, none⟩ := by
        obtain ⟨g, hg, -⟩ := hm.form hA
        exact ⟨g, hg⟩
      have := (hm.base g 0 none hA).1
      rw [hA] at e
      simp [Value.ownBlock] at e
      omega
  have hBB : BelowBut base B w w4 := ⟨hg4.os.trans hbw.os, hg4.tape.trans hbw.tape, hg4.output.trans hbw.output, Nat.le_trans (Nat.le_trans hbw.size (by simp)) hg4.size, fun j hj hn => (hg4.block j (by simp; omega) (fun e => hno j hj e)).trans ((Below.heap_alloc _ _ _ (by omega)).trans (hbw.block j (by omega)))⟩
  have hnoB : some B ≠ (Value.slice A l.length c).ownBlock := by
    intro e
    cases hA : A with
    | none => rw [hA] at e; simp [Value.ownBlock] at e
    | some a =>
      obtain ⟨g, rfl, -⟩ := hm.form hA
      have := hX0.ne hA
      rw [hA] at e
      simp [Value.ownBlock] at e
      omega
  replace hS : w4.heap[B]? = some _ := (hg4.block B (blk_lt hS) (fun e => hnoB e)).trans hS
  have hOdd : Odd w w4 := by
    intro j o h1 h2
    have h3 : w3.heap[j]? = some o := (hbw0 j).trans h1
    refine (hg4.block j (by have := blk_lt h3; simp; omega) (fun e => ?_)).trans (keep_alloc h3 _)
    cases hA : A with
    | none => rw [hA] at e; simp [Value.ownBlock] at e
    | some a =>
      obtain ⟨g, rfl, -⟩ := hm.form hA
      obtain ⟨cs, T, fr, h4⟩ := hm.isCells hA
      rw [hA] at e
      simp [Value.ownBlock] at e
      subst e
      rw [h4] at h3
      injection h3 with h3
      exact h2 _ _ _ h3.symm
  refine o3_valF rfl rfl (append_exec hrun rfl rfl) (by simp only [Act.put, List.setIfInBounds_toArray, List.set_cons_succ, List.set_cons_zero] <;> rfl) hS ?_
  ((with_reducible refine o3_calmF (v := ?_) (a' := ?_) hS ?_ (fun V => ?_) ?_ ?_); rotate_left 2; (rfl); (first | (go_simp; with_reducible rfl) | (go_simp; refine (if_pos ?_).trans ?_; omega; with_reducible rfl)); (simp only [Act.put, List.setIfInBounds_toArray, List.set_cons_succ, List.set_cons_zero] <;> rfl))
  obtain ⟨b0, f0⟩ := of_block hS 0
  refine o3_onlyS rfl rfl ?_
  go_simp
  refine ⟨trivial, ?_⟩
  refine o3_end _ ?_
  try simp only [Exit.then]
  go_wp2
  go_returns
  have hz4 := hBB.size
  have h2 : Mine w4 base 141 2 A2 c2 (l ++ [d]).length (dus (l ++ [d])) := by simpa [Mine, dus] using hown
  have hOdd2 : Odd w4 (w4.setCell ⟨B, 0, none⟩ (.slice A2 (l.length + 1) c2)) := by
    intro j o h1 h2
    refine (Below.heap_setCell w4 ⟨B, 0, none⟩ _ j (fun e => ?_)).trans h1
    have e' : j = B := e
    subst e'
    rw [hS] at h1
    injection h1 with h1
    exact h2 _ _ _ h1.symm
  refine ⟨rfl, ⟨A2, c2, by simp [World.setCell]; omega, by simpa using put_cell (i := 0) hS (.slice A2 (l.length + 1) c2), ?_⟩, hBB.cell, hOdd.trans hOdd2⟩
  · exact h2.grown fun g o t e => Below.heap_setCell w4 ⟨B, 0, none⟩ _ g (h2.notBlock hS (by decide) g o t e)

set_option maxRecDepth 100000 in
set_option maxHeartbeats 4000000 in
theorem pile_pop (base B : Nat) (A : Option Addr) (c : Nat) (l : List Du) (w : World) (hl : l.length ≤ 1000) (hpos : 0 < l.length) (hX : PileX base B A c l w) :
    Calls Tryz.prog 213 #[.pointer (some ⟨B, 0, none⟩)] w fun e w' => ∃ d, e = .returned (.iface 141 (.agg d.cells.toArray)) ∧ d ∈ l ∧ PileX base B A c (l.take (l.length - 1)) w' ∧ Frame B A w w' := by
  obtain ⟨g, rfl, hg1, hg2⟩ := hX.hm.some_ hpos
  obtain ⟨m, hm1⟩ : ∃ m, l.length = m + 1 := ⟨l.length - 1, by omega⟩
  obtain ⟨d, hd⟩ : ∃ d, l[m]? = some d := ⟨_, List.getElem?_eq_getElem (by omega)⟩
  obtain ⟨x0, x1⟩ := hX.du hd
  have hcap := hX.hm.cap
  have c0 := hX.c0.1
  have hf := hX.c0.2
  rw [hm1] at c0
  have hdl : d ∈ l := List.mem_of_getElem? hd
  have hsh := hX.hm.shrink (m := m) (by omega)
  rw [dus_take] at hsh
  have hB := hX.hb
  have hlt := blk_lt hX.hb
  have hgB : g ≠ B := hX.ne rfl
  have hle := hX.le
  have hm0 : m ≤ 1000 := by omega
  have hmc : m + 1 ≤ c := by omega
  have e1 : l.length - 1 = m := by omega
  rw [e1]
  have htl : (l.take m).length = m := by rw [List.length_take]; omega
  clear hX hd hpos hl e1 hcap
  have HL := Lib.hid hm1
  have hB1 := keep_alloc hB (.cells #[.int .i64 d.at_, .int .i64 d.id] 141)
  obtain ⟨c1, f1⟩ := of_block hB1 0
  have hnew := World.alloc_heap_new w (.cells #[.int .i64 d.at_, .int .i64 d.id] 141)
  have hb1 := below_one w (.cells #[.int .i64 d.at_, .int .i64 d.id] 141)
  have hy := keep_cell (i := 0) (C := B) hnew (by omega) (.slice (some ⟨g, 0, none⟩) m c)
  obtain ⟨y0, y1, -, -⟩ := cells2 hy
  have hB2 := put_cell (i := 0) hB1 (.slice (some ⟨g, 0, none⟩) m c)
  have hm2 := (hsh.kept hb1).grown (w' := (w.alloc (.cells #[.int .i64 d.at_, .int .i64 d.id] 141)).setCell ⟨B, 0, none⟩ (.slice (some ⟨g, 0, none⟩) m c)) (fun g' o t e => Below.heap_setCell _ ⟨B, 0, none⟩ _ g' (by injection e with e; injection e with e; show g' ≠ B; omega))
  have hBB : Frame B (some ⟨g, 0, none⟩) w ((w.alloc (.cells #[.int .i64 d.at_, .int .i64 d.id] 141)).setCell ⟨B, 0, none⟩ (.slice (some ⟨g, 0, none⟩) m c)) := (Frame.of hb1).cell
  rw [hm1] at c1
  clear hm1 hlt
  go_enter Tryz.func213, Tryz.ntmps213
  go_wp2
  go_ret
  exact ⟨d, rfl, hdl, ⟨by simp [World.setCell]; omega, by rw [htl]; exact hB2, by rw [htl]; exact hm2⟩, hBB⟩

end Go.Proofs.YtnbgpopjnpdmgaaGreat

namespace Go.Proofs.YtnbgpopjnpdmgaaGreat
open Go Go.RowKit Go.Shelf

/-- As many, and none that was not there. -/
def From (l l' : List Du) : Prop := l'.length = l.length ∧ ∀ d ∈ l', d ∈ l
theorem From.refl (l : List Du) : From l l := ⟨rfl, fun _ h => h⟩
theorem From.trans {a b c : List Du} (h : From a b) (k : From b c) : From a c := ⟨k.1.trans h.1, fun d hd => h.2 d (k.2 d hd)⟩
section
variable (base B : Nat) (A : Option Addr) (c : Nat) (l : List Du)
theorem pLess (i j : Nat) (a b : Int) (w : World) (h : PileX base B A c l w) (hi : i < l.length) (hj : j < l.length) (ha : a = i) (hb : b = j) : Calls Tryz.prog 212 #[.pointer (some ⟨B, 0, none⟩), .int .i64 a, .int .i64 b] w fun e w' => AnyB e ∧ Below w.heap.size w w' := by
  subst ha
  subst hb
  exact pile_less base B A c l i j w hi hj h
theorem pSwap (i j : Nat) (a b : Int) (w : World) (h : PileX base B A c l w) (hi : i < l.length) (hj : j < l.length) (ha : a = i) (hb : b = j) : Calls Tryz.prog 215 #[.pointer (some ⟨B, 0, none⟩), .int .i64 a, .int .i64 b] w fun e w' => e = .returned (.tuple #[]) ∧ ∃ l', PileX base B A c l' w' ∧ From l l' ∧ Frame B A w w' := by
  subst ha
  subst hb
  refine (pile_swap base B A c l i j w hi hj h).mono ?_
  rintro e w' ⟨l', h1, h2, h3, h4, h5⟩
  exact ⟨h1, l', h2, ⟨h3, h4⟩, h5⟩
end

set_option maxRecDepth 100000 in
set_option maxHeartbeats 4000000 in
theorem heap_up (base B : Nat) (A : Option Addr) (c : Nat) (l : List Du) (j : Nat) (w : World) (hX : PileX base B A c l w) (hl : l.length ≤ 1000) (hj : j < l.length) :
    Calls Tryz.prog 174 #[.iface 174 (.pointer (some ⟨B, 0, none⟩)), .int .i64 j] w fun e w' => e = .returned (.tuple #[]) ∧ ∃ l', PileX base B A c l' w' ∧ From l l' ∧ Frame B A w w' := by
  go_enter Tryz.func174, Tryz.ntmps174
  go_wp2
  go_loopw [1] (fun v wr => ∃ (n : Nat) (l2 : List Du), v = .int .i64 n ∧ n < l.length ∧ PileX base B A c l2 wr ∧ From l l2 ∧ Frame B A w wr) (fun v _ => (intOf v).toNat)
  case atStart => exact ⟨j, l, rfl, hj, hX, From.refl _, Frame.refl _ _ _⟩
  case round =>
    clear hX
    obtain ⟨n, l2, rfl, hn, hX, hF, hB⟩ := hrel
    have hlen := hF.1
    obtain ⟨i, hq, hin, hi0⟩ : ∃ i : Nat, ((n : Int) - 1).tdiv 2 = i ∧ i ≤ n ∧ (i = n → n = 0) := by
      by_cases h : n = 0
      · subst h; exact ⟨0, by decide, Nat.le_refl _, fun _ => rfl⟩
      · refine ⟨(n - 1) / 2, ?_, by omega, by omega⟩
        rw [show ((n : Int) - 1) = ((n - 1 : Nat) : Int) by omega]
        rfl
    by_cases he : i = n
    · subst he
      go_wp2
      go_returns
      exact ⟨rfl, l2, hX, hF, hB⟩
    · have hne : ¬ ((i : Int) = n) := by omega
      go_wp2_with (first
          | (go_at_call 212; (with_reducible refine (pLess base B A c l2 n i _ _ _ hX (by omega) (by omega) (by omega) (by omega)).mono ?_); rintro e w2 ⟨⟨q, rfl⟩, hb⟩; have hX2 := hX.on hb; have hB2 := hB.trans (Frame.of hb))
          | (go_at_call 215; (with_reducible refine (pSwap base B A c l2 i n _ _ _ hX2 (by omega) (by omega) (by omega) (by omega)).mono ?_); rintro e w3 ⟨rfl, l3, hX3, hF3, hB3⟩; have hB4 := hB2.trans hB3; have hF4 := hF.trans hF3))
      · go_returns
        exact ⟨rfl, l2, hX2, hF, hB2⟩
      · go_roundw
        case rel => exact ⟨i, l3, by go_num, by omega, hX3, hF4, hB4⟩
        case measure => simp [intOf]; omega

set_option maxRecDepth 100000 in
set_option maxHeartbeats 4000000 in
theorem heap_down (base B : Nat) (A : Option Addr) (c : Nat) (l : List Du) (i0 m : Nat) (w : World) (hX : PileX base B A c l w) (hl : l.length ≤ 1000) (h0 : i0 ≤ l.length) (hm : m ≤ l.length) :
    Calls Tryz.prog 187 #[.iface 174 (.pointer (some ⟨B, 0, none⟩)), .int .i64 i0, .int .i64 m] w fun e w' => AnyB e ∧ ∃ l', PileX base B A c l' w' ∧ From l l' ∧ Frame B A w w' := by
  go_enter Tryz.func187, Tryz.ntmps187
  go_wp2
  go_loopw [7] (fun v wr => ∃ (i : Nat) (l2 : List Du), v = .int .i64 i ∧ i ≤ l.length ∧ PileX base B A c l2 wr ∧ From l l2 ∧ Frame B A w wr) (fun v _ => l.length - (intOf v).toNat)
  case atStart => exact ⟨i0, l, rfl, h0, hX, From.refl _, Frame.refl _ _ _⟩
  case round =>
    clear hX
    obtain ⟨i, l2, rfl, hi, hX, hF, hB⟩ := hrel
    have hlen := hF.1
    by_cases h1 : 2 * i + 1 ≥ m
    · go_wp2
      go_returns
      exact ⟨⟨_, rfl⟩, l2, hX, hF, hB⟩
    · have h1' : ¬ (2 * (i : Int) + 1 ≥ m) := by omega
      have h1n : ¬ (2 * (i : Int) + 1 < 0) := by omega
      by_cases h2 : 2 * i + 2 < m
      · have h2' : (2 * (i : Int) + 1 + 1 < m) := by omega
        go_wp2_with (first
            | (go_at_call 212; (with_reducible refine (pLess base B A c l2 (2 * i + 2) (2 * i + 1) _ _ _ hX (by omega) (by omega) (by omega) (by omega)).mono ?_); rintro e w2 ⟨⟨q, rfl⟩, hb⟩; have hX2 := hX.on hb; have hB2 := hB.trans (Frame.of hb))
            | (go_at_call 212; (with_reducible refine (pLess base B A c l2 (2 * i + 1) i _ _ _ hX2 (by omega) (by omega) (by omega) (by omega)).mono ?_); rintro e w4 ⟨⟨q2, rfl⟩, hb⟩; have hXx := hX2.on hb; have hBx := hB2.trans (Frame.of hb))
            | (go_at_call 212; (with_reducible refine (pLess base B A c l2 (2 * i + 2) i _ _ _ hX2 (by omega) (by omega) (by omega) (by omega)).mono ?_); rintro e w4 ⟨⟨q2, rfl⟩, hb⟩; have hXx := hX2.on hb; have hBx := hB2.trans (Frame.of hb))
            | (go_at_call 215; (with_reducible refine (pSwap base B A c l2 i (2 * i + 1) _ _ _ hXx (by omega) (by omega) (by omega) (by omega)).mono ?_); rintro e w5 ⟨rfl, l3, hX3, hF3, hB3⟩; have hB4 := hBx.trans hB3; have hF4 := hF.trans hF3)
            | (go_at_call 215; (with_reducible refine (pSwap base B A c l2 i (2 * i + 2) _ _ _ hXx (by omega) (by omega) (by omega) (by omega)).mono ?_); rintro e w5 ⟨rfl, l3, hX3, hF3, hB3⟩; have hB4 := hBx.trans hB3; have hF4 := hF.trans hF3))
        · go_returns
          exact ⟨⟨_, rfl⟩, l2, hXx, hF, hBx⟩
        · refine ⟨⟨2 * i + 2, l3, by go_num, by omega, hX3, hF4, hB4⟩, by simp [intOf]; omega⟩
        · go_returns
          exact ⟨⟨_, rfl⟩, l2, hXx, hF, hBx⟩
        · refine ⟨⟨2 * i + 1, l3, by go_num, by omega, hX3, hF4, hB4⟩, by simp [intOf]; omega⟩
      · have h2' : ¬ (2 * (i : Int) + 1 + 1 < m) := by omega
        go_wp2_with (first
            | (go_at_call 212; (with_reducible refine (pLess base B A c l2 (2 * i + 1) i _ _ _ hX (by omega) (by omega) (by omega) (by omega)).mono ?_); rintro e w4 ⟨⟨q2, rfl⟩, hb⟩; have hXx := hX.on hb; have hBx := hB.trans (Frame.of hb))
            | (go_at_call 215; (with_reducible refine (pSwap base B A c l2 i (2 * i + 1) _ _ _ hXx (by omega) (by omega) (by omega) (by omega)).mono ?_); rintro e w5 ⟨rfl, l3, hX3, hF3, hB3⟩; have hB4 := hBx.trans hB3; have hF4 := hF.trans hF3))
        · go_returns
          exact ⟨⟨_, rfl⟩, l2, hXx, hF, hBx⟩
        · refine ⟨⟨2 * i + 1, l3, by go_num, by omega, hX3, hF4, hB4⟩, by simp [intOf]; omega⟩

end Go.Proofs.YtnbgpopjnpdmgaaGreat
