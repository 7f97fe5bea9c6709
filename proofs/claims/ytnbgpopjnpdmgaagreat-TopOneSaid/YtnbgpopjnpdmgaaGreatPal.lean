/-
  DERIVED. Event3, ThCheck.
-/
import Derived.Test.YtnbgpopjnpdmgaaGreatPak
import Derived.Test.YtnbgpopjnpdmgaaGreatPaj
import Derived.Test.YtnbgpopjnpdmgaaGreatPaf
set_option linter.unusedVariables false
set_option linter.unusedSimpArgs false

namespace Go.Proofs.YtnbgpopjnpdmgaaGreat
open Go Go.RowKit Go.Shelf

/-- That it comes. -/
def comeE (more : Nat → Bool) (ep : Int) (l : List Int) : Int × List Int × List Int := if evOk ep l then (min (ep + 1) 1099511627776, (drainM more 0 l).2, (drainM more 0 l).1) else (ep, l, [])

theorem come1_any (ep : Int) (l : List Int) (A : Option Addr) (c : Nat) (w : World) (hl : l.length ≤ 1000) (hA : Lies w w.heap.size A (ints l)) : Calls Tryz.prog 180 #[.agg #[.int .i64 ep, .slice A l.length c], .func (.func 181) #[] #[]] w fun e w' => ∃ A' c' A2 c2, e = .returned (.tuple #[.agg #[.int .i64 ((comeE all1 ep l).1), .slice A' ((comeE all1 ep l).2.1).length c'], .slice A2 ((comeE all1 ep l).2.2).length c2]) ∧ Mine w' w.heap.size 3 1 A' c' ((comeE all1 ep l).2.1).length (ints ((comeE all1 ep l).2.1)) ∧ Mine w' w.heap.size 3 1 A2 c2 ((comeE all1 ep l).2.2).length (ints ((comeE all1 ep l).2.2)) ∧ Below w.heap.size w w' := by
  unfold comeE
  split
  · exact come1_yes ep l A c w hl hA (by assumption)
  · rename_i h
    exact come1_no ep l A c w hl hA (by simpa using h)

theorem come2_any (ep : Int) (l : List Int) (A : Option Addr) (c : Nat) (w : World) (hl : l.length ≤ 1000) (hA : Lies w w.heap.size A (ints l)) : Calls Tryz.prog 180 #[.agg #[.int .i64 ep, .slice A l.length c], .func (.func 186) #[] #[]] w fun e w' => ∃ A' c' A2 c2, e = .returned (.tuple #[.agg #[.int .i64 ((comeE all2 ep l).1), .slice A' ((comeE all2 ep l).2.1).length c'], .slice A2 ((comeE all2 ep l).2.2).length c2]) ∧ Mine w' w.heap.size 3 1 A' c' ((comeE all2 ep l).2.1).length (ints ((comeE all2 ep l).2.1)) ∧ Mine w' w.heap.size 3 1 A2 c2 ((comeE all2 ep l).2.2).length (ints ((comeE all2 ep l).2.2)) ∧ Below w.heap.size w w' := by
  unfold comeE
  split
  · exact come2_yes ep l A c w hl hA (by assumption)
  · rename_i h
    exact come2_no ep l A c w hl hA (by simpa using h)

set_option maxRecDepth 100000 in
set_option maxHeartbeats 2000000 in
theorem notifyAll_any (ep : Int) (l : List Int) (A : Option Addr) (c : Nat) (w : World) (hl : l.length ≤ 1000) (hA : Lies w w.heap.size A (ints l)) :
    Calls Tryz.prog 173 #[.agg #[.int .i64 ep, .slice A l.length c]] w fun e w' => ∃ A' c' A2 c2, e = .returned (.tuple #[.agg #[.int .i64 ((comeE all2 ep l).1), .slice A' ((comeE all2 ep l).2.1).length c'], .slice A2 ((comeE all2 ep l).2.2).length c2]) ∧ Mine w' w.heap.size 3 1 A' c' ((comeE all2 ep l).2.1).length (ints ((comeE all2 ep l).2.1)) ∧ Mine w' w.heap.size 3 1 A2 c2 ((comeE all2 ep l).2.2).length (ints ((comeE all2 ep l).2.2)) ∧ Below w.heap.size w w' := by
  have K := fun W (hW : Below w.heap.size w W) => come2_any ep l A c W hl (hA.on hW)
  generalize comeE all2 ep l = x at *
  obtain ⟨x1, x2, x3⟩ := x
  dsimp only at *
  obtain ⟨k0, k1, hB0⟩ := two_new w (.cells #[.int .i64 ep, .slice A l.length c] 32) (.cells #[.int .i64 0, .slice none 0 0] 32)
  go_enter Tryz.func173, Tryz.ntmps173
  go_wp2_with (first
      | (go_at_call 180; (with_reducible refine (K _ hB0).mono ?_); rintro e w1 ⟨A1, c1, A2, c2, rfl, hown, hown2, hb⟩; replace k0 := kept k0 hb; replace k1 := kept k1 hb; have hB := hB0.trans (hb.mono hB0.size); obtain ⟨b0, b1, f0, f1⟩ := cells2 k1))
  clear b0 b1 f0 f1
  have hsz := hb.size
  simp at hsz
  obtain ⟨r0, r1, -, -⟩ := cells2 (put_cell (put_cell k1 (.int .i64 x1) (i := 0)) (.slice A1 x2.length c1) (i := 1))
  replace hown := ((hown.other (w.heap.size + 1) 0 (.int .i64 x1) (by simp)).other (w.heap.size + 1) 1 (.slice A1 x2.length c1) (by simp)).mono (base' := w.heap.size) (by simp; omega)
  replace hown2 := ((hown2.other (w.heap.size + 1) 0 (.int .i64 x1) (by simp)).other (w.heap.size + 1) 1 (.slice A1 x2.length c1) (by simp)).mono (base' := w.heap.size) (by simp; omega)
  refine bodyPost_ret (v := .tuple #[.agg #[.int .i64 x1, .slice A1 x2.length c1], .slice A2 x3.length c2]) (by simp [results, Tryz.f173, go_sem, r0, r1]) rfl ⟨A1, c1, A2, c2, rfl, hown, hown2, ?_⟩
  go_grown

set_option maxRecDepth 100000 in
set_option maxHeartbeats 2000000 in
theorem notify_none (ep : Int) (l : List Int) (A : Option Addr) (c : Nat) (w : World) (hl : l.length ≤ 1000) (hA : Lies w w.heap.size A (ints l)) (h : (comeE all1 ep l).2.2 = []) :
    Calls Tryz.prog 148 #[.agg #[.int .i64 ep, .slice A l.length c]] w fun e w' => ∃ A' c', e = .returned (.tuple #[.agg #[.int .i64 (comeE all1 ep l).1, .slice A' (comeE all1 ep l).2.1.length c'], .int .i64 0, .bool false]) ∧ Mine w' w.heap.size 3 1 A' c' (comeE all1 ep l).2.1.length (ints (comeE all1 ep l).2.1) ∧ Below w.heap.size w w' := by
  have K := fun W (hW : Below w.heap.size w W) => come1_any ep l A c W hl (hA.on hW)
  generalize comeE all1 ep l = x at *
  obtain ⟨x1, x2, x3⟩ := x
  dsimp only at *
  subst h
  obtain ⟨k0, k1, hB0⟩ := two_new w (.cells #[.int .i64 ep, .slice A l.length c] 32) (.cells #[.int .i64 0, .slice none 0 0] 32)
  go_enter Tryz.func148, Tryz.ntmps148
  go_wp2_with (first
      | (go_at_call 180; (with_reducible refine (K _ hB0).mono ?_); rintro e w1 ⟨A1, c1, A2, c2, rfl, hown, hown2, hb⟩; replace k0 := kept k0 hb; replace k1 := kept k1 hb; have hB := hB0.trans (hb.mono hB0.size); obtain ⟨b0, b1, f0, f1⟩ := cells2 k1; have hsz : w.heap.size + 1 < w1.heap.size := blk_lt k1))
  clear b0 b1 f0 f1
  obtain ⟨r0, r1, -, -⟩ := cells2 (keep_alloc (put_cell (put_cell k1 (.int .i64 x1) (i := 0)) (.slice A1 x2.length c1) (i := 1)) (.cells #[.int .i64 x1, .slice A1 x2.length c1] 32))
  replace hown := (((hown.other (w.heap.size + 1) 0 (.int .i64 x1) (by simp)).other (w.heap.size + 1) 1 (.slice A1 x2.length c1) (by simp)).alloc (.cells #[.int .i64 x1, .slice A1 x2.length c1] 32)).mono (base' := w.heap.size) (by simp; omega)
  refine bodyPost_ret (v := .tuple #[.agg #[.int .i64 x1, .slice A1 x2.length c1], .int .i64 0, .bool false]) (by simp [results, Tryz.f148, go_sem, r0, r1]) rfl ⟨A1, c1, rfl, hown, ?_⟩
  go_grown

set_option maxRecDepth 100000 in
set_option maxHeartbeats 2000000 in
theorem notify_some (ep : Int) (l : List Int) (A : Option Addr) (c : Nat) (w : World) (hl : l.length ≤ 1000) (hA : Lies w w.heap.size A (ints l)) (x : Int) (r : List Int) (h : (comeE all1 ep l).2.2 = x :: r) :
    Calls Tryz.prog 148 #[.agg #[.int .i64 ep, .slice A l.length c]] w fun e w' => ∃ A' c', e = .returned (.tuple #[.agg #[.int .i64 (comeE all1 ep l).1, .slice A' (comeE all1 ep l).2.1.length c'], .int .i64 x, .bool true]) ∧ Mine w' w.heap.size 3 1 A' c' (comeE all1 ep l).2.1.length (ints (comeE all1 ep l).2.1) ∧ Below w.heap.size w w' := by
  have K := fun W (hW : Below w.heap.size w W) => come1_any ep l A c W hl (hA.on hW)
  generalize comeE all1 ep l = x at *
  obtain ⟨x1, x2, x3⟩ := x
  dsimp only at *
  subst h
  obtain ⟨k0, k1, hB0⟩ := two_new w (.cells #[.int .i64 ep, .slice A l.length c] 32) (.cells #[.int .i64 0, .slice none 0 0] 32)
  go_enter Tryz.func148, Tryz.ntmps148
  go_wp2_with (first
      | (go_at_call 180; (with_reducible refine (K _ hB0).mono ?_); rintro e w1 ⟨A1, c1, A2, c2, rfl, hown, hown2, hb⟩; replace k0 := kept k0 hb; replace k1 := kept k1 hb; have hB := hB0.trans (hb.mono hB0.size); obtain ⟨b0, b1, f0, f1⟩ := cells2 k1; have hsz : w.heap.size + 1 < w1.heap.size := blk_lt k1; obtain ⟨gb, goff, hAe, hgb, hgc⟩ := hown2.lies.open_ (by simp); subst hAe; have hg0 := hgc 0 _ rfl; clear hgc; have hg2 := (hown2.base _ _ _ rfl).1; simp only [World.size_alloc] at hg2))
  clear b0 b1 f0 f1
  have hS : Blk w w.heap.size [(w.heap.size + 1, (.cells #[.int .i64 0, .slice none 0 0] 32)), (w1.heap.size, .cells #[.int .i64 x1, .slice A1 x2.length c1] 32)] (w1.alloc (.cells #[.int .i64 x1, .slice A1 x2.length c1] 32)).drew ∧ (w1.alloc (.cells #[.int .i64 x1, .slice A1 x2.length c1] 32)).drew.cell? ⟨gb, goff, none⟩ = some (.int .i64 x) := by
    refine ⟨⟨(hB.alloc hB.size _).drew, ?_, Nat.le_refl _⟩, ?_⟩
    · intro p hp
      simp only [List.mem_cons, List.mem_singleton, List.not_mem_nil, or_false] at hp
      rcases hp with rfl | rfl
      · exact keep_alloc k1 _
      · exact World.alloc_heap_new w1 _
    · exact (World.cell?_of_block (Below.heap_alloc w1 _ gb hgb)).trans hg0
  have ho2 := hown.alloc (.cells #[.int .i64 x1, .slice A1 x2.length c1] 32)
  clear k0 k1 hB hb hown hown2 hg0
  generalize w1.alloc (.cells #[.int .i64 x1, .slice A1 x2.length c1] 32) = w2 at *
  refine wp_region_ord3 (fun V => Blk w w.heap.size [(w.heap.size + 1, (.cells #[.int .i64 0, .slice none 0 0] 32)), (w1.heap.size, .cells #[.int .i64 x1, .slice A1 x2.length c1] 32)] V ∧ V.cell? ⟨gb, goff, none⟩ = some (.int .i64 x)) (At gb goff (.int .i64 x)) 4 (by kernel_rfl)
    [(2, 1), (2, 2), (1, 0), (2, 3), (0, 4), (2, 5), (2, 6)]
    (by kernel_rfl) (by kernel_rfl) (by decide) (by kernel_rfl) (fun _ _ d _ _ h => by cases d <;> exact h) ?_
  simp only [inOrder2, List.getElem?_cons_succ, List.getElem?_cons_zero, List.nil_append, List.cons_append]
  replace ho2 := ho2.drew
  generalize w2.drew = w3 at *
  iterate 2 (((with_reducible refine o3_calmF (v := ?_) (a' := ?_) hS ?_ (fun V => ?_) ?_ ?_); rotate_left 2; (rfl); (first | (go_simp; with_reducible rfl) | (go_simp; refine (if_pos ?_).trans ?_; omega; with_reducible rfl)); (simp only [Act.put, List.setIfInBounds_toArray, List.set_cons_succ, List.set_cons_zero] <;> rfl)))
  ((with_reducible refine o3_pre (v := ?_) (a' := ?_) hS ?_ (fun V hV => ?_) ?_ ?_); rotate_left 2; (rfl); (obtain ⟨a0, a1, -, -⟩ := cells2 (hV.1.get (B := w1.heap.size) (o := .cells #[.int .i64 x1, .slice A1 x2.length c1] 32) (by simp)); have a2 := hV.2; first | (go_simp; with_reducible rfl) | (go_simp; refine (if_pos ?_).trans ?_; omega; with_reducible rfl)); (simp only [Act.put, List.setIfInBounds_toArray, List.set_cons_succ, List.set_cons_zero] <;> rfl))
  ((with_reducible refine o3_both (v := ?_) (a' := ?_) hS ?_ (fun V hV => ?_) (fun V hV => ?_) ?_ ?_); rotate_left 2; (focus rfl); (focus (obtain ⟨a0, a1, -, -⟩ := cells2 (hV.1.get (B := w1.heap.size) (o := .cells #[.int .i64 x1, .slice A1 x2.length c1] 32) (by simp)); have a2 := hV.2; first | (go_simp; with_reducible rfl) | (go_simp; refine (if_pos ?_).trans ?_; omega; with_reducible rfl))); (focus (have a2 := hV; unfold At at a2; first | (go_simp; done) | (go_simp; with_reducible rfl))); (focus (simp only [Act.put, List.setIfInBounds_toArray, List.set_cons_succ, List.set_cons_zero] <;> rfl)))
  obtain ⟨b0, b1, f0, f1⟩ := cells2 (hS.1.get (B := w.heap.size + 1) (o := (.cells #[.int .i64 0, .slice none 0 0] 32)) (by simp))
  refine o3_onlyS rfl rfl ?_
  go_simp
  have hT : At gb goff (.int .i64 x) ((w3.setCell ⟨w.heap.size + 1, 0, none⟩ (.int .i64 x1)).setCell ⟨w.heap.size + 1, 1, none⟩ (.slice A1 x2.length c1)) := ((World.cell?_of_block (Below.heap_setCell _ ⟨w.heap.size + 1, 1, none⟩ _ gb (by show gb ≠ w.heap.size + 1; omega))).trans (World.cell?_of_block (Below.heap_setCell _ ⟨w.heap.size + 1, 0, none⟩ _ gb (by show gb ≠ w.heap.size + 1; omega)))).trans hS.2
  refine ⟨hT, ?_⟩
  iterate 2 (((with_reducible refine o3_calmT (v := ?_) (a' := ?_) hT ?_ (fun V => ?_) ?_ ?_); rotate_left 2; (rfl); (first | (go_simp; with_reducible rfl) | (go_simp; refine (if_pos ?_).trans ?_; omega; with_reducible rfl)); (simp only [Act.put, List.setIfInBounds_toArray, List.set_cons_succ, List.set_cons_zero] <;> rfl)))
  refine o3_end _ ?_
  simp only [Exit.then]
  have k1 := hS.1.get (B := w.heap.size + 1) (o := (.cells #[.int .i64 0, .slice none 0 0] 32)) (by simp)
  have hB := hS.1.below
  obtain ⟨r0, r1, -, -⟩ := cells2 (put_cell (put_cell k1 (.int .i64 x1) (i := 0)) (.slice A1 x2.length c1) (i := 1))
  have hx := ((ho2.other (w.heap.size + 1) 0 (.int .i64 x1) (by simp)).other (w.heap.size + 1) 1 (.slice A1 x2.length c1) (by simp)).mono (base' := w.heap.size) (by simp; omega)
  clear b0 b1 f0 f1 hT ho2
  go_wp2
  refine bodyPost_ret (v := .tuple #[.agg #[.int .i64 x1, .slice A1 x2.length c1], .int .i64 x, .bool true]) (by simp [results, Tryz.f148, go_sem, r0, r1]) rfl ⟨A1, c1, rfl, hx, ?_⟩
  go_grown

def ntfE (ep : Int) (l : List Int) : Int × Bool := match (comeE all1 ep l).2.2 with | [] => (0, false) | x :: _ => (x, true)
theorem notify_any (ep : Int) (l : List Int) (A : Option Addr) (c : Nat) (w : World) (hl : l.length ≤ 1000) (hA : Lies w w.heap.size A (ints l)) : Calls Tryz.prog 148 #[.agg #[.int .i64 ep, .slice A l.length c]] w fun e w' => ∃ A' c', e = .returned (.tuple #[.agg #[.int .i64 (comeE all1 ep l).1, .slice A' (comeE all1 ep l).2.1.length c'], .int .i64 (ntfE ep l).1, .bool (ntfE ep l).2]) ∧ Mine w' w.heap.size 3 1 A' c' (comeE all1 ep l).2.1.length (ints (comeE all1 ep l).2.1) ∧ Below w.heap.size w w' := by
  unfold ntfE
  cases h : (comeE all1 ep l).2.2 with
  | nil => exact notify_none ep l A c w hl hA h
  | cons x r => exact notify_some ep l A c w hl hA x r h

def cnlE (ep : Int) (l : List Int) (id : Int) : List Int × Bool := if evOk ep l = false ∨ (levL l id).2 ≠ 0 then (l, false) else ((levL l id).1, true)

set_option maxRecDepth 100000 in
set_option maxHeartbeats 2000000 in
theorem cancel_no (ep id : Int) (l : List Int) (A : Option Addr) (c : Nat) (w : World) (hl : l.length ≤ 1000) (hA : Lies w w.heap.size A (ints l)) (h : evOk ep l = false ∨ (levL l id).2 ≠ 0) :
    Calls Tryz.prog 81 #[.agg #[.int .i64 ep, .slice A l.length c], .int .i64 id] w fun e w' => ∃ A' c', e = .returned (.tuple #[.agg #[.int .i64 ep, .slice A' (l).length c'], .bool false]) ∧ Mine w' w.heap.size 3 1 A' c' (l).length (ints (l)) ∧ Below w.heap.size w w' := by
  have E := fun W (hW : Below w.heap.size w W) => evCheck_any ep l A c W (by omega) (hA.on hW)
  have O := fun W (hW : Below w.heap.size w W) => evOwn_any ep l A c W (by omega) (hA.on hW)
  have N := fun W (hW : Below w.heap.size w W) => leave_any l id A c W (by omega) (hA.on hW)
  have hcase : evOk ep l = false ∨ (evOk ep l = true ∧ ((levL l id).2 != 0) = true) := by
    cases ho : evOk ep l with
    | false => exact .inl rfl
    | true => exact .inr ⟨rfl, by rcases h with h | h; rw [ho] at h; cases h; simpa using h⟩
  clear h
  generalize evOk ep l = ok at *
  generalize levL l id = en at *
  obtain ⟨L2, bad⟩ := en
  dsimp only at *
  obtain ⟨k0, k1, hB0⟩ := two_new w (.cells #[.int .i64 ep, .slice A l.length c] 32) (.cells #[.int .i64 0, .slice none 0 0] 32)
  obtain ⟨a0, a1, -, -⟩ := cells2 k0
  go_enter Tryz.func81, Tryz.ntmps81
  rcases hcase with hq | ⟨hq, hq2⟩
  all_goals
    subst hq
    go_wp2_with (first
        | (go_at_call 103; (with_reducible refine (N _ hB0).mono ?_); rintro e w1 ⟨A3, c3, rfl, hown3, hb⟩; replace k0 := kept k0 hb; replace k1 := kept k1 hb; have hB := hB0.trans (hb.mono hB0.size); clear a0 a1; obtain ⟨a0, a1, -, -⟩ := cells2 k0)
        | (go_at_call 46; (with_reducible refine (E _ hB).mono ?_); rintro e w2 ⟨rfl, hb2⟩; replace k0 := kept k0 hb2; replace k1 := kept k1 hb2; replace hown3 := hown3.kept hb2; have hB2 := hB.trans (hb2.mono hB.size); clear a0 a1; obtain ⟨a0, a1, -, -⟩ := cells2 k0; obtain ⟨b0, b1, f0, f1⟩ := cells2 k1)
        | (go_at_call 104; (with_reducible refine (O _ hB2).mono ?_); rintro e w3 ⟨A1, c1, rfl, hown, hb3⟩; replace k0 := kept k0 hb3; replace k1 := kept k1 hb3; have hB3 := hB2.trans (hb3.mono hB2.size); clear b0 b1 f0 f1; obtain ⟨b0, b1, f0, f1⟩ := cells2 k1))
    clear b0 b1 f0 f1
    have hsz : w.heap.size + 1 < w2.heap.size := by have := hb.size; have := hb2.size; simp at *; omega
    obtain ⟨r0, r1, -, -⟩ := cells2 (put_cell (put_cell k1 (.int .i64 ep) (i := 0)) (.slice A1 l.length c1) (i := 1))
    replace hown := ((hown.other (w.heap.size + 1) 0 (.int .i64 ep) hsz).other (w.heap.size + 1) 1 (.slice A1 l.length c1) hsz).mono (base' := w.heap.size) (by omega)
    refine bodyPost_ret (v := .tuple #[.agg #[.int .i64 ep, .slice A1 l.length c1], .bool false]) (by simp [results, Tryz.f81, go_sem, r0, r1]) rfl ⟨A1, c1, rfl, hown, ?_⟩
    go_grown

set_option maxRecDepth 100000 in
set_option maxHeartbeats 2000000 in
theorem cancel_yes (ep id : Int) (l : List Int) (A : Option Addr) (c : Nat) (w : World) (hl : l.length ≤ 1000) (hA : Lies w w.heap.size A (ints l)) (h : evOk ep l = true ∧ (levL l id).2 = 0) :
    Calls Tryz.prog 81 #[.agg #[.int .i64 ep, .slice A l.length c], .int .i64 id] w fun e w' => ∃ A' c', e = .returned (.tuple #[.agg #[.int .i64 ep, .slice A' ((levL l id).1).length c'], .bool true]) ∧ Mine w' w.heap.size 3 1 A' c' ((levL l id).1).length (ints ((levL l id).1)) ∧ Below w.heap.size w w' := by
  have E := fun W (hW : Below w.heap.size w W) => evCheck_any ep l A c W (by omega) (hA.on hW)
  have O := fun W (hW : Below w.heap.size w W) => evOwn_any ep l A c W (by omega) (hA.on hW)
  have N := fun W (hW : Below w.heap.size w W) => leave_any l id A c W (by omega) (hA.on hW)
  have hcase : evOk ep l = true ∧ ((levL l id).2 != 0) = false := ⟨h.1, by simp [h.2]⟩
  clear h
  generalize evOk ep l = ok at *
  generalize levL l id = en at *
  obtain ⟨L2, bad⟩ := en
  dsimp only at *
  obtain ⟨k0, k1, hB0⟩ := two_new w (.cells #[.int .i64 ep, .slice A l.length c] 32) (.cells #[.int .i64 0, .slice none 0 0] 32)
  obtain ⟨a0, a1, -, -⟩ := cells2 k0
  go_enter Tryz.func81, Tryz.ntmps81
  obtain ⟨hq, hq2⟩ := hcase
  subst hq
  go_wp2_with (first
      | (go_at_call 103; (with_reducible refine (N _ hB0).mono ?_); rintro e w1 ⟨A3, c3, rfl, hown3, hb⟩; replace k0 := kept k0 hb; replace k1 := kept k1 hb; have hB := hB0.trans (hb.mono hB0.size); clear a0 a1; obtain ⟨a0, a1, -, -⟩ := cells2 k0)
      | (go_at_call 46; (with_reducible refine (E _ hB).mono ?_); rintro e w2 ⟨rfl, hb2⟩; replace k0 := kept k0 hb2; replace k1 := kept k1 hb2; replace hown3 := hown3.kept hb2; have hB2 := hB.trans (hb2.mono hB.size); clear a0 a1; obtain ⟨a0, a1, -, -⟩ := cells2 k0; obtain ⟨b0, b1, f0, f1⟩ := cells2 k1))
  clear b0 b1 f0 f1
  have hsz : w.heap.size + 1 < (((w.alloc (.cells #[.int .i64 ep, .slice A l.length c] 32)).alloc (.cells #[.int .i64 0, .slice none 0 0] 32))).heap.size := by simp
  obtain ⟨r0, r1, -, -⟩ := cells2 (put_cell (put_cell k1 (.int .i64 ep) (i := 0)) (.slice A3 L2.length c3) (i := 1))
  replace hown3 := ((hown3.other (w.heap.size + 1) 0 (.int .i64 ep) hsz).other (w.heap.size + 1) 1 (.slice A3 L2.length c3) hsz).mono (base' := w.heap.size) (by omega)
  refine bodyPost_ret (v := .tuple #[.agg #[.int .i64 ep, .slice A3 L2.length c3], .bool true]) (by simp [results, Tryz.f81, go_sem, r0, r1]) rfl ⟨A3, c3, rfl, hown3, ?_⟩
  go_grown

theorem cancel_any (ep id : Int) (l : List Int) (A : Option Addr) (c : Nat) (w : World) (hl : l.length ≤ 1000) (hA : Lies w w.heap.size A (ints l)) : Calls Tryz.prog 81 #[.agg #[.int .i64 ep, .slice A l.length c], .int .i64 id] w fun e w' => ∃ A' c', e = .returned (.tuple #[.agg #[.int .i64 ep, .slice A' ((cnlE ep l id).1).length c'], .bool (cnlE ep l id).2]) ∧ Mine w' w.heap.size 3 1 A' c' ((cnlE ep l id).1).length (ints ((cnlE ep l id).1)) ∧ Below w.heap.size w w' := by
  unfold cnlE
  split
  · exact cancel_no ep id l A c w hl hA (by assumption)
  · rename_i h
    exact cancel_yes ep id l A c w hl hA ⟨by cases ho : evOk ep l with | true => rfl | false => exact absurd (.inl ho) h, Classical.byContradiction fun h2 => h (.inr h2)⟩

end Go.Proofs.YtnbgpopjnpdmgaaGreat

namespace Go.Proofs.YtnbgpopjnpdmgaaGreat
open Go Go.RowKit Go.Shelf

def Th.ok (t : Th) : Bool := (decide (0 ≤ t.status) && decide (t.status ≤ 2)) && ((decide (0 ≤ t.result) && decide (t.result ≤ 7)) && (t.kindOk && (t.timeOk && (t.placeOk && (decide (t.status ≠ 0) || decide (t = t.bare))))))

set_option maxRecDepth 100000 in
set_option maxHeartbeats 2000000 in
theorem th_check_busy (t : Th) (w : World) (hs : ¬ t.status = 0) :
    Calls Tryz.prog 42 #[t.value] w fun e w' => e = .returned (.bool t.ok) ∧ Below w.heap.size w w' := by
  have W1 := fun W => th_within t.status 0 2 W
  have W2 := fun W => th_within t.result 0 7 W
  have C3 := fun W => one_kind t W
  have C4 := fun W => one_time t W
  have C5 := fun W => one_place t W
  have ok : t.ok = ((decide (0 ≤ t.status) && decide (t.status ≤ 2)) && ((decide (0 ≤ t.result) && decide (t.result ≤ 7)) && (t.kindOk && (t.timeOk && t.placeOk)))) := by simp [Th.ok, hs]
  rw [ok]
  generalize (decide (0 ≤ t.status) && decide (t.status ≤ 2)) = x1 at *
  generalize (decide (0 ≤ t.result) && decide (t.result ≤ 7)) = x2 at *
  generalize t.kindOk = x3 at *
  generalize t.timeOk = x4 at *
  generalize t.placeOk = x5 at *
  clear ok
  have hs2 : (t.status != 0) = true := by simpa using hs
  clear hs
  obtain ⟨s, k, v, u, p, r, n, i, l, q, g⟩ := t
  dsimp only at *
  have hS0 := ((Blk.nil w).add (.cells (Th.cells ⟨s, k, v, u, p, r, n, i, l, q, g⟩) 51)).add (.cells (Th.cells ⟨s, k, v, u, p, r, n, i, l, q, g⟩) 109)
  rw [World.size_alloc] at hS0
  go_enter Tryz.func42, Tryz.ntmps42
  go_wp2_with fail
  have hS := hS0.drew
  clear hS0
  refine wp_region_ord3 (Blk w w.heap.size [(w.heap.size + 1, (.cells (Th.cells ⟨s, k, v, u, p, r, n, i, l, q, g⟩) 109)), (w.heap.size, (.cells (Th.cells ⟨s, k, v, u, p, r, n, i, l, q, g⟩) 51))]) (Blk w w.heap.size [(w.heap.size + 1, (.cells (Th.cells ⟨s, k, v, u, p, r, n, i, l, q, g⟩) 109)), (w.heap.size, (.cells (Th.cells ⟨s, k, v, u, p, r, n, i, l, q, g⟩) 51))]) 7 (by kernel_rfl)
    [(2, 0), (2, 1), (2, 2), (2, 3), (2, 4), (1, 6), (2, 5), (0, 7), (2, 8), (2, 9), (2, 10)]
    (by kernel_rfl) (by kernel_rfl) (by decide) (by kernel_rfl) (fun _ _ d _ _ h => by cases d <;> exact h) ?_
  simp only [inOrder2, List.getElem?_cons_succ, List.getElem?_cons_zero, List.nil_append, List.cons_append]
  iterate 2 (((with_reducible refine o3_calmF (v := ?_) (a' := ?_) hS ?_ (fun V => ?_) ?_ ?_); rotate_left 2; (rfl); (first | (go_simp; with_reducible rfl) | (go_simp; refine (if_pos ?_).trans ?_; omega; with_reducible rfl)); (simp only [Act.put, List.setIfInBounds_toArray, List.set_cons_succ, List.set_cons_zero] <;> rfl)))
  ((with_reducible refine o3_both (v := ?_) (a' := ?_) hS ?_ (fun V hV => ?_) (fun V hV => ?_) ?_ ?_); rotate_left 2; (focus rfl); (focus (obtain ⟨a0, a1, a2, a3, a4, a5, a6, a7, a8, a9, a10⟩ := cells11 (c := ⟨s, k, v, u, p, r, n, i, l, q, g⟩) (hV.get (B := w.heap.size) (o := (.cells (Th.cells ⟨s, k, v, u, p, r, n, i, l, q, g⟩) 51)) (by simp)); obtain ⟨b0, b1, b2, b3, b4, b5, b6, b7, b8, b9, b10⟩ := cells11 (c := ⟨s, k, v, u, p, r, n, i, l, q, g⟩) (hV.get (B := w.heap.size + 1) (o := (.cells (Th.cells ⟨s, k, v, u, p, r, n, i, l, q, g⟩) 109)) (by simp)); first | (go_simp; with_reducible rfl) | (go_simp; refine (if_pos ?_).trans ?_; omega; with_reducible rfl))); (focus (obtain ⟨a0, a1, a2, a3, a4, a5, a6, a7, a8, a9, a10⟩ := cells11 (c := ⟨s, k, v, u, p, r, n, i, l, q, g⟩) (hV.get (B := w.heap.size) (o := (.cells (Th.cells ⟨s, k, v, u, p, r, n, i, l, q, g⟩) 51)) (by simp)); obtain ⟨b0, b1, b2, b3, b4, b5, b6, b7, b8, b9, b10⟩ := cells11 (c := ⟨s, k, v, u, p, r, n, i, l, q, g⟩) (hV.get (B := w.heap.size + 1) (o := (.cells (Th.cells ⟨s, k, v, u, p, r, n, i, l, q, g⟩) 109)) (by simp)); first | (go_simp; done) | (go_simp; with_reducible rfl))); (focus (simp only [Act.put, List.setIfInBounds_toArray, List.set_cons_succ, List.set_cons_zero] <;> rfl)))
  iterate 2 (((with_reducible refine o3_calmF (v := ?_) (a' := ?_) hS ?_ (fun V => ?_) ?_ ?_); rotate_left 2; (rfl); (first | (go_simp; with_reducible rfl) | (go_simp; refine (if_pos ?_).trans ?_; omega; with_reducible rfl)); (simp only [Act.put, List.setIfInBounds_toArray, List.set_cons_succ, List.set_cons_zero] <;> rfl)))
  first | ((with_reducible refine o3_pre (v := ?_) (a' := ?_) hS ?_ (fun V hV => ?_) ?_ ?_); rotate_left 2; (rfl); (obtain ⟨a0, a1, a2, a3, a4, a5, a6, a7, a8, a9, a10⟩ := cells11 (c := ⟨s, k, v, u, p, r, n, i, l, q, g⟩) (hV.get (B := w.heap.size) (o := (.cells (Th.cells ⟨s, k, v, u, p, r, n, i, l, q, g⟩) 51)) (by simp)); obtain ⟨b0, b1, b2, b3, b4, b5, b6, b7, b8, b9, b10⟩ := cells11 (c := ⟨s, k, v, u, p, r, n, i, l, q, g⟩) (hV.get (B := w.heap.size + 1) (o := (.cells (Th.cells ⟨s, k, v, u, p, r, n, i, l, q, g⟩) 109)) (by simp)); first | (go_simp; with_reducible rfl) | (go_simp; refine (if_pos ?_).trans ?_; omega; with_reducible rfl)); (simp only [Act.put, List.setIfInBounds_toArray, List.set_cons_succ, List.set_cons_zero] <;> rfl)) | ((with_reducible refine o3_idleF (a' := ?_) hS ?_ ?_ ?_); rotate_left; (rfl); (simp only [Act.put, List.setIfInBounds_toArray, List.set_cons_succ, List.set_cons_zero] <;> rfl))
  first | ((with_reducible refine o3_both (v := ?_) (a' := ?_) hS ?_ (fun V hV => ?_) (fun V hV => ?_) ?_ ?_); rotate_left 2; (focus rfl); (focus (obtain ⟨a0, a1, a2, a3, a4, a5, a6, a7, a8, a9, a10⟩ := cells11 (c := ⟨s, k, v, u, p, r, n, i, l, q, g⟩) (hV.get (B := w.heap.size) (o := (.cells (Th.cells ⟨s, k, v, u, p, r, n, i, l, q, g⟩) 51)) (by simp)); obtain ⟨b0, b1, b2, b3, b4, b5, b6, b7, b8, b9, b10⟩ := cells11 (c := ⟨s, k, v, u, p, r, n, i, l, q, g⟩) (hV.get (B := w.heap.size + 1) (o := (.cells (Th.cells ⟨s, k, v, u, p, r, n, i, l, q, g⟩) 109)) (by simp)); first | (go_simp; with_reducible rfl) | (go_simp; refine (if_pos ?_).trans ?_; omega; with_reducible rfl))); (focus (obtain ⟨a0, a1, a2, a3, a4, a5, a6, a7, a8, a9, a10⟩ := cells11 (c := ⟨s, k, v, u, p, r, n, i, l, q, g⟩) (hV.get (B := w.heap.size) (o := (.cells (Th.cells ⟨s, k, v, u, p, r, n, i, l, q, g⟩) 51)) (by simp)); obtain ⟨b0, b1, b2, b3, b4, b5, b6, b7, b8, b9, b10⟩ := cells11 (c := ⟨s, k, v, u, p, r, n, i, l, q, g⟩) (hV.get (B := w.heap.size + 1) (o := (.cells (Th.cells ⟨s, k, v, u, p, r, n, i, l, q, g⟩) 109)) (by simp)); first | (go_simp; done) | (go_simp; with_reducible rfl))); (focus (simp only [Act.put, List.setIfInBounds_toArray, List.set_cons_succ, List.set_cons_zero] <;> rfl))) | ((with_reducible refine o3_idleF (a' := ?_) hS ?_ ?_ ?_); rotate_left; (rfl); (simp only [Act.put, List.setIfInBounds_toArray, List.set_cons_succ, List.set_cons_zero] <;> rfl))
  refine o3_idleS (a' := ?_) hS rfl ?_ ?_ ?_
  rotate_left
  · rfl
  · simp only [Act.put, List.setIfInBounds_toArray, List.set_cons_succ, List.set_cons_zero] <;> rfl
  first | ((with_reducible refine o3_calmT (v := ?_) (a' := ?_) hS ?_ (fun V => ?_) ?_ ?_); rotate_left 2; (rfl); (first | (go_simp; with_reducible rfl) | (go_simp; refine (if_pos ?_).trans ?_; omega; with_reducible rfl)); (simp only [Act.put, List.setIfInBounds_toArray, List.set_cons_succ, List.set_cons_zero] <;> rfl)) | ((with_reducible refine o3_idleT (a' := ?_) hS ?_ ?_ ?_); rotate_left; (rfl); (simp only [Act.put, List.setIfInBounds_toArray, List.set_cons_succ, List.set_cons_zero] <;> rfl))
  iterate 2 (((with_reducible refine o3_calmT (v := ?_) (a' := ?_) hS ?_ (fun V => ?_) ?_ ?_); rotate_left 2; (rfl); (first | (go_simp; with_reducible rfl) | (go_simp; refine (if_pos ?_).trans ?_; omega; with_reducible rfl)); (simp only [Act.put, List.setIfInBounds_toArray, List.set_cons_succ, List.set_cons_zero] <;> rfl)))
  refine o3_end _ ?_
  simp only [Exit.then]
  obtain ⟨a0, a1, a2, a3, a4, a5, a6, a7, a8, a9, a10⟩ := cells11 (c := ⟨s, k, v, u, p, r, n, i, l, q, g⟩) (hS.get (B := w.heap.size) (o := (.cells (Th.cells ⟨s, k, v, u, p, r, n, i, l, q, g⟩) 51)) (by simp))
  obtain ⟨b0, b1, b2, b3, b4, b5, b6, b7, b8, b9, b10⟩ := cells11 (c := ⟨s, k, v, u, p, r, n, i, l, q, g⟩) (hS.get (B := w.heap.size + 1) (o := (.cells (Th.cells ⟨s, k, v, u, p, r, n, i, l, q, g⟩) 109)) (by simp))
  go_wp2_with (first
    | (go_at_call 54; (with_reducible refine (W1 _).mono ?_); rintro e v0 ⟨rfl, hw⟩; obtain rfl := hw.symm; clear hw)
    | (go_at_call 54; (with_reducible refine (W2 _).mono ?_); rintro e v0 ⟨rfl, hw⟩; obtain rfl := hw.symm; clear hw)
    | (go_at_call 63; (with_reducible refine (C3 _).mono ?_); rintro e v1 ⟨rfl, hb⟩; replace hS := hS.on hb; clear hb; clear a0 a1 a2 a3 a4 a5 a6 a7 a8 a9 a10 b0 b1 b2 b3 b4 b5 b6 b7 b8 b9 b10; obtain ⟨a0, a1, a2, a3, a4, a5, a6, a7, a8, a9, a10⟩ := cells11 (c := ⟨s, k, v, u, p, r, n, i, l, q, g⟩) (hS.get (B := w.heap.size) (o := (.cells (Th.cells ⟨s, k, v, u, p, r, n, i, l, q, g⟩) 51)) (by simp)); obtain ⟨b0, b1, b2, b3, b4, b5, b6, b7, b8, b9, b10⟩ := cells11 (c := ⟨s, k, v, u, p, r, n, i, l, q, g⟩) (hS.get (B := w.heap.size + 1) (o := (.cells (Th.cells ⟨s, k, v, u, p, r, n, i, l, q, g⟩) 109)) (by simp)))
    | (go_at_call 64; (with_reducible refine (C4 _).mono ?_); rintro e v2 ⟨rfl, hb⟩; replace hS := hS.on hb; clear hb; clear a0 a1 a2 a3 a4 a5 a6 a7 a8 a9 a10 b0 b1 b2 b3 b4 b5 b6 b7 b8 b9 b10; obtain ⟨a0, a1, a2, a3, a4, a5, a6, a7, a8, a9, a10⟩ := cells11 (c := ⟨s, k, v, u, p, r, n, i, l, q, g⟩) (hS.get (B := w.heap.size) (o := (.cells (Th.cells ⟨s, k, v, u, p, r, n, i, l, q, g⟩) 51)) (by simp)); obtain ⟨b0, b1, b2, b3, b4, b5, b6, b7, b8, b9, b10⟩ := cells11 (c := ⟨s, k, v, u, p, r, n, i, l, q, g⟩) (hS.get (B := w.heap.size + 1) (o := (.cells (Th.cells ⟨s, k, v, u, p, r, n, i, l, q, g⟩) 109)) (by simp)))
    | (go_at_call 65; (with_reducible refine (C5 _).mono ?_); rintro e v3 ⟨rfl, hb⟩; replace hS := hS.on hb; clear hb; clear a0 a1 a2 a3 a4 a5 a6 a7 a8 a9 a10 b0 b1 b2 b3 b4 b5 b6 b7 b8 b9 b10; obtain ⟨a0, a1, a2, a3, a4, a5, a6, a7, a8, a9, a10⟩ := cells11 (c := ⟨s, k, v, u, p, r, n, i, l, q, g⟩) (hS.get (B := w.heap.size) (o := (.cells (Th.cells ⟨s, k, v, u, p, r, n, i, l, q, g⟩) 51)) (by simp)); obtain ⟨b0, b1, b2, b3, b4, b5, b6, b7, b8, b9, b10⟩ := cells11 (c := ⟨s, k, v, u, p, r, n, i, l, q, g⟩) (hS.get (B := w.heap.size + 1) (o := (.cells (Th.cells ⟨s, k, v, u, p, r, n, i, l, q, g⟩) 109)) (by simp))))
  all_goals
    go_ret
    exact ⟨by simp_all, hS.below⟩

set_option maxRecDepth 100000 in
set_option maxHeartbeats 2000000 in
theorem th_check_idle (t : Th) (w : World) (hs : t.status = 0) :
    Calls Tryz.prog 42 #[t.value] w fun e w' => e = .returned (.bool t.ok) ∧ Below w.heap.size w w' := by
  have W1 := fun W => th_within t.status 0 2 W
  have W2 := fun W => th_within t.result 0 7 W
  have C3 := fun W => one_kind t W
  have C4 := fun W => one_time t W
  have C5 := fun W => one_place t W
  have D := fun W => th_bare t W
  have ok : t.ok = ((decide (0 ≤ t.status) && decide (t.status ≤ 2)) && ((decide (0 ≤ t.result) && decide (t.result ≤ 7)) && (t.kindOk && (t.timeOk && (t.placeOk && decide (t = t.bare)))))) := by simp [Th.ok, hs]
  rw [ok]
  generalize (decide (0 ≤ t.status) && decide (t.status ≤ 2)) = x1 at *
  generalize (decide (0 ≤ t.result) && decide (t.result ≤ 7)) = x2 at *
  generalize t.kindOk = x3 at *
  generalize t.timeOk = x4 at *
  generalize t.placeOk = x5 at *
  clear ok
  have hx : decide (t = t.bare) = (t.pc == 0 && t.reg == 0 && t.seen == 0 && t.tries == 0 && t.late == false) := by
    obtain ⟨s, k, v, u, p, r, n, i, l, q, g⟩ := t
    dsimp only at hs
    subst hs
    rw [Bool.eq_iff_iff]
    simp [Th.bare, and_assoc]
  rw [hx]
  clear hx
  obtain ⟨s, k, v, u, p, r, n, i, l, q, g⟩ := t
  dsimp only [Th.bare] at *
  subst hs
  have hS0 := ((Blk.nil w).add (.cells (Th.cells ⟨0, k, v, u, p, r, n, i, l, q, g⟩) 51)).add (.cells (Th.cells ⟨0, k, v, u, p, r, n, i, l, q, g⟩) 109)
  rw [World.size_alloc] at hS0
  go_enter Tryz.func42, Tryz.ntmps42
  go_wp2_with fail
  have hS := hS0.drew
  clear hS0
  refine wp_region_ord3 (Blk w w.heap.size [(w.heap.size + 1, (.cells (Th.cells ⟨0, k, v, u, p, r, n, i, l, q, g⟩) 109)), (w.heap.size, (.cells (Th.cells ⟨0, k, v, u, p, r, n, i, l, q, g⟩) 51))]) (Blk w w.heap.size [(w.heap.size + 1, (.cells (Th.cells ⟨0, k, v, u, p, r, n, i, l, q, g⟩) 109)), (w.heap.size, (.cells (Th.cells ⟨0, k, v, u, p, r, n, i, l, q, g⟩) 51))]) 7 (by kernel_rfl)
    [(2, 0), (2, 1), (2, 2), (2, 3), (2, 4), (1, 6), (2, 5), (0, 7), (2, 8), (2, 9), (2, 10)]
    (by kernel_rfl) (by kernel_rfl) (by decide) (by kernel_rfl) (fun _ _ d _ _ h => by cases d <;> exact h) ?_
  simp only [inOrder2, List.getElem?_cons_succ, List.getElem?_cons_zero, List.nil_append, List.cons_append]
  iterate 2 (((with_reducible refine o3_calmF (v := ?_) (a' := ?_) hS ?_ (fun V => ?_) ?_ ?_); rotate_left 2; (rfl); (first | (go_simp; with_reducible rfl) | (go_simp; refine (if_pos ?_).trans ?_; omega; with_reducible rfl)); (simp only [Act.put, List.setIfInBounds_toArray, List.set_cons_succ, List.set_cons_zero] <;> rfl)))
  ((with_reducible refine o3_both (v := ?_) (a' := ?_) hS ?_ (fun V hV => ?_) (fun V hV => ?_) ?_ ?_); rotate_left 2; (focus rfl); (focus (obtain ⟨a0, a1, a2, a3, a4, a5, a6, a7, a8, a9, a10⟩ := cells11 (c := ⟨0, k, v, u, p, r, n, i, l, q, g⟩) (hV.get (B := w.heap.size) (o := (.cells (Th.cells ⟨0, k, v, u, p, r, n, i, l, q, g⟩) 51)) (by simp)); obtain ⟨b0, b1, b2, b3, b4, b5, b6, b7, b8, b9, b10⟩ := cells11 (c := ⟨0, k, v, u, p, r, n, i, l, q, g⟩) (hV.get (B := w.heap.size + 1) (o := (.cells (Th.cells ⟨0, k, v, u, p, r, n, i, l, q, g⟩) 109)) (by simp)); first | (go_simp; with_reducible rfl) | (go_simp; refine (if_pos ?_).trans ?_; omega; with_reducible rfl))); (focus (obtain ⟨a0, a1, a2, a3, a4, a5, a6, a7, a8, a9, a10⟩ := cells11 (c := ⟨0, k, v, u, p, r, n, i, l, q, g⟩) (hV.get (B := w.heap.size) (o := (.cells (Th.cells ⟨0, k, v, u, p, r, n, i, l, q, g⟩) 51)) (by simp)); obtain ⟨b0, b1, b2, b3, b4, b5, b6, b7, b8, b9, b10⟩ := cells11 (c := ⟨0, k, v, u, p, r, n, i, l, q, g⟩) (hV.get (B := w.heap.size + 1) (o := (.cells (Th.cells ⟨0, k, v, u, p, r, n, i, l, q, g⟩) 109)) (by simp)); first | (go_simp; done) | (go_simp; with_reducible rfl))); (focus (simp only [Act.put, List.setIfInBounds_toArray, List.set_cons_succ, List.set_cons_zero] <;> rfl)))
  iterate 2 (((with_reducible refine o3_calmF (v := ?_) (a' := ?_) hS ?_ (fun V => ?_) ?_ ?_); rotate_left 2; (rfl); (first | (go_simp; with_reducible rfl) | (go_simp; refine (if_pos ?_).trans ?_; omega; with_reducible rfl)); (simp only [Act.put, List.setIfInBounds_toArray, List.set_cons_succ, List.set_cons_zero] <;> rfl)))
  first | ((with_reducible refine o3_pre (v := ?_) (a' := ?_) hS ?_ (fun V hV => ?_) ?_ ?_); rotate_left 2; (rfl); (obtain ⟨a0, a1, a2, a3, a4, a5, a6, a7, a8, a9, a10⟩ := cells11 (c := ⟨0, k, v, u, p, r, n, i, l, q, g⟩) (hV.get (B := w.heap.size) (o := (.cells (Th.cells ⟨0, k, v, u, p, r, n, i, l, q, g⟩) 51)) (by simp)); obtain ⟨b0, b1, b2, b3, b4, b5, b6, b7, b8, b9, b10⟩ := cells11 (c := ⟨0, k, v, u, p, r, n, i, l, q, g⟩) (hV.get (B := w.heap.size + 1) (o := (.cells (Th.cells ⟨0, k, v, u, p, r, n, i, l, q, g⟩) 109)) (by simp)); first | (go_simp; with_reducible rfl) | (go_simp; refine (if_pos ?_).trans ?_; omega; with_reducible rfl)); (simp only [Act.put, List.setIfInBounds_toArray, List.set_cons_succ, List.set_cons_zero] <;> rfl)) | ((with_reducible refine o3_idleF (a' := ?_) hS ?_ ?_ ?_); rotate_left; (rfl); (simp only [Act.put, List.setIfInBounds_toArray, List.set_cons_succ, List.set_cons_zero] <;> rfl))
  first | ((with_reducible refine o3_both (v := ?_) (a' := ?_) hS ?_ (fun V hV => ?_) (fun V hV => ?_) ?_ ?_); rotate_left 2; (focus rfl); (focus (obtain ⟨a0, a1, a2, a3, a4, a5, a6, a7, a8, a9, a10⟩ := cells11 (c := ⟨0, k, v, u, p, r, n, i, l, q, g⟩) (hV.get (B := w.heap.size) (o := (.cells (Th.cells ⟨0, k, v, u, p, r, n, i, l, q, g⟩) 51)) (by simp)); obtain ⟨b0, b1, b2, b3, b4, b5, b6, b7, b8, b9, b10⟩ := cells11 (c := ⟨0, k, v, u, p, r, n, i, l, q, g⟩) (hV.get (B := w.heap.size + 1) (o := (.cells (Th.cells ⟨0, k, v, u, p, r, n, i, l, q, g⟩) 109)) (by simp)); first | (go_simp; with_reducible rfl) | (go_simp; refine (if_pos ?_).trans ?_; omega; with_reducible rfl))); (focus (obtain ⟨a0, a1, a2, a3, a4, a5, a6, a7, a8, a9, a10⟩ := cells11 (c := ⟨0, k, v, u, p, r, n, i, l, q, g⟩) (hV.get (B := w.heap.size) (o := (.cells (Th.cells ⟨0, k, v, u, p, r, n, i, l, q, g⟩) 51)) (by simp)); obtain ⟨b0, b1, b2, b3, b4, b5, b6, b7, b8, b9, b10⟩ := cells11 (c := ⟨0, k, v, u, p, r, n, i, l, q, g⟩) (hV.get (B := w.heap.size + 1) (o := (.cells (Th.cells ⟨0, k, v, u, p, r, n, i, l, q, g⟩) 109)) (by simp)); first | (go_simp; done) | (go_simp; with_reducible rfl))); (focus (simp only [Act.put, List.setIfInBounds_toArray, List.set_cons_succ, List.set_cons_zero] <;> rfl))) | ((with_reducible refine o3_idleF (a' := ?_) hS ?_ ?_ ?_); rotate_left; (rfl); (simp only [Act.put, List.setIfInBounds_toArray, List.set_cons_succ, List.set_cons_zero] <;> rfl))
  refine o3_onlyS rfl rfl ?_
  go_simp
  refine ⟨trivial, rfl, (callsIn_wide.2 (D _)).mono ?_⟩
  rintro e w1 ⟨rfl, hb⟩
  refine ⟨hS.on hb, ?_⟩
  replace hS := hS.on hb
  clear hb
  ((with_reducible refine o3_calmT (v := .bool (p == 0 && r == 0 && n == 0 && i == 0 && l == false)) (a' := ?_) hS ?_ (fun V => ?_) ?_ ?_); rotate_left; (focus rfl); (focus (go_simp; by_cases h1 : p = 0 <;> by_cases h2 : r = 0 <;> by_cases h3 : n = 0 <;> by_cases h4 : i = 0 <;> cases l <;> simp [h1, h2, h3, h4])); (focus (simp only [Act.put, List.setIfInBounds_toArray, List.set_cons_succ, List.set_cons_zero] <;> rfl)))
  iterate 2 (((with_reducible refine o3_calmT (v := ?_) (a' := ?_) hS ?_ (fun V => ?_) ?_ ?_); rotate_left 2; (rfl); (first | (go_simp; with_reducible rfl) | (go_simp; refine (if_pos ?_).trans ?_; omega; with_reducible rfl)); (simp only [Act.put, List.setIfInBounds_toArray, List.set_cons_succ, List.set_cons_zero] <;> rfl)))
  refine o3_end _ ?_
  simp only [Exit.then]
  obtain ⟨a0, a1, a2, a3, a4, a5, a6, a7, a8, a9, a10⟩ := cells11 (c := ⟨0, k, v, u, p, r, n, i, l, q, g⟩) (hS.get (B := w.heap.size) (o := (.cells (Th.cells ⟨0, k, v, u, p, r, n, i, l, q, g⟩) 51)) (by simp))
  obtain ⟨b0, b1, b2, b3, b4, b5, b6, b7, b8, b9, b10⟩ := cells11 (c := ⟨0, k, v, u, p, r, n, i, l, q, g⟩) (hS.get (B := w.heap.size + 1) (o := (.cells (Th.cells ⟨0, k, v, u, p, r, n, i, l, q, g⟩) 109)) (by simp))
  go_wp2_with (first
    | (go_at_call 54; (with_reducible refine (W1 _).mono ?_); rintro e v0 ⟨rfl, hw⟩; obtain rfl := hw.symm; clear hw)
    | (go_at_call 54; (with_reducible refine (W2 _).mono ?_); rintro e v0 ⟨rfl, hw⟩; obtain rfl := hw.symm; clear hw)
    | (go_at_call 63; (with_reducible refine (C3 _).mono ?_); rintro e v1 ⟨rfl, hb⟩; replace hS := hS.on hb; clear hb; clear a0 a1 a2 a3 a4 a5 a6 a7 a8 a9 a10 b0 b1 b2 b3 b4 b5 b6 b7 b8 b9 b10; obtain ⟨a0, a1, a2, a3, a4, a5, a6, a7, a8, a9, a10⟩ := cells11 (c := ⟨0, k, v, u, p, r, n, i, l, q, g⟩) (hS.get (B := w.heap.size) (o := (.cells (Th.cells ⟨0, k, v, u, p, r, n, i, l, q, g⟩) 51)) (by simp)); obtain ⟨b0, b1, b2, b3, b4, b5, b6, b7, b8, b9, b10⟩ := cells11 (c := ⟨0, k, v, u, p, r, n, i, l, q, g⟩) (hS.get (B := w.heap.size + 1) (o := (.cells (Th.cells ⟨0, k, v, u, p, r, n, i, l, q, g⟩) 109)) (by simp)))
    | (go_at_call 64; (with_reducible refine (C4 _).mono ?_); rintro e v2 ⟨rfl, hb⟩; replace hS := hS.on hb; clear hb; clear a0 a1 a2 a3 a4 a5 a6 a7 a8 a9 a10 b0 b1 b2 b3 b4 b5 b6 b7 b8 b9 b10; obtain ⟨a0, a1, a2, a3, a4, a5, a6, a7, a8, a9, a10⟩ := cells11 (c := ⟨0, k, v, u, p, r, n, i, l, q, g⟩) (hS.get (B := w.heap.size) (o := (.cells (Th.cells ⟨0, k, v, u, p, r, n, i, l, q, g⟩) 51)) (by simp)); obtain ⟨b0, b1, b2, b3, b4, b5, b6, b7, b8, b9, b10⟩ := cells11 (c := ⟨0, k, v, u, p, r, n, i, l, q, g⟩) (hS.get (B := w.heap.size + 1) (o := (.cells (Th.cells ⟨0, k, v, u, p, r, n, i, l, q, g⟩) 109)) (by simp)))
    | (go_at_call 65; (with_reducible refine (C5 _).mono ?_); rintro e v3 ⟨rfl, hb⟩; replace hS := hS.on hb; clear hb; clear a0 a1 a2 a3 a4 a5 a6 a7 a8 a9 a10 b0 b1 b2 b3 b4 b5 b6 b7 b8 b9 b10; obtain ⟨a0, a1, a2, a3, a4, a5, a6, a7, a8, a9, a10⟩ := cells11 (c := ⟨0, k, v, u, p, r, n, i, l, q, g⟩) (hS.get (B := w.heap.size) (o := (.cells (Th.cells ⟨0, k, v, u, p, r, n, i, l, q, g⟩) 51)) (by simp)); obtain ⟨b0, b1, b2, b3, b4, b5, b6, b7, b8, b9, b10⟩ := cells11 (c := ⟨0, k, v, u, p, r, n, i, l, q, g⟩) (hS.get (B := w.heap.size + 1) (o := (.cells (Th.cells ⟨0, k, v, u, p, r, n, i, l, q, g⟩) 109)) (by simp))))
  all_goals
    go_ret
    exact ⟨by simp_all, hS.below⟩

theorem th_check (t : Th) (w : World) : Calls Tryz.prog 42 #[t.value] w fun e w' => e = .returned (.bool t.ok) ∧ Below w.heap.size w w' := by
  by_cases hs : t.status = 0
  · exact th_check_idle t w hs
  · exact th_check_busy t w hs

end Go.Proofs.YtnbgpopjnpdmgaaGreat
