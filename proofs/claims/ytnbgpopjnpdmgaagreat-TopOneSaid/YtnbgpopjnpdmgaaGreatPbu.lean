/-
  DERIVED. Do.
-/
import Derived.Test.YtnbgpopjnpdmgaaGreatPbt
import Derived.Test.YtnbgpopjnpdmgaaGreatPbj
import Derived.Test.YtnbgpopjnpdmgaaGreatPat
set_option linter.unusedVariables false
set_option linter.unusedSimpArgs false

namespace Go.Proofs.YtnbgpopjnpdmgaaGreat
open Go Go.RowKit Go.Shelf

def DoEnd (P : St → Prop) (w : World) (e : Ending) (w' : World) : Prop := ∃ T L' er, e = .returned (.tuple #[T.val L', .int .i64 er]) ∧ Owns w' w.heap.size T L' ∧ P T ∧ Below w.heap.size w w'
theorem three_new (w : World) (a b c : Obj) : (((w.alloc a).alloc b).alloc c).heap[w.heap.size]? = some a ∧ (((w.alloc a).alloc b).alloc c).heap[w.heap.size + 1]? = some b ∧ (((w.alloc a).alloc b).alloc c).heap[w.heap.size + 2]? = some c ∧ Below w.heap.size w (((w.alloc a).alloc b).alloc c) := by
  obtain ⟨h0, h1, h2⟩ := two_new w a b
  have h3 := World.alloc_heap_new ((w.alloc a).alloc b) c
  simp only [World.size_alloc] at h3
  exact ⟨keep_alloc h0 c, keep_alloc h1 c, h3, h2.alloc (by simp; omega) c⟩
theorem tick_any (S : St) (L : Lay) (n : Int) (w : World) (hsm : S.small) (hH : Holds w S L) (h8 : S.ths.length ≤ 700) : Calls Tryz.prog 61 #[S.val L, .int .i64 n] w (TickEnd w S) := by
  by_cases h : S.ok = true
  · by_cases h1 : n < 0
    · exact tick_time S L n w hsm hH h8 h (.inl h1)
    · by_cases h2 : 1099511627776 - S.now < n
      · exact tick_time S L n w hsm hH h8 h (.inr ⟨h1, h2⟩)
      · exact tick_go S L n w hsm hH h8 h h1 h2
  · exact tick_bad S L n w hsm hH h8 (by simpa using h)

set_option maxRecDepth 100000 in
set_option maxHeartbeats 8000000 in
theorem whatPick_any (k th v u : Int) (S : St) (L : Lay) (w : World) (hsm : S.small) (hH : Holds w S L) :
    Calls Tryz.prog 40 #[.agg #[.int .i64 k, .int .i64 th, .int .i64 v, .int .i64 u], S.val L] w fun e w' => DoEnd (fun T => T = (S.pick th).1) w e w' := by
  obtain ⟨k0, k1, k2, hB0⟩ := three_new w (.cells #[.int .i64 k, .int .i64 th, .int .i64 v, .int .i64 u] 63) (.cells (S.cells L) 36) (.cells #[.int .i64 0, .int .i64 0, .int .i64 0, .int .i64 0, .int .i64 0, .int .i64 0, .bool false, .int .i64 0, .int .i64 0, .int .i64 0, .slice none 0 0, .slice none 0 0, .slice none 0 0, .int .i64 0, .slice none 0 0, .int .i64 0, .slice none 0 0, .int .i64 0, .slice none 0 0, .slice none 0 0] 36)
  obtain ⟨q0, q1, q2, q3, -⟩ := cells4 k0
  have hbz : (((w.alloc (.cells #[.int .i64 k, .int .i64 th, .int .i64 v, .int .i64 u] 63)).alloc (.cells (S.cells L) 36)).alloc (.cells #[.int .i64 0, .int .i64 0, .int .i64 0, .int .i64 0, .int .i64 0, .int .i64 0, .bool false, .int .i64 0, .int .i64 0, .int .i64 0, .slice none 0 0, .slice none 0 0, .slice none 0 0, .int .i64 0, .slice none 0 0, .int .i64 0, .slice none 0 0, .int .i64 0, .slice none 0 0, .slice none 0 0] 36)).heap.size = w.heap.size + 3 := (by simp)
  obtain ⟨c17, -⟩ := of_block k1 17
  replace c17 : (((w.alloc (.cells #[.int .i64 k, .int .i64 th, .int .i64 v, .int .i64 u] 63)).alloc (.cells (S.cells L) 36)).alloc (.cells #[.int .i64 0, .int .i64 0, .int .i64 0, .int .i64 0, .int .i64 0, .int .i64 0, .bool false, .int .i64 0, .int .i64 0, .int .i64 0, .slice none 0 0, .slice none 0 0, .slice none 0 0, .int .i64 0, .slice none 0 0, .int .i64 0, .slice none 0 0, .int .i64 0, .slice none 0 0, .slice none 0 0] 36)).cell? ⟨w.heap.size + 1, 17, none⟩ = some (.int .i64 S.now) := c17
  have PK := fun W (hW : Below w.heap.size w W) => pick_any S L th W hsm (hH.on hW)
  go_enter Tryz.func40, Tryz.ntmps40
  go_wp2_with (first
      | ((with_reducible refine wpList_val (load36 k1 ?_ ?_) ?_); (focus rfl); (focus rfl))
      | (go_at_call 55; (with_reducible refine (PK _ hB0).mono ?_); rintro e w3 ⟨L1, rfl, ho, hb⟩; rw [hbz] at ho hb; have hz3 : w.heap.size + 3 ≤ w3.heap.size := (by have := hb.size; omega); have hB := hB0.trans (hb.mono (by omega)); replace k2 := kept k2 (by rw [hbz]; exact hb); obtain ⟨v2, hst2, kr, hB3, hoth⟩ := run_store_block (P := Tryz.prog) (base := w.heap.size) (cs := (((S.pick th).1).cells L1).toList) k2 rfl (st_one ((S.pick th).1) L1) (by omega))
      | ((with_reducible refine wpList_skip (store36 hst2 ?_ ?_ ?_) ?_); (focus rfl); (focus rfl); (focus rfl)))
  refine bodyPost_ret (results36_2 kr rfl rfl rfl) rfl ⟨(S.pick th).1, L1, _, rfl, (ho.put k2 okSt hoth).mono (by omega), rfl, hB.trans hB3⟩

set_option maxRecDepth 100000 in
set_option maxHeartbeats 8000000 in
theorem whatInvoke_any (k th v u : Int) (S : St) (L : Lay) (w : World) (hsm : S.small) (hH : Holds w S L) :
    Calls Tryz.prog 20 #[.agg #[.int .i64 k, .int .i64 th, .int .i64 v, .int .i64 u], S.val L] w fun e w' => DoEnd (Gr 1 1 S) w e w' := by
  obtain ⟨k0, k1, k2, hB0⟩ := three_new w (.cells #[.int .i64 k, .int .i64 th, .int .i64 v, .int .i64 u] 63) (.cells (S.cells L) 36) (.cells #[.int .i64 0, .int .i64 0, .int .i64 0, .int .i64 0, .int .i64 0, .int .i64 0, .bool false, .int .i64 0, .int .i64 0, .int .i64 0, .slice none 0 0, .slice none 0 0, .slice none 0 0, .int .i64 0, .slice none 0 0, .int .i64 0, .slice none 0 0, .int .i64 0, .slice none 0 0, .slice none 0 0] 36)
  obtain ⟨q0, q1, q2, q3, -⟩ := cells4 k0
  have hbz : (((w.alloc (.cells #[.int .i64 k, .int .i64 th, .int .i64 v, .int .i64 u] 63)).alloc (.cells (S.cells L) 36)).alloc (.cells #[.int .i64 0, .int .i64 0, .int .i64 0, .int .i64 0, .int .i64 0, .int .i64 0, .bool false, .int .i64 0, .int .i64 0, .int .i64 0, .slice none 0 0, .slice none 0 0, .slice none 0 0, .int .i64 0, .slice none 0 0, .int .i64 0, .slice none 0 0, .int .i64 0, .slice none 0 0, .slice none 0 0] 36)).heap.size = w.heap.size + 3 := (by simp)
  obtain ⟨c17, -⟩ := of_block k1 17
  replace c17 : (((w.alloc (.cells #[.int .i64 k, .int .i64 th, .int .i64 v, .int .i64 u] 63)).alloc (.cells (S.cells L) 36)).alloc (.cells #[.int .i64 0, .int .i64 0, .int .i64 0, .int .i64 0, .int .i64 0, .int .i64 0, .bool false, .int .i64 0, .int .i64 0, .int .i64 0, .slice none 0 0, .slice none 0 0, .slice none 0 0, .int .i64 0, .slice none 0 0, .int .i64 0, .slice none 0 0, .int .i64 0, .slice none 0 0, .slice none 0 0] 36)).cell? ⟨w.heap.size + 1, 17, none⟩ = some (.int .i64 S.now) := c17
  have IN : ∀ (y : Int) (W : World), Below w.heap.size w W → Calls Tryz.prog 10 #[S.val L, .int .i64 th, .int .i64 k, .int .i64 v, .int .i64 y] W fun e w' => ∃ (T : St) (L' : Lay) (er : Int), e = .returned (.tuple #[T.val L', .int .i64 er]) ∧ Owns w' W.heap.size T L' ∧ Gr 1 1 S T ∧ Below W.heap.size W w' :=
    fun y W hW => (invoke_any S L th k v y W hsm (hH.on hW)).mono fun e w' ⟨L', h1, h2, h3⟩ => ⟨_, L', _, h1, h2, invoke_gr S th k v y, h3⟩
  go_enter Tryz.func20, Tryz.ntmps20
  go_wp2_with (first
      | ((with_reducible refine wpList_val (load36 k1 ?_ ?_) ?_); (focus rfl); (focus rfl))
      | (go_at_call 10; (with_reducible refine (IN _ _ hB0).mono ?_); rintro e w3 ⟨T, L1, er, rfl, ho, hgr, hb⟩; rw [hbz] at ho hb; have hz3 : w.heap.size + 3 ≤ w3.heap.size := (by have := hb.size; omega); have hB := hB0.trans (hb.mono (by omega)); replace k2 := kept k2 (by rw [hbz]; exact hb); obtain ⟨v2, hst2, kr, hB3, hoth⟩ := run_store_block (P := Tryz.prog) (base := w.heap.size) (cs := ((T).cells L1).toList) k2 rfl (st_one (T) L1) (by omega))
      | ((with_reducible refine wpList_skip (store36 hst2 ?_ ?_ ?_) ?_); (focus rfl); (focus rfl); (focus rfl)))
  refine bodyPost_ret (results36_2 kr rfl rfl rfl) rfl ⟨T, L1, _, rfl, (ho.put k2 okSt hoth).mono (by omega), hgr, hB.trans hB3⟩

set_option maxRecDepth 100000 in
set_option maxHeartbeats 8000000 in
theorem whatTick_any (k th v u : Int) (S : St) (L : Lay) (w : World) (hsm : S.small) (hH : Holds w S L) (h8 : S.ths.length ≤ 700) :
    Calls Tryz.prog 39 #[.agg #[.int .i64 k, .int .i64 th, .int .i64 v, .int .i64 u], S.val L] w fun e w' => DoEnd (Gr 0 0 S) w e w' := by
  obtain ⟨k0, k1, k2, hB0⟩ := three_new w (.cells #[.int .i64 k, .int .i64 th, .int .i64 v, .int .i64 u] 63) (.cells (S.cells L) 36) (.cells #[.int .i64 0, .int .i64 0, .int .i64 0, .int .i64 0, .int .i64 0, .int .i64 0, .bool false, .int .i64 0, .int .i64 0, .int .i64 0, .slice none 0 0, .slice none 0 0, .slice none 0 0, .int .i64 0, .slice none 0 0, .int .i64 0, .slice none 0 0, .int .i64 0, .slice none 0 0, .slice none 0 0] 36)
  obtain ⟨q0, q1, q2, q3, -⟩ := cells4 k0
  have hbz : (((w.alloc (.cells #[.int .i64 k, .int .i64 th, .int .i64 v, .int .i64 u] 63)).alloc (.cells (S.cells L) 36)).alloc (.cells #[.int .i64 0, .int .i64 0, .int .i64 0, .int .i64 0, .int .i64 0, .int .i64 0, .bool false, .int .i64 0, .int .i64 0, .int .i64 0, .slice none 0 0, .slice none 0 0, .slice none 0 0, .int .i64 0, .slice none 0 0, .int .i64 0, .slice none 0 0, .int .i64 0, .slice none 0 0, .slice none 0 0] 36)).heap.size = w.heap.size + 3 := (by simp)
  have TK := fun W (hW : Below w.heap.size w W) => tick_any S L v W hsm (hH.on hW) h8
  go_enter Tryz.func39, Tryz.ntmps39
  go_wp2_with (first
      | ((with_reducible refine wpList_val (load36 k1 ?_ ?_) ?_); (focus rfl); (focus rfl))
      | (go_at_call 61; (with_reducible refine (TK _ hB0).mono ?_); rintro e w3 ⟨T, L1, A, n, c, er, rfl, ho, hgr, hb⟩; rw [hbz] at ho hb; have hz3 : w.heap.size + 3 ≤ w3.heap.size := (by have := hb.size; omega); have hB := hB0.trans (hb.mono (by omega)); replace k2 := kept k2 (by rw [hbz]; exact hb); have kz := World.alloc_heap_new w3 (.cells #[.int .i64 0, .int .i64 0, .int .i64 0, .int .i64 0, .int .i64 0, .int .i64 0, .bool false, .int .i64 0, .int .i64 0, .int .i64 0, .slice none 0 0, .slice none 0 0, .slice none 0 0, .int .i64 0, .slice none 0 0, .int .i64 0, .slice none 0 0, .int .i64 0, .slice none 0 0, .slice none 0 0] 36); obtain ⟨v4, hst4, kb, hB4, hoth4⟩ := run_store_block (P := Tryz.prog) (base := w3.heap.size) (cs := (T.cells L1).toList) kz rfl (st_one T L1) (Nat.le_refl _); have hbv : Below w3.heap.size w3 v4 := (below_one w3 _).trans hB4; replace ho := ho.kept hbv; replace hB := hB.trans (hbv.mono (by omega)); replace k2 := kept k2 hbv; obtain ⟨v2, hst2, kr, hB3, hoth⟩ := run_store_block (P := Tryz.prog) (base := w.heap.size) (cs := (T.cells L1).toList) k2 rfl (st_one T L1) (by omega))
      | ((with_reducible refine wpList_skip (store36 hst4 ?_ ?_ ?_) ?_); (focus rfl); (focus rfl); (focus rfl))
      | ((with_reducible refine wpList_val (load36 kb ?_ ?_) ?_); (focus rfl); (focus rfl); (with_reducible refine wpList_val (mv_exec (v := .int .i64 er) ?_) ?_); (focus rfl))
      | ((with_reducible refine wpList_skip (store36 hst2 ?_ ?_ ?_) ?_); (focus rfl); (focus rfl); (focus rfl)))
  refine bodyPost_ret (results36_2 kr rfl rfl rfl) rfl ⟨T, L1, _, rfl, (ho.put k2 okSt hoth).mono (by omega), hgr, hB.trans hB3⟩

theorem blk3 {w W : World} {B : Nat} {a b c : Nat × Obj} (h : Blk w B [a, b, c] W) : W.heap[a.1]? = some a.2 ∧ W.heap[b.1]? = some b.2 ∧ W.heap[c.1]? = some c.2 :=
  ⟨h.all _ (List.mem_cons_self ..), h.all _ (List.mem_cons_of_mem _ (List.mem_cons_self ..)), h.all _ (List.mem_cons_of_mem _ (List.mem_cons_of_mem _ (List.mem_cons_self ..)))⟩
theorem blk3_mk {w W : World} {a b c : Nat × Obj} (hb : Below w.heap.size w W) (h0 : W.heap[a.1]? = some a.2) (h1 : W.heap[b.1]? = some b.2) (h2 : W.heap[c.1]? = some c.2) : Blk w w.heap.size [a, b, c] W :=
  ⟨hb, fun p hp => by
    simp only [List.mem_cons, List.not_mem_nil, or_false] at hp
    rcases hp with rfl | rfl | rfl
    · exact h0
    · exact h1
    · exact h2, Nat.le_refl _⟩
theorem bFind_cases (k : Int) : (k = 11 ∧ bFind k = some (0, .func (.func 39) #[] #[])) ∨ (k = 10 ∧ bFind k = some (1, .func (.func 40) #[] #[])) ∨ (k ≠ 11 ∧ k ≠ 10 ∧ bFind k = none) := by
  unfold bFind
  by_cases h1 : k = 11
  · exact .inl ⟨h1, if_pos h1⟩
  · by_cases h2 : k = 10
    · exact .inr (.inl ⟨h2, by rw [if_neg h1, if_pos h2]⟩)
    · exact .inr (.inr ⟨h1, h2, by rw [if_neg h1, if_neg h2]⟩)

set_option maxRecDepth 100000 in
set_option maxHeartbeats 8000000 in
theorem do_any (k th v u : Int) (S : St) (L : Lay) (w : World) (hsm : S.small) (hH : Holds w S L) (h8 : S.ths.length ≤ 700) :
    Calls Tryz.prog 8 #[S.val L, .agg #[.int .i64 k, .int .i64 th, .int .i64 v, .int .i64 u]] w fun e w' => DoEnd (fun T => Gr 1 1 S T ∧ (k = 10 → T = S ∨ T = (S.pick th).1)) w e w' := by
  obtain ⟨k0, k1, k2, hB0⟩ := three_new w (.cells (S.cells L) 36) (.cells #[.int .i64 k, .int .i64 th, .int .i64 v, .int .i64 u] 41) (.cells #[.int .i64 0, .int .i64 0, .int .i64 0, .int .i64 0, .int .i64 0, .int .i64 0, .bool false, .int .i64 0, .int .i64 0, .int .i64 0, .slice none 0 0, .slice none 0 0, .slice none 0 0, .int .i64 0, .slice none 0 0, .int .i64 0, .slice none 0 0, .int .i64 0, .slice none 0 0, .slice none 0 0] 36)
  obtain ⟨q0, q1, q2, q3, -⟩ := cells4 k1
  have hbz : (((w.alloc (.cells (S.cells L) 36)).alloc (.cells #[.int .i64 k, .int .i64 th, .int .i64 v, .int .i64 u] 41)).alloc (.cells #[.int .i64 0, .int .i64 0, .int .i64 0, .int .i64 0, .int .i64 0, .int .i64 0, .bool false, .int .i64 0, .int .i64 0, .int .i64 0, .slice none 0 0, .slice none 0 0, .slice none 0 0, .int .i64 0, .slice none 0 0, .int .i64 0, .slice none 0 0, .int .i64 0, .slice none 0 0, .slice none 0 0] 36)).heap.size = w.heap.size + 3 := (by simp)
  have CK := fun W => callCheck_any k th v u W
  have WK := fun W (hW : Below w.heap.size w W) => wake_any S L (-1) W hsm (hH.on hW)
  rw [wake_none] at WK
  go_enter Tryz.func8, Tryz.ntmps8
  go_wp2_with fail
  (with_reducible refine (CK _).mono ?_)
  rintro e w3 ⟨e0, rfl, hb⟩
  rw [hbz] at hb
  have hB := hB0.trans (hb.mono (by omega))
  have hz3 : w.heap.size + 3 ≤ w3.heap.size := (by have := hb.size; omega)
  replace k0 := kept k0 (by rw [hbz]; exact hb)
  replace k1 := kept k1 (by rw [hbz]; exact hb)
  replace k2 := kept k2 (by rw [hbz]; exact hb)
  clear hB0 hb CK hbz q0 q1 q2 q3
  by_cases he : e0 = 0
  · subst he
    have hS : (Blk w w.heap.size [(w.heap.size, (.cells (S.cells L) 36)), (w.heap.size + 1, (.cells #[.int .i64 k, .int .i64 th, .int .i64 v, .int .i64 u] 41)), (w.heap.size + 2, (.cells #[.int .i64 0, .int .i64 0, .int .i64 0, .int .i64 0, .int .i64 0, .int .i64 0, .bool false, .int .i64 0, .int .i64 0, .int .i64 0, .slice none 0 0, .slice none 0 0, .slice none 0 0, .int .i64 0, .slice none 0 0, .int .i64 0, .slice none 0 0, .int .i64 0, .slice none 0 0, .slice none 0 0] 36))]) w3 := blk3_mk hB k0 k1 k2
    clear k0 k1 k2 hB hz3 WK
    go_wp2_with fail
    refine wp_region_ord3 (Blk w w.heap.size [(w.heap.size, (.cells (S.cells L) 36)), (w.heap.size + 1, (.cells #[.int .i64 k, .int .i64 th, .int .i64 v, .int .i64 u] 41)), (w.heap.size + 2, (.cells #[.int .i64 0, .int .i64 0, .int .i64 0, .int .i64 0, .int .i64 0, .int .i64 0, .bool false, .int .i64 0, .int .i64 0, .int .i64 0, .slice none 0 0, .slice none 0 0, .slice none 0 0, .int .i64 0, .slice none 0 0, .int .i64 0, .slice none 0 0, .int .i64 0, .slice none 0 0, .slice none 0 0] 36))]) (Blk w w.heap.size [(w.heap.size, (.cells (S.cells L) 36)), (w.heap.size + 1, (.cells #[.int .i64 k, .int .i64 th, .int .i64 v, .int .i64 u] 41)), (w.heap.size + 2, (.cells #[.int .i64 0, .int .i64 0, .int .i64 0, .int .i64 0, .int .i64 0, .int .i64 0, .bool false, .int .i64 0, .int .i64 0, .int .i64 0, .slice none 0 0, .slice none 0 0, .slice none 0 0, .int .i64 0, .slice none 0 0, .int .i64 0, .slice none 0 0, .int .i64 0, .slice none 0 0, .slice none 0 0] 36))]) 0 (by kernel_rfl)
      [(2, 1), (2, 2), (0, 0), (0, 3), (2, 4), (2, 5), (2, 6), (2, 7), (2, 8)]
      (by kernel_rfl) (by kernel_rfl) (by decide) (by kernel_rfl) (fun _ _ d _ _ h => by cases d <;> exact h) ?_
    simp only [inOrder2, List.getElem?_cons_succ, List.getElem?_cons_zero, List.nil_append, List.cons_append]
    have hS := hS.drew
    ((with_reducible refine o3_calmF (v := ?_) (a' := ?_) hS ?_ (fun V => ?_) ?_ ?_); rotate_left 2; (rfl); (first | (go_simp; with_reducible rfl) | (go_simp; refine (if_pos ?_).trans ?_; omega; with_reducible rfl)); (simp only [Act.put, List.setIfInBounds_toArray, List.set_cons_succ, List.set_cons_zero] <;> rfl))
    ((with_reducible refine o3_both (v := ?_) (a' := ?_) hS ?_ (fun V hV => ?_) (fun V hV => ?_) ?_ ?_); rotate_left 2; (focus rfl); (focus (obtain ⟨q0, q1, q2, q3, -⟩ := cells4 (blk3 hV).2.1; first | (go_simp; with_reducible rfl) | (go_simp; refine (if_pos ?_).trans ?_; omega; with_reducible rfl))); (focus (obtain ⟨q0, q1, q2, q3, -⟩ := cells4 (blk3 hV).2.1; first | (go_simp; done) | (go_simp; with_reducible rfl))); (focus (simp only [Act.put, List.setIfInBounds_toArray, List.set_cons_succ, List.set_cons_zero] <;> rfl)))
    refine o3_onlyS rfl rfl ?_
    go_simp
    refine ⟨trivial, rfl, (callsIn_wide.2 (by_any _)).mono ?_⟩
    rintro e w1 ⟨mb, rfl, hm, hb⟩
    replace hS := hS.on hb
    clear hb
    refine ⟨hS, ?_⟩
    refine o3_valT (a' := ?_) rfl (lookup3_run (.tmp 17) (.tmp 19) 60 3 58 .i64 Tryz.underlying60 Tryz.underlying3 mb rfl k rfl _ 2 hm .nilFunc (Tryz.zeroValue58 _) _ (bFind_at k)) ?_ hS ?_
    rotate_left
    focus (simp only [Act.put, List.setIfInBounds_toArray, List.set_cons_succ, List.set_cons_zero] <;> rfl)
    clear hm
    iterate 5 (((with_reducible refine o3_calmT (v := ?_) (a' := ?_) hS ?_ (fun V => ?_) ?_ ?_); rotate_left 2; (rfl); (first | (go_simp; with_reducible rfl) | (go_simp; refine (if_pos ?_).trans ?_; omega; with_reducible rfl)); (simp only [Act.put, List.setIfInBounds_toArray, List.set_cons_succ, List.set_cons_zero] <;> rfl)))
    refine o3_end _ ?_
    try simp only [Exit.then]
    obtain ⟨k0, k1, k2⟩ := blk3 hS
    replace k0 : w1.heap[w.heap.size]? = some (.cells (S.cells L) 36) := k0
    replace k1 : w1.heap[w.heap.size + 1]? = some (.cells #[.int .i64 k, .int .i64 th, .int .i64 v, .int .i64 u] 41) := k1
    replace k2 : w1.heap[w.heap.size + 2]? = some (.cells #[.int .i64 0, .int .i64 0, .int .i64 0, .int .i64 0, .int .i64 0, .int .i64 0, .bool false, .int .i64 0, .int .i64 0, .int .i64 0, .slice none 0 0, .slice none 0 0, .slice none 0 0, .int .i64 0, .slice none 0 0, .int .i64 0, .slice none 0 0, .int .i64 0, .slice none 0 0, .slice none 0 0] 36) := k2
    obtain ⟨q0, q1, q2, q3, -⟩ := cells4 k1
    have hB := hS.below
    have hz := hB.size
    have hlt2 := blk_lt k2
    clear hS
    rcases bFind_cases k with ⟨rfl, hf⟩ | ⟨rfl, hf⟩ | ⟨h1, h2, hf⟩
    · rw [hf]
      simp only [lookVal, Option.isSome]
      clear hf
      have TK := fun W (hW : Below w.heap.size w W) => whatTick_any 11 th v u S L W hsm (hH.on hW) h8
      go_wp2_with (first
          | ((with_reducible refine wpList_val (load36 k0 ?_ ?_) ?_); (focus rfl); (focus rfl))
          | (go_at_call 39; (with_reducible refine (TK _ hB).mono ?_); rintro e w4 ⟨T, L1, er, rfl, ho, hp, hb⟩; have HP := Lib.hid hp; clear hp; replace k2 := kept k2 hb; replace hB := hB.trans (hb.mono hz); obtain ⟨v2, hst2, kr, hB3, hoth⟩ := run_store_block (P := Tryz.prog) (base := w.heap.size) (cs := (T.cells L1).toList) k2 rfl (st_one T L1) (by omega))
          | ((with_reducible refine wpList_skip (store36 hst2 ?_ ?_ ?_) ?_); (focus rfl); (focus rfl); (focus rfl)))
      refine bodyPost_ret (results36_2 kr rfl rfl rfl) rfl ⟨T, L1, _, rfl, (ho.put k2 okSt hoth).mono hz, ⟨HP.out.mono (by omega) (by omega), fun h => absurd h (by decide)⟩, hB.trans hB3⟩
    · rw [hf]
      simp only [lookVal, Option.isSome]
      clear hf
      have TK := fun W (hW : Below w.heap.size w W) => whatPick_any 10 th v u S L W hsm (hH.on hW)
      go_wp2_with (first
          | ((with_reducible refine wpList_val (load36 k0 ?_ ?_) ?_); (focus rfl); (focus rfl))
          | (go_at_call 40; (with_reducible refine (TK _ hB).mono ?_); rintro e w4 ⟨T, L1, er, rfl, ho, hp, hb⟩; have HP := Lib.hid hp; clear hp; replace k2 := kept k2 hb; replace hB := hB.trans (hb.mono hz); obtain ⟨v2, hst2, kr, hB3, hoth⟩ := run_store_block (P := Tryz.prog) (base := w.heap.size) (cs := (T.cells L1).toList) k2 rfl (st_one T L1) (by omega))
          | ((with_reducible refine wpList_skip (store36 hst2 ?_ ?_ ?_) ?_); (focus rfl); (focus rfl); (focus rfl)))
      refine bodyPost_ret (results36_2 kr rfl rfl rfl) rfl ⟨T, L1, _, rfl, (ho.put k2 okSt hoth).mono hz, ⟨HP.out ▸ pick_gr S th, by first | exact .inr HP.out | exact fun _ => .inr HP.out⟩, hB.trans hB3⟩
    · rw [hf]
      simp only [lookVal, Option.isSome]
      clear hf
      have TK := fun W (hW : Below w.heap.size w W) => whatInvoke_any k th v u S L W hsm (hH.on hW)
      go_wp2_with (first
          | ((with_reducible refine wpList_val (load36 k0 ?_ ?_) ?_); (focus rfl); (focus rfl))
          | (go_at_call 20; (with_reducible refine (TK _ hB).mono ?_); rintro e w4 ⟨T, L1, er, rfl, ho, hp, hb⟩; have HP := Lib.hid hp; clear hp; replace k2 := kept k2 hb; replace hB := hB.trans (hb.mono hz); obtain ⟨v2, hst2, kr, hB3, hoth⟩ := run_store_block (P := Tryz.prog) (base := w.heap.size) (cs := (T.cells L1).toList) k2 rfl (st_one T L1) (by omega))
          | ((with_reducible refine wpList_skip (store36 hst2 ?_ ?_ ?_) ?_); (focus rfl); (focus rfl); (focus rfl)))
      refine bodyPost_ret (results36_2 kr rfl rfl rfl) rfl ⟨T, L1, _, rfl, (ho.put k2 okSt hoth).mono hz, ⟨HP.out, fun h => absurd h h2⟩, hB.trans hB3⟩
  · have he' : (e0 != 0) = true := by simpa using he
    go_wp2_with (first
        | ((with_reducible refine wpList_val (load36 k0 ?_ ?_) ?_); (focus rfl); (focus rfl))
        | (go_at_call 18; (with_reducible refine (WK _ hB).mono ?_); rintro e w4 ⟨L1, rfl, ho, hb4⟩; have hz4 := hb4.size; replace k2 := kept k2 hb4; replace hB := hB.trans (hb4.mono (by omega)); obtain ⟨v2, hst2, kr, hB3, hoth⟩ := run_store_block (P := Tryz.prog) (base := w.heap.size) (cs := (S.cells L1).toList) k2 rfl (st_one S L1) (by omega))
        | ((with_reducible refine wpList_val (mv_exec (v := .int .i64 e0) ?_) ?_); (focus rfl))
        | ((with_reducible refine wpList_skip (store36 hst2 ?_ ?_ ?_) ?_); (focus rfl); (focus rfl); (focus rfl)))
    refine bodyPost_ret (results36_2 kr rfl rfl rfl) rfl ⟨S, L1, _, rfl, (ho.put k2 okSt hoth).mono (by omega), ⟨(Gr.refl S).mono (by omega) (by omega), fun _ => .inl rfl⟩, hB.trans hB3⟩

end Go.Proofs.YtnbgpopjnpdmgaaGreat
