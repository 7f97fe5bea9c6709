/-
  DERIVED. Recv2.
-/
import Derived.Test.YtnbgpopjnpdmgaaGreatPbe
set_option linter.unusedVariables false
set_option linter.unusedSimpArgs false

namespace Go.Proofs.YtnbgpopjnpdmgaaGreat
open Go Go.RowKit Go.Shelf

def St.take1 (S : St) (k : Nat) (t : Th) (x : W3 × Int × Int) : St := if x.2.2 = 1 then ((St.mod { S with word := x.1 } k (Th.rg x.2.1)).tell k t.kind 1 (S.value x.2.1)).mod k (Th.at 4) else if x.2.2 = 4 then S.mod k (Th.at 2) else S.ends k t x.2.2
def St.ragain1 (S : St) (k : Nat) (t : Th) (r : Int) : St := if r = 4 ∧ t.late = false then (S.mod k (Th.at 2)).mod k (Th.at 8) else S.mod k (Th.at 2)
def St.rcommit2 (S : St) (k : Nat) (t : Th) (x : List Int × Bool × Int) : St := if t.late then S else if x.2.1 then { S with el := x.1 }.mod k (fun t => (t.park 2).1) else { S with el := x.1 }
theorem new_ownP {base b gb pb : Nat} {S : St} {L : Lay} {k : Nat} {w W : World} (h : WalkAt base b gb pb S L k W) (hB : Below base w W) (o : Obj) : ∃ B, B = W.heap.size ∧ (W.alloc o).heap[B]? = some o ∧ WalkAt base b gb pb S L k (W.alloc o) ∧ Below base w (W.alloc o) ∧ b ≠ B ∧ base ≤ B ∧ pb ≠ B := by
  obtain ⟨B, h1, h2, h3, h4, h5, h6⟩ := new_own h.run hB o
  exact ⟨B, h1, h2, h.on (below_one W o), h4, h5, h6, by have := blk_lt h.cap; omega⟩
theorem WalkAt.aside {T2 : TypeId} {base b gb pb B : Nat} {S : St} {L : Lay} {k : Nat} {W W' : World} {cs : Array Value} {fr : Nat × Nat} (h : WalkAt base b gb pb S L k W) (hB : W.heap[B]? = some (.cells cs T2 fr)) (hT : okT T2) (hne : b ≠ B) (hnp : pb ≠ B) (hs : ∀ j, j ≠ B → W'.heap[j]? = W.heap[j]?) : WalkAt base b gb pb S L k W' :=
  ⟨h.run.aside hB hT hne hs, (hs pb hnp).trans h.cap⟩

set_option maxRecDepth 100000 in
set_option maxHeartbeats 4000000 in
theorem take_r (S : St) (L : Lay) (base b gb k : Nat) (w : World) (hR : RunAt 161 base b gb (S) L k w) (hsm : S.small) (t : Th) (ht : S.ths[k]? = some t) :
    Calls Tryz.prog 162 #[.pointer (some ⟨b, 0, none⟩)] w fun e w' => e = .returned (.tuple #[]) ∧ Ran 161 base b k ((S.take1 k t (S.word.tak S.slots.length))) w w' := by
  have E := fun W => word_take S.word S.slots.length W
  generalize S.word.tak S.slots.length = x at *
  obtain ⟨x1, x2, x3⟩ := x
  dsimp only at *
  generalize hM : S.take1 k t (x1, x2, x3) = M at *
  generalize hgot : S.value x2 = got at *
  have ht1 : (St.ths { S with word := x1 })[k]? = some t := ht
  have hsm4 : St.small (St.mod { S with word := x1 } k (Th.rg x2)) := mod_small (S := { S with word := x1 }) hsm
  have ht4 : (St.mod { S with word := x1 } k (Th.rg x2)).ths[k]? = some (Th.rg x2 t) := mod_get ht1 _
  go_enter Tryz.func162, Tryz.ntmps162
  go_wp2_with fail
  refine wp_region_tree (RunAt 161 base b gb S L k) (AnyW) 17 (by kernel_rfl)
    (.fork [(2, 0), (2, 1), (2, 2), (2, 3), (2, 5), (2, 6), (2, 7), (2, 8), (1, 4), (1, 9), (2, 10)] 11 (.leaf [(2, 12), (2, 13), (2, 14), (2, 15), (0, 16), (0, 17), (2, 18), (2, 19)]) 16 (.leaf [(0, 11), (2, 12), (2, 13), (2, 14), (2, 15), (0, 17), (2, 18), (2, 19)]))
    (by kernel_rfl) (by kernel_rfl) (by decide) (by kernel_rfl) (fun _ _ d _ _ h => by cases d <;> exact h) ?_
  have hB := (Below.refl base w).drew
  have hS := hR.drew
  have hle : base ≤ w.drew.heap.size := hR.base_le.2.2.2.2
  clear hR
  generalize w.drew = w0 at *
  refine tree_fork ?_
  simp only [inOrder2, List.getElem?_cons_succ, List.getElem?_cons_zero, List.nil_append, List.cons_append]
  iterate 8 (((with_reducible refine o3_calmF (v := ?_) (a' := ?_) hS ?_ (fun V => ?_) ?_ ?_); rotate_left 2; (rfl); (first | (go_simp; with_reducible rfl) | (go_simp; refine (if_pos ?_).trans ?_; omega; with_reducible rfl)); (simp only [Act.put, List.setIfInBounds_toArray, List.set_cons_succ, List.set_cons_zero] <;> rfl)))
  iterate 2 (((with_reducible refine o3_pre (v := ?_) (a' := ?_) hS ?_ (fun V hV => ?_) ?_ ?_); rotate_left 2; (rfl); (have c7 : V.cell? ⟨b, 7, none⟩ = some (.int .i64 S.word.head) := (hV.cell 7).1; have c8 : V.cell? ⟨b, 8, none⟩ = some (.int .i64 S.word.tail) := (hV.cell 8).1; have c9 : V.cell? ⟨b, 9, none⟩ = some (.int .i64 S.word.mode) := (hV.cell 9).1; have c10 : V.cell? ⟨b, 10, none⟩ = some (.slice L.a1 S.slots.length L.c1) := (hV.cell 10).1; first | (go_simp; with_reducible rfl) | (go_simp; refine (if_pos ?_).trans ?_; omega; with_reducible rfl)); (simp only [Act.put, List.setIfInBounds_toArray, List.set_cons_succ, List.set_cons_zero] <;> rfl)))
  ((with_reducible refine o3_calmF (v := ?_) (a' := ?_) hS ?_ (fun V => ?_) ?_ ?_); rotate_left 2; (rfl); (first | (go_simp; with_reducible rfl) | (go_simp; refine (if_pos ?_).trans ?_; omega; with_reducible rfl)); (simp only [Act.put, List.setIfInBounds_toArray, List.set_cons_succ, List.set_cons_zero] <;> rfl))
  refine tree_end _ ⟨?_, ?_⟩
  · refine o3_onlyF rfl rfl ?_
    go_simp
    refine ⟨trivial, rfl, (callsIn_wide.2 (E _)).mono ?_⟩
    rintro e w2 ⟨rfl, hb⟩
    have hle9 := hS.base_le.2.2.2.2
    replace hB := hB.trans (hb.mono hle9)
    replace hS := hS.on hb
    clear hb
    refine ⟨hS, ?_⟩
    refine tree_end _ ?_
    refine tree_leaf ?_
    simp only [inOrder2, List.getElem?_cons_succ, List.getElem?_cons_zero, List.nil_append, List.cons_append]
    iterate 4 (((with_reducible refine o3_calmF (v := ?_) (a' := ?_) hS ?_ (fun V => ?_) ?_ ?_); rotate_left 2; (rfl); (first | (go_simp; with_reducible rfl) | (go_simp; refine (if_pos ?_).trans ?_; omega; with_reducible rfl)); (simp only [Act.put, List.setIfInBounds_toArray, List.set_cons_succ, List.set_cons_zero] <;> rfl)))
    refine o3_onlyF rfl rfl ?_
    go_simp
    obtain ⟨B, hBe, kB, hS2, hB2, hne, hle2⟩ := new_own hS hB (.cells #[.int .i64 0, .int .i64 0, .int .i64 0] 28)
    replace hS := hS2
    replace hB := hB2
    clear hS2 hB2
    refine ⟨hS, ?_⟩
    rw [← hBe]
    clear hBe
    generalize w2.alloc (.cells #[.int .i64 0, .int .i64 0, .int .i64 0] 28) = wa at *
    obtain ⟨d0, g0⟩ := of_block kB 0
    obtain ⟨d1, g1⟩ := of_block kB 1
    obtain ⟨d2, g2⟩ := of_block kB 2
    refine o3_onlyS rfl rfl ?_
    go_simp
    refine ⟨trivial, ?_⟩
    clear d0 g0 d1 g1 d2 g2
    iterate 2 (((with_reducible refine o3_calmT (v := ?_) (a' := ?_) (any_ _) ?_ (fun V => ?_) ?_ ?_); rotate_left 2; (rfl); (first | (go_simp; with_reducible rfl) | (go_simp; refine (if_pos ?_).trans ?_; omega; with_reducible rfl)); (simp only [Act.put, List.setIfInBounds_toArray, List.set_cons_succ, List.set_cons_zero] <;> rfl)))
    refine tree_end _ ?_
    try simp only [Exit.then]
    replace hB := ((hB.setCell (p := ⟨B, 0, none⟩) hle2 (.int .i64 x1.head)).setCell (p := ⟨B, 1, none⟩) hle2 (.int .i64 x1.tail)).setCell (p := ⟨B, 2, none⟩) hle2 (.int .i64 x1.mode)
    have hR := hS.aside kB okWo hne (three_cells wa B 0 1 2 (.int .i64 x1.head) (.int .i64 x1.tail) (.int .i64 x1.mode))
    replace kB := put_cell (i := 2) (put_cell (i := 1) (put_cell (i := 0) kB (.int .i64 x1.head)) (.int .i64 x1.tail)) (.int .i64 x1.mode)
    clear hS
    generalize ((wa.setCell ⟨B, 0, none⟩ (.int .i64 x1.head)).setCell ⟨B, 1, none⟩ (.int .i64 x1.tail)).setCell ⟨B, 2, none⟩ (.int .i64 x1.mode) = wz at *
    by_cases h1 : x3 = 1
    · subst h1
      have e : M = ((St.mod { S with word := x1 } k (Th.rg x2)).tell k (Th.rg x2 t).kind 1 got).mod k (Th.at 4) := by rw [← hM, ← hgot]; rfl
      go_wp2_with (first
          | ((with_reducible refine wpList_val (loadBox hR ?_) ?_); (focus rfl))
          | (go_at_call 151; (with_reducible refine (value_any S L x2 _ hsm hR.ho.holds).mono ?_); rw [hgot]; rintro e w6 ⟨rfl, hb⟩; have hle := hR.base_le.2.2.2.2; replace hB := hB.trans (hb.mono hle); replace hR := hR.on hb; replace kB := kept kB hb; clear hb; obtain ⟨d0, g0⟩ := of_block kB 0; obtain ⟨d1, g1⟩ := of_block kB 1; obtain ⟨d2, g2⟩ := of_block kB 2; obtain ⟨b7, f7⟩ := hR.cell 7; obtain ⟨b8, f8⟩ := hR.cell 8; obtain ⟨b9, f9⟩ := hR.cell 9; replace hB := ((hB.setCell (p := ⟨b, 7, none⟩) (show base ≤ b from hR.le) (.int .i64 x1.head)).setCell (p := ⟨b, 8, none⟩) (show base ≤ b from hR.le) (.int .i64 x1.tail)).setCell (p := ⟨b, 9, none⟩) (show base ≤ b from hR.le) (.int .i64 x1.mode); replace hR := hR.putWord (x := x1))
          | (go_at_call 122; (with_reducible refine (me_r _ _ _ _ _ _ _ hR).mono ?_); rintro e w1 ⟨rfl, hw⟩; subst hw; replace hR := hR.drew; replace hB := hB.drew; obtain ⟨q5, p5⟩ := hR.field ht1 (j := 5) rfl; replace hB := hB.setCell (p := ⟨gb, k * 11 + 5, none⟩) (show base ≤ gb from hR.base_le.1) (.int .i64 x2); replace hR := hR.mod ht1 (Th.rg x2) 5 (.int .i64 x2) (by omega) rfl)
          | (go_at_call 183; refine (tell_r _ _ _ _ _ _ 1 got 4 _ hR hsm4 (Th.rg x2 t) ht4).mono ?_; rintro e w5 ⟨rfl, h5⟩; have hX := h5.trans hB))
      go_returns
      exact ⟨rfl, by rw [e]; exact hX⟩
    have h1' : (x3 == 1) = false := by simpa using h1
    by_cases h2 : x3 = 4
    · subst h2
      have e : M = S.mod k (Th.at 2) := hM.symm
      go_wp2_with (first
          | (go_at_call 155; (with_reducible refine (go_r _ _ _ _ _ _ _ _ hR).mono ?_); rintro e w5 ⟨rfl, h5, hb5⟩; have hX := h5.ran (hB.trans hb5)))
      go_returns
      exact ⟨rfl, by rw [e]; exact hX⟩
    · have h2' : (x3 == 4) = false := by simpa using h2
      have e : M = S.ends k t x3 := by rw [← hM]; simp [St.take1, h1, h2]
      go_wp2_with (first
          | (go_at_call 157; (with_reducible refine (ends_r _ _ _ _ _ _ _ _ hR hsm t ht).mono ?_); rintro e w5 ⟨rfl, h5⟩; have hX := h5.trans hB))
      go_returns
      exact ⟨rfl, by rw [e]; exact hX⟩
  · refine o3_onlyF rfl rfl ?_
    go_simp
    obtain ⟨B, hBe, kB, hS2, hB2, hne, hle2⟩ := new_own hS hB (.cells #[.int .i64 0, .int .i64 0, .int .i64 0] 28)
    replace hS := hS2
    replace hB := hB2
    clear hS2 hB2
    refine ⟨hS, ?_⟩
    rw [← hBe]
    clear hBe
    generalize w0.alloc (.cells #[.int .i64 0, .int .i64 0, .int .i64 0] 28) = wa at *
    refine tree_end _ ?_
    refine tree_leaf ?_
    simp only [inOrder2, List.getElem?_cons_succ, List.getElem?_cons_zero, List.nil_append, List.cons_append]
    refine o3_onlyF rfl rfl ?_
    go_simp
    refine ⟨trivial, rfl, (callsIn_wide.2 (E _)).mono ?_⟩
    rintro e w2 ⟨rfl, hb⟩
    have hle9 := hS.base_le.2.2.2.2
    replace hB := hB.trans (hb.mono hle9)
    replace kB := kept kB hb
    replace hS := hS.on hb
    clear hb
    refine ⟨hS, ?_⟩
    iterate 4 (((with_reducible refine o3_calmF (v := ?_) (a' := ?_) hS ?_ (fun V => ?_) ?_ ?_); rotate_left 2; (rfl); (first | (go_simp; with_reducible rfl) | (go_simp; refine (if_pos ?_).trans ?_; omega; with_reducible rfl)); (simp only [Act.put, List.setIfInBounds_toArray, List.set_cons_succ, List.set_cons_zero] <;> rfl)))
    obtain ⟨d0, g0⟩ := of_block kB 0
    obtain ⟨d1, g1⟩ := of_block kB 1
    obtain ⟨d2, g2⟩ := of_block kB 2
    refine o3_onlyS rfl rfl ?_
    go_simp
    refine ⟨trivial, ?_⟩
    clear d0 g0 d1 g1 d2 g2
    iterate 2 (((with_reducible refine o3_calmT (v := ?_) (a' := ?_) (any_ _) ?_ (fun V => ?_) ?_ ?_); rotate_left 2; (rfl); (first | (go_simp; with_reducible rfl) | (go_simp; refine (if_pos ?_).trans ?_; omega; with_reducible rfl)); (simp only [Act.put, List.setIfInBounds_toArray, List.set_cons_succ, List.set_cons_zero] <;> rfl)))
    refine tree_end _ ?_
    try simp only [Exit.then]
    replace hB := ((hB.setCell (p := ⟨B, 0, none⟩) hle2 (.int .i64 x1.head)).setCell (p := ⟨B, 1, none⟩) hle2 (.int .i64 x1.tail)).setCell (p := ⟨B, 2, none⟩) hle2 (.int .i64 x1.mode)
    have hR := hS.aside kB okWo hne (three_cells w2 B 0 1 2 (.int .i64 x1.head) (.int .i64 x1.tail) (.int .i64 x1.mode))
    replace kB := put_cell (i := 2) (put_cell (i := 1) (put_cell (i := 0) kB (.int .i64 x1.head)) (.int .i64 x1.tail)) (.int .i64 x1.mode)
    clear hS
    generalize ((w2.setCell ⟨B, 0, none⟩ (.int .i64 x1.head)).setCell ⟨B, 1, none⟩ (.int .i64 x1.tail)).setCell ⟨B, 2, none⟩ (.int .i64 x1.mode) = wz at *
    by_cases h1 : x3 = 1
    · subst h1
      have e : M = ((St.mod { S with word := x1 } k (Th.rg x2)).tell k (Th.rg x2 t).kind 1 got).mod k (Th.at 4) := by rw [← hM, ← hgot]; rfl
      go_wp2_with (first
          | ((with_reducible refine wpList_val (loadBox hR ?_) ?_); (focus rfl))
          | (go_at_call 151; (with_reducible refine (value_any S L x2 _ hsm hR.ho.holds).mono ?_); rw [hgot]; rintro e w6 ⟨rfl, hb⟩; have hle := hR.base_le.2.2.2.2; replace hB := hB.trans (hb.mono hle); replace hR := hR.on hb; replace kB := kept kB hb; clear hb; obtain ⟨d0, g0⟩ := of_block kB 0; obtain ⟨d1, g1⟩ := of_block kB 1; obtain ⟨d2, g2⟩ := of_block kB 2; obtain ⟨b7, f7⟩ := hR.cell 7; obtain ⟨b8, f8⟩ := hR.cell 8; obtain ⟨b9, f9⟩ := hR.cell 9; replace hB := ((hB.setCell (p := ⟨b, 7, none⟩) (show base ≤ b from hR.le) (.int .i64 x1.head)).setCell (p := ⟨b, 8, none⟩) (show base ≤ b from hR.le) (.int .i64 x1.tail)).setCell (p := ⟨b, 9, none⟩) (show base ≤ b from hR.le) (.int .i64 x1.mode); replace hR := hR.putWord (x := x1))
          | (go_at_call 122; (with_reducible refine (me_r _ _ _ _ _ _ _ hR).mono ?_); rintro e w1 ⟨rfl, hw⟩; subst hw; replace hR := hR.drew; replace hB := hB.drew; obtain ⟨q5, p5⟩ := hR.field ht1 (j := 5) rfl; replace hB := hB.setCell (p := ⟨gb, k * 11 + 5, none⟩) (show base ≤ gb from hR.base_le.1) (.int .i64 x2); replace hR := hR.mod ht1 (Th.rg x2) 5 (.int .i64 x2) (by omega) rfl)
          | (go_at_call 183; refine (tell_r _ _ _ _ _ _ 1 got 4 _ hR hsm4 (Th.rg x2 t) ht4).mono ?_; rintro e w5 ⟨rfl, h5⟩; have hX := h5.trans hB))
      go_returns
      exact ⟨rfl, by rw [e]; exact hX⟩
    have h1' : (x3 == 1) = false := by simpa using h1
    by_cases h2 : x3 = 4
    · subst h2
      have e : M = S.mod k (Th.at 2) := hM.symm
      go_wp2_with (first
          | (go_at_call 155; (with_reducible refine (go_r _ _ _ _ _ _ _ _ hR).mono ?_); rintro e w5 ⟨rfl, h5, hb5⟩; have hX := h5.ran (hB.trans hb5)))
      go_returns
      exact ⟨rfl, by rw [e]; exact hX⟩
    · have h2' : (x3 == 4) = false := by simpa using h2
      have e : M = S.ends k t x3 := by rw [← hM]; simp [St.take1, h1, h2]
      go_wp2_with (first
          | (go_at_call 157; (with_reducible refine (ends_r _ _ _ _ _ _ _ _ hR hsm t ht).mono ?_); rintro e w5 ⟨rfl, h5⟩; have hX := h5.trans hB))
      go_returns
      exact ⟨rfl, by rw [e]; exact hX⟩

set_option maxRecDepth 100000 in
set_option maxHeartbeats 4000000 in
theorem read_r (S : St) (L : Lay) (base b gb pb k : Nat) (w : World) (hP : WalkAt base b gb pb S L k w) (hsm : S.small) (t : Th) (ht : S.ths[k]? = some t) (hok : slotsOk S.slots = true) (hp : 0 ≤ t.reg) (hp2 : t.reg ≤ 1099511627776) :
    Calls Tryz.prog 163 #[.pointer (some ⟨pb, 0, none⟩)] w fun e w' => e = .returned (.tuple #[]) ∧ Ran 161 base b k ((St.mod { S.mod k (Th.gt (rdS S.slots t.reg).1) with slots := (relS S.slots t.reg).1 } k (Th.at 6))) w w' := by
  have E1 := fun (V : World) (hV : WalkAt base b gb pb S L k V) => slotRead_any S.slots t.reg L.a1 L.c1 V hok hp hV.run.ho.m1.lies
  have E2 := fun (V : World) (hV : WalkAt base b gb pb (S.mod k (Th.gt (rdS S.slots t.reg).1)) L k V) => slotRelease_any S.slots t.reg L.a1 L.c1 V hok hp hV.run.ho.m1.lies hp2
  have ht2 := mod_get ht (Th.gt (rdS S.slots t.reg).1)
  generalize rdS S.slots t.reg = y at *
  obtain ⟨v, er0⟩ := y
  generalize relS S.slots t.reg = x at *
  obtain ⟨x2, er⟩ := x
  dsimp only at *
  have c0 := hP.c0
  have hB := Below.refl base w
  go_enter Tryz.func163, Tryz.ntmps163
  go_wp2_with (first
      | (go_at_call 122; (with_reducible refine (me_r _ _ _ _ _ _ _ hP.run).mono ?_); rintro e w1 ⟨rfl, hw⟩; subst hw; replace hP := hP.drew; replace hB := hB.drew; have c0 := hP.c0))
  refine wp_region_ord3 (WalkAt base b gb pb S L k) (AnyW) 16 (by kernel_rfl)
    [(2, 0), (2, 6), (2, 7), (2, 8), (1, 1), (2, 2), (2, 3), (2, 4), (1, 5), (1, 9), (0, 10), (2, 11), (2, 12), (2, 13), (2, 14), (2, 15), (0, 16)]
    (by kernel_rfl) (by kernel_rfl) (by decide) (by kernel_rfl) (fun _ _ d _ _ h => by cases d <;> exact h) ?_
  simp only [inOrder2, List.getElem?_cons_succ, List.getElem?_cons_zero, List.nil_append, List.cons_append]
  have hS := hP.drew
  have hle : base ≤ w.drew.drew.heap.size := hP.run.base_le.2.2.2.2
  replace hB := hB.drew
  clear hP c0
  generalize w.drew.drew = w0 at *
  iterate 4 (((with_reducible refine o3_calmF (v := ?_) (a' := ?_) hS ?_ (fun V => ?_) ?_ ?_); rotate_left 2; (rfl); (first | (go_simp; with_reducible rfl) | (go_simp; refine (if_pos ?_).trans ?_; omega; with_reducible rfl)); (simp only [Act.put, List.setIfInBounds_toArray, List.set_cons_succ, List.set_cons_zero] <;> rfl)))
  ((with_reducible refine o3_pre (v := ?_) (a' := ?_) hS ?_ (fun V hV => ?_) ?_ ?_); rotate_left 2; (rfl); (have c0 := hV.c0; replace hV := hV.run; have c10 : V.cell? ⟨b, 10, none⟩ = some (.slice L.a1 S.slots.length L.c1) := (hV.cell 10).1; have f5 := (hV.field ht (j := 5) rfl).1; first | (go_simp; with_reducible rfl) | (go_simp; refine (if_pos ?_).trans ?_; omega; with_reducible rfl)); (simp only [Act.put, List.setIfInBounds_toArray, List.set_cons_succ, List.set_cons_zero] <;> rfl))
  iterate 3 (((with_reducible refine o3_calmF (v := ?_) (a' := ?_) hS ?_ (fun V => ?_) ?_ ?_); rotate_left 2; (rfl); (first | (go_simp; with_reducible rfl) | (go_simp; refine (if_pos ?_).trans ?_; omega; with_reducible rfl)); (simp only [Act.put, List.setIfInBounds_toArray, List.set_cons_succ, List.set_cons_zero] <;> rfl)))
  iterate 2 (((with_reducible refine o3_pre (v := ?_) (a' := ?_) hS ?_ (fun V hV => ?_) ?_ ?_); rotate_left 2; (rfl); (have c0 := hV.c0; replace hV := hV.run; have c10 : V.cell? ⟨b, 10, none⟩ = some (.slice L.a1 S.slots.length L.c1) := (hV.cell 10).1; have f5 := (hV.field ht (j := 5) rfl).1; first | (go_simp; with_reducible rfl) | (go_simp; refine (if_pos ?_).trans ?_; omega; with_reducible rfl)); (simp only [Act.put, List.setIfInBounds_toArray, List.set_cons_succ, List.set_cons_zero] <;> rfl)))
  refine o3_onlyF rfl rfl ?_
  go_simp
  refine ⟨trivial, rfl, (callsIn_wide.2 (E1 _ hS)).mono ?_⟩
  rintro e w2 ⟨rfl, hb⟩
  replace hB := hB.trans (hb.mono hle)
  replace hS := hS.on hb
  refine ⟨hS, ?_⟩
  iterate 5 (((with_reducible refine o3_calmF (v := ?_) (a' := ?_) hS ?_ (fun V => ?_) ?_ ?_); rotate_left 2; (rfl); (first | (go_simp; with_reducible rfl) | (go_simp; refine (if_pos ?_).trans ?_; omega; with_reducible rfl)); (simp only [Act.put, List.setIfInBounds_toArray, List.set_cons_succ, List.set_cons_zero] <;> rfl)))
  obtain ⟨q10, p10⟩ := hS.run.field ht (j := 10) rfl
  refine o3_onlyS rfl rfl ?_
  go_simp
  refine ⟨trivial, ?_⟩
  refine o3_end _ ?_
  try simp only [Exit.then]
  replace hB := hB.setCell (p := ⟨gb, k * 11 + 10, none⟩) (show base ≤ gb from hS.run.base_le.1) (.int .i64 v)
  have hP : WalkAt base b gb pb (S.mod k (Th.gt v)) L k (w2.setCell ⟨gb, k * 11 + 10, none⟩ (.int .i64 v)) := ⟨hS.run.mod ht (Th.gt v) 10 (.int .i64 v) (by omega) rfl, hS.putg⟩
  clear hS q10 p10 hb
  have hS := hP
  clear hP
  generalize w2.setCell ⟨gb, k * 11 + 10, none⟩ (.int .i64 v) = wz at *
  go_wp2_with fail
  refine wp_region_ord3 (WalkAt base b gb pb (S.mod k (Th.gt v)) L k) (AnyW) 17 (by kernel_rfl)
    [(2, 6), (2, 7), (2, 8), (1, 0), (1, 1), (2, 2), (2, 3), (2, 4), (1, 5), (1, 9), (0, 10), (2, 11), (2, 12), (2, 13), (2, 14), (2, 15), (2, 16), (0, 17)]
    (by kernel_rfl) (by kernel_rfl) (by decide) (by kernel_rfl) (fun _ _ d _ _ h => by cases d <;> exact h) ?_
  simp only [inOrder2, List.getElem?_cons_succ, List.getElem?_cons_zero, List.nil_append, List.cons_append]
  replace hS := hS.drew
  replace hB := hB.drew
  have hle2 : base ≤ wz.drew.heap.size := hS.run.base_le.2.2.2.2
  generalize wz.drew = w4 at *
  iterate 3 (((with_reducible refine o3_calmF (v := ?_) (a' := ?_) hS ?_ (fun V => ?_) ?_ ?_); rotate_left 2; (rfl); (first | (go_simp; with_reducible rfl) | (go_simp; refine (if_pos ?_).trans ?_; omega; with_reducible rfl)); (simp only [Act.put, List.setIfInBounds_toArray, List.set_cons_succ, List.set_cons_zero] <;> rfl)))
  iterate 2 (((with_reducible refine o3_pre (v := ?_) (a' := ?_) hS ?_ (fun V hV => ?_) ?_ ?_); rotate_left 2; (rfl); (have c0 := hV.c0; replace hV := hV.run; have c10 : V.cell? ⟨b, 10, none⟩ = some (.slice L.a1 S.slots.length L.c1) := (hV.cell 10).1; have f5 : V.cell? ⟨gb, k * 11 + 5, none⟩ = some (.int .i64 t.reg) := (hV.field ht2 (j := 5) rfl).1; first | (go_simp; with_reducible rfl) | (go_simp; refine (if_pos ?_).trans ?_; omega; with_reducible rfl)); (simp only [Act.put, List.setIfInBounds_toArray, List.set_cons_succ, List.set_cons_zero] <;> rfl)))
  iterate 3 (((with_reducible refine o3_calmF (v := ?_) (a' := ?_) hS ?_ (fun V => ?_) ?_ ?_); rotate_left 2; (rfl); (first | (go_simp; with_reducible rfl) | (go_simp; refine (if_pos ?_).trans ?_; omega; with_reducible rfl)); (simp only [Act.put, List.setIfInBounds_toArray, List.set_cons_succ, List.set_cons_zero] <;> rfl)))
  iterate 2 (((with_reducible refine o3_pre (v := ?_) (a' := ?_) hS ?_ (fun V hV => ?_) ?_ ?_); rotate_left 2; (rfl); (have c0 := hV.c0; replace hV := hV.run; have c10 : V.cell? ⟨b, 10, none⟩ = some (.slice L.a1 S.slots.length L.c1) := (hV.cell 10).1; have f5 : V.cell? ⟨gb, k * 11 + 5, none⟩ = some (.int .i64 t.reg) := (hV.field ht2 (j := 5) rfl).1; first | (go_simp; with_reducible rfl) | (go_simp; refine (if_pos ?_).trans ?_; omega; with_reducible rfl)); (simp only [Act.put, List.setIfInBounds_toArray, List.set_cons_succ, List.set_cons_zero] <;> rfl)))
  refine o3_onlyF rfl rfl ?_
  go_simp
  refine ⟨trivial, rfl, (callsIn_wide.2 (E2 _ hS)).mono ?_⟩
  rintro e w3 ⟨A1, c1, rfl, hm, hb⟩
  replace hB := hB.trans (hb.mono hle2)
  replace hS := hS.on hb
  refine ⟨hS, ?_⟩
  iterate 6 (((with_reducible refine o3_calmF (v := ?_) (a' := ?_) hS ?_ (fun V => ?_) ?_ ?_); rotate_left 2; (rfl); (first | (go_simp; with_reducible rfl) | (go_simp; refine (if_pos ?_).trans ?_; omega; with_reducible rfl)); (simp only [Act.put, List.setIfInBounds_toArray, List.set_cons_succ, List.set_cons_zero] <;> rfl)))
  obtain ⟨b10, f10⟩ := hS.run.cell 10
  refine o3_onlyS rfl rfl ?_
  go_simp
  refine ⟨trivial, ?_⟩
  refine o3_end _ ?_
  try simp only [Exit.then]
  replace hB := hB.setCell (p := ⟨b, 10, none⟩) (show base ≤ b from hS.run.le) (.slice A1 x2.length c1)
  have hR := hS.run.putSlots (hm.mono hle2)
  have kP := hS.put (i := 10) (v := .slice A1 x2.length c1)
  have c0 := cellOf kP
  clear hS hb b10 f10
  go_wp2_with (first
      | (go_at_call 155; (with_reducible refine (go_r _ _ _ _ _ _ _ _ hR).mono ?_); rintro e w5 ⟨rfl, h5, hb5⟩; have hX := h5.ran (hB.trans hb5)))
  go_returns
  exact ⟨rfl, hX⟩

set_option maxRecDepth 100000 in
set_option maxHeartbeats 4000000 in
theorem notify_r (S : St) (L : Lay) (base b gb pb k : Nat) (w : World) (hP : WalkAt base b gb pb S L k w) (hsm : S.small) :
    Calls Tryz.prog 166 #[.pointer (some ⟨pb, 0, none⟩)] w fun e w' => e = .returned (.tuple #[]) ∧ Ran 161 base b k (((if (ntfE S.fe S.fl).2 then { S with fe := (comeE all1 S.fe S.fl).1, fl := (comeE all1 S.fe S.fl).2.1 }.wakeAt (ntfE S.fe S.fl).1 else { S with fe := (comeE all1 S.fe S.fl).1, fl := (comeE all1 S.fe S.fl).2.1 }).mod k (Th.at 9))) w w' := by
  have hR := hP.run
  have c0 := hP.c0
  have E := notify_any S.fe S.fl L.a4 L.c4 w hsm.2.2.2.1 hR.ho.m4.lies
  have hdl : (comeE all1 S.fe S.fl).2.1.length ≤ 1000 := Nat.le_trans (come_len ..).1 hsm.2.2.2.1
  have c13 : w.cell? ⟨b, 13, none⟩ = some (.int .i64 S.fe) := (hR.cell 13).1; have c14 : w.cell? ⟨b, 14, none⟩ = some (.slice L.a4 S.fl.length L.c4) := (hR.cell 14).1
  clear hR
  have hB := Below.refl base w
  generalize comeE all1 S.fe S.fl = x at *
  generalize ntfE S.fe S.fl = y at *
  obtain ⟨x1, x2, x3⟩ := x
  obtain ⟨y1, y2⟩ := y
  dsimp only at *
  have hsm3 : St.small { S with fe := x1, fl := x2 } := ⟨hsm.1, hsm.2.1, hsm.2.2.1, hdl, hsm.2.2.2.2⟩
  generalize hM : (if y2 then { S with fe := x1, fl := x2 }.wakeAt y1 else { S with fe := x1, fl := x2 }).mod k (Th.at 9) = M at *
  generalize hS4 : { S with fe := x1, fl := x2 }.wakeAt y1 = S4 at *
  have hn4 : S4.ths.length = S.ths.length := by rw [← hS4]; exact wake_len ..
  go_enter Tryz.func166, Tryz.ntmps166
  cases y2
  · have e : M = { S with fe := x1, fl := x2 }.mod k (Th.at 9) := hM.symm
    go_wp2_with (first
        | (go_at_call 148; (with_reducible refine (E).mono ?_); rintro e w2 ⟨A1, c1, rfl, hm, hb⟩; have hle := hP.run.base_le.2.2.2.2; replace hB := hB.trans (hb.mono hle); replace hm := hm.mono hle; replace hP := hP.on hb; obtain ⟨B, hBe, kB, hP2, hB2, hne, hle2, hnp⟩ := new_ownP hP hB (.cells #[.int .i64 x1, .slice A1 x2.length c1] 32); subst hBe; have hm2 := hm.alloc (.cells #[.int .i64 x1, .slice A1 x2.length c1] 32); obtain ⟨d0, g0⟩ := of_block kB 0; obtain ⟨d1, g1⟩ := of_block kB 1; replace c0 := hP2.c0; obtain ⟨b13, f13⟩ := hP2.run.cell 13; obtain ⟨b14, f14⟩ := hP2.run.cell 14; have hR3 := hP2.run.putFull (ep := x1) hm2; have kP := (two_cells (w2.alloc (.cells #[.int .i64 x1, .slice A1 x2.length c1] 32)) b 13 14 (.int .i64 x1) (.slice A1 x2.length c1) pb hP2.nb).trans hP2.cap; have c03 := cellOf kP; have hB3 := (hB2.setCell (p := ⟨b, 13, none⟩) (show base ≤ b from hP.run.le) (.int .i64 x1)).setCell (p := ⟨b, 14, none⟩) (show base ≤ b from hP.run.le) (.slice A1 x2.length c1); clear hP hB hm hm2 hB2 hP2)
        | (go_at_call 155; (with_reducible refine (go_r _ _ _ _ _ _ _ _ hR3).mono ?_); rintro e w5 ⟨rfl, h5, hb5⟩; have hX := h5.ran (hB3.trans hb5)))
    go_returns
    exact ⟨rfl, by rw [e]; exact hX⟩
  · have e : M = S4.mod k (Th.at 9) := hM.symm
    go_wp2_with (first
        | (go_at_call 148; (with_reducible refine (E).mono ?_); rintro e w2 ⟨A1, c1, rfl, hm, hb⟩; have hle := hP.run.base_le.2.2.2.2; replace hB := hB.trans (hb.mono hle); replace hm := hm.mono hle; replace hP := hP.on hb; obtain ⟨B, hBe, kB, hP2, hB2, hne, hle2, hnp⟩ := new_ownP hP hB (.cells #[.int .i64 x1, .slice A1 x2.length c1] 32); subst hBe; have hm2 := hm.alloc (.cells #[.int .i64 x1, .slice A1 x2.length c1] 32); obtain ⟨d0, g0⟩ := of_block kB 0; obtain ⟨d1, g1⟩ := of_block kB 1; replace c0 := hP2.c0; obtain ⟨b13, f13⟩ := hP2.run.cell 13; obtain ⟨b14, f14⟩ := hP2.run.cell 14; have hR3 := hP2.run.putFull (ep := x1) hm2; have kP := (two_cells (w2.alloc (.cells #[.int .i64 x1, .slice A1 x2.length c1] 32)) b 13 14 (.int .i64 x1) (.slice A1 x2.length c1) pb hP2.nb).trans hP2.cap; have c03 := cellOf kP; have hB3 := (hB2.setCell (p := ⟨b, 13, none⟩) (show base ≤ b from hP.run.le) (.int .i64 x1)).setCell (p := ⟨b, 14, none⟩) (show base ≤ b from hP.run.le) (.slice A1 x2.length c1); clear hP hB hm hm2 hB2 hP2))
    have hS : WalkAt base b gb pb { S with fe := x1, fl := x2 } { L with a4 := A1, c4 := c1 } k (((w2.alloc (.cells #[.int .i64 x1, .slice A1 x2.length c1] 32)).setCell ⟨b, 13, none⟩ (.int .i64 x1)).setCell ⟨b, 14, none⟩ (.slice A1 x2.length c1)) := ⟨hR3, kP⟩
    have hB := hB3
    clear c0 c03 kP hR3 hB3 kB d0 g0 d1 g1 b13 f13 b14 f14 hM E
    have hn3 : St.ths { S with fe := x1, fl := x2 } = S.ths := rfl
    generalize { S with fe := x1, fl := x2 } = S3 at *
    generalize ({ L with a4 := A1, c4 := c1 } : Lay) = L3 at *
    generalize ((w2.alloc (.cells #[.int .i64 x1, .slice A1 x2.length c1] 32)).setCell ⟨b, 13, none⟩ (.int .i64 x1)).setCell ⟨b, 14, none⟩ (.slice A1 x2.length c1) = wq at *
    refine wp_region_ord3 (WalkAt base b gb pb S3 L3 k) (AnyW) 9 (by kernel_rfl)
      [(2, 5), (1, 0), (1, 1), (2, 2), (2, 3), (1, 4), (0, 6), (2, 7), (2, 8), (0, 9)]
      (by kernel_rfl) (by kernel_rfl) (by decide) (by kernel_rfl) (fun _ _ d _ _ h => by cases d <;> exact h) ?_
    simp only [inOrder2, List.getElem?_cons_succ, List.getElem?_cons_zero, List.nil_append, List.cons_append]
    replace hS := hS.drew
    replace hB := hB.drew
    generalize wq.drew = w0 at *
    ((with_reducible refine o3_calmF (v := ?_) (a' := ?_) hS ?_ (fun V => ?_) ?_ ?_); rotate_left 2; (rfl); (first | (go_simp; with_reducible rfl) | (go_simp; refine (if_pos ?_).trans ?_; omega; with_reducible rfl)); (simp only [Act.put, List.setIfInBounds_toArray, List.set_cons_succ, List.set_cons_zero] <;> rfl))
    iterate 2 (((with_reducible refine o3_pre (v := ?_) (a' := ?_) hS ?_ (fun V hV => ?_) ?_ ?_); rotate_left 2; (rfl); (have c0 := hV.c0; replace hV := hV.run; skip; first | (go_simp; with_reducible rfl) | (go_simp; refine (if_pos ?_).trans ?_; omega; with_reducible rfl)); (simp only [Act.put, List.setIfInBounds_toArray, List.set_cons_succ, List.set_cons_zero] <;> rfl)))
    iterate 2 (((with_reducible refine o3_calmF (v := ?_) (a' := ?_) hS ?_ (fun V => ?_) ?_ ?_); rotate_left 2; (rfl); (first | (go_simp; with_reducible rfl) | (go_simp; refine (if_pos ?_).trans ?_; omega; with_reducible rfl)); (simp only [Act.put, List.setIfInBounds_toArray, List.set_cons_succ, List.set_cons_zero] <;> rfl)))
    ((with_reducible refine o3_pre (v := .agg (S3.cells L3)) (a' := ?_) hS ?_ (fun V hV => ?_) ?_ ?_); rotate_left; (focus rfl); (focus (exact loadBox hV.run rfl)); (focus (simp only [Act.put, List.setIfInBounds_toArray, List.set_cons_succ, List.set_cons_zero] <;> rfl)))
    refine o3_onlyF rfl rfl ?_
    go_simp
    refine ⟨trivial, rfl, (callsIn_wide.2 (wake_any S3 L3 y1 _ hsm3 hS.run.ho.holds)).mono ?_⟩
    rw [hS4]
    rintro e w7 ⟨L4, rfl, ho4, hb4⟩
    have hle4 := hS.run.base_le.2.2.2.2
    replace hS := hS.on hb4
    replace hB := hB.trans (hb4.mono hle4)
    refine ⟨hS, ?_⟩
    iterate 2 (((with_reducible refine o3_calmF (v := ?_) (a' := ?_) hS ?_ (fun V => ?_) ?_ ?_); rotate_left 2; (rfl); (first | (go_simp; with_reducible rfl) | (go_simp; refine (if_pos ?_).trans ?_; omega; with_reducible rfl)); (simp only [Act.put, List.setIfInBounds_toArray, List.set_cons_succ, List.set_cons_zero] <;> rfl)))
    obtain ⟨V, hst, hbV, hBV, hoth⟩ := run_store_state (S' := S4) (L' := L4) hS.run.hb hS.run.le
    refine o3_skipS rfl rfl (store36 hst rfl rfl rfl) rfl trivial ?_
    refine o3_end _ ?_
    try simp only [Exit.then]
    have kP := (hoth pb hS.nb).trans hS.cap
    have c0 := cellOf kP
    obtain ⟨gb4, hR⟩ := hS.run.state hbV hoth ho4 hle4 (by rw [hn3]; exact hn4)
    replace hB := hB.trans hBV
    clear hS hst hoth ho4 hbV
    go_wp2_with (first
        | (go_at_call 155; (with_reducible refine (go_r _ _ _ _ _ _ _ _ hR).mono ?_); rintro e w5 ⟨rfl, h5, hb5⟩; have hX := h5.ran (hB.trans hb5)))
    go_returns
    exact ⟨rfl, by rw [e]; exact hX⟩

set_option maxRecDepth 100000 in
set_option maxHeartbeats 4000000 in
theorem again_r (S : St) (L : Lay) (base b gb pb k : Nat) (w : World) (hP : WalkAt base b gb pb S L k w) (hsm : S.small) (t : Th) (ht : S.ths[k]? = some t) :
    Calls Tryz.prog 167 #[.pointer (some ⟨pb, 0, none⟩)] w fun e w' => e = .returned (.tuple #[]) ∧ Ran 161 base b k ((S.ragain1 k t (S.word.tak S.slots.length).2.2)) w w' := by
  have c0 := hP.c0
  have hB := Below.refl base w
  have ht2 := mod_get ht (Th.at 2)
  have Z : ∀ W, RunAt 161 base b gb (S.mod k (Th.at 2)) L k W → Calls Tryz.prog 160 #[.pointer (some ⟨b, 0, none⟩)] W fun e w' => e = .returned (.int .i64 (S.word.tak S.slots.length).2.2) ∧ Below W.heap.size W w' := fun W h => sees_r (S.mod k (Th.at 2)) L base b gb k W h
  generalize (S.word.tak S.slots.length).2.2 = r at *
  generalize hM : S.ragain1 k t r = M at *
  go_enter Tryz.func167, Tryz.ntmps167
  by_cases h2 : r = 4
  · subst h2
    cases hl : t.late
    · have e : M = (S.mod k (Th.at 2)).mod k (Th.at 8) := by rw [← hM]; simp [St.ragain1, hl]
      go_wp2_with (first
          | (go_at_call 155; (with_reducible refine (go2_r _ _ _ _ _ _ _ _ _ hP).mono ?_); rintro e w5 ⟨rfl, hP2, hb5⟩; replace hB := hB.trans hb5; clear c0; have c0 := hP2.c0; have hR := hP2.run; have kP := hP2.cap; clear hP2)
          | (go_at_call 160; (with_reducible refine (Z _ hR).mono ?_); rintro e w6 ⟨rfl, hb⟩; have hle := hR.base_le.2.2.2.2; replace hB := hB.trans (hb.mono hle); replace hR := hR.on hb; replace kP := kept kP hb; clear hb; replace c0 := cellOf kP)
          | (go_at_call 122; (with_reducible refine (me_r _ _ _ _ _ _ _ hR).mono ?_); rintro e w1 ⟨rfl, hw⟩; subst hw; replace hR := hR.drew; replace hB := hB.drew; replace kP := capd kP; replace c0 := cellOf kP; have f8 : w6.drew.cell? ⟨gb, k * 11 + 8, none⟩ = some (.bool t.late) := (hR.field ht2 (j := 8) rfl).1; rw [hl] at f8)
          | (go_at_call 155; (with_reducible refine (go_r _ _ _ _ _ _ _ _ hR).mono ?_); rintro e w5 ⟨rfl, h5, hb5⟩; have hX := h5.ran (hB.trans hb5)))
      go_returns
      exact ⟨rfl, by rw [e]; exact hX⟩
    · have e : M = S.mod k (Th.at 2) := by rw [← hM]; simp [St.ragain1, hl]
      go_wp2_with (first
          | (go_at_call 155; (with_reducible refine (go2_r _ _ _ _ _ _ _ _ _ hP).mono ?_); rintro e w5 ⟨rfl, hP2, hb5⟩; replace hB := hB.trans hb5; clear c0; have c0 := hP2.c0; have hR := hP2.run; have kP := hP2.cap; clear hP2)
          | (go_at_call 160; (with_reducible refine (Z _ hR).mono ?_); rintro e w6 ⟨rfl, hb⟩; have hle := hR.base_le.2.2.2.2; replace hB := hB.trans (hb.mono hle); replace hR := hR.on hb; replace kP := kept kP hb; clear hb; replace c0 := cellOf kP)
          | (go_at_call 122; (with_reducible refine (me_r _ _ _ _ _ _ _ hR).mono ?_); rintro e w1 ⟨rfl, hw⟩; subst hw; replace hR := hR.drew; replace hB := hB.drew; replace kP := capd kP; replace c0 := cellOf kP; have f8 : w6.drew.cell? ⟨gb, k * 11 + 8, none⟩ = some (.bool t.late) := (hR.field ht2 (j := 8) rfl).1; rw [hl] at f8))
      have hX := hR.ran hB
      go_returns
      exact ⟨rfl, by rw [e]; exact hX⟩
  · have h2' : (r == 4) = false := by simpa using h2
    have e : M = S.mod k (Th.at 2) := by rw [← hM]; simp [St.ragain1, h2]
    go_wp2_with (first
        | (go_at_call 155; (with_reducible refine (go2_r _ _ _ _ _ _ _ _ _ hP).mono ?_); rintro e w5 ⟨rfl, hP2, hb5⟩; replace hB := hB.trans hb5; clear c0; have c0 := hP2.c0; have hR := hP2.run; have kP := hP2.cap; clear hP2)
        | (go_at_call 160; (with_reducible refine (Z _ hR).mono ?_); rintro e w6 ⟨rfl, hb⟩; have hle := hR.base_le.2.2.2.2; replace hB := hB.trans (hb.mono hle); replace hR := hR.on hb; replace kP := kept kP hb; clear hb; replace c0 := cellOf kP))
    have hX := hR.ran hB
    go_returns
    exact ⟨rfl, by rw [e]; exact hX⟩

set_option maxRecDepth 100000 in
set_option maxHeartbeats 2000000 in
theorem commit_core_r (S : St) (L : Lay) (base b gb pb k : Nat) (t : Th) (w : World) (c0 : w.cell? ⟨pb, 0, none⟩ = some (.pointer (some ⟨b, 0, none⟩))) (hsm : S.small) (ht : S.ths[k]? = some t) (G : Calls Tryz.prog 155 #[.pointer (some ⟨b, 0, none⟩), .int .i64 2] w fun e w' => e = .returned (.tuple #[]) ∧ WalkAt base b gb pb S L k w' ∧ Below base w w') :
    Calls Tryz.prog 168 #[.pointer (some ⟨pb, 0, none⟩)] w fun e w' => e = .returned (.tuple #[]) ∧ Ran 161 base b k ((S.rcommit2 k t (cmtE S.ee S.el t.seen k))) w w' := by
  have E := fun (V : World) (hV : WalkAt base b gb pb S L k V) => commit_any S.ee t.seen k S.el L.a5 L.c5 V (wide hsm.2.2.2.2.1) hV.run.ho.m5.lies
  have PP := fun W => th_park t 2 W
  have hm0 := fun l => mod_set (S := { S with el := l }) ht (fun t => (t.park 2).1)
  generalize cmtE S.ee S.el t.seen k = x at *
  obtain ⟨x2, y1, y2⟩ := x
  dsimp only at *
  generalize hM : St.rcommit2 S k t (x2, y1, y2) = M at *
  go_enter Tryz.func168, Tryz.ntmps168
  cases hl : t.late with
  | true =>
    have e : M = S := by rw [← hM]; simp [St.rcommit2, hl]
    go_wp2_with (first
        | (go_at_call 155; (with_reducible refine (G).mono ?_); rintro e w5 ⟨rfl, hP, hB⟩; have c0 := hP.c0)
        | (go_at_call 122; (with_reducible refine (me_r _ _ _ _ _ _ _ hP.run).mono ?_); rintro e w1 ⟨rfl, hw⟩; subst hw; replace hP := hP.drew; replace hB := hB.drew; clear c0; have c0 := hP.c0; have f8 := (hP.run.field ht (j := 8) rfl).1; rw [hl] at f8))
    have hX := hP.run.ran hB
    go_returns
    exact ⟨rfl, by rw [e]; exact hX⟩
  | false =>
    replace hM : (if y1 then { S with el := x2 }.mod k (fun t => (t.park 2).1) else { S with el := x2 }) = M := by rw [← hM]; simp [St.rcommit2, hl]
    replace hm0 := hm0 x2
    generalize t.park 2 = r0 at *
    obtain ⟨r1, r2⟩ := r0
    have ht5 : (St.ths { S with el := x2 })[k]? = some t := ht
    go_wp2_with (first
        | (go_at_call 155; (with_reducible refine (G).mono ?_); rintro e w5 ⟨rfl, hP, hB⟩; have c0 := hP.c0)
        | (go_at_call 122; (with_reducible refine (me_r _ _ _ _ _ _ _ hP.run).mono ?_); rintro e w1 ⟨rfl, hw⟩; subst hw; replace hP := hP.drew; replace hB := hB.drew; clear c0; have c0 := hP.c0; have f8 := (hP.run.field ht (j := 8) rfl).1; rw [hl] at f8))
    refine wp_region_tree (WalkAt base b gb pb S L k) (AnyW) 20 (by kernel_rfl)
      (.fork [(1, 0), (2, 1), (2, 2), (2, 3), (1, 4), (1, 5), (1, 10), (2, 11), (2, 12), (1, 13)] 6 (.fork [(2, 7), (2, 8), (1, 9)] 14 (.leaf [(2, 15), (2, 16), (2, 17), (2, 18), (0, 19), (0, 20), (2, 21), (2, 22)]) 19 (.leaf [(0, 14), (2, 15), (2, 16), (2, 17), (2, 18), (0, 20), (2, 21), (2, 22)])) 19 (.leaf [(0, 6), (2, 7), (2, 8), (1, 9), (0, 14), (2, 15), (2, 16), (2, 17), (2, 18), (0, 20), (2, 21), (2, 22)]))
      (by kernel_rfl) (by kernel_rfl) (by decide) (by kernel_rfl) (fun _ _ d _ _ h => by cases d <;> exact h) ?_
    have hS := hP.drew
    replace hB := hB.drew
    clear hP c0 f8
    generalize w5.drew.drew = w0 at *
    refine tree_fork ?_
    simp only [inOrder2, List.getElem?_cons_succ, List.getElem?_cons_zero, List.nil_append, List.cons_append]
    ((with_reducible refine o3_pre (v := ?_) (a' := ?_) hS ?_ (fun V hV => ?_) ?_ ?_); rotate_left 2; (rfl); (have c0 := hV.c0; replace hV := hV.run; have c15 : V.cell? ⟨b, 15, none⟩ = some (.int .i64 S.ee) := (hV.cell 15).1; have c16 : V.cell? ⟨b, 16, none⟩ = some (.slice L.a5 S.el.length L.c5) := (hV.cell 16).1; have c20 : V.cell? ⟨b, 20, none⟩ = some (.int .i64 k) := (hV.cell 20).1; have q6 := (hV.field ht (j := 6) rfl).1; first | (go_simp; with_reducible rfl) | (go_simp; refine (if_pos ?_).trans ?_; omega; with_reducible rfl)); (simp only [Act.put, List.setIfInBounds_toArray, List.set_cons_succ, List.set_cons_zero] <;> rfl))
    iterate 3 (((with_reducible refine o3_calmF (v := ?_) (a' := ?_) hS ?_ (fun V => ?_) ?_ ?_); rotate_left 2; (rfl); (first | (go_simp; with_reducible rfl) | (go_simp; refine (if_pos ?_).trans ?_; omega; with_reducible rfl)); (simp only [Act.put, List.setIfInBounds_toArray, List.set_cons_succ, List.set_cons_zero] <;> rfl)))
    iterate 3 (((with_reducible refine o3_pre (v := ?_) (a' := ?_) hS ?_ (fun V hV => ?_) ?_ ?_); rotate_left 2; (rfl); (have c0 := hV.c0; replace hV := hV.run; have c15 : V.cell? ⟨b, 15, none⟩ = some (.int .i64 S.ee) := (hV.cell 15).1; have c16 : V.cell? ⟨b, 16, none⟩ = some (.slice L.a5 S.el.length L.c5) := (hV.cell 16).1; have c20 : V.cell? ⟨b, 20, none⟩ = some (.int .i64 k) := (hV.cell 20).1; have q6 := (hV.field ht (j := 6) rfl).1; first | (go_simp; with_reducible rfl) | (go_simp; refine (if_pos ?_).trans ?_; omega; with_reducible rfl)); (simp only [Act.put, List.setIfInBounds_toArray, List.set_cons_succ, List.set_cons_zero] <;> rfl)))
    iterate 2 (((with_reducible refine o3_calmF (v := ?_) (a' := ?_) hS ?_ (fun V => ?_) ?_ ?_); rotate_left 2; (rfl); (first | (go_simp; with_reducible rfl) | (go_simp; refine (if_pos ?_).trans ?_; omega; with_reducible rfl)); (simp only [Act.put, List.setIfInBounds_toArray, List.set_cons_succ, List.set_cons_zero] <;> rfl)))
    ((with_reducible refine o3_pre (v := ?_) (a' := ?_) hS ?_ (fun V hV => ?_) ?_ ?_); rotate_left 2; (rfl); (have c0 := hV.c0; replace hV := hV.run; have c15 : V.cell? ⟨b, 15, none⟩ = some (.int .i64 S.ee) := (hV.cell 15).1; have c16 : V.cell? ⟨b, 16, none⟩ = some (.slice L.a5 S.el.length L.c5) := (hV.cell 16).1; have c20 : V.cell? ⟨b, 20, none⟩ = some (.int .i64 k) := (hV.cell 20).1; have q6 := (hV.field ht (j := 6) rfl).1; first | (go_simp; with_reducible rfl) | (go_simp; refine (if_pos ?_).trans ?_; omega; with_reducible rfl)); (simp only [Act.put, List.setIfInBounds_toArray, List.set_cons_succ, List.set_cons_zero] <;> rfl))
    refine tree_end _ ⟨?_, ?_⟩
    · refine o3_onlyF rfl rfl ?_
      go_simp
      refine ⟨trivial, rfl, (callsIn_wide.2 (me_r _ _ _ _ _ _ _ hS.run)).mono ?_⟩
      rintro e w1 ⟨rfl, hw⟩
      subst hw
      replace hS := hS.drew
      replace hB := hB.drew
      generalize w0.drew = wd at *
      refine ⟨hS, ?_⟩
      refine tree_end _ ?_
      refine tree_fork ?_
      simp only [inOrder2, List.getElem?_cons_succ, List.getElem?_cons_zero, List.nil_append, List.cons_append]
      iterate 2 (((with_reducible refine o3_calmF (v := ?_) (a' := ?_) hS ?_ (fun V => ?_) ?_ ?_); rotate_left 2; (rfl); (first | (go_simp; with_reducible rfl) | (go_simp; refine (if_pos ?_).trans ?_; omega; with_reducible rfl)); (simp only [Act.put, List.setIfInBounds_toArray, List.set_cons_succ, List.set_cons_zero] <;> rfl)))
      ((with_reducible refine o3_pre (v := ?_) (a' := ?_) hS ?_ (fun V hV => ?_) ?_ ?_); rotate_left 2; (rfl); (have c0 := hV.c0; replace hV := hV.run; have c15 : V.cell? ⟨b, 15, none⟩ = some (.int .i64 S.ee) := (hV.cell 15).1; have c16 : V.cell? ⟨b, 16, none⟩ = some (.slice L.a5 S.el.length L.c5) := (hV.cell 16).1; have c20 : V.cell? ⟨b, 20, none⟩ = some (.int .i64 k) := (hV.cell 20).1; have q6 := (hV.field ht (j := 6) rfl).1; first | (go_simp; with_reducible rfl) | (go_simp; refine (if_pos ?_).trans ?_; omega; with_reducible rfl)); (simp only [Act.put, List.setIfInBounds_toArray, List.set_cons_succ, List.set_cons_zero] <;> rfl))
      refine tree_end _ ⟨?_, ?_⟩
      · refine o3_onlyF rfl rfl ?_
        go_simp
        refine ⟨trivial, rfl, (callsIn_wide.2 (E _ hS)).mono ?_⟩
        rintro e w2 ⟨A1, c1, rfl, hm, hb⟩
        have hle9 := hS.run.base_le.2.2.2.2
        replace hB := hB.trans (hb.mono hle9)
        replace hS := hS.on hb
        replace hm := hm.mono hle9
        clear hb
        refine ⟨hS, ?_⟩
        refine tree_end _ ?_
        refine tree_leaf ?_
        simp only [inOrder2, List.getElem?_cons_succ, List.getElem?_cons_zero, List.nil_append, List.cons_append]
        iterate 4 (((with_reducible refine o3_calmF (v := ?_) (a' := ?_) hS ?_ (fun V => ?_) ?_ ?_); rotate_left 2; (rfl); (first | (go_simp; with_reducible rfl) | (go_simp; refine (if_pos ?_).trans ?_; omega; with_reducible rfl)); (simp only [Act.put, List.setIfInBounds_toArray, List.set_cons_succ, List.set_cons_zero] <;> rfl)))
        refine o3_onlyF rfl rfl ?_
        go_simp
        obtain ⟨B, hBe, kB, hS2, hB2, hne, hle2, hnp⟩ := new_ownP hS hB (.cells #[.int .i64 0, .slice none 0 0] 32)
        replace hS := hS2
        replace hB := hB2
        clear hS2 hB2
        refine ⟨hS, ?_⟩
        rw [← hBe]
        clear hBe
        replace hm := hm.alloc (.cells #[.int .i64 0, .slice none 0 0] 32)
        generalize w2.alloc (.cells #[.int .i64 0, .slice none 0 0] 32) = wa at *
        obtain ⟨d0, g0⟩ := of_block kB 0
        obtain ⟨d1, g1⟩ := of_block kB 1
        refine o3_onlyS rfl rfl ?_
        go_simp
        refine ⟨trivial, ?_⟩
        clear d0 g0 d1 g1
        iterate 2 (((with_reducible refine o3_calmT (v := ?_) (a' := ?_) (any_ _) ?_ (fun V => ?_) ?_ ?_); rotate_left 2; (rfl); (first | (go_simp; with_reducible rfl) | (go_simp; refine (if_pos ?_).trans ?_; omega; with_reducible rfl)); (simp only [Act.put, List.setIfInBounds_toArray, List.set_cons_succ, List.set_cons_zero] <;> rfl)))
        refine tree_end _ ?_
        try simp only [Exit.then]
        replace hB := (hB.setCell (p := ⟨B, 0, none⟩) hle2 (.int .i64 S.ee)).setCell (p := ⟨B, 1, none⟩) hle2 (.slice A1 x2.length c1)
        replace hS := hS.aside kB okEv hne hnp (two_cells wa B 0 1 (.int .i64 S.ee) (.slice A1 x2.length c1))
        replace hm := hm.sameBut (hm.notBlock kB okEv.2.1) (two_cells wa B 0 1 (.int .i64 S.ee) (.slice A1 x2.length c1))
        replace kB := put_cell (i := 1) (put_cell (i := 0) kB (.int .i64 S.ee)) (.slice A1 x2.length c1)
        generalize (wa.setCell ⟨B, 0, none⟩ (.int .i64 S.ee)).setCell ⟨B, 1, none⟩ (.slice A1 x2.length c1) = wz at *
        obtain ⟨d0, g0⟩ := of_block kB 0
        obtain ⟨d1, g1⟩ := of_block kB 1
        obtain ⟨b15, f15⟩ := hS.run.cell 15
        obtain ⟨b16, f16⟩ := hS.run.cell 16
        have c0 := hS.c0
        replace hB := (hB.setCell (p := ⟨b, 15, none⟩) (show base ≤ b from hS.run.le) (.int .i64 S.ee)).setCell (p := ⟨b, 16, none⟩) (show base ≤ b from hS.run.le) (.slice A1 x2.length c1)
        have kP := (two_cells wz b 15 16 (.int .i64 S.ee) (.slice A1 x2.length c1) pb hS.nb).trans hS.cap
        have hR := hS.run.putEmpty (ep := S.ee) hm
        clear hS
        cases y1
        · have e : M = { S with el := x2 } := hM.symm
          have hX := hR.ran hB
          go_wp2
          go_returns
          exact ⟨rfl, by rw [e]; exact hX⟩
        · have e : M = St.setTh { S with el := x2 } k r1 := hM.symm.trans hm0
          go_wp2_with fail
          have hS : WalkAt base b gb pb { S with el := x2 } { L with a5 := A1, c5 := c1 } k ((wz.setCell ⟨b, 15, none⟩ (.int .i64 S.ee)).setCell ⟨b, 16, none⟩ (.slice A1 x2.length c1)) := ⟨hR, kP⟩
          clear hR kP c0 kB hm d0 g0 d1 g1 b15 f15 b16 f16 hm0 hM E
          generalize (wz.setCell ⟨b, 15, none⟩ (.int .i64 S.ee)).setCell ⟨b, 16, none⟩ (.slice A1 x2.length c1) = wz2 at *
          generalize hS5 : ({ S with el := x2 } : St) = S5 at *
          have ht6 : S5.ths[k]? = some t := by rw [← hS5]; exact ht
          generalize ({ L with a5 := A1, c5 := c1 } : Lay) = L5 at *
          refine wp_region_tree (WalkAt base b gb pb S5 L5 k) (AnyW) 11 (by kernel_rfl)
            (.leaf [(1, 0), (1, 2), (0, 1), (0, 3), (2, 4), (1, 5), (0, 6), (2, 7), (2, 8), (2, 9), (2, 10), (0, 11)])
            (by kernel_rfl) (by kernel_rfl) (by decide) (by kernel_rfl) (fun _ _ d _ _ h => by cases d <;> exact h) ?_
          replace hS := hS.drew
          replace hB := hB.drew
          generalize wz2.drew = wq at *
          refine tree_leaf ?_
          simp only [inOrder2, List.getElem?_cons_succ, List.getElem?_cons_zero, List.nil_append, List.cons_append]
          iterate 2 (((with_reducible refine o3_pre (v := ?_) (a' := ?_) hS ?_ (fun V hV => ?_) ?_ ?_); rotate_left 2; (rfl); (have c0 := hV.c0; first | (go_simp; with_reducible rfl) | (go_simp; refine (if_pos ?_).trans ?_; omega; with_reducible rfl)); (simp only [Act.put, List.setIfInBounds_toArray, List.set_cons_succ, List.set_cons_zero] <;> rfl)))
          refine o3_onlyF rfl rfl ?_
          go_simp
          refine ⟨trivial, rfl, (callsIn_wide.2 (me_r _ _ _ _ _ _ _ hS.run)).mono ?_⟩
          rintro e w1 ⟨rfl, hw⟩
          subst hw
          replace hS := hS.drew
          replace hB := hB.drew
          generalize wq.drew = wm1 at *
          refine ⟨hS, ?_⟩
          refine o3_onlyF rfl rfl ?_
          go_simp
          refine ⟨trivial, rfl, (callsIn_wide.2 (me_r _ _ _ _ _ _ _ hS.run)).mono ?_⟩
          rintro e w1 ⟨rfl, hw⟩
          subst hw
          replace hS := hS.drew
          replace hB := hB.drew
          generalize wm1.drew = wm3 at *
          refine ⟨hS, ?_⟩
          ((with_reducible refine o3_calmF (v := ?_) (a' := ?_) hS ?_ (fun V => ?_) ?_ ?_); rotate_left 2; (rfl); (first | (go_simp; with_reducible rfl) | (go_simp; refine (if_pos ?_).trans ?_; omega; with_reducible rfl)); (simp only [Act.put, List.setIfInBounds_toArray, List.set_cons_succ, List.set_cons_zero] <;> rfl))
          ((with_reducible refine o3_pre (v := .agg t.list.toArray) (a' := ?_) hS ?_ (fun V hV => ?_) ?_ ?_); rotate_left; (focus rfl); (focus (exact loadT Tryz.isAgg51 Tryz.sizeOf51 (th_cells hV.run.mine ht6) rfl rfl)); (focus (simp only [Act.put, List.setIfInBounds_toArray, List.set_cons_succ, List.set_cons_zero] <;> rfl)))
          refine o3_onlyF rfl rfl ?_
          go_simp
          refine ⟨trivial, rfl, (callsIn_wide.2 (PP _)).mono ?_⟩
          rintro e w7 ⟨rfl, hb7⟩
          have hle7 := hS.run.base_le.2.2.2.2
          replace hB := hB.trans (hb7.mono hle7)
          replace hS := hS.on hb7
          clear hb7
          refine ⟨hS, ?_⟩
          iterate 4 (((with_reducible refine o3_calmF (v := ?_) (a' := ?_) hS ?_ (fun V => ?_) ?_ ?_); rotate_left 2; (rfl); (first | (go_simp; with_reducible rfl) | (go_simp; refine (if_pos ?_).trans ?_; omega; with_reducible rfl)); (simp only [Act.put, List.setIfInBounds_toArray, List.set_cons_succ, List.set_cons_zero] <;> rfl)))
          obtain ⟨V, hst, hm2, hg2, hB2⟩ := store_th hS.run.mine hS.run.hk r1
          refine o3_skipS rfl rfl (storeT Tryz.sizeOf51 hst rfl rfl rfl) rfl trivial ?_
          refine tree_end _ ?_
          try simp only [Exit.then]
          go_returns
          exact ⟨rfl, by rw [e]; exact RunAt.ran (hS.run.stored hm2 hg2) (hB.trans hB2)⟩
      · refine o3_onlyF rfl rfl ?_
        go_simp
        obtain ⟨B, hBe, kB, hS2, hB2, hne, hle2, hnp⟩ := new_ownP hS hB (.cells #[.int .i64 0, .slice none 0 0] 32)
        replace hS := hS2
        replace hB := hB2
        clear hS2 hB2
        refine ⟨hS, ?_⟩
        rw [← hBe]
        clear hBe
        generalize wd.alloc (.cells #[.int .i64 0, .slice none 0 0] 32) = wa at *
        refine tree_end _ ?_
        refine tree_leaf ?_
        simp only [inOrder2, List.getElem?_cons_succ, List.getElem?_cons_zero, List.nil_append, List.cons_append]
        refine o3_onlyF rfl rfl ?_
        go_simp
        refine ⟨trivial, rfl, (callsIn_wide.2 (E _ hS)).mono ?_⟩
        rintro e w2 ⟨A1, c1, rfl, hm, hb⟩
        have hle9 := hS.run.base_le.2.2.2.2
        replace hB := hB.trans (hb.mono hle9)
        replace kB := kept kB hb
        replace hS := hS.on hb
        replace hm := hm.mono hle9
        clear hb
        refine ⟨hS, ?_⟩
        iterate 4 (((with_reducible refine o3_calmF (v := ?_) (a' := ?_) hS ?_ (fun V => ?_) ?_ ?_); rotate_left 2; (rfl); (first | (go_simp; with_reducible rfl) | (go_simp; refine (if_pos ?_).trans ?_; omega; with_reducible rfl)); (simp only [Act.put, List.setIfInBounds_toArray, List.set_cons_succ, List.set_cons_zero] <;> rfl)))
        obtain ⟨d0, g0⟩ := of_block kB 0
        obtain ⟨d1, g1⟩ := of_block kB 1
        refine o3_onlyS rfl rfl ?_
        go_simp
        refine ⟨trivial, ?_⟩
        clear d0 g0 d1 g1
        iterate 2 (((with_reducible refine o3_calmT (v := ?_) (a' := ?_) (any_ _) ?_ (fun V => ?_) ?_ ?_); rotate_left 2; (rfl); (first | (go_simp; with_reducible rfl) | (go_simp; refine (if_pos ?_).trans ?_; omega; with_reducible rfl)); (simp only [Act.put, List.setIfInBounds_toArray, List.set_cons_succ, List.set_cons_zero] <;> rfl)))
        refine tree_end _ ?_
        try simp only [Exit.then]
        replace hB := (hB.setCell (p := ⟨B, 0, none⟩) hle2 (.int .i64 S.ee)).setCell (p := ⟨B, 1, none⟩) hle2 (.slice A1 x2.length c1)
        replace hS := hS.aside kB okEv hne hnp (two_cells w2 B 0 1 (.int .i64 S.ee) (.slice A1 x2.length c1))
        replace hm := hm.sameBut (hm.notBlock kB okEv.2.1) (two_cells w2 B 0 1 (.int .i64 S.ee) (.slice A1 x2.length c1))
        replace kB := put_cell (i := 1) (put_cell (i := 0) kB (.int .i64 S.ee)) (.slice A1 x2.length c1)
        generalize (w2.setCell ⟨B, 0, none⟩ (.int .i64 S.ee)).setCell ⟨B, 1, none⟩ (.slice A1 x2.length c1) = wz at *
        obtain ⟨d0, g0⟩ := of_block kB 0
        obtain ⟨d1, g1⟩ := of_block kB 1
        obtain ⟨b15, f15⟩ := hS.run.cell 15
        obtain ⟨b16, f16⟩ := hS.run.cell 16
        have c0 := hS.c0
        replace hB := (hB.setCell (p := ⟨b, 15, none⟩) (show base ≤ b from hS.run.le) (.int .i64 S.ee)).setCell (p := ⟨b, 16, none⟩) (show base ≤ b from hS.run.le) (.slice A1 x2.length c1)
        have kP := (two_cells wz b 15 16 (.int .i64 S.ee) (.slice A1 x2.length c1) pb hS.nb).trans hS.cap
        have hR := hS.run.putEmpty (ep := S.ee) hm
        clear hS
        cases y1
        · have e : M = { S with el := x2 } := hM.symm
          have hX := hR.ran hB
          go_wp2
          go_returns
          exact ⟨rfl, by rw [e]; exact hX⟩
        · have e : M = St.setTh { S with el := x2 } k r1 := hM.symm.trans hm0
          go_wp2_with fail
          have hS : WalkAt base b gb pb { S with el := x2 } { L with a5 := A1, c5 := c1 } k ((wz.setCell ⟨b, 15, none⟩ (.int .i64 S.ee)).setCell ⟨b, 16, none⟩ (.slice A1 x2.length c1)) := ⟨hR, kP⟩
          clear hR kP c0 kB hm d0 g0 d1 g1 b15 f15 b16 f16 hm0 hM E
          generalize (wz.setCell ⟨b, 15, none⟩ (.int .i64 S.ee)).setCell ⟨b, 16, none⟩ (.slice A1 x2.length c1) = wz2 at *
          generalize hS5 : ({ S with el := x2 } : St) = S5 at *
          have ht6 : S5.ths[k]? = some t := by rw [← hS5]; exact ht
          generalize ({ L with a5 := A1, c5 := c1 } : Lay) = L5 at *
          refine wp_region_tree (WalkAt base b gb pb S5 L5 k) (AnyW) 11 (by kernel_rfl)
            (.leaf [(1, 0), (1, 2), (0, 1), (0, 3), (2, 4), (1, 5), (0, 6), (2, 7), (2, 8), (2, 9), (2, 10), (0, 11)])
            (by kernel_rfl) (by kernel_rfl) (by decide) (by kernel_rfl) (fun _ _ d _ _ h => by cases d <;> exact h) ?_
          replace hS := hS.drew
          replace hB := hB.drew
          generalize wz2.drew = wq at *
          refine tree_leaf ?_
          simp only [inOrder2, List.getElem?_cons_succ, List.getElem?_cons_zero, List.nil_append, List.cons_append]
          iterate 2 (((with_reducible refine o3_pre (v := ?_) (a' := ?_) hS ?_ (fun V hV => ?_) ?_ ?_); rotate_left 2; (rfl); (have c0 := hV.c0; first | (go_simp; with_reducible rfl) | (go_simp; refine (if_pos ?_).trans ?_; omega; with_reducible rfl)); (simp only [Act.put, List.setIfInBounds_toArray, List.set_cons_succ, List.set_cons_zero] <;> rfl)))
          refine o3_onlyF rfl rfl ?_
          go_simp
          refine ⟨trivial, rfl, (callsIn_wide.2 (me_r _ _ _ _ _ _ _ hS.run)).mono ?_⟩
          rintro e w1 ⟨rfl, hw⟩
          subst hw
          replace hS := hS.drew
          replace hB := hB.drew
          generalize wq.drew = wm1 at *
          refine ⟨hS, ?_⟩
          refine o3_onlyF rfl rfl ?_
          go_simp
          refine ⟨trivial, rfl, (callsIn_wide.2 (me_r _ _ _ _ _ _ _ hS.run)).mono ?_⟩
          rintro e w1 ⟨rfl, hw⟩
          subst hw
          replace hS := hS.drew
          replace hB := hB.drew
          generalize wm1.drew = wm3 at *
          refine ⟨hS, ?_⟩
          ((with_reducible refine o3_calmF (v := ?_) (a' := ?_) hS ?_ (fun V => ?_) ?_ ?_); rotate_left 2; (rfl); (first | (go_simp; with_reducible rfl) | (go_simp; refine (if_pos ?_).trans ?_; omega; with_reducible rfl)); (simp only [Act.put, List.setIfInBounds_toArray, List.set_cons_succ, List.set_cons_zero] <;> rfl))
          ((with_reducible refine o3_pre (v := .agg t.list.toArray) (a' := ?_) hS ?_ (fun V hV => ?_) ?_ ?_); rotate_left; (focus rfl); (focus (exact loadT Tryz.isAgg51 Tryz.sizeOf51 (th_cells hV.run.mine ht6) rfl rfl)); (focus (simp only [Act.put, List.setIfInBounds_toArray, List.set_cons_succ, List.set_cons_zero] <;> rfl)))
          refine o3_onlyF rfl rfl ?_
          go_simp
          refine ⟨trivial, rfl, (callsIn_wide.2 (PP _)).mono ?_⟩
          rintro e w7 ⟨rfl, hb7⟩
          have hle7 := hS.run.base_le.2.2.2.2
          replace hB := hB.trans (hb7.mono hle7)
          replace hS := hS.on hb7
          clear hb7
          refine ⟨hS, ?_⟩
          iterate 4 (((with_reducible refine o3_calmF (v := ?_) (a' := ?_) hS ?_ (fun V => ?_) ?_ ?_); rotate_left 2; (rfl); (first | (go_simp; with_reducible rfl) | (go_simp; refine (if_pos ?_).trans ?_; omega; with_reducible rfl)); (simp only [Act.put, List.setIfInBounds_toArray, List.set_cons_succ, List.set_cons_zero] <;> rfl)))
          obtain ⟨V, hst, hm2, hg2, hB2⟩ := store_th hS.run.mine hS.run.hk r1
          refine o3_skipS rfl rfl (storeT Tryz.sizeOf51 hst rfl rfl rfl) rfl trivial ?_
          refine tree_end _ ?_
          try simp only [Exit.then]
          go_returns
          exact ⟨rfl, by rw [e]; exact RunAt.ran (hS.run.stored hm2 hg2) (hB.trans hB2)⟩
    · refine o3_onlyF rfl rfl ?_
      go_simp
      obtain ⟨B, hBe, kB, hS2, hB2, hne, hle2, hnp⟩ := new_ownP hS hB (.cells #[.int .i64 0, .slice none 0 0] 32)
      replace hS := hS2
      replace hB := hB2
      clear hS2 hB2
      refine ⟨hS, ?_⟩
      rw [← hBe]
      clear hBe
      generalize w0.alloc (.cells #[.int .i64 0, .slice none 0 0] 32) = wa at *
      refine tree_end _ ?_
      refine tree_leaf ?_
      simp only [inOrder2, List.getElem?_cons_succ, List.getElem?_cons_zero, List.nil_append, List.cons_append]
      refine o3_onlyF rfl rfl ?_
      go_simp
      refine ⟨trivial, rfl, (callsIn_wide.2 (me_r _ _ _ _ _ _ _ hS.run)).mono ?_⟩
      rintro e w1 ⟨rfl, hw⟩
      subst hw
      replace hS := hS.drew
      replace hB := hB.drew
      replace kB : wa.drew.heap[B]? = _ := kB
      generalize wa.drew = wd at *
      refine ⟨hS, ?_⟩
      iterate 2 (((with_reducible refine o3_calmF (v := ?_) (a' := ?_) hS ?_ (fun V => ?_) ?_ ?_); rotate_left 2; (rfl); (first | (go_simp; with_reducible rfl) | (go_simp; refine (if_pos ?_).trans ?_; omega; with_reducible rfl)); (simp only [Act.put, List.setIfInBounds_toArray, List.set_cons_succ, List.set_cons_zero] <;> rfl)))
      ((with_reducible refine o3_pre (v := ?_) (a' := ?_) hS ?_ (fun V hV => ?_) ?_ ?_); rotate_left 2; (rfl); (have c0 := hV.c0; replace hV := hV.run; have c15 : V.cell? ⟨b, 15, none⟩ = some (.int .i64 S.ee) := (hV.cell 15).1; have c16 : V.cell? ⟨b, 16, none⟩ = some (.slice L.a5 S.el.length L.c5) := (hV.cell 16).1; have c20 : V.cell? ⟨b, 20, none⟩ = some (.int .i64 k) := (hV.cell 20).1; have q6 := (hV.field ht (j := 6) rfl).1; first | (go_simp; with_reducible rfl) | (go_simp; refine (if_pos ?_).trans ?_; omega; with_reducible rfl)); (simp only [Act.put, List.setIfInBounds_toArray, List.set_cons_succ, List.set_cons_zero] <;> rfl))
      refine o3_onlyF rfl rfl ?_
      go_simp
      refine ⟨trivial, rfl, (callsIn_wide.2 (E _ hS)).mono ?_⟩
      rintro e w2 ⟨A1, c1, rfl, hm, hb⟩
      have hle9 := hS.run.base_le.2.2.2.2
      replace hB := hB.trans (hb.mono hle9)
      replace kB := kept kB hb
      replace hS := hS.on hb
      replace hm := hm.mono hle9
      clear hb
      refine ⟨hS, ?_⟩
      iterate 4 (((with_reducible refine o3_calmF (v := ?_) (a' := ?_) hS ?_ (fun V => ?_) ?_ ?_); rotate_left 2; (rfl); (first | (go_simp; with_reducible rfl) | (go_simp; refine (if_pos ?_).trans ?_; omega; with_reducible rfl)); (simp only [Act.put, List.setIfInBounds_toArray, List.set_cons_succ, List.set_cons_zero] <;> rfl)))
      obtain ⟨d0, g0⟩ := of_block kB 0
      obtain ⟨d1, g1⟩ := of_block kB 1
      refine o3_onlyS rfl rfl ?_
      go_simp
      refine ⟨trivial, ?_⟩
      clear d0 g0 d1 g1
      iterate 2 (((with_reducible refine o3_calmT (v := ?_) (a' := ?_) (any_ _) ?_ (fun V => ?_) ?_ ?_); rotate_left 2; (rfl); (first | (go_simp; with_reducible rfl) | (go_simp; refine (if_pos ?_).trans ?_; omega; with_reducible rfl)); (simp only [Act.put, List.setIfInBounds_toArray, List.set_cons_succ, List.set_cons_zero] <;> rfl)))
      refine tree_end _ ?_
      try simp only [Exit.then]
      replace hB := (hB.setCell (p := ⟨B, 0, none⟩) hle2 (.int .i64 S.ee)).setCell (p := ⟨B, 1, none⟩) hle2 (.slice A1 x2.length c1)
      replace hS := hS.aside kB okEv hne hnp (two_cells w2 B 0 1 (.int .i64 S.ee) (.slice A1 x2.length c1))
      replace hm := hm.sameBut (hm.notBlock kB okEv.2.1) (two_cells w2 B 0 1 (.int .i64 S.ee) (.slice A1 x2.length c1))
      replace kB := put_cell (i := 1) (put_cell (i := 0) kB (.int .i64 S.ee)) (.slice A1 x2.length c1)
      generalize (w2.setCell ⟨B, 0, none⟩ (.int .i64 S.ee)).setCell ⟨B, 1, none⟩ (.slice A1 x2.length c1) = wz at *
      obtain ⟨d0, g0⟩ := of_block kB 0
      obtain ⟨d1, g1⟩ := of_block kB 1
      obtain ⟨b15, f15⟩ := hS.run.cell 15
      obtain ⟨b16, f16⟩ := hS.run.cell 16
      have c0 := hS.c0
      replace hB := (hB.setCell (p := ⟨b, 15, none⟩) (show base ≤ b from hS.run.le) (.int .i64 S.ee)).setCell (p := ⟨b, 16, none⟩) (show base ≤ b from hS.run.le) (.slice A1 x2.length c1)
      have kP := (two_cells wz b 15 16 (.int .i64 S.ee) (.slice A1 x2.length c1) pb hS.nb).trans hS.cap
      have hR := hS.run.putEmpty (ep := S.ee) hm
      clear hS
      cases y1
      · have e : M = { S with el := x2 } := hM.symm
        have hX := hR.ran hB
        go_wp2
        go_returns
        exact ⟨rfl, by rw [e]; exact hX⟩
      · have e : M = St.setTh { S with el := x2 } k r1 := hM.symm.trans hm0
        go_wp2_with fail
        have hS : WalkAt base b gb pb { S with el := x2 } { L with a5 := A1, c5 := c1 } k ((wz.setCell ⟨b, 15, none⟩ (.int .i64 S.ee)).setCell ⟨b, 16, none⟩ (.slice A1 x2.length c1)) := ⟨hR, kP⟩
        clear hR kP c0 kB hm d0 g0 d1 g1 b15 f15 b16 f16 hm0 hM E
        generalize (wz.setCell ⟨b, 15, none⟩ (.int .i64 S.ee)).setCell ⟨b, 16, none⟩ (.slice A1 x2.length c1) = wz2 at *
        generalize hS5 : ({ S with el := x2 } : St) = S5 at *
        have ht6 : S5.ths[k]? = some t := by rw [← hS5]; exact ht
        generalize ({ L with a5 := A1, c5 := c1 } : Lay) = L5 at *
        refine wp_region_tree (WalkAt base b gb pb S5 L5 k) (AnyW) 11 (by kernel_rfl)
          (.leaf [(1, 0), (1, 2), (0, 1), (0, 3), (2, 4), (1, 5), (0, 6), (2, 7), (2, 8), (2, 9), (2, 10), (0, 11)])
          (by kernel_rfl) (by kernel_rfl) (by decide) (by kernel_rfl) (fun _ _ d _ _ h => by cases d <;> exact h) ?_
        replace hS := hS.drew
        replace hB := hB.drew
        generalize wz2.drew = wq at *
        refine tree_leaf ?_
        simp only [inOrder2, List.getElem?_cons_succ, List.getElem?_cons_zero, List.nil_append, List.cons_append]
        iterate 2 (((with_reducible refine o3_pre (v := ?_) (a' := ?_) hS ?_ (fun V hV => ?_) ?_ ?_); rotate_left 2; (rfl); (have c0 := hV.c0; first | (go_simp; with_reducible rfl) | (go_simp; refine (if_pos ?_).trans ?_; omega; with_reducible rfl)); (simp only [Act.put, List.setIfInBounds_toArray, List.set_cons_succ, List.set_cons_zero] <;> rfl)))
        refine o3_onlyF rfl rfl ?_
        go_simp
        refine ⟨trivial, rfl, (callsIn_wide.2 (me_r _ _ _ _ _ _ _ hS.run)).mono ?_⟩
        rintro e w1 ⟨rfl, hw⟩
        subst hw
        replace hS := hS.drew
        replace hB := hB.drew
        generalize wq.drew = wm1 at *
        refine ⟨hS, ?_⟩
        refine o3_onlyF rfl rfl ?_
        go_simp
        refine ⟨trivial, rfl, (callsIn_wide.2 (me_r _ _ _ _ _ _ _ hS.run)).mono ?_⟩
        rintro e w1 ⟨rfl, hw⟩
        subst hw
        replace hS := hS.drew
        replace hB := hB.drew
        generalize wm1.drew = wm3 at *
        refine ⟨hS, ?_⟩
        ((with_reducible refine o3_calmF (v := ?_) (a' := ?_) hS ?_ (fun V => ?_) ?_ ?_); rotate_left 2; (rfl); (first | (go_simp; with_reducible rfl) | (go_simp; refine (if_pos ?_).trans ?_; omega; with_reducible rfl)); (simp only [Act.put, List.setIfInBounds_toArray, List.set_cons_succ, List.set_cons_zero] <;> rfl))
        ((with_reducible refine o3_pre (v := .agg t.list.toArray) (a' := ?_) hS ?_ (fun V hV => ?_) ?_ ?_); rotate_left; (focus rfl); (focus (exact loadT Tryz.isAgg51 Tryz.sizeOf51 (th_cells hV.run.mine ht6) rfl rfl)); (focus (simp only [Act.put, List.setIfInBounds_toArray, List.set_cons_succ, List.set_cons_zero] <;> rfl)))
        refine o3_onlyF rfl rfl ?_
        go_simp
        refine ⟨trivial, rfl, (callsIn_wide.2 (PP _)).mono ?_⟩
        rintro e w7 ⟨rfl, hb7⟩
        have hle7 := hS.run.base_le.2.2.2.2
        replace hB := hB.trans (hb7.mono hle7)
        replace hS := hS.on hb7
        clear hb7
        refine ⟨hS, ?_⟩
        iterate 4 (((with_reducible refine o3_calmF (v := ?_) (a' := ?_) hS ?_ (fun V => ?_) ?_ ?_); rotate_left 2; (rfl); (first | (go_simp; with_reducible rfl) | (go_simp; refine (if_pos ?_).trans ?_; omega; with_reducible rfl)); (simp only [Act.put, List.setIfInBounds_toArray, List.set_cons_succ, List.set_cons_zero] <;> rfl)))
        obtain ⟨V, hst, hm2, hg2, hB2⟩ := store_th hS.run.mine hS.run.hk r1
        refine o3_skipS rfl rfl (storeT Tryz.sizeOf51 hst rfl rfl rfl) rfl trivial ?_
        refine tree_end _ ?_
        try simp only [Exit.then]
        go_returns
        exact ⟨rfl, by rw [e]; exact RunAt.ran (hS.run.stored hm2 hg2) (hB.trans hB2)⟩

theorem commit_r (S : St) (L : Lay) (base b gb pb k : Nat) (w : World) (hP : WalkAt base b gb pb S L k w) (hsm : S.small) (t : Th) (ht : S.ths[k]? = some t) : Calls Tryz.prog 168 #[.pointer (some ⟨pb, 0, none⟩)] w fun e w' => e = .returned (.tuple #[]) ∧ Ran 161 base b k (((S.mod k (Th.at 2)).rcommit2 k (Th.at 2 t) (cmtE S.ee S.el t.seen k))) w w' :=
  commit_core_r _ L base b gb pb k _ w hP.c0 (mod_small hsm) (mod_get ht _) (go2_r S L base b gb pb k 2 w hP)

end Go.Proofs.YtnbgpopjnpdmgaaGreat
