/-
  DERIVED. Send4.
-/
import Derived.Test.YtnbgpopjnpdmgaaGreatPbb
set_option linter.unusedVariables false
set_option linter.unusedSimpArgs false

namespace Go.Proofs.YtnbgpopjnpdmgaaGreat
open Go Go.RowKit Go.Shelf

def St.accept1 (S : St) (k : Nat) (t : Th) (r : Int) : St := if r = 1 then (S.tell k t.kind 1 0).mod k (Th.at 6) else if r = 2 then S.mod k (Th.at 2) else S.ends k t r
def St.commit2 (S : St) (k : Nat) (t : Th) (x : List Int × Bool × Int) : St := if t.late then S else if x.2.1 then { S with fl := x.1 }.mod k (fun t => (t.park 2).1) else { S with fl := x.1 }
def St.evict1 (S : St) (k : Nat) (got : Int) (is : Bool) : St := if is then (S.tell k 9 1 got).mod k (Th.at 11) else S.mod k (Th.at 2)

set_option maxRecDepth 100000 in
set_option maxHeartbeats 4000000 in
theorem accept_s (S : St) (L : Lay) (base b gb k : Nat) (w : World) (hR : RunAt 157 base b gb (S) L k w) (hsm : S.small) (t : Th) (ht : S.ths[k]? = some t) :
    Calls Tryz.prog 111 #[.pointer (some ⟨b, 0, none⟩)] w fun e w' => e = .returned (.tuple #[]) ∧ Ran 157 base b k ((St.accept1 { S with word := (S.word.acc S.slots.length).1 } k t (S.word.acc S.slots.length).2.2)) w w' := by
  have E := fun W => word_accept S.word S.slots.length W
  generalize S.word.acc S.slots.length = x at *
  obtain ⟨x1, x2, x3⟩ := x
  dsimp only at *
  generalize hM : St.accept1 { S with word := x1 } k t x3 = M at *
  have hsm1 : St.small { S with word := x1 } := hsm
  have ht1 : (St.ths { S with word := x1 })[k]? = some t := ht
  go_enter Tryz.func111, Tryz.ntmps111
  go_wp2_with fail
  refine wp_region_tree (RunAt 157 base b gb S L k) (AnyW) 13 (by kernel_rfl)
    (.fork [(2, 0), (2, 1), (2, 2), (2, 3), (2, 5), (1, 4)] 6 (.fork [] 7 (.leaf [(2, 8), (2, 9), (2, 10), (2, 11), (0, 12), (0, 13), (2, 14), (2, 15)]) 12 (.leaf [(0, 7), (2, 8), (2, 9), (2, 10), (2, 11), (0, 13), (2, 14), (2, 15)])) 12 (.leaf [(0, 6), (0, 7), (2, 8), (2, 9), (2, 10), (2, 11), (0, 13), (2, 14), (2, 15)]))
    (by kernel_rfl) (by kernel_rfl) (by decide) (by kernel_rfl) (fun _ _ d _ _ h => by cases d <;> exact h) ?_
  have hB := (Below.refl base w).drew
  have hS := hR.drew
  have hle : base ≤ w.drew.heap.size := hR.base_le.2.2.2.2
  clear hR
  generalize w.drew = w0 at *
  refine tree_fork ?_
  simp only [inOrder2, List.getElem?_cons_succ, List.getElem?_cons_zero, List.nil_append, List.cons_append]
  iterate 5 (((with_reducible refine o3_calmF (v := ?_) (a' := ?_) hS ?_ (fun V => ?_) ?_ ?_); rotate_left 2; (rfl); (first | (go_simp; with_reducible rfl) | (go_simp; refine (if_pos ?_).trans ?_; omega; with_reducible rfl)); (simp only [Act.put, List.setIfInBounds_toArray, List.set_cons_succ, List.set_cons_zero] <;> rfl)))
  ((with_reducible refine o3_pre (v := ?_) (a' := ?_) hS ?_ (fun V hV => ?_) ?_ ?_); rotate_left 2; (rfl); (have c7 : V.cell? ⟨b, 7, none⟩ = some (.int .i64 S.word.head) := (hV.cell 7).1; have c8 : V.cell? ⟨b, 8, none⟩ = some (.int .i64 S.word.tail) := (hV.cell 8).1; have c9 : V.cell? ⟨b, 9, none⟩ = some (.int .i64 S.word.mode) := (hV.cell 9).1; first | (go_simp; with_reducible rfl) | (go_simp; refine (if_pos ?_).trans ?_; omega; with_reducible rfl)); (simp only [Act.put, List.setIfInBounds_toArray, List.set_cons_succ, List.set_cons_zero] <;> rfl))
  refine tree_end _ ⟨?_, ?_⟩
  · refine o3_onlyF rfl rfl ?_
    go_simp
    refine ⟨trivial, rfl, (callsIn_wide.2 (room_s _ _ _ _ _ _ _ hS)).mono ?_⟩
    rintro e w1 ⟨rfl, hw⟩
    obtain rfl := hw.symm
    clear hw
    refine ⟨hS, ?_⟩
    refine tree_end _ ?_
    refine tree_fork ?_
    simp only [inOrder2, List.getElem?_cons_succ, List.getElem?_cons_zero, List.nil_append, List.cons_append]
    refine tree_end _ ⟨?_, ?_⟩
    · refine o3_onlyF rfl rfl ?_
      go_simp
      refine ⟨trivial, rfl, (callsIn_wide.2 (E _)).mono ?_⟩
      rintro e w2 ⟨rfl, hb⟩
      have hle9 := hS.base_le.2.2.2.2
      replace hB := hB.trans (hb.mono hle9)
      replace hS := hS.on hb
      clear hb
      refine ⟨hS, ?_⟩
      refine tree_end _ ?_
      refine tree_leaf ?_
      simp only [inOrder2, List.getElem?_cons_succ, List.getElem?_cons_zero, List.nil_append, List.cons_append]
      iterate 4 (((with_reducible refine o3_calmF (v := ?_) (a' := ?_) hS ?_ (fun V => ?_) ?_ ?_); rotate_left 2; (rfl); (first | (go_simp; with_reducible rfl) | (go_simp; refine (if_pos ?_).trans ?_; omega; with_reducible rfl)); (simp only [Act.put, List.setIfInBounds_toArray, List.set_cons_succ, List.set_cons_zero] <;> rfl)))
      refine o3_onlyF rfl rfl ?_
      go_simp
      obtain ⟨B, hBe, kB, hS2, hB2, hne, hle2⟩ := new_own hS hB (.cells #[.int .i64 0, .int .i64 0, .int .i64 0] 28)
      replace hS := hS2
      replace hB := hB2
      clear hS2 hB2
      refine ⟨hS, ?_⟩
      rw [← hBe]
      clear hBe
      generalize w2.alloc (.cells #[.int .i64 0, .int .i64 0, .int .i64 0] 28) = wa at *
      obtain ⟨d0, g0⟩ := of_block kB 0
      obtain ⟨d1, g1⟩ := of_block kB 1
      obtain ⟨d2, g2⟩ := of_block kB 2
      refine o3_onlyS rfl rfl ?_
      go_simp
      refine ⟨trivial, ?_⟩
      clear d0 g0 d1 g1 d2 g2
      iterate 2 (((with_reducible refine o3_calmT (v := ?_) (a' := ?_) (any_ _) ?_ (fun V => ?_) ?_ ?_); rotate_left 2; (rfl); (first | (go_simp; with_reducible rfl) | (go_simp; refine (if_pos ?_).trans ?_; omega; with_reducible rfl)); (simp only [Act.put, List.setIfInBounds_toArray, List.set_cons_succ, List.set_cons_zero] <;> rfl)))
      refine tree_end _ ?_
      try simp only [Exit.then]
      replace hB := ((hB.setCell (p := ⟨B, 0, none⟩) hle2 (.int .i64 x1.head)).setCell (p := ⟨B, 1, none⟩) hle2 (.int .i64 x1.tail)).setCell (p := ⟨B, 2, none⟩) hle2 (.int .i64 x1.mode)
      have hR := hS.aside kB okWo hne (three_cells wa B 0 1 2 (.int .i64 x1.head) (.int .i64 x1.tail) (.int .i64 x1.mode))
      replace kB := put_cell (i := 2) (put_cell (i := 1) (put_cell (i := 0) kB (.int .i64 x1.head)) (.int .i64 x1.tail)) (.int .i64 x1.mode)
      clear hS
      generalize ((wa.setCell ⟨B, 0, none⟩ (.int .i64 x1.head)).setCell ⟨B, 1, none⟩ (.int .i64 x1.tail)).setCell ⟨B, 2, none⟩ (.int .i64 x1.mode) = wz at *
      obtain ⟨d0, g0⟩ := of_block kB 0
      obtain ⟨d1, g1⟩ := of_block kB 1
      obtain ⟨d2, g2⟩ := of_block kB 2
      obtain ⟨b7, f7⟩ := hR.cell 7
      obtain ⟨b8, f8⟩ := hR.cell 8
      obtain ⟨b9, f9⟩ := hR.cell 9
      replace hB := ((hB.setCell (p := ⟨b, 7, none⟩) (show base ≤ b from hR.le) (.int .i64 x1.head)).setCell (p := ⟨b, 8, none⟩) (show base ≤ b from hR.le) (.int .i64 x1.tail)).setCell (p := ⟨b, 9, none⟩) (show base ≤ b from hR.le) (.int .i64 x1.mode)
      replace hR := hR.putWord (x := x1)
      by_cases h1 : x3 = 1
      · subst h1
        have e : M = (St.tell { S with word := x1 } k t.kind 1 0).mod k (Th.at 6) := hM.symm
        go_wp2_with (first
            | (go_at_call 119; (with_reducible refine (me_s _ _ _ _ _ _ _ hR).mono ?_); rintro e w1 ⟨rfl, hw⟩; subst hw; replace hR := hR.drew; replace hB := hB.drew; have f1 := (hR.field ht1 (j := 1) rfl).1)
            | (go_at_call 146; (with_reducible refine (tell_s _ _ _ _ _ _ _ _ _ _ _ hR hsm1).mono ?_); rintro e w5 ⟨rfl, h5⟩; have hX := h5.trans hB))
        go_returns
        exact ⟨rfl, by rw [e]; exact hX⟩
      have h1' : (x3 == 1) = false := by simpa using h1
      by_cases h2 : x3 = 2
      · subst h2
        have e : M = St.mod { S with word := x1 } k (Th.at 2) := hM.symm
        go_wp2_with (first
            | (go_at_call 139; (with_reducible refine (go_s _ _ _ _ _ _ _ _ hR).mono ?_); rintro e w5 ⟨rfl, h5, hb5⟩; replace hB := hB.trans hb5; have hX := h5.ran hB))
        go_returns
        exact ⟨rfl, by rw [e]; exact hX⟩
      · have h2' : (x3 == 2) = false := by simpa using h2
        have e : M = St.ends { S with word := x1 } k t x3 := by rw [← hM]; simp [St.accept1, h1, h2]
        go_wp2_with (first
            | (go_at_call 141; (with_reducible refine (ends_s _ _ _ _ _ _ _ _ hR hsm1 t ht1).mono ?_); rintro e w5 ⟨rfl, h5⟩; have hX := h5.trans hB))
        go_returns
        exact ⟨rfl, by rw [e]; exact hX⟩
    · refine o3_onlyF rfl rfl ?_
      go_simp
      obtain ⟨B, hBe, kB, hS2, hB2, hne, hle2⟩ := new_own hS hB (.cells #[.int .i64 0, .int .i64 0, .int .i64 0] 28)
      replace hS := hS2
      replace hB := hB2
      clear hS2 hB2
      refine ⟨hS, ?_⟩
      rw [← hBe]
      clear hBe
      generalize w0.alloc (.cells #[.int .i64 0, .int .i64 0, .int .i64 0] 28) = wa at *
      refine tree_end _ ?_
      refine tree_leaf ?_
      simp only [inOrder2, List.getElem?_cons_succ, List.getElem?_cons_zero, List.nil_append, List.cons_append]
      refine o3_onlyF rfl rfl ?_
      go_simp
      refine ⟨trivial, rfl, (callsIn_wide.2 (E _)).mono ?_⟩
      rintro e w2 ⟨rfl, hb⟩
      have hle9 := hS.base_le.2.2.2.2
      replace hB := hB.trans (hb.mono hle9)
      replace kB := kept kB hb
      replace hS := hS.on hb
      clear hb
      refine ⟨hS, ?_⟩
      iterate 4 (((with_reducible refine o3_calmF (v := ?_) (a' := ?_) hS ?_ (fun V => ?_) ?_ ?_); rotate_left 2; (rfl); (first | (go_simp; with_reducible rfl) | (go_simp; refine (if_pos ?_).trans ?_; omega; with_reducible rfl)); (simp only [Act.put, List.setIfInBounds_toArray, List.set_cons_succ, List.set_cons_zero] <;> rfl)))
      obtain ⟨d0, g0⟩ := of_block kB 0
      obtain ⟨d1, g1⟩ := of_block kB 1
      obtain ⟨d2, g2⟩ := of_block kB 2
      refine o3_onlyS rfl rfl ?_
      go_simp
      refine ⟨trivial, ?_⟩
      clear d0 g0 d1 g1 d2 g2
      iterate 2 (((with_reducible refine o3_calmT (v := ?_) (a' := ?_) (any_ _) ?_ (fun V => ?_) ?_ ?_); rotate_left 2; (rfl); (first | (go_simp; with_reducible rfl) | (go_simp; refine (if_pos ?_).trans ?_; omega; with_reducible rfl)); (simp only [Act.put, List.setIfInBounds_toArray, List.set_cons_succ, List.set_cons_zero] <;> rfl)))
      refine tree_end _ ?_
      try simp only [Exit.then]
      replace hB := ((hB.setCell (p := ⟨B, 0, none⟩) hle2 (.int .i64 x1.head)).setCell (p := ⟨B, 1, none⟩) hle2 (.int .i64 x1.tail)).setCell (p := ⟨B, 2, none⟩) hle2 (.int .i64 x1.mode)
      have hR := hS.aside kB okWo hne (three_cells w2 B 0 1 2 (.int .i64 x1.head) (.int .i64 x1.tail) (.int .i64 x1.mode))
      replace kB := put_cell (i := 2) (put_cell (i := 1) (put_cell (i := 0) kB (.int .i64 x1.head)) (.int .i64 x1.tail)) (.int .i64 x1.mode)
      clear hS
      generalize ((w2.setCell ⟨B, 0, none⟩ (.int .i64 x1.head)).setCell ⟨B, 1, none⟩ (.int .i64 x1.tail)).setCell ⟨B, 2, none⟩ (.int .i64 x1.mode) = wz at *
      obtain ⟨d0, g0⟩ := of_block kB 0
      obtain ⟨d1, g1⟩ := of_block kB 1
      obtain ⟨d2, g2⟩ := of_block kB 2
      obtain ⟨b7, f7⟩ := hR.cell 7
      obtain ⟨b8, f8⟩ := hR.cell 8
      obtain ⟨b9, f9⟩ := hR.cell 9
      replace hB := ((hB.setCell (p := ⟨b, 7, none⟩) (show base ≤ b from hR.le) (.int .i64 x1.head)).setCell (p := ⟨b, 8, none⟩) (show base ≤ b from hR.le) (.int .i64 x1.tail)).setCell (p := ⟨b, 9, none⟩) (show base ≤ b from hR.le) (.int .i64 x1.mode)
      replace hR := hR.putWord (x := x1)
      by_cases h1 : x3 = 1
      · subst h1
        have e : M = (St.tell { S with word := x1 } k t.kind 1 0).mod k (Th.at 6) := hM.symm
        go_wp2_with (first
            | (go_at_call 119; (with_reducible refine (me_s _ _ _ _ _ _ _ hR).mono ?_); rintro e w1 ⟨rfl, hw⟩; subst hw; replace hR := hR.drew; replace hB := hB.drew; have f1 := (hR.field ht1 (j := 1) rfl).1)
            | (go_at_call 146; (with_reducible refine (tell_s _ _ _ _ _ _ _ _ _ _ _ hR hsm1).mono ?_); rintro e w5 ⟨rfl, h5⟩; have hX := h5.trans hB))
        go_returns
        exact ⟨rfl, by rw [e]; exact hX⟩
      have h1' : (x3 == 1) = false := by simpa using h1
      by_cases h2 : x3 = 2
      · subst h2
        have e : M = St.mod { S with word := x1 } k (Th.at 2) := hM.symm
        go_wp2_with (first
            | (go_at_call 139; (with_reducible refine (go_s _ _ _ _ _ _ _ _ hR).mono ?_); rintro e w5 ⟨rfl, h5, hb5⟩; replace hB := hB.trans hb5; have hX := h5.ran hB))
        go_returns
        exact ⟨rfl, by rw [e]; exact hX⟩
      · have h2' : (x3 == 2) = false := by simpa using h2
        have e : M = St.ends { S with word := x1 } k t x3 := by rw [← hM]; simp [St.accept1, h1, h2]
        go_wp2_with (first
            | (go_at_call 141; (with_reducible refine (ends_s _ _ _ _ _ _ _ _ hR hsm1 t ht1).mono ?_); rintro e w5 ⟨rfl, h5⟩; have hX := h5.trans hB))
        go_returns
        exact ⟨rfl, by rw [e]; exact hX⟩
  · refine o3_onlyF rfl rfl ?_
    go_simp
    obtain ⟨B, hBe, kB, hS2, hB2, hne, hle2⟩ := new_own hS hB (.cells #[.int .i64 0, .int .i64 0, .int .i64 0] 28)
    replace hS := hS2
    replace hB := hB2
    clear hS2 hB2
    refine ⟨hS, ?_⟩
    rw [← hBe]
    clear hBe
    generalize w0.alloc (.cells #[.int .i64 0, .int .i64 0, .int .i64 0] 28) = wa at *
    refine tree_end _ ?_
    refine tree_leaf ?_
    simp only [inOrder2, List.getElem?_cons_succ, List.getElem?_cons_zero, List.nil_append, List.cons_append]
    refine o3_onlyF rfl rfl ?_
    go_simp
    refine ⟨trivial, rfl, (callsIn_wide.2 (room_s _ _ _ _ _ _ _ hS)).mono ?_⟩
    rintro e w1 ⟨rfl, hw⟩
    obtain rfl := hw.symm
    clear hw
    refine ⟨hS, ?_⟩
    refine o3_onlyF rfl rfl ?_
    go_simp
    refine ⟨trivial, rfl, (callsIn_wide.2 (E _)).mono ?_⟩
    rintro e w2 ⟨rfl, hb⟩
    have hle9 := hS.base_le.2.2.2.2
    replace hB := hB.trans (hb.mono hle9)
    replace kB := kept kB hb
    replace hS := hS.on hb
    clear hb
    refine ⟨hS, ?_⟩
    iterate 4 (((with_reducible refine o3_calmF (v := ?_) (a' := ?_) hS ?_ (fun V => ?_) ?_ ?_); rotate_left 2; (rfl); (first | (go_simp; with_reducible rfl) | (go_simp; refine (if_pos ?_).trans ?_; omega; with_reducible rfl)); (simp only [Act.put, List.setIfInBounds_toArray, List.set_cons_succ, List.set_cons_zero] <;> rfl)))
    obtain ⟨d0, g0⟩ := of_block kB 0
    obtain ⟨d1, g1⟩ := of_block kB 1
    obtain ⟨d2, g2⟩ := of_block kB 2
    refine o3_onlyS rfl rfl ?_
    go_simp
    refine ⟨trivial, ?_⟩
    clear d0 g0 d1 g1 d2 g2
    iterate 2 (((with_reducible refine o3_calmT (v := ?_) (a' := ?_) (any_ _) ?_ (fun V => ?_) ?_ ?_); rotate_left 2; (rfl); (first | (go_simp; with_reducible rfl) | (go_simp; refine (if_pos ?_).trans ?_; omega; with_reducible rfl)); (simp only [Act.put, List.setIfInBounds_toArray, List.set_cons_succ, List.set_cons_zero] <;> rfl)))
    refine tree_end _ ?_
    try simp only [Exit.then]
    replace hB := ((hB.setCell (p := ⟨B, 0, none⟩) hle2 (.int .i64 x1.head)).setCell (p := ⟨B, 1, none⟩) hle2 (.int .i64 x1.tail)).setCell (p := ⟨B, 2, none⟩) hle2 (.int .i64 x1.mode)
    have hR := hS.aside kB okWo hne (three_cells w2 B 0 1 2 (.int .i64 x1.head) (.int .i64 x1.tail) (.int .i64 x1.mode))
    replace kB := put_cell (i := 2) (put_cell (i := 1) (put_cell (i := 0) kB (.int .i64 x1.head)) (.int .i64 x1.tail)) (.int .i64 x1.mode)
    clear hS
    generalize ((w2.setCell ⟨B, 0, none⟩ (.int .i64 x1.head)).setCell ⟨B, 1, none⟩ (.int .i64 x1.tail)).setCell ⟨B, 2, none⟩ (.int .i64 x1.mode) = wz at *
    obtain ⟨d0, g0⟩ := of_block kB 0
    obtain ⟨d1, g1⟩ := of_block kB 1
    obtain ⟨d2, g2⟩ := of_block kB 2
    obtain ⟨b7, f7⟩ := hR.cell 7
    obtain ⟨b8, f8⟩ := hR.cell 8
    obtain ⟨b9, f9⟩ := hR.cell 9
    replace hB := ((hB.setCell (p := ⟨b, 7, none⟩) (show base ≤ b from hR.le) (.int .i64 x1.head)).setCell (p := ⟨b, 8, none⟩) (show base ≤ b from hR.le) (.int .i64 x1.tail)).setCell (p := ⟨b, 9, none⟩) (show base ≤ b from hR.le) (.int .i64 x1.mode)
    replace hR := hR.putWord (x := x1)
    by_cases h1 : x3 = 1
    · subst h1
      have e : M = (St.tell { S with word := x1 } k t.kind 1 0).mod k (Th.at 6) := hM.symm
      go_wp2_with (first
          | (go_at_call 119; (with_reducible refine (me_s _ _ _ _ _ _ _ hR).mono ?_); rintro e w1 ⟨rfl, hw⟩; subst hw; replace hR := hR.drew; replace hB := hB.drew; have f1 := (hR.field ht1 (j := 1) rfl).1)
          | (go_at_call 146; (with_reducible refine (tell_s _ _ _ _ _ _ _ _ _ _ _ hR hsm1).mono ?_); rintro e w5 ⟨rfl, h5⟩; have hX := h5.trans hB))
      go_returns
      exact ⟨rfl, by rw [e]; exact hX⟩
    have h1' : (x3 == 1) = false := by simpa using h1
    by_cases h2 : x3 = 2
    · subst h2
      have e : M = St.mod { S with word := x1 } k (Th.at 2) := hM.symm
      go_wp2_with (first
          | (go_at_call 139; (with_reducible refine (go_s _ _ _ _ _ _ _ _ hR).mono ?_); rintro e w5 ⟨rfl, h5, hb5⟩; replace hB := hB.trans hb5; have hX := h5.ran hB))
      go_returns
      exact ⟨rfl, by rw [e]; exact hX⟩
    · have h2' : (x3 == 2) = false := by simpa using h2
      have e : M = St.ends { S with word := x1 } k t x3 := by rw [← hM]; simp [St.accept1, h1, h2]
      go_wp2_with (first
          | (go_at_call 141; (with_reducible refine (ends_s _ _ _ _ _ _ _ _ hR hsm1 t ht1).mono ?_); rintro e w5 ⟨rfl, h5⟩; have hX := h5.trans hB))
      go_returns
      exact ⟨rfl, by rw [e]; exact hX⟩

set_option maxRecDepth 100000 in
set_option maxHeartbeats 2000000 in
theorem commit_core (S : St) (L : Lay) (base b gb k : Nat) (t : Th) (w : World) (hsm : S.small) (ht : S.ths[k]? = some t) (G : Calls Tryz.prog 139 #[.pointer (some ⟨b, 0, none⟩), .int .i64 2] w fun e w' => e = .returned (.tuple #[]) ∧ RunAt 157 base b gb S L k w' ∧ Below base w w') :
    Calls Tryz.prog 115 #[.pointer (some ⟨b, 0, none⟩)] w fun e w' => e = .returned (.tuple #[]) ∧ Ran 157 base b k ((S.commit2 k t (cmtE S.fe S.fl t.seen k))) w w' := by
  have E := fun (V : World) (hV : RunAt 157 base b gb S L k V) => commit_any S.fe t.seen k S.fl L.a4 L.c4 V (wide hsm.2.2.2.1) hV.ho.m4.lies
  have PP := fun W => th_park t 2 W
  have hm0 := fun l => mod_set (S := { S with fl := l }) ht (fun t => (t.park 2).1)
  generalize cmtE S.fe S.fl t.seen k = x at *
  obtain ⟨x2, y1, y2⟩ := x
  dsimp only at *
  generalize hM : St.commit2 S k t (x2, y1, y2) = M at *
  go_enter Tryz.func115, Tryz.ntmps115
  cases hl : t.late with
  | true =>
    have e : M = S := by rw [← hM]; simp [St.commit2, hl]
    go_wp2_with (first
        | (go_at_call 139; (with_reducible refine (G).mono ?_); rintro e w5 ⟨rfl, hR, hB⟩)
        | (go_at_call 119; (with_reducible refine (me_s _ _ _ _ _ _ _ hR).mono ?_); rintro e w1 ⟨rfl, hw⟩; subst hw; replace hR := hR.drew; replace hB := hB.drew; have f8 := (hR.field ht (j := 8) rfl).1; rw [hl] at f8))
    have hX := hR.ran hB
    go_returns
    exact ⟨rfl, by rw [e]; exact hX⟩
  | false =>
    replace hM : (if y1 then { S with fl := x2 }.mod k (fun t => (t.park 2).1) else { S with fl := x2 }) = M := by rw [← hM]; simp [St.commit2, hl]
    replace hm0 := hm0 x2
    generalize t.park 2 = r0 at *
    obtain ⟨r1, r2⟩ := r0
    have ht1 : (St.ths { S with fl := x2 })[k]? = some t := ht
    go_wp2_with (first
        | (go_at_call 139; (with_reducible refine (G).mono ?_); rintro e w5 ⟨rfl, hR, hB⟩)
        | (go_at_call 119; (with_reducible refine (me_s _ _ _ _ _ _ _ hR).mono ?_); rintro e w1 ⟨rfl, hw⟩; subst hw; replace hR := hR.drew; replace hB := hB.drew; have f8 := (hR.field ht (j := 8) rfl).1; rw [hl] at f8))
    refine wp_region_tree (RunAt 157 base b gb S L k) (AnyW) 20 (by kernel_rfl)
      (.fork [(2, 0), (2, 1), (2, 2), (2, 3), (2, 5), (2, 10), (2, 11), (2, 12), (1, 4), (1, 13)] 6 (.fork [(2, 7), (2, 8), (1, 9)] 14 (.leaf [(2, 15), (2, 16), (2, 17), (2, 18), (0, 19), (0, 20), (2, 21), (2, 22)]) 19 (.leaf [(0, 14), (2, 15), (2, 16), (2, 17), (2, 18), (0, 20), (2, 21), (2, 22)])) 19 (.leaf [(0, 6), (2, 7), (2, 8), (1, 9), (0, 14), (2, 15), (2, 16), (2, 17), (2, 18), (0, 20), (2, 21), (2, 22)]))
      (by kernel_rfl) (by kernel_rfl) (by decide) (by kernel_rfl) (fun _ _ d _ _ h => by cases d <;> exact h) ?_
    have hS := hR.drew
    replace hB := hB.drew
    clear hR f8
    generalize w5.drew.drew = w0 at *
    refine tree_fork ?_
    simp only [inOrder2, List.getElem?_cons_succ, List.getElem?_cons_zero, List.nil_append, List.cons_append]
    iterate 8 (((with_reducible refine o3_calmF (v := ?_) (a' := ?_) hS ?_ (fun V => ?_) ?_ ?_); rotate_left 2; (rfl); (first | (go_simp; with_reducible rfl) | (go_simp; refine (if_pos ?_).trans ?_; omega; with_reducible rfl)); (simp only [Act.put, List.setIfInBounds_toArray, List.set_cons_succ, List.set_cons_zero] <;> rfl)))
    iterate 2 (((with_reducible refine o3_pre (v := ?_) (a' := ?_) hS ?_ (fun V hV => ?_) ?_ ?_); rotate_left 2; (rfl); (have c13 : V.cell? ⟨b, 13, none⟩ = some (.int .i64 S.fe) := (hV.cell 13).1; have c14 : V.cell? ⟨b, 14, none⟩ = some (.slice L.a4 S.fl.length L.c4) := (hV.cell 14).1; have c20 : V.cell? ⟨b, 20, none⟩ = some (.int .i64 k) := (hV.cell 20).1; have q6 := (hV.field ht (j := 6) rfl).1; first | (go_simp; with_reducible rfl) | (go_simp; refine (if_pos ?_).trans ?_; omega; with_reducible rfl)); (simp only [Act.put, List.setIfInBounds_toArray, List.set_cons_succ, List.set_cons_zero] <;> rfl)))
    refine tree_end _ ⟨?_, ?_⟩
    · refine o3_onlyF rfl rfl ?_
      go_simp
      refine ⟨trivial, rfl, (callsIn_wide.2 (me_s _ _ _ _ _ _ _ hS)).mono ?_⟩
      rintro e w1 ⟨rfl, hw⟩
      subst hw
      replace hS := hS.drew
      replace hB := hB.drew
      generalize w0.drew = wd at *
      refine ⟨hS, ?_⟩
      refine tree_end _ ?_
      refine tree_fork ?_
      simp only [inOrder2, List.getElem?_cons_succ, List.getElem?_cons_zero, List.nil_append, List.cons_append]
      iterate 2 (((with_reducible refine o3_calmF (v := ?_) (a' := ?_) hS ?_ (fun V => ?_) ?_ ?_); rotate_left 2; (rfl); (first | (go_simp; with_reducible rfl) | (go_simp; refine (if_pos ?_).trans ?_; omega; with_reducible rfl)); (simp only [Act.put, List.setIfInBounds_toArray, List.set_cons_succ, List.set_cons_zero] <;> rfl)))
      ((with_reducible refine o3_pre (v := ?_) (a' := ?_) hS ?_ (fun V hV => ?_) ?_ ?_); rotate_left 2; (rfl); (have c13 : V.cell? ⟨b, 13, none⟩ = some (.int .i64 S.fe) := (hV.cell 13).1; have c14 : V.cell? ⟨b, 14, none⟩ = some (.slice L.a4 S.fl.length L.c4) := (hV.cell 14).1; have c20 : V.cell? ⟨b, 20, none⟩ = some (.int .i64 k) := (hV.cell 20).1; have q6 := (hV.field ht (j := 6) rfl).1; first | (go_simp; with_reducible rfl) | (go_simp; refine (if_pos ?_).trans ?_; omega; with_reducible rfl)); (simp only [Act.put, List.setIfInBounds_toArray, List.set_cons_succ, List.set_cons_zero] <;> rfl))
      refine tree_end _ ⟨?_, ?_⟩
      · refine o3_onlyF rfl rfl ?_
        go_simp
        refine ⟨trivial, rfl, (callsIn_wide.2 (E _ hS)).mono ?_⟩
        rintro e w2 ⟨A1, c1, rfl, hm, hb⟩
        have hle9 := hS.base_le.2.2.2.2
        replace hB := hB.trans (hb.mono hle9)
        replace hS := hS.on hb
        replace hm := hm.mono hle9
        clear hb
        refine ⟨hS, ?_⟩
        refine tree_end _ ?_
        refine tree_leaf ?_
        simp only [inOrder2, List.getElem?_cons_succ, List.getElem?_cons_zero, List.nil_append, List.cons_append]
        iterate 4 (((with_reducible refine o3_calmF (v := ?_) (a' := ?_) hS ?_ (fun V => ?_) ?_ ?_); rotate_left 2; (rfl); (first | (go_simp; with_reducible rfl) | (go_simp; refine (if_pos ?_).trans ?_; omega; with_reducible rfl)); (simp only [Act.put, List.setIfInBounds_toArray, List.set_cons_succ, List.set_cons_zero] <;> rfl)))
        refine o3_onlyF rfl rfl ?_
        go_simp
        obtain ⟨B, hBe, kB, hS2, hB2, hne, hle2⟩ := new_own hS hB (.cells #[.int .i64 0, .slice none 0 0] 32)
        replace hS := hS2
        replace hB := hB2
        clear hS2 hB2
        refine ⟨hS, ?_⟩
        rw [← hBe]
        clear hBe
        replace hm := hm.alloc (.cells #[.int .i64 0, .slice none 0 0] 32)
        generalize w2.alloc (.cells #[.int .i64 0, .slice none 0 0] 32) = wa at *
        obtain ⟨d0, g0⟩ := of_block kB 0
        obtain ⟨d1, g1⟩ := of_block kB 1
        refine o3_onlyS rfl rfl ?_
        go_simp
        refine ⟨trivial, ?_⟩
        clear d0 g0 d1 g1
        iterate 2 (((with_reducible refine o3_calmT (v := ?_) (a' := ?_) (any_ _) ?_ (fun V => ?_) ?_ ?_); rotate_left 2; (rfl); (first | (go_simp; with_reducible rfl) | (go_simp; refine (if_pos ?_).trans ?_; omega; with_reducible rfl)); (simp only [Act.put, List.setIfInBounds_toArray, List.set_cons_succ, List.set_cons_zero] <;> rfl)))
        refine tree_end _ ?_
        try simp only [Exit.then]
        replace hB := (hB.setCell (p := ⟨B, 0, none⟩) hle2 (.int .i64 S.fe)).setCell (p := ⟨B, 1, none⟩) hle2 (.slice A1 x2.length c1)
        have hR := hS.aside kB okEv hne (two_cells wa B 0 1 (.int .i64 S.fe) (.slice A1 x2.length c1))
        replace hm := hm.sameBut (hm.notBlock kB okEv.2.1) (two_cells wa B 0 1 (.int .i64 S.fe) (.slice A1 x2.length c1))
        replace kB := put_cell (i := 1) (put_cell (i := 0) kB (.int .i64 S.fe)) (.slice A1 x2.length c1)
        clear hS
        generalize (wa.setCell ⟨B, 0, none⟩ (.int .i64 S.fe)).setCell ⟨B, 1, none⟩ (.slice A1 x2.length c1) = wz at *
        obtain ⟨d0, g0⟩ := of_block kB 0
        obtain ⟨d1, g1⟩ := of_block kB 1
        obtain ⟨b13, f13⟩ := hR.cell 13
        obtain ⟨b14, f14⟩ := hR.cell 14
        replace hB := (hB.setCell (p := ⟨b, 13, none⟩) (show base ≤ b from hR.le) (.int .i64 S.fe)).setCell (p := ⟨b, 14, none⟩) (show base ≤ b from hR.le) (.slice A1 x2.length c1)
        replace hR := hR.putFull (ep := S.fe) hm
        cases y1
        · have e : M = { S with fl := x2 } := hM.symm
          have hX := hR.ran hB
          go_wp2
          go_returns
          exact ⟨rfl, by rw [e]; exact hX⟩
        · have e : M = St.setTh { S with fl := x2 } k r1 := hM.symm.trans hm0
          go_wp2_with (first
              | (go_at_call 119; (with_reducible refine (me_s _ _ _ _ _ _ _ hR).mono ?_); rintro e w1 ⟨rfl, hw⟩; subst hw; replace hR := hR.drew; replace hB := hB.drew; have hcs := th_cells hR.mine ht1)
              | (go_at_call 150; (with_reducible refine (PP _).mono ?_); rintro e w7 ⟨rfl, hb7⟩; have h77 := hR.base_le.2.2.2.2; replace hR := hR.on hb7; obtain ⟨V, hst, hm2, hg2, hB2⟩ := store_th hR.mine hR.hk r1)
              | ((with_reducible refine wpList_val (loadT Tryz.isAgg51 Tryz.sizeOf51 (cs := t.list) hcs rfl ?_) ?_); (focus rfl))
              | ((with_reducible refine wpList_skip (storeT Tryz.sizeOf51 hst ?_ ?_ ?_) ?_); (focus rfl); (focus rfl); (focus rfl)))
          go_returns
          exact ⟨rfl, by rw [e]; exact RunAt.ran (hR.stored hm2 hg2) ((hB.trans (hb7.mono h77)).trans hB2)⟩
      · refine o3_onlyF rfl rfl ?_
        go_simp
        obtain ⟨B, hBe, kB, hS2, hB2, hne, hle2⟩ := new_own hS hB (.cells #[.int .i64 0, .slice none 0 0] 32)
        replace hS := hS2
        replace hB := hB2
        clear hS2 hB2
        refine ⟨hS, ?_⟩
        rw [← hBe]
        clear hBe
        generalize wd.alloc (.cells #[.int .i64 0, .slice none 0 0] 32) = wa at *
        refine tree_end _ ?_
        refine tree_leaf ?_
        simp only [inOrder2, List.getElem?_cons_succ, List.getElem?_cons_zero, List.nil_append, List.cons_append]
        refine o3_onlyF rfl rfl ?_
        go_simp
        refine ⟨trivial, rfl, (callsIn_wide.2 (E _ hS)).mono ?_⟩
        rintro e w2 ⟨A1, c1, rfl, hm, hb⟩
        have hle9 := hS.base_le.2.2.2.2
        replace hB := hB.trans (hb.mono hle9)
        replace kB := kept kB hb
        replace hS := hS.on hb
        replace hm := hm.mono hle9
        clear hb
        refine ⟨hS, ?_⟩
        iterate 4 (((with_reducible refine o3_calmF (v := ?_) (a' := ?_) hS ?_ (fun V => ?_) ?_ ?_); rotate_left 2; (rfl); (first | (go_simp; with_reducible rfl) | (go_simp; refine (if_pos ?_).trans ?_; omega; with_reducible rfl)); (simp only [Act.put, List.setIfInBounds_toArray, List.set_cons_succ, List.set_cons_zero] <;> rfl)))
        obtain ⟨d0, g0⟩ := of_block kB 0
        obtain ⟨d1, g1⟩ := of_block kB 1
        refine o3_onlyS rfl rfl ?_
        go_simp
        refine ⟨trivial, ?_⟩
        clear d0 g0 d1 g1
        iterate 2 (((with_reducible refine o3_calmT (v := ?_) (a' := ?_) (any_ _) ?_ (fun V => ?_) ?_ ?_); rotate_left 2; (rfl); (first | (go_simp; with_reducible rfl) | (go_simp; refine (if_pos ?_).trans ?_; omega; with_reducible rfl)); (simp only [Act.put, List.setIfInBounds_toArray, List.set_cons_succ, List.set_cons_zero] <;> rfl)))
        refine tree_end _ ?_
        try simp only [Exit.then]
        replace hB := (hB.setCell (p := ⟨B, 0, none⟩) hle2 (.int .i64 S.fe)).setCell (p := ⟨B, 1, none⟩) hle2 (.slice A1 x2.length c1)
        have hR := hS.aside kB okEv hne (two_cells w2 B 0 1 (.int .i64 S.fe) (.slice A1 x2.length c1))
        replace hm := hm.sameBut (hm.notBlock kB okEv.2.1) (two_cells w2 B 0 1 (.int .i64 S.fe) (.slice A1 x2.length c1))
        replace kB := put_cell (i := 1) (put_cell (i := 0) kB (.int .i64 S.fe)) (.slice A1 x2.length c1)
        clear hS
        generalize (w2.setCell ⟨B, 0, none⟩ (.int .i64 S.fe)).setCell ⟨B, 1, none⟩ (.slice A1 x2.length c1) = wz at *
        obtain ⟨d0, g0⟩ := of_block kB 0
        obtain ⟨d1, g1⟩ := of_block kB 1
        obtain ⟨b13, f13⟩ := hR.cell 13
        obtain ⟨b14, f14⟩ := hR.cell 14
        replace hB := (hB.setCell (p := ⟨b, 13, none⟩) (show base ≤ b from hR.le) (.int .i64 S.fe)).setCell (p := ⟨b, 14, none⟩) (show base ≤ b from hR.le) (.slice A1 x2.length c1)
        replace hR := hR.putFull (ep := S.fe) hm
        cases y1
        · have e : M = { S with fl := x2 } := hM.symm
          have hX := hR.ran hB
          go_wp2
          go_returns
          exact ⟨rfl, by rw [e]; exact hX⟩
        · have e : M = St.setTh { S with fl := x2 } k r1 := hM.symm.trans hm0
          go_wp2_with (first
              | (go_at_call 119; (with_reducible refine (me_s _ _ _ _ _ _ _ hR).mono ?_); rintro e w1 ⟨rfl, hw⟩; subst hw; replace hR := hR.drew; replace hB := hB.drew; have hcs := th_cells hR.mine ht1)
              | (go_at_call 150; (with_reducible refine (PP _).mono ?_); rintro e w7 ⟨rfl, hb7⟩; have h77 := hR.base_le.2.2.2.2; replace hR := hR.on hb7; obtain ⟨V, hst, hm2, hg2, hB2⟩ := store_th hR.mine hR.hk r1)
              | ((with_reducible refine wpList_val (loadT Tryz.isAgg51 Tryz.sizeOf51 (cs := t.list) hcs rfl ?_) ?_); (focus rfl))
              | ((with_reducible refine wpList_skip (storeT Tryz.sizeOf51 hst ?_ ?_ ?_) ?_); (focus rfl); (focus rfl); (focus rfl)))
          go_returns
          exact ⟨rfl, by rw [e]; exact RunAt.ran (hR.stored hm2 hg2) ((hB.trans (hb7.mono h77)).trans hB2)⟩
    · refine o3_onlyF rfl rfl ?_
      go_simp
      obtain ⟨B, hBe, kB, hS2, hB2, hne, hle2⟩ := new_own hS hB (.cells #[.int .i64 0, .slice none 0 0] 32)
      replace hS := hS2
      replace hB := hB2
      clear hS2 hB2
      refine ⟨hS, ?_⟩
      rw [← hBe]
      clear hBe
      generalize w0.alloc (.cells #[.int .i64 0, .slice none 0 0] 32) = wa at *
      refine tree_end _ ?_
      refine tree_leaf ?_
      simp only [inOrder2, List.getElem?_cons_succ, List.getElem?_cons_zero, List.nil_append, List.cons_append]
      refine o3_onlyF rfl rfl ?_
      go_simp
      refine ⟨trivial, rfl, (callsIn_wide.2 (me_s _ _ _ _ _ _ _ hS)).mono ?_⟩
      rintro e w1 ⟨rfl, hw⟩
      subst hw
      replace hS := hS.drew
      replace hB := hB.drew
      replace kB : wa.drew.heap[B]? = _ := kB
      generalize wa.drew = wd at *
      refine ⟨hS, ?_⟩
      iterate 2 (((with_reducible refine o3_calmF (v := ?_) (a' := ?_) hS ?_ (fun V => ?_) ?_ ?_); rotate_left 2; (rfl); (first | (go_simp; with_reducible rfl) | (go_simp; refine (if_pos ?_).trans ?_; omega; with_reducible rfl)); (simp only [Act.put, List.setIfInBounds_toArray, List.set_cons_succ, List.set_cons_zero] <;> rfl)))
      ((with_reducible refine o3_pre (v := ?_) (a' := ?_) hS ?_ (fun V hV => ?_) ?_ ?_); rotate_left 2; (rfl); (have c13 : V.cell? ⟨b, 13, none⟩ = some (.int .i64 S.fe) := (hV.cell 13).1; have c14 : V.cell? ⟨b, 14, none⟩ = some (.slice L.a4 S.fl.length L.c4) := (hV.cell 14).1; have c20 : V.cell? ⟨b, 20, none⟩ = some (.int .i64 k) := (hV.cell 20).1; have q6 := (hV.field ht (j := 6) rfl).1; first | (go_simp; with_reducible rfl) | (go_simp; refine (if_pos ?_).trans ?_; omega; with_reducible rfl)); (simp only [Act.put, List.setIfInBounds_toArray, List.set_cons_succ, List.set_cons_zero] <;> rfl))
      refine o3_onlyF rfl rfl ?_
      go_simp
      refine ⟨trivial, rfl, (callsIn_wide.2 (E _ hS)).mono ?_⟩
      rintro e w2 ⟨A1, c1, rfl, hm, hb⟩
      have hle9 := hS.base_le.2.2.2.2
      replace hB := hB.trans (hb.mono hle9)
      replace kB := kept kB hb
      replace hS := hS.on hb
      replace hm := hm.mono hle9
      clear hb
      refine ⟨hS, ?_⟩
      iterate 4 (((with_reducible refine o3_calmF (v := ?_) (a' := ?_) hS ?_ (fun V => ?_) ?_ ?_); rotate_left 2; (rfl); (first | (go_simp; with_reducible rfl) | (go_simp; refine (if_pos ?_).trans ?_; omega; with_reducible rfl)); (simp only [Act.put, List.setIfInBounds_toArray, List.set_cons_succ, List.set_cons_zero] <;> rfl)))
      obtain ⟨d0, g0⟩ := of_block kB 0
      obtain ⟨d1, g1⟩ := of_block kB 1
      refine o3_onlyS rfl rfl ?_
      go_simp
      refine ⟨trivial, ?_⟩
      clear d0 g0 d1 g1
      iterate 2 (((with_reducible refine o3_calmT (v := ?_) (a' := ?_) (any_ _) ?_ (fun V => ?_) ?_ ?_); rotate_left 2; (rfl); (first | (go_simp; with_reducible rfl) | (go_simp; refine (if_pos ?_).trans ?_; omega; with_reducible rfl)); (simp only [Act.put, List.setIfInBounds_toArray, List.set_cons_succ, List.set_cons_zero] <;> rfl)))
      refine tree_end _ ?_
      try simp only [Exit.then]
      replace hB := (hB.setCell (p := ⟨B, 0, none⟩) hle2 (.int .i64 S.fe)).setCell (p := ⟨B, 1, none⟩) hle2 (.slice A1 x2.length c1)
      have hR := hS.aside kB okEv hne (two_cells w2 B 0 1 (.int .i64 S.fe) (.slice A1 x2.length c1))
      replace hm := hm.sameBut (hm.notBlock kB okEv.2.1) (two_cells w2 B 0 1 (.int .i64 S.fe) (.slice A1 x2.length c1))
      replace kB := put_cell (i := 1) (put_cell (i := 0) kB (.int .i64 S.fe)) (.slice A1 x2.length c1)
      clear hS
      generalize (w2.setCell ⟨B, 0, none⟩ (.int .i64 S.fe)).setCell ⟨B, 1, none⟩ (.slice A1 x2.length c1) = wz at *
      obtain ⟨d0, g0⟩ := of_block kB 0
      obtain ⟨d1, g1⟩ := of_block kB 1
      obtain ⟨b13, f13⟩ := hR.cell 13
      obtain ⟨b14, f14⟩ := hR.cell 14
      replace hB := (hB.setCell (p := ⟨b, 13, none⟩) (show base ≤ b from hR.le) (.int .i64 S.fe)).setCell (p := ⟨b, 14, none⟩) (show base ≤ b from hR.le) (.slice A1 x2.length c1)
      replace hR := hR.putFull (ep := S.fe) hm
      cases y1
      · have e : M = { S with fl := x2 } := hM.symm
        have hX := hR.ran hB
        go_wp2
        go_returns
        exact ⟨rfl, by rw [e]; exact hX⟩
      · have e : M = St.setTh { S with fl := x2 } k r1 := hM.symm.trans hm0
        go_wp2_with (first
            | (go_at_call 119; (with_reducible refine (me_s _ _ _ _ _ _ _ hR).mono ?_); rintro e w1 ⟨rfl, hw⟩; subst hw; replace hR := hR.drew; replace hB := hB.drew; have hcs := th_cells hR.mine ht1)
            | (go_at_call 150; (with_reducible refine (PP _).mono ?_); rintro e w7 ⟨rfl, hb7⟩; have h77 := hR.base_le.2.2.2.2; replace hR := hR.on hb7; obtain ⟨V, hst, hm2, hg2, hB2⟩ := store_th hR.mine hR.hk r1)
            | ((with_reducible refine wpList_val (loadT Tryz.isAgg51 Tryz.sizeOf51 (cs := t.list) hcs rfl ?_) ?_); (focus rfl))
            | ((with_reducible refine wpList_skip (storeT Tryz.sizeOf51 hst ?_ ?_ ?_) ?_); (focus rfl); (focus rfl); (focus rfl)))
        go_returns
        exact ⟨rfl, by rw [e]; exact RunAt.ran (hR.stored hm2 hg2) ((hB.trans (hb7.mono h77)).trans hB2)⟩

theorem commit_s (S : St) (L : Lay) (base b gb k : Nat) (w : World) (hR : RunAt 157 base b gb (S) L k w) (hsm : S.small) (t : Th) (ht : S.ths[k]? = some t) : Calls Tryz.prog 115 #[.pointer (some ⟨b, 0, none⟩)] w fun e w' => e = .returned (.tuple #[]) ∧ Ran 157 base b k (((S.mod k (Th.at 2)).commit2 k (Th.at 2 t) (cmtE S.fe S.fl t.seen k))) w w' :=
  commit_core _ L base b gb k _ w (mod_small hsm) (mod_get ht _) (go_s S L base b gb k 2 w hR)

set_option maxRecDepth 100000 in
set_option maxHeartbeats 4000000 in
theorem evict_s (S : St) (L : Lay) (base b gb k : Nat) (w : World) (hR : RunAt 157 base b gb (S) L k w) (hsm : S.small) (t : Th) (ht : S.ths[k]? = some t) :
    Calls Tryz.prog 117 #[.pointer (some ⟨b, 0, none⟩)] w fun e w' => e = .returned (.tuple #[]) ∧ Ran 157 base b k ((St.evict1 { S with word := (S.word.evi S.slots.length t.reg).1 } k (S.value t.reg) (S.word.evi S.slots.length t.reg).2)) w w' := by
  have E := fun W => word_evict S.word S.slots.length t.reg W
  generalize S.word.evi S.slots.length t.reg = x at *
  obtain ⟨x1, y⟩ := x
  dsimp only at *
  generalize hgot : S.value t.reg = got at *
  generalize hM : St.evict1 { S with word := x1 } k got y = M at *
  have hsm1 : St.small { S with word := x1 } := hsm
  have hB := Below.refl base w
  go_enter Tryz.func117, Tryz.ntmps117
  go_wp2_with (first
      | (go_at_call 119; (with_reducible refine (me_s _ _ _ _ _ _ _ hR).mono ?_); rintro e w1 ⟨rfl, hw⟩; subst hw; replace hR := hR.drew; replace hB := hB.drew; have f5 := (hR.field ht (j := 5) rfl).1)
      | ((with_reducible refine wpList_val (loadBox hR ?_) ?_); (focus rfl))
      | (go_at_call 151; (with_reducible refine (value_any S L t.reg _ hsm hR.ho.holds).mono ?_); rw [hgot]; rintro e w6 ⟨rfl, hb⟩; have hle := hR.base_le.2.2.2.2; replace hB := hB.trans (hb.mono hle); replace hR := hR.on hb; clear hb))
  refine wp_region_tree (RunAt 157 base b gb S L k) (AnyW) 13 (by kernel_rfl)
    (.fork [(2, 0), (2, 1), (2, 2), (2, 3), (2, 5), (2, 7), (1, 4)] 6 (.fork [] 8 (.leaf [(2, 9), (2, 10), (2, 11), (0, 12), (0, 13), (2, 14)]) 12 (.leaf [(0, 8), (2, 9), (2, 10), (2, 11), (0, 13), (2, 14)])) 12 (.leaf [(0, 6), (0, 8), (2, 9), (2, 10), (2, 11), (0, 13), (2, 14)]))
    (by kernel_rfl) (by kernel_rfl) (by decide) (by kernel_rfl) (fun _ _ d _ _ h => by cases d <;> exact h) ?_
  have hS := hR.drew
  replace hB := hB.drew
  clear hR
  generalize w6.drew = w0 at *
  refine tree_fork ?_
  simp only [inOrder2, List.getElem?_cons_succ, List.getElem?_cons_zero, List.nil_append, List.cons_append]
  iterate 6 (((with_reducible refine o3_calmF (v := ?_) (a' := ?_) hS ?_ (fun V => ?_) ?_ ?_); rotate_left 2; (rfl); (first | (go_simp; with_reducible rfl) | (go_simp; refine (if_pos ?_).trans ?_; omega; with_reducible rfl)); (simp only [Act.put, List.setIfInBounds_toArray, List.set_cons_succ, List.set_cons_zero] <;> rfl)))
  ((with_reducible refine o3_pre (v := ?_) (a' := ?_) hS ?_ (fun V hV => ?_) ?_ ?_); rotate_left 2; (rfl); (have c7 : V.cell? ⟨b, 7, none⟩ = some (.int .i64 S.word.head) := (hV.cell 7).1; have c8 : V.cell? ⟨b, 8, none⟩ = some (.int .i64 S.word.tail) := (hV.cell 8).1; have c9 : V.cell? ⟨b, 9, none⟩ = some (.int .i64 S.word.mode) := (hV.cell 9).1; first | (go_simp; with_reducible rfl) | (go_simp; refine (if_pos ?_).trans ?_; omega; with_reducible rfl)); (simp only [Act.put, List.setIfInBounds_toArray, List.set_cons_succ, List.set_cons_zero] <;> rfl))
  refine tree_end _ ⟨?_, ?_⟩
  · refine o3_onlyF rfl rfl ?_
    go_simp
    refine ⟨trivial, rfl, (callsIn_wide.2 (room_s _ _ _ _ _ _ _ hS)).mono ?_⟩
    rintro e w1 ⟨rfl, hw⟩
    obtain rfl := hw.symm
    clear hw
    refine ⟨hS, ?_⟩
    refine tree_end _ ?_
    refine tree_fork ?_
    simp only [inOrder2, List.getElem?_cons_succ, List.getElem?_cons_zero, List.nil_append, List.cons_append]
    refine tree_end _ ⟨?_, ?_⟩
    · refine o3_onlyF rfl rfl ?_
      go_simp
      refine ⟨trivial, rfl, (callsIn_wide.2 (E _)).mono ?_⟩
      rintro e w2 ⟨rfl, hb⟩
      have hle9 := hS.base_le.2.2.2.2
      replace hB := hB.trans (hb.mono hle9)
      replace hS := hS.on hb
      clear hb
      refine ⟨hS, ?_⟩
      refine tree_end _ ?_
      refine tree_leaf ?_
      simp only [inOrder2, List.getElem?_cons_succ, List.getElem?_cons_zero, List.nil_append, List.cons_append]
      iterate 3 (((with_reducible refine o3_calmF (v := ?_) (a' := ?_) hS ?_ (fun V => ?_) ?_ ?_); rotate_left 2; (rfl); (first | (go_simp; with_reducible rfl) | (go_simp; refine (if_pos ?_).trans ?_; omega; with_reducible rfl)); (simp only [Act.put, List.setIfInBounds_toArray, List.set_cons_succ, List.set_cons_zero] <;> rfl)))
      refine o3_onlyF rfl rfl ?_
      go_simp
      obtain ⟨B, hBe, kB, hS2, hB2, hne, hle2⟩ := new_own hS hB (.cells #[.int .i64 0, .int .i64 0, .int .i64 0] 28)
      replace hS := hS2
      replace hB := hB2
      clear hS2 hB2
      refine ⟨hS, ?_⟩
      rw [← hBe]
      clear hBe
      generalize w2.alloc (.cells #[.int .i64 0, .int .i64 0, .int .i64 0] 28) = wa at *
      obtain ⟨d0, g0⟩ := of_block kB 0
      obtain ⟨d1, g1⟩ := of_block kB 1
      obtain ⟨d2, g2⟩ := of_block kB 2
      refine o3_onlyS rfl rfl ?_
      go_simp
      refine ⟨trivial, ?_⟩
      clear d0 g0 d1 g1 d2 g2
      ((with_reducible refine o3_calmT (v := ?_) (a' := ?_) (any_ _) ?_ (fun V => ?_) ?_ ?_); rotate_left 2; (rfl); (first | (go_simp; with_reducible rfl) | (go_simp; refine (if_pos ?_).trans ?_; omega; with_reducible rfl)); (simp only [Act.put, List.setIfInBounds_toArray, List.set_cons_succ, List.set_cons_zero] <;> rfl))
      refine tree_end _ ?_
      try simp only [Exit.then]
      replace hB := ((hB.setCell (p := ⟨B, 0, none⟩) hle2 (.int .i64 x1.head)).setCell (p := ⟨B, 1, none⟩) hle2 (.int .i64 x1.tail)).setCell (p := ⟨B, 2, none⟩) hle2 (.int .i64 x1.mode)
      have hR := hS.aside kB okWo hne (three_cells wa B 0 1 2 (.int .i64 x1.head) (.int .i64 x1.tail) (.int .i64 x1.mode))
      replace kB := put_cell (i := 2) (put_cell (i := 1) (put_cell (i := 0) kB (.int .i64 x1.head)) (.int .i64 x1.tail)) (.int .i64 x1.mode)
      clear hS
      generalize ((wa.setCell ⟨B, 0, none⟩ (.int .i64 x1.head)).setCell ⟨B, 1, none⟩ (.int .i64 x1.tail)).setCell ⟨B, 2, none⟩ (.int .i64 x1.mode) = wz at *
      obtain ⟨d0, g0⟩ := of_block kB 0
      obtain ⟨d1, g1⟩ := of_block kB 1
      obtain ⟨d2, g2⟩ := of_block kB 2
      obtain ⟨b7, f7⟩ := hR.cell 7
      obtain ⟨b8, f8⟩ := hR.cell 8
      obtain ⟨b9, f9⟩ := hR.cell 9
      replace hB := ((hB.setCell (p := ⟨b, 7, none⟩) (show base ≤ b from hR.le) (.int .i64 x1.head)).setCell (p := ⟨b, 8, none⟩) (show base ≤ b from hR.le) (.int .i64 x1.tail)).setCell (p := ⟨b, 9, none⟩) (show base ≤ b from hR.le) (.int .i64 x1.mode)
      replace hR := hR.putWord (x := x1)
      cases y
      · have e : M = St.mod { S with word := x1 } k (Th.at 2) := hM.symm
        go_wp2_with (first
            | (go_at_call 139; (with_reducible refine (go_s _ _ _ _ _ _ _ _ hR).mono ?_); rintro e w5 ⟨rfl, h5, hb5⟩; replace hB := hB.trans hb5; have hX := h5.ran hB))
        go_returns
        exact ⟨rfl, by rw [e]; exact hX⟩
      · have e : M = (St.tell { S with word := x1 } k 9 1 got).mod k (Th.at 11) := hM.symm
        go_wp2_with (first
            | (go_at_call 146; (with_reducible refine (tell_s _ _ _ _ _ _ _ _ _ _ _ hR hsm1).mono ?_); rintro e w5 ⟨rfl, h5⟩; have hX := h5.trans hB))
        go_returns
        exact ⟨rfl, by rw [e]; exact hX⟩
    · refine o3_onlyF rfl rfl ?_
      go_simp
      obtain ⟨B, hBe, kB, hS2, hB2, hne, hle2⟩ := new_own hS hB (.cells #[.int .i64 0, .int .i64 0, .int .i64 0] 28)
      replace hS := hS2
      replace hB := hB2
      clear hS2 hB2
      refine ⟨hS, ?_⟩
      rw [← hBe]
      clear hBe
      generalize w0.alloc (.cells #[.int .i64 0, .int .i64 0, .int .i64 0] 28) = wa at *
      refine tree_end _ ?_
      refine tree_leaf ?_
      simp only [inOrder2, List.getElem?_cons_succ, List.getElem?_cons_zero, List.nil_append, List.cons_append]
      refine o3_onlyF rfl rfl ?_
      go_simp
      refine ⟨trivial, rfl, (callsIn_wide.2 (E _)).mono ?_⟩
      rintro e w2 ⟨rfl, hb⟩
      have hle9 := hS.base_le.2.2.2.2
      replace hB := hB.trans (hb.mono hle9)
      replace kB := kept kB hb
      replace hS := hS.on hb
      clear hb
      refine ⟨hS, ?_⟩
      iterate 3 (((with_reducible refine o3_calmF (v := ?_) (a' := ?_) hS ?_ (fun V => ?_) ?_ ?_); rotate_left 2; (rfl); (first | (go_simp; with_reducible rfl) | (go_simp; refine (if_pos ?_).trans ?_; omega; with_reducible rfl)); (simp only [Act.put, List.setIfInBounds_toArray, List.set_cons_succ, List.set_cons_zero] <;> rfl)))
      obtain ⟨d0, g0⟩ := of_block kB 0
      obtain ⟨d1, g1⟩ := of_block kB 1
      obtain ⟨d2, g2⟩ := of_block kB 2
      refine o3_onlyS rfl rfl ?_
      go_simp
      refine ⟨trivial, ?_⟩
      clear d0 g0 d1 g1 d2 g2
      ((with_reducible refine o3_calmT (v := ?_) (a' := ?_) (any_ _) ?_ (fun V => ?_) ?_ ?_); rotate_left 2; (rfl); (first | (go_simp; with_reducible rfl) | (go_simp; refine (if_pos ?_).trans ?_; omega; with_reducible rfl)); (simp only [Act.put, List.setIfInBounds_toArray, List.set_cons_succ, List.set_cons_zero] <;> rfl))
      refine tree_end _ ?_
      try simp only [Exit.then]
      replace hB := ((hB.setCell (p := ⟨B, 0, none⟩) hle2 (.int .i64 x1.head)).setCell (p := ⟨B, 1, none⟩) hle2 (.int .i64 x1.tail)).setCell (p := ⟨B, 2, none⟩) hle2 (.int .i64 x1.mode)
      have hR := hS.aside kB okWo hne (three_cells w2 B 0 1 2 (.int .i64 x1.head) (.int .i64 x1.tail) (.int .i64 x1.mode))
      replace kB := put_cell (i := 2) (put_cell (i := 1) (put_cell (i := 0) kB (.int .i64 x1.head)) (.int .i64 x1.tail)) (.int .i64 x1.mode)
      clear hS
      generalize ((w2.setCell ⟨B, 0, none⟩ (.int .i64 x1.head)).setCell ⟨B, 1, none⟩ (.int .i64 x1.tail)).setCell ⟨B, 2, none⟩ (.int .i64 x1.mode) = wz at *
      obtain ⟨d0, g0⟩ := of_block kB 0
      obtain ⟨d1, g1⟩ := of_block kB 1
      obtain ⟨d2, g2⟩ := of_block kB 2
      obtain ⟨b7, f7⟩ := hR.cell 7
      obtain ⟨b8, f8⟩ := hR.cell 8
      obtain ⟨b9, f9⟩ := hR.cell 9
      replace hB := ((hB.setCell (p := ⟨b, 7, none⟩) (show base ≤ b from hR.le) (.int .i64 x1.head)).setCell (p := ⟨b, 8, none⟩) (show base ≤ b from hR.le) (.int .i64 x1.tail)).setCell (p := ⟨b, 9, none⟩) (show base ≤ b from hR.le) (.int .i64 x1.mode)
      replace hR := hR.putWord (x := x1)
      cases y
      · have e : M = St.mod { S with word := x1 } k (Th.at 2) := hM.symm
        go_wp2_with (first
            | (go_at_call 139; (with_reducible refine (go_s _ _ _ _ _ _ _ _ hR).mono ?_); rintro e w5 ⟨rfl, h5, hb5⟩; replace hB := hB.trans hb5; have hX := h5.ran hB))
        go_returns
        exact ⟨rfl, by rw [e]; exact hX⟩
      · have e : M = (St.tell { S with word := x1 } k 9 1 got).mod k (Th.at 11) := hM.symm
        go_wp2_with (first
            | (go_at_call 146; (with_reducible refine (tell_s _ _ _ _ _ _ _ _ _ _ _ hR hsm1).mono ?_); rintro e w5 ⟨rfl, h5⟩; have hX := h5.trans hB))
        go_returns
        exact ⟨rfl, by rw [e]; exact hX⟩
  · refine o3_onlyF rfl rfl ?_
    go_simp
    obtain ⟨B, hBe, kB, hS2, hB2, hne, hle2⟩ := new_own hS hB (.cells #[.int .i64 0, .int .i64 0, .int .i64 0] 28)
    replace hS := hS2
    replace hB := hB2
    clear hS2 hB2
    refine ⟨hS, ?_⟩
    rw [← hBe]
    clear hBe
    generalize w0.alloc (.cells #[.int .i64 0, .int .i64 0, .int .i64 0] 28) = wa at *
    refine tree_end _ ?_
    refine tree_leaf ?_
    simp only [inOrder2, List.getElem?_cons_succ, List.getElem?_cons_zero, List.nil_append, List.cons_append]
    refine o3_onlyF rfl rfl ?_
    go_simp
    refine ⟨trivial, rfl, (callsIn_wide.2 (room_s _ _ _ _ _ _ _ hS)).mono ?_⟩
    rintro e w1 ⟨rfl, hw⟩
    obtain rfl := hw.symm
    clear hw
    refine ⟨hS, ?_⟩
    refine o3_onlyF rfl rfl ?_
    go_simp
    refine ⟨trivial, rfl, (callsIn_wide.2 (E _)).mono ?_⟩
    rintro e w2 ⟨rfl, hb⟩
    have hle9 := hS.base_le.2.2.2.2
    replace hB := hB.trans (hb.mono hle9)
    replace kB := kept kB hb
    replace hS := hS.on hb
    clear hb
    refine ⟨hS, ?_⟩
    iterate 3 (((with_reducible refine o3_calmF (v := ?_) (a' := ?_) hS ?_ (fun V => ?_) ?_ ?_); rotate_left 2; (rfl); (first | (go_simp; with_reducible rfl) | (go_simp; refine (if_pos ?_).trans ?_; omega; with_reducible rfl)); (simp only [Act.put, List.setIfInBounds_toArray, List.set_cons_succ, List.set_cons_zero] <;> rfl)))
    obtain ⟨d0, g0⟩ := of_block kB 0
    obtain ⟨d1, g1⟩ := of_block kB 1
    obtain ⟨d2, g2⟩ := of_block kB 2
    refine o3_onlyS rfl rfl ?_
    go_simp
    refine ⟨trivial, ?_⟩
    clear d0 g0 d1 g1 d2 g2
    ((with_reducible refine o3_calmT (v := ?_) (a' := ?_) (any_ _) ?_ (fun V => ?_) ?_ ?_); rotate_left 2; (rfl); (first | (go_simp; with_reducible rfl) | (go_simp; refine (if_pos ?_).trans ?_; omega; with_reducible rfl)); (simp only [Act.put, List.setIfInBounds_toArray, List.set_cons_succ, List.set_cons_zero] <;> rfl))
    refine tree_end _ ?_
    try simp only [Exit.then]
    replace hB := ((hB.setCell (p := ⟨B, 0, none⟩) hle2 (.int .i64 x1.head)).setCell (p := ⟨B, 1, none⟩) hle2 (.int .i64 x1.tail)).setCell (p := ⟨B, 2, none⟩) hle2 (.int .i64 x1.mode)
    have hR := hS.aside kB okWo hne (three_cells w2 B 0 1 2 (.int .i64 x1.head) (.int .i64 x1.tail) (.int .i64 x1.mode))
    replace kB := put_cell (i := 2) (put_cell (i := 1) (put_cell (i := 0) kB (.int .i64 x1.head)) (.int .i64 x1.tail)) (.int .i64 x1.mode)
    clear hS
    generalize ((w2.setCell ⟨B, 0, none⟩ (.int .i64 x1.head)).setCell ⟨B, 1, none⟩ (.int .i64 x1.tail)).setCell ⟨B, 2, none⟩ (.int .i64 x1.mode) = wz at *
    obtain ⟨d0, g0⟩ := of_block kB 0
    obtain ⟨d1, g1⟩ := of_block kB 1
    obtain ⟨d2, g2⟩ := of_block kB 2
    obtain ⟨b7, f7⟩ := hR.cell 7
    obtain ⟨b8, f8⟩ := hR.cell 8
    obtain ⟨b9, f9⟩ := hR.cell 9
    replace hB := ((hB.setCell (p := ⟨b, 7, none⟩) (show base ≤ b from hR.le) (.int .i64 x1.head)).setCell (p := ⟨b, 8, none⟩) (show base ≤ b from hR.le) (.int .i64 x1.tail)).setCell (p := ⟨b, 9, none⟩) (show base ≤ b from hR.le) (.int .i64 x1.mode)
    replace hR := hR.putWord (x := x1)
    cases y
    · have e : M = St.mod { S with word := x1 } k (Th.at 2) := hM.symm
      go_wp2_with (first
          | (go_at_call 139; (with_reducible refine (go_s _ _ _ _ _ _ _ _ hR).mono ?_); rintro e w5 ⟨rfl, h5, hb5⟩; replace hB := hB.trans hb5; have hX := h5.ran hB))
      go_returns
      exact ⟨rfl, by rw [e]; exact hX⟩
    · have e : M = (St.tell { S with word := x1 } k 9 1 got).mod k (Th.at 11) := hM.symm
      go_wp2_with (first
          | (go_at_call 146; (with_reducible refine (tell_s _ _ _ _ _ _ _ _ _ _ _ hR hsm1).mono ?_); rintro e w5 ⟨rfl, h5⟩; have hX := h5.trans hB))
      go_returns
      exact ⟨rfl, by rw [e]; exact hX⟩

end Go.Proofs.YtnbgpopjnpdmgaaGreat
