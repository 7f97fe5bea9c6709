/-
  DERIVED. Recv.
-/
import Derived.Test.YtnbgpopjnpdmgaaGreatPbb
set_option linter.unusedVariables false
set_option linter.unusedSimpArgs false

namespace Go.Proofs.YtnbgpopjnpdmgaaGreat
open Go Go.RowKit Go.Shelf

/-- The box, and the cell of the closures that points to it. -/
structure WalkAt (base b gb pb : Nat) (S : St) (L : Lay) (k : Nat) (W : World) : Prop where
  run : RunAt 161 base b gb S L k W
  cap : W.heap[pb]? = some (.cells #[.pointer (some ⟨b, 0, none⟩)] 159 (0, 0))
theorem okPtr : okT 159 := by unfold okT; decide
theorem cellOf {W : World} {pb : Nat} {T : TypeId} {v : Value} (h : W.heap[pb]? = some (.cells #[v] T (0, 0))) : W.cell? ⟨pb, 0, none⟩ = some v := (of_block h 0).1
theorem capd {W : World} {pb : Nat} {o : Obj} (h : W.heap[pb]? = some o) : W.drew.heap[pb]? = some o := h
section
variable {base b gb pb k : Nat} {S : St} {L : Lay} {W V : World}
theorem WalkAt.on (h : WalkAt base b gb pb S L k W) (hb : Below W.heap.size W V) : WalkAt base b gb pb S L k V := ⟨h.run.on hb, kept h.cap hb⟩
theorem WalkAt.drew (h : WalkAt base b gb pb S L k W) : WalkAt base b gb pb S L k W.drew := ⟨h.run.drew, h.cap⟩
theorem WalkAt.c0 (h : WalkAt base b gb pb S L k W) : W.cell? ⟨pb, 0, none⟩ = some (.pointer (some ⟨b, 0, none⟩)) := cellOf h.cap
theorem WalkAt.nb (h : WalkAt base b gb pb S L k W) : pb ≠ b := by
  intro e
  have h1 := h.cap
  have h2 := h.run.hb
  rw [e, h2] at h1
  injection h1 with h1
  injection h1 with h1 h3 h4
  have := congrArg Array.size h1
  simp [St.cells21, St.cells] at this
theorem WalkAt.ng (h : WalkAt base b gb pb S L k W) : pb ≠ gb := by
  have h2 := h.run.mine.notBlock h.cap okPtr.2.2.1 gb 0 none rfl
  exact fun e => h2 e.symm
theorem WalkAt.put {i : Nat} {v : Value} (h : WalkAt base b gb pb S L k W) : (W.setCell ⟨b, i, none⟩ v).heap[pb]? = some (.cells #[.pointer (some ⟨b, 0, none⟩)] 159 (0, 0)) := (one_cell W b i v pb h.nb).trans h.cap
theorem WalkAt.putg {i : Nat} {v : Value} (h : WalkAt base b gb pb S L k W) : (W.setCell ⟨gb, i, none⟩ v).heap[pb]? = some (.cells #[.pointer (some ⟨b, 0, none⟩)] 159 (0, 0)) := (one_cell W gb i v pb h.ng).trans h.cap
end
theorem go2_r (S : St) (L : Lay) (base b gb pb k : Nat) (pc : Int) (w : World) (hP : WalkAt base b gb pb S L k w) : Calls Tryz.prog 155 #[.pointer (some ⟨b, 0, none⟩), .int .i64 pc] w fun e w' => e = .returned (.tuple #[]) ∧ WalkAt base b gb pb (S.mod k (Th.at pc)) L k w' ∧ Below base w w' := by
  have hR := hP.run
  have M := fun W h => me_r S L base b gb k W h
  have hbb := hR.base_le
  obtain ⟨t, ht⟩ := hR.the
  go_enter Tryz.func155, Tryz.ntmps155
  go_wp2_with (go_at_call 122; (with_reducible refine (M _ hR).mono ?_); rintro e w1 ⟨rfl, hw⟩; subst hw; have hP1 := hP.drew; have hR1 := hR.drew; obtain ⟨c4, f4⟩ := hR1.field ht (j := 4) rfl; have hR2 := hR1.mod ht (Th.at pc) 4 (.int .i64 pc) (by omega) rfl)
  go_returns
  refine ⟨rfl, ⟨hR2, hP1.putg⟩, ?_⟩
  exact ((Below.refl base w).drew).setCell (show base ≤ gb by omega) _
def St.vain1 (S : St) (k : Nat) (t : Th) : St := if t.kind = 5 then S.ends k t 4 else if t.late then S.ends k t 5 else if nextOf S.cfg t.tries = 2 then S.mod k (Th.at 5) else S.mod k Th.on
def St.rlook1 (S : St) (k : Nat) (t : Th) (r : Int) : St := if r = 1 then S.mod k (Th.at 3) else if r = 4 then S.vain1 k t else S.ends k t r

set_option maxRecDepth 100000 in
set_option maxHeartbeats 2000000 in
theorem sees_r (S : St) (L : Lay) (base b gb k : Nat) (w : World) (hR : RunAt 161 base b gb (S) L k w) :
    Calls Tryz.prog 160 #[.pointer (some ⟨b, 0, none⟩)] w fun e w' => e = .returned (.int .i64 (S.word.tak S.slots.length).2.2) ∧ Below w.heap.size w w' := by
  have E := fun W => word_sees S.word S.slots.length W
  generalize (S.word.acc S.slots.length).2.2 = r at *
  generalize (S.word.tak S.slots.length).2.2 = r2 at *
  go_enter Tryz.func160, Tryz.ntmps160
  go_wp2_with fail
  refine wp_region_ord3 (RunAt 161 base b gb S L k) (RunAt 161 base b gb S L k) 11 (by kernel_rfl)
    [(2, 0), (2, 1), (2, 2), (2, 3), (2, 5), (2, 6), (2, 7), (2, 8), (1, 4), (2, 9), (2, 10), (0, 11), (2, 12), (2, 13), (2, 14), (2, 15), (2, 16)]
    (by kernel_rfl) (by kernel_rfl) (by decide) (by kernel_rfl) (fun _ _ d _ _ h => by cases d <;> exact h) ?_
  simp only [inOrder2, List.getElem?_cons_succ, List.getElem?_cons_zero, List.nil_append, List.cons_append]
  have hB := (Below.refl w.heap.size w).drew
  have hS := hR.drew
  have hle : w.heap.size ≤ w.drew.heap.size := Nat.le_refl _
  clear hR
  generalize w.drew = w0 at *
  iterate 8 (((with_reducible refine o3_calmF (v := ?_) (a' := ?_) hS ?_ (fun V => ?_) ?_ ?_); rotate_left 2; (rfl); (first | (go_simp; with_reducible rfl) | (go_simp; refine (if_pos ?_).trans ?_; omega; with_reducible rfl)); (simp only [Act.put, List.setIfInBounds_toArray, List.set_cons_succ, List.set_cons_zero] <;> rfl)))
  ((with_reducible refine o3_pre (v := ?_) (a' := ?_) hS ?_ (fun V hV => ?_) ?_ ?_); rotate_left 2; (rfl); (have c7 : V.cell? ⟨b, 7, none⟩ = some (.int .i64 S.word.head) := (hV.cell 7).1; have c8 : V.cell? ⟨b, 8, none⟩ = some (.int .i64 S.word.tail) := (hV.cell 8).1; have c9 : V.cell? ⟨b, 9, none⟩ = some (.int .i64 S.word.mode) := (hV.cell 9).1; have c10 : V.cell? ⟨b, 10, none⟩ = some (.slice L.a1 S.slots.length L.c1) := (hV.cell 10).1; first | (go_simp; with_reducible rfl) | (go_simp; refine (if_pos ?_).trans ?_; omega; with_reducible rfl)); (simp only [Act.put, List.setIfInBounds_toArray, List.set_cons_succ, List.set_cons_zero] <;> rfl))
  ((with_reducible refine o3_both (v := ?_) (a' := ?_) hS ?_ (fun V hV => ?_) (fun V hV => ?_) ?_ ?_); rotate_left 2; (focus rfl); (focus (have c7 : V.cell? ⟨b, 7, none⟩ = some (.int .i64 S.word.head) := (hV.cell 7).1; have c8 : V.cell? ⟨b, 8, none⟩ = some (.int .i64 S.word.tail) := (hV.cell 8).1; have c9 : V.cell? ⟨b, 9, none⟩ = some (.int .i64 S.word.mode) := (hV.cell 9).1; have c10 : V.cell? ⟨b, 10, none⟩ = some (.slice L.a1 S.slots.length L.c1) := (hV.cell 10).1; first | (go_simp; with_reducible rfl) | (go_simp; refine (if_pos ?_).trans ?_; omega; with_reducible rfl))); (focus (have c7 : V.cell? ⟨b, 7, none⟩ = some (.int .i64 S.word.head) := (hV.cell 7).1; have c8 : V.cell? ⟨b, 8, none⟩ = some (.int .i64 S.word.tail) := (hV.cell 8).1; have c9 : V.cell? ⟨b, 9, none⟩ = some (.int .i64 S.word.mode) := (hV.cell 9).1; have c10 : V.cell? ⟨b, 10, none⟩ = some (.slice L.a1 S.slots.length L.c1) := (hV.cell 10).1; first | (go_simp; done) | (go_simp; with_reducible rfl))); (focus (simp only [Act.put, List.setIfInBounds_toArray, List.set_cons_succ, List.set_cons_zero] <;> rfl)))
  ((with_reducible refine o3_calmF (v := ?_) (a' := ?_) hS ?_ (fun V => ?_) ?_ ?_); rotate_left 2; (rfl); (first | (go_simp; with_reducible rfl) | (go_simp; refine (if_pos ?_).trans ?_; omega; with_reducible rfl)); (simp only [Act.put, List.setIfInBounds_toArray, List.set_cons_succ, List.set_cons_zero] <;> rfl))
  refine o3_onlyS rfl rfl ?_
  go_simp
  refine ⟨trivial, rfl, (callsIn_wide.2 (E _)).mono ?_⟩
  rintro e w2 ⟨rfl, hb⟩
  replace hB := hB.trans (hb.mono hle)
  replace hS := hS.on hb
  refine ⟨hS, ?_⟩
  iterate 5 (((with_reducible refine o3_calmT (v := ?_) (a' := ?_) hS ?_ (fun V => ?_) ?_ ?_); rotate_left 2; (rfl); (first | (go_simp; with_reducible rfl) | (go_simp; refine (if_pos ?_).trans ?_; omega; with_reducible rfl)); (simp only [Act.put, List.setIfInBounds_toArray, List.set_cons_succ, List.set_cons_zero] <;> rfl)))
  refine o3_end _ ?_
  try simp only [Exit.then]
  go_wp2
  go_ret
  exact ⟨rfl, hB⟩

set_option maxRecDepth 100000 in
set_option maxHeartbeats 4000000 in
theorem vain_r (S : St) (L : Lay) (base b gb k : Nat) (w : World) (hR : RunAt 161 base b gb (S) L k w) (hsm : S.small) (t : Th) (ht : S.ths[k]? = some t) (hr : 0 ≤ t.tries ∧ t.tries ≤ 1099511627776) :
    Calls Tryz.prog 161 #[.pointer (some ⟨b, 0, none⟩)] w fun e w' => e = .returned (.tuple #[]) ∧ Ran 161 base b k ((S.vain1 k t)) w w' := by
  have E := fun W => wnext_any S.cfg t.tries W
  generalize hnx : nextOf S.cfg t.tries = nx at *
  generalize hM : S.vain1 k t = M at *
  go_enter Tryz.func161, Tryz.ntmps161
  have hB := Below.refl base w
  by_cases h3 : t.kind = 5
  · have e : M = S.ends k t 4 := by rw [← hM]; simp [St.vain1, h3]
    have h3' : (t.kind == 5) = true := by simpa using h3
    go_wp2_with (first
        | (go_at_call 122; (with_reducible refine (me_r S L base b gb k w hR).mono ?_); rintro e w1 ⟨rfl, hw⟩; subst hw; replace hR := hR.drew; replace hB := hB.drew; have f1 := (hR.field ht (j := 1) rfl).1; have f8 := (hR.field ht (j := 8) rfl).1)
        | (go_at_call 157; (with_reducible refine (ends_r _ _ _ _ _ _ _ _ hR hsm t ht).mono ?_); rintro e w5 ⟨rfl, h5⟩; have hX := h5.trans hB))
    go_returns
    exact ⟨rfl, by rw [e]; exact hX⟩
  have h3' : (t.kind == 5) = false := by simpa using h3
  cases hl : t.late with
  | true =>
    have e : M = S.ends k t 5 := by rw [← hM]; simp [St.vain1, h3, hl]
    go_wp2_with (first
        | (go_at_call 122; (with_reducible refine (me_r S L base b gb k w hR).mono ?_); rintro e w1 ⟨rfl, hw⟩; subst hw; replace hR := hR.drew; replace hB := hB.drew; have f1 := (hR.field ht (j := 1) rfl).1; have f8 := (hR.field ht (j := 8) rfl).1; rw [hl] at f8)
        | (go_at_call 157; (with_reducible refine (ends_r _ _ _ _ _ _ _ _ hR hsm t ht).mono ?_); rintro e w5 ⟨rfl, h5⟩; have hX := h5.trans hB))
    go_returns
    exact ⟨rfl, by rw [e]; exact hX⟩
  | false =>
    go_wp2_with (first
        | (go_at_call 122; (with_reducible refine (me_r S L base b gb k w hR).mono ?_); rintro e w1 ⟨rfl, hw⟩; subst hw; replace hR := hR.drew; replace hB := hB.drew; have f1 := (hR.field ht (j := 1) rfl).1; have f8 := (hR.field ht (j := 8) rfl).1; rw [hl] at f8))
    refine wp_region_ord3 (RunAt 161 base b gb S L k) (AnyW) 9 (by kernel_rfl)
      [(2, 0), (2, 1), (2, 2), (2, 3), (2, 5), (2, 6), (2, 7), (1, 4), (1, 8), (0, 9), (2, 10), (2, 11)]
      (by kernel_rfl) (by kernel_rfl) (by decide) (by kernel_rfl) (fun _ _ d _ _ h => by cases d <;> exact h) ?_
    simp only [inOrder2, List.getElem?_cons_succ, List.getElem?_cons_zero, List.nil_append, List.cons_append]
    have hS := hR.drew
    have hle : base ≤ w.drew.drew.heap.size := hR.base_le.2.2.2.2
    replace hB := hB.drew
    clear hR f1 f8
    generalize w.drew.drew = w0 at *
    iterate 7 (((with_reducible refine o3_calmF (v := ?_) (a' := ?_) hS ?_ (fun V => ?_) ?_ ?_); rotate_left 2; (rfl); (first | (go_simp; with_reducible rfl) | (go_simp; refine (if_pos ?_).trans ?_; omega; with_reducible rfl)); (simp only [Act.put, List.setIfInBounds_toArray, List.set_cons_succ, List.set_cons_zero] <;> rfl)))
    iterate 2 (((with_reducible refine o3_pre (v := ?_) (a' := ?_) hS ?_ (fun V hV => ?_) ?_ ?_); rotate_left 2; (rfl); (have c0 : V.cell? ⟨b, 0, none⟩ = some (.int .i64 S.cfg.log) := (hV.cell 0).1; have c1 : V.cell? ⟨b, 1, none⟩ = some (.int .i64 S.cfg.th) := (hV.cell 1).1; have c2 : V.cell? ⟨b, 2, none⟩ = some (.int .i64 S.cfg.pol) := (hV.cell 2).1; have c3 : V.cell? ⟨b, 3, none⟩ = some (.int .i64 S.cfg.wt) := (hV.cell 3).1; have c4 : V.cell? ⟨b, 4, none⟩ = some (.int .i64 S.cfg.sp) := (hV.cell 4).1; have c5 : V.cell? ⟨b, 5, none⟩ = some (.int .i64 S.cfg.yi) := (hV.cell 5).1; have c6 : V.cell? ⟨b, 6, none⟩ = some (.bool S.cfg.single) := (hV.cell 6).1; have f7 := (hV.field ht (j := 7) rfl).1; first | (go_simp; with_reducible rfl) | (go_simp; refine (if_pos ?_).trans ?_; omega; with_reducible rfl)); (simp only [Act.put, List.setIfInBounds_toArray, List.set_cons_succ, List.set_cons_zero] <;> rfl)))
    refine o3_onlyS rfl rfl ?_
    go_simp
    refine ⟨trivial, rfl, (callsIn_wide.2 (E w0)).mono ?_⟩
    rintro e w2 ⟨rfl, hb⟩
    replace hB := hB.trans (hb.mono hle)
    replace hS := hS.on hb
    refine ⟨trivial, ?_⟩
    iterate 2 (((with_reducible refine o3_calmT (v := ?_) (a' := ?_) (any_ _) ?_ (fun V => ?_) ?_ ?_); rotate_left 2; (rfl); (first | (go_simp; with_reducible rfl) | (go_simp; refine (if_pos ?_).trans ?_; omega; with_reducible rfl)); (simp only [Act.put, List.setIfInBounds_toArray, List.set_cons_succ, List.set_cons_zero] <;> rfl)))
    refine o3_end _ ?_
    try simp only [Exit.then]
    clear hb
    have hR := hS
    by_cases h4 : nx = 2
    · have e : M = S.mod k (Th.at 5) := by rw [← hM]; simp [St.vain1, h3, hl, hnx, h4]
      have h4' : (nx == 2) = true := by simpa using h4
      go_wp2_with (first
          | (go_at_call 155; (with_reducible refine (go_r _ _ _ _ _ _ _ _ hR).mono ?_); rintro e w5 ⟨rfl, h5, hb5⟩; have hX := h5.ran (hB.trans hb5)))
      go_returns
      exact ⟨rfl, by rw [e]; exact hX⟩
    · have e : M = S.mod k Th.on := by rw [← hM]; simp [St.vain1, h3, hl, hnx, h4]
      have h4' : (nx == 2) = false := by simpa using h4
      go_wp2_with (first
          | (go_at_call 158; (with_reducible refine (try_r _ _ _ _ _ _ t _ hR ht hr).mono ?_); rintro e w5 ⟨rfl, h5, hb5⟩; have hX := h5.ran (hB.trans hb5)))
      go_returns
      exact ⟨rfl, by rw [e]; exact hX⟩

set_option maxRecDepth 100000 in
set_option maxHeartbeats 4000000 in
theorem enter_r (S : St) (L : Lay) (base b gb pb k : Nat) (w : World) (hP : WalkAt base b gb pb S L k w) (hsm : S.small) :
    Calls Tryz.prog 154 #[.pointer (some ⟨pb, 0, none⟩)] w fun e w' => e = .returned (.tuple #[]) ∧ Ran 161 base b k (({ S with recvs := (entL S.recvs k).1 }.mod k (Th.at 1))) w w' := by
  have E := fun (V : World) (hV : WalkAt base b gb pb S L k V) => enter_any S.recvs k L.a3 L.c3 V (wide hsm.2.2.1) hV.run.ho.m3.lies
  generalize hx : entL S.recvs k = x at *
  obtain ⟨x2, er⟩ := x
  go_enter Tryz.func154, Tryz.ntmps154
  go_wp2_with fail
  refine wp_region_ord3 (WalkAt base b gb pb S L k) (AnyW) 17 (by kernel_rfl)
    [(1, 0), (1, 1), (2, 2), (2, 3), (2, 4), (1, 5), (1, 6), (2, 7), (2, 8), (1, 9), (0, 10), (2, 11), (2, 12), (2, 13), (2, 14), (2, 15), (2, 16), (0, 17)]
    (by kernel_rfl) (by kernel_rfl) (by decide) (by kernel_rfl) (fun _ _ d _ _ h => by cases d <;> exact h) ?_
  simp only [inOrder2, List.getElem?_cons_succ, List.getElem?_cons_zero, List.nil_append, List.cons_append]
  have hB := (Below.refl base w).drew
  have hS := hP.drew
  have hle : base ≤ w.drew.heap.size := hP.run.base_le.2.2.2.2
  clear hP
  generalize w.drew = w0 at *
  iterate 2 (((with_reducible refine o3_pre (v := ?_) (a' := ?_) hS ?_ (fun V hV => ?_) ?_ ?_); rotate_left 2; (rfl); (have c0 := hV.c0; replace hV := hV.run; have c12 : V.cell? ⟨b, 12, none⟩ = some (.slice L.a3 S.recvs.length L.c3) := (hV.cell 12).1; have c20 : V.cell? ⟨b, 20, none⟩ = some (.int .i64 k) := (hV.cell 20).1; first | (go_simp; with_reducible rfl) | (go_simp; refine (if_pos ?_).trans ?_; omega; with_reducible rfl)); (simp only [Act.put, List.setIfInBounds_toArray, List.set_cons_succ, List.set_cons_zero] <;> rfl)))
  iterate 3 (((with_reducible refine o3_calmF (v := ?_) (a' := ?_) hS ?_ (fun V => ?_) ?_ ?_); rotate_left 2; (rfl); (first | (go_simp; with_reducible rfl) | (go_simp; refine (if_pos ?_).trans ?_; omega; with_reducible rfl)); (simp only [Act.put, List.setIfInBounds_toArray, List.set_cons_succ, List.set_cons_zero] <;> rfl)))
  iterate 2 (((with_reducible refine o3_pre (v := ?_) (a' := ?_) hS ?_ (fun V hV => ?_) ?_ ?_); rotate_left 2; (rfl); (have c0 := hV.c0; replace hV := hV.run; have c12 : V.cell? ⟨b, 12, none⟩ = some (.slice L.a3 S.recvs.length L.c3) := (hV.cell 12).1; have c20 : V.cell? ⟨b, 20, none⟩ = some (.int .i64 k) := (hV.cell 20).1; first | (go_simp; with_reducible rfl) | (go_simp; refine (if_pos ?_).trans ?_; omega; with_reducible rfl)); (simp only [Act.put, List.setIfInBounds_toArray, List.set_cons_succ, List.set_cons_zero] <;> rfl)))
  iterate 2 (((with_reducible refine o3_calmF (v := ?_) (a' := ?_) hS ?_ (fun V => ?_) ?_ ?_); rotate_left 2; (rfl); (first | (go_simp; with_reducible rfl) | (go_simp; refine (if_pos ?_).trans ?_; omega; with_reducible rfl)); (simp only [Act.put, List.setIfInBounds_toArray, List.set_cons_succ, List.set_cons_zero] <;> rfl)))
  ((with_reducible refine o3_pre (v := ?_) (a' := ?_) hS ?_ (fun V hV => ?_) ?_ ?_); rotate_left 2; (rfl); (have c0 := hV.c0; replace hV := hV.run; have c12 : V.cell? ⟨b, 12, none⟩ = some (.slice L.a3 S.recvs.length L.c3) := (hV.cell 12).1; have c20 : V.cell? ⟨b, 20, none⟩ = some (.int .i64 k) := (hV.cell 20).1; first | (go_simp; with_reducible rfl) | (go_simp; refine (if_pos ?_).trans ?_; omega; with_reducible rfl)); (simp only [Act.put, List.setIfInBounds_toArray, List.set_cons_succ, List.set_cons_zero] <;> rfl))
  refine o3_onlyF rfl rfl ?_
  go_simp
  refine ⟨trivial, rfl, (callsIn_wide.2 (E _ hS)).mono ?_⟩
  rintro e w1 ⟨A1, c1, rfl, hm, hb⟩
  replace hS := hS.on hb
  refine ⟨hS, ?_⟩
  iterate 6 (((with_reducible refine o3_calmF (v := ?_) (a' := ?_) hS ?_ (fun V => ?_) ?_ ?_); rotate_left 2; (rfl); (first | (go_simp; with_reducible rfl) | (go_simp; refine (if_pos ?_).trans ?_; omega; with_reducible rfl)); (simp only [Act.put, List.setIfInBounds_toArray, List.set_cons_succ, List.set_cons_zero] <;> rfl)))
  obtain ⟨b12, f12⟩ := hS.run.cell 12
  refine o3_onlyS rfl rfl ?_
  go_simp
  refine ⟨trivial, ?_⟩
  refine o3_end _ ?_
  try simp only [Exit.then]
  replace hB := (hB.trans (hb.mono hle)).setCell (p := ⟨b, 12, none⟩) (show base ≤ b from hS.run.le) (.slice A1 x2.length c1)
  have hR := hS.run.putRecvs (hm.mono hle)
  have kP := hS.put (i := 12) (v := .slice A1 x2.length c1)
  have c0 := cellOf kP
  clear b12 f12 hS hm hb
  go_wp2_with (first
      | (go_at_call 155; (with_reducible refine (go_r _ _ _ _ _ _ _ _ hR).mono ?_); rintro e w5 ⟨rfl, h5, hb5⟩; have hX := h5.ran (hB.trans hb5)))
  go_returns
  exact ⟨rfl, hX⟩

set_option maxRecDepth 100000 in
set_option maxHeartbeats 4000000 in
theorem first_r (S : St) (L : Lay) (base b gb pb k : Nat) (w : World) (hP : WalkAt base b gb pb S L k w) (hsm : S.small) (t : Th) (ht : S.ths[k]? = some t) (hr : 0 ≤ t.tries ∧ t.tries ≤ 1099511627776) :
    Calls Tryz.prog 156 #[.pointer (some ⟨pb, 0, none⟩)] w fun e w' => e = .returned (.tuple #[]) ∧ Ran 161 base b k ((S.first1 k t (plc S.recvs k == 0))) w w' := by
  have E := fun (V : World) (hV : WalkAt base b gb pb S L k V) => first_any S.recvs k L.a3 L.c3 V (wide hsm.2.2.1) hV.run.ho.m3.lies
  generalize (plc S.recvs k == 0) = here at *
  generalize hM : S.first1 k t here = M at *
  go_enter Tryz.func156, Tryz.ntmps156
  go_wp2_with fail
  refine wp_region_ord3 (WalkAt base b gb pb S L k) (WalkAt base b gb pb S L k) 9 (by kernel_rfl)
    [(2, 0), (2, 1), (2, 2), (2, 3), (1, 4), (2, 5), (2, 6), (2, 7), (1, 8), (0, 9), (2, 10)]
    (by kernel_rfl) (by kernel_rfl) (by decide) (by kernel_rfl) (fun _ _ d _ _ h => by cases d <;> exact h) ?_
  simp only [inOrder2, List.getElem?_cons_succ, List.getElem?_cons_zero, List.nil_append, List.cons_append]
  have hB := (Below.refl base w).drew
  have hS := hP.drew
  have hle : base ≤ w.drew.heap.size := hP.run.base_le.2.2.2.2
  clear hP
  generalize w.drew = w0 at *
  ((with_reducible refine o3_both (v := ?_) (a' := ?_) hS ?_ (fun V hV => ?_) (fun V hV => ?_) ?_ ?_); rotate_left 2; (focus rfl); (focus (have c0 := hV.c0; replace hV := hV.run; have c12 : V.cell? ⟨b, 12, none⟩ = some (.slice L.a3 S.recvs.length L.c3) := (hV.cell 12).1; have c20 : V.cell? ⟨b, 20, none⟩ = some (.int .i64 k) := (hV.cell 20).1; first | (go_simp; with_reducible rfl) | (go_simp; refine (if_pos ?_).trans ?_; omega; with_reducible rfl))); (focus (have c0 := hV.c0; replace hV := hV.run; have c12 : V.cell? ⟨b, 12, none⟩ = some (.slice L.a3 S.recvs.length L.c3) := (hV.cell 12).1; have c20 : V.cell? ⟨b, 20, none⟩ = some (.int .i64 k) := (hV.cell 20).1; first | (go_simp; done) | (go_simp; with_reducible rfl))); (focus (simp only [Act.put, List.setIfInBounds_toArray, List.set_cons_succ, List.set_cons_zero] <;> rfl)))
  iterate 3 (((with_reducible refine o3_calmF (v := ?_) (a' := ?_) hS ?_ (fun V => ?_) ?_ ?_); rotate_left 2; (rfl); (first | (go_simp; with_reducible rfl) | (go_simp; refine (if_pos ?_).trans ?_; omega; with_reducible rfl)); (simp only [Act.put, List.setIfInBounds_toArray, List.set_cons_succ, List.set_cons_zero] <;> rfl)))
  ((with_reducible refine o3_pre (v := ?_) (a' := ?_) hS ?_ (fun V hV => ?_) ?_ ?_); rotate_left 2; (rfl); (have c0 := hV.c0; replace hV := hV.run; have c12 : V.cell? ⟨b, 12, none⟩ = some (.slice L.a3 S.recvs.length L.c3) := (hV.cell 12).1; have c20 : V.cell? ⟨b, 20, none⟩ = some (.int .i64 k) := (hV.cell 20).1; first | (go_simp; with_reducible rfl) | (go_simp; refine (if_pos ?_).trans ?_; omega; with_reducible rfl)); (simp only [Act.put, List.setIfInBounds_toArray, List.set_cons_succ, List.set_cons_zero] <;> rfl))
  ((with_reducible refine o3_both (v := ?_) (a' := ?_) hS ?_ (fun V hV => ?_) (fun V hV => ?_) ?_ ?_); rotate_left 2; (focus rfl); (focus (have c0 := hV.c0; replace hV := hV.run; have c12 : V.cell? ⟨b, 12, none⟩ = some (.slice L.a3 S.recvs.length L.c3) := (hV.cell 12).1; have c20 : V.cell? ⟨b, 20, none⟩ = some (.int .i64 k) := (hV.cell 20).1; first | (go_simp; with_reducible rfl) | (go_simp; refine (if_pos ?_).trans ?_; omega; with_reducible rfl))); (focus (have c0 := hV.c0; replace hV := hV.run; have c12 : V.cell? ⟨b, 12, none⟩ = some (.slice L.a3 S.recvs.length L.c3) := (hV.cell 12).1; have c20 : V.cell? ⟨b, 20, none⟩ = some (.int .i64 k) := (hV.cell 20).1; first | (go_simp; done) | (go_simp; with_reducible rfl))); (focus (simp only [Act.put, List.setIfInBounds_toArray, List.set_cons_succ, List.set_cons_zero] <;> rfl)))
  iterate 2 (((with_reducible refine o3_calmF (v := ?_) (a' := ?_) hS ?_ (fun V => ?_) ?_ ?_); rotate_left 2; (rfl); (first | (go_simp; with_reducible rfl) | (go_simp; refine (if_pos ?_).trans ?_; omega; with_reducible rfl)); (simp only [Act.put, List.setIfInBounds_toArray, List.set_cons_succ, List.set_cons_zero] <;> rfl)))
  ((with_reducible refine o3_pre (v := ?_) (a' := ?_) hS ?_ (fun V hV => ?_) ?_ ?_); rotate_left 2; (rfl); (have c0 := hV.c0; replace hV := hV.run; have c12 : V.cell? ⟨b, 12, none⟩ = some (.slice L.a3 S.recvs.length L.c3) := (hV.cell 12).1; have c20 : V.cell? ⟨b, 20, none⟩ = some (.int .i64 k) := (hV.cell 20).1; first | (go_simp; with_reducible rfl) | (go_simp; refine (if_pos ?_).trans ?_; omega; with_reducible rfl)); (simp only [Act.put, List.setIfInBounds_toArray, List.set_cons_succ, List.set_cons_zero] <;> rfl))
  refine o3_onlyS rfl rfl ?_
  go_simp
  refine ⟨trivial, rfl, (callsIn_wide.2 (E _ hS)).mono ?_⟩
  rintro e w2 ⟨rfl, hb⟩
  replace hB := hB.trans (hb.mono hle)
  replace hS := hS.on hb
  refine ⟨hS, ?_⟩
  ((with_reducible refine o3_calmT (v := ?_) (a' := ?_) hS ?_ (fun V => ?_) ?_ ?_); rotate_left 2; (rfl); (first | (go_simp; with_reducible rfl) | (go_simp; refine (if_pos ?_).trans ?_; omega; with_reducible rfl)); (simp only [Act.put, List.setIfInBounds_toArray, List.set_cons_succ, List.set_cons_zero] <;> rfl))
  refine o3_end _ ?_
  try simp only [Exit.then]
  have hR := hS.run
  have kP := hS.cap
  have c0 := hS.c0
  clear hS
  clear hb
  cases here
  · cases hl : t.late
    · have e : M = S.mod k Th.on := by rw [← hM]; simp [St.first1, hl]
      go_wp2_with (first
          | (go_at_call 122; (with_reducible refine (me_r _ _ _ _ _ _ _ hR).mono ?_); rintro e w1 ⟨rfl, hw⟩; subst hw; replace hR := hR.drew; replace hB := hB.drew; replace kP := capd kP; replace c0 := cellOf kP; have f8 := (hR.field ht (j := 8) rfl).1; rw [hl] at f8)
          | (go_at_call 158; (with_reducible refine (try_r _ _ _ _ _ _ t _ hR ht hr).mono ?_); rintro e w5 ⟨rfl, h5, hb5⟩; have hX := h5.ran (hB.trans hb5)))
      go_returns
      exact ⟨rfl, by rw [e]; exact hX⟩
    · have e : M = S.ends k t 5 := by rw [← hM]; simp [St.first1, hl]
      go_wp2_with (first
          | (go_at_call 122; (with_reducible refine (me_r _ _ _ _ _ _ _ hR).mono ?_); rintro e w1 ⟨rfl, hw⟩; subst hw; replace hR := hR.drew; replace hB := hB.drew; replace kP := capd kP; replace c0 := cellOf kP; have f8 := (hR.field ht (j := 8) rfl).1; rw [hl] at f8)
          | (go_at_call 157; (with_reducible refine (ends_r _ _ _ _ _ _ _ _ hR hsm t ht).mono ?_); rintro e w5 ⟨rfl, h5⟩; have hX := h5.trans hB))
      go_returns
      exact ⟨rfl, by rw [e]; exact hX⟩
  · have e : M = S.mod k (Th.at 2) := hM.symm
    go_wp2_with (first
        | (go_at_call 155; (with_reducible refine (go_r _ _ _ _ _ _ _ _ hR).mono ?_); rintro e w5 ⟨rfl, h5, hb5⟩; have hX := h5.ran (hB.trans hb5)))
    go_returns
    exact ⟨rfl, by rw [e]; exact hX⟩

set_option maxRecDepth 100000 in
set_option maxHeartbeats 4000000 in
theorem look_r (S : St) (L : Lay) (base b gb pb k : Nat) (w : World) (hP : WalkAt base b gb pb S L k w) (hsm : S.small) (t : Th) (ht : S.ths[k]? = some t) (hr : 0 ≤ t.tries ∧ t.tries ≤ 1099511627776) :
    Calls Tryz.prog 159 #[.pointer (some ⟨pb, 0, none⟩)] w fun e w' => e = .returned (.tuple #[]) ∧ Ran 161 base b k ((S.rlook1 k t (S.word.tak S.slots.length).2.2)) w w' := by
  have hR := hP.run
  have kP := hP.cap
  have c0 := hP.c0
  have hB := Below.refl base w
  have Z := sees_r S L base b gb k
  generalize (S.word.tak S.slots.length).2.2 = r at *
  generalize hM : S.rlook1 k t r = M at *
  go_enter Tryz.func159, Tryz.ntmps159
  by_cases h1 : r = 1
  · subst h1
    have e : M = S.mod k (Th.at 3) := hM.symm
    go_wp2_with (first
        | (go_at_call 160; (with_reducible refine (Z _ hR).mono ?_); rintro e w1 ⟨rfl, hw⟩; have hle := hR.base_le.2.2.2.2; replace hR := hR.on hw; replace kP := kept kP hw; replace c0 := cellOf kP; replace hB := hB.trans (hw.mono hle))
        | (go_at_call 155; (with_reducible refine (go_r _ _ _ _ _ _ _ _ hR).mono ?_); rintro e w5 ⟨rfl, h5, hb5⟩; have hX := h5.ran (hB.trans hb5)))
    go_returns
    exact ⟨rfl, by rw [e]; exact hX⟩
  have h1' : (r == 1) = false := by simpa using h1
  by_cases h2 : r = 4
  · subst h2
    have e : M = S.vain1 k t := hM.symm
    go_wp2_with (first
        | (go_at_call 160; (with_reducible refine (Z _ hR).mono ?_); rintro e w1 ⟨rfl, hw⟩; have hle := hR.base_le.2.2.2.2; replace hR := hR.on hw; replace kP := kept kP hw; replace c0 := cellOf kP; replace hB := hB.trans (hw.mono hle))
        | (go_at_call 161; (with_reducible refine (vain_r _ _ _ _ _ _ _ hR hsm t ht hr).mono ?_); rintro e w5 ⟨rfl, h5⟩; have hX := h5.trans hB))
    go_returns
    exact ⟨rfl, by rw [e]; exact hX⟩
  · have h2' : (r == 4) = false := by simpa using h2
    have e : M = S.ends k t r := by rw [← hM]; simp [St.rlook1, h1, h2]
    go_wp2_with (first
        | (go_at_call 160; (with_reducible refine (Z _ hR).mono ?_); rintro e w1 ⟨rfl, hw⟩; have hle := hR.base_le.2.2.2.2; replace hR := hR.on hw; replace kP := kept kP hw; replace c0 := cellOf kP; replace hB := hB.trans (hw.mono hle))
        | (go_at_call 157; (with_reducible refine (ends_r _ _ _ _ _ _ _ _ hR hsm t ht).mono ?_); rintro e w5 ⟨rfl, h5⟩; have hX := h5.trans hB))
    go_returns
    exact ⟨rfl, by rw [e]; exact hX⟩

set_option maxRecDepth 100000 in
set_option maxHeartbeats 4000000 in
theorem prepare_r (S : St) (L : Lay) (base b gb pb k : Nat) (w : World) (hP : WalkAt base b gb pb S L k w) (hsm : S.small) (t : Th) (ht : S.ths[k]? = some t) :
    Calls Tryz.prog 165 #[.pointer (some ⟨pb, 0, none⟩)] w fun e w' => e = .returned (.tuple #[]) ∧ Ran 161 base b k (((S.mod k (Th.sn (if evOk S.ee S.el then S.ee else -1))).mod k (Th.at 7))) w w' := by
  have E := fun (V : World) (hV : WalkAt base b gb pb S L k V) => evPrep_any S.ee S.el L.a5 L.c5 V (wide hsm.2.2.2.2.1) hV.run.ho.m5.lies
  generalize (if evOk S.ee S.el then S.ee else -1) = v at *
  go_enter Tryz.func165, Tryz.ntmps165
  go_wp2_with fail
  refine wp_region_ord3 (WalkAt base b gb pb S L k) (AnyW) 10 (by kernel_rfl)
    [(1, 0), (1, 2), (2, 3), (2, 4), (2, 5), (1, 6), (0, 1), (0, 7), (2, 8), (2, 9), (0, 10)]
    (by kernel_rfl) (by kernel_rfl) (by decide) (by kernel_rfl) (fun _ _ d _ _ h => by cases d <;> exact h) ?_
  simp only [inOrder2, List.getElem?_cons_succ, List.getElem?_cons_zero, List.nil_append, List.cons_append]
  have hB := (Below.refl base w).drew
  have hS := hP.drew
  have hle : base ≤ w.drew.heap.size := hP.run.base_le.2.2.2.2
  clear hP
  generalize w.drew = w0 at *
  iterate 2 (((with_reducible refine o3_pre (v := ?_) (a' := ?_) hS ?_ (fun V hV => ?_) ?_ ?_); rotate_left 2; (rfl); (have c0 := hV.c0; replace hV := hV.run; have c15 : V.cell? ⟨b, 15, none⟩ = some (.int .i64 S.ee) := (hV.cell 15).1; have c16 : V.cell? ⟨b, 16, none⟩ = some (.slice L.a5 S.el.length L.c5) := (hV.cell 16).1; first | (go_simp; with_reducible rfl) | (go_simp; refine (if_pos ?_).trans ?_; omega; with_reducible rfl)); (simp only [Act.put, List.setIfInBounds_toArray, List.set_cons_succ, List.set_cons_zero] <;> rfl)))
  iterate 3 (((with_reducible refine o3_calmF (v := ?_) (a' := ?_) hS ?_ (fun V => ?_) ?_ ?_); rotate_left 2; (rfl); (first | (go_simp; with_reducible rfl) | (go_simp; refine (if_pos ?_).trans ?_; omega; with_reducible rfl)); (simp only [Act.put, List.setIfInBounds_toArray, List.set_cons_succ, List.set_cons_zero] <;> rfl)))
  ((with_reducible refine o3_pre (v := ?_) (a' := ?_) hS ?_ (fun V hV => ?_) ?_ ?_); rotate_left 2; (rfl); (have c0 := hV.c0; replace hV := hV.run; have c15 : V.cell? ⟨b, 15, none⟩ = some (.int .i64 S.ee) := (hV.cell 15).1; have c16 : V.cell? ⟨b, 16, none⟩ = some (.slice L.a5 S.el.length L.c5) := (hV.cell 16).1; first | (go_simp; with_reducible rfl) | (go_simp; refine (if_pos ?_).trans ?_; omega; with_reducible rfl)); (simp only [Act.put, List.setIfInBounds_toArray, List.set_cons_succ, List.set_cons_zero] <;> rfl))
  refine o3_onlyF rfl rfl ?_
  go_simp
  refine ⟨trivial, rfl, (callsIn_wide.2 (me_r _ _ _ _ _ _ _ hS.run)).mono ?_⟩
  rintro e w1 ⟨rfl, hw⟩
  subst hw
  replace hS := hS.drew
  replace hB := hB.drew
  have hle1 : base ≤ w0.drew.heap.size := hle
  generalize w0.drew = w3 at *
  refine ⟨hS, ?_⟩
  refine o3_onlyF rfl rfl ?_
  go_simp
  refine ⟨trivial, rfl, (callsIn_wide.2 (E _ hS)).mono ?_⟩
  rintro e w2 ⟨rfl, hb⟩
  replace hB := hB.trans (hb.mono hle1)
  replace hS := hS.on hb
  refine ⟨hS, ?_⟩
  iterate 2 (((with_reducible refine o3_calmF (v := ?_) (a' := ?_) hS ?_ (fun V => ?_) ?_ ?_); rotate_left 2; (rfl); (first | (go_simp; with_reducible rfl) | (go_simp; refine (if_pos ?_).trans ?_; omega; with_reducible rfl)); (simp only [Act.put, List.setIfInBounds_toArray, List.set_cons_succ, List.set_cons_zero] <;> rfl)))
  obtain ⟨q6, p6⟩ := hS.run.field ht (j := 6) rfl
  refine o3_onlyS rfl rfl ?_
  go_simp
  refine ⟨trivial, ?_⟩
  refine o3_end _ ?_
  try simp only [Exit.then]
  replace hB := hB.setCell (p := ⟨gb, k * 11 + 6, none⟩) (show base ≤ gb from hS.run.base_le.1) (.int .i64 v)
  have hR := hS.run.mod ht (Th.sn v) 6 (.int .i64 v) (by omega) rfl
  have kP := hS.putg (i := k * 11 + 6) (v := .int .i64 v)
  have c0 := cellOf kP
  clear hS hb q6 p6
  go_wp2_with (first
      | (go_at_call 155; (with_reducible refine (go_r _ _ _ _ _ _ _ _ hR).mono ?_); rintro e w5 ⟨rfl, h5, hb5⟩; have hX := h5.ran (hB.trans hb5)))
  go_returns
  exact ⟨rfl, hX⟩

set_option maxRecDepth 100000 in
set_option maxHeartbeats 4000000 in
theorem leave_r (S : St) (L : Lay) (base b gb k : Nat) (w : World) (hR : RunAt 161 base b gb (S) L k w) (hsm : S.small) (t : Th) (ht : S.ths[k]? = some t) :
    Calls Tryz.prog 123 #[.pointer (some ⟨b, 0, none⟩)] w fun e w' => e = .returned (.tuple #[]) ∧ Ran 161 base b k (({ S with recvs := (levL S.recvs k).1 }.mod k (fun t => t.done.1))) w w' := by
  have E := fun (V : World) (hV : RunAt 161 base b gb S L k V) => leave_any S.recvs k L.a3 L.c3 V (wide hsm.2.2.1) hV.ho.m3.lies
  have DD := fun W => th_done t W
  have hm0 := mod_set (S := { S with recvs := (levL S.recvs k).1 }) ht (fun t => t.done.1)
  rw [hm0]
  clear hm0
  generalize t.done = r0 at *
  obtain ⟨r1, r2⟩ := r0
  generalize hx : levL S.recvs k = x at *
  obtain ⟨x2, er⟩ := x
  go_enter Tryz.func123, Tryz.ntmps123
  go_wp2_with fail
  refine wp_region_ord3 (RunAt 161 base b gb S L k) (AnyW) 17 (by kernel_rfl)
    [(2, 0), (2, 1), (2, 2), (2, 3), (2, 4), (2, 6), (2, 7), (2, 8), (1, 5), (1, 9), (0, 10), (2, 11), (2, 12), (2, 13), (2, 14), (2, 15), (2, 16), (0, 17)]
    (by kernel_rfl) (by kernel_rfl) (by decide) (by kernel_rfl) (fun _ _ d _ _ h => by cases d <;> exact h) ?_
  simp only [inOrder2, List.getElem?_cons_succ, List.getElem?_cons_zero, List.nil_append, List.cons_append]
  have hB := (Below.refl base w).drew
  have hS := hR.drew
  have hle : base ≤ w.drew.heap.size := hR.base_le.2.2.2.2
  clear hR
  generalize w.drew = w0 at *
  iterate 8 (((with_reducible refine o3_calmF (v := ?_) (a' := ?_) hS ?_ (fun V => ?_) ?_ ?_); rotate_left 2; (rfl); (first | (go_simp; with_reducible rfl) | (go_simp; refine (if_pos ?_).trans ?_; omega; with_reducible rfl)); (simp only [Act.put, List.setIfInBounds_toArray, List.set_cons_succ, List.set_cons_zero] <;> rfl)))
  iterate 2 (((with_reducible refine o3_pre (v := ?_) (a' := ?_) hS ?_ (fun V hV => ?_) ?_ ?_); rotate_left 2; (rfl); (have c12 : V.cell? ⟨b, 12, none⟩ = some (.slice L.a3 S.recvs.length L.c3) := (hV.cell 12).1; have c20 : V.cell? ⟨b, 20, none⟩ = some (.int .i64 k) := (hV.cell 20).1; first | (go_simp; with_reducible rfl) | (go_simp; refine (if_pos ?_).trans ?_; omega; with_reducible rfl)); (simp only [Act.put, List.setIfInBounds_toArray, List.set_cons_succ, List.set_cons_zero] <;> rfl)))
  refine o3_onlyF rfl rfl ?_
  go_simp
  refine ⟨trivial, rfl, (callsIn_wide.2 (E _ hS)).mono ?_⟩
  rintro e w1 ⟨A1, c1, rfl, hm, hb⟩
  replace hS := hS.on hb
  refine ⟨hS, ?_⟩
  iterate 6 (((with_reducible refine o3_calmF (v := ?_) (a' := ?_) hS ?_ (fun V => ?_) ?_ ?_); rotate_left 2; (rfl); (first | (go_simp; with_reducible rfl) | (go_simp; refine (if_pos ?_).trans ?_; omega; with_reducible rfl)); (simp only [Act.put, List.setIfInBounds_toArray, List.set_cons_succ, List.set_cons_zero] <;> rfl)))
  obtain ⟨b12, f12⟩ := hS.cell 12
  refine o3_onlyS rfl rfl ?_
  go_simp
  refine ⟨trivial, ?_⟩
  refine o3_end _ ?_
  try simp only [Exit.then]
  replace hB := (hB.trans (hb.mono hle)).setCell (p := ⟨b, 12, none⟩) (show base ≤ b from hS.le) (.slice A1 x2.length c1)
  have hR := hS.putRecvs (hm.mono hle)
  clear b12 f12 hS hm hb
  go_wp2_with (first
      | (go_at_call 122; (with_reducible refine (me_r _ _ _ _ _ _ _ hR).mono ?_); rintro e w6 ⟨rfl, hw⟩; subst hw; replace hR := hR.drew; replace hB := hB.drew; have hcs := th_cells hR.mine ht)
      | (go_at_call 128; (with_reducible refine (DD _).mono ?_); rintro e w7 ⟨rfl, hb7⟩; have h77 := hR.base_le.2.2.2.2; replace hR := hR.on hb7; obtain ⟨V, hst, hm2, hg2, hB2⟩ := store_th hR.mine hR.hk r1)
      | ((with_reducible refine wpList_val (loadT Tryz.isAgg51 Tryz.sizeOf51 (cs := t.list) hcs rfl ?_) ?_); (focus rfl))
      | ((with_reducible refine wpList_skip (storeT Tryz.sizeOf51 hst ?_ ?_ ?_) ?_); (focus rfl); (focus rfl); (focus rfl)))
  go_returns
  exact ⟨rfl, RunAt.ran (hR.stored hm2 hg2) ((hB.trans (hb7.mono h77)).trans hB2)⟩

end Go.Proofs.YtnbgpopjnpdmgaaGreat
