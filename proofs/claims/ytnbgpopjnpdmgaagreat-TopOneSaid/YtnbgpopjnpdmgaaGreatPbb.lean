/-
  DERIVED. Send2, Send3.
-/
import Derived.Test.YtnbgpopjnpdmgaaGreatPba
set_option linter.unusedVariables false
set_option linter.unusedSimpArgs false

namespace Go.Proofs.YtnbgpopjnpdmgaaGreat
open Go Go.RowKit Go.Shelf

set_option maxRecDepth 100000 in
set_option maxHeartbeats 4000000 in
theorem full_s (S : St) (L : Lay) (base b gb k : Nat) (w : World) (hR : RunAt 157 base b gb (S) L k w) (hsm : S.small) (t : Th) (ht : S.ths[k]? = some t) (hr : 0 ≤ t.tries ∧ t.tries ≤ 1099511627776) :
    Calls Tryz.prog 144 #[.pointer (some ⟨b, 0, none⟩)] w fun e w' => e = .returned (.tuple #[]) ∧ Ran 157 base b k ((S.full1 k t)) w w' := by
  have E := fun W => wnext_any S.cfg t.tries W
  generalize hnx : nextOf S.cfg t.tries = nx at *
  generalize hM : S.full1 k t = M at *
  go_enter Tryz.func144, Tryz.ntmps144
  have hB := Below.refl base w
  by_cases h1 : S.cfg.pol = 1
  · have e : M = S.ends k t 3 := by rw [← hM]; simp [St.full1, h1]
    have h1' : (S.cfg.pol == 1) = true := by simpa using h1
    go_wp2_with (first
        | (go_at_call 119; (with_reducible refine (me_s S L base b gb k w hR).mono ?_); rintro e w1 ⟨rfl, hw⟩; subst hw; replace hR := hR.drew; replace hB := hB.drew; have c2 : w.drew.cell? ⟨b, 2, none⟩ = some (.int .i64 S.cfg.pol) := (hR.cell 2).1; have c7 : w.drew.cell? ⟨b, 7, none⟩ = some (.int .i64 S.word.head) := (hR.cell 7).1; have f1 := (hR.field ht (j := 1) rfl).1; have f8 := (hR.field ht (j := 8) rfl).1; obtain ⟨f5, g5⟩ := hR.field ht (j := 5) rfl)
        | (go_at_call 141; (with_reducible refine (ends_s _ _ _ _ _ _ _ _ hR hsm t ht).mono ?_); rintro e w5 ⟨rfl, h5⟩; have hX := h5.trans hB))
    go_returns
    exact ⟨rfl, by rw [e]; exact hX⟩
  have h1' : (S.cfg.pol == 1) = false := by simpa using h1
  by_cases h2 : S.cfg.pol = 2
  · have e : M = (S.mod k (Th.rg S.word.head)).mod k (Th.at 10) := by rw [← hM]; simp [St.full1, h2]
    have h2' : (S.cfg.pol == 2) = true := by simpa using h2
    go_wp2_with (first
        | (go_at_call 119; (with_reducible refine (me_s S L base b gb k w hR).mono ?_); rintro e w1 ⟨rfl, hw⟩; subst hw; replace hR := hR.drew; replace hB := hB.drew; have c2 : w.drew.cell? ⟨b, 2, none⟩ = some (.int .i64 S.cfg.pol) := (hR.cell 2).1; have c7 : w.drew.cell? ⟨b, 7, none⟩ = some (.int .i64 S.word.head) := (hR.cell 7).1; have f1 := (hR.field ht (j := 1) rfl).1; have f8 := (hR.field ht (j := 8) rfl).1; obtain ⟨f5, g5⟩ := hR.field ht (j := 5) rfl; have hR2 := hR.mod ht (Th.rg S.word.head) 5 (.int .i64 S.word.head) (by omega) rfl)
        | (go_at_call 139; refine (go_s _ _ _ _ _ _ _ _ hR2).mono ?_; rintro e w5 ⟨rfl, h5, hb5⟩; have hX := h5.ran ((hB.setCell (p := ⟨gb, k * 11 + 5, none⟩) (show base ≤ gb from hR.base_le.1) (.int .i64 S.word.head)).trans hb5)))
    go_returns
    exact ⟨rfl, by rw [e]; exact hX⟩
  have h2' : (S.cfg.pol == 2) = false := by simpa using h2
  by_cases h3 : t.kind = 2
  · have e : M = S.ends k t 2 := by rw [← hM]; simp [St.full1, h1, h2, h3]
    have h3' : (t.kind == 2) = true := by simpa using h3
    go_wp2_with (first
        | (go_at_call 119; (with_reducible refine (me_s S L base b gb k w hR).mono ?_); rintro e w1 ⟨rfl, hw⟩; subst hw; replace hR := hR.drew; replace hB := hB.drew; have c2 : w.drew.cell? ⟨b, 2, none⟩ = some (.int .i64 S.cfg.pol) := (hR.cell 2).1; have c7 : w.drew.cell? ⟨b, 7, none⟩ = some (.int .i64 S.word.head) := (hR.cell 7).1; have f1 := (hR.field ht (j := 1) rfl).1; have f8 := (hR.field ht (j := 8) rfl).1; obtain ⟨f5, g5⟩ := hR.field ht (j := 5) rfl)
        | (go_at_call 141; (with_reducible refine (ends_s _ _ _ _ _ _ _ _ hR hsm t ht).mono ?_); rintro e w5 ⟨rfl, h5⟩; have hX := h5.trans hB))
    go_returns
    exact ⟨rfl, by rw [e]; exact hX⟩
  have h3' : (t.kind == 2) = false := by simpa using h3
  cases hl : t.late with
  | true =>
    have e : M = S.ends k t 5 := by rw [← hM]; simp [St.full1, h1, h2, h3, hl]
    go_wp2_with (first
        | (go_at_call 119; (with_reducible refine (me_s S L base b gb k w hR).mono ?_); rintro e w1 ⟨rfl, hw⟩; subst hw; replace hR := hR.drew; replace hB := hB.drew; have c2 : w.drew.cell? ⟨b, 2, none⟩ = some (.int .i64 S.cfg.pol) := (hR.cell 2).1; have c7 : w.drew.cell? ⟨b, 7, none⟩ = some (.int .i64 S.word.head) := (hR.cell 7).1; have f1 := (hR.field ht (j := 1) rfl).1; have f8 := (hR.field ht (j := 8) rfl).1; rw [hl] at f8; obtain ⟨f5, g5⟩ := hR.field ht (j := 5) rfl)
        | (go_at_call 141; (with_reducible refine (ends_s _ _ _ _ _ _ _ _ hR hsm t ht).mono ?_); rintro e w5 ⟨rfl, h5⟩; have hX := h5.trans hB))
    go_returns
    exact ⟨rfl, by rw [e]; exact hX⟩
  | false =>
    go_wp2_with (first
        | (go_at_call 119; (with_reducible refine (me_s S L base b gb k w hR).mono ?_); rintro e w1 ⟨rfl, hw⟩; subst hw; replace hR := hR.drew; replace hB := hB.drew; have c2 : w.drew.cell? ⟨b, 2, none⟩ = some (.int .i64 S.cfg.pol) := (hR.cell 2).1; have c7 : w.drew.cell? ⟨b, 7, none⟩ = some (.int .i64 S.word.head) := (hR.cell 7).1; have f1 := (hR.field ht (j := 1) rfl).1; have f8 := (hR.field ht (j := 8) rfl).1; rw [hl] at f8; obtain ⟨f5, g5⟩ := hR.field ht (j := 5) rfl))
    refine wp_region_ord3 (RunAt 157 base b gb S L k) (AnyW) 9 (by kernel_rfl)
      [(2, 0), (2, 1), (2, 2), (2, 3), (2, 5), (2, 6), (2, 7), (1, 4), (1, 8), (0, 9), (2, 10), (2, 11)]
      (by kernel_rfl) (by kernel_rfl) (by decide) (by kernel_rfl) (fun _ _ d _ _ h => by cases d <;> exact h) ?_
    simp only [inOrder2, List.getElem?_cons_succ, List.getElem?_cons_zero, List.nil_append, List.cons_append]
    have hS := hR.drew
    have hle : base ≤ w.drew.drew.heap.size := hR.base_le.2.2.2.2
    replace hB := hB.drew
    clear hR c2 c7 f1 f8 f5 g5
    generalize w.drew.drew = w0 at *
    iterate 7 (((with_reducible refine o3_calmF (v := ?_) (a' := ?_) hS ?_ (fun V => ?_) ?_ ?_); rotate_left 2; (rfl); (first | (go_simp; with_reducible rfl) | (go_simp; refine (if_pos ?_).trans ?_; omega; with_reducible rfl)); (simp only [Act.put, List.setIfInBounds_toArray, List.set_cons_succ, List.set_cons_zero] <;> rfl)))
    iterate 2 (((with_reducible refine o3_pre (v := ?_) (a' := ?_) hS ?_ (fun V hV => ?_) ?_ ?_); rotate_left 2; (rfl); (have c0 : V.cell? ⟨b, 0, none⟩ = some (.int .i64 S.cfg.log) := (hV.cell 0).1; have c1 : V.cell? ⟨b, 1, none⟩ = some (.int .i64 S.cfg.th) := (hV.cell 1).1; have c2 : V.cell? ⟨b, 2, none⟩ = some (.int .i64 S.cfg.pol) := (hV.cell 2).1; have c3 : V.cell? ⟨b, 3, none⟩ = some (.int .i64 S.cfg.wt) := (hV.cell 3).1; have c4 : V.cell? ⟨b, 4, none⟩ = some (.int .i64 S.cfg.sp) := (hV.cell 4).1; have c5 : V.cell? ⟨b, 5, none⟩ = some (.int .i64 S.cfg.yi) := (hV.cell 5).1; have c6 : V.cell? ⟨b, 6, none⟩ = some (.bool S.cfg.single) := (hV.cell 6).1; have f7 := (hV.field ht (j := 7) rfl).1; first | (go_simp; with_reducible rfl) | (go_simp; refine (if_pos ?_).trans ?_; omega; with_reducible rfl)); (simp only [Act.put, List.setIfInBounds_toArray, List.set_cons_succ, List.set_cons_zero] <;> rfl)))
    refine o3_onlyS rfl rfl ?_
    go_simp
    refine ⟨trivial, rfl, (callsIn_wide.2 (E w0)).mono ?_⟩
    rintro e w2 ⟨rfl, hb⟩
    replace hB := hB.trans (hb.mono hle)
    replace hS := hS.on hb
    refine ⟨trivial, ?_⟩
    iterate 2 (((with_reducible refine o3_calmT (v := ?_) (a' := ?_) (any_ _) ?_ (fun V => ?_) ?_ ?_); rotate_left 2; (rfl); (first | (go_simp; with_reducible rfl) | (go_simp; refine (if_pos ?_).trans ?_; omega; with_reducible rfl)); (simp only [Act.put, List.setIfInBounds_toArray, List.set_cons_succ, List.set_cons_zero] <;> rfl)))
    refine o3_end _ ?_
    try simp only [Exit.then]
    clear hb
    have hR := hS
    by_cases h4 : nx = 2
    · have e : M = S.mod k (Th.at 5) := by rw [← hM]; simp [St.full1, h1, h2, h3, hl, hnx, h4]
      have h4' : (nx == 2) = true := by simpa using h4
      go_wp2_with (first
          | (go_at_call 139; (with_reducible refine (go_s _ _ _ _ _ _ _ _ hR).mono ?_); rintro e w5 ⟨rfl, h5, hb5⟩; replace hB := hB.trans hb5; have hX := h5.ran hB))
      go_returns
      exact ⟨rfl, by rw [e]; exact hX⟩
    · have e : M = S.mod k Th.on := by rw [← hM]; simp [St.full1, h1, h2, h3, hl, hnx, h4]
      have h4' : (nx == 2) = false := by simpa using h4
      go_wp2_with (first
          | (go_at_call 142; (with_reducible refine (try_s _ _ _ _ _ _ t _ hR ht hr).mono ?_); rintro e w5 ⟨rfl, h5, hb5⟩; replace hB := hB.trans hb5; have hX := h5.ran hB))
      go_returns
      exact ⟨rfl, by rw [e]; exact hX⟩

set_option maxRecDepth 100000 in
set_option maxHeartbeats 4000000 in
theorem look_s (S : St) (L : Lay) (base b gb k : Nat) (w : World) (hR : RunAt 157 base b gb (S) L k w) (hsm : S.small) (t : Th) (ht : S.ths[k]? = some t) (hr : 0 ≤ t.tries ∧ t.tries ≤ 1099511627776) :
    Calls Tryz.prog 109 #[.pointer (some ⟨b, 0, none⟩)] w fun e w' => e = .returned (.tuple #[]) ∧ Ran 157 base b k ((S.look1 k t (S.word.acc S.slots.length).2.2)) w w' := by
  have E := fun W => word_sees S.word S.slots.length W
  generalize hr0 : (S.word.acc S.slots.length).2.2 = r at *
  generalize (S.word.tak S.slots.length).2.2 = r2 at *
  generalize hM : S.look1 k t r = M at *
  go_enter Tryz.func109, Tryz.ntmps109
  go_wp2_with fail
  refine wp_region_ord3 (RunAt 157 base b gb S L k) (AnyW) 7 (by kernel_rfl)
    [(2, 0), (2, 1), (2, 2), (2, 3), (2, 5), (1, 4), (0, 6), (0, 7), (2, 8), (2, 9), (2, 10), (2, 11), (2, 12)]
    (by kernel_rfl) (by kernel_rfl) (by decide) (by kernel_rfl) (fun _ _ d _ _ h => by cases d <;> exact h) ?_
  simp only [inOrder2, List.getElem?_cons_succ, List.getElem?_cons_zero, List.nil_append, List.cons_append]
  have hB := (Below.refl base w).drew
  have hS := hR.drew
  have hle : base ≤ w.drew.heap.size := hR.base_le.2.2.2.2
  clear hR
  generalize w.drew = w0 at *
  iterate 5 (((with_reducible refine o3_calmF (v := ?_) (a' := ?_) hS ?_ (fun V => ?_) ?_ ?_); rotate_left 2; (rfl); (first | (go_simp; with_reducible rfl) | (go_simp; refine (if_pos ?_).trans ?_; omega; with_reducible rfl)); (simp only [Act.put, List.setIfInBounds_toArray, List.set_cons_succ, List.set_cons_zero] <;> rfl)))
  ((with_reducible refine o3_pre (v := ?_) (a' := ?_) hS ?_ (fun V hV => ?_) ?_ ?_); rotate_left 2; (rfl); (have c7 : V.cell? ⟨b, 7, none⟩ = some (.int .i64 S.word.head) := (hV.cell 7).1; have c8 : V.cell? ⟨b, 8, none⟩ = some (.int .i64 S.word.tail) := (hV.cell 8).1; have c9 : V.cell? ⟨b, 9, none⟩ = some (.int .i64 S.word.mode) := (hV.cell 9).1; first | (go_simp; with_reducible rfl) | (go_simp; refine (if_pos ?_).trans ?_; omega; with_reducible rfl)); (simp only [Act.put, List.setIfInBounds_toArray, List.set_cons_succ, List.set_cons_zero] <;> rfl))
  refine o3_onlyF rfl rfl ?_
  go_simp
  refine ⟨trivial, rfl, (callsIn_wide.2 (room_s _ _ _ _ _ _ _ hS)).mono ?_⟩
  rintro e w1 ⟨rfl, hw⟩
  subst hw
  refine ⟨hS, ?_⟩
  refine o3_onlyS rfl rfl ?_
  go_simp
  refine ⟨trivial, rfl, (callsIn_wide.2 (E _)).mono ?_⟩
  rintro e w2 ⟨rfl, hb⟩
  replace hB := hB.trans (hb.mono hle)
  replace hS := hS.on hb
  refine ⟨trivial, ?_⟩
  iterate 5 (((with_reducible refine o3_calmT (v := ?_) (a' := ?_) (any_ _) ?_ (fun V => ?_) ?_ ?_); rotate_left 2; (rfl); (first | (go_simp; with_reducible rfl) | (go_simp; refine (if_pos ?_).trans ?_; omega; with_reducible rfl)); (simp only [Act.put, List.setIfInBounds_toArray, List.set_cons_succ, List.set_cons_zero] <;> rfl)))
  refine o3_end _ ?_
  try simp only [Exit.then]
  clear hb
  by_cases h1 : r = 1
  · subst h1
    have e : M = (S.mod k (Th.rg S.word.tail)).mod k (Th.at 3) := hM.symm
    go_wp2_with fail
    refine wp_region_ord3 (RunAt 157 base b gb S L k) (AnyW) 10 (by kernel_rfl)
      [(2, 0), (2, 2), (2, 3), (2, 4), (2, 5), (2, 6), (1, 7), (0, 1), (2, 8), (2, 9), (0, 10)]
      (by kernel_rfl) (by kernel_rfl) (by decide) (by kernel_rfl) (fun _ _ d _ _ h => by cases d <;> exact h) ?_
    simp only [inOrder2, List.getElem?_cons_succ, List.getElem?_cons_zero, List.nil_append, List.cons_append]
    replace hS := hS.drew
    replace hB := hB.drew
    generalize w2.drew = w3 at *
    iterate 6 (((with_reducible refine o3_calmF (v := ?_) (a' := ?_) hS ?_ (fun V => ?_) ?_ ?_); rotate_left 2; (rfl); (first | (go_simp; with_reducible rfl) | (go_simp; refine (if_pos ?_).trans ?_; omega; with_reducible rfl)); (simp only [Act.put, List.setIfInBounds_toArray, List.set_cons_succ, List.set_cons_zero] <;> rfl)))
    ((with_reducible refine o3_pre (v := ?_) (a' := ?_) hS ?_ (fun V hV => ?_) ?_ ?_); rotate_left 2; (rfl); (have c8 : V.cell? ⟨b, 8, none⟩ = some (.int .i64 S.word.tail) := (hV.cell 8).1; first | (go_simp; with_reducible rfl) | (go_simp; refine (if_pos ?_).trans ?_; omega; with_reducible rfl)); (simp only [Act.put, List.setIfInBounds_toArray, List.set_cons_succ, List.set_cons_zero] <;> rfl))
    refine o3_onlyF rfl rfl ?_
    go_simp
    refine ⟨trivial, rfl, (callsIn_wide.2 (me_s _ _ _ _ _ _ _ hS)).mono ?_⟩
    rintro e w1 ⟨rfl, hw⟩
    subst hw
    replace hS := hS.drew
    replace hB := hB.drew
    generalize w3.drew = w4 at *
    refine ⟨hS, ?_⟩
    iterate 2 (((with_reducible refine o3_calmF (v := ?_) (a' := ?_) hS ?_ (fun V => ?_) ?_ ?_); rotate_left 2; (rfl); (first | (go_simp; with_reducible rfl) | (go_simp; refine (if_pos ?_).trans ?_; omega; with_reducible rfl)); (simp only [Act.put, List.setIfInBounds_toArray, List.set_cons_succ, List.set_cons_zero] <;> rfl)))
    obtain ⟨q5, p5⟩ := hS.field ht (j := 5) rfl
    refine o3_onlyS rfl rfl ?_
    go_simp
    refine ⟨trivial, ?_⟩
    refine o3_end _ ?_
    try simp only [Exit.then]
    replace hB := hB.setCell (p := ⟨gb, k * 11 + 5, none⟩) (show base ≤ gb from hS.base_le.1) (.int .i64 S.word.tail)
    have hR := hS.mod ht (Th.rg S.word.tail) 5 (.int .i64 S.word.tail) (by omega) rfl
    clear hS q5 p5
    go_wp2_with (first
        | (go_at_call 139; (with_reducible refine (go_s _ _ _ _ _ _ _ _ hR).mono ?_); rintro e w5 ⟨rfl, h5, hb5⟩; replace hB := hB.trans hb5; have hX := h5.ran hB))
    go_returns
    exact ⟨rfl, by rw [e]; exact hX⟩
  have hR := hS
  have h1' : (r == 1) = false := by simpa using h1
  by_cases h2 : r = 2
  · subst h2
    have e : M = S.full1 k t := hM.symm
    go_wp2_with (first
        | (go_at_call 144; (with_reducible refine (full_s _ _ _ _ _ _ _ hR hsm t ht hr).mono ?_); rintro e w5 ⟨rfl, h5⟩; have hX := h5.trans hB))
    go_returns
    exact ⟨rfl, by rw [e]; exact hX⟩
  · have h2' : (r == 2) = false := by simpa using h2
    have e : M = S.ends k t r := by rw [← hM]; simp [St.look1, h1, h2]
    go_wp2_with (first
        | (go_at_call 141; (with_reducible refine (ends_s _ _ _ _ _ _ _ _ hR hsm t ht).mono ?_); rintro e w5 ⟨rfl, h5⟩; have hX := h5.trans hB))
    go_returns
    exact ⟨rfl, by rw [e]; exact hX⟩

set_option maxRecDepth 100000 in
set_option maxHeartbeats 4000000 in
theorem again_s (S : St) (L : Lay) (base b gb k : Nat) (w : World) (hR : RunAt 157 base b gb (S) L k w) (hsm : S.small) (t : Th) (ht : S.ths[k]? = some t) :
    Calls Tryz.prog 114 #[.pointer (some ⟨b, 0, none⟩)] w fun e w' => e = .returned (.tuple #[]) ∧ Ran 157 base b k ((S.again1 k t (S.word.acc S.slots.length).2.2)) w w' := by
  have E := fun W => word_sees S.word S.slots.length W
  generalize hr0 : (S.word.acc S.slots.length).2.2 = r at *
  generalize (S.word.tak S.slots.length).2.2 = r2 at *
  generalize hM : S.again1 k t r = M at *
  go_enter Tryz.func114, Tryz.ntmps114
  go_wp2_with fail
  refine wp_region_ord3 (RunAt 157 base b gb S L k) (AnyW) 7 (by kernel_rfl)
    [(2, 0), (2, 1), (2, 2), (2, 3), (2, 5), (1, 4), (0, 6), (0, 7), (2, 8), (2, 9), (2, 10), (2, 11), (2, 12)]
    (by kernel_rfl) (by kernel_rfl) (by decide) (by kernel_rfl) (fun _ _ d _ _ h => by cases d <;> exact h) ?_
  simp only [inOrder2, List.getElem?_cons_succ, List.getElem?_cons_zero, List.nil_append, List.cons_append]
  have hB := (Below.refl base w).drew
  have hS := hR.drew
  have hle : base ≤ w.drew.heap.size := hR.base_le.2.2.2.2
  clear hR
  generalize w.drew = w0 at *
  iterate 5 (((with_reducible refine o3_calmF (v := ?_) (a' := ?_) hS ?_ (fun V => ?_) ?_ ?_); rotate_left 2; (rfl); (first | (go_simp; with_reducible rfl) | (go_simp; refine (if_pos ?_).trans ?_; omega; with_reducible rfl)); (simp only [Act.put, List.setIfInBounds_toArray, List.set_cons_succ, List.set_cons_zero] <;> rfl)))
  ((with_reducible refine o3_pre (v := ?_) (a' := ?_) hS ?_ (fun V hV => ?_) ?_ ?_); rotate_left 2; (rfl); (have c7 : V.cell? ⟨b, 7, none⟩ = some (.int .i64 S.word.head) := (hV.cell 7).1; have c8 : V.cell? ⟨b, 8, none⟩ = some (.int .i64 S.word.tail) := (hV.cell 8).1; have c9 : V.cell? ⟨b, 9, none⟩ = some (.int .i64 S.word.mode) := (hV.cell 9).1; first | (go_simp; with_reducible rfl) | (go_simp; refine (if_pos ?_).trans ?_; omega; with_reducible rfl)); (simp only [Act.put, List.setIfInBounds_toArray, List.set_cons_succ, List.set_cons_zero] <;> rfl))
  refine o3_onlyF rfl rfl ?_
  go_simp
  refine ⟨trivial, rfl, (callsIn_wide.2 (room_s _ _ _ _ _ _ _ hS)).mono ?_⟩
  rintro e w1 ⟨rfl, hw⟩
  subst hw
  refine ⟨hS, ?_⟩
  refine o3_onlyS rfl rfl ?_
  go_simp
  refine ⟨trivial, rfl, (callsIn_wide.2 (E _)).mono ?_⟩
  rintro e w2 ⟨rfl, hb⟩
  replace hB := hB.trans (hb.mono hle)
  replace hS := hS.on hb
  refine ⟨trivial, ?_⟩
  iterate 5 (((with_reducible refine o3_calmT (v := ?_) (a' := ?_) (any_ _) ?_ (fun V => ?_) ?_ ?_); rotate_left 2; (rfl); (first | (go_simp; with_reducible rfl) | (go_simp; refine (if_pos ?_).trans ?_; omega; with_reducible rfl)); (simp only [Act.put, List.setIfInBounds_toArray, List.set_cons_succ, List.set_cons_zero] <;> rfl)))
  refine o3_end _ ?_
  try simp only [Exit.then]
  clear hb
  have hR := hS
  by_cases h2 : r = 2
  · subst h2
    cases hl : t.late
    · have e : M = S.mod k (Th.at 8) := by rw [← hM]; simp [St.again1, hl]
      go_wp2_with (first
          | (go_at_call 119; (with_reducible refine (me_s _ _ _ _ _ _ _ hR).mono ?_); rintro e w1 ⟨rfl, hw⟩; subst hw; replace hR := hR.drew; replace hB := hB.drew; have f8 := (hR.field ht (j := 8) rfl).1; rw [hl] at f8)
          | (go_at_call 139; (with_reducible refine (go_s _ _ _ _ _ _ _ _ hR).mono ?_); rintro e w5 ⟨rfl, h5, hb5⟩; replace hB := hB.trans hb5; have hX := h5.ran hB))
      go_returns
      exact ⟨rfl, by rw [e]; exact hX⟩
    · have e : M = S.mod k (Th.at 2) := by rw [← hM]; simp [St.again1, hl]
      go_wp2_with (first
          | (go_at_call 119; (with_reducible refine (me_s _ _ _ _ _ _ _ hR).mono ?_); rintro e w1 ⟨rfl, hw⟩; subst hw; replace hR := hR.drew; replace hB := hB.drew; have f8 := (hR.field ht (j := 8) rfl).1; rw [hl] at f8)
          | (go_at_call 139; (with_reducible refine (go_s _ _ _ _ _ _ _ _ hR).mono ?_); rintro e w5 ⟨rfl, h5, hb5⟩; replace hB := hB.trans hb5; have hX := h5.ran hB))
      go_returns
      exact ⟨rfl, by rw [e]; exact hX⟩
  · have h2' : (r == 2) = false := by simpa using h2
    have e : M = S.mod k (Th.at 2) := by rw [← hM]; simp [St.again1, h2]
    go_wp2_with (first
        | (go_at_call 139; (with_reducible refine (go_s _ _ _ _ _ _ _ _ hR).mono ?_); rintro e w5 ⟨rfl, h5, hb5⟩; replace hB := hB.trans hb5; have hX := h5.ran hB))
    go_returns
    exact ⟨rfl, by rw [e]; exact hX⟩

end Go.Proofs.YtnbgpopjnpdmgaaGreat

namespace Go.Proofs.YtnbgpopjnpdmgaaGreat
open Go Go.RowKit Go.Shelf

/-- Another block of the walk's own is written. -/
theorem RunAt.aside {T T2 : TypeId} {base b gb B : Nat} {S : St} {L : Lay} {k : Nat} {W W' : World} {cs : Array Value} {fr : Nat × Nat} (h : RunAt T base b gb S L k W) (hB : W.heap[B]? = some (.cells cs T2 fr)) (hT : okT T2) (hne : b ≠ B) (hs : ∀ j, j ≠ B → W'.heap[j]? = W.heap[j]?) : RunAt T base b gb S L k W' :=
  ⟨(hs b hne).trans h.hb, h.ho.put hB hT hs, h.le, h.h6, h.hk, h.ok⟩
def St.value (S : St) (p : Int) : Int := if S.ok = false ∨ p < 0 then 0 else (plAt S.slots p).val
theorem ok_slots {S : St} (h : S.ok = true) : slotsOk S.slots = true := by
  simp only [St.ok, Bool.and_eq_true] at h
  exact h.2.2.2.1
/-- A block of a walk's own, and what stays ahead of it. -/
theorem new_own {T : TypeId} {base b gb : Nat} {S : St} {L : Lay} {k : Nat} {w W : World} (h : RunAt T base b gb S L k W) (hB : Below base w W) (o : Obj) : ∃ B, B = W.heap.size ∧ (W.alloc o).heap[B]? = some o ∧ RunAt T base b gb S L k (W.alloc o) ∧ Below base w (W.alloc o) ∧ b ≠ B ∧ base ≤ B :=
  ⟨_, rfl, World.alloc_heap_new W o, h.on (below_one W o), hB.trans ((below_one W o).mono h.base_le.2.2.2.2), by have := h.base_le; omega, h.base_le.2.2.2.2⟩
theorem come_len (more : Nat → Bool) (ep : Int) (l : List Int) : (comeE more ep l).2.1.length ≤ l.length ∧ (comeE more ep l).2.2.length ≤ l.length := by
  have h : ∀ (l : List Int) (k : Nat), (drainM more k l).2.length ≤ l.length := by
    intro l
    induction l with
    | nil => intro k; simp [drainM]
    | cons x r ih => intro k; have := ih (k + 1); unfold drainM; split <;> simp <;> omega
  have h2 := drain_len more l 0
  have h3 := h l 0
  unfold comeE
  split <;> simp <;> omega
theorem okEv : okT 32 := by unfold okT; decide
theorem okWo : okT 28 := by unfold okT; decide

set_option maxRecDepth 100000 in
set_option maxHeartbeats 2000000 in
theorem value_any (S : St) (L : Lay) (p : Int) (w : World) (hsm : S.small) (hH : Holds w S L) :
    Calls Tryz.prog 151 #[S.val L, .int .i64 p] w fun e w' => e = .returned (.int .i64 (S.value p)) ∧ Below w.heap.size w w' := by
  have K := fun W (hW : Below w.heap.size w W) => check_state S L W hsm (hH.on hW)
  have k0 := World.alloc_heap_new w (.cells (S.cells L) 36)
  have hB0 : Below w.heap.size w (w.alloc (.cells (S.cells L) 36)) := below_one w _
  have hv : S.value p = if S.ok = false ∨ p < 0 then 0 else (plAt S.slots p).val := rfl
  generalize hM : S.value p = M at *
  cases ho : S.ok with
  | false =>
    rw [ho] at K
    obtain rfl : M = 0 := by rw [hv, ho]; simp
    clear hv hM
    go_enter Tryz.func151, Tryz.ntmps151
    go_wp2_with (first
      | ((with_reducible refine wpList_val (load36 k0 ?_ ?_) ?_); (focus rfl); (focus rfl))
      | (go_at_call 22; (with_reducible refine (K _ hB0).mono ?_); rintro e w1 ⟨rfl, hb⟩; have hB := hB0.trans (hb.mono hB0.size)))
    go_ret
    exact ⟨rfl, hB⟩
  | true =>
    rw [ho] at K
    by_cases hp : p < 0
    · obtain rfl : M = 0 := by rw [hv]; simp [hp]
      clear hv hM
      go_enter Tryz.func151, Tryz.ntmps151
      go_wp2_with (first
      | ((with_reducible refine wpList_val (load36 k0 ?_ ?_) ?_); (focus rfl); (focus rfl))
      | (go_at_call 22; (with_reducible refine (K _ hB0).mono ?_); rintro e w1 ⟨rfl, hb⟩; have hB := hB0.trans (hb.mono hB0.size)))
      go_ret
      exact ⟨rfl, hB⟩
    · have hok := ok_slots ho
      have hn := slotsOk_len hok
      have P := fun W => pos_place p S.slots.length W
      obtain ⟨kk, hk, hkl, hg⟩ := plAt_get hok p
      obtain ⟨g, off, hA1, hgl, hc⟩ := hH.h1.open_ (by rw [pls_len]; omega)
      have cv0 := hc _ _ (pls_at hg).2
      rw [← Nat.add_assoc] at cv0
      rw [hk] at P
      replace hv : M = (plAt S.slots p).val := by rw [hv]; simp [ho, hp]
      rw [← hv] at cv0
      have HA1 := Lib.hid hA1
      clear hv hM hc hg hk hA1
      go_enter Tryz.func151, Tryz.ntmps151
      go_wp2_with (first
          | ((with_reducible refine wpList_val (load36 k0 ?_ ?_) ?_); (focus rfl); (focus rfl))
          | (go_at_call 22; (with_reducible refine (K _ hB0).mono ?_); rintro e w1 ⟨rfl, hb⟩; have hB := hB0.trans (hb.mono hB0.size); have k1 := kept k0 hb; have c10 : w1.cell? ⟨w.heap.size, 10, none⟩ = some (.slice (some ⟨g, off, none⟩) S.slots.length L.c1) := by rw [(of_block k1 10).1]; simp [HA1.out]))
      have hS : (fun V => Below w.heap.size w V ∧ V.heap[w.heap.size]? = some (.cells (S.cells L) 36 (0, 0))) w1.drew := ⟨hB.drew, k1⟩
      refine wp_region_ord3 (fun V => Below w.heap.size w V ∧ V.heap[w.heap.size]? = some (.cells (S.cells L) 36 (0, 0))) (fun V => Below w.heap.size w V ∧ V.heap[w.heap.size]? = some (.cells (S.cells L) 36 (0, 0))) 6 (by kernel_rfl)
        [(2, 0), (2, 2), (2, 3), (2, 1), (2, 4), (2, 5), (0, 6), (2, 7), (2, 8), (3, 9), (2, 10)]
        (by kernel_rfl) (by kernel_rfl) (by decide) (by kernel_rfl) (fun _ _ d _ _ h => by cases d <;> exact h) ?_
      simp only [inOrder2, List.getElem?_cons_succ, List.getElem?_cons_zero, List.nil_append, List.cons_append]
      clear c10
      iterate 3 (((with_reducible refine o3_calmF (v := ?_) (a' := ?_) hS ?_ (fun V => ?_) ?_ ?_); rotate_left 2; (rfl); (first | (go_simp; with_reducible rfl) | (go_simp; refine (if_pos ?_).trans ?_; omega; with_reducible rfl)); (simp only [Act.put, List.setIfInBounds_toArray, List.set_cons_succ, List.set_cons_zero] <;> rfl)))
      iterate 2 (((with_reducible refine o3_both (v := ?_) (a' := ?_) hS ?_ (fun V hV => ?_) (fun V hV => ?_) ?_ ?_); rotate_left 2; (focus rfl); (focus (obtain ⟨hbV, kV⟩ := hV; have c10 : V.cell? ⟨w.heap.size, 10, none⟩ = some (.slice (some ⟨g, off, none⟩) S.slots.length L.c1) := (by rw [(of_block kV 10).1]; simp [HA1.out]); have cv := keep_c cv0 hbV; first | (go_simp; with_reducible rfl) | (go_simp; refine (if_pos ?_).trans ?_; omega; with_reducible rfl))); (focus (obtain ⟨hbV, kV⟩ := hV; have c10 : V.cell? ⟨w.heap.size, 10, none⟩ = some (.slice (some ⟨g, off, none⟩) S.slots.length L.c1) := (by rw [(of_block kV 10).1]; simp [HA1.out]); have cv := keep_c cv0 hbV; first | (go_simp; done) | (go_simp; with_reducible rfl))); (focus (simp only [Act.put, List.setIfInBounds_toArray, List.set_cons_succ, List.set_cons_zero] <;> rfl))))
      ((with_reducible refine o3_calmF (v := ?_) (a' := ?_) hS ?_ (fun V => ?_) ?_ ?_); rotate_left 2; (rfl); (first | (go_simp; with_reducible rfl) | (go_simp; refine (if_pos ?_).trans ?_; omega; with_reducible rfl)); (simp only [Act.put, List.setIfInBounds_toArray, List.set_cons_succ, List.set_cons_zero] <;> rfl))
      refine o3_onlyS rfl rfl ?_
      go_simp
      refine ⟨trivial, rfl, (callsIn_wide.2 (P _)).mono ?_⟩
      rintro e w3 ⟨rfl, hw⟩
      subst hw
      refine ⟨hS, ?_⟩
      iterate 2 (((with_reducible refine o3_calmT (v := ?_) (a' := ?_) hS ?_ (fun V => ?_) ?_ ?_); rotate_left 2; (rfl); (first | (go_simp; with_reducible rfl) | (go_simp; refine (if_pos ?_).trans ?_; omega; with_reducible rfl)); (simp only [Act.put, List.setIfInBounds_toArray, List.set_cons_succ, List.set_cons_zero] <;> rfl)))
      ((with_reducible refine o3_post (v := ?_) (a' := ?_) hS ?_ (fun V hV => ?_) ?_ ?_); rotate_left 2; (rfl); (obtain ⟨hbV, kV⟩ := hV; have c10 : V.cell? ⟨w.heap.size, 10, none⟩ = some (.slice (some ⟨g, off, none⟩) S.slots.length L.c1) := (by rw [(of_block kV 10).1]; simp [HA1.out]); have cv := keep_c cv0 hbV; first | (go_simp; with_reducible rfl) | (go_simp; refine (if_pos ?_).trans ?_; omega; with_reducible rfl)); (simp only [Act.put, List.setIfInBounds_toArray, List.set_cons_succ, List.set_cons_zero] <;> rfl))
      ((with_reducible refine o3_calmT (v := ?_) (a' := ?_) hS ?_ (fun V => ?_) ?_ ?_); rotate_left 2; (rfl); (first | (go_simp; with_reducible rfl) | (go_simp; refine (if_pos ?_).trans ?_; omega; with_reducible rfl)); (simp only [Act.put, List.setIfInBounds_toArray, List.set_cons_succ, List.set_cons_zero] <;> rfl))
      refine o3_end _ ?_
      try simp only [Exit.then]
      have hB := hS.1
      go_wp2
      go_ret
      exact ⟨rfl, hB⟩

set_option maxRecDepth 100000 in
set_option maxHeartbeats 4000000 in
theorem notify_s (S : St) (L : Lay) (base b gb k : Nat) (w : World) (hR : RunAt 157 base b gb (S) L k w) (hsm : S.small) :
    Calls Tryz.prog 113 #[.pointer (some ⟨b, 0, none⟩)] w fun e w' => e = .returned (.tuple #[]) ∧ Ran 157 base b k (((if (ntfE S.ee S.el).2 then { S with ee := (comeE all1 S.ee S.el).1, el := (comeE all1 S.ee S.el).2.1 }.wakeAt (ntfE S.ee S.el).1 else { S with ee := (comeE all1 S.ee S.el).1, el := (comeE all1 S.ee S.el).2.1 }).mod k (Th.at 9))) w w' := by
  have E := notify_any S.ee S.el L.a5 L.c5 w hsm.2.2.2.2.1 hR.ho.m5.lies
  have hdl : (comeE all1 S.ee S.el).2.1.length ≤ 1000 := Nat.le_trans (come_len ..).1 hsm.2.2.2.2.1
  have c15 : w.cell? ⟨b, 15, none⟩ = some (.int .i64 S.ee) := (hR.cell 15).1; have c16 : w.cell? ⟨b, 16, none⟩ = some (.slice L.a5 S.el.length L.c5) := (hR.cell 16).1
  have hB := Below.refl base w
  generalize comeE all1 S.ee S.el = x at *
  generalize ntfE S.ee S.el = y at *
  obtain ⟨x1, x2, x3⟩ := x
  obtain ⟨y1, y2⟩ := y
  dsimp only at *
  have hsm3 : St.small { S with ee := x1, el := x2 } := ⟨hsm.1, hsm.2.1, hsm.2.2.1, hsm.2.2.2.1, hdl, hsm.2.2.2.2.2⟩
  generalize hM : (if y2 then { S with ee := x1, el := x2 }.wakeAt y1 else { S with ee := x1, el := x2 }).mod k (Th.at 9) = M at *
  generalize hS4 : { S with ee := x1, el := x2 }.wakeAt y1 = S4 at *
  have hn4 : S4.ths.length = S.ths.length := by rw [← hS4]; exact wake_len ..
  go_enter Tryz.func113, Tryz.ntmps113
  cases y2
  · have e : M = { S with ee := x1, el := x2 }.mod k (Th.at 9) := hM.symm
    go_wp2_with (first
        | (go_at_call 148; (with_reducible refine (E).mono ?_); rintro e w2 ⟨A1, c1, rfl, hm, hb⟩; have hle := hR.base_le.2.2.2.2; replace hB := hB.trans (hb.mono hle); replace hm := hm.mono hle; replace hR := hR.on hb; obtain ⟨B, hBe, kB, hR2, hB2, hne, hle2⟩ := new_own hR hB (.cells #[.int .i64 x1, .slice A1 x2.length c1] 32); subst hBe; have hm2 := hm.alloc (.cells #[.int .i64 x1, .slice A1 x2.length c1] 32); obtain ⟨d0, g0⟩ := of_block kB 0; obtain ⟨d1, g1⟩ := of_block kB 1; obtain ⟨b15, f15⟩ := hR2.cell 15; obtain ⟨b16, f16⟩ := hR2.cell 16; have hR3 := hR2.putEmpty (ep := x1) hm2; have hB3 := (hB2.setCell (p := ⟨b, 15, none⟩) (show base ≤ b from hR.le) (.int .i64 x1)).setCell (p := ⟨b, 16, none⟩) (show base ≤ b from hR.le) (.slice A1 x2.length c1); clear hR hB hm hm2 hB2 hR2)
        | (go_at_call 139; (with_reducible refine (go_s _ _ _ _ _ _ _ _ hR3).mono ?_); rintro e w5 ⟨rfl, h5, hb5⟩; have hX := h5.ran (hB3.trans hb5)))
    go_returns
    exact ⟨rfl, by rw [e]; exact hX⟩
  · have e : M = S4.mod k (Th.at 9) := hM.symm
    go_wp2_with (first
        | (go_at_call 148; (with_reducible refine (E).mono ?_); rintro e w2 ⟨A1, c1, rfl, hm, hb⟩; have hle := hR.base_le.2.2.2.2; replace hB := hB.trans (hb.mono hle); replace hm := hm.mono hle; replace hR := hR.on hb; obtain ⟨B, hBe, kB, hR2, hB2, hne, hle2⟩ := new_own hR hB (.cells #[.int .i64 x1, .slice A1 x2.length c1] 32); subst hBe; have hm2 := hm.alloc (.cells #[.int .i64 x1, .slice A1 x2.length c1] 32); obtain ⟨d0, g0⟩ := of_block kB 0; obtain ⟨d1, g1⟩ := of_block kB 1; obtain ⟨b15, f15⟩ := hR2.cell 15; obtain ⟨b16, f16⟩ := hR2.cell 16; have hR3 := hR2.putEmpty (ep := x1) hm2; have hB3 := (hB2.setCell (p := ⟨b, 15, none⟩) (show base ≤ b from hR.le) (.int .i64 x1)).setCell (p := ⟨b, 16, none⟩) (show base ≤ b from hR.le) (.slice A1 x2.length c1); clear hR hB hm hm2 hB2 hR2)
        | ((with_reducible refine wpList_val (loadBox hR3 ?_) ?_); (focus rfl))
        | (go_at_call 18; (with_reducible refine (wake_any _ _ y1 _ hsm3 hR3.ho.holds).mono ?_); rw [hS4]; rintro e w7 ⟨L4, rfl, ho4, hb4⟩; have hle4 := hR3.base_le.2.2.2.2; replace hR3 := hR3.on hb4; replace hB3 := hB3.trans (hb4.mono hle4); obtain ⟨V, hst, hbV, hBV, hoth⟩ := run_store_state (S' := S4) (L' := L4) hR3.hb hR3.le; obtain ⟨gb4, hR⟩ := hR3.state hbV hoth ho4 hle4 hn4; have hB := hB3.trans hBV)
        | ((with_reducible refine wpList_skip (store36 hst ?_ ?_ ?_) ?_); (focus rfl); (focus rfl); (focus rfl))
        | (go_at_call 139; (with_reducible refine (go_s _ _ _ _ _ _ _ _ hR).mono ?_); rintro e w5 ⟨rfl, h5, hb5⟩; replace hB := hB.trans hb5; have hX := h5.ran hB))
    go_returns
    exact ⟨rfl, by rw [e]; exact hX⟩

end Go.Proofs.YtnbgpopjnpdmgaaGreat
