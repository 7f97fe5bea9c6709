/-
  DERIVED. Send.
-/
import Derived.Test.YtnbgpopjnpdmgaaGreatPav
import Derived.Test.YtnbgpopjnpdmgaaGreatPaz
set_option linter.unusedVariables false
set_option linter.unusedSimpArgs false

namespace Go.Proofs.YtnbgpopjnpdmgaaGreat
open Go Go.RowKit Go.Shelf

def St.ends (S : St) (k : Nat) (t : Th) (r : Int) : St := (S.tell k t.kind r 0).mod k (Th.at 9)
def St.first1 (S : St) (k : Nat) (t : Th) (here : Bool) : St := if here then S.mod k (Th.at 2) else if t.late then S.ends k t 5 else S.mod k Th.on
def St.full1 (S : St) (k : Nat) (t : Th) : St :=
  if S.cfg.pol = 1 then S.ends k t 3 else if S.cfg.pol = 2 then (S.mod k (Th.rg S.word.head)).mod k (Th.at 10) else if t.kind = 2 then S.ends k t 2 else if t.late then S.ends k t 5 else if nextOf S.cfg t.tries = 2 then S.mod k (Th.at 5) else S.mod k Th.on
def St.look1 (S : St) (k : Nat) (t : Th) (r : Int) : St := if r = 1 then (S.mod k (Th.rg S.word.tail)).mod k (Th.at 3) else if r = 2 then S.full1 k t else S.ends k t r
def St.again1 (S : St) (k : Nat) (t : Th) (r : Int) : St := if r = 2 ∧ t.late = false then S.mod k (Th.at 8) else S.mod k (Th.at 2)
def St.write1 (S : St) (k : Nat) (x : List Pl × Int) : St := if x.2 = 0 then { S with slots := x.1 }.mod k (Th.at 4) else S
def St.rel1 (S : St) (k : Nat) (x : List Pl × Int) : St := (if x.2 = 0 then { S with slots := x.1 } else S).mod k (Th.at 2)
def AnyW (_ : World) : Prop := True
theorem any_ (w : World) : AnyW w := trivial
theorem wide {n : Nat} (h : n ≤ 1000) : n ≤ 100000 := by omega

set_option maxRecDepth 100000 in
set_option maxHeartbeats 4000000 in
theorem enter_s (S : St) (L : Lay) (base b gb k : Nat) (w : World) (hR : RunAt 157 base b gb (S) L k w) (hsm : S.small) :
    Calls Tryz.prog 107 #[.pointer (some ⟨b, 0, none⟩)] w fun e w' => e = .returned (.tuple #[]) ∧ Ran 157 base b k (({ S with sends := (entL S.sends k).1 }.mod k (Th.at 1))) w w' := by
  have E := fun (V : World) (hV : RunAt 157 base b gb S L k V) => enter_any S.sends k L.a2 L.c2 V (wide hsm.2.1) hV.ho.m2.lies
  generalize hx : entL S.sends k = x at *
  obtain ⟨x2, er⟩ := x
  have hl := hsm.2.1
  go_enter Tryz.func107, Tryz.ntmps107
  go_wp2_with fail
  refine wp_region_ord3 (RunAt 157 base b gb S L k) (AnyW) 17 (by kernel_rfl)
    [(2, 0), (2, 1), (2, 2), (2, 3), (2, 4), (2, 6), (2, 7), (2, 8), (1, 5), (1, 9), (0, 10), (2, 11), (2, 12), (2, 13), (2, 14), (2, 15), (2, 16), (0, 17)]
    (by kernel_rfl) (by kernel_rfl) (by decide) (by kernel_rfl) (fun _ _ d _ _ h => by cases d <;> exact h) ?_
  simp only [inOrder2, List.getElem?_cons_succ, List.getElem?_cons_zero, List.nil_append, List.cons_append]
  have hB := (Below.refl base w).drew
  have hS := hR.drew
  have hle : base ≤ w.drew.heap.size := hR.base_le.2.2.2.2
  clear hR
  generalize w.drew = w0 at *
  iterate 8 (((with_reducible refine o3_calmF (v := ?_) (a' := ?_) hS ?_ (fun V => ?_) ?_ ?_); rotate_left 2; (rfl); (first | (go_simp; with_reducible rfl) | (go_simp; refine (if_pos ?_).trans ?_; omega; with_reducible rfl)); (simp only [Act.put, List.setIfInBounds_toArray, List.set_cons_succ, List.set_cons_zero] <;> rfl)))
  iterate 2 (((with_reducible refine o3_pre (v := ?_) (a' := ?_) hS ?_ (fun V hV => ?_) ?_ ?_); rotate_left 2; (rfl); (have c11 : V.cell? ⟨b, 11, none⟩ = some (.slice L.a2 S.sends.length L.c2) := (hV.cell 11).1; have c20 : V.cell? ⟨b, 20, none⟩ = some (.int .i64 k) := (hV.cell 20).1; first | (go_simp; with_reducible rfl) | (go_simp; refine (if_pos ?_).trans ?_; omega; with_reducible rfl)); (simp only [Act.put, List.setIfInBounds_toArray, List.set_cons_succ, List.set_cons_zero] <;> rfl)))
  refine o3_onlyF rfl rfl ?_
  go_simp
  refine ⟨trivial, rfl, (callsIn_wide.2 (E _ hS)).mono ?_⟩
  rintro e w1 ⟨A1, c1, rfl, hm, hb⟩
  replace hS := hS.on hb
  refine ⟨hS, ?_⟩
  iterate 6 (((with_reducible refine o3_calmF (v := ?_) (a' := ?_) hS ?_ (fun V => ?_) ?_ ?_); rotate_left 2; (rfl); (first | (go_simp; with_reducible rfl) | (go_simp; refine (if_pos ?_).trans ?_; omega; with_reducible rfl)); (simp only [Act.put, List.setIfInBounds_toArray, List.set_cons_succ, List.set_cons_zero] <;> rfl)))
  obtain ⟨b11, f11⟩ := hS.cell 11
  refine o3_onlyS rfl rfl ?_
  go_simp
  refine ⟨trivial, ?_⟩
  refine o3_end _ ?_
  try simp only [Exit.then]
  replace hB := (hB.trans (hb.mono hle)).setCell (p := ⟨b, 11, none⟩) (show base ≤ b from hS.le) (.slice A1 x2.length c1)
  have hR := hS.putSends (hm.mono hle)
  clear b11 f11 hS hm hb
  go_wp2_with (first
      | (go_at_call 139; (with_reducible refine (go_s _ _ _ _ _ _ _ _ hR).mono ?_); rintro e w5 ⟨rfl, h5, hb5⟩; replace hB := hB.trans hb5; have hX := h5.ran hB))
  go_returns
  exact ⟨rfl, hX⟩

set_option maxRecDepth 100000 in
set_option maxHeartbeats 4000000 in
theorem leave_s (S : St) (L : Lay) (base b gb k : Nat) (w : World) (hR : RunAt 157 base b gb (S) L k w) (hsm : S.small) (t : Th) (ht : S.ths[k]? = some t) :
    Calls Tryz.prog 116 #[.pointer (some ⟨b, 0, none⟩)] w fun e w' => e = .returned (.tuple #[]) ∧ Ran 157 base b k (({ S with sends := (levL S.sends k).1 }.mod k (fun t => t.done.1))) w w' := by
  have E := fun (V : World) (hV : RunAt 157 base b gb S L k V) => leave_any S.sends k L.a2 L.c2 V (wide hsm.2.1) hV.ho.m2.lies
  have DD := fun W => th_done t W
  have hm0 := mod_set (S := { S with sends := (levL S.sends k).1 }) ht (fun t => t.done.1)
  rw [hm0]
  clear hm0
  generalize t.done = r0 at *
  obtain ⟨r1, r2⟩ := r0
  generalize hx : levL S.sends k = x at *
  obtain ⟨x2, er⟩ := x
  have hl := hsm.2.1
  go_enter Tryz.func116, Tryz.ntmps116
  go_wp2_with fail
  refine wp_region_ord3 (RunAt 157 base b gb S L k) (AnyW) 17 (by kernel_rfl)
    [(2, 0), (2, 1), (2, 2), (2, 3), (2, 4), (2, 6), (2, 7), (2, 8), (1, 5), (1, 9), (0, 10), (2, 11), (2, 12), (2, 13), (2, 14), (2, 15), (2, 16), (0, 17)]
    (by kernel_rfl) (by kernel_rfl) (by decide) (by kernel_rfl) (fun _ _ d _ _ h => by cases d <;> exact h) ?_
  simp only [inOrder2, List.getElem?_cons_succ, List.getElem?_cons_zero, List.nil_append, List.cons_append]
  have hB := (Below.refl base w).drew
  have hS := hR.drew
  have hle : base ≤ w.drew.heap.size := hR.base_le.2.2.2.2
  clear hR
  generalize w.drew = w0 at *
  iterate 8 (((with_reducible refine o3_calmF (v := ?_) (a' := ?_) hS ?_ (fun V => ?_) ?_ ?_); rotate_left 2; (rfl); (first | (go_simp; with_reducible rfl) | (go_simp; refine (if_pos ?_).trans ?_; omega; with_reducible rfl)); (simp only [Act.put, List.setIfInBounds_toArray, List.set_cons_succ, List.set_cons_zero] <;> rfl)))
  iterate 2 (((with_reducible refine o3_pre (v := ?_) (a' := ?_) hS ?_ (fun V hV => ?_) ?_ ?_); rotate_left 2; (rfl); (have c11 : V.cell? ⟨b, 11, none⟩ = some (.slice L.a2 S.sends.length L.c2) := (hV.cell 11).1; have c20 : V.cell? ⟨b, 20, none⟩ = some (.int .i64 k) := (hV.cell 20).1; first | (go_simp; with_reducible rfl) | (go_simp; refine (if_pos ?_).trans ?_; omega; with_reducible rfl)); (simp only [Act.put, List.setIfInBounds_toArray, List.set_cons_succ, List.set_cons_zero] <;> rfl)))
  refine o3_onlyF rfl rfl ?_
  go_simp
  refine ⟨trivial, rfl, (callsIn_wide.2 (E _ hS)).mono ?_⟩
  rintro e w1 ⟨A1, c1, rfl, hm, hb⟩
  replace hS := hS.on hb
  refine ⟨hS, ?_⟩
  iterate 6 (((with_reducible refine o3_calmF (v := ?_) (a' := ?_) hS ?_ (fun V => ?_) ?_ ?_); rotate_left 2; (rfl); (first | (go_simp; with_reducible rfl) | (go_simp; refine (if_pos ?_).trans ?_; omega; with_reducible rfl)); (simp only [Act.put, List.setIfInBounds_toArray, List.set_cons_succ, List.set_cons_zero] <;> rfl)))
  obtain ⟨b11, f11⟩ := hS.cell 11
  refine o3_onlyS rfl rfl ?_
  go_simp
  refine ⟨trivial, ?_⟩
  refine o3_end _ ?_
  try simp only [Exit.then]
  replace hB := (hB.trans (hb.mono hle)).setCell (p := ⟨b, 11, none⟩) (show base ≤ b from hS.le) (.slice A1 x2.length c1)
  have hR := hS.putSends (hm.mono hle)
  clear b11 f11 hS hm hb
  go_wp2_with (first
      | (go_at_call 119; (with_reducible refine (me_s _ _ _ _ _ _ _ hR).mono ?_); rintro e w6 ⟨rfl, hw⟩; subst hw; replace hR := hR.drew; replace hB := hB.drew; have hcs := th_cells hR.mine ht)
      | (go_at_call 128; (with_reducible refine (DD _).mono ?_); rintro e w7 ⟨rfl, hb7⟩; have h77 := hR.base_le.2.2.2.2; replace hR := hR.on hb7; obtain ⟨V, hst, hm2, hg2, hB2⟩ := store_th hR.mine hR.hk r1)
      | ((with_reducible refine wpList_val (loadT Tryz.isAgg51 Tryz.sizeOf51 (cs := t.list) hcs rfl ?_) ?_); (focus rfl))
      | ((with_reducible refine wpList_skip (storeT Tryz.sizeOf51 hst ?_ ?_ ?_) ?_); (focus rfl); (focus rfl); (focus rfl)))
  go_returns
  exact ⟨rfl, RunAt.ran (hR.stored hm2 hg2) ((hB.trans (hb7.mono h77)).trans hB2)⟩

set_option maxRecDepth 100000 in
set_option maxHeartbeats 4000000 in
theorem first_s (S : St) (L : Lay) (base b gb k : Nat) (w : World) (hR : RunAt 157 base b gb (S) L k w) (hsm : S.small) (t : Th) (ht : S.ths[k]? = some t) (hr : 0 ≤ t.tries ∧ t.tries ≤ 1099511627776) :
    Calls Tryz.prog 108 #[.pointer (some ⟨b, 0, none⟩)] w fun e w' => e = .returned (.tuple #[]) ∧ Ran 157 base b k ((S.first1 k t (plc S.sends k == 0))) w w' := by
  have E := fun (V : World) (hV : RunAt 157 base b gb S L k V) => first_any S.sends k L.a2 L.c2 V (wide hsm.2.1) hV.ho.m2.lies
  generalize (plc S.sends k == 0) = here at *
  generalize hM : S.first1 k t here = M at *
  go_enter Tryz.func108, Tryz.ntmps108
  go_wp2_with fail
  refine wp_region_ord3 (RunAt 157 base b gb S L k) (AnyW) 9 (by kernel_rfl)
    [(2, 0), (2, 1), (2, 2), (2, 3), (2, 5), (2, 6), (2, 7), (1, 4), (1, 8), (0, 9), (2, 10)]
    (by kernel_rfl) (by kernel_rfl) (by decide) (by kernel_rfl) (fun _ _ d _ _ h => by cases d <;> exact h) ?_
  simp only [inOrder2, List.getElem?_cons_succ, List.getElem?_cons_zero, List.nil_append, List.cons_append]
  have hB := (Below.refl base w).drew
  have hS := hR.drew
  have hle : base ≤ w.drew.heap.size := hR.base_le.2.2.2.2
  clear hR
  generalize w.drew = w0 at *
  iterate 7 (((with_reducible refine o3_calmF (v := ?_) (a' := ?_) hS ?_ (fun V => ?_) ?_ ?_); rotate_left 2; (rfl); (first | (go_simp; with_reducible rfl) | (go_simp; refine (if_pos ?_).trans ?_; omega; with_reducible rfl)); (simp only [Act.put, List.setIfInBounds_toArray, List.set_cons_succ, List.set_cons_zero] <;> rfl)))
  iterate 2 (((with_reducible refine o3_pre (v := ?_) (a' := ?_) hS ?_ (fun V hV => ?_) ?_ ?_); rotate_left 2; (rfl); (have c11 : V.cell? ⟨b, 11, none⟩ = some (.slice L.a2 S.sends.length L.c2) := (hV.cell 11).1; have c20 : V.cell? ⟨b, 20, none⟩ = some (.int .i64 k) := (hV.cell 20).1; first | (go_simp; with_reducible rfl) | (go_simp; refine (if_pos ?_).trans ?_; omega; with_reducible rfl)); (simp only [Act.put, List.setIfInBounds_toArray, List.set_cons_succ, List.set_cons_zero] <;> rfl)))
  refine o3_onlyS rfl rfl ?_
  go_simp
  refine ⟨trivial, rfl, (callsIn_wide.2 (E _ hS)).mono ?_⟩
  rintro e w2 ⟨rfl, hb⟩
  replace hB := hB.trans (hb.mono hle)
  replace hS := hS.on hb
  refine ⟨trivial, ?_⟩
  ((with_reducible refine o3_calmT (v := ?_) (a' := ?_) (any_ _) ?_ (fun V => ?_) ?_ ?_); rotate_left 2; (rfl); (first | (go_simp; with_reducible rfl) | (go_simp; refine (if_pos ?_).trans ?_; omega; with_reducible rfl)); (simp only [Act.put, List.setIfInBounds_toArray, List.set_cons_succ, List.set_cons_zero] <;> rfl))
  refine o3_end _ ?_
  try simp only [Exit.then]
  have hR := hS
  clear hS hb
  cases here
  · cases hl : t.late
    · have e : M = S.mod k Th.on := by rw [← hM]; simp [St.first1, hl]
      go_wp2_with (first
          | (go_at_call 119; (with_reducible refine (me_s _ _ _ _ _ _ _ hR).mono ?_); rintro e w1 ⟨rfl, hw⟩; subst hw; replace hR := hR.drew; replace hB := hB.drew; have f8 := (hR.field ht (j := 8) rfl).1; rw [hl] at f8)
          | (go_at_call 142; (with_reducible refine (try_s _ _ _ _ _ _ t _ hR ht hr).mono ?_); rintro e w5 ⟨rfl, h5, hb5⟩; replace hB := hB.trans hb5; have hX := h5.ran hB))
      go_returns
      exact ⟨rfl, by rw [e]; exact hX⟩
    · have e : M = S.ends k t 5 := by rw [← hM]; simp [St.first1, hl]
      go_wp2_with (first
          | (go_at_call 119; (with_reducible refine (me_s _ _ _ _ _ _ _ hR).mono ?_); rintro e w1 ⟨rfl, hw⟩; subst hw; replace hR := hR.drew; replace hB := hB.drew; have f8 := (hR.field ht (j := 8) rfl).1; rw [hl] at f8)
          | (go_at_call 141; (with_reducible refine (ends_s _ _ _ _ _ _ _ _ hR hsm t ht).mono ?_); rintro e w5 ⟨rfl, h5⟩; have hX := h5.trans hB))
      go_returns
      exact ⟨rfl, by rw [e]; exact hX⟩
  · have e : M = S.mod k (Th.at 2) := hM.symm
    go_wp2_with (first
        | (go_at_call 139; (with_reducible refine (go_s _ _ _ _ _ _ _ _ hR).mono ?_); rintro e w5 ⟨rfl, h5, hb5⟩; replace hB := hB.trans hb5; have hX := h5.ran hB))
    go_returns
    exact ⟨rfl, by rw [e]; exact hX⟩

set_option maxRecDepth 100000 in
set_option maxHeartbeats 4000000 in
theorem prepare_s (S : St) (L : Lay) (base b gb k : Nat) (w : World) (hR : RunAt 157 base b gb (S) L k w) (hsm : S.small) (t : Th) (ht : S.ths[k]? = some t) :
    Calls Tryz.prog 112 #[.pointer (some ⟨b, 0, none⟩)] w fun e w' => e = .returned (.tuple #[]) ∧ Ran 157 base b k (((S.mod k (Th.sn (if evOk S.fe S.fl then S.fe else -1))).mod k (Th.at 7))) w w' := by
  have E := fun (V : World) (hV : RunAt 157 base b gb S L k V) => evPrep_any S.fe S.fl L.a4 L.c4 V (wide hsm.2.2.2.1) hV.ho.m4.lies
  generalize (if evOk S.fe S.fl then S.fe else -1) = v at *
  go_enter Tryz.func112, Tryz.ntmps112
  go_wp2_with fail
  refine wp_region_ord3 (RunAt 157 base b gb S L k) (AnyW) 10 (by kernel_rfl)
    [(2, 0), (2, 2), (2, 3), (2, 4), (2, 5), (1, 6), (0, 1), (0, 7), (2, 8), (2, 9), (0, 10)]
    (by kernel_rfl) (by kernel_rfl) (by decide) (by kernel_rfl) (fun _ _ d _ _ h => by cases d <;> exact h) ?_
  simp only [inOrder2, List.getElem?_cons_succ, List.getElem?_cons_zero, List.nil_append, List.cons_append]
  have hB := (Below.refl base w).drew
  have hS := hR.drew
  have hle : base ≤ w.drew.heap.size := hR.base_le.2.2.2.2
  clear hR
  generalize w.drew = w0 at *
  iterate 5 (((with_reducible refine o3_calmF (v := ?_) (a' := ?_) hS ?_ (fun V => ?_) ?_ ?_); rotate_left 2; (rfl); (first | (go_simp; with_reducible rfl) | (go_simp; refine (if_pos ?_).trans ?_; omega; with_reducible rfl)); (simp only [Act.put, List.setIfInBounds_toArray, List.set_cons_succ, List.set_cons_zero] <;> rfl)))
  ((with_reducible refine o3_pre (v := ?_) (a' := ?_) hS ?_ (fun V hV => ?_) ?_ ?_); rotate_left 2; (rfl); (have c13 : V.cell? ⟨b, 13, none⟩ = some (.int .i64 S.fe) := (hV.cell 13).1; have c14 : V.cell? ⟨b, 14, none⟩ = some (.slice L.a4 S.fl.length L.c4) := (hV.cell 14).1; first | (go_simp; with_reducible rfl) | (go_simp; refine (if_pos ?_).trans ?_; omega; with_reducible rfl)); (simp only [Act.put, List.setIfInBounds_toArray, List.set_cons_succ, List.set_cons_zero] <;> rfl))
  refine o3_onlyF rfl rfl ?_
  go_simp
  refine ⟨trivial, rfl, (callsIn_wide.2 (me_s _ _ _ _ _ _ _ hS)).mono ?_⟩
  rintro e w1 ⟨rfl, hw⟩
  subst hw
  replace hS := hS.drew
  replace hB := hB.drew
  have hle1 : base ≤ w0.drew.heap.size := hle
  generalize w0.drew = w3 at *
  refine ⟨hS, ?_⟩
  refine o3_onlyF rfl rfl ?_
  go_simp
  refine ⟨trivial, rfl, (callsIn_wide.2 (E _ hS)).mono ?_⟩
  rintro e w2 ⟨rfl, hb⟩
  replace hB := hB.trans (hb.mono hle1)
  replace hS := hS.on hb
  refine ⟨hS, ?_⟩
  iterate 2 (((with_reducible refine o3_calmF (v := ?_) (a' := ?_) hS ?_ (fun V => ?_) ?_ ?_); rotate_left 2; (rfl); (first | (go_simp; with_reducible rfl) | (go_simp; refine (if_pos ?_).trans ?_; omega; with_reducible rfl)); (simp only [Act.put, List.setIfInBounds_toArray, List.set_cons_succ, List.set_cons_zero] <;> rfl)))
  obtain ⟨q6, p6⟩ := hS.field ht (j := 6) rfl
  refine o3_onlyS rfl rfl ?_
  go_simp
  refine ⟨trivial, ?_⟩
  refine o3_end _ ?_
  try simp only [Exit.then]
  replace hB := hB.setCell (p := ⟨gb, k * 11 + 6, none⟩) (show base ≤ gb from hS.base_le.1) (.int .i64 v)
  have hR := hS.mod ht (Th.sn v) 6 (.int .i64 v) (by omega) rfl
  clear hS hb q6 p6
  go_wp2_with (first
      | (go_at_call 139; (with_reducible refine (go_s _ _ _ _ _ _ _ _ hR).mono ?_); rintro e w5 ⟨rfl, h5, hb5⟩; replace hB := hB.trans hb5; have hX := h5.ran hB))
  go_returns
  exact ⟨rfl, hX⟩

set_option maxRecDepth 100000 in
set_option maxHeartbeats 4000000 in
theorem write_s (S : St) (L : Lay) (base b gb k : Nat) (w : World) (hR : RunAt 157 base b gb (S) L k w) (hsm : S.small) (t : Th) (ht : S.ths[k]? = some t) (hok : slotsOk S.slots = true) (hp : 0 ≤ t.reg) :
    Calls Tryz.prog 110 #[.pointer (some ⟨b, 0, none⟩)] w fun e w' => e = .returned (.tuple #[]) ∧ Ran 157 base b k ((S.write1 k (wrtS S.slots t.reg t.val))) w w' := by
  have E := fun (V : World) (hV : RunAt 157 base b gb S L k V) => slotWrite_any S.slots t.reg t.val L.a1 L.c1 V hok hp hV.ho.m1.lies
  generalize hx : wrtS S.slots t.reg t.val = x at *
  obtain ⟨x2, er⟩ := x
  generalize hM : S.write1 k (x2, er) = M at *
  go_enter Tryz.func110, Tryz.ntmps110
  have hB := Below.refl base w
  go_wp2_with (first
      | (go_at_call 119; (with_reducible refine (me_s _ _ _ _ _ _ _ hR).mono ?_); rintro e w1 ⟨rfl, hw⟩; subst hw; replace hR := hR.drew; replace hB := hB.drew))
  refine wp_region_ord3 (RunAt 157 base b gb S L k) (AnyW) 13 (by kernel_rfl)
    [(2, 0), (2, 1), (2, 2), (2, 3), (2, 5), (2, 6), (2, 7), (2, 9), (2, 10), (2, 11), (1, 4), (1, 8), (1, 12), (0, 13), (2, 14), (2, 15), (2, 16), (2, 17), (2, 18)]
    (by kernel_rfl) (by kernel_rfl) (by decide) (by kernel_rfl) (fun _ _ d _ _ h => by cases d <;> exact h) ?_
  simp only [inOrder2, List.getElem?_cons_succ, List.getElem?_cons_zero, List.nil_append, List.cons_append]
  have hS := hR.drew
  have hle : base ≤ w.drew.drew.heap.size := hR.base_le.2.2.2.2
  replace hB := hB.drew
  clear hR
  generalize w.drew.drew = w0 at *
  iterate 10 (((with_reducible refine o3_calmF (v := ?_) (a' := ?_) hS ?_ (fun V => ?_) ?_ ?_); rotate_left 2; (rfl); (first | (go_simp; with_reducible rfl) | (go_simp; refine (if_pos ?_).trans ?_; omega; with_reducible rfl)); (simp only [Act.put, List.setIfInBounds_toArray, List.set_cons_succ, List.set_cons_zero] <;> rfl)))
  iterate 3 (((with_reducible refine o3_pre (v := ?_) (a' := ?_) hS ?_ (fun V hV => ?_) ?_ ?_); rotate_left 2; (rfl); (have c10 : V.cell? ⟨b, 10, none⟩ = some (.slice L.a1 S.slots.length L.c1) := (hV.cell 10).1; have f5 := (hV.field ht (j := 5) rfl).1; have f2 := (hV.field ht (j := 2) rfl).1; first | (go_simp; with_reducible rfl) | (go_simp; refine (if_pos ?_).trans ?_; omega; with_reducible rfl)); (simp only [Act.put, List.setIfInBounds_toArray, List.set_cons_succ, List.set_cons_zero] <;> rfl)))
  refine o3_onlyS rfl rfl ?_
  go_simp
  refine ⟨trivial, rfl, (callsIn_wide.2 (E _ hS)).mono ?_⟩
  rintro e w2 ⟨A1, c1, rfl, hm, hb⟩
  replace hB := hB.trans (hb.mono hle)
  replace hS := hS.on hb
  refine ⟨trivial, ?_⟩
  iterate 5 (((with_reducible refine o3_calmT (v := ?_) (a' := ?_) (any_ _) ?_ (fun V => ?_) ?_ ?_); rotate_left 2; (rfl); (first | (go_simp; with_reducible rfl) | (go_simp; refine (if_pos ?_).trans ?_; omega; with_reducible rfl)); (simp only [Act.put, List.setIfInBounds_toArray, List.set_cons_succ, List.set_cons_zero] <;> rfl)))
  refine o3_end _ ?_
  try simp only [Exit.then]
  have hR := hS
  clear hS hb
  obtain ⟨b10, f10⟩ := hR.cell 10
  have hR2 := hR.putSlots (hm.mono hle)
  have hB2 := hB.setCell (p := ⟨b, 10, none⟩) (show base ≤ b from hR.le) (.slice A1 x2.length c1)
  by_cases he : er = 0
  · subst he
    have e : M = { S with slots := x2 }.mod k (Th.at 4) := hM.symm
    go_wp2_with (first
        | (go_at_call 139; (with_reducible refine (go_s _ _ _ _ _ _ _ _ hR2).mono ?_); rintro e w5 ⟨rfl, h5, hb5⟩; have hX := h5.ran (hB2.trans hb5)))
    go_returns
    exact ⟨rfl, by rw [e]; exact hX⟩
  · have he' : (er == 0) = false := by simpa using he
    have e : M = S := by rw [← hM]; exact if_neg he
    have hX := hR.ran hB
    go_wp2
    go_returns
    exact ⟨rfl, by rw [e]; exact hX⟩

set_option maxRecDepth 100000 in
set_option maxHeartbeats 4000000 in
theorem release_s (S : St) (L : Lay) (base b gb k : Nat) (w : World) (hR : RunAt 157 base b gb (S) L k w) (hsm : S.small) (t : Th) (ht : S.ths[k]? = some t) (hok : slotsOk S.slots = true) (hp : 0 ≤ t.reg) (hp2 : t.reg ≤ 1099511627776) :
    Calls Tryz.prog 118 #[.pointer (some ⟨b, 0, none⟩)] w fun e w' => e = .returned (.tuple #[]) ∧ Ran 157 base b k ((S.rel1 k (relS S.slots t.reg))) w w' := by
  have E := fun (V : World) (hV : RunAt 157 base b gb S L k V) => slotRelease_any S.slots t.reg L.a1 L.c1 V hok hp hV.ho.m1.lies hp2
  generalize hx : relS S.slots t.reg = x at *
  obtain ⟨x2, er⟩ := x
  generalize hM : S.rel1 k (x2, er) = M at *
  go_enter Tryz.func118, Tryz.ntmps118
  go_wp2_with fail
  refine wp_region_ord3 (RunAt 157 base b gb S L k) (AnyW) 10 (by kernel_rfl)
    [(2, 0), (2, 1), (2, 2), (2, 3), (2, 5), (1, 4), (0, 6), (2, 7), (2, 8), (1, 9), (0, 10), (2, 11), (2, 12), (2, 13), (2, 14), (2, 15)]
    (by kernel_rfl) (by kernel_rfl) (by decide) (by kernel_rfl) (fun _ _ d _ _ h => by cases d <;> exact h) ?_
  simp only [inOrder2, List.getElem?_cons_succ, List.getElem?_cons_zero, List.nil_append, List.cons_append]
  have hB := (Below.refl base w).drew
  have hS := hR.drew
  have hle : base ≤ w.drew.heap.size := hR.base_le.2.2.2.2
  clear hR
  generalize w.drew = w0 at *
  iterate 5 (((with_reducible refine o3_calmF (v := ?_) (a' := ?_) hS ?_ (fun V => ?_) ?_ ?_); rotate_left 2; (rfl); (first | (go_simp; with_reducible rfl) | (go_simp; refine (if_pos ?_).trans ?_; omega; with_reducible rfl)); (simp only [Act.put, List.setIfInBounds_toArray, List.set_cons_succ, List.set_cons_zero] <;> rfl)))
  ((with_reducible refine o3_pre (v := ?_) (a' := ?_) hS ?_ (fun V hV => ?_) ?_ ?_); rotate_left 2; (rfl); (have c10 : V.cell? ⟨b, 10, none⟩ = some (.slice L.a1 S.slots.length L.c1) := (hV.cell 10).1; have f5 := (hV.field ht (j := 5) rfl).1; first | (go_simp; with_reducible rfl) | (go_simp; refine (if_pos ?_).trans ?_; omega; with_reducible rfl)); (simp only [Act.put, List.setIfInBounds_toArray, List.set_cons_succ, List.set_cons_zero] <;> rfl))
  refine o3_onlyF rfl rfl ?_
  go_simp
  refine ⟨trivial, rfl, (callsIn_wide.2 (me_s _ _ _ _ _ _ _ hS)).mono ?_⟩
  rintro e w1 ⟨rfl, hw⟩
  subst hw
  replace hS := hS.drew
  replace hB := hB.drew
  replace hle : base ≤ w0.drew.heap.size := hle
  generalize w0.drew = w3 at *
  refine ⟨hS, ?_⟩
  iterate 2 (((with_reducible refine o3_calmF (v := ?_) (a' := ?_) hS ?_ (fun V => ?_) ?_ ?_); rotate_left 2; (rfl); (first | (go_simp; with_reducible rfl) | (go_simp; refine (if_pos ?_).trans ?_; omega; with_reducible rfl)); (simp only [Act.put, List.setIfInBounds_toArray, List.set_cons_succ, List.set_cons_zero] <;> rfl)))
  ((with_reducible refine o3_pre (v := ?_) (a' := ?_) hS ?_ (fun V hV => ?_) ?_ ?_); rotate_left 2; (rfl); (have c10 : V.cell? ⟨b, 10, none⟩ = some (.slice L.a1 S.slots.length L.c1) := (hV.cell 10).1; have f5 := (hV.field ht (j := 5) rfl).1; first | (go_simp; with_reducible rfl) | (go_simp; refine (if_pos ?_).trans ?_; omega; with_reducible rfl)); (simp only [Act.put, List.setIfInBounds_toArray, List.set_cons_succ, List.set_cons_zero] <;> rfl))
  refine o3_onlyS rfl rfl ?_
  go_simp
  refine ⟨trivial, rfl, (callsIn_wide.2 (E _ hS)).mono ?_⟩
  rintro e w2 ⟨A1, c1, rfl, hm, hb⟩
  replace hB := hB.trans (hb.mono hle)
  replace hS := hS.on hb
  refine ⟨trivial, ?_⟩
  iterate 5 (((with_reducible refine o3_calmT (v := ?_) (a' := ?_) (any_ _) ?_ (fun V => ?_) ?_ ?_); rotate_left 2; (rfl); (first | (go_simp; with_reducible rfl) | (go_simp; refine (if_pos ?_).trans ?_; omega; with_reducible rfl)); (simp only [Act.put, List.setIfInBounds_toArray, List.set_cons_succ, List.set_cons_zero] <;> rfl)))
  refine o3_end _ ?_
  try simp only [Exit.then]
  have hR := hS
  clear hS hb
  obtain ⟨b10, f10⟩ := hR.cell 10
  have hR2 := hR.putSlots (hm.mono hle)
  have hB2 := hB.setCell (p := ⟨b, 10, none⟩) (show base ≤ b from hR.le) (.slice A1 x2.length c1)
  by_cases he : er = 0
  · subst he
    have e : M = { S with slots := x2 }.mod k (Th.at 2) := hM.symm
    go_wp2_with (first
        | (go_at_call 139; (with_reducible refine (go_s _ _ _ _ _ _ _ _ hR2).mono ?_); rintro e w5 ⟨rfl, h5, hb5⟩; have hX := h5.ran (hB2.trans hb5)))
    go_returns
    exact ⟨rfl, by rw [e]; exact hX⟩
  · have he' : (er == 0) = false := by simpa using he
    have e : M = S.mod k (Th.at 2) := by rw [← hM]; simp [St.rel1, he]
    go_wp2_with (first
        | (go_at_call 139; (with_reducible refine (go_s _ _ _ _ _ _ _ _ hR).mono ?_); rintro e w5 ⟨rfl, h5, hb5⟩; replace hB := hB.trans hb5; have hX := h5.ran hB))
    go_returns
    exact ⟨rfl, by rw [e]; exact hX⟩

end Go.Proofs.YtnbgpopjnpdmgaaGreat
