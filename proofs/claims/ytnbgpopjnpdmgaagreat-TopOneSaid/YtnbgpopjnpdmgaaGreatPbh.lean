/-
  DERIVED. Close, CloseStep.
-/
import Derived.Test.YtnbgpopjnpdmgaaGreatPbb
import Derived.Test.YtnbgpopjnpdmgaaGreatPbg
set_option linter.unusedVariables false
set_option linter.unusedSimpArgs false

namespace Go.Proofs.YtnbgpopjnpdmgaaGreat
open Go Go.RowKit Go.Shelf

/-- Some are woken, one behind the other. -/
def St.wakeAll (S : St) (l : List Int) : St := l.foldl St.wakeAt S
theorem wake_small {S : St} (id : Int) (h : S.small) : (S.wakeAt id).small := by
  have e := wake_len S id
  unfold St.wakeAt at e ⊢
  repeat' split
  all_goals (first | exact h | exact ⟨h.1, h.2.1, h.2.2.1, h.2.2.2.1, h.2.2.2.2.1, by simpa [St.setTh] using h.2.2.2.2.2.1, h.2.2.2.2.2.2⟩)
theorem wakeAll_small : ∀ (l : List Int) (S : St), S.small → (S.wakeAll l).small
  | [], _, h => h
  | x :: r, S, h => wakeAll_small r (S.wakeAt x) (wake_small x h)
theorem wakeAll_len : ∀ (l : List Int) (S : St), (S.wakeAll l).ths.length = S.ths.length
  | [], _ => rfl
  | x :: r, S => (wakeAll_len r (S.wakeAt x)).trans (wake_len S x)
theorem wakeAll_snoc (S : St) (l : List Int) (x : Int) : S.wakeAll (l ++ [x]) = (S.wakeAll l).wakeAt x := by simp [St.wakeAll]
def St.shut1 (S : St) (k : Nat) (t : Th) : St := (St.tell { S with word := S.word.close (modeOf t.kind) } k t.kind 1 0).mod k (Th.at 1)

set_option maxRecDepth 100000 in
set_option maxHeartbeats 8000000 in
theorem wakeF_c (S : St) (L : Lay) (base b gb k : Nat) (w : World) (hR : RunAt 167 base b gb (S) L k w) (hsm : S.small) :
    Calls Tryz.prog 127 #[.pointer (some ⟨b, 0, none⟩), .pointer (some ⟨b, 13, none⟩)] w fun e w' => e = .returned (.tuple #[]) ∧ Ran 167 base b k (St.wakeAll { S with fe := (comeE all2 S.fe S.fl).1, fl := (comeE all2 S.fe S.fl).2.1 } (comeE all2 S.fe S.fl).2.2) w w' := by
  have E := notifyAll_any S.fe S.fl L.a4 L.c4 w hsm.2.2.2.1 hR.ho.m4.lies
  have hdl : (comeE all2 S.fe S.fl).2.1.length ≤ 1000 := Nat.le_trans (come_len ..).1 hsm.2.2.2.1
  have hdl2 : (comeE all2 S.fe S.fl).2.2.length ≤ 1000 := Nat.le_trans (come_len ..).2 hsm.2.2.2.1
  have c13 : w.cell? ⟨b, 13, none⟩ = some (.int .i64 S.fe) := (hR.cell 13).1
  have c14 : w.cell? ⟨b, 14, none⟩ = some (.slice L.a4 S.fl.length L.c4) := (hR.cell 14).1
  have hB := Below.refl base w
  generalize comeE all2 S.fe S.fl = x at *
  obtain ⟨x1, x2, x3⟩ := x
  dsimp only at *
  have hsm3 : St.small { S with fe := x1, fl := x2 } := ⟨hsm.1, hsm.2.1, hsm.2.2.1, hdl, hsm.2.2.2.2⟩
  have hn3 : (St.ths { S with fe := x1, fl := x2 }).length = S.ths.length := rfl
  go_enter Tryz.func127, Tryz.ntmps127
  go_wp2_with (first
      | (go_at_call 173; (with_reducible refine (E).mono ?_); rintro e w2 ⟨A1, c1, A2, c2, rfl, hm, hl, hb⟩; have hle := hR.base_le.2.2.2.2; replace hB := hB.trans (hb.mono hle); replace hm := hm.mono hle; replace hl := hl.mono hle; replace hR := hR.on hb; obtain ⟨B, hBe, kB, hR2, hB2, hne, hle2⟩ := new_own hR hB (.cells #[.int .i64 x1, .slice A1 x2.length c1] 32); subst hBe; have hm2 := hm.alloc (.cells #[.int .i64 x1, .slice A1 x2.length c1] 32); have hl2 := hl.alloc (.cells #[.int .i64 x1, .slice A1 x2.length c1] 32); obtain ⟨d0, g0⟩ := of_block kB 0; obtain ⟨d1, g1⟩ := of_block kB 1; obtain ⟨b1, f1⟩ := hR2.cell 13; obtain ⟨b2, f2⟩ := hR2.cell 14; have hR3 := hR2.putFull (ep := x1) hm2; have hl3 := hl2.sameBut (hl2.notBlock hR2.hb hR2.ok.2.1) (two_cells (w2.alloc (.cells #[.int .i64 x1, .slice A1 x2.length c1] 32)) b 13 14 (.int .i64 x1) (.slice A1 x2.length c1)); have hB3 := (hB2.setCell (p := ⟨b, 13, none⟩) (show base ≤ b from hR.le) (.int .i64 x1)).setCell (p := ⟨b, 14, none⟩) (show base ≤ b from hR.le) (.slice A1 x2.length c1))
      | ((with_reducible refine wpList_val (loadBox hR ?_) ?_); (focus rfl)))
  have hl := hl3
  have hR := hR3
  have hB := hB3
  have h0 := hl.cap
  clear hR3 hl3 hB3 hm2 hl2 hR2 hB2 kB d0 g0 d1 g1 b1 f1 b2 f2 hne hle2 c13 c14 E hm hb hle
  generalize hS3 : { S with fe := x1, fl := x2 } = S3 at *
  generalize { L with a4 := A1, c4 := c1 } = L3 at *
  generalize ((w2.alloc (.cells #[.int .i64 x1, .slice A1 x2.length c1] 32)).setCell ⟨b, 13, none⟩ (.int .i64 x1)).setCell ⟨b, 14, none⟩ (.slice A1 x2.length c1) = wq at *
  go_loopw [20] (fun i wr => ∃ (n : Nat) (Lx : Lay) (gx : Nat), n ≤ x3.length ∧ i = .int .i64 n ∧ RunAt 167 base b gx (S3.wakeAll (x3.take n)) Lx k wr ∧ Mine wr base 3 1 A2 c2 x3.length (ints x3) ∧ Below base w wr) (fun i _ => x3.length - (intOf i).toNat)
  case atStart => exact ⟨0, L3, gb, Nat.zero_le _, rfl, hR, hl, hB⟩
  case round =>
    clear hR hl hB
    obtain ⟨n, Lx, gx, hn, rfl, hRx, hl, hB⟩ := hrel
    by_cases hlt : n < x3.length
    · obtain ⟨y, hy⟩ : ∃ y, x3[n]? = some y := ⟨_, List.getElem?_eq_getElem hlt⟩
      obtain ⟨b', off, rfl, hb', hc⟩ := hl.lies.open_ (by rw [ints_len]; omega)
      have hcy := hc n _ (ints_get hy)
      have hsn : S3.wakeAll (x3.take (n + 1)) = (S3.wakeAll (x3.take n)).wakeAt y := by rw [take_snoc hy, wakeAll_snoc]
      have hsx := wakeAll_small (x3.take n) S3 hsm3
      generalize S3.wakeAll (x3.take n) = Sx at *
      have hn4 : (Sx.wakeAt y).ths.length = Sx.ths.length := wake_len ..
      generalize hS4 : Sx.wakeAt y = S4 at *
      have HS := Lib.hid hsn
      clear hsn hc hy
      go_wp2_with (first
          | ((with_reducible refine wpList_val (loadBox hRx ?_) ?_); (focus rfl))
          | (go_at_call 18; (with_reducible refine (wake_any Sx Lx y _ hsx hRx.ho.holds).mono ?_); rw [hS4]; rintro e w7 ⟨L4, rfl, ho4, hb4⟩; have hle4 := hRx.base_le.2.2.2.2; have hRy := hRx.on hb4; replace hl := hl.kept hb4; replace hB := hB.trans (hb4.mono hle4); obtain ⟨V, hst, hbV, hBV, hoth⟩ := run_store_state (S' := S4) (L' := L4) hRy.hb hRy.le; obtain ⟨gb4, hR4⟩ := hRy.state hbV hoth ho4 hle4 hn4; replace hl := hl.sameBut (hl.notBlock hRy.hb hRy.ok.2.1) hoth; replace hB := hB.trans hBV)
          | ((with_reducible refine wpList_skip (store36 hst ?_ ?_ ?_) ?_); (focus rfl); (focus rfl); (focus rfl)))
      go_roundw
      case rel => exact ⟨n + 1, L4, gb4, by omega, by go_num, by rw [HS.out]; exact hR4, hl, hB⟩
      case measure => simp [intOf]; omega
    · obtain rfl : n = x3.length := by omega
      rw [List.take_length] at *
      go_wp2
      go_returns
      exact ⟨rfl, by rw [hS3]; exact hRx.ran hB⟩

set_option maxRecDepth 100000 in
set_option maxHeartbeats 8000000 in
theorem wakeE_c (S : St) (L : Lay) (base b gb k : Nat) (w : World) (hR : RunAt 167 base b gb (S) L k w) (hsm : S.small) :
    Calls Tryz.prog 127 #[.pointer (some ⟨b, 0, none⟩), .pointer (some ⟨b, 15, none⟩)] w fun e w' => e = .returned (.tuple #[]) ∧ Ran 167 base b k (St.wakeAll { S with ee := (comeE all2 S.ee S.el).1, el := (comeE all2 S.ee S.el).2.1 } (comeE all2 S.ee S.el).2.2) w w' := by
  have E := notifyAll_any S.ee S.el L.a5 L.c5 w hsm.2.2.2.2.1 hR.ho.m5.lies
  have hdl : (comeE all2 S.ee S.el).2.1.length ≤ 1000 := Nat.le_trans (come_len ..).1 hsm.2.2.2.2.1
  have hdl2 : (comeE all2 S.ee S.el).2.2.length ≤ 1000 := Nat.le_trans (come_len ..).2 hsm.2.2.2.2.1
  have c15 : w.cell? ⟨b, 15, none⟩ = some (.int .i64 S.ee) := (hR.cell 15).1
  have c16 : w.cell? ⟨b, 16, none⟩ = some (.slice L.a5 S.el.length L.c5) := (hR.cell 16).1
  have hB := Below.refl base w
  generalize comeE all2 S.ee S.el = x at *
  obtain ⟨x1, x2, x3⟩ := x
  dsimp only at *
  have hsm3 : St.small { S with ee := x1, el := x2 } := ⟨hsm.1, hsm.2.1, hsm.2.2.1, hsm.2.2.2.1, hdl, hsm.2.2.2.2.2⟩
  have hn3 : (St.ths { S with ee := x1, el := x2 }).length = S.ths.length := rfl
  go_enter Tryz.func127, Tryz.ntmps127
  go_wp2_with (first
      | (go_at_call 173; (with_reducible refine (E).mono ?_); rintro e w2 ⟨A1, c1, A2, c2, rfl, hm, hl, hb⟩; have hle := hR.base_le.2.2.2.2; replace hB := hB.trans (hb.mono hle); replace hm := hm.mono hle; replace hl := hl.mono hle; replace hR := hR.on hb; obtain ⟨B, hBe, kB, hR2, hB2, hne, hle2⟩ := new_own hR hB (.cells #[.int .i64 x1, .slice A1 x2.length c1] 32); subst hBe; have hm2 := hm.alloc (.cells #[.int .i64 x1, .slice A1 x2.length c1] 32); have hl2 := hl.alloc (.cells #[.int .i64 x1, .slice A1 x2.length c1] 32); obtain ⟨d0, g0⟩ := of_block kB 0; obtain ⟨d1, g1⟩ := of_block kB 1; obtain ⟨b1, f1⟩ := hR2.cell 15; obtain ⟨b2, f2⟩ := hR2.cell 16; have hR3 := hR2.putEmpty (ep := x1) hm2; have hl3 := hl2.sameBut (hl2.notBlock hR2.hb hR2.ok.2.1) (two_cells (w2.alloc (.cells #[.int .i64 x1, .slice A1 x2.length c1] 32)) b 15 16 (.int .i64 x1) (.slice A1 x2.length c1)); have hB3 := (hB2.setCell (p := ⟨b, 15, none⟩) (show base ≤ b from hR.le) (.int .i64 x1)).setCell (p := ⟨b, 16, none⟩) (show base ≤ b from hR.le) (.slice A1 x2.length c1))
      | ((with_reducible refine wpList_val (loadBox hR ?_) ?_); (focus rfl)))
  have hl := hl3
  have hR := hR3
  have hB := hB3
  have h0 := hl.cap
  clear hR3 hl3 hB3 hm2 hl2 hR2 hB2 kB d0 g0 d1 g1 b1 f1 b2 f2 hne hle2 c15 c16 E hm hb hle
  generalize hS3 : { S with ee := x1, el := x2 } = S3 at *
  generalize { L with a5 := A1, c5 := c1 } = L3 at *
  generalize ((w2.alloc (.cells #[.int .i64 x1, .slice A1 x2.length c1] 32)).setCell ⟨b, 15, none⟩ (.int .i64 x1)).setCell ⟨b, 16, none⟩ (.slice A1 x2.length c1) = wq at *
  go_loopw [20] (fun i wr => ∃ (n : Nat) (Lx : Lay) (gx : Nat), n ≤ x3.length ∧ i = .int .i64 n ∧ RunAt 167 base b gx (S3.wakeAll (x3.take n)) Lx k wr ∧ Mine wr base 3 1 A2 c2 x3.length (ints x3) ∧ Below base w wr) (fun i _ => x3.length - (intOf i).toNat)
  case atStart => exact ⟨0, L3, gb, Nat.zero_le _, rfl, hR, hl, hB⟩
  case round =>
    clear hR hl hB
    obtain ⟨n, Lx, gx, hn, rfl, hRx, hl, hB⟩ := hrel
    by_cases hlt : n < x3.length
    · obtain ⟨y, hy⟩ : ∃ y, x3[n]? = some y := ⟨_, List.getElem?_eq_getElem hlt⟩
      obtain ⟨b', off, rfl, hb', hc⟩ := hl.lies.open_ (by rw [ints_len]; omega)
      have hcy := hc n _ (ints_get hy)
      have hsn : S3.wakeAll (x3.take (n + 1)) = (S3.wakeAll (x3.take n)).wakeAt y := by rw [take_snoc hy, wakeAll_snoc]
      have hsx := wakeAll_small (x3.take n) S3 hsm3
      generalize S3.wakeAll (x3.take n) = Sx at *
      have hn4 : (Sx.wakeAt y).ths.length = Sx.ths.length := wake_len ..
      generalize hS4 : Sx.wakeAt y = S4 at *
      have HS := Lib.hid hsn
      clear hsn hc hy
      go_wp2_with (first
          | ((with_reducible refine wpList_val (loadBox hRx ?_) ?_); (focus rfl))
          | (go_at_call 18; (with_reducible refine (wake_any Sx Lx y _ hsx hRx.ho.holds).mono ?_); rw [hS4]; rintro e w7 ⟨L4, rfl, ho4, hb4⟩; have hle4 := hRx.base_le.2.2.2.2; have hRy := hRx.on hb4; replace hl := hl.kept hb4; replace hB := hB.trans (hb4.mono hle4); obtain ⟨V, hst, hbV, hBV, hoth⟩ := run_store_state (S' := S4) (L' := L4) hRy.hb hRy.le; obtain ⟨gb4, hR4⟩ := hRy.state hbV hoth ho4 hle4 hn4; replace hl := hl.sameBut (hl.notBlock hRy.hb hRy.ok.2.1) hoth; replace hB := hB.trans hBV)
          | ((with_reducible refine wpList_skip (store36 hst ?_ ?_ ?_) ?_); (focus rfl); (focus rfl); (focus rfl)))
      go_roundw
      case rel => exact ⟨n + 1, L4, gb4, by omega, by go_num, by rw [HS.out]; exact hR4, hl, hB⟩
      case measure => simp [intOf]; omega
    · obtain rfl : n = x3.length := by omega
      rw [List.take_length] at *
      go_wp2
      go_returns
      exact ⟨rfl, by rw [hS3]; exact hRx.ran hB⟩

set_option maxRecDepth 100000 in
set_option maxHeartbeats 4000000 in
theorem shut_c (S : St) (L : Lay) (base b gb k : Nat) (w : World) (hR : RunAt 167 base b gb (S) L k w) (hsm : S.small) (t : Th) (ht : S.ths[k]? = some t) :
    Calls Tryz.prog 126 #[.pointer (some ⟨b, 0, none⟩)] w fun e w' => e = .returned (.tuple #[]) ∧ Ran 167 base b k ((S.shut1 k t)) w w' := by
  have E := fun W => word_close S.word (modeOf t.kind) W
  have hM0 : S.shut1 k t = (St.tell { S with word := S.word.close (modeOf t.kind) } k t.kind 1 0).mod k (Th.at 1) := rfl
  generalize S.shut1 k t = M at *
  generalize S.word.close (modeOf t.kind) = x1 at *
  have hB := Below.refl base w
  go_enter Tryz.func126, Tryz.ntmps126
  go_wp2_with (first
      | (go_at_call 125; (with_reducible refine (me_c _ _ _ _ _ _ _ hR).mono ?_); rintro e w1 ⟨rfl, hw⟩; subst hw; replace hR := hR.drew; replace hB := hB.drew; have f1 := (hR.field ht (j := 1) rfl).1))
  refine wp_region_ord3 (RunAt 167 base b gb S L k) (AnyW) 12 (by kernel_rfl)
    [(2, 0), (2, 1), (2, 2), (2, 3), (2, 4), (2, 6), (1, 5), (0, 7), (0, 8), (2, 9), (2, 10), (2, 11), (0, 12)]
    (by kernel_rfl) (by kernel_rfl) (by decide) (by kernel_rfl) (fun _ _ d _ _ h => by cases d <;> exact h) ?_
  simp only [inOrder2, List.getElem?_cons_succ, List.getElem?_cons_zero, List.nil_append, List.cons_append]
  have hS := hR.drew
  replace hB := hB.drew
  clear hR f1
  generalize w.drew.drew = w0 at *
  iterate 6 (((with_reducible refine o3_calmF (v := ?_) (a' := ?_) hS ?_ (fun V => ?_) ?_ ?_); rotate_left 2; (rfl); (first | (go_simp; with_reducible rfl) | (go_simp; refine (if_pos ?_).trans ?_; omega; with_reducible rfl)); (simp only [Act.put, List.setIfInBounds_toArray, List.set_cons_succ, List.set_cons_zero] <;> rfl)))
  ((with_reducible refine o3_pre (v := ?_) (a' := ?_) hS ?_ (fun V hV => ?_) ?_ ?_); rotate_left 2; (rfl); (have c7 : V.cell? ⟨b, 7, none⟩ = some (.int .i64 S.word.head) := (hV.cell 7).1; have c8 : V.cell? ⟨b, 8, none⟩ = some (.int .i64 S.word.tail) := (hV.cell 8).1; have c9 : V.cell? ⟨b, 9, none⟩ = some (.int .i64 S.word.mode) := (hV.cell 9).1; first | (go_simp; with_reducible rfl) | (go_simp; refine (if_pos ?_).trans ?_; omega; with_reducible rfl)); (simp only [Act.put, List.setIfInBounds_toArray, List.set_cons_succ, List.set_cons_zero] <;> rfl))
  refine o3_onlyF rfl rfl ?_
  go_simp
  refine ⟨trivial, rfl, (callsIn_wide.2 (close_mode t.kind _)).mono ?_⟩
  rintro e w1 ⟨rfl, hw⟩
  obtain rfl := hw.symm
  clear hw
  refine ⟨hS, ?_⟩
  refine o3_onlyF rfl rfl ?_
  go_simp
  refine ⟨trivial, rfl, (callsIn_wide.2 (E _)).mono ?_⟩
  rintro e w2 ⟨rfl, hb⟩
  have hle := hS.base_le.2.2.2.2
  replace hB := hB.trans (hb.mono hle)
  replace hS := hS.on hb
  clear hb
  refine ⟨hS, ?_⟩
  iterate 3 (((with_reducible refine o3_calmF (v := ?_) (a' := ?_) hS ?_ (fun V => ?_) ?_ ?_); rotate_left 2; (rfl); (first | (go_simp; with_reducible rfl) | (go_simp; refine (if_pos ?_).trans ?_; omega; with_reducible rfl)); (simp only [Act.put, List.setIfInBounds_toArray, List.set_cons_succ, List.set_cons_zero] <;> rfl)))
  obtain ⟨b7, f7⟩ := hS.cell 7
  obtain ⟨b8, f8⟩ := hS.cell 8
  obtain ⟨b9, f9⟩ := hS.cell 9
  refine o3_onlyS rfl rfl ?_
  go_simp
  refine ⟨trivial, ?_⟩
  refine o3_end _ ?_
  try simp only [Exit.then]
  replace hB := ((hB.setCell (p := ⟨b, 7, none⟩) (show base ≤ b from hS.le) (.int .i64 x1.head)).setCell (p := ⟨b, 8, none⟩) (show base ≤ b from hS.le) (.int .i64 x1.tail)).setCell (p := ⟨b, 9, none⟩) (show base ≤ b from hS.le) (.int .i64 x1.mode)
  replace hS := hS.putWord (x := x1)
  clear b7 f7 b8 f8 b9 f9 E
  have hsm1 : St.small { S with word := x1 } := hsm
  have hn1 : (St.ths { S with word := x1 }).length = S.ths.length := rfl
  generalize ({ S with word := x1 } : St) = S1 at *
  generalize ((w2.setCell ⟨b, 7, none⟩ (.int .i64 x1.head)).setCell ⟨b, 8, none⟩ (.int .i64 x1.tail)).setCell ⟨b, 9, none⟩ (.int .i64 x1.mode) = wz at *
  generalize hS2 : S1.tell k t.kind 1 0 = S2 at *
  have hn : S2.ths.length = S1.ths.length := by rw [← hS2]; exact tell_len ..
  go_wp2_with fail
  refine wp_region_ord3 (RunAt 167 base b gb S1 L k) (AnyW) 13 (by kernel_rfl)
    [(2, 0), (2, 1), (2, 2), (2, 3), (2, 5), (2, 6), (2, 7), (2, 9), (1, 4), (1, 8), (0, 10), (2, 11), (2, 12), (0, 13)]
    (by kernel_rfl) (by kernel_rfl) (by decide) (by kernel_rfl) (fun _ _ d _ _ h => by cases d <;> exact h) ?_
  simp only [inOrder2, List.getElem?_cons_succ, List.getElem?_cons_zero, List.nil_append, List.cons_append]
  replace hS := hS.drew
  replace hB := hB.drew
  generalize wz.drew = w3 at *
  iterate 8 (((with_reducible refine o3_calmF (v := ?_) (a' := ?_) hS ?_ (fun V => ?_) ?_ ?_); rotate_left 2; (rfl); (first | (go_simp; with_reducible rfl) | (go_simp; refine (if_pos ?_).trans ?_; omega; with_reducible rfl)); (simp only [Act.put, List.setIfInBounds_toArray, List.set_cons_succ, List.set_cons_zero] <;> rfl)))
  ((with_reducible refine o3_pre (v := .agg (S1.cells L)) (a' := ?_) hS ?_ (fun V hV => ?_) ?_ ?_); rotate_left; (focus rfl); (focus (exact loadBox hV rfl)); (focus (simp only [Act.put, List.setIfInBounds_toArray, List.set_cons_succ, List.set_cons_zero] <;> rfl)))
  ((with_reducible refine o3_pre (v := ?_) (a' := ?_) hS ?_ (fun V hV => ?_) ?_ ?_); rotate_left 2; (rfl); (have c20 : V.cell? ⟨b, 20, none⟩ = some (.int .i64 k) := (hV.cell 20).1; first | (go_simp; with_reducible rfl) | (go_simp; refine (if_pos ?_).trans ?_; omega; with_reducible rfl)); (simp only [Act.put, List.setIfInBounds_toArray, List.set_cons_succ, List.set_cons_zero] <;> rfl))
  refine o3_onlyF rfl rfl ?_
  go_simp
  refine ⟨trivial, rfl, (callsIn_wide.2 (tell_any S1 L k t.kind 1 0 _ hsm1 hS.ho.holds)).mono ?_⟩
  rw [hS2]
  rintro e w1 ⟨L1, rfl, ho1, hb1⟩
  have hle1 := hS.base_le.2.2.2.2
  replace hS := hS.on hb1
  replace hB := hB.trans (hb1.mono hle1)
  refine ⟨hS, ?_⟩
  iterate 2 (((with_reducible refine o3_calmF (v := ?_) (a' := ?_) hS ?_ (fun V => ?_) ?_ ?_); rotate_left 2; (rfl); (first | (go_simp; with_reducible rfl) | (go_simp; refine (if_pos ?_).trans ?_; omega; with_reducible rfl)); (simp only [Act.put, List.setIfInBounds_toArray, List.set_cons_succ, List.set_cons_zero] <;> rfl)))
  obtain ⟨V, hst, hbV, hBV, hoth⟩ := run_store_state (S' := S2) (L' := L1) hS.hb hS.le
  refine o3_skipS rfl rfl (store36 hst rfl rfl rfl) rfl trivial ?_
  refine o3_end _ ?_
  try simp only [Exit.then]
  obtain ⟨gb2, hR⟩ := hS.state hbV hoth ho1 hle1 hn
  replace hB := hB.trans hBV
  clear hS hst hoth ho1 hbV hb1
  obtain ⟨t2, ht2⟩ := hR.the
  go_wp2_with (first
      | (go_at_call 125; (with_reducible refine (me_c _ _ _ _ _ _ _ hR).mono ?_); rintro e w6 ⟨rfl, hw⟩; subst hw; replace hR := hR.drew; replace hB := hB.drew; obtain ⟨q4, p4⟩ := hR.field ht2 (j := 4) rfl; replace hB := hB.setCell (p := ⟨gb2, k * 11 + 4, none⟩) (show base ≤ gb2 from hR.base_le.1) (.int .i64 1); have hX := (hR.mod ht2 (Th.at 1) 4 (.int .i64 1) (by omega) rfl).ran hB))
  go_returns
  exact ⟨rfl, by rw [hM0]; exact hX⟩

end Go.Proofs.YtnbgpopjnpdmgaaGreat

namespace Go.Proofs.YtnbgpopjnpdmgaaGreat
open Go Go.RowKit Go.Shelf

theorem okHand : okT 167 := by unfold okT; decide
def St.closeAt (S : St) (k : Nat) (t : Th) : St :=
  if t.pc = 0 then S.shut1 k t else
  if t.pc = 1 then St.mod (St.wakeAll { S with fe := (comeE all2 S.fe S.fl).1, fl := (comeE all2 S.fe S.fl).2.1 } (comeE all2 S.fe S.fl).2.2) k (Th.at 2) else
  St.mod (St.wakeAll { S with ee := (comeE all2 S.ee S.el).1, el := (comeE all2 S.ee S.el).2.1 } (comeE all2 S.ee S.el).2.2) k (fun t => t.done.1)
def St.closeStep (S : St) (id : Int) : St := if S.isOf 3 id then (match S.ths[id.toNat]? with | some t => S.closeAt id.toNat t | none => S) else S

set_option maxRecDepth 100000 in
set_option maxHeartbeats 8000000 in
theorem closeStep_no (S : St) (L : Lay) (id : Int) (w : World) (hsm : S.small) (hH : Holds w S L) (hi : S.isOf 3 id = false) :
    Calls Tryz.prog 88 #[S.val L, .int .i64 id] w fun e w' => ∃ L', e = .returned ((S).val L') ∧ Owns w' w.heap.size (S) L' ∧ Below w.heap.size w w' := by
  have WK := fun W (hW : Below w.heap.size w W) => wake_any S L (-1) W hsm (hH.on hW)
  rw [wake_none] at WK
  have IS := fun W (hW : Below w.heap.size w W) => is_c S L id W hsm (hH.on hW)
  obtain ⟨k0, k1, hB0⟩ := two_new w (.cells (S.cells L) 36) (.cells #[.int .i64 0, .int .i64 0, .int .i64 0, .int .i64 0, .int .i64 0, .int .i64 0, .bool false, .int .i64 0, .int .i64 0, .int .i64 0, .slice none 0 0, .slice none 0 0, .slice none 0 0, .int .i64 0, .slice none 0 0, .int .i64 0, .slice none 0 0, .int .i64 0, .slice none 0 0, .slice none 0 0] 36)
  go_enter Tryz.func88, Tryz.ntmps88
  go_wp2_with (first
      | ((with_reducible refine wpList_val (load36 k0 ?_ ?_) ?_); (focus rfl); (focus rfl))
      | (go_at_call 18; (with_reducible refine (WK _ hB0).mono ?_); rintro e w1 ⟨L1, rfl, ho, hb⟩; have hzz := hb.size; have kb := World.alloc_heap_new w1 (.cells (S.cells21 L1 id) 167); have hbv := below_one w1 (.cells (S.cells21 L1 id) 167); replace k0 := kept (kept k0 hb) hbv; replace k1 := kept (kept k1 hb) hbv; replace ho := ho.kept hbv; have hB1 := (hB0.trans (hb.mono hB0.size)).trans (hbv.mono (Nat.le_trans hB0.size hb.size)); have hzv := hbv.size)
      | (go_at_call 124; (with_reducible refine (IS _ hB1).mono ?_); rw [hi]; rintro e w2 ⟨rfl, hb2⟩; replace k0 := kept k0 hb2; replace k1 := kept k1 hb2; replace kb := kept kb hb2; replace ho := ho.kept hb2; have hB2 := hB1.trans (hb2.mono hB1.size); have hzz2 := hb2.size ; obtain ⟨v2, hst2, kr, hB3, hoth⟩ := run_store_block (P := Tryz.prog) (base := w.heap.size) (cs := (S.cells L1).toList) k1 rfl (st_one S L1) (by omega))
      | ((with_reducible refine wpList_val (load21 kb ?_) ?_); (focus rfl))
      | ((with_reducible refine wpList_skip (store36 hst2 ?_ ?_ ?_) ?_); (focus rfl); (focus rfl); (focus rfl)))
  refine bodyPost_ret (results36 kr rfl rfl rfl) rfl ⟨L1, rfl, (ho.same (B := w.heap.size + 1) (by simp) hoth).mono (by simp; omega), hB2.trans hB3⟩

set_option maxRecDepth 100000 in
set_option maxHeartbeats 8000000 in
theorem closeStep_0 (S : St) (L : Lay) (k : Nat) (t : Th) (w : World) (hsm : S.small) (hH : Holds w S L) (ho0 : S.ok = true) (ht : S.ths[k]? = some t) (hi : S.isOf 3 k = true) (h0 : t.pc = 0) :
    Calls Tryz.prog 88 #[S.val L, .int .i64 k] w fun e w' => ∃ L', e = .returned ((S.closeAt k t).val L') ∧ Owns w' w.heap.size (S.closeAt k t) L' ∧ Below w.heap.size w w' := by
  have WK := fun W (hW : Below w.heap.size w W) => wake_any S L (-1) W hsm (hH.on hW)
  rw [wake_none] at WK
  have IS := fun W (hW : Below w.heap.size w W) => is_c S L k W hsm (hH.on hW)
  obtain ⟨k0, k1, hB0⟩ := two_new w (.cells (S.cells L) 36) (.cells #[.int .i64 0, .int .i64 0, .int .i64 0, .int .i64 0, .int .i64 0, .int .i64 0, .bool false, .int .i64 0, .int .i64 0, .int .i64 0, .slice none 0 0, .slice none 0 0, .slice none 0 0, .int .i64 0, .slice none 0 0, .int .i64 0, .slice none 0 0, .int .i64 0, .slice none 0 0, .slice none 0 0] 36)
  have hk := (List.getElem?_eq_some_iff.1 ht).1
  have e : S.closeAt k t = S.shut1 k t := by simp [St.closeAt, h0]
  rw [e]
  clear e
  have H0 := Lib.hid h0
  clear h0
  go_enter Tryz.func88, Tryz.ntmps88
  go_wp2_with (first
      | ((with_reducible refine wpList_val (load36 k0 ?_ ?_) ?_); (focus rfl); (focus rfl))
      | (go_at_call 18; (with_reducible refine (WK _ hB0).mono ?_); rintro e w1 ⟨L1, rfl, ho, hb⟩; have hzz := hb.size; have kb := World.alloc_heap_new w1 (.cells (S.cells21 L1 k) 167); have hbv := below_one w1 (.cells (S.cells21 L1 k) 167); replace k0 := kept (kept k0 hb) hbv; replace k1 := kept (kept k1 hb) hbv; replace ho := ho.kept hbv; have hB1 := (hB0.trans (hb.mono hB0.size)).trans (hbv.mono (Nat.le_trans hB0.size hb.size)); have hzv := hbv.size)
      | (go_at_call 124; (with_reducible refine (IS _ hB1).mono ?_); rw [hi]; rintro e w2 ⟨rfl, hb2⟩; replace k0 := kept k0 hb2; replace k1 := kept k1 hb2; replace kb := kept kb hb2; replace ho := ho.kept hb2; have hB2 := hB1.trans (hb2.mono hB1.size); have hzz2 := hb2.size ; have hbz : ((w.alloc (.cells (S.cells L) 36)).alloc (.cells #[.int .i64 0, .int .i64 0, .int .i64 0, .int .i64 0, .int .i64 0, .int .i64 0, .bool false, .int .i64 0, .int .i64 0, .int .i64 0, .slice none 0 0, .slice none 0 0, .slice none 0 0, .int .i64 0, .slice none 0 0, .int .i64 0, .slice none 0 0, .int .i64 0, .slice none 0 0, .slice none 0 0] 36)).heap.size = w.heap.size + 2 := (by simp); rw [hbz] at ho hzz; have hsz : w.heap.size + 2 ≤ w1.heap.size := hzz; obtain ⟨gb, h6⟩ := ho.form6 (show 0 < S.ths.length by omega); have hR : RunAt 167 (w.heap.size + 2) w1.heap.size gb S L1 k w2 := ⟨kb, ho, hsz, h6, hk, okHand⟩; clear h6; have hsz2 : w.heap.size + 2 ≤ w2.heap.size := Nat.le_trans hsz (Nat.le_trans hzv hzz2); have k12 := k1)
      | (go_at_call 125; (with_reducible refine (me_c _ _ _ _ _ _ _ hR).mono ?_); rintro e w4 ⟨rfl, hw⟩; subst hw; replace hR := hR.drew; have f4 : w2.drew.cell? ⟨gb, k * 11 + 4, none⟩ = some (.int .i64 t.pc) := (hR.field ht (j := 4) rfl).1; rw [H0.out] at f4; replace hB2 := hB2.drew; replace k12 := k12)
      | (go_at_call 126; (with_reducible refine (shut_c _ _ _ _ _ _ _ hR hsm t ht).mono ?_); rintro e w5 ⟨rfl, h5⟩; obtain ⟨L5, gb5, hR5, hB5⟩ := h5; have k15 := (hB5.block (w.heap.size + 1) (by omega)).trans k12; have hR6 := hR5; obtain ⟨v6, hst6, kr, hB6, hoth⟩ := run_store_block (P := Tryz.prog) (base := w.heap.size) (cs := (St.cells (S.shut1 k t) L5).toList) k15 rfl (st_one _ L5) (by omega))
      | ((with_reducible refine wpList_val (loadBox hR6 ?_) ?_); (focus rfl))
      | ((with_reducible refine wpList_skip (store36 hst6 ?_ ?_ ?_) ?_); (focus rfl); (focus rfl); (focus rfl)))
  refine bodyPost_ret (results36 kr rfl rfl rfl) rfl ⟨L5, rfl, (hR6.ho.same (B := w.heap.size + 1) (by omega) hoth).mono (by omega), (hB2.trans (hB5.mono (by omega))).trans hB6⟩

set_option maxRecDepth 100000 in
set_option maxHeartbeats 8000000 in
theorem closeStep_1 (S : St) (L : Lay) (k : Nat) (t : Th) (w : World) (hsm : S.small) (hH : Holds w S L) (ho0 : S.ok = true) (ht : S.ths[k]? = some t) (hi : S.isOf 3 k = true) (h0 : t.pc = 1) :
    Calls Tryz.prog 88 #[S.val L, .int .i64 k] w fun e w' => ∃ L', e = .returned ((S.closeAt k t).val L') ∧ Owns w' w.heap.size (S.closeAt k t) L' ∧ Below w.heap.size w w' := by
  have WK := fun W (hW : Below w.heap.size w W) => wake_any S L (-1) W hsm (hH.on hW)
  rw [wake_none] at WK
  have IS := fun W (hW : Below w.heap.size w W) => is_c S L k W hsm (hH.on hW)
  obtain ⟨k0, k1, hB0⟩ := two_new w (.cells (S.cells L) 36) (.cells #[.int .i64 0, .int .i64 0, .int .i64 0, .int .i64 0, .int .i64 0, .int .i64 0, .bool false, .int .i64 0, .int .i64 0, .int .i64 0, .slice none 0 0, .slice none 0 0, .slice none 0 0, .int .i64 0, .slice none 0 0, .int .i64 0, .slice none 0 0, .int .i64 0, .slice none 0 0, .slice none 0 0] 36)
  have hk := (List.getElem?_eq_some_iff.1 ht).1
  have e : S.closeAt k t = St.mod (St.wakeAll { S with fe := (comeE all2 S.fe S.fl).1, fl := (comeE all2 S.fe S.fl).2.1 } (comeE all2 S.fe S.fl).2.2) k (Th.at 2) := by simp [St.closeAt, h0]
  rw [e]
  clear e
  have H0 := Lib.hid h0
  clear h0
  have WF := fun L base b gb W h => wakeF_c S L base b gb k W h hsm
  generalize St.wakeAll { S with fe := (comeE all2 S.fe S.fl).1, fl := (comeE all2 S.fe S.fl).2.1 } (comeE all2 S.fe S.fl).2.2 = Sx at *
  go_enter Tryz.func88, Tryz.ntmps88
  go_wp2_with (first
      | ((with_reducible refine wpList_val (load36 k0 ?_ ?_) ?_); (focus rfl); (focus rfl))
      | (go_at_call 18; (with_reducible refine (WK _ hB0).mono ?_); rintro e w1 ⟨L1, rfl, ho, hb⟩; have hzz := hb.size; have kb := World.alloc_heap_new w1 (.cells (S.cells21 L1 k) 167); have hbv := below_one w1 (.cells (S.cells21 L1 k) 167); replace k0 := kept (kept k0 hb) hbv; replace k1 := kept (kept k1 hb) hbv; replace ho := ho.kept hbv; have hB1 := (hB0.trans (hb.mono hB0.size)).trans (hbv.mono (Nat.le_trans hB0.size hb.size)); have hzv := hbv.size)
      | (go_at_call 124; (with_reducible refine (IS _ hB1).mono ?_); rw [hi]; rintro e w2 ⟨rfl, hb2⟩; replace k0 := kept k0 hb2; replace k1 := kept k1 hb2; replace kb := kept kb hb2; replace ho := ho.kept hb2; have hB2 := hB1.trans (hb2.mono hB1.size); have hzz2 := hb2.size ; have hbz : ((w.alloc (.cells (S.cells L) 36)).alloc (.cells #[.int .i64 0, .int .i64 0, .int .i64 0, .int .i64 0, .int .i64 0, .int .i64 0, .bool false, .int .i64 0, .int .i64 0, .int .i64 0, .slice none 0 0, .slice none 0 0, .slice none 0 0, .int .i64 0, .slice none 0 0, .int .i64 0, .slice none 0 0, .int .i64 0, .slice none 0 0, .slice none 0 0] 36)).heap.size = w.heap.size + 2 := (by simp); rw [hbz] at ho hzz; have hsz : w.heap.size + 2 ≤ w1.heap.size := hzz; obtain ⟨gb, h6⟩ := ho.form6 (show 0 < S.ths.length by omega); have hR : RunAt 167 (w.heap.size + 2) w1.heap.size gb S L1 k w2 := ⟨kb, ho, hsz, h6, hk, okHand⟩; clear h6; have hsz2 : w.heap.size + 2 ≤ w2.heap.size := Nat.le_trans hsz (Nat.le_trans hzv hzz2); have k12 := k1)
      | (go_at_call 125; (with_reducible refine (me_c _ _ _ _ _ _ _ hR).mono ?_); rintro e w4 ⟨rfl, hw⟩; subst hw; replace hR := hR.drew; have f4 : w2.drew.cell? ⟨gb, k * 11 + 4, none⟩ = some (.int .i64 t.pc) := (hR.field ht (j := 4) rfl).1; rw [H0.out] at f4; replace hB2 := hB2.drew; replace k12 := k12)
      | (go_at_call 127; (with_reducible refine (WF _ _ _ _ _ hR).mono ?_); rintro e w5 ⟨rfl, h5⟩; obtain ⟨L5, gb5, hR5, hB5⟩ := h5; have k15 := (hB5.block (w.heap.size + 1) (by omega)).trans k12; clear hR; have hsz5 : w.heap.size + 2 ≤ gb5 := hR5.base_le.1)
      | (go_at_call 125; (with_reducible refine (me_c _ _ _ _ _ _ _ hR5).mono ?_); rintro e w8 ⟨rfl, hw⟩; subst hw; replace hR5 := hR5.drew; replace hB5 := hB5.drew; obtain ⟨t2, ht2⟩ := hR5.the; obtain ⟨q4, p4⟩ := hR5.field ht2 (j := 4) rfl; have hR6 := hR5.mod ht2 (Th.at 2) 4 (.int .i64 2) (by omega) rfl; have k16 := (Below.heap_setCell w5.drew ⟨gb5, k * 11 + 4, none⟩ (.int .i64 2) (w.heap.size + 1) (by show w.heap.size + 1 ≠ gb5; omega)).trans k15; replace hB5 := hB5.setCell (p := ⟨gb5, k * 11 + 4, none⟩) hsz5 (.int .i64 2); obtain ⟨v6, hst6, kr, hB6, hoth⟩ := run_store_block (P := Tryz.prog) (base := w.heap.size) (cs := (St.cells (Sx.mod k (Th.at 2)) L5).toList) k16 rfl (st_one _ L5) (by omega))
      | ((with_reducible refine wpList_val (loadBox hR6 ?_) ?_); (focus rfl))
      | ((with_reducible refine wpList_skip (store36 hst6 ?_ ?_ ?_) ?_); (focus rfl); (focus rfl); (focus rfl)))
  refine bodyPost_ret (results36 kr rfl rfl rfl) rfl ⟨L5, rfl, (hR6.ho.same (B := w.heap.size + 1) (by omega) hoth).mono (by omega), (hB2.trans (hB5.mono (by omega))).trans hB6⟩

set_option maxRecDepth 100000 in
set_option maxHeartbeats 8000000 in
theorem closeStep_2 (S : St) (L : Lay) (k : Nat) (t : Th) (w : World) (hsm : S.small) (hH : Holds w S L) (ho0 : S.ok = true) (ht : S.ths[k]? = some t) (hi : S.isOf 3 k = true) (h0 : t.pc ≠ 0) (h1 : t.pc ≠ 1) :
    Calls Tryz.prog 88 #[S.val L, .int .i64 k] w fun e w' => ∃ L', e = .returned ((S.closeAt k t).val L') ∧ Owns w' w.heap.size (S.closeAt k t) L' ∧ Below w.heap.size w w' := by
  have WK := fun W (hW : Below w.heap.size w W) => wake_any S L (-1) W hsm (hH.on hW)
  rw [wake_none] at WK
  have IS := fun W (hW : Below w.heap.size w W) => is_c S L k W hsm (hH.on hW)
  obtain ⟨k0, k1, hB0⟩ := two_new w (.cells (S.cells L) 36) (.cells #[.int .i64 0, .int .i64 0, .int .i64 0, .int .i64 0, .int .i64 0, .int .i64 0, .bool false, .int .i64 0, .int .i64 0, .int .i64 0, .slice none 0 0, .slice none 0 0, .slice none 0 0, .int .i64 0, .slice none 0 0, .int .i64 0, .slice none 0 0, .int .i64 0, .slice none 0 0, .slice none 0 0] 36)
  have hk := (List.getElem?_eq_some_iff.1 ht).1
  have e : S.closeAt k t = St.mod (St.wakeAll { S with ee := (comeE all2 S.ee S.el).1, el := (comeE all2 S.ee S.el).2.1 } (comeE all2 S.ee S.el).2.2) k (fun t => t.done.1) := by simp [St.closeAt, h0, h1]
  rw [e]
  clear e
  have n0 : (t.pc == 0) = false := by simpa using h0
  have n1 : (t.pc == 1) = false := by simpa using h1
  have WF := fun L base b gb W h => wakeE_c S L base b gb k W h hsm
  generalize St.wakeAll { S with ee := (comeE all2 S.ee S.el).1, el := (comeE all2 S.ee S.el).2.1 } (comeE all2 S.ee S.el).2.2 = Sx at *
  go_enter Tryz.func88, Tryz.ntmps88
  go_wp2_with (first
      | ((with_reducible refine wpList_val (load36 k0 ?_ ?_) ?_); (focus rfl); (focus rfl))
      | (go_at_call 18; (with_reducible refine (WK _ hB0).mono ?_); rintro e w1 ⟨L1, rfl, ho, hb⟩; have hzz := hb.size; have kb := World.alloc_heap_new w1 (.cells (S.cells21 L1 k) 167); have hbv := below_one w1 (.cells (S.cells21 L1 k) 167); replace k0 := kept (kept k0 hb) hbv; replace k1 := kept (kept k1 hb) hbv; replace ho := ho.kept hbv; have hB1 := (hB0.trans (hb.mono hB0.size)).trans (hbv.mono (Nat.le_trans hB0.size hb.size)); have hzv := hbv.size)
      | (go_at_call 124; (with_reducible refine (IS _ hB1).mono ?_); rw [hi]; rintro e w2 ⟨rfl, hb2⟩; replace k0 := kept k0 hb2; replace k1 := kept k1 hb2; replace kb := kept kb hb2; replace ho := ho.kept hb2; have hB2 := hB1.trans (hb2.mono hB1.size); have hzz2 := hb2.size ; have hbz : ((w.alloc (.cells (S.cells L) 36)).alloc (.cells #[.int .i64 0, .int .i64 0, .int .i64 0, .int .i64 0, .int .i64 0, .int .i64 0, .bool false, .int .i64 0, .int .i64 0, .int .i64 0, .slice none 0 0, .slice none 0 0, .slice none 0 0, .int .i64 0, .slice none 0 0, .int .i64 0, .slice none 0 0, .int .i64 0, .slice none 0 0, .slice none 0 0] 36)).heap.size = w.heap.size + 2 := (by simp); rw [hbz] at ho hzz; have hsz : w.heap.size + 2 ≤ w1.heap.size := hzz; obtain ⟨gb, h6⟩ := ho.form6 (show 0 < S.ths.length by omega); have hR : RunAt 167 (w.heap.size + 2) w1.heap.size gb S L1 k w2 := ⟨kb, ho, hsz, h6, hk, okHand⟩; clear h6; have hsz2 : w.heap.size + 2 ≤ w2.heap.size := Nat.le_trans hsz (Nat.le_trans hzv hzz2); have k12 := k1)
      | (go_at_call 125; (with_reducible refine (me_c _ _ _ _ _ _ _ hR).mono ?_); rintro e w4 ⟨rfl, hw⟩; subst hw; replace hR := hR.drew; have f4 : w2.drew.cell? ⟨gb, k * 11 + 4, none⟩ = some (.int .i64 t.pc) := (hR.field ht (j := 4) rfl).1; replace hB2 := hB2.drew; replace k12 := k12)
      | (go_at_call 127; (with_reducible refine (WF _ _ _ _ _ hR).mono ?_); rintro e w5 ⟨rfl, h5⟩; obtain ⟨L5, gb5, hR5, hB5⟩ := h5; have k15 := (hB5.block (w.heap.size + 1) (by omega)).trans k12; clear hR; obtain ⟨t2, ht2⟩ := hR5.the; have hm0 := mod_set ht2 (fun t => t.done.1); have DD := fun W => th_done t2 W; generalize t2.done = r0 at *; obtain ⟨r1, r2⟩ := r0; dsimp only at *)
      | (go_at_call 125; (with_reducible refine (me_c _ _ _ _ _ _ _ hR5).mono ?_); rintro e w8 ⟨rfl, hw⟩; subst hw; replace hR5 := hR5.drew; replace hB5 := hB5.drew; replace k15 := capd k15; have hcs := th_cells hR5.mine ht2)
      | (go_at_call 128; (with_reducible refine (DD _).mono ?_); rintro e w7 ⟨rfl, hb7⟩; have h77 := hR5.base_le.2.2.2.2; replace hR5 := hR5.on hb7; replace hB5 := hB5.trans (hb7.mono h77); replace k15 := kept k15 hb7; obtain ⟨V, hst, hm2, hg2, hB2x⟩ := store_th hR5.mine hR5.hk r1; have hR6 := hR5.stored hm2 hg2; have k16 := (hB2x.block (w.heap.size + 1) (by omega)).trans k15; replace hB5 := hB5.trans hB2x; obtain ⟨v6, hst6, kr, hB6, hoth⟩ := run_store_block (P := Tryz.prog) (base := w.heap.size) (cs := (St.cells (Sx.setTh k r1) L5).toList) k16 rfl (st_one _ L5) (by omega))
      | ((with_reducible refine wpList_val (loadT Tryz.isAgg51 Tryz.sizeOf51 (cs := t2.list) hcs rfl ?_) ?_); (focus rfl))
      | ((with_reducible refine wpList_skip (storeT Tryz.sizeOf51 hst ?_ ?_ ?_) ?_); (focus rfl); (focus rfl); (focus rfl))
      | ((with_reducible refine wpList_val (loadBox hR6 ?_) ?_); (focus rfl))
      | ((with_reducible refine wpList_skip (store36 hst6 ?_ ?_ ?_) ?_); (focus rfl); (focus rfl); (focus rfl)))
  refine bodyPost_ret (results36 kr rfl rfl rfl) rfl ⟨L5, by rw [hm0], by rw [hm0]; exact (hR6.ho.same (B := w.heap.size + 1) (by omega) hoth).mono (by omega), (hB2.trans (hB5.mono (by omega))).trans hB6⟩

theorem closeStep_any (S : St) (L : Lay) (id : Int) (w : World) (hsm : S.small) (hH : Holds w S L) : Calls Tryz.prog 88 #[S.val L, .int .i64 id] w fun e w' => ∃ L', e = .returned ((S.closeStep id).val L') ∧ Owns w' w.heap.size (S.closeStep id) L' ∧ Below w.heap.size w w' := by
  cases hi : S.isOf 3 id with
  | false =>
    have e : S.closeStep id = S := by simp [St.closeStep, hi]
    rw [e]
    exact closeStep_no S L id w hsm hH hi
  | true =>
    obtain ⟨ho, k, t, rfl, ht, -, -⟩ := isOf_yes hi
    have e : S.closeStep k = S.closeAt k t := by simp [St.closeStep, hi, ht]
    rw [e]
    by_cases h0 : t.pc = 0
    · exact closeStep_0 S L k t w hsm hH ho ht hi h0
    · by_cases h1 : t.pc = 1
      · exact closeStep_1 S L k t w hsm hH ho ht hi h1
      · exact closeStep_2 S L k t w hsm hH ho ht hi h0 h1

end Go.Proofs.YtnbgpopjnpdmgaaGreat
