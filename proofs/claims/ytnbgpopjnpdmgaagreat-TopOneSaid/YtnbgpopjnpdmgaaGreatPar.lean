/-
  DERIVED. Own, Among.
-/
import Derived.Test.YtnbgpopjnpdmgaaGreatPaq
set_option linter.unusedVariables false
set_option linter.unusedSimpArgs false

namespace Go.Proofs.YtnbgpopjnpdmgaaGreat
open Go Go.RowKit Go.Shelf

set_option maxRecDepth 100000 in
set_option maxHeartbeats 8000000 in
theorem own_any (S : St) (L : Lay) (w : World) (hsm : S.small) (hH : Holds w S L) :
    Calls Tryz.prog 24 #[S.val L] w fun e w' => ∃ L', e = .returned (S.val L') ∧ Owns w' w.heap.size S L' ∧ Below w.heap.size w w' := by
  obtain ⟨s1, s2, s3, s4, s5, s6, s7⟩ := hsm
  have K1 := fun W (hW : Below w.heap.size w W) => clone_slots (pls S.slots) L.a1 S.slots.length L.c1 W (pls_len _) (one_pls _) (hH.h1.on hW) (by omega)
  have K2 := fun W (hW : Below w.heap.size w W) => clone_ints (ints S.sends) L.a2 S.sends.length L.c2 W (by rw [ints_len, Nat.mul_one]) (one_ints _) (hH.h2.on hW) (by omega)
  have K3 := fun W (hW : Below w.heap.size w W) => clone_ints (ints S.recvs) L.a3 S.recvs.length L.c3 W (by rw [ints_len, Nat.mul_one]) (one_ints _) (hH.h3.on hW) (by omega)
  have K4 := fun W (hW : Below w.heap.size w W) => clone_ints (ints S.fl) L.a4 S.fl.length L.c4 W (by rw [ints_len, Nat.mul_one]) (one_ints _) (hH.h4.on hW) (by omega)
  have K5 := fun W (hW : Below w.heap.size w W) => clone_ints (ints S.el) L.a5 S.el.length L.c5 W (by rw [ints_len, Nat.mul_one]) (one_ints _) (hH.h5.on hW) (by omega)
  have K6 := fun W (hW : Below w.heap.size w W) => clone_ths (Go.Proofs.YtnbgpopjnpdmgaaGreat.ths S.ths) L.a6 S.ths.length L.c6 W (flat_len (k := 11) (fun _ => rfl) _) (one_ths _) (hH.h6.on hW) (by omega)
  have K7 := fun W (hW : Below w.heap.size w W) => clone_ens (ens S.log) L.a7 S.log.length L.c7 W (flat_len (k := 5) (fun _ => rfl) _) (one_ens _) (hH.h7.on hW) (by omega)
  clear hH s1 s2 s3 s4 s5 s6 s7
  obtain ⟨⟨q1, q2, q3, q4, q5, q6, q7⟩, ⟨h, t, m⟩, sl, se, rc, fe, fl, ee, el, now, ts, lg⟩ := S
  obtain ⟨A1, A2, A3, A4, A5, A6, A7, n1, n2, n3, n4, n5, n6, n7⟩ := L
  dsimp only at *
  have hS0 := ((Blk.nil w).add (.cells #[.int .i64 q1, .int .i64 q2, .int .i64 q3, .int .i64 q4, .int .i64 q5, .int .i64 q6, .bool q7, .int .i64 h, .int .i64 t, .int .i64 m, .slice A1 sl.length n1, .slice A2 se.length n2, .slice A3 rc.length n3, .int .i64 fe, .slice A4 fl.length n4, .int .i64 ee, .slice A5 el.length n5, .int .i64 now, .slice A6 ts.length n6, .slice A7 lg.length n7] 36)).add (.cells #[.int .i64 0, .int .i64 0, .int .i64 0, .int .i64 0, .int .i64 0, .int .i64 0, .bool false, .int .i64 0, .int .i64 0, .int .i64 0, .slice none 0 0, .slice none 0 0, .slice none 0 0, .int .i64 0, .slice none 0 0, .int .i64 0, .slice none 0 0, .int .i64 0, .slice none 0 0, .slice none 0 0] 36)
  rw [World.size_alloc] at hS0
  go_enter Tryz.func24, Tryz.ntmps24
  go_wp2_with fail
  have hS : Blk w w.heap.size [(w.heap.size, (.cells #[.int .i64 q1, .int .i64 q2, .int .i64 q3, .int .i64 q4, .int .i64 q5, .int .i64 q6, .bool q7, .int .i64 h, .int .i64 t, .int .i64 m, .slice A1 sl.length n1, .slice A2 se.length n2, .slice A3 rc.length n3, .int .i64 fe, .slice A4 fl.length n4, .int .i64 ee, .slice A5 el.length n5, .int .i64 now, .slice A6 ts.length n6, .slice A7 lg.length n7] 36)), (w.heap.size + 1, (.cells #[.int .i64 0, .int .i64 0, .int .i64 0, .int .i64 0, .int .i64 0, .int .i64 0, .bool false, .int .i64 0, .int .i64 0, .int .i64 0, .slice none 0 0, .slice none 0 0, .slice none 0 0, .int .i64 0, .slice none 0 0, .int .i64 0, .slice none 0 0, .int .i64 0, .slice none 0 0, .slice none 0 0] 36))] _ := (hS0.less (by simp)).drew
  clear hS0
  have hz : (World.drew ((w.alloc (.cells #[.int .i64 q1, .int .i64 q2, .int .i64 q3, .int .i64 q4, .int .i64 q5, .int .i64 q6, .bool q7, .int .i64 h, .int .i64 t, .int .i64 m, .slice A1 sl.length n1, .slice A2 se.length n2, .slice A3 rc.length n3, .int .i64 fe, .slice A4 fl.length n4, .int .i64 ee, .slice A5 el.length n5, .int .i64 now, .slice A6 ts.length n6, .slice A7 lg.length n7] 36)).alloc (.cells #[.int .i64 0, .int .i64 0, .int .i64 0, .int .i64 0, .int .i64 0, .int .i64 0, .bool false, .int .i64 0, .int .i64 0, .int .i64 0, .slice none 0 0, .slice none 0 0, .slice none 0 0, .int .i64 0, .slice none 0 0, .int .i64 0, .slice none 0 0, .int .i64 0, .slice none 0 0, .slice none 0 0] 36))).heap.size = w.heap.size + 2 := by simp
  refine wp_region_ord3 (Blk w w.heap.size [(w.heap.size, (.cells #[.int .i64 q1, .int .i64 q2, .int .i64 q3, .int .i64 q4, .int .i64 q5, .int .i64 q6, .bool q7, .int .i64 h, .int .i64 t, .int .i64 m, .slice A1 sl.length n1, .slice A2 se.length n2, .slice A3 rc.length n3, .int .i64 fe, .slice A4 fl.length n4, .int .i64 ee, .slice A5 el.length n5, .int .i64 now, .slice A6 ts.length n6, .slice A7 lg.length n7] 36)), (w.heap.size + 1, (.cells #[.int .i64 0, .int .i64 0, .int .i64 0, .int .i64 0, .int .i64 0, .int .i64 0, .bool false, .int .i64 0, .int .i64 0, .int .i64 0, .slice none 0 0, .slice none 0 0, .slice none 0 0, .int .i64 0, .slice none 0 0, .int .i64 0, .slice none 0 0, .int .i64 0, .slice none 0 0, .slice none 0 0] 36))]) (fun _ => True) 10 (by kernel_rfl)
    [(2, 0), (2, 3), (2, 6), (1, 1), (1, 4), (1, 7), (0, 2), (2, 9), (0, 5), (0, 8), (0, 10), (2, 11), (0, 12), (2, 13), (0, 14)]
    (by kernel_rfl) (by kernel_rfl) (by decide) (by kernel_rfl) (fun _ _ d _ _ h => by cases d <;> exact h) ?_
  simp only [inOrder2, List.getElem?_cons_succ, List.getElem?_cons_zero, List.nil_append, List.cons_append]
  iterate 3 (((with_reducible refine o3_calmF (v := ?_) (a' := ?_) hS ?_ (fun V => ?_) ?_ ?_); rotate_left 2; (rfl); (first | (go_simp; with_reducible rfl) | (go_simp; refine (if_pos ?_).trans ?_; omega; with_reducible rfl)); (simp only [Act.put, List.setIfInBounds_toArray, List.set_cons_succ, List.set_cons_zero] <;> rfl)))
  iterate 3 (((with_reducible refine o3_pre (v := ?_) (a' := ?_) hS ?_ (fun V hV => ?_) ?_ ?_); rotate_left 2; (rfl); (obtain ⟨a0, a1, a2, a3, a4, a5, a6, a7, a8, a9, a10, a11, a12, a13, a14, a15, a16, a17, a18, a19⟩ := cells20 (hV.get (B := w.heap.size) (o := (.cells #[.int .i64 q1, .int .i64 q2, .int .i64 q3, .int .i64 q4, .int .i64 q5, .int .i64 q6, .bool q7, .int .i64 h, .int .i64 t, .int .i64 m, .slice A1 sl.length n1, .slice A2 se.length n2, .slice A3 rc.length n3, .int .i64 fe, .slice A4 fl.length n4, .int .i64 ee, .slice A5 el.length n5, .int .i64 now, .slice A6 ts.length n6, .slice A7 lg.length n7] 36)) (by simp)); first | (go_simp; with_reducible rfl) | (go_simp; refine (if_pos ?_).trans ?_; omega; with_reducible rfl)); (simp only [Act.put, List.setIfInBounds_toArray, List.set_cons_succ, List.set_cons_zero] <;> rfl)))
  refine o3_onlyF rfl rfl ?_
  go_simp
  refine ⟨trivial, rfl, (callsIn_wide.2 (K1 _ hS.below)).mono ?_⟩
  rintro e w1 ⟨B1, m1, rfl, o1, hb⟩
  refine ⟨hS.on hb, ?_⟩
  replace hS := hS.on hb
  have hbs1 := Nat.le_trans (by first | exact Nat.le_of_eq hz.symm | assumption) hb.size
  replace o1 := o1.mono (base' := w.heap.size + 2) (by simp)
  clear hb
  ((with_reducible refine o3_calmF (v := ?_) (a' := ?_) hS ?_ (fun V => ?_) ?_ ?_); rotate_left 2; (rfl); (first | (go_simp; with_reducible rfl) | (go_simp; refine (if_pos ?_).trans ?_; omega; with_reducible rfl)); (simp only [Act.put, List.setIfInBounds_toArray, List.set_cons_succ, List.set_cons_zero] <;> rfl))
  refine o3_onlyF rfl rfl ?_
  go_simp
  refine ⟨trivial, rfl, (callsIn_wide.2 (K2 _ hS.below)).mono ?_⟩
  rintro e w2 ⟨B2, m2, rfl, o2, hb⟩
  refine ⟨hS.on hb, ?_⟩
  replace hS := hS.on hb
  have hbs2 := Nat.le_trans (by first | exact Nat.le_of_eq hz.symm | assumption) hb.size
  replace o1 := o1.kept hb
  have hs2 : w.heap.size + 2 ≤ w1.heap.size := hbs1
  replace o2 := o2.mono (base' := w.heap.size + 2) hs2
  clear hb
  refine o3_onlyF rfl rfl ?_
  go_simp
  refine ⟨trivial, rfl, (callsIn_wide.2 (K3 _ hS.below)).mono ?_⟩
  rintro e w3 ⟨B3, m3, rfl, o3, hb⟩
  refine ⟨hS.on hb, ?_⟩
  replace hS := hS.on hb
  skip
  replace o1 := o1.kept hb
  replace o2 := o2.kept hb
  replace o3 := o3.mono (base' := w.heap.size + 2) hbs2
  clear hb
  have kk := hS.get (B := w.heap.size) (o := (.cells #[.int .i64 q1, .int .i64 q2, .int .i64 q3, .int .i64 q4, .int .i64 q5, .int .i64 q6, .bool q7, .int .i64 h, .int .i64 t, .int .i64 m, .slice A1 sl.length n1, .slice A2 se.length n2, .slice A3 rc.length n3, .int .i64 fe, .slice A4 fl.length n4, .int .i64 ee, .slice A5 el.length n5, .int .i64 now, .slice A6 ts.length n6, .slice A7 lg.length n7] 36)) (by simp)
  have ff := frozen20 kk
  have g10 := (of_block kk 10).1
  have g11 := (of_block kk 11).1
  have g12 := (of_block kk 12).1
  refine o3_onlyS rfl rfl ?_
  go_simp
  ((with_reducible refine o3_calmT (v := ?_) (a' := ?_) trivial ?_ (fun V => ?_) ?_ ?_); rotate_left 2; (rfl); (first | (go_simp; with_reducible rfl) | (go_simp; refine (if_pos ?_).trans ?_; omega; with_reducible rfl)); (simp only [Act.put, List.setIfInBounds_toArray, List.set_cons_succ, List.set_cons_zero] <;> rfl))
  refine o3_onlyT  rfl ?_
  go_simp
  ((with_reducible refine o3_calmT (v := ?_) (a' := ?_) trivial ?_ (fun V => ?_) ?_ ?_); rotate_left 2; (rfl); (first | (go_simp; with_reducible rfl) | (go_simp; refine (if_pos ?_).trans ?_; omega; with_reducible rfl)); (simp only [Act.put, List.setIfInBounds_toArray, List.set_cons_succ, List.set_cons_zero] <;> rfl))
  refine o3_onlyT  rfl ?_
  go_simp
  refine o3_end _ ?_
  try simp only [Exit.then]
  clear kk ff g10 g11 g12
  have hS2 : Blk w w.heap.size [(w.heap.size, (.cells #[.int .i64 q1, .int .i64 q2, .int .i64 q3, .int .i64 q4, .int .i64 q5, .int .i64 q6, .bool q7, .int .i64 h, .int .i64 t, .int .i64 m, .slice B1 sl.length m1, .slice B2 se.length m2, .slice B3 rc.length m3, .int .i64 fe, .slice A4 fl.length n4, .int .i64 ee, .slice A5 el.length n5, .int .i64 now, .slice A6 ts.length n6, .slice A7 lg.length n7] 36)), (w.heap.size + 1, (.cells #[.int .i64 0, .int .i64 0, .int .i64 0, .int .i64 0, .int .i64 0, .int .i64 0, .bool false, .int .i64 0, .int .i64 0, .int .i64 0, .slice none 0 0, .slice none 0 0, .slice none 0 0, .int .i64 0, .slice none 0 0, .int .i64 0, .slice none 0 0, .int .i64 0, .slice none 0 0, .slice none 0 0] 36))] (((w3.setCell ⟨w.heap.size, 10, none⟩ (.slice B1 sl.length m1)).setCell ⟨w.heap.size, 11, none⟩ (.slice B2 se.length m2)).setCell ⟨w.heap.size, 12, none⟩ (.slice B3 rc.length m3)) := (Blk.put (Blk.put (Blk.put hS 10 (.slice B1 sl.length m1) (Nat.le_refl _) (by simp)) 11 (.slice B2 se.length m2) (Nat.le_refl _) (by simp)) 12 (.slice B3 rc.length m3) (Nat.le_refl _) (by simp))
  replace o1 : Mine (((w3.setCell ⟨w.heap.size, 10, none⟩ (.slice B1 sl.length m1)).setCell ⟨w.heap.size, 11, none⟩ (.slice B2 se.length m2)).setCell ⟨w.heap.size, 12, none⟩ (.slice B3 rc.length m3)) _ _ _ _ _ _ _ := (Mine.other (Mine.other (Mine.other o1 w.heap.size 10 (.slice B1 sl.length m1) (by omega)) w.heap.size 11 (.slice B2 se.length m2) (by omega)) w.heap.size 12 (.slice B3 rc.length m3) (by omega))
  replace o2 : Mine (((w3.setCell ⟨w.heap.size, 10, none⟩ (.slice B1 sl.length m1)).setCell ⟨w.heap.size, 11, none⟩ (.slice B2 se.length m2)).setCell ⟨w.heap.size, 12, none⟩ (.slice B3 rc.length m3)) _ _ _ _ _ _ _ := (Mine.other (Mine.other (Mine.other o2 w.heap.size 10 (.slice B1 sl.length m1) (by omega)) w.heap.size 11 (.slice B2 se.length m2) (by omega)) w.heap.size 12 (.slice B3 rc.length m3) (by omega))
  replace o3 : Mine (((w3.setCell ⟨w.heap.size, 10, none⟩ (.slice B1 sl.length m1)).setCell ⟨w.heap.size, 11, none⟩ (.slice B2 se.length m2)).setCell ⟨w.heap.size, 12, none⟩ (.slice B3 rc.length m3)) _ _ _ _ _ _ _ := (Mine.other (Mine.other (Mine.other o3 w.heap.size 10 (.slice B1 sl.length m1) (by omega)) w.heap.size 11 (.slice B2 se.length m2) (by omega)) w.heap.size 12 (.slice B3 rc.length m3) (by omega))
  generalize (((w3.setCell ⟨w.heap.size, 10, none⟩ (.slice B1 sl.length m1)).setCell ⟨w.heap.size, 11, none⟩ (.slice B2 se.length m2)).setCell ⟨w.heap.size, 12, none⟩ (.slice B3 rc.length m3)) = v1 at *
  clear hS
  have hS := hS2
  clear hS2
  go_wp2_with fail
  replace hS := hS.drew
  replace o1 := o1.drew
  replace o2 := o2.drew
  replace o3 := o3.drew
  have hbs4 : w.heap.size + 2 ≤ v1.drew.heap.size := blk_lt (hS.get (B := w.heap.size + 1) (o := (.cells #[.int .i64 0, .int .i64 0, .int .i64 0, .int .i64 0, .int .i64 0, .int .i64 0, .bool false, .int .i64 0, .int .i64 0, .int .i64 0, .slice none 0 0, .slice none 0 0, .slice none 0 0, .int .i64 0, .slice none 0 0, .int .i64 0, .slice none 0 0, .int .i64 0, .slice none 0 0, .slice none 0 0] 36)) (by simp))
  refine wp_region_ord3 (Blk w w.heap.size [(w.heap.size, (.cells #[.int .i64 q1, .int .i64 q2, .int .i64 q3, .int .i64 q4, .int .i64 q5, .int .i64 q6, .bool q7, .int .i64 h, .int .i64 t, .int .i64 m, .slice B1 sl.length m1, .slice B2 se.length m2, .slice B3 rc.length m3, .int .i64 fe, .slice A4 fl.length n4, .int .i64 ee, .slice A5 el.length n5, .int .i64 now, .slice A6 ts.length n6, .slice A7 lg.length n7] 36)), (w.heap.size + 1, (.cells #[.int .i64 0, .int .i64 0, .int .i64 0, .int .i64 0, .int .i64 0, .int .i64 0, .bool false, .int .i64 0, .int .i64 0, .int .i64 0, .slice none 0 0, .slice none 0 0, .slice none 0 0, .int .i64 0, .slice none 0 0, .int .i64 0, .slice none 0 0, .int .i64 0, .slice none 0 0, .slice none 0 0] 36))]) (fun _ => True) 10 (by kernel_rfl)
    [(2, 0), (2, 1), (2, 4), (2, 5), (1, 2), (1, 6), (0, 3), (2, 8), (2, 9), (0, 7), (0, 10), (2, 11), (2, 12), (0, 13)]
    (by kernel_rfl) (by kernel_rfl) (by decide) (by kernel_rfl) (fun _ _ d _ _ h => by cases d <;> exact h) ?_
  simp only [inOrder2, List.getElem?_cons_succ, List.getElem?_cons_zero, List.nil_append, List.cons_append]
  generalize v1.drew = v1' at *
  iterate 4 (((with_reducible refine o3_calmF (v := ?_) (a' := ?_) hS ?_ (fun V => ?_) ?_ ?_); rotate_left 2; (rfl); (first | (go_simp; with_reducible rfl) | (go_simp; refine (if_pos ?_).trans ?_; omega; with_reducible rfl)); (simp only [Act.put, List.setIfInBounds_toArray, List.set_cons_succ, List.set_cons_zero] <;> rfl)))
  iterate 2 (((with_reducible refine o3_pre (v := ?_) (a' := ?_) hS ?_ (fun V hV => ?_) ?_ ?_); rotate_left 2; (rfl); (obtain ⟨a0, a1, a2, a3, a4, a5, a6, a7, a8, a9, a10, a11, a12, a13, a14, a15, a16, a17, a18, a19⟩ := cells20 (hV.get (B := w.heap.size) (o := (.cells #[.int .i64 q1, .int .i64 q2, .int .i64 q3, .int .i64 q4, .int .i64 q5, .int .i64 q6, .bool q7, .int .i64 h, .int .i64 t, .int .i64 m, .slice B1 sl.length m1, .slice B2 se.length m2, .slice B3 rc.length m3, .int .i64 fe, .slice A4 fl.length n4, .int .i64 ee, .slice A5 el.length n5, .int .i64 now, .slice A6 ts.length n6, .slice A7 lg.length n7] 36)) (by simp)); first | (go_simp; with_reducible rfl) | (go_simp; refine (if_pos ?_).trans ?_; omega; with_reducible rfl)); (simp only [Act.put, List.setIfInBounds_toArray, List.set_cons_succ, List.set_cons_zero] <;> rfl)))
  refine o3_onlyF rfl rfl ?_
  go_simp
  refine ⟨trivial, rfl, (callsIn_wide.2 (K4 _ hS.below)).mono ?_⟩
  rintro e w4 ⟨B4, m4, rfl, o4, hb⟩
  refine ⟨hS.on hb, ?_⟩
  replace hS := hS.on hb
  skip
  replace o1 := o1.kept hb
  replace o2 := o2.kept hb
  replace o3 := o3.kept hb
  replace o4 := o4.mono (base' := w.heap.size + 2) hbs4
  have hbs5 := Nat.le_trans hbs4 hb.size
  clear hb
  iterate 2 (((with_reducible refine o3_calmF (v := ?_) (a' := ?_) hS ?_ (fun V => ?_) ?_ ?_); rotate_left 2; (rfl); (first | (go_simp; with_reducible rfl) | (go_simp; refine (if_pos ?_).trans ?_; omega; with_reducible rfl)); (simp only [Act.put, List.setIfInBounds_toArray, List.set_cons_succ, List.set_cons_zero] <;> rfl)))
  refine o3_onlyF rfl rfl ?_
  go_simp
  refine ⟨trivial, rfl, (callsIn_wide.2 (K5 _ hS.below)).mono ?_⟩
  rintro e w5 ⟨B5, m5, rfl, o5, hb⟩
  refine ⟨hS.on hb, ?_⟩
  replace hS := hS.on hb
  skip
  replace o1 := o1.kept hb
  replace o2 := o2.kept hb
  replace o3 := o3.kept hb
  replace o4 := o4.kept hb
  replace o5 := o5.mono (base' := w.heap.size + 2) hbs5
  clear hb
  have kk := hS.get (B := w.heap.size) (o := (.cells #[.int .i64 q1, .int .i64 q2, .int .i64 q3, .int .i64 q4, .int .i64 q5, .int .i64 q6, .bool q7, .int .i64 h, .int .i64 t, .int .i64 m, .slice B1 sl.length m1, .slice B2 se.length m2, .slice B3 rc.length m3, .int .i64 fe, .slice A4 fl.length n4, .int .i64 ee, .slice A5 el.length n5, .int .i64 now, .slice A6 ts.length n6, .slice A7 lg.length n7] 36)) (by simp)
  have ff := frozen20 kk
  have g14 := (of_block kk 14).1
  have g16 := (of_block kk 16).1
  refine o3_onlyS rfl rfl ?_
  go_simp
  iterate 2 (((with_reducible refine o3_calmT (v := ?_) (a' := ?_) trivial ?_ (fun V => ?_) ?_ ?_); rotate_left 2; (rfl); (first | (go_simp; with_reducible rfl) | (go_simp; refine (if_pos ?_).trans ?_; omega; with_reducible rfl)); (simp only [Act.put, List.setIfInBounds_toArray, List.set_cons_succ, List.set_cons_zero] <;> rfl)))
  refine o3_onlyT  rfl ?_
  go_simp
  refine o3_end _ ?_
  try simp only [Exit.then]
  clear kk ff g14 g16
  have hS2 : Blk w w.heap.size [(w.heap.size, (.cells #[.int .i64 q1, .int .i64 q2, .int .i64 q3, .int .i64 q4, .int .i64 q5, .int .i64 q6, .bool q7, .int .i64 h, .int .i64 t, .int .i64 m, .slice B1 sl.length m1, .slice B2 se.length m2, .slice B3 rc.length m3, .int .i64 fe, .slice B4 fl.length m4, .int .i64 ee, .slice B5 el.length m5, .int .i64 now, .slice A6 ts.length n6, .slice A7 lg.length n7] 36)), (w.heap.size + 1, (.cells #[.int .i64 0, .int .i64 0, .int .i64 0, .int .i64 0, .int .i64 0, .int .i64 0, .bool false, .int .i64 0, .int .i64 0, .int .i64 0, .slice none 0 0, .slice none 0 0, .slice none 0 0, .int .i64 0, .slice none 0 0, .int .i64 0, .slice none 0 0, .int .i64 0, .slice none 0 0, .slice none 0 0] 36))] ((w5.setCell ⟨w.heap.size, 14, none⟩ (.slice B4 fl.length m4)).setCell ⟨w.heap.size, 16, none⟩ (.slice B5 el.length m5)) := (Blk.put (Blk.put hS 14 (.slice B4 fl.length m4) (Nat.le_refl _) (by simp)) 16 (.slice B5 el.length m5) (Nat.le_refl _) (by simp))
  replace o1 : Mine ((w5.setCell ⟨w.heap.size, 14, none⟩ (.slice B4 fl.length m4)).setCell ⟨w.heap.size, 16, none⟩ (.slice B5 el.length m5)) _ _ _ _ _ _ _ := (Mine.other (Mine.other o1 w.heap.size 14 (.slice B4 fl.length m4) (by omega)) w.heap.size 16 (.slice B5 el.length m5) (by omega))
  replace o2 : Mine ((w5.setCell ⟨w.heap.size, 14, none⟩ (.slice B4 fl.length m4)).setCell ⟨w.heap.size, 16, none⟩ (.slice B5 el.length m5)) _ _ _ _ _ _ _ := (Mine.other (Mine.other o2 w.heap.size 14 (.slice B4 fl.length m4) (by omega)) w.heap.size 16 (.slice B5 el.length m5) (by omega))
  replace o3 : Mine ((w5.setCell ⟨w.heap.size, 14, none⟩ (.slice B4 fl.length m4)).setCell ⟨w.heap.size, 16, none⟩ (.slice B5 el.length m5)) _ _ _ _ _ _ _ := (Mine.other (Mine.other o3 w.heap.size 14 (.slice B4 fl.length m4) (by omega)) w.heap.size 16 (.slice B5 el.length m5) (by omega))
  replace o4 : Mine ((w5.setCell ⟨w.heap.size, 14, none⟩ (.slice B4 fl.length m4)).setCell ⟨w.heap.size, 16, none⟩ (.slice B5 el.length m5)) _ _ _ _ _ _ _ := (Mine.other (Mine.other o4 w.heap.size 14 (.slice B4 fl.length m4) (by omega)) w.heap.size 16 (.slice B5 el.length m5) (by omega))
  replace o5 : Mine ((w5.setCell ⟨w.heap.size, 14, none⟩ (.slice B4 fl.length m4)).setCell ⟨w.heap.size, 16, none⟩ (.slice B5 el.length m5)) _ _ _ _ _ _ _ := (Mine.other (Mine.other o5 w.heap.size 14 (.slice B4 fl.length m4) (by omega)) w.heap.size 16 (.slice B5 el.length m5) (by omega))
  generalize ((w5.setCell ⟨w.heap.size, 14, none⟩ (.slice B4 fl.length m4)).setCell ⟨w.heap.size, 16, none⟩ (.slice B5 el.length m5)) = v2 at *
  clear hS
  have hS := hS2
  clear hS2
  go_wp2_with fail
  replace hS := hS.drew
  replace o1 := o1.drew
  replace o2 := o2.drew
  replace o3 := o3.drew
  replace o4 := o4.drew
  replace o5 := o5.drew
  have hbs6 : w.heap.size + 2 ≤ v2.drew.heap.size := blk_lt (hS.get (B := w.heap.size + 1) (o := (.cells #[.int .i64 0, .int .i64 0, .int .i64 0, .int .i64 0, .int .i64 0, .int .i64 0, .bool false, .int .i64 0, .int .i64 0, .int .i64 0, .slice none 0 0, .slice none 0 0, .slice none 0 0, .int .i64 0, .slice none 0 0, .int .i64 0, .slice none 0 0, .int .i64 0, .slice none 0 0, .slice none 0 0] 36)) (by simp))
  refine wp_region_ord3 (Blk w w.heap.size [(w.heap.size, (.cells #[.int .i64 q1, .int .i64 q2, .int .i64 q3, .int .i64 q4, .int .i64 q5, .int .i64 q6, .bool q7, .int .i64 h, .int .i64 t, .int .i64 m, .slice B1 sl.length m1, .slice B2 se.length m2, .slice B3 rc.length m3, .int .i64 fe, .slice B4 fl.length m4, .int .i64 ee, .slice B5 el.length m5, .int .i64 now, .slice A6 ts.length n6, .slice A7 lg.length n7] 36)), (w.heap.size + 1, (.cells #[.int .i64 0, .int .i64 0, .int .i64 0, .int .i64 0, .int .i64 0, .int .i64 0, .bool false, .int .i64 0, .int .i64 0, .int .i64 0, .slice none 0 0, .slice none 0 0, .slice none 0 0, .int .i64 0, .slice none 0 0, .int .i64 0, .slice none 0 0, .int .i64 0, .slice none 0 0, .slice none 0 0] 36))]) (fun _ => True) 7 (by kernel_rfl)
    [(2, 0), (2, 3), (1, 1), (1, 4), (0, 2), (2, 6), (0, 5), (0, 7), (2, 8), (0, 9)]
    (by kernel_rfl) (by kernel_rfl) (by decide) (by kernel_rfl) (fun _ _ d _ _ h => by cases d <;> exact h) ?_
  simp only [inOrder2, List.getElem?_cons_succ, List.getElem?_cons_zero, List.nil_append, List.cons_append]
  generalize v2.drew = v2' at *
  iterate 2 (((with_reducible refine o3_calmF (v := ?_) (a' := ?_) hS ?_ (fun V => ?_) ?_ ?_); rotate_left 2; (rfl); (first | (go_simp; with_reducible rfl) | (go_simp; refine (if_pos ?_).trans ?_; omega; with_reducible rfl)); (simp only [Act.put, List.setIfInBounds_toArray, List.set_cons_succ, List.set_cons_zero] <;> rfl)))
  iterate 2 (((with_reducible refine o3_pre (v := ?_) (a' := ?_) hS ?_ (fun V hV => ?_) ?_ ?_); rotate_left 2; (rfl); (obtain ⟨a0, a1, a2, a3, a4, a5, a6, a7, a8, a9, a10, a11, a12, a13, a14, a15, a16, a17, a18, a19⟩ := cells20 (hV.get (B := w.heap.size) (o := (.cells #[.int .i64 q1, .int .i64 q2, .int .i64 q3, .int .i64 q4, .int .i64 q5, .int .i64 q6, .bool q7, .int .i64 h, .int .i64 t, .int .i64 m, .slice B1 sl.length m1, .slice B2 se.length m2, .slice B3 rc.length m3, .int .i64 fe, .slice B4 fl.length m4, .int .i64 ee, .slice B5 el.length m5, .int .i64 now, .slice A6 ts.length n6, .slice A7 lg.length n7] 36)) (by simp)); first | (go_simp; with_reducible rfl) | (go_simp; refine (if_pos ?_).trans ?_; omega; with_reducible rfl)); (simp only [Act.put, List.setIfInBounds_toArray, List.set_cons_succ, List.set_cons_zero] <;> rfl)))
  refine o3_onlyF rfl rfl ?_
  go_simp
  refine ⟨trivial, rfl, (callsIn_wide.2 (K6 _ hS.below)).mono ?_⟩
  rintro e w6 ⟨B6, m6, rfl, o6, hb⟩
  refine ⟨hS.on hb, ?_⟩
  replace hS := hS.on hb
  skip
  have e1 := fun b off t (hh : B1 = some ⟨b, off, t⟩) => (o1.base b off t hh).2
  have e2 := fun b off t (hh : B2 = some ⟨b, off, t⟩) => (o2.base b off t hh).2
  have e3 := fun b off t (hh : B3 = some ⟨b, off, t⟩) => (o3.base b off t hh).2
  have e4 := fun b off t (hh : B4 = some ⟨b, off, t⟩) => (o4.base b off t hh).2
  have e5 := fun b off t (hh : B5 = some ⟨b, off, t⟩) => (o5.base b off t hh).2
  replace o1 := o1.kept hb
  replace o2 := o2.kept hb
  replace o3 := o3.kept hb
  replace o4 := o4.kept hb
  replace o5 := o5.kept hb
  have hb6s := hb.size
  have hbs7 := Nat.le_trans hbs6 hb.size
  have e6 := fun b off t (hh : B6 = some ⟨b, off, t⟩) => o6.base b off t hh
  replace o6 := o6.mono (base' := w.heap.size + 2) hbs6
  clear hb
  ((with_reducible refine o3_calmF (v := ?_) (a' := ?_) hS ?_ (fun V => ?_) ?_ ?_); rotate_left 2; (rfl); (first | (go_simp; with_reducible rfl) | (go_simp; refine (if_pos ?_).trans ?_; omega; with_reducible rfl)); (simp only [Act.put, List.setIfInBounds_toArray, List.set_cons_succ, List.set_cons_zero] <;> rfl))
  refine o3_onlyF rfl rfl ?_
  go_simp
  refine ⟨trivial, rfl, (callsIn_wide.2 (K7 _ hS.below)).mono ?_⟩
  rintro e w7 ⟨B7, m7, rfl, o7, hb⟩
  refine ⟨hS.on hb, ?_⟩
  replace hS := hS.on hb
  skip
  replace o1 := o1.kept hb
  replace o2 := o2.kept hb
  replace o3 := o3.kept hb
  replace o4 := o4.kept hb
  replace o5 := o5.kept hb
  replace o6 := o6.kept hb
  have e67 := hb.size
  have e7 := fun b off t (hh : B7 = some ⟨b, off, t⟩) => (o7.base b off t hh).1
  have e76 : v2'.heap.size ≤ w6.heap.size := hb6s
  replace o7 := o7.mono (base' := w.heap.size + 2) hbs7
  clear hb
  have kk := hS.get (B := w.heap.size) (o := (.cells #[.int .i64 q1, .int .i64 q2, .int .i64 q3, .int .i64 q4, .int .i64 q5, .int .i64 q6, .bool q7, .int .i64 h, .int .i64 t, .int .i64 m, .slice B1 sl.length m1, .slice B2 se.length m2, .slice B3 rc.length m3, .int .i64 fe, .slice B4 fl.length m4, .int .i64 ee, .slice B5 el.length m5, .int .i64 now, .slice A6 ts.length n6, .slice A7 lg.length n7] 36)) (by simp)
  have ff := frozen20 kk
  have g18 := (of_block kk 18).1
  have g19 := (of_block kk 19).1
  refine o3_onlyS rfl rfl ?_
  go_simp
  ((with_reducible refine o3_calmT (v := ?_) (a' := ?_) trivial ?_ (fun V => ?_) ?_ ?_); rotate_left 2; (rfl); (first | (go_simp; with_reducible rfl) | (go_simp; refine (if_pos ?_).trans ?_; omega; with_reducible rfl)); (simp only [Act.put, List.setIfInBounds_toArray, List.set_cons_succ, List.set_cons_zero] <;> rfl))
  refine o3_onlyT  rfl ?_
  go_simp
  refine o3_end _ ?_
  try simp only [Exit.then]
  clear kk ff g18 g19
  have hS2 : Blk w w.heap.size [(w.heap.size, (.cells #[.int .i64 q1, .int .i64 q2, .int .i64 q3, .int .i64 q4, .int .i64 q5, .int .i64 q6, .bool q7, .int .i64 h, .int .i64 t, .int .i64 m, .slice B1 sl.length m1, .slice B2 se.length m2, .slice B3 rc.length m3, .int .i64 fe, .slice B4 fl.length m4, .int .i64 ee, .slice B5 el.length m5, .int .i64 now, .slice B6 ts.length m6, .slice B7 lg.length m7] 36)), (w.heap.size + 1, (.cells #[.int .i64 0, .int .i64 0, .int .i64 0, .int .i64 0, .int .i64 0, .int .i64 0, .bool false, .int .i64 0, .int .i64 0, .int .i64 0, .slice none 0 0, .slice none 0 0, .slice none 0 0, .int .i64 0, .slice none 0 0, .int .i64 0, .slice none 0 0, .int .i64 0, .slice none 0 0, .slice none 0 0] 36))] ((w7.setCell ⟨w.heap.size, 18, none⟩ (.slice B6 ts.length m6)).setCell ⟨w.heap.size, 19, none⟩ (.slice B7 lg.length m7)) := (Blk.put (Blk.put hS 18 (.slice B6 ts.length m6) (Nat.le_refl _) (by simp)) 19 (.slice B7 lg.length m7) (Nat.le_refl _) (by simp))
  replace o1 : Mine ((w7.setCell ⟨w.heap.size, 18, none⟩ (.slice B6 ts.length m6)).setCell ⟨w.heap.size, 19, none⟩ (.slice B7 lg.length m7)) _ _ _ _ _ _ _ := (Mine.other (Mine.other o1 w.heap.size 18 (.slice B6 ts.length m6) (by omega)) w.heap.size 19 (.slice B7 lg.length m7) (by omega))
  replace o2 : Mine ((w7.setCell ⟨w.heap.size, 18, none⟩ (.slice B6 ts.length m6)).setCell ⟨w.heap.size, 19, none⟩ (.slice B7 lg.length m7)) _ _ _ _ _ _ _ := (Mine.other (Mine.other o2 w.heap.size 18 (.slice B6 ts.length m6) (by omega)) w.heap.size 19 (.slice B7 lg.length m7) (by omega))
  replace o3 : Mine ((w7.setCell ⟨w.heap.size, 18, none⟩ (.slice B6 ts.length m6)).setCell ⟨w.heap.size, 19, none⟩ (.slice B7 lg.length m7)) _ _ _ _ _ _ _ := (Mine.other (Mine.other o3 w.heap.size 18 (.slice B6 ts.length m6) (by omega)) w.heap.size 19 (.slice B7 lg.length m7) (by omega))
  replace o4 : Mine ((w7.setCell ⟨w.heap.size, 18, none⟩ (.slice B6 ts.length m6)).setCell ⟨w.heap.size, 19, none⟩ (.slice B7 lg.length m7)) _ _ _ _ _ _ _ := (Mine.other (Mine.other o4 w.heap.size 18 (.slice B6 ts.length m6) (by omega)) w.heap.size 19 (.slice B7 lg.length m7) (by omega))
  replace o5 : Mine ((w7.setCell ⟨w.heap.size, 18, none⟩ (.slice B6 ts.length m6)).setCell ⟨w.heap.size, 19, none⟩ (.slice B7 lg.length m7)) _ _ _ _ _ _ _ := (Mine.other (Mine.other o5 w.heap.size 18 (.slice B6 ts.length m6) (by omega)) w.heap.size 19 (.slice B7 lg.length m7) (by omega))
  replace o6 : Mine ((w7.setCell ⟨w.heap.size, 18, none⟩ (.slice B6 ts.length m6)).setCell ⟨w.heap.size, 19, none⟩ (.slice B7 lg.length m7)) _ _ _ _ _ _ _ := (Mine.other (Mine.other o6 w.heap.size 18 (.slice B6 ts.length m6) (by omega)) w.heap.size 19 (.slice B7 lg.length m7) (by omega))
  replace o7 : Mine ((w7.setCell ⟨w.heap.size, 18, none⟩ (.slice B6 ts.length m6)).setCell ⟨w.heap.size, 19, none⟩ (.slice B7 lg.length m7)) _ _ _ _ _ _ _ := (Mine.other (Mine.other o7 w.heap.size 18 (.slice B6 ts.length m6) (by omega)) w.heap.size 19 (.slice B7 lg.length m7) (by omega))
  generalize ((w7.setCell ⟨w.heap.size, 18, none⟩ (.slice B6 ts.length m6)).setCell ⟨w.heap.size, 19, none⟩ (.slice B7 lg.length m7)) = v3 at *
  clear hS
  have hS := hS2
  clear hS2
  have ho : Owns v3 (w.heap.size + 2) ⟨⟨q1, q2, q3, q4, q5, q6, q7⟩, ⟨h, t, m⟩, sl, se, rc, fe, fl, ee, el, now, ts, lg⟩ ⟨B1, B2, B3, B4, B5, B6, B7, m1, m2, m3, m4, m5, m6, m7⟩ := ⟨o1, o2, o3, o4, o5, o6, o7, fun g off t hg => by
    have h6 := e6 g off t hg
    refine ⟨fun b o u hh => ?_, fun b o u hh => ?_, fun b o u hh => ?_, fun b o u hh => ?_, fun b o u hh => ?_, fun b o u hh => ?_⟩
    · have := e1 b o u hh; omega
    · have := e2 b o u hh; omega
    · have := e3 b o u hh; omega
    · have := e4 b o u hh; omega
    · have := e5 b o u hh; omega
    · have := e7 b o u hh; omega, fun g off t hg => by
    have h7 := e7 g off t hg
    refine ⟨fun b o u hh => ?_, fun b o u hh => ?_, fun b o u hh => ?_, fun b o u hh => ?_, fun b o u hh => ?_, fun b o u hh => ?_⟩
    · have := e1 b o u hh; omega
    · have := e2 b o u hh; omega
    · have := e3 b o u hh; omega
    · have := e4 b o u hh; omega
    · have := e5 b o u hh; omega
    · have := e6 b o u hh; omega⟩
  clear o1 o2 o3 o4 o5 o6 o7 e1 e2 e3 e4 e5 e6 e7
  have hB := hS.below
  have k0 := hS.get (B := w.heap.size) (o := (.cells #[.int .i64 q1, .int .i64 q2, .int .i64 q3, .int .i64 q4, .int .i64 q5, .int .i64 q6, .bool q7, .int .i64 h, .int .i64 t, .int .i64 m, .slice B1 sl.length m1, .slice B2 se.length m2, .slice B3 rc.length m3, .int .i64 fe, .slice B4 fl.length m4, .int .i64 ee, .slice B5 el.length m5, .int .i64 now, .slice B6 ts.length m6, .slice B7 lg.length m7] 36)) (by simp)
  have k1 := hS.get (B := w.heap.size + 1) (o := (.cells #[.int .i64 0, .int .i64 0, .int .i64 0, .int .i64 0, .int .i64 0, .int .i64 0, .bool false, .int .i64 0, .int .i64 0, .int .i64 0, .slice none 0 0, .slice none 0 0, .slice none 0 0, .int .i64 0, .slice none 0 0, .int .i64 0, .slice none 0 0, .int .i64 0, .slice none 0 0, .slice none 0 0] 36)) (by simp)
  obtain ⟨v4, hst, k4, hB4, hoth⟩ := run_store_block (P := Tryz.prog) (base := w.heap.size) (cs := [.int .i64 q1, .int .i64 q2, .int .i64 q3, .int .i64 q4, .int .i64 q5, .int .i64 q6, .bool q7, .int .i64 h, .int .i64 t, .int .i64 m, .slice B1 sl.length m1, .slice B2 se.length m2, .slice B3 rc.length m3, .int .i64 fe, .slice B4 fl.length m4, .int .i64 ee, .slice B5 el.length m5, .int .i64 now, .slice B6 ts.length m6, .slice B7 lg.length m7]) k1 rfl (st_one ⟨⟨q1, q2, q3, q4, q5, q6, q7⟩, ⟨h, t, m⟩, sl, se, rc, fe, fl, ee, el, now, ts, lg⟩ ⟨B1, B2, B3, B4, B5, B6, B7, m1, m2, m3, m4, m5, m6, m7⟩) (by omega)
  clear hS
  go_wp2_with (first
    | ((with_reducible refine wpList_val (load36 k0 ?_ ?_) ?_); (focus rfl); (focus rfl))
    | ((with_reducible refine wpList_skip (store36 hst ?_ ?_ ?_) ?_); (focus rfl); (focus rfl); (focus rfl)))
  refine bodyPost_ret (results36 k4 rfl rfl rfl) rfl ⟨⟨B1, B2, B3, B4, B5, B6, B7, m1, m2, m3, m4, m5, m6, m7⟩, rfl, (ho.same (by omega) hoth).mono (by omega), hB.trans hB4⟩

end Go.Proofs.YtnbgpopjnpdmgaaGreat

namespace Go.Proofs.YtnbgpopjnpdmgaaGreat
open Go Go.RowKit Go.Shelf

/-- A line, where it lies, and what room it has. -/
structure Ln where
  l : List Int
  A : Option Addr
  c : Nat
def lnOk (N : Int) (x : Ln) : Bool := lineOk x.l && !(x.l.any (offN N))

set_option maxRecDepth 100000 in
set_option maxHeartbeats 4000000 in
theorem among_any (N : Int) (L : List Ln) (gb c : Nat) (w : World) (hn : L.length ≤ 4) (hgb : gb < w.heap.size) (hc : ∀ i (x : Ln), L[i]? = some x → w.cell? ⟨gb, i, none⟩ = some (.slice x.A x.l.length x.c) ∧ Lies w w.heap.size x.A (ints x.l) ∧ x.l.length ≤ 1000) :
    Calls Tryz.prog 45 #[.int .i64 N, .slice (some ⟨gb, 0, none⟩) L.length c] w fun e w' => e = .returned (.bool (L.all (lnOk N))) ∧ Below w.heap.size w w' := by
  have q := World.alloc_heap_new w (.cells #[.int .i64 N] 3)
  have HC := Lib.hid hc
  clear hc
  go_enter Tryz.func45, Tryz.ntmps45
  go_wp2
  go_loopw [11] (fun i wr => ∃ k : Nat, k ≤ L.length ∧ i = .int .i64 k ∧ (L.take k).all (lnOk N) = true ∧ wr.heap[w.heap.size]? = some (.cells #[.int .i64 N] 3 (0, 0)) ∧ Below w.heap.size w wr) (fun i _ => L.length - (intOf i).toNat)
  case atStart => exact ⟨0, Nat.zero_le _, rfl, by simp, q, below_one w _⟩
  case round =>
    obtain ⟨k, hk, rfl, hall, hq, hB⟩ := hrel
    clear q
    by_cases hlt : k < L.length
    · obtain ⟨x, hx⟩ : ∃ x, L[k]? = some x := ⟨_, List.getElem?_eq_getElem hlt⟩
      obtain ⟨hc1, hc2, hc3⟩ := HC.out k x hx
      have c1 := (hB.cell (p := ⟨gb, k, none⟩) hgb).trans hc1
      have C := lineCheck_any x.l x.A x.c wr (by omega) ((hc2.below hB).more hB.size)
      have hN := (cells1 hq).1
      have hNl := blk_lt hq
      have D := fun W (hW : Below wr.heap.size wr W) => conf_N N w.heap.size x.l x.A x.c W (by omega) (((hc2.below hB).more hB.size).on hW) ((hW.cell (p := ⟨w.heap.size, 0, none⟩) hNl).trans hN) (Nat.lt_of_lt_of_le hNl hW.size)
      have hs := take_snoc hx
      have hm : x ∈ L := List.mem_of_getElem? hx
      cases ho : lnOk N x with
      | true =>
        have hall2 : (L.take (k + 1)).all (lnOk N) = true := by rw [hs, List.all_append, hall]; simp [ho]
        simp only [lnOk, Bool.and_eq_true, Bool.not_eq_true'] at ho
        rw [ho.1] at C
        rw [ho.2] at D
        have HA := Lib.hid hall2
        obtain ⟨xl, xA, xc⟩ := x
        dsimp only at *
        clear hall hall2 hs hm ho hc1 hc2 hx
        go_wp2_with (first
          | (go_at_call 70; (with_reducible refine C.mono ?_); rintro e w1 ⟨rfl, hb1⟩)
          | (go_at_call 71; (with_reducible refine (D _ hb1).mono ?_); rintro e w2 ⟨rfl, hb2⟩))
        go_roundw
        case rel => exact ⟨k + 1, by omega, by go_num, HA.out, kept (kept hq hb1) hb2, (hB.trans (hb1.mono hB.size)).trans (hb2.mono (Nat.le_trans hB.size hb1.size))⟩
        case measure => simp [intOf]; omega
      | false =>
        have hfin : L.all (lnOk N) = false := by
          rw [Bool.eq_false_iff]
          intro h
          rw [List.all_eq_true.1 h x hm] at ho
          cases ho
        have HF := Lib.hid hfin
        unfold lnOk at ho
        obtain ⟨xl, xA, xc⟩ := x
        dsimp only at *
        generalize lineOk xl = y1 at *
        generalize xl.any (offN N) = y2 at *
        clear hall hfin hs hm hc1 hc2 hx
        go_wp2_with (first
          | (go_at_call 70; (with_reducible refine C.mono ?_); rintro e w1 ⟨rfl, hb1⟩)
          | (go_at_call 71; (with_reducible refine (D _ hb1).mono ?_); rintro e w2 ⟨rfl, hb2⟩))
        all_goals first
          | (exfalso; simp_all; done)
          | (go_ret; exact ⟨by rw [HF.out]; rfl, hB.trans (hb1.mono hB.size)⟩)
          | (go_ret; exact ⟨by rw [HF.out]; rfl, (hB.trans (hb1.mono hB.size)).trans (hb2.mono (Nat.le_trans hB.size hb1.size))⟩)
    · obtain rfl : k = L.length := by omega
      rw [List.take_length] at hall
      have HA := Lib.hid hall
      clear hall
      go_wp2
      go_ret
      exact ⟨by rw [HA.out]; rfl, hB⟩

end Go.Proofs.YtnbgpopjnpdmgaaGreat
