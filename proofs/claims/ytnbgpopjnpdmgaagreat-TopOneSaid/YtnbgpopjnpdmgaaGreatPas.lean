/-
  DERIVED. FabCheck, Rec, With, Inv.
-/
import Derived.Test.YtnbgpopjnpdmgaaGreatPar
import Derived.Test.YtnbgpopjnpdmgaaGreatPaf
import Derived.Test.YtnbgpopjnpdmgaaGreatPab
set_option linter.unusedVariables false
set_option linter.unusedSimpArgs false

namespace Go.Proofs.YtnbgpopjnpdmgaaGreat
open Go Go.RowKit Go.Shelf

theorem ths_len (l : List Th) : (Go.Proofs.YtnbgpopjnpdmgaaGreat.ths l).length = l.length * 11 := flat_len (k := 11) (fun _ => rfl) l
def badT (t : Th) : Bool := !t.ok

set_option maxRecDepth 100000 in
set_option maxHeartbeats 2000000 in
theorem badT_any (t : Th) (w : World) :
    Calls Tryz.prog 41 #[t.value] w fun e w' => e = .returned (.bool (badT t)) ∧ Below w.heap.size w w' := by
  have C := fun W => th_check t W
  unfold badT
  generalize t.ok = r at *
  obtain ⟨s, k, v, u, p, r2, n, i, l, q, g⟩ := t
  go_enter Tryz.func41, Tryz.ntmps41
  go_wp2_with (first
      | (go_at_call 42; (with_reducible refine (C _).mono ?_); rintro e w1 ⟨rfl, hb⟩))
  go_ret
  exact ⟨rfl, (below_one w _).trans (hb.mono (by simp))⟩

set_option maxRecDepth 100000 in
set_option maxHeartbeats 2000000 in
theorem idxf_T (l : List Th) (A : Option Addr) (c : Nat) (w : World) (hl : l.length ≤ 1000000) (hA : Lies w w.heap.size A (Go.Proofs.YtnbgpopjnpdmgaaGreat.ths l)) :
    Calls Tryz.prog 72 #[.slice A l.length c, .func (.func 41) #[] #[]] w fun e w' => ∃ i : Int, e = .returned (.int .i64 i) ∧ decide (0 ≤ i) = l.any badT ∧ Below w.heap.size w w' := by
  go_enter Tryz.func72, Tryz.ntmps72
  go_wp2
  go_loopw [8] (fun i wr => ∃ k : Nat, k ≤ l.length ∧ i = .int .i64 k ∧ (l.take k).any badT = false ∧ Below w.heap.size w wr) (fun i _ => l.length - (intOf i).toNat)
  case atStart => exact ⟨0, Nat.zero_le _, rfl, by simp, Below.refl _ _⟩
  case round =>
    obtain ⟨k, hk, rfl, hno, hB⟩ := hrel
    have HN := Lib.hid hno
    clear hno
    by_cases hlt : k < l.length
    · obtain ⟨y, hy⟩ : ∃ y, l[k]? = some y := ⟨_, List.getElem?_eq_getElem hlt⟩
      obtain ⟨b, off, rfl, hb, hc⟩ := (hA.below hB).open_ (by rw [flat_len (k := 11) (fun _ => rfl)]; omega)
      have hat := fun j v (hj : (Th.list y)[j]? = some v) => hc _ _ (flat_at (f := Th.list) (k := 11) (fun _ => rfl) hy hj)
      obtain ⟨ys, yk, yv, yu, yp, yr, yn, yt, yl, yq, yg⟩ := y
      have d0 : wr.cell? ⟨b, off + k * 11, none⟩ = _ := hat 0 _ rfl
      have d1 : wr.cell? ⟨b, off + k * 11 + 1, none⟩ = _ := hat 1 _ rfl
      have d2 : wr.cell? ⟨b, off + k * 11 + 2, none⟩ = _ := hat 2 _ rfl
      have d3 : wr.cell? ⟨b, off + k * 11 + 3, none⟩ = _ := hat 3 _ rfl
      have d4 : wr.cell? ⟨b, off + k * 11 + 4, none⟩ = _ := hat 4 _ rfl
      have d5 : wr.cell? ⟨b, off + k * 11 + 5, none⟩ = _ := hat 5 _ rfl
      have d6 : wr.cell? ⟨b, off + k * 11 + 6, none⟩ = _ := hat 6 _ rfl
      have d7 : wr.cell? ⟨b, off + k * 11 + 7, none⟩ = _ := hat 7 _ rfl
      have d8 : wr.cell? ⟨b, off + k * 11 + 8, none⟩ = _ := hat 8 _ rfl
      have d9 : wr.cell? ⟨b, off + k * 11 + 9, none⟩ = _ := hat 9 _ rfl
      have d10 : wr.cell? ⟨b, off + k * 11 + 10, none⟩ = _ := hat 10 _ rfl
      clear hat
      have HY := Lib.hid hy
      clear hc hy hA
      have C := fun W (hW : Below w.heap.size w W) => badT_any ⟨ys, yk, yv, yu, yp, yr, yn, yt, yl, yq, yg⟩ W
      have hB0 := Lib.hid hB
      cases hq : badT ⟨ys, yk, yv, yu, yp, yr, yn, yt, yl, yq, yg⟩ with
      | true =>
        rw [hq] at C
        have e : l.any badT = true := List.any_eq_true.2 ⟨_, List.mem_of_getElem? HY.out, hq⟩
        clear hq
        go_wp2_with (refine (C _ hB0.out).mono ?_; rintro e w1 ⟨rfl, hb1⟩)
        go_ret
        exact ⟨k, rfl, by rw [e]; simp, hB0.out.trans (hb1.mono hB0.out.size)⟩
      | false =>
        rw [hq] at C
        have hall : (l.take (k + 1)).any badT = false := by rw [take_snoc HY.out, List.any_append, HN.out]; simp [hq]
        have HA := Lib.hid hall
        clear hq hall
        go_wp2_with (refine (C _ hB0.out).mono ?_; rintro e w1 ⟨rfl, hb1⟩)
        go_roundw
        case rel => exact ⟨k + 1, by omega, by go_num, HA.out, hB0.out.trans (hb1.mono hB0.out.size)⟩
        case measure => simp [intOf]; omega
    · obtain rfl : k = l.length := by omega
      have e : l.any badT = false := by have := HN.out; rwa [List.take_length] at this
      have HE := Lib.hid e
      clear e
      go_wp2
      go_ret
      exact ⟨-1, rfl, by rw [HE.out]; rfl, hB⟩

set_option maxRecDepth 100000 in
set_option maxHeartbeats 2000000 in
theorem conf_T (l : List Th) (A : Option Addr) (c : Nat) (w : World) (hl : l.length ≤ 1000000) (hA : Lies w w.heap.size A (Go.Proofs.YtnbgpopjnpdmgaaGreat.ths l)) :
    Calls Tryz.prog 47 #[.slice A l.length c, .func (.func 41) #[] #[]] w fun e w' => e = .returned (.bool (l.any badT)) ∧ Below w.heap.size w w' := by
  have C := idxf_T l A c w hl hA
  generalize l.any badT = r at *
  go_enter Tryz.func47, Tryz.ntmps47
  go_wp2_with (refine C.mono ?_; rintro e w' ⟨i, rfl, hi, hB⟩; subst hi)
  go_ret
  exact ⟨by simp, hB⟩

def St.ok (S : St) : Bool := !(S.cfg.room == 0) && (S.word.may S.cfg.room && (!((S.slots.length : Int) != S.cfg.room) && (slotsOk S.slots &&
  ((lnOk S.cfg.th ⟨S.sends, none, 0⟩ && (lnOk S.cfg.th ⟨S.recvs, none, 0⟩ && (lnOk S.cfg.th ⟨S.fl, none, 0⟩ && lnOk S.cfg.th ⟨S.el, none, 0⟩))) && (evOk S.fe S.fl && (evOk S.ee S.el &&
  (decide (0 ≤ S.now) && (decide (S.now ≤ 1099511627776) && (!((S.ths.length : Int) != S.cfg.th) && !(S.ths.any badT))))))))))

set_option maxRecDepth 100000 in
set_option maxHeartbeats 8000000 in
theorem check_state (S : St) (L : Lay) (w : World) (hsm : S.small) (hH : Holds w S L) :
    Calls Tryz.prog 22 #[S.val L] w fun e w' => e = .returned (.bool S.ok) ∧ Below w.heap.size w w' := by
  obtain ⟨s1, s2, s3, s4, s5, s6, s7⟩ := hsm
  have K1 := fun W => room_any S.cfg W
  have K2 := fun W => pos_check S.word S.cfg.room W
  have K3 := fun W (hW : Below w.heap.size w W) => slotCheck_any S.slots L.a1 L.c1 W (by omega) (hH.h1.on hW)
  have K4 : ∀ W, Below w.heap.size w W → Calls Tryz.prog 45 #[.int .i64 S.cfg.th, .slice (some ⟨W.heap.size, 0, none⟩) 4 4] (W.alloc (.cells #[.slice L.a2 S.sends.length L.c2, .slice L.a3 S.recvs.length L.c3, .slice L.a4 S.fl.length L.c4, .slice L.a5 S.el.length L.c5] 30)) fun e w' => e = .returned (.bool (lnOk S.cfg.th ⟨S.sends, none, 0⟩ && (lnOk S.cfg.th ⟨S.recvs, none, 0⟩ && (lnOk S.cfg.th ⟨S.fl, none, 0⟩ && lnOk S.cfg.th ⟨S.el, none, 0⟩)))) ∧ Below W.heap.size W w' := by
    intro W hW
    have hk := World.alloc_heap_new W (.cells #[.slice L.a2 S.sends.length L.c2, .slice L.a3 S.recvs.length L.c3, .slice L.a4 S.fl.length L.c4, .slice L.a5 S.el.length L.c5] 30)
    have hb1 := below_one W (.cells #[.slice L.a2 S.sends.length L.c2, .slice L.a3 S.recvs.length L.c3, .slice L.a4 S.fl.length L.c4, .slice L.a5 S.el.length L.c5] 30)
    have h := among_any S.cfg.th [⟨S.sends, L.a2, L.c2⟩, ⟨S.recvs, L.a3, L.c3⟩, ⟨S.fl, L.a4, L.c4⟩, ⟨S.el, L.a5, L.c5⟩] W.heap.size 4 _ (by simp) (blk_lt hk) (fun i x hx => by
      match i, hx with
      | 0, hx => obtain rfl := Option.some.inj hx; exact ⟨(of_block hk 0).1, (hH.h2.on hW).on hb1, s2⟩
      | 1, hx => obtain rfl := Option.some.inj hx; exact ⟨(of_block hk 1).1, (hH.h3.on hW).on hb1, s3⟩
      | 2, hx => obtain rfl := Option.some.inj hx; exact ⟨(of_block hk 2).1, (hH.h4.on hW).on hb1, s4⟩
      | 3, hx => obtain rfl := Option.some.inj hx; exact ⟨(of_block hk 3).1, (hH.h5.on hW).on hb1, s5⟩
      | n + 4, hx => simp at hx)
    refine h.mono ?_
    rintro e w' ⟨rfl, hb⟩
    exact ⟨by simp [lnOk], hb1.trans (hb.mono (by simp))⟩
  have K5 := fun W (hW : Below w.heap.size w W) => evCheck_any S.fe S.fl L.a4 L.c4 W (by omega) (hH.h4.on hW)
  have K6 := fun W (hW : Below w.heap.size w W) => evCheck_any S.ee S.el L.a5 L.c5 W (by omega) (hH.h5.on hW)
  have K7 := fun W (hW : Below w.heap.size w W) => conf_T S.ths L.a6 L.c6 W (by omega) (hH.h6.on hW)
  obtain ⟨ok, hok⟩ : ∃ ok, ok = S.ok := ⟨_, rfl⟩
  rw [← hok]
  unfold St.ok at hok
  clear hH s1 s2 s3 s4 s5 s6 s7
  generalize S.cfg.room = room at *
  generalize S.word.may room = x1 at *
  generalize slotsOk S.slots = x2 at *
  generalize (lnOk S.cfg.th ⟨S.sends, none, 0⟩ && (lnOk S.cfg.th ⟨S.recvs, none, 0⟩ && (lnOk S.cfg.th ⟨S.fl, none, 0⟩ && lnOk S.cfg.th ⟨S.el, none, 0⟩))) = x3 at *
  generalize evOk S.fe S.fl = x4 at *
  generalize evOk S.ee S.el = x5 at *
  generalize S.ths.any badT = x6 at *
  obtain ⟨⟨q1, q2, q3, q4, q5, q6, q7⟩, ⟨h, t, m⟩, sl, se, rc, fe, fl, ee, el, now, ts, lg⟩ := S
  obtain ⟨A1, A2, A3, A4, A5, A6, A7, n1, n2, n3, n4, n5, n6, n7⟩ := L
  dsimp only at *
  have HOK := Lib.hid hok
  clear hok
  have hS := (Blk.nil w).add (.cells #[.int .i64 q1, .int .i64 q2, .int .i64 q3, .int .i64 q4, .int .i64 q5, .int .i64 q6, .bool q7, .int .i64 h, .int .i64 t, .int .i64 m, .slice A1 sl.length n1, .slice A2 se.length n2, .slice A3 rc.length n3, .int .i64 fe, .slice A4 fl.length n4, .int .i64 ee, .slice A5 el.length n5, .int .i64 now, .slice A6 ts.length n6, .slice A7 lg.length n7] 36)
  obtain ⟨a0, a1, a2, a3, a4, a5, a6, a7, a8, a9, a10, a11, a12, a13, a14, a15, a16, a17, a18, a19⟩ := cells20 (hS.get (B := w.heap.size) (o := (.cells #[.int .i64 q1, .int .i64 q2, .int .i64 q3, .int .i64 q4, .int .i64 q5, .int .i64 q6, .bool q7, .int .i64 h, .int .i64 t, .int .i64 m, .slice A1 sl.length n1, .slice A2 se.length n2, .slice A3 rc.length n3, .int .i64 fe, .slice A4 fl.length n4, .int .i64 ee, .slice A5 el.length n5, .int .i64 now, .slice A6 ts.length n6, .slice A7 lg.length n7] 36)) (by simp))
  go_enter Tryz.func22, Tryz.ntmps22
  go_wp2_with (first
      | (go_at_call 16; (with_reducible refine (K1 _).mono ?_); rintro e v1 ⟨rfl, hb⟩; replace hS := hS.on hb; clear hb; clear a0 a1 a2 a3 a4 a5 a6 a7 a8 a9 a10 a11 a12 a13 a14 a15 a16 a17 a18 a19; obtain ⟨a0, a1, a2, a3, a4, a5, a6, a7, a8, a9, a10, a11, a12, a13, a14, a15, a16, a17, a18, a19⟩ := cells20 (hS.get (B := w.heap.size) (o := (.cells #[.int .i64 q1, .int .i64 q2, .int .i64 q3, .int .i64 q4, .int .i64 q5, .int .i64 q6, .bool q7, .int .i64 h, .int .i64 t, .int .i64 m, .slice A1 sl.length n1, .slice A2 se.length n2, .slice A3 rc.length n3, .int .i64 fe, .slice A4 fl.length n4, .int .i64 ee, .slice A5 el.length n5, .int .i64 now, .slice A6 ts.length n6, .slice A7 lg.length n7] 36)) (by simp)))
      | (go_at_call 43; (with_reducible refine (K2 _).mono ?_); rintro e v2 ⟨rfl, hb⟩; replace hS := hS.on hb; clear hb; clear a0 a1 a2 a3 a4 a5 a6 a7 a8 a9 a10 a11 a12 a13 a14 a15 a16 a17 a18 a19; obtain ⟨a0, a1, a2, a3, a4, a5, a6, a7, a8, a9, a10, a11, a12, a13, a14, a15, a16, a17, a18, a19⟩ := cells20 (hS.get (B := w.heap.size) (o := (.cells #[.int .i64 q1, .int .i64 q2, .int .i64 q3, .int .i64 q4, .int .i64 q5, .int .i64 q6, .bool q7, .int .i64 h, .int .i64 t, .int .i64 m, .slice A1 sl.length n1, .slice A2 se.length n2, .slice A3 rc.length n3, .int .i64 fe, .slice A4 fl.length n4, .int .i64 ee, .slice A5 el.length n5, .int .i64 now, .slice A6 ts.length n6, .slice A7 lg.length n7] 36)) (by simp)))
      | (go_at_call 44; (with_reducible refine (K3 _ hS.below).mono ?_); rintro e v3 ⟨rfl, hb⟩; replace hS := hS.on hb; clear hb; clear a0 a1 a2 a3 a4 a5 a6 a7 a8 a9 a10 a11 a12 a13 a14 a15 a16 a17 a18 a19; obtain ⟨a0, a1, a2, a3, a4, a5, a6, a7, a8, a9, a10, a11, a12, a13, a14, a15, a16, a17, a18, a19⟩ := cells20 (hS.get (B := w.heap.size) (o := (.cells #[.int .i64 q1, .int .i64 q2, .int .i64 q3, .int .i64 q4, .int .i64 q5, .int .i64 q6, .bool q7, .int .i64 h, .int .i64 t, .int .i64 m, .slice A1 sl.length n1, .slice A2 se.length n2, .slice A3 rc.length n3, .int .i64 fe, .slice A4 fl.length n4, .int .i64 ee, .slice A5 el.length n5, .int .i64 now, .slice A6 ts.length n6, .slice A7 lg.length n7] 36)) (by simp)))
      | (go_at_call 45; (with_reducible refine (K4 _ hS.below).mono ?_); rintro e v4 ⟨rfl, hb⟩; replace hS := hS.on hb; clear hb; clear a0 a1 a2 a3 a4 a5 a6 a7 a8 a9 a10 a11 a12 a13 a14 a15 a16 a17 a18 a19; obtain ⟨a0, a1, a2, a3, a4, a5, a6, a7, a8, a9, a10, a11, a12, a13, a14, a15, a16, a17, a18, a19⟩ := cells20 (hS.get (B := w.heap.size) (o := (.cells #[.int .i64 q1, .int .i64 q2, .int .i64 q3, .int .i64 q4, .int .i64 q5, .int .i64 q6, .bool q7, .int .i64 h, .int .i64 t, .int .i64 m, .slice A1 sl.length n1, .slice A2 se.length n2, .slice A3 rc.length n3, .int .i64 fe, .slice A4 fl.length n4, .int .i64 ee, .slice A5 el.length n5, .int .i64 now, .slice A6 ts.length n6, .slice A7 lg.length n7] 36)) (by simp)))
      | (go_at_call 46; (with_reducible refine (K5 _ hS.below).mono ?_); rintro e v5 ⟨rfl, hb⟩; replace hS := hS.on hb; clear hb; clear a0 a1 a2 a3 a4 a5 a6 a7 a8 a9 a10 a11 a12 a13 a14 a15 a16 a17 a18 a19; obtain ⟨a0, a1, a2, a3, a4, a5, a6, a7, a8, a9, a10, a11, a12, a13, a14, a15, a16, a17, a18, a19⟩ := cells20 (hS.get (B := w.heap.size) (o := (.cells #[.int .i64 q1, .int .i64 q2, .int .i64 q3, .int .i64 q4, .int .i64 q5, .int .i64 q6, .bool q7, .int .i64 h, .int .i64 t, .int .i64 m, .slice A1 sl.length n1, .slice A2 se.length n2, .slice A3 rc.length n3, .int .i64 fe, .slice A4 fl.length n4, .int .i64 ee, .slice A5 el.length n5, .int .i64 now, .slice A6 ts.length n6, .slice A7 lg.length n7] 36)) (by simp)))
      | (go_at_call 46; (with_reducible refine (K6 _ hS.below).mono ?_); rintro e v6 ⟨rfl, hb⟩; replace hS := hS.on hb; clear hb; clear a0 a1 a2 a3 a4 a5 a6 a7 a8 a9 a10 a11 a12 a13 a14 a15 a16 a17 a18 a19; obtain ⟨a0, a1, a2, a3, a4, a5, a6, a7, a8, a9, a10, a11, a12, a13, a14, a15, a16, a17, a18, a19⟩ := cells20 (hS.get (B := w.heap.size) (o := (.cells #[.int .i64 q1, .int .i64 q2, .int .i64 q3, .int .i64 q4, .int .i64 q5, .int .i64 q6, .bool q7, .int .i64 h, .int .i64 t, .int .i64 m, .slice A1 sl.length n1, .slice A2 se.length n2, .slice A3 rc.length n3, .int .i64 fe, .slice A4 fl.length n4, .int .i64 ee, .slice A5 el.length n5, .int .i64 now, .slice A6 ts.length n6, .slice A7 lg.length n7] 36)) (by simp)))
      | (go_at_call 47; (with_reducible refine (K7 _ hS.below).mono ?_); rintro e v7 ⟨rfl, hb⟩; replace hS := hS.on hb; clear hb; clear a0 a1 a2 a3 a4 a5 a6 a7 a8 a9 a10 a11 a12 a13 a14 a15 a16 a17 a18 a19; obtain ⟨a0, a1, a2, a3, a4, a5, a6, a7, a8, a9, a10, a11, a12, a13, a14, a15, a16, a17, a18, a19⟩ := cells20 (hS.get (B := w.heap.size) (o := (.cells #[.int .i64 q1, .int .i64 q2, .int .i64 q3, .int .i64 q4, .int .i64 q5, .int .i64 q6, .bool q7, .int .i64 h, .int .i64 t, .int .i64 m, .slice A1 sl.length n1, .slice A2 se.length n2, .slice A3 rc.length n3, .int .i64 fe, .slice A4 fl.length n4, .int .i64 ee, .slice A5 el.length n5, .int .i64 now, .slice A6 ts.length n6, .slice A7 lg.length n7] 36)) (by simp))))
  all_goals
    go_ret
    refine ⟨?_, hS.below⟩
    rw [HOK.out]
    first
    | (simp_all; done)
    | (simp_all; omega)

end Go.Proofs.YtnbgpopjnpdmgaaGreat

namespace Go.Proofs.YtnbgpopjnpdmgaaGreat
open Go Go.RowKit Go.Shelf

theorem loadT {P : Program} {T : TypeId} {k : Nat} (h1 : ∀ w, (isAgg T).run P w = .ok true w) (h2 : ∀ w, (sizeOf T).run P w = .ok k w) {W : World} {B s : Nat} {cs : List Value} (hc : ∀ j v, cs[j]? = some v → W.cell? ⟨B, s + j, none⟩ = some v) (hk : cs.length = k)
    {a : Act} {x : Operand} {dst : Option Tmp} {ty : TypeId} {ps : String} {af : Array Edge} {gd : Option (Nat × Bool)} (hx : a.eval x = .pointer (some ⟨B, s, none⟩)) :
    (execOp a.eval (Oper.mk dst (.load T x) ty ps af gd)).run P W = .ok (.value (.agg cs.toArray)) W := by
  have hl : Sem.run P (loadCellsFrom ⟨B, s, none⟩ 0 k #[]) W = .ok cs.toArray W := by
    subst hk
    exact run_loadCells_list (P := P) W ⟨B, s, none⟩ cs (fun j v hj => by rw [Addr.add_lit]; exact hc j v hj)
  simp [execOp, hx, Instr.loadAt, Instr.sureAddr, loadVar, loadCells, h1, h2, hl]
theorem storeT {P : Program} {T : TypeId} {k : Nat} (h2 : ∀ w, (sizeOf T).run P w = .ok k w) {W V : World} {B s : Nat} {cs : List Value} (hst : Sem.run P (storeCells ⟨B, s, none⟩ cs 0) W = .ok () V) (hk : cs.length = k)
    {a : Act} {x y : Operand} {ty : TypeId} {ps : String} {af : Array Edge} {gd : Option (Nat × Bool)} (hx : a.eval x = .pointer (some ⟨B, s, none⟩)) (hy : a.eval y = .agg cs.toArray) :
    (execOp a.eval (Oper.mk none (.store T x y) ty ps af gd)).run P W = .ok .skip V := by
  simp [execOp, hx, hy, Instr.storeAt, Instr.sureAddr, storeVar, h2, Value.cells, hk, hst]

theorem take_splice {α : Type} (C vs : List α) (s N : Nat) (h1 : s + vs.length ≤ N) (h2 : N ≤ C.length) : (C.take s ++ vs ++ C.drop (s + vs.length)).take N = (C.take N).take s ++ vs ++ (C.take N).drop (s + vs.length) := by
  obtain ⟨X, Y, rfl, hX⟩ : ∃ X Y, C = X ++ Y ∧ X.length = N := ⟨C.take N, C.drop N, (List.take_append_drop N C).symm, by simp; omega⟩
  subst hX
  have e : (X ++ Y).take X.length = X := List.take_left' rfl
  have e1 : (X ++ Y).take s = X.take s := List.take_append_of_le_length (by omega)
  have e2 : (X ++ Y).drop (s + vs.length) = X.drop (s + vs.length) ++ Y := List.drop_append_of_le_length h1
  rw [e, e1, e2, ← List.append_assoc]
  exact List.take_left' (by simp; omega)
/-- One record of a row is written. -/
theorem run_store_part {P : Program} {W : World} {base : Nat} {e : TypeId} {k g c n : Nat} {xs : List Value} (hm : Mine W base e k (some ⟨g, 0, none⟩) c n xs) (s : Nat) (vs : List Value) (hs : s + vs.length ≤ xs.length) (h1 : ∀ v ∈ vs, v.oneCell' = true) :
    ∃ V, Sem.run P (storeCells ⟨g, s, none⟩ vs 0) W = .ok () V ∧ Mine V base e k (some ⟨g, 0, none⟩) c n (xs.take s ++ vs ++ xs.drop (s + vs.length)) ∧ W.grownBy V (some g) ∧ Below base W V := by
  rcases hm.2 with ⟨e1, _⟩ | ⟨g', cap, cur, e1, hb, hg, hnc, hmx, hcs, ht⟩
  · cases e1
  · injection e1 with a1 a2 a3
    injection a1 with a1
    injection a1 with a1
    subst a1
    subst a3
    have hlen : xs.length ≤ cur.size := by rw [← ht]; simp; omega
    have hst := run_storeCells_at P g s e vs 0 cur W hg (by omega) h1
    have hoth : ∀ j, j ≠ g → (W.setRow g (cur.toList.take (s + 0) ++ vs ++ cur.toList.drop (s + 0 + vs.length)).toArray).heap[j]? = W.heap[j]? := fun j hj => setRow_other W g j _ hj
    refine ⟨_, hst, ⟨?_, .inr ⟨g, c, _, rfl, hb, setRow_heap W g cur _ e (0, 0) hg, hnc, hmx, ?_, ?_⟩⟩, ⟨rfl, rfl, rfl, by simp [World.setRow], fun j _ hj => hoth j (by simpa using hj)⟩, ⟨rfl, rfl, rfl, by simp [World.setRow], fun j hj => hoth j (by omega)⟩⟩
    · have := hm.1; simp; omega
    · simp; omega
    · rw [Nat.add_zero, ← ht]
      have hl : xs.length = n * k := hm.1
      exact take_splice cur.toList vs s (n * k) (by omega) (by rw [← hl]; simpa using hlen)
theorem ths_set (l : List Th) {k : Nat} (hk : k < l.length) (t : Th) : (Go.Proofs.YtnbgpopjnpdmgaaGreat.ths l).take (k * 11) ++ t.list ++ (Go.Proofs.YtnbgpopjnpdmgaaGreat.ths l).drop (k * 11 + t.list.length) = Go.Proofs.YtnbgpopjnpdmgaaGreat.ths (l.set k t) := by
  induction l generalizing k with
  | nil => simp at hk
  | cons a l ih =>
    cases k with
    | zero => simp [Go.Proofs.YtnbgpopjnpdmgaaGreat.ths]
    | succ k =>
      have := ih (k := k) (by simpa using hk)
      simp only [Go.Proofs.YtnbgpopjnpdmgaaGreat.ths, List.flatMap_cons, List.set_cons_succ] at this ⊢
      rw [← this]
      have ha : a.list.length = 11 := rfl
      have ht : t.list.length = 11 := rfl
      rw [List.take_append, List.drop_append, ha, ht, show (k + 1) * 11 - 11 = k * 11 by omega, show (k + 1) * 11 + 11 - 11 = k * 11 + 11 by omega, List.take_of_length_le (by rw [ha]; omega), List.drop_of_length_le (by rw [ha]; omega)]
      simp [ha]
/-- One thread of a state is changed. -/
def St.setTh (S : St) (k : Nat) (t : Th) : St := { S with ths := S.ths.set k t }
theorem Owns.setTh {w w' : World} {base : Nat} {S : St} {L : Lay} (h : Owns w base S L) {gb k : Nat} {t : Th} (hg : w.grownBy w' (some gb)) (hL : L.a6 = some ⟨gb, 0, none⟩) (hm : Mine w' base 51 11 L.a6 L.c6 S.ths.length (Go.Proofs.YtnbgpopjnpdmgaaGreat.ths (S.ths.set k t))) : Owns w' base (S.setTh k t) L := by
  obtain ⟨p1, p2, p3, p4, p5, p7⟩ := h.sep gb 0 none hL
  exact ⟨h.m1.by hg p1, h.m2.by hg p2, h.m3.by hg p3, h.m4.by hg p4, h.m5.by hg p5, by simpa [St.setTh] using hm, h.m7.by hg p7, h.sep, h.sep7⟩
theorem one_list (t : Th) : ∀ v ∈ t.list, v.oneCell' = true := by
  intro v h
  simp at h
  rcases h with rfl | rfl | rfl | rfl | rfl | rfl | rfl | rfl | rfl | rfl | rfl <;> rfl
/-- A thread's cells within its row. -/
theorem th_cells {W : World} {base c n g : Nat} {l : List Th} (hm : Mine W base 51 11 (some ⟨g, 0, none⟩) c n (Go.Proofs.YtnbgpopjnpdmgaaGreat.ths l)) {k : Nat} {t : Th} (hk : l[k]? = some t) : ∀ j v, t.list[j]? = some v → W.cell? ⟨g, k * 11 + j, none⟩ = some v :=
  fun j v hj => (hm.cellAt (flat_at (f := Th.list) (k := 11) (fun _ => rfl) hk hj)).1
/-- A thread of a row is written whole. -/
theorem store_th {W : World} {base c n g : Nat} {l : List Th} (hm : Mine W base 51 11 (some ⟨g, 0, none⟩) c n (Go.Proofs.YtnbgpopjnpdmgaaGreat.ths l)) {k : Nat} (hk : k < l.length) (t : Th) :
    ∃ V, Sem.run Tryz.prog (storeCells ⟨g, k * 11, none⟩ t.list 0) W = .ok () V ∧ Mine V base 51 11 (some ⟨g, 0, none⟩) c n (Go.Proofs.YtnbgpopjnpdmgaaGreat.ths (l.set k t)) ∧ W.grownBy V (some g) ∧ Below base W V := by
  have ht : t.list.length = 11 := rfl
  obtain ⟨V, h1, h2, h3, h4⟩ := run_store_part (P := Tryz.prog) hm (k * 11) t.list (by rw [ths_len, ht]; omega) (one_list t)
  exact ⟨V, h1, by rw [← ths_set l hk t]; exact h2, h3, h4⟩

end Go.Proofs.YtnbgpopjnpdmgaaGreat

namespace Go.Proofs.YtnbgpopjnpdmgaaGreat
open Go Go.RowKit Go.Shelf

theorem Mine.some_ {w : World} {base : Nat} {e : TypeId} {k : Nat} {A : Option Addr} {c n : Nat} {xs : List Value} (h : Mine w base e k A c n xs) (hn : 0 < n) : ∃ g, A = some ⟨g, 0, none⟩ ∧ base ≤ g ∧ g < w.heap.size := by
  rcases h.2 with ⟨_, e2⟩ | ⟨g, cap, cur, e1, hb, hg, _⟩
  · omega
  · exact ⟨g, by injection e1, hb, (Array.getElem?_eq_some_iff.1 hg).1⟩
theorem setTh_cells (S : St) (k : Nat) (t : Th) (L : Lay) : (S.setTh k t).cells L = S.cells L := by simp [St.setTh, St.cells]

set_option maxRecDepth 100000 in
set_option maxHeartbeats 2000000 in
theorem wake1_any (t : Th) (g k base c n : Nat) (l : List Th) (w : World) (hm : Mine w base 51 11 (some ⟨g, 0, none⟩) c n (Go.Proofs.YtnbgpopjnpdmgaaGreat.ths l)) (hk : l[k]? = some t) :
    Calls Tryz.prog 37 #[.pointer (some ⟨g, k * 11, none⟩)] w fun e w' => e = .returned (.tuple #[]) ∧ Mine w' base 51 11 (some ⟨g, 0, none⟩) c n (Go.Proofs.YtnbgpopjnpdmgaaGreat.ths (l.set k t.wake)) ∧ w.grownBy w' (some g) ∧ Below base w w' := by
  have hkl := (List.getElem?_eq_some_iff.1 hk).1
  have hcs := th_cells hm hk
  have C := fun W => th_wake t W
  have hle := (hm.base g 0 none rfl)
  go_enter Tryz.func37, Tryz.ntmps37
  go_wp2_with (first
    | ((with_reducible refine wpList_val (loadT Tryz.isAgg51 Tryz.sizeOf51 (cs := t.list) hcs rfl ?_) ?_); (focus rfl))
    | (go_at_call 38; (with_reducible refine (C _).mono ?_); rintro e w1 ⟨rfl, hb⟩; obtain ⟨V, hst, hm2, hg2, hB2⟩ := store_th (hm.kept hb) hkl t.wake)
    | ((with_reducible refine wpList_skip (storeT Tryz.sizeOf51 hst ?_ ?_ ?_) ?_); (focus rfl); (focus rfl); (focus rfl)))
  go_returns
  exact ⟨rfl, hm2, ⟨hg2.os.trans hb.os, hg2.tape.trans hb.tape, hg2.output.trans hb.output, Nat.le_trans hb.size hg2.size, fun j hj hne => (hg2.block j (Nat.lt_of_lt_of_le hj hb.size) hne).trans (hb.block j hj)⟩, (hb.mono (Nat.le_of_lt (Nat.lt_of_le_of_lt hle.1 hle.2))).trans hB2⟩

set_option maxRecDepth 100000 in
set_option maxHeartbeats 8000000 in
theorem with_no (S : St) (L : Lay) (id : Int) (fv : Value) (w : World) (hsm : S.small) (hH : Holds w S L) (h : S.ok = false ∨ ¬ (0 ≤ id ∧ id < S.ths.length)) :
    Calls Tryz.prog 25 #[S.val L, .int .i64 id, fv] w fun e w' => ∃ L', e = .returned ((S).val L') ∧ Owns w' w.heap.size (S) L' ∧ Below w.heap.size w w' := by
  have O := fun W (hW : Below w.heap.size w W) => own_any S L W hsm (hH.on hW)
  have C := fun W (hW : Below w.heap.size w W) => check_state S L W hsm (hH.on hW)
  have hl6 := hsm.2.2.2.2.2.1
  obtain ⟨k0, k1, hB0⟩ := two_new w (.cells (S.cells L) 36) (.cells #[.int .i64 0, .int .i64 0, .int .i64 0, .int .i64 0, .int .i64 0, .int .i64 0, .bool false, .int .i64 0, .int .i64 0, .int .i64 0, .slice none 0 0, .slice none 0 0, .slice none 0 0, .int .i64 0, .slice none 0 0, .int .i64 0, .slice none 0 0, .int .i64 0, .slice none 0 0, .slice none 0 0] 36)
  have hcase : S.ok = false ∨ (S.ok = true ∧ id < 0) ∨ (S.ok = true ∧ 0 ≤ id ∧ ¬ id < S.ths.length) := by
    cases ho : S.ok with
    | false => exact .inl rfl
    | true =>
      rcases h with h | h
      · rw [ho] at h; cases h
      · by_cases h0 : id < 0
        · exact .inr (.inl ⟨rfl, h0⟩)
        · exact .inr (.inr ⟨rfl, by omega, by omega⟩)
  clear h
  go_enter Tryz.func25, Tryz.ntmps25
  rcases hcase with hq | ⟨hq, hq2⟩ | ⟨hq, hq2, hq3⟩
  all_goals
    rw [hq] at C
    clear hq
    go_wp2_with (first | (go_at_call 24; (with_reducible refine (O _ hB0).mono ?_); rintro e w1 ⟨L1, rfl, ho, hb⟩; have kz := World.alloc_heap_new w1 (.cells #[.int .i64 0, .int .i64 0, .int .i64 0, .int .i64 0, .int .i64 0, .int .i64 0, .bool false, .int .i64 0, .int .i64 0, .int .i64 0, .slice none 0 0, .slice none 0 0, .slice none 0 0, .int .i64 0, .slice none 0 0, .int .i64 0, .slice none 0 0, .int .i64 0, .slice none 0 0, .slice none 0 0] 36); obtain ⟨v1, hst1, kb, hBz, hothz⟩ := run_store_block (P := Tryz.prog) (base := w1.heap.size) (cs := (S.cells L1).toList) kz rfl (st_one S L1) (Nat.le_refl _); have hbv : Below w1.heap.size w1 v1 := (below_one w1 _).trans hBz; replace k0 := kept (kept k0 hb) hbv; replace k1 := kept (kept k1 hb) hbv; replace ho := ho.kept hbv; have hB1 := (hB0.trans (hb.mono hB0.size)).trans (hbv.mono (Nat.le_trans hB0.size hb.size)); have hzz := hb.size) | (go_at_call 22; (with_reducible refine (C _ hB1).mono ?_); rintro e w2 ⟨rfl, hb2⟩; replace k0 := kept k0 hb2; replace k1 := kept k1 hb2; replace kb := kept kb hb2; replace ho := ho.kept hb2; have hB2 := hB1.trans (hb2.mono hB1.size); obtain ⟨v2, hst2, kr, hB3, hoth⟩ := run_store_block (P := Tryz.prog) (base := w.heap.size) (cs := (S.cells L1).toList) k1 rfl (st_one S L1) (by omega); have a18 := (of_block k0 18).1; have b18 := (of_block kb 18).1) | ((with_reducible refine wpList_val (load36 k0 ?_ ?_) ?_); (focus rfl); (focus rfl)) | ((with_reducible refine wpList_val (load36 kb ?_ ?_) ?_); (focus rfl); (focus rfl)) | ((with_reducible refine wpList_skip (store36 hst1 ?_ ?_ ?_) ?_); (focus rfl); (focus rfl); (focus rfl)) | ((with_reducible refine wpList_skip (store36 hst2 ?_ ?_ ?_) ?_); (focus rfl); (focus rfl); (focus rfl)))
    refine bodyPost_ret (results36 kr rfl rfl rfl) rfl ⟨L1, rfl, (ho.same (B := w.heap.size + 1) (by simp) hoth).mono (by simp; omega), hB2.trans hB3⟩

set_option maxRecDepth 100000 in
set_option maxHeartbeats 8000000 in
theorem withWake_yes (S : St) (L : Lay) (k : Nat) (t : Th) (w : World) (hsm : S.small) (hH : Holds w S L) (hok : S.ok = true) (hk : S.ths[k]? = some t) :
    Calls Tryz.prog 25 #[S.val L, .int .i64 k, .func (.func 37) #[] #[]] w fun e w' => ∃ L', e = .returned ((S.setTh k t.wake).val L') ∧ Owns w' w.heap.size (S.setTh k t.wake) L' ∧ Below w.heap.size w w' := by
  have O := fun W (hW : Below w.heap.size w W) => own_any S L W hsm (hH.on hW)
  have C := fun W (hW : Below w.heap.size w W) => check_state S L W hsm (hH.on hW)
  have hl6 := hsm.2.2.2.2.2.1
  obtain ⟨k0, k1, hB0⟩ := two_new w (.cells (S.cells L) 36) (.cells #[.int .i64 0, .int .i64 0, .int .i64 0, .int .i64 0, .int .i64 0, .int .i64 0, .bool false, .int .i64 0, .int .i64 0, .int .i64 0, .slice none 0 0, .slice none 0 0, .slice none 0 0, .int .i64 0, .slice none 0 0, .int .i64 0, .slice none 0 0, .int .i64 0, .slice none 0 0, .slice none 0 0] 36)
  have hkl := (List.getElem?_eq_some_iff.1 hk).1
  have hpos : 0 < S.ths.length := by omega
  rw [hok] at C
  clear hok
  have W := fun g base c W hm => wake1_any t g k base c S.ths.length S.ths W hm hk
  go_enter Tryz.func25, Tryz.ntmps25
  go_wp2_with (first | (go_at_call 24; (with_reducible refine (O _ hB0).mono ?_); rintro e w1 ⟨L1, rfl, ho, hb⟩; obtain ⟨gb, hg6, hgb1, hgb2⟩ := ho.m6.some_ hpos; have kz := World.alloc_heap_new w1 (.cells #[.int .i64 0, .int .i64 0, .int .i64 0, .int .i64 0, .int .i64 0, .int .i64 0, .bool false, .int .i64 0, .int .i64 0, .int .i64 0, .slice none 0 0, .slice none 0 0, .slice none 0 0, .int .i64 0, .slice none 0 0, .int .i64 0, .slice none 0 0, .int .i64 0, .slice none 0 0, .slice none 0 0] 36); obtain ⟨v1, hst1, kb, hBz, hothz⟩ := run_store_block (P := Tryz.prog) (base := w1.heap.size) (cs := (S.cells L1).toList) kz rfl (st_one S L1) (Nat.le_refl _); have hbv : Below w1.heap.size w1 v1 := (below_one w1 _).trans hBz; replace k0 := kept (kept k0 hb) hbv; replace k1 := kept (kept k1 hb) hbv; replace ho := ho.kept hbv; have hB1 := (hB0.trans (hb.mono hB0.size)).trans (hbv.mono (Nat.le_trans hB0.size hb.size)); have hzz := hb.size) | (go_at_call 22; (with_reducible refine (C _ hB1).mono ?_); rintro e w2 ⟨rfl, hb2⟩; replace k0 := kept k0 hb2; replace k1 := kept k1 hb2; replace kb := kept kb hb2; replace ho := ho.kept hb2; have hB2 := hB1.trans (hb2.mono hB1.size); have a18 := (of_block k0 18).1; have b18 := (of_block kb 18).1; simp only [St.cells, List.getElem?_toArray] at b18; rw [hg6] at b18; have hm := ho.m6; rw [hg6] at hm; have hbs := hbv.size) | ((with_reducible refine wpList_val (load36 k0 ?_ ?_) ?_); (focus rfl); (focus rfl)) | ((with_reducible refine wpList_val (load36 kb3 ?_ ?_) ?_); (focus rfl); (focus rfl)) | ((with_reducible refine wpList_skip (store36 hst1 ?_ ?_ ?_) ?_); (focus rfl); (focus rfl); (focus rfl)) | ((with_reducible refine wpList_skip (store36 hst2 ?_ ?_ ?_) ?_); (focus rfl); (focus rfl); (focus rfl)) | (go_at_call 37; (with_reducible refine (W _ _ _ _ hm).mono ?_); rintro e w3 ⟨rfl, hm3, hg3, hB3⟩; have kb3 := (hg3.block w1.heap.size (blk_lt kb) (by simp; omega)).trans kb; have k13 := (hg3.block (w.heap.size + 1) (blk_lt k1) (by simp at hgb1 ⊢; omega)).trans k1; have ho3 := ho.setTh hg3 hg6 (by rw [hg6]; exact hm3); have hB4 := hB2.trans (hB3.mono (by rw [World.size_alloc, World.size_alloc]; omega)); obtain ⟨v2, hst2, kr, hB5, hoth⟩ := run_store_block (P := Tryz.prog) (base := w.heap.size) (cs := (S.cells L1).toList) k13 rfl (st_one S L1) (by omega)))
  have kr2 : v2.heap[w.heap.size + 1]? = some (.cells ((S.setTh k t.wake).cells L1) 36 (0, 0)) := by rw [setTh_cells]; exact kr
  refine bodyPost_ret (results36 kr2 rfl rfl rfl) rfl ⟨L1, rfl, (ho3.same (B := w.heap.size + 1) (by simp) hoth).mono (by simp; omega), hB4.trans hB5⟩

/-- One thread is woken, if it is there. -/
def St.wakeAt (S : St) (id : Int) : St := if S.ok = true ∧ 0 ≤ id then (match S.ths[id.toNat]? with | some t => S.setTh id.toNat t.wake | none => S) else S

set_option maxRecDepth 100000 in
set_option maxHeartbeats 4000000 in
theorem wake_any (S : St) (L : Lay) (id : Int) (w : World) (hsm : S.small) (hH : Holds w S L) :
    Calls Tryz.prog 18 #[S.val L, .int .i64 id] w fun e w' => ∃ L', e = .returned ((S.wakeAt id).val L') ∧ Owns w' w.heap.size (S.wakeAt id) L' ∧ Below w.heap.size w w' := by
  have C : ∀ W, Below w.heap.size w W → Calls Tryz.prog 25 #[S.val L, .int .i64 id, .func (.func 37) #[] #[]] W fun e w' => ∃ L', e = .returned ((S.wakeAt id).val L') ∧ Owns w' W.heap.size (S.wakeAt id) L' ∧ Below W.heap.size W w' := by
    intro W hW
    unfold St.wakeAt
    by_cases h : S.ok = true ∧ 0 ≤ id
    · rw [if_pos h]
      cases ht : S.ths[id.toNat]? with
      | none =>
        have hlen := List.getElem?_eq_none_iff.1 ht
        exact with_no S L id _ W hsm (hH.on hW) (.inr (by omega))
      | some t =>
        have := withWake_yes S L id.toNat t W hsm (hH.on hW) h.1 ht
        rwa [show ((id.toNat : Nat) : Int) = id by omega] at this
    · rw [if_neg h]
      refine with_no S L id _ W hsm (hH.on hW) ?_
      cases ho : S.ok with
      | false => exact .inl rfl
      | true => exact .inr (fun h2 => h ⟨ho, h2.1⟩)
  generalize S.wakeAt id = S2 at *
  obtain ⟨k0, k1, hB0⟩ := two_new w (.cells (S.cells L) 36) (.cells #[.int .i64 0, .int .i64 0, .int .i64 0, .int .i64 0, .int .i64 0, .int .i64 0, .bool false, .int .i64 0, .int .i64 0, .int .i64 0, .slice none 0 0, .slice none 0 0, .slice none 0 0, .int .i64 0, .slice none 0 0, .int .i64 0, .slice none 0 0, .int .i64 0, .slice none 0 0, .slice none 0 0] 36)
  go_enter Tryz.func18, Tryz.ntmps18
  go_wp2_with (first | (go_at_call 25; (with_reducible refine (C _ hB0).mono ?_); rintro e w1 ⟨L1, rfl, ho, hb⟩; replace k1 := kept k1 hb; have hB1 := hB0.trans (hb.mono hB0.size); obtain ⟨v2, hst2, kr, hB3, hoth⟩ := run_store_block (P := Tryz.prog) (base := w.heap.size) (cs := (S2.cells L1).toList) k1 rfl (st_one S2 L1) (by omega)) | ((with_reducible refine wpList_val (load36 k0 ?_ ?_) ?_); (focus rfl); (focus rfl)) | ((with_reducible refine wpList_skip (store36 hst2 ?_ ?_ ?_) ?_); (focus rfl); (focus rfl); (focus rfl)))
  refine bodyPost_ret (results36 kr rfl rfl rfl) rfl ⟨L1, rfl, (ho.same (B := w.heap.size + 1) (by simp) hoth).mono (by simp; omega), hB1.trans hB3⟩

end Go.Proofs.YtnbgpopjnpdmgaaGreat

namespace Go.Proofs.YtnbgpopjnpdmgaaGreat
open Go Go.RowKit Go.Shelf

/-- All blocks but two stand. -/
structure But2 (w w' : World) (g B : Nat) : Prop where
  os : w'.os = w.os
  tape : w'.tape = w.tape
  output : w'.output = w.output
  size : w.heap.size ≤ w'.heap.size
  block : ∀ j, j < w.heap.size → j ≠ g → j ≠ B → w'.heap[j]? = w.heap[j]?
structure InvS (base g c n : Nat) (l : List Th) (Bk Bv Bu Be : Nat) (kind x y e0 : Int) (V : World) : Prop where
  hm : Mine V base 51 11 (some ⟨g, 0, none⟩) c n (Go.Proofs.YtnbgpopjnpdmgaaGreat.ths l)
  c1 : V.cell? ⟨Bk, 0, none⟩ = some (.int .i64 kind)
  c2 : V.cell? ⟨Bv, 0, none⟩ = some (.int .i64 x)
  c3 : V.cell? ⟨Bu, 0, none⟩ = some (.int .i64 y)
  he : V.heap[Be]? = some (.cells #[.int .i64 e0] 37 (0, 0))
theorem keep_c {W V : World} {B i : Nat} {v : Value} (h : W.cell? ⟨B, i, none⟩ = some v) (hb : Below W.heap.size W V) : V.cell? ⟨B, i, none⟩ = some v := (hb.cell (p := ⟨B, i, none⟩) (World.block_lt_of_cell? W _ h)).trans h
theorem InvS.on {base g c n : Nat} {l : List Th} {Bk Bv Bu Be : Nat} {kind x y e0 : Int} {W V : World} (h : InvS base g c n l Bk Bv Bu Be kind x y e0 W) (hb : Below W.heap.size W V) : InvS base g c n l Bk Bv Bu Be kind x y e0 V :=
  ⟨h.hm.kept hb, keep_c h.c1 hb, keep_c h.c2 hb, keep_c h.c3 hb, kept h.he hb⟩
theorem InvS.drew {base g c n : Nat} {l : List Th} {Bk Bv Bu Be : Nat} {kind x y e0 : Int} {W : World} (h : InvS base g c n l Bk Bv Bu Be kind x y e0 W) : InvS base g c n l Bk Bv Bu Be kind x y e0 W.drew := ⟨h.hm, h.c1, h.c2, h.c3, h.he⟩

set_option maxRecDepth 100000 in
set_option maxHeartbeats 2000000 in
theorem invoke1_any (t : Th) (base g c n k : Nat) (l : List Th) (Bk Bv Bu Be : Nat) (kind x y e0 : Int) (w : World) (hS0 : InvS base g c n l Bk Bv Bu Be kind x y e0 w) (hk : l[k]? = some t) (hne : Be ≠ g) :
    Calls Tryz.prog 26 #[.pointer (some ⟨g, k * 11, none⟩), .pointer (some ⟨Bk, 0, none⟩), .pointer (some ⟨Bv, 0, none⟩), .pointer (some ⟨Bu, 0, none⟩), .pointer (some ⟨Be, 0, none⟩)] w fun e w' => e = .returned (.tuple #[]) ∧ Mine w' base 51 11 (some ⟨g, 0, none⟩) c n (Go.Proofs.YtnbgpopjnpdmgaaGreat.ths (l.set k (t.begin_ kind x y).1)) ∧ w'.heap[Be]? = some (.cells #[.int .i64 (t.begin_ kind x y).2] 37 (0, 0)) ∧ But2 w w' g Be := by
  have hkl := (List.getElem?_eq_some_iff.1 hk).1
  have C := fun W => th_invoke t kind x y W
  generalize t.begin_ kind x y = r at *
  obtain ⟨r1, r2⟩ := r
  dsimp only at *
  go_enter Tryz.func26, Tryz.ntmps26
  go_wp2_with fail
  have hS := hS0.drew
  refine wp_region_ord3 (InvS base g c n l Bk Bv Bu Be kind x y e0) (fun _ => True) 12 (by kernel_rfl)
    [(2, 0), (2, 1), (2, 2), (1, 3), (1, 4), (1, 5), (1, 6), (0, 7), (2, 8), (2, 9), (2, 10), (2, 11), (0, 12), (0, 13)]
    (by kernel_rfl) (by kernel_rfl) (by decide) (by kernel_rfl) (fun _ _ d _ _ h => by cases d <;> exact h) ?_
  simp only [inOrder2, List.getElem?_cons_succ, List.getElem?_cons_zero, List.nil_append, List.cons_append]
  iterate 3 (((with_reducible refine o3_calmF (v := ?_) (a' := ?_) hS ?_ (fun V => ?_) ?_ ?_); rotate_left 2; (rfl); (first | (go_simp; with_reducible rfl) | (go_simp; refine (if_pos ?_).trans ?_; omega; with_reducible rfl)); (simp only [Act.put, List.setIfInBounds_toArray, List.set_cons_succ, List.set_cons_zero] <;> rfl)))
  ((with_reducible refine o3_pre (v := .agg t.list.toArray) (a' := ?_) hS ?_ (fun V hV => ?_) ?_ ?_); rotate_left; (focus rfl); (focus (exact loadT Tryz.isAgg51 Tryz.sizeOf51 (th_cells hV.hm hk) rfl rfl)); (focus (simp only [Act.put, List.setIfInBounds_toArray, List.set_cons_succ, List.set_cons_zero] <;> rfl)))
  iterate 3 (((with_reducible refine o3_pre (v := ?_) (a' := ?_) hS ?_ (fun V hV => ?_) ?_ ?_); rotate_left 2; (rfl); (obtain ⟨q0, q1, q2, q3, -⟩ := hV; first | (go_simp; with_reducible rfl) | (go_simp; refine (if_pos ?_).trans ?_; omega; with_reducible rfl)); (simp only [Act.put, List.setIfInBounds_toArray, List.set_cons_succ, List.set_cons_zero] <;> rfl)))
  refine o3_onlyF rfl rfl ?_
  go_simp
  refine ⟨trivial, rfl, (callsIn_wide.2 (C _)).mono ?_⟩
  rintro e w1 ⟨rfl, hb⟩
  refine ⟨hS.on hb, ?_⟩
  replace hS := hS.on hb
  iterate 4 (((with_reducible refine o3_calmF (v := ?_) (a' := ?_) hS ?_ (fun V => ?_) ?_ ?_); rotate_left 2; (rfl); (first | (go_simp; with_reducible rfl) | (go_simp; refine (if_pos ?_).trans ?_; omega; with_reducible rfl)); (simp only [Act.put, List.setIfInBounds_toArray, List.set_cons_succ, List.set_cons_zero] <;> rfl)))
  obtain ⟨V, hst, hm2, hg2, hB2⟩ := store_th hS.hm hkl r1
  refine o3_skipS rfl rfl (storeT Tryz.sizeOf51 hst rfl rfl rfl) rfl trivial ?_
  have he2 := (hg2.block Be (blk_lt hS.he) (by simpa using hne)).trans hS.he
  obtain ⟨b0, f0⟩ := cells1 he2
  refine o3_onlyT rfl ?_
  go_simp
  refine o3_end _ ?_
  try simp only [Exit.then]
  clear b0 f0
  go_wp2
  go_returns
  refine ⟨rfl, hm2.grown fun g' off u e => Below.heap_setCell V ⟨Be, 0, none⟩ _ g' (by injection e with e; injection e with e; show g' ≠ Be; omega), put_cell he2 _, hg2.os.trans hb.os, hg2.tape.trans hb.tape, hg2.output.trans hb.output, ?_, fun j hj h1 h2 => ?_⟩
  · have h1 := hb.size
    have h2 := hg2.size
    simp at h1 ⊢
    omega
  · have hj2 : j < w1.heap.size := Nat.lt_of_lt_of_le hj hb.size
    exact ((Below.heap_setCell V ⟨Be, 0, none⟩ _ j h2).trans (hg2.block j hj2 (by simpa using h1))).trans (hb.block j hj)

end Go.Proofs.YtnbgpopjnpdmgaaGreat
