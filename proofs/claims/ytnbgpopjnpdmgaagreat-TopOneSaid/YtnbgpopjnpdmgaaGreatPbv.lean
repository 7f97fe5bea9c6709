/-
  DERIVED. Top.
-/
import Derived.Test.YtnbgpopjnpdmgaaGreatPbu
import Derived.Test.YtnbgpopjnpdmgaaGreatPbs
import Derived.Test.YtnbgpopjnpdmgaaGreatPbl
import Derived.Test.YtnbgpopjnpdmgaaGreatPbq
import Derived.Test.YtnbgpopjnpdmgaaGreatPam
import Derived.Test.YtnbgpopjnpdmgaaGreatPae
set_option linter.unusedVariables false
set_option linter.unusedSimpArgs false

namespace Go.Proofs.YtnbgpopjnpdmgaaGreat
open Go Go.RowKit Go.Shelf

theorem decode_any (l : List Int) (A : Option Addr) (c : Nat) (w : World) (hl : l.length ≤ 100000) (hA : Rd w w.heap.size A (ints l)) :
    Calls Tryz.prog 7 #[.slice A l.length c] w fun e w' => ∃ a b c d e0, e = .returned (.tuple #[.agg #[.int .i64 a, .int .i64 b, .int .i64 c, .int .i64 d], .int .i64 e0]) ∧ Below w.heap.size w w' := by
  by_cases h : l.length = 4
  · match l, h with
    | [x0, x1, x2, x3], _ => exact decode_yes x0 x1 x2 x3 A c w (hA (by simp [ints_len]))
  · exact decode_no l A c w h hl
theorem new_any (c : Cfg) (w : World) : Calls Tryz.prog 6 #[c.val] w fun e w' => ∃ S L er, e = .returned (.tuple #[S.val L, .int .i64 er]) ∧ Owns w' w.heap.size S L ∧ (er = 0 → S.upto 64) ∧ Below w.heap.size w w' := by
  cases h : c.ok with
  | false => exact (new_no c w h).mono fun e w' ⟨L, h1, h2, h3⟩ => ⟨_, L, 20, h1, h2, (fun h => absurd h (by decide)), h3⟩
  | true =>
    refine (new_yes c w h).mono fun e w' ⟨L, h1, h2, h3⟩ => ⟨_, L, 0, h1, h2, (fun _ => ?_), h3⟩
    have hck := (Cfg.ok_iff c).1 h
    have hr : c.room.toNat ≤ 64 := by
      have hl : c.log.toNat ≤ 6 := by omega
      have h2 : 2 ^ c.log.toNat ≤ 2 ^ 6 := Nat.pow_le_pow_right (by omega) hl
      have h4 : c.room = ((2 ^ c.log.toNat : Nat) : Int) := by simp [Cfg.room, h]
      rw [h4, Int.toNat_natCast]
      exact h2
    refine ⟨?_, Nat.zero_le _, Nat.zero_le _, Nat.zero_le _, Nat.zero_le _, ?_, Nat.zero_le _⟩
    · show (newS c.room.toNat).length ≤ 64
      rw [newS_len]
      exact hr
    · show (List.replicate c.th.toNat noTh).length ≤ 64
      rw [List.length_replicate]
      omega
theorem pick_diff (S T : St) (id : Int) (h : T = S ∨ T = (S.pick id).1) : S.diff T ≤ 1 := by
  rcases h with rfl | rfl
  · exact (Touch.none rfl).le
  · exact (pick_touch S id).le

set_option maxRecDepth 100000 in
set_option maxHeartbeats 16000000 in
theorem topOne_any (c : Cfg) (rs : List Rw) (A : Option Addr) (cap : Nat) (w : World) (hl : rs.length ≤ maxLen) (hR : Raws w A rs) :
    Calls Tryz.prog 3 #[c.val, .slice A rs.length cap] w fun e w' => e = .returned (.bool true) ∧ Below w.heap.size w w' := by
  have kq := World.alloc_heap_new w (.cells c.cells 23)
  have hB0 := below_one w (.cells c.cells 23)
  go_enter Tryz.func3, Tryz.ntmps3
  go_wp2_with fail
  (with_reducible refine (awake_all _).mono ?_)
  rintro e w1 ⟨rfl, hb⟩
  have hB1 := hB0.trans (hb.mono hB0.size)
  replace kq := kept kq hb
  clear hb hB0
  go_wp2_with fail
  (with_reducible refine (few_any rs A cap _ hl (hR.on hB1)).mono ?_)
  rintro e w2 ⟨b, rfl, hfew, hb⟩
  have hB2 := hB1.trans (hb.mono hB1.size)
  replace kq := kept kq hb
  clear hb hB1
  cases b with
  | false =>
    go_wp2
    go_ret
    exact ⟨rfl, hB2⟩
  | true =>
    obtain ⟨h60, h10⟩ := hfew rfl
    have H10 := Lib.hid h10
    clear hfew h10
    obtain ⟨q0, q1, q2, q3, q4, q5, q6⟩ := cells7 kq
    go_wp2_with fail
    (with_reducible refine (new_any c _).mono ?_)
    rintro e w3 ⟨S, L, er, rfl, ho, hup, hb⟩
    have hsz2 := hB2.size
    have hB3 := hB2.trans (hb.mono hsz2)
    have hsz3 := hB3.size
    have kz := World.alloc_heap_new w3 (.cells #[.int .i64 0, .int .i64 0, .int .i64 0, .int .i64 0, .int .i64 0, .int .i64 0, .bool false, .int .i64 0, .int .i64 0, .int .i64 0, .slice none 0 0, .slice none 0 0, .slice none 0 0, .int .i64 0, .slice none 0 0, .int .i64 0, .slice none 0 0, .int .i64 0, .slice none 0 0, .slice none 0 0] 36)
    obtain ⟨v3, hst3, k6, hBz, hoz⟩ := run_store_block (P := Tryz.prog) (base := w3.heap.size) (cs := (S.cells L).toList) kz rfl (st_one S L) (Nat.le_refl _)
    have hbv : Below w3.heap.size w3 v3 := (below_one w3 _).trans hBz
    replace ho := (ho.kept hbv).mono hsz2
    have hB4 := hB3.trans (hbv.mono hsz3)
    clear q0 q1 q2 q3 q4 q5 q6 kq hb hB2 hB3 hBz hoz kz hbv
    by_cases he : er = 0
    · subst he
      replace hup := hup rfl
      go_wp2_with (first
          | ((with_reducible refine wpList_skip (store36 hst3 ?_ ?_ ?_) ?_); (focus rfl); (focus rfl); (focus rfl)))
      clear hst3
      go_loopw [8] (fun i wr => ∃ (k : Nat) (S' : St) (L' : Lay), k ≤ rs.length ∧ i = .int .i64 k ∧ wr.heap[w3.heap.size]? = some (.cells (S'.cells L') 36 (0, 0)) ∧ Owns wr w.heap.size S' L' ∧ S'.upto (64 + k) ∧ Below w.heap.size w wr) (fun i _ => rs.length - (intOf i).toNat)
      case atStart => exact ⟨0, S, L, Nat.zero_le _, rfl, k6, ho, hup, hB4⟩
      case round =>
        clear k6 ho hup hB4
        obtain ⟨k, S', L', hk, rfl, k6, ho, hup, hB⟩ := hrel
        by_cases hlt : k < rs.length
        · obtain ⟨r, hr⟩ : ∃ r, rs[k]? = some r := ⟨_, List.getElem?_eq_getElem hlt⟩
          have hRk := hR.on hB
          obtain ⟨b1, off1, rfl, hb1, hc1⟩ := hRk.at_ hr
          have h10r := H10.out r (List.mem_of_getElem? hr)
          have hrd := hRk.each r (List.mem_of_getElem? hr)
          have hsm : S'.small := hup.small (by omega)
          have h8 : S'.ths.length ≤ 700 := by have := hup.2.2.2.2.2.1; omega
          unfold Rw.val at hc1
          clear hr
          go_wp2_with fail
          (with_reducible refine (decode_any r.nums r.addr r.room _ (by omega) hrd).mono ?_)
          rintro e w5 ⟨a, b, x, d, f, rfl, hb5⟩
          have hszr := hB.size
          have hlt6' := blk_lt k6
          replace k6 := kept k6 hb5
          replace ho := ho.kept hb5
          replace hB := hB.trans (hb5.mono hszr)
          have kz := World.alloc_heap_new w5 (.cells #[.int .i64 0, .int .i64 0, .int .i64 0, .int .i64 0] 41)
          obtain ⟨v4, hst4, kc, hBz, hoz⟩ := run_store_block (P := Tryz.prog) (base := w5.heap.size) (cs := [.int .i64 a, .int .i64 b, .int .i64 x, .int .i64 d]) kz rfl (by intro v hv; simp at hv; rcases hv with rfl | rfl | rfl | rfl <;> rfl) (Nat.le_refl _)
          have hbv : Below w5.heap.size w5 v4 := (below_one w5 _).trans hBz
          replace k6 := kept k6 hbv
          replace ho := ho.kept hbv
          replace hB := hB.trans (hbv.mono (Nat.le_trans hszr hb5.size))
          clear hc1 hrd hb5 kz hBz hoz hbv hRk
          by_cases hf : f = 0
          · subst hf
            have hcs : ∀ (j : Nat) (v : Value), ([.int .i64 a, .int .i64 b, .int .i64 x, .int .i64 d] : List Value)[j]? = some v → v4.cell? ⟨w5.heap.size, 0 + j, none⟩ = some v := fun j v hj => by
              rw [Nat.zero_add, (of_block kc j).1]
              simpa using hj
            by_cases ha : a = 10
            · subst ha
              go_wp2_with (first
                  | ((with_reducible refine wpList_val (load36 k6 ?_ ?_) ?_); (focus rfl); (focus rfl))
                  | ((with_reducible refine wpList_skip (storeT Tryz.sizeOf41 (cs := [.int .i64 10, .int .i64 b, .int .i64 x, .int .i64 d]) hst4 rfl ?_ ?_) ?_); (focus rfl); (focus rfl))
                  | ((with_reducible refine wpList_val (loadT Tryz.isAgg41 Tryz.sizeOf41 (s := 0) (cs := [.int .i64 10, .int .i64 b, .int .i64 x, .int .i64 d]) hcs rfl ?_) ?_); (focus rfl))
                  | (go_at_call 8; (with_reducible refine (do_any 10 b x d S' L' _ hsm ho.holds h8).mono ?_); rintro e w6 ⟨T, L1, er, rfl, ho6, ⟨hgr, hpk⟩, hb6⟩; have kc6 := kept kc hb6; have k66 := kept k6 hb6; have hoS := ho.kept hb6; have hsz4 := hB.size; have hB6 := hB.trans (hb6.mono hsz4); have kz6 := World.alloc_heap_new w6 (.cells #[.int .i64 0, .int .i64 0, .int .i64 0, .int .i64 0, .int .i64 0, .int .i64 0, .bool false, .int .i64 0, .int .i64 0, .int .i64 0, .slice none 0 0, .slice none 0 0, .slice none 0 0, .int .i64 0, .slice none 0 0, .int .i64 0, .slice none 0 0, .int .i64 0, .slice none 0 0, .slice none 0 0] 36); have kc7 := keep_alloc kc6 (.cells #[.int .i64 0, .int .i64 0, .int .i64 0, .int .i64 0, .int .i64 0, .int .i64 0, .bool false, .int .i64 0, .int .i64 0, .int .i64 0, .slice none 0 0, .slice none 0 0, .slice none 0 0, .int .i64 0, .slice none 0 0, .int .i64 0, .slice none 0 0, .int .i64 0, .slice none 0 0, .slice none 0 0] 36); have k67 := keep_alloc k66 (.cells #[.int .i64 0, .int .i64 0, .int .i64 0, .int .i64 0, .int .i64 0, .int .i64 0, .bool false, .int .i64 0, .int .i64 0, .int .i64 0, .slice none 0 0, .slice none 0 0, .slice none 0 0, .int .i64 0, .slice none 0 0, .int .i64 0, .slice none 0 0, .int .i64 0, .slice none 0 0, .slice none 0 0] 36); have hoS7 := hoS.alloc (.cells #[.int .i64 0, .int .i64 0, .int .i64 0, .int .i64 0, .int .i64 0, .int .i64 0, .bool false, .int .i64 0, .int .i64 0, .int .i64 0, .slice none 0 0, .slice none 0 0, .slice none 0 0, .int .i64 0, .slice none 0 0, .int .i64 0, .slice none 0 0, .int .i64 0, .slice none 0 0, .slice none 0 0] 36); have ho7 := ho6.alloc (.cells #[.int .i64 0, .int .i64 0, .int .i64 0, .int .i64 0, .int .i64 0, .int .i64 0, .bool false, .int .i64 0, .int .i64 0, .int .i64 0, .slice none 0 0, .slice none 0 0, .slice none 0 0, .int .i64 0, .slice none 0 0, .int .i64 0, .slice none 0 0, .int .i64 0, .slice none 0 0, .slice none 0 0] 36); have hlt6 := blk_lt k66; have hltc := blk_lt kc6; have hsz6 := hB6.size; obtain ⟨v7, hst7, k11, hB7, ho7v⟩ := run_store_block (P := Tryz.prog) (base := w6.heap.size) (cs := (T.cells L1).toList) kz6 rfl (st_one T L1) (Nat.le_refl _); have hbv7 : Below w6.heap.size w6 v7 := (below_one w6 _).trans hB7; have kc8 := kept kc6 hbv7; have k68 := kept k66 hbv7; have hoS8 := hoS.kept hbv7; have ho8 := ho6.kept hbv7; have hB8 := hB6.trans (hbv7.mono hsz6); have q0 : v7.cell? ⟨w5.heap.size, 0, none⟩ = some (.int .i64 10) := (of_block kc8 0).1; clear kc7 k67 hoS7 ho7 kz6; have hsT : T.small := (hgr.upto hup).small (by omega); have hszW : w.heap.size ≤ v4.heap.size := hsz4; have hd := pick_diff S' T b (hpk rfl); clear hpk)
                  | ((with_reducible refine wpList_skip (store36 hst7 ?_ ?_ ?_) ?_); (focus rfl); (focus rfl); (focus rfl))
                  | ((with_reducible refine wpList_valg rfl ?_ (load36g k68 ?_ ?_) ?_); (focus rfl); (focus rfl); (focus rfl))
                  | ((with_reducible refine wpList_valg rfl ?_ (load36g k11 ?_ ?_) ?_); (focus rfl); (focus rfl); (focus rfl))
                  | (go_at_call 9; (with_reducible refine (things_any S' T L' L1 _ hsm hsT hoS8.holds ho8.holds hd).mono ?_); rintro e w8 ⟨⟨m, hm, rfl⟩, hb8⟩; have hm' : ¬ 1 < m := (by omega); have k69 := kept k68 hb8; have k11b := kept k11 hb8; have ho9 := ho8.kept hb8; have hB9 := hB8.trans (hb8.mono hB8.size); obtain ⟨v9, hst9, k6r, hB9v, ho9v⟩ := run_store_block (P := Tryz.prog) (base := w.heap.size) (cs := (T.cells L1).toList) k69 rfl (st_one T L1) hsz3; have ho10 := (ho9.mono hszW).put k69 okSt ho9v; have hB10 := hB9.trans hB9v)
                  | ((with_reducible refine wpList_val (load36 k11b ?_ ?_) ?_); (focus rfl); (focus rfl))
                  | ((with_reducible refine wpList_skip (store36 hst9 ?_ ?_ ?_) ?_); (focus rfl); (focus rfl); (focus rfl)))
              go_roundw
              case rel => exact ⟨k + 1, T, L1, by omega, by go_num, k6r, ho10, hgr.upto hup, hB10⟩
              case measure => simp [intOf]; omega
            · have ha' : (a == 10) = false := by simpa using ha
              go_wp2_with (first
                  | ((with_reducible refine wpList_val (load36 k6 ?_ ?_) ?_); (focus rfl); (focus rfl))
                  | ((with_reducible refine wpList_skip (storeT Tryz.sizeOf41 (cs := [.int .i64 a, .int .i64 b, .int .i64 x, .int .i64 d]) hst4 rfl ?_ ?_) ?_); (focus rfl); (focus rfl))
                  | ((with_reducible refine wpList_val (loadT Tryz.isAgg41 Tryz.sizeOf41 (s := 0) (cs := [.int .i64 a, .int .i64 b, .int .i64 x, .int .i64 d]) hcs rfl ?_) ?_); (focus rfl))
                  | (go_at_call 8; (with_reducible refine (do_any a b x d S' L' _ hsm ho.holds h8).mono ?_); rintro e w6 ⟨T, L1, er, rfl, ho6, ⟨hgr, hpk⟩, hb6⟩; have kc6 := kept kc hb6; have k66 := kept k6 hb6; have hoS := ho.kept hb6; have hsz4 := hB.size; have hB6 := hB.trans (hb6.mono hsz4); have kz6 := World.alloc_heap_new w6 (.cells #[.int .i64 0, .int .i64 0, .int .i64 0, .int .i64 0, .int .i64 0, .int .i64 0, .bool false, .int .i64 0, .int .i64 0, .int .i64 0, .slice none 0 0, .slice none 0 0, .slice none 0 0, .int .i64 0, .slice none 0 0, .int .i64 0, .slice none 0 0, .int .i64 0, .slice none 0 0, .slice none 0 0] 36); have kc7 := keep_alloc kc6 (.cells #[.int .i64 0, .int .i64 0, .int .i64 0, .int .i64 0, .int .i64 0, .int .i64 0, .bool false, .int .i64 0, .int .i64 0, .int .i64 0, .slice none 0 0, .slice none 0 0, .slice none 0 0, .int .i64 0, .slice none 0 0, .int .i64 0, .slice none 0 0, .int .i64 0, .slice none 0 0, .slice none 0 0] 36); have k67 := keep_alloc k66 (.cells #[.int .i64 0, .int .i64 0, .int .i64 0, .int .i64 0, .int .i64 0, .int .i64 0, .bool false, .int .i64 0, .int .i64 0, .int .i64 0, .slice none 0 0, .slice none 0 0, .slice none 0 0, .int .i64 0, .slice none 0 0, .int .i64 0, .slice none 0 0, .int .i64 0, .slice none 0 0, .slice none 0 0] 36); have hoS7 := hoS.alloc (.cells #[.int .i64 0, .int .i64 0, .int .i64 0, .int .i64 0, .int .i64 0, .int .i64 0, .bool false, .int .i64 0, .int .i64 0, .int .i64 0, .slice none 0 0, .slice none 0 0, .slice none 0 0, .int .i64 0, .slice none 0 0, .int .i64 0, .slice none 0 0, .int .i64 0, .slice none 0 0, .slice none 0 0] 36); have ho7 := ho6.alloc (.cells #[.int .i64 0, .int .i64 0, .int .i64 0, .int .i64 0, .int .i64 0, .int .i64 0, .bool false, .int .i64 0, .int .i64 0, .int .i64 0, .slice none 0 0, .slice none 0 0, .slice none 0 0, .int .i64 0, .slice none 0 0, .int .i64 0, .slice none 0 0, .int .i64 0, .slice none 0 0, .slice none 0 0] 36); have hlt6 := blk_lt k66; have hltc := blk_lt kc6; have hsz6 := hB6.size; obtain ⟨v7, hst7, k11, hB7, ho7v⟩ := run_store_block (P := Tryz.prog) (base := w6.heap.size) (cs := (T.cells L1).toList) kz6 rfl (st_one T L1) (Nat.le_refl _); have hbv7 : Below w6.heap.size w6 v7 := (below_one w6 _).trans hB7; have kc8 := kept kc6 hbv7; have k68 := kept k66 hbv7; have hoS8 := hoS.kept hbv7; have ho8 := ho6.kept hbv7; have hB8 := hB6.trans (hbv7.mono hsz6); have q0 : v7.cell? ⟨w5.heap.size, 0, none⟩ = some (.int .i64 a) := (of_block kc8 0).1; clear kc7 k67 hoS7 ho7 kz6; have hsT : T.small := (hgr.upto hup).small (by omega); have hszW : w.heap.size ≤ v4.heap.size := hsz4; obtain ⟨v9, hst9, k6r, hB9v, ho9v⟩ := run_store_block (P := Tryz.prog) (base := w.heap.size) (cs := (T.cells L1).toList) k68 rfl (st_one T L1) hsz3; have ho10 := (ho8.mono hszW).put k68 okSt ho9v; have hB10 := hB8.trans hB9v)
                  | ((with_reducible refine wpList_skip (store36 hst7 ?_ ?_ ?_) ?_); (focus rfl); (focus rfl); (focus rfl))
                  | ((with_reducible refine wpList_val (load36 k11 ?_ ?_) ?_); (focus rfl); (focus rfl))
                  | ((with_reducible refine wpList_skip (store36 hst9 ?_ ?_ ?_) ?_); (focus rfl); (focus rfl); (focus rfl)))
              go_roundw
              case rel => exact ⟨k + 1, T, L1, by omega, by go_num, k6r, ho10, hgr.upto hup, hB10⟩
              case measure => simp [intOf]; omega
          · have hf' : (f != 0) = true := by simpa using hf
            go_wp2_with (first
                | ((with_reducible refine wpList_skip (storeT Tryz.sizeOf41 (cs := [.int .i64 a, .int .i64 b, .int .i64 x, .int .i64 d]) hst4 rfl ?_ ?_) ?_); (focus rfl); (focus rfl)))
            go_roundw
            case rel => exact ⟨k + 1, S', L', by omega, by go_num, k6, ho, ⟨by have := hup.1; omega, by have := hup.2.1; omega, by have := hup.2.2.1; omega, by have := hup.2.2.2.1; omega, by have := hup.2.2.2.2.1; omega, by have := hup.2.2.2.2.2.1; omega, by have := hup.2.2.2.2.2.2; omega⟩, hB⟩
            case measure => simp [intOf]; omega
        · obtain rfl : k = rs.length := by omega
          go_wp2
          go_ret
          exact ⟨rfl, hB⟩
    · have he' : (er != 0) = true := by simpa using he
      go_wp2_with (first
          | ((with_reducible refine wpList_skip (store36 hst3 ?_ ?_ ?_) ?_); (focus rfl); (focus rfl); (focus rfl)))
      go_ret
      exact ⟨rfl, hB4⟩

end Go.Proofs.YtnbgpopjnpdmgaaGreat
