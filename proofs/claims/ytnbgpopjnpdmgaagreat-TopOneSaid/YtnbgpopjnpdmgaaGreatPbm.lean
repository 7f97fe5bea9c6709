/-
  DERIVED. New, Rounds.
-/
import Derived.Test.YtnbgpopjnpdmgaaGreatPbi
import Derived.Test.YtnbgpopjnpdmgaaGreatPaq
import Derived.Test.YtnbgpopjnpdmgaaGreatPbj
set_option linter.unusedVariables false
set_option linter.unusedSimpArgs false

namespace Go.Proofs.YtnbgpopjnpdmgaaGreat
open Go Go.RowKit Go.Shelf

def noTh : Th := ⟨0, 0, 0, 0, 0, 0, 0, 0, false, 0, 0⟩
def noCfg : Cfg := ⟨0, 0, 0, 0, 0, 0, false⟩
/-- The state at first, and what is no state. -/
def newSt (c : Cfg) : St := ⟨c, ⟨0, 0, 0⟩, newS c.room.toNat, [], [], 0, [], 0, [], 0, List.replicate c.th.toNat noTh, []⟩
def noSt : St := ⟨noCfg, ⟨0, 0, 0⟩, [], [], [], 0, [], 0, [], 0, [], []⟩
def noLay : Lay := ⟨none, none, none, none, none, none, none, 0, 0, 0, 0, 0, 0, 0⟩
theorem th_inf : (Tryz.prog.info? 51).map (fun i => (i.zero, i.size, i.bytes)) = some (some (.agg noTh.cells), 11, 88) := by kernel_rfl
theorem made_ths (n : Nat) : (madeCells noTh.cells (n * 11)).toList = Go.Proofs.YtnbgpopjnpdmgaaGreat.ths (List.replicate n noTh) := by
  have h := made_flat noTh.cells (by decide) n
  rw [show noTh.cells.size = 11 from rfl] at h
  rw [h]
  clear h
  induction n with
  | zero => rfl
  | succ n ih => simpa [List.replicate_succ, List.flatMap_cons, Go.Proofs.YtnbgpopjnpdmgaaGreat.ths] using ih
theorem make_run {P : Program} {w w' : World} (l c : Operand) (t : TypeId) {a : Act} {dst : Option Tmp} {ty : TypeId} {ps : String} {af : Array Edge} (x y v : Value) (hl : a.eval l = x) (hc : a.eval c = y) (h : (Instr.makeSlice t x y).run P w = .ok v w') :
    (execOp a.eval (Oper.mk dst (.makeSlice t l c) ty ps af none)).run P w = .ok (.value v) w' := by
  simp [execOp, hl, hc, h, Result.andThen]

set_option maxRecDepth 100000 in
set_option maxHeartbeats 4000000 in
theorem new_no (c : Cfg) (w : World) (h : c.ok = false) :
    Calls Tryz.prog 6 #[c.val] w fun e w' => ∃ L', e = .returned (.tuple #[noSt.val L', .int .i64 20]) ∧ Owns w' w.heap.size noSt L' ∧ Below w.heap.size w w' := by
  have CK := fun W => check_any c W
  have hS := ((Blk.nil w).add (.cells c.cells 23)).add (.cells #[.int .i64 0, .int .i64 0, .int .i64 0, .int .i64 0, .int .i64 0, .int .i64 0, .bool false, .int .i64 0, .int .i64 0, .int .i64 0, .slice none 0 0, .slice none 0 0, .slice none 0 0, .int .i64 0, .slice none 0 0, .int .i64 0, .slice none 0 0, .int .i64 0, .slice none 0 0, .slice none 0 0] 36)
  simp only [World.size_alloc] at hS
  have kc := hS.get (B := w.heap.size) (o := (.cells c.cells 23)) (by simp)
  have kz := hS.get (B := w.heap.size + 1) (o := (.cells #[.int .i64 0, .int .i64 0, .int .i64 0, .int .i64 0, .int .i64 0, .int .i64 0, .bool false, .int .i64 0, .int .i64 0, .int .i64 0, .slice none 0 0, .slice none 0 0, .slice none 0 0, .int .i64 0, .slice none 0 0, .int .i64 0, .slice none 0 0, .int .i64 0, .slice none 0 0, .slice none 0 0] 36)) (by simp)
  have h1 : c.chk = 20 := Cfg.chk_no h
  rw [h1] at CK
  obtain ⟨q0, q1, q2, q3, q4, q5, q6⟩ := cells7 kc
  clear h h1
  go_enter Tryz.func6, Tryz.ntmps6
  go_wp2_with (first
      | (go_at_call 14; (with_reducible refine (CK _).mono ?_); rintro e w1 ⟨rfl, hb⟩; replace hS := hS.on hb; replace kc := kept kc hb; replace kz := kept kz hb; obtain ⟨v2, hst2, kr, hB3, hoth⟩ := run_store_block (P := Tryz.prog) (base := w.heap.size) (cs := (noSt.cells noLay).toList) kz rfl (st_one noSt noLay) (by omega))
      | ((with_reducible refine wpList_skip (store36 hst2 ?_ ?_ ?_) ?_); (focus rfl); (focus rfl); (focus rfl)))
  refine bodyPost_ret (results36_2 kr rfl rfl rfl) rfl ⟨noLay, rfl, Owns.of (World.ownsRow_nil _ _ _ _) (World.ownsRow_nil _ _ _ _) (World.ownsRow_nil _ _ _ _) (World.ownsRow_nil _ _ _ _) (World.ownsRow_nil _ _ _ _) (World.ownsRow_nil _ _ _ _) (World.ownsRow_nil _ _ _ _), hS.below.trans hB3⟩

theorem okSt : okT 36 := by unfold okT; decide

set_option maxRecDepth 100000 in
set_option maxHeartbeats 8000000 in
theorem new_yes (c : Cfg) (w : World) (h : c.ok = true) :
    Calls Tryz.prog 6 #[c.val] w fun e w' => ∃ L', e = .returned (.tuple #[(newSt c).val L', .int .i64 0]) ∧ Owns w' w.heap.size (newSt c) L' ∧ Below w.heap.size w w' := by
  have hck := (Cfg.ok_iff c).1 h
  obtain ⟨i0, hi, hz0, hz1, hz2⟩ := info_parts th_inf
  have RM := fun W => room_any c W
  have hr : c.room = ((2 ^ c.log.toNat : Nat) : Int) := by simp [Cfg.room, h]
  obtain ⟨n, hn0⟩ : ∃ n : Nat, 2 ^ c.log.toNat = n := ⟨_, rfl⟩
  have hn : c.room = n := by rw [hr, hn0]
  have hnr : 1 ≤ n ∧ n ≤ 64 := by
    have hl : c.log.toNat ≤ 6 := by omega
    have h1 : (2 : Nat) ^ c.log.toNat ≤ 2 ^ 6 := Nat.pow_le_pow_right (by omega) hl
    have h2 : 0 < (2 : Nat) ^ c.log.toNat := Nat.pow_pos (by omega)
    omega
  clear hr hn0
  obtain ⟨hn1, hn2⟩ := hnr
  obtain ⟨m, hm⟩ : ∃ m : Nat, c.th = m := ⟨c.th.toNat, by omega⟩
  have hm16 : m ≤ 16 := by omega
  have hcr : c.room.toNat = n := by omega
  have hcm : c.th.toNat = m := by omega
  rw [hn] at RM
  have h1 : c.chk = 0 := Cfg.chk_ok h
  have CK := fun W => check_any c W
  rw [h1] at CK
  clear h h1 hck hn
  obtain ⟨log, th, pol, wt, sp, yi, single⟩ := c
  dsimp only at hm
  subst hm
  have hS := ((Blk.nil w).add (.cells (Cfg.cells ⟨log, (m : Int), pol, wt, sp, yi, single⟩) 23)).add (.cells #[.int .i64 0, .int .i64 0, .int .i64 0, .int .i64 0, .int .i64 0, .int .i64 0, .bool false, .int .i64 0, .int .i64 0, .int .i64 0, .slice none 0 0, .slice none 0 0, .slice none 0 0, .int .i64 0, .slice none 0 0, .int .i64 0, .slice none 0 0, .int .i64 0, .slice none 0 0, .slice none 0 0] 36)
  simp only [World.size_alloc] at hS
  have kc := hS.get (B := w.heap.size) (o := (.cells (Cfg.cells ⟨log, (m : Int), pol, wt, sp, yi, single⟩) 23)) (by simp)
  have kz := hS.get (B := w.heap.size + 1) (o := (.cells #[.int .i64 0, .int .i64 0, .int .i64 0, .int .i64 0, .int .i64 0, .int .i64 0, .bool false, .int .i64 0, .int .i64 0, .int .i64 0, .slice none 0 0, .slice none 0 0, .slice none 0 0, .int .i64 0, .slice none 0 0, .int .i64 0, .slice none 0 0, .int .i64 0, .slice none 0 0, .slice none 0 0] 36)) (by simp)
  obtain ⟨q0, q1, q2, q3, q4, q5, q6⟩ := cells7 kc
  go_enter Tryz.func6, Tryz.ntmps6
  go_wp2_with (first
      | (go_at_call 14; (with_reducible refine (CK _).mono ?_); rintro e w1 ⟨rfl, hb⟩; replace hS := hS.on hb; replace kc := kept kc hb; replace kz := kept kz hb))
  replace hS : (Blk w w.heap.size [(w.heap.size + 1, (.cells #[.int .i64 0, .int .i64 0, .int .i64 0, .int .i64 0, .int .i64 0, .int .i64 0, .bool false, .int .i64 0, .int .i64 0, .int .i64 0, .slice none 0 0, .slice none 0 0, .slice none 0 0, .int .i64 0, .slice none 0 0, .int .i64 0, .slice none 0 0, .int .i64 0, .slice none 0 0, .slice none 0 0] 36)), (w.heap.size, (.cells (Cfg.cells ⟨log, (m : Int), pol, wt, sp, yi, single⟩) 23))]) w1 := hS.less (by simp)
  clear kc kz hb q0 q1 q2 q3 q4 q5 q6
  have hS2 := hS.drew
  clear hS
  have hS := hS2
  clear hS2
  refine wp_region_tree (Blk w w.heap.size [(w.heap.size + 1, (.cells #[.int .i64 0, .int .i64 0, .int .i64 0, .int .i64 0, .int .i64 0, .int .i64 0, .bool false, .int .i64 0, .int .i64 0, .int .i64 0, .slice none 0 0, .slice none 0 0, .slice none 0 0, .int .i64 0, .slice none 0 0, .int .i64 0, .slice none 0 0, .int .i64 0, .slice none 0 0, .slice none 0 0] 36)), (w.heap.size, (.cells (Cfg.cells ⟨log, (m : Int), pol, wt, sp, yi, single⟩) 23))]) (fun _ => True) 8 (by kernel_rfl)
    (.fork [(2, 4), (1, 0), (1, 1), (1, 5)] 2 (.fork [] 3 (.leaf [(0, 6), (2, 7), (0, 8), (2, 9)]) 6 (.leaf [(0, 3), (2, 7), (0, 8), (2, 9)])) 6 (.leaf [(0, 2), (0, 3), (2, 7), (0, 8), (2, 9)]))
    (by kernel_rfl) (by kernel_rfl) (by decide) (by kernel_rfl) (fun _ _ d _ _ h => by cases d <;> exact h) ?_
  generalize w1.drew = w3 at *
  refine tree_fork ?_
  simp only [inOrder2, List.getElem?_cons_succ, List.getElem?_cons_zero, List.nil_append, List.cons_append]
  ((with_reducible refine o3_calmF (v := ?_) (a' := ?_) hS ?_ (fun V => ?_) ?_ ?_); rotate_left 2; (rfl); (first | (go_simp; with_reducible rfl) | (go_simp; refine (if_pos ?_).trans ?_; omega; with_reducible rfl)); (simp only [Act.put, List.setIfInBounds_toArray, List.set_cons_succ, List.set_cons_zero] <;> rfl))
  iterate 3 (((with_reducible refine o3_pre (v := ?_) (a' := ?_) hS ?_ (fun V hV => ?_) ?_ ?_); rotate_left 2; (rfl); (obtain ⟨q0, q1, q2, q3, q4, q5, q6⟩ := cells7 (hV.get (B := w.heap.size) (o := (.cells (Cfg.cells ⟨log, (m : Int), pol, wt, sp, yi, single⟩) 23)) (by simp)); first | (go_simp; with_reducible rfl) | (go_simp; refine (if_pos ?_).trans ?_; omega; with_reducible rfl)); (simp only [Act.put, List.setIfInBounds_toArray, List.set_cons_succ, List.set_cons_zero] <;> rfl)))
  refine tree_end _ ⟨?_, ?_⟩
  · refine o3_onlyF rfl rfl ?_
    go_simp
    refine ⟨trivial, rfl, (callsIn_wide.2 (RM _)).mono ?_⟩
    rintro e w4 ⟨rfl, hb⟩
    replace hS := hS.on hb
    clear hb
    refine ⟨hS, ?_⟩
    refine tree_end _ ?_
    refine tree_fork ?_
    simp only [inOrder2, List.getElem?_cons_succ, List.getElem?_cons_zero, List.nil_append, List.cons_append]
    refine tree_end _ ⟨?_, ?_⟩
    · refine o3_onlyF rfl rfl ?_
      go_simp
      refine ⟨trivial, rfl, (callsIn_wide.2 (slotNew_any n _ hn1 hn2)).mono ?_⟩
      rintro e w5 ⟨A1, c1, rfl, hm1, hb⟩
      have hz5 := hS.size
      replace hm1 := hm1.mono hz5
      replace hS := hS.on hb
      clear hb
      refine ⟨hS, ?_⟩
      refine tree_end _ ?_
      refine tree_leaf ?_
      simp only [inOrder2, List.getElem?_cons_succ, List.getElem?_cons_zero, List.nil_append, List.cons_append]
      obtain ⟨w6, hmk, hm6, hg⟩ := run_make_full (P := Tryz.prog) w5 w.heap.size 33 51 i0 (.agg noTh.cells) 11 Tryz.underlying33 hi hz0 hz1 .i64 .i64 m (by rw [hz2]; omega) (by simp only [maxLen]; omega) hS.size
      replace hm6 : Mine w6 w.heap.size 51 11 (some ⟨w5.heap.size, 0, none⟩) m m _ := hm6
      have hb : Below w5.heap.size w5 w6 := ⟨hg.os, hg.tape, hg.output, hg.size, fun j hj => hg.block j hj (by simp)⟩
      replace hS := hS.on hb
      replace hm1 := hm1.kept hb
      refine o3_valF (a' := ?_) rfl rfl (make_run (.tmp 16) (.tmp 16) 33 _ _ _ rfl rfl hmk) ?_ hS ?_
      rotate_left
      focus (simp only [Act.put, List.setIfInBounds_toArray, List.set_cons_succ, List.set_cons_zero] <;> rfl)
      clear hmk hb hg
      generalize w5.heap.size = g6 at *
      ((with_reducible refine o3_calmF (v := ?_) (a' := ?_) hS ?_ (fun V => ?_) ?_ ?_); rotate_left 2; (rfl); (first | (go_simp; with_reducible rfl) | (go_simp; refine (if_pos ?_).trans ?_; omega; with_reducible rfl)); (simp only [Act.put, List.setIfInBounds_toArray, List.set_cons_succ, List.set_cons_zero] <;> rfl))
      rw [show (madeCells (Value.agg noTh.cells).cells (m * 11)).toList = _ from made_ths m] at hm6
      obtain ⟨v2, hst2, kr, hB5, hoth⟩ := run_store_block (P := Tryz.prog) (base := w.heap.size) (cs := ((newSt (⟨log, (m : Int), pol, wt, sp, yi, single⟩ : Cfg)).cells ⟨A1, none, none, none, none, some ⟨g6, 0, none⟩, none, c1, 0, 0, 0, 0, m, 0⟩).toList) (hS.get (B := w.heap.size + 1) (o := (.cells #[.int .i64 0, .int .i64 0, .int .i64 0, .int .i64 0, .int .i64 0, .int .i64 0, .bool false, .int .i64 0, .int .i64 0, .int .i64 0, .slice none 0 0, .slice none 0 0, .slice none 0 0, .int .i64 0, .slice none 0 0, .int .i64 0, .slice none 0 0, .int .i64 0, .slice none 0 0, .slice none 0 0] 36)) (by simp)) rfl (st_one _ _) (by omega)
      have hst3 := hst2
      simp only [newSt, St.cells, newS_len, List.length_replicate, hcr, List.length_nil, Int.toNat_natCast] at hst3
      refine o3_skipS rfl rfl (store36 hst3 rfl rfl rfl) rfl trivial ?_
      ((with_reducible refine o3_calmT (v := ?_) (a' := ?_) trivial ?_ (fun V => ?_) ?_ ?_); rotate_left 2; (rfl); (first | (go_simp; with_reducible rfl) | (go_simp; refine (if_pos ?_).trans ?_; omega; with_reducible rfl)); (simp only [Act.put, List.setIfInBounds_toArray, List.set_cons_succ, List.set_cons_zero] <;> rfl))
      refine tree_end _ ?_
      try simp only [Exit.then]
      go_wp2
      exact bodyPost_ret (results36_2 kr rfl rfl rfl) rfl ⟨_, rfl, (Owns.of (S := newSt (⟨log, (m : Int), pol, wt, sp, yi, single⟩ : Cfg)) (L := ⟨A1, none, none, none, none, some ⟨g6, 0, none⟩, none, c1, 0, 0, 0, 0, m, 0⟩) (by simpa [newSt, newS_len, hcr] using hm1) (World.ownsRow_nil _ _ _ _) (World.ownsRow_nil _ _ _ _) (World.ownsRow_nil _ _ _ _) (World.ownsRow_nil _ _ _ _) (by simpa [newSt] using hm6) (World.ownsRow_nil _ _ _ _)).put (hS.get (B := w.heap.size + 1) (o := (.cells #[.int .i64 0, .int .i64 0, .int .i64 0, .int .i64 0, .int .i64 0, .int .i64 0, .bool false, .int .i64 0, .int .i64 0, .int .i64 0, .slice none 0 0, .slice none 0 0, .slice none 0 0, .int .i64 0, .slice none 0 0, .int .i64 0, .slice none 0 0, .int .i64 0, .slice none 0 0, .slice none 0 0] 36)) (by simp)) okSt hoth, hS.below.trans hB5⟩
    · obtain ⟨w6, hmk, hm6, hg⟩ := run_make_full (P := Tryz.prog) w4 w.heap.size 33 51 i0 (.agg noTh.cells) 11 Tryz.underlying33 hi hz0 hz1 .i64 .i64 m (by rw [hz2]; omega) (by simp only [maxLen]; omega) hS.size
      replace hm6 : Mine w6 w.heap.size 51 11 (some ⟨w4.heap.size, 0, none⟩) m m _ := hm6
      have hb : Below w4.heap.size w4 w6 := ⟨hg.os, hg.tape, hg.output, hg.size, fun j hj => hg.block j hj (by simp)⟩
      replace hS := hS.on hb
      refine o3_valF (a' := ?_) rfl rfl (make_run (.tmp 16) (.tmp 16) 33 _ _ _ rfl rfl hmk) ?_ hS ?_
      rotate_left
      focus (simp only [Act.put, List.setIfInBounds_toArray, List.set_cons_succ, List.set_cons_zero] <;> rfl)
      clear hmk hb hg
      generalize w4.heap.size = g6 at *
      refine tree_end _ ?_
      refine tree_leaf ?_
      simp only [inOrder2, List.getElem?_cons_succ, List.getElem?_cons_zero, List.nil_append, List.cons_append]
      refine o3_onlyF rfl rfl ?_
      go_simp
      refine ⟨trivial, rfl, (callsIn_wide.2 (slotNew_any n _ hn1 hn2)).mono ?_⟩
      rintro e w5 ⟨A1, c1, rfl, hm1, hb⟩
      have hz5 := hS.size
      replace hm6 := hm6.kept hb
      replace hm1 := hm1.mono hz5
      replace hS := hS.on hb
      clear hb
      refine ⟨hS, ?_⟩
      ((with_reducible refine o3_calmF (v := ?_) (a' := ?_) hS ?_ (fun V => ?_) ?_ ?_); rotate_left 2; (rfl); (first | (go_simp; with_reducible rfl) | (go_simp; refine (if_pos ?_).trans ?_; omega; with_reducible rfl)); (simp only [Act.put, List.setIfInBounds_toArray, List.set_cons_succ, List.set_cons_zero] <;> rfl))
      rw [show (madeCells (Value.agg noTh.cells).cells (m * 11)).toList = _ from made_ths m] at hm6
      obtain ⟨v2, hst2, kr, hB5, hoth⟩ := run_store_block (P := Tryz.prog) (base := w.heap.size) (cs := ((newSt (⟨log, (m : Int), pol, wt, sp, yi, single⟩ : Cfg)).cells ⟨A1, none, none, none, none, some ⟨g6, 0, none⟩, none, c1, 0, 0, 0, 0, m, 0⟩).toList) (hS.get (B := w.heap.size + 1) (o := (.cells #[.int .i64 0, .int .i64 0, .int .i64 0, .int .i64 0, .int .i64 0, .int .i64 0, .bool false, .int .i64 0, .int .i64 0, .int .i64 0, .slice none 0 0, .slice none 0 0, .slice none 0 0, .int .i64 0, .slice none 0 0, .int .i64 0, .slice none 0 0, .int .i64 0, .slice none 0 0, .slice none 0 0] 36)) (by simp)) rfl (st_one _ _) (by omega)
      have hst3 := hst2
      simp only [newSt, St.cells, newS_len, List.length_replicate, hcr, List.length_nil, Int.toNat_natCast] at hst3
      refine o3_skipS rfl rfl (store36 hst3 rfl rfl rfl) rfl trivial ?_
      ((with_reducible refine o3_calmT (v := ?_) (a' := ?_) trivial ?_ (fun V => ?_) ?_ ?_); rotate_left 2; (rfl); (first | (go_simp; with_reducible rfl) | (go_simp; refine (if_pos ?_).trans ?_; omega; with_reducible rfl)); (simp only [Act.put, List.setIfInBounds_toArray, List.set_cons_succ, List.set_cons_zero] <;> rfl))
      refine tree_end _ ?_
      try simp only [Exit.then]
      go_wp2
      exact bodyPost_ret (results36_2 kr rfl rfl rfl) rfl ⟨_, rfl, (Owns.of (S := newSt (⟨log, (m : Int), pol, wt, sp, yi, single⟩ : Cfg)) (L := ⟨A1, none, none, none, none, some ⟨g6, 0, none⟩, none, c1, 0, 0, 0, 0, m, 0⟩) (by simpa [newSt, newS_len, hcr] using hm1) (World.ownsRow_nil _ _ _ _) (World.ownsRow_nil _ _ _ _) (World.ownsRow_nil _ _ _ _) (World.ownsRow_nil _ _ _ _) (by simpa [newSt] using hm6) (World.ownsRow_nil _ _ _ _)).put (hS.get (B := w.heap.size + 1) (o := (.cells #[.int .i64 0, .int .i64 0, .int .i64 0, .int .i64 0, .int .i64 0, .int .i64 0, .bool false, .int .i64 0, .int .i64 0, .int .i64 0, .slice none 0 0, .slice none 0 0, .slice none 0 0, .int .i64 0, .slice none 0 0, .int .i64 0, .slice none 0 0, .int .i64 0, .slice none 0 0, .slice none 0 0] 36)) (by simp)) okSt hoth, hS.below.trans hB5⟩
  · obtain ⟨w6, hmk, hm6, hg⟩ := run_make_full (P := Tryz.prog) w3 w.heap.size 33 51 i0 (.agg noTh.cells) 11 Tryz.underlying33 hi hz0 hz1 .i64 .i64 m (by rw [hz2]; omega) (by simp only [maxLen]; omega) hS.size
    replace hm6 : Mine w6 w.heap.size 51 11 (some ⟨w3.heap.size, 0, none⟩) m m _ := hm6
    have hb : Below w3.heap.size w3 w6 := ⟨hg.os, hg.tape, hg.output, hg.size, fun j hj => hg.block j hj (by simp)⟩
    replace hS := hS.on hb
    refine o3_valF (a' := ?_) rfl rfl (make_run (.tmp 16) (.tmp 16) 33 _ _ _ rfl rfl hmk) ?_ hS ?_
    rotate_left
    focus (simp only [Act.put, List.setIfInBounds_toArray, List.set_cons_succ, List.set_cons_zero] <;> rfl)
    clear hmk hb hg
    generalize w3.heap.size = g6 at *
    refine tree_end _ ?_
    refine tree_leaf ?_
    simp only [inOrder2, List.getElem?_cons_succ, List.getElem?_cons_zero, List.nil_append, List.cons_append]
    refine o3_onlyF rfl rfl ?_
    go_simp
    refine ⟨trivial, rfl, (callsIn_wide.2 (RM _)).mono ?_⟩
    rintro e w4 ⟨rfl, hb⟩
    replace hS := hS.on hb
    replace hm6 := hm6.kept hb
    clear hb
    refine ⟨hS, ?_⟩
    refine o3_onlyF rfl rfl ?_
    go_simp
    refine ⟨trivial, rfl, (callsIn_wide.2 (slotNew_any n _ hn1 hn2)).mono ?_⟩
    rintro e w5 ⟨A1, c1, rfl, hm1, hb⟩
    have hz5 := hS.size
    replace hm6 := hm6.kept hb
    replace hm1 := hm1.mono hz5
    replace hS := hS.on hb
    clear hb
    refine ⟨hS, ?_⟩
    ((with_reducible refine o3_calmF (v := ?_) (a' := ?_) hS ?_ (fun V => ?_) ?_ ?_); rotate_left 2; (rfl); (first | (go_simp; with_reducible rfl) | (go_simp; refine (if_pos ?_).trans ?_; omega; with_reducible rfl)); (simp only [Act.put, List.setIfInBounds_toArray, List.set_cons_succ, List.set_cons_zero] <;> rfl))
    rw [show (madeCells (Value.agg noTh.cells).cells (m * 11)).toList = _ from made_ths m] at hm6
    obtain ⟨v2, hst2, kr, hB5, hoth⟩ := run_store_block (P := Tryz.prog) (base := w.heap.size) (cs := ((newSt (⟨log, (m : Int), pol, wt, sp, yi, single⟩ : Cfg)).cells ⟨A1, none, none, none, none, some ⟨g6, 0, none⟩, none, c1, 0, 0, 0, 0, m, 0⟩).toList) (hS.get (B := w.heap.size + 1) (o := (.cells #[.int .i64 0, .int .i64 0, .int .i64 0, .int .i64 0, .int .i64 0, .int .i64 0, .bool false, .int .i64 0, .int .i64 0, .int .i64 0, .slice none 0 0, .slice none 0 0, .slice none 0 0, .int .i64 0, .slice none 0 0, .int .i64 0, .slice none 0 0, .int .i64 0, .slice none 0 0, .slice none 0 0] 36)) (by simp)) rfl (st_one _ _) (by omega)
    have hst3 := hst2
    simp only [newSt, St.cells, newS_len, List.length_replicate, hcr, List.length_nil, Int.toNat_natCast] at hst3
    refine o3_skipS rfl rfl (store36 hst3 rfl rfl rfl) rfl trivial ?_
    ((with_reducible refine o3_calmT (v := ?_) (a' := ?_) trivial ?_ (fun V => ?_) ?_ ?_); rotate_left 2; (rfl); (first | (go_simp; with_reducible rfl) | (go_simp; refine (if_pos ?_).trans ?_; omega; with_reducible rfl)); (simp only [Act.put, List.setIfInBounds_toArray, List.set_cons_succ, List.set_cons_zero] <;> rfl))
    refine tree_end _ ?_
    try simp only [Exit.then]
    go_wp2
    exact bodyPost_ret (results36_2 kr rfl rfl rfl) rfl ⟨_, rfl, (Owns.of (S := newSt (⟨log, (m : Int), pol, wt, sp, yi, single⟩ : Cfg)) (L := ⟨A1, none, none, none, none, some ⟨g6, 0, none⟩, none, c1, 0, 0, 0, 0, m, 0⟩) (by simpa [newSt, newS_len, hcr] using hm1) (World.ownsRow_nil _ _ _ _) (World.ownsRow_nil _ _ _ _) (World.ownsRow_nil _ _ _ _) (World.ownsRow_nil _ _ _ _) (by simpa [newSt] using hm6) (World.ownsRow_nil _ _ _ _)).put (hS.get (B := w.heap.size + 1) (o := (.cells #[.int .i64 0, .int .i64 0, .int .i64 0, .int .i64 0, .int .i64 0, .int .i64 0, .bool false, .int .i64 0, .int .i64 0, .int .i64 0, .slice none 0 0, .slice none 0 0, .slice none 0 0, .int .i64 0, .slice none 0 0, .int .i64 0, .slice none 0 0, .int .i64 0, .slice none 0 0, .slice none 0 0] 36)) (by simp)) okSt hoth, hS.below.trans hB5⟩

end Go.Proofs.YtnbgpopjnpdmgaaGreat

namespace Go.Proofs.YtnbgpopjnpdmgaaGreat
open Go Go.RowKit Go.Shelf

/-- Some are picked, one behind the other. -/
def St.some1 (S : St) (id : Int) : St := if (S.pick id).2 = 0 then (S.pick id).1 else S
def St.someN (S : St) (l : List Int) : St := l.foldl St.some1 S
theorem someN_snoc (S : St) (l : List Int) (x : Int) : S.someN (l ++ [x]) = (S.someN l).some1 x := by simp [St.someN]
/-- The numbers of all. -/
def allN (n : Nat) : List Int := (List.range n).map fun (i : Nat) => (i : Int)
theorem allN_snoc (n : Nat) : allN (n + 1) = allN n ++ [(n : Int)] := by simp [allN, List.range_succ]
theorem allN_len (n : Nat) : (allN n).length = n := by simp [allN]
def St.roundN (S : St) (l : List Int) : Nat → St
  | 0 => S
  | n + 1 => (S.roundN l n).someN l

set_option maxRecDepth 100000 in
set_option maxHeartbeats 8000000 in
theorem some_any (S : St) (L : Lay) (l : List Int) (A : Option Addr) (c : Nat) (w : World) (hsm : ∀ j, j ≤ l.length → (S.someN (l.take j)).small) (hH : Holds w S L) (hl : Lies w w.heap.size A (ints l)) (hll : l.length ≤ 100000) :
    Calls Tryz.prog 28 #[S.val L, .slice A l.length c] w fun e w' => ∃ (L' : Lay) (n : Int), e = .returned (.tuple #[(S.someN l).val L', .int .i64 n]) ∧ Owns w' w.heap.size (S.someN l) L' ∧ Below w.heap.size w w' := by
  have WK := fun W (hW : Below w.heap.size w W) => wake_any S L (-1) W (hsm 0 (Nat.zero_le _)) (hH.on hW)
  rw [wake_none] at WK
  obtain ⟨k0, k1, hB0⟩ := two_new w (.cells (S.cells L) 36) (.cells #[.int .i64 0, .int .i64 0, .int .i64 0, .int .i64 0, .int .i64 0, .int .i64 0, .bool false, .int .i64 0, .int .i64 0, .int .i64 0, .slice none 0 0, .slice none 0 0, .slice none 0 0, .int .i64 0, .slice none 0 0, .int .i64 0, .slice none 0 0, .int .i64 0, .slice none 0 0, .slice none 0 0] 36)
  go_enter Tryz.func28, Tryz.ntmps28
  go_wp2_with (first
      | ((with_reducible refine wpList_val (load36 k0 ?_ ?_) ?_); (focus rfl); (focus rfl))
      | (go_at_call 18; (with_reducible refine (WK _ hB0).mono ?_); rintro e w1 ⟨L1, rfl, ho, hb⟩; have hzz := hb.size; have kz := World.alloc_heap_new w1 (.cells #[.int .i64 0, .int .i64 0, .int .i64 0, .int .i64 0, .int .i64 0, .int .i64 0, .bool false, .int .i64 0, .int .i64 0, .int .i64 0, .slice none 0 0, .slice none 0 0, .slice none 0 0, .int .i64 0, .slice none 0 0, .int .i64 0, .slice none 0 0, .int .i64 0, .slice none 0 0, .slice none 0 0] 36); obtain ⟨v1, hst1, kb, hBz, hothz⟩ := run_store_block (P := Tryz.prog) (base := w1.heap.size) (cs := (S.cells L1).toList) kz rfl (st_one S L1) (Nat.le_refl _); have hbv : Below w1.heap.size w1 v1 := (below_one w1 _).trans hBz; replace k1 := kept (kept k1 hb) hbv; replace ho := ho.kept hbv; have hB1 := (hB0.trans (hb.mono hB0.size)).trans (hbv.mono (Nat.le_trans hB0.size hb.size)))
      | ((with_reducible refine wpList_skip (store36 hst1 ?_ ?_ ?_) ?_); (focus rfl); (focus rfl); (focus rfl)))
  have hbz : ((w.alloc (.cells (S.cells L) 36)).alloc (.cells #[.int .i64 0, .int .i64 0, .int .i64 0, .int .i64 0, .int .i64 0, .int .i64 0, .bool false, .int .i64 0, .int .i64 0, .int .i64 0, .slice none 0 0, .slice none 0 0, .slice none 0 0, .int .i64 0, .slice none 0 0, .int .i64 0, .slice none 0 0, .int .i64 0, .slice none 0 0, .slice none 0 0] 36)).heap.size = w.heap.size + 2 := by simp
  rw [hbz] at ho hzz
  clear k0 hst1 WK hB0 hothz hBz kz
  go_loopw [7, 16] (fun cnt i wr => ∃ (k : Nat) (n : Int) (Lk : Lay), k ≤ l.length ∧ i = .int .i64 k ∧ cnt = .int .i64 n ∧ (0 ≤ n ∧ n ≤ k) ∧ wr.heap[w1.heap.size]? = some (.cells ((S.someN (l.take k)).cells Lk) 36 (0, 0)) ∧ Owns wr (w.heap.size + 2) (S.someN (l.take k)) Lk ∧ wr.heap[w.heap.size + 1]? = some (.cells #[.int .i64 0, .int .i64 0, .int .i64 0, .int .i64 0, .int .i64 0, .int .i64 0, .bool false, .int .i64 0, .int .i64 0, .int .i64 0, .slice none 0 0, .slice none 0 0, .slice none 0 0, .int .i64 0, .slice none 0 0, .int .i64 0, .slice none 0 0, .int .i64 0, .slice none 0 0, .slice none 0 0] 36) ∧ Below w.heap.size w wr) (fun _ i _ => l.length - (intOf i).toNat)
  case atStart => exact ⟨0, 0, L1, Nat.zero_le _, rfl, rfl, ⟨Int.le_refl _, Int.le_refl _⟩, kb, ho, k1, hB1⟩
  case round =>
    clear kb ho k1 hB1 hb hbv
    obtain ⟨k, n, Lk, hk, rfl, rfl, hn, kb, hok, k1, hB⟩ := hrel
    have hszr : w.heap.size ≤ wr.heap.size := hB.size
    have hlr := hsm k hk
    have hlt1 := blk_lt kb
    by_cases hlt : k < l.length
    · obtain ⟨y, hy⟩ : ∃ y, l[k]? = some y := ⟨_, List.getElem?_eq_getElem hlt⟩
      obtain ⟨b, off, rfl, hb, hc⟩ := (hl.below hB).open_ (by rw [ints_len]; omega)
      have hcy := hc k _ (ints_get hy)
      have hsn : S.someN (l.take (k + 1)) = (S.someN (l.take k)).some1 y := by rw [take_snoc hy, someN_snoc]
      have hsk := hsm k hk
      have h1000 : l.length ≤ 100000 := hll
      generalize S.someN (l.take k) = Sk at *
      have hs1 : Sk.some1 y = if (Sk.pick y).2 = 0 then (Sk.pick y).1 else Sk := rfl
      rw [hs1] at hsn
      generalize hpk : Sk.pick y = pr at *
      obtain ⟨Sp, er⟩ := pr
      dsimp only at *
      have HS := Lib.hid hsn
      clear hsn hs1 hy hc
      by_cases h0 : er = 0
      · subst h0
        go_wp2_with (first
            | ((with_reducible refine wpList_val (load36 kb ?_ ?_) ?_); (focus rfl); (focus rfl))
            | (go_at_call 55; (with_reducible refine (pick_any Sk Lk y _ hsk hok.holds).mono ?_); rw [hpk]; dsimp only; rintro e w2 ⟨L2, rfl, ho2, hb2⟩; (have hsz2 := hb2.size; have kb2 := kept kb hb2; have k12 := kept k1 hb2; have kz := World.alloc_heap_new w2 (.cells #[.int .i64 0, .int .i64 0, .int .i64 0, .int .i64 0, .int .i64 0, .int .i64 0, .bool false, .int .i64 0, .int .i64 0, .int .i64 0, .slice none 0 0, .slice none 0 0, .slice none 0 0, .int .i64 0, .slice none 0 0, .int .i64 0, .slice none 0 0, .int .i64 0, .slice none 0 0, .slice none 0 0] 36); obtain ⟨v1, hst1, kt, hBz, hothz⟩ := run_store_block (P := Tryz.prog) (base := w2.heap.size) (cs := (Sp.cells L2).toList) kz rfl (st_one Sp L2) (Nat.le_refl _); have hbv : Below w2.heap.size w2 v1 := (below_one w2 _).trans hBz; replace kb2 := kept kb2 hbv; replace k12 := kept k12 hbv; have hbb := hb2.trans (hbv.mono hsz2); have hB2 := hB.trans (hbb.mono hszr); have kbv := kb2; obtain ⟨v2, hv2, kv2, hBv2, hov2⟩ := run_store_block (P := Tryz.prog) (base := w.heap.size) (cs := (Sp.cells L2).toList) kb2 rfl (st_one Sp L2) (by omega); have ho3 := ((ho2.kept hbv).mono (base' := w.heap.size + 2) (by omega)).put kb2 okSt hov2; have k13 := (hov2 (w.heap.size + 1) (by omega)).trans k12; have hB3 := hB2.trans hBv2))
            | ((with_reducible refine wpList_skip (store36 hst1 ?_ ?_ ?_) ?_); (focus rfl); (focus rfl); (focus rfl))
            | ((with_reducible refine wpList_val (load36 kt ?_ ?_) ?_); (focus rfl); (focus rfl))
            | ((with_reducible refine wpList_skip (store36 hv2 ?_ ?_ ?_) ?_); (focus rfl); (focus rfl); (focus rfl)))
        go_roundw
        case rel => exact ⟨k + 1, n + 1, L2, by omega, by go_num, by go_num, by omega, by rw [HS.out]; exact kv2, by rw [HS.out]; exact ho3, k13, hB3⟩
        case measure => simp [intOf]; omega
      · have h0' : (er == 0) = false := by simpa using h0
        go_wp2_with (first
            | ((with_reducible refine wpList_val (load36 kb ?_ ?_) ?_); (focus rfl); (focus rfl))
            | (go_at_call 55; (with_reducible refine (pick_any Sk Lk y _ hsk hok.holds).mono ?_); rw [hpk]; dsimp only; rintro e w2 ⟨L2, rfl, ho2, hb2⟩; (have hsz2 := hb2.size; have kb2 := kept kb hb2; have k12 := kept k1 hb2; have kz := World.alloc_heap_new w2 (.cells #[.int .i64 0, .int .i64 0, .int .i64 0, .int .i64 0, .int .i64 0, .int .i64 0, .bool false, .int .i64 0, .int .i64 0, .int .i64 0, .slice none 0 0, .slice none 0 0, .slice none 0 0, .int .i64 0, .slice none 0 0, .int .i64 0, .slice none 0 0, .int .i64 0, .slice none 0 0, .slice none 0 0] 36); obtain ⟨v1, hst1, kt, hBz, hothz⟩ := run_store_block (P := Tryz.prog) (base := w2.heap.size) (cs := (Sp.cells L2).toList) kz rfl (st_one Sp L2) (Nat.le_refl _); have hbv : Below w2.heap.size w2 v1 := (below_one w2 _).trans hBz; replace kb2 := kept kb2 hbv; replace k12 := kept k12 hbv; have hbb := hb2.trans (hbv.mono hsz2); have hB2 := hB.trans (hbb.mono hszr)))
            | ((with_reducible refine wpList_skip (store36 hst1 ?_ ?_ ?_) ?_); (focus rfl); (focus rfl); (focus rfl)))
        go_roundw
        case rel => exact ⟨k + 1, n, Lk, by omega, by go_num, rfl, by omega, by rw [HS.out, if_neg h0]; exact kb2, by rw [HS.out, if_neg h0]; exact hok.kept hbb, k12, hB2⟩
        case measure => simp [intOf]; omega
    · obtain rfl : k = l.length := by omega
      rw [List.take_length] at *
      obtain ⟨v6, hv6, kv6, hBv6, hov6⟩ := run_store_block (P := Tryz.prog) (base := w.heap.size) (cs := ((S.someN l).cells Lk).toList) k1 rfl (st_one _ _) (by omega)
      go_wp2_with (first
          | ((with_reducible refine wpList_val (load36 kb ?_ ?_) ?_); (focus rfl); (focus rfl))
          | ((with_reducible refine wpList_skip (store36 hv6 ?_ ?_ ?_) ?_); (focus rfl); (focus rfl); (focus rfl)))
      exact bodyPost_ret (results36_2 kv6 rfl rfl rfl) rfl ⟨Lk, ⟨n, rfl⟩, (hok.same (B := w.heap.size + 1) (by omega) hov6).mono (by omega), hB.trans hBv6⟩

theorem some_at (S : St) (L : Lay) (l : List Int) (A : Option Addr) (c n : Nat) (w : World) (hn : n = l.length) (hsm : ∀ j, j ≤ l.length → (S.someN (l.take j)).small) (hH : Holds w S L) (hl : Lies w w.heap.size A (ints l)) (hll : l.length ≤ 100000) :
    Calls Tryz.prog 28 #[S.val L, .slice A n c] w fun e w' => ∃ (L' : Lay) (m : Int), e = .returned (.tuple #[(S.someN l).val L', .int .i64 m]) ∧ Owns w' w.heap.size (S.someN l) L' ∧ Below w.heap.size w w' := by
  subst hn
  exact some_any S L l A c w hsm hH hl hll

theorem Mine.aside {w w' : World} {base : Nat} {A : Option Addr} {c n B : Nat} {xs : List Value} (h : Mine w base 3 1 A c n xs) (hB : B < base) (hs : ∀ j, j ≠ B → w'.heap[j]? = w.heap[j]?) : Mine w' base 3 1 A c n xs :=
  h.grown fun g off t e => hs g (by have := (h.base g off t e).1; omega)

set_option maxRecDepth 100000 in
set_option maxHeartbeats 8000000 in
theorem rounds_at (S : St) (L : Lay) (l : List Int) (k : Nat) (w : World) (hl0 : l = allN S.ths.length) (hk200 : k < 200) (hsm0 : S.small) (hsm : ∀ i, i ≤ k → ∀ j, j ≤ l.length → ((S.roundN l i).someN (l.take j)).small) (hps : ∀ i, i ≤ k → 0 < (S.roundN l i).ths.length) (hq : ∀ i, i < k → (S.roundN l i).quiet = false) (hqk : (S.roundN l k).quiet = true) (hH : Holds w S L) :
    Calls Tryz.prog 11 #[S.val L, .int .i64 200] w fun e w' => ∃ L' : Lay, e = .returned (.tuple #[(S.roundN l k).val L', .int .i64 k]) ∧ Owns w' w.heap.size (S.roundN l k) L' ∧ Below w.heap.size w w' := by
  have WK := fun W (hW : Below w.heap.size w W) => wake_any S L (-1) W hsm0 (hH.on hW)
  rw [wake_none] at WK
  obtain ⟨k0, k1, hB0⟩ := two_new w (.cells (S.cells L) 36) (.cells #[.int .i64 0, .int .i64 0, .int .i64 0, .int .i64 0, .int .i64 0, .int .i64 0, .bool false, .int .i64 0, .int .i64 0, .int .i64 0, .slice none 0 0, .slice none 0 0, .slice none 0 0, .int .i64 0, .slice none 0 0, .int .i64 0, .slice none 0 0, .int .i64 0, .slice none 0 0, .slice none 0 0] 36)
  have hl6 := hsm0.2.2.2.2.2.1
  obtain ⟨i0, hi, hz0, hz1, hz2⟩ := info_parts int_inf
  go_enter Tryz.func11, Tryz.ntmps11
  go_wp2_with (first
      | ((with_reducible refine wpList_val (load36 k0 ?_ ?_) ?_); (focus rfl); (focus rfl))
      | (go_at_call 18; (with_reducible refine (WK _ hB0).mono ?_); rintro e w1 ⟨L1, rfl, ho, hb⟩; have hzz := hb.size; have kz := World.alloc_heap_new w1 (.cells #[.int .i64 0, .int .i64 0, .int .i64 0, .int .i64 0, .int .i64 0, .int .i64 0, .bool false, .int .i64 0, .int .i64 0, .int .i64 0, .slice none 0 0, .slice none 0 0, .slice none 0 0, .int .i64 0, .slice none 0 0, .int .i64 0, .slice none 0 0, .int .i64 0, .slice none 0 0, .slice none 0 0] 36); obtain ⟨v1, hst1, kb, hBz, hothz⟩ := run_store_block (P := Tryz.prog) (base := w1.heap.size) (cs := (S.cells L1).toList) kz rfl (st_one S L1) (Nat.le_refl _); have hbv : Below w1.heap.size w1 v1 := (below_one w1 _).trans hBz; replace k1 := kept (kept k1 hb) hbv; replace k0 := kept (kept k0 hb) hbv; have c18 : v1.cell? ⟨w.heap.size, 18, none⟩ = some (.slice L.a6 S.ths.length L.c6) := (of_block k0 18).1; replace ho := ho.kept hbv; have hB1 := (hB0.trans (hb.mono hB0.size)).trans (hbv.mono (Nat.le_trans hB0.size hb.size)))
      | ((with_reducible refine wpList_skip (store36 hst1 ?_ ?_ ?_) ?_); (focus rfl); (focus rfl); (focus rfl)))
  have hbz : ((w.alloc (.cells (S.cells L) 36)).alloc (.cells #[.int .i64 0, .int .i64 0, .int .i64 0, .int .i64 0, .int .i64 0, .int .i64 0, .bool false, .int .i64 0, .int .i64 0, .int .i64 0, .slice none 0 0, .slice none 0 0, .slice none 0 0, .int .i64 0, .slice none 0 0, .int .i64 0, .slice none 0 0, .int .i64 0, .slice none 0 0, .slice none 0 0] 36)).heap.size = w.heap.size + 2 := by simp
  rw [hbz] at ho hzz
  clear k0 hst1 WK hB0 hothz hBz kz
  go_loopw [7, 15] (fun v i wr => ∃ (n : Nat) (A' : Option Addr) (c' : Nat), n ≤ S.ths.length ∧ i = .int .i64 n ∧ v = .slice A' n c' ∧ Mine wr v1.heap.size 3 1 A' c' n (ints (allN n)) ∧ Below v1.heap.size v1 wr) (fun _ i _ => S.ths.length - (intOf i).toNat)
  case atStart => exact ⟨0, none, 0, Nat.zero_le _, rfl, rfl, World.ownsRow_nil _ _ _ _, Below.refl _ _⟩
  case round =>
    obtain ⟨n, A', c', hn, rfl, rfl, hown, hBn⟩ := hrel
    have hszn := hBn.size
    by_cases hlt : n < S.ths.length
    · go_wp2_with (first
          | (at_builtin; go_loud (refine wpList_append_own _ rfl _ _ 30 rfl v1.heap.size 3 i0 (.int .i64 0) 1 8 Tryz.underlying30 hi hz0 hz1 hz2 rfl (by decide) _ _ _ rfl (World.ownsRow.alloc hown _) ⟨wr.heap.size, 0, none⟩ 1 1 [.int .i64 n] rfl rfl (cell_one _ _ _) (by simp [Value.oneCell']) (by simp only [maxLen]; omega) (by omega) (by simp; omega) ?_); intro v' wz hown' hgrow hnil))
      have hB2 : Below v1.heap.size v1 wz := (hBn.alloc hszn _).grown hgrow (by simp; omega) (by intro g hg; exact (World.ownsRow.lt hown g hg).1)
      have hown2 : wz.ownsRow v1.heap.size 3 1 v' (n + 1) (ints (allN (n + 1))) := by rw [allN_snoc]; simpa using hown'
      clear hown hown' hgrow hBn
      obtain ⟨A2, c2, rfl⟩ : ∃ A2 c2, v' = .slice A2 (n + 1) c2 := by
        rcases hown2.2 with ⟨e1, e2⟩ | ⟨g, cap, cur, e1, _⟩
        · exact ⟨none, 0, by rw [e1, e2]⟩
        · exact ⟨_, cap, e1⟩
      go_roundw
      case rel => exact ⟨n + 1, A2, c2, by omega, by go_num, rfl, hown2, hB2⟩
      case measure => simp [intOf]; omega
    · obtain rfl : n = S.ths.length := by omega
      go_wp2_with fail
      have hll : l.length ≤ 100000 := by rw [hl0, allN_len]; omega
      have hlen : S.ths.length = l.length := by rw [hl0, allN_len]
      have hl : Mine wr v1.heap.size 3 1 A' c' l.length (ints l) := by rw [← hlen, hl0]; exact hown
      clear hown
      have hsv := hbv.size
      have hlt6 := blk_lt kb
      replace kb := kept kb hBn
      replace k1 := kept k1 hBn
      replace ho := ho.kept hBn
      have hB := hB1.trans (hBn.mono hB1.size)
      generalize v1.heap.size = z1 at *
      have HL := Lib.hid hlen
      clear hlen hl0 c18 hbv hb hBn hszn hB1
      go_loopw [26] (fun i wr => ∃ (j : Nat) (Lk : Lay), j ≤ k ∧ i = .int .i64 j ∧ wr.heap[w1.heap.size]? = some (.cells ((S.roundN l j).cells Lk) 36 (0, 0)) ∧ Owns wr (w.heap.size + 2) (S.roundN l j) Lk ∧ wr.heap[w.heap.size + 1]? = some (.cells #[.int .i64 0, .int .i64 0, .int .i64 0, .int .i64 0, .int .i64 0, .int .i64 0, .bool false, .int .i64 0, .int .i64 0, .int .i64 0, .slice none 0 0, .slice none 0 0, .slice none 0 0, .int .i64 0, .slice none 0 0, .int .i64 0, .slice none 0 0, .int .i64 0, .slice none 0 0, .slice none 0 0] 36) ∧ Mine wr z1 3 1 A' c' l.length (ints l) ∧ Below w.heap.size w wr) (fun i _ => 200 - (intOf i).toNat)
      case atStart => exact ⟨0, L1, Nat.zero_le _, rfl, kb, ho, k1, hl, hB⟩
      case round =>
        clear kb ho k1 hl hB
        obtain ⟨j, Lk, hj, rfl, kb, hok, k1, hl, hB⟩ := hrel
        have hszr := hB.size
        have hltb := blk_lt kb
        have hsj : (S.roundN l j).small := hsm j hj 0 (Nat.zero_le _)
        have hpj := hps j hj
        have hsmj := hsm j hj
        by_cases hlt : j < k
        · have hqj := hq j hlt
          have hSn : S.roundN l (j + 1) = (S.roundN l j).someN l := rfl
          generalize hSn2 : S.roundN l (j + 1) = Sn at *
          generalize S.roundN l j = Sj at *
          replace hSn := hSn.symm
          clear hq hqk hsm hps
          go_wp2_with (first
              | ((with_reducible refine wpList_val (load36 kb ?_ ?_) ?_); (focus rfl); (focus rfl))
              | (go_at_call 12; (with_reducible refine (quiet_any Sj Lk _ hsj hok.holds hpj).mono ?_); rw [hqj]; rintro e w2 ⟨rfl, hb2⟩; have kb2 := kept kb hb2; have k12 := kept k1 hb2; have hB2 := hB.trans (hb2.mono hszr); have hl2 := hl.kept hb2; have hok2 := hok.kept hb2; have hsz2 := hb2.size)
              | ((with_reducible refine wpList_val (load36 kb2 ?_ ?_) ?_); (focus rfl); (focus rfl))
              | (go_at_call 28; go_loud (with_reducible refine (some_at Sj Lk l A' c' S.ths.length _ HL.out hsmj hok2.holds hl2.lies hll).mono ?_); go_loud (rw [hSn]); go_loud (rintro e w3 ⟨L3, m3, rfl, ho3, hb3⟩); go_loud ( have kb3 := kept kb2 hb3; have k13 := kept k12 hb3; have hB3 := hB2.trans (hb3.mono (by omega)); have hl3 := hl2.kept hb3; obtain ⟨v2, hv2, kv2, hBv2, hov2⟩ := run_store_block (P := Tryz.prog) (base := w.heap.size) (cs := (Sn.cells L3).toList) kb3 rfl (st_one Sn L3) (by omega); have ho4 := (ho3.mono (base' := w.heap.size + 2) (by omega)).put kb3 okSt hov2; have k14 := (hov2 (w.heap.size + 1) (by omega)).trans k13; have hB4 := hB3.trans hBv2; have hl4 := hl3.aside (by omega) hov2))
              | ((with_reducible refine wpList_skip (store36 hv2 ?_ ?_ ?_) ?_); (focus rfl); (focus rfl); (focus rfl)))
          go_roundw
          case rel => exact ⟨j + 1, L3, by omega, by go_num, by rw [hSn2]; exact kv2, by rw [hSn2]; exact ho4, k14, hl4, hB4⟩
          case measure => simp [intOf]; omega
        · obtain rfl : j = k := by omega
          have hqj := hqk
          clear hq hqk hsm hps
          skip
          go_wp2_with (first
              | ((with_reducible refine wpList_val (load36 kb ?_ ?_) ?_); (focus rfl); (focus rfl))
              | (go_at_call 12; (with_reducible refine (quiet_any (S.roundN l j) Lk _ hsj hok.holds hpj).mono ?_); rw [hqj]; rintro e w2 ⟨rfl, hb2⟩; have kb2 := kept kb hb2; have k12 := kept k1 hb2; have hB2 := hB.trans (hb2.mono hszr); have hl2 := hl.kept hb2; have hok2 := hok.kept hb2; have hsz2 := hb2.size; obtain ⟨v6, hv6, kv6, hBv6, hov6⟩ := run_store_block (P := Tryz.prog) (base := w.heap.size) (cs := ((S.roundN l j).cells Lk).toList) k12 rfl (st_one _ _) (by omega))
              | ((with_reducible refine wpList_val (load36 kb2 ?_ ?_) ?_); (focus rfl); (focus rfl))
              | ((with_reducible refine wpList_skip (store36 hv6 ?_ ?_ ?_) ?_); (focus rfl); (focus rfl); (focus rfl)))
          exact bodyPost_ret (results36_2 kv6 rfl rfl rfl) rfl ⟨Lk, rfl, (hok2.same (B := w.heap.size + 1) (by omega) hov6).mono (by omega), hB2.trans hBv6⟩

end Go.Proofs.YtnbgpopjnpdmgaaGreat
