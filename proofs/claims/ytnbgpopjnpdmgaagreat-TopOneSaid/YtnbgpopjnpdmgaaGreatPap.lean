/-
  DERIVED. Copy, Slot2, Slot3.
-/
import Derived.Laws.CopyRow
import Derived.Test.YtnbgpopjnpdmgaaGreatPao
set_option linter.unusedVariables false
set_option linter.unusedSimpArgs false

namespace Go.Proofs.YtnbgpopjnpdmgaaGreat
open Go Go.RowKit Go.Shelf

theorem run_copy_rows {P : Program} (w : World) (dT sT ty elem : TypeId) (g k n dCap : Nat) (a : Addr) (sCap : Nat) (cur : Array Value) (t : TypeId) (cs : List Value)
    (hu : P.underlying dT = some (.slice elem)) (hs : (P.info? elem).map (·.size) = some k)
    (hg : w.heap[g]? = some (.cells cur t (0, 0))) (hn : cs.length = n * k)
    (hsrc : ∀ j v, cs[j]? = some v → w.cell? (a.add j) = some v) (hfit : cs.length = cur.size) (h1 : ∀ v ∈ cs, v.oneCell' = true) :
    (Builtin.copy_ #[dT, sT] ty #[.slice (some ⟨g, 0, none⟩) n dCap, .slice (some a) n sCap]).run P w = .ok (goInt n) (w.setRow g cs.toArray) := by
  have hl := run_loadCells_list (P := P) w a cs hsrc
  have hst := run_storeCells_at P g 0 t cs 0 cur w hg (by omega) h1
  have e : (cur.toList.take (0 + 0) ++ cs ++ cur.toList.drop (0 + 0 + cs.length)).toArray = cs.toArray := by
    have : cur.toList.drop (0 + 0 + cs.length) = [] := by rw [List.drop_eq_nil_iff]; simp; omega
    rw [this]
    simp
  rw [e] at hst
  cases hq : P.info? elem with
  | none => simp [hq] at hs
  | some i =>
    have hi : i.size = k := by simpa [hq] using hs
    simp [Builtin.copy_, run_underlying hu, Builtin.lenOf, Builtin.firstCells, sizeOf, typeInfo, hq, hi, ← hn, hl, hst]

/-- The run of a copy of all into what was just made. -/
theorem copy_run {P : Program} {w : World} {dT sT ty elem : TypeId} {k g n b off sCap base : Nat} {xs cs : List Value}
    (hu : P.underlying dT = some (.slice elem)) (hsz : (P.info? elem).map (·.size) = some k)
    (hown : Mine w base elem k (some ⟨g, 0, none⟩) n n xs) (hn : cs.length = n * k)
    (hsrc : ∀ i x, cs[i]? = some x → w.cell? ⟨b, off + i, none⟩ = some x) (h1 : ∀ v ∈ cs, v.oneCell' = true) :
    ∃ w', (Builtin.copy_ #[dT, sT] ty #[.slice (some ⟨g, 0, none⟩) n n, .slice (some ⟨b, off, none⟩) n sCap]).run P w = .ok (.int .i64 n) w' ∧ Mine w' base elem k (some ⟨g, 0, none⟩) n n cs ∧ Below base w w' := by
  rcases hown.2 with ⟨e1, _⟩ | ⟨g', cap, cur, e1, hb, hg, hnc, hm, hcs, ht⟩
  · cases e1
  · injection e1 with a1 a2 a3
    injection a1 with a1
    injection a1 with a1
    subst a1
    subst a3
    have hrun := run_copy_rows (P := P) w dT sT ty elem g k n n ⟨b, off, none⟩ sCap cur elem cs hu hsz hg hn (fun j v hj => by rw [Addr.add_lit]; exact hsrc j v hj) (by rw [hn, hcs]) h1
    have hset := setRow_heap w g cur cs.toArray elem (0, 0) hg
    have hoth : ∀ j, j ≠ g → (w.setRow g cs.toArray).heap[j]? = w.heap[j]? := fun j hj => setRow_other w g j cs.toArray hj
    exact ⟨_, hrun, ⟨hn, .inr ⟨g, n, cs.toArray, rfl, hb, hset, Nat.le_refl _, hm, by simpa using hn, by simp [← hn]⟩⟩, ⟨rfl, rfl, rfl, by simp [World.setRow], fun j hj => hoth j (by omega)⟩⟩

end Go.Proofs.YtnbgpopjnpdmgaaGreat

namespace Go.Proofs.YtnbgpopjnpdmgaaGreat
open Go Go.RowKit Go.Shelf

def plAt (l : List Pl) (p : Int) : Pl := l.getD (place p l.length).toNat ⟨0, 0⟩
def readyOf (l : List Pl) (p : Int) : Bool := (plAt l p).stamp == p
theorem slotsOk_len {l : List Pl} (h : slotsOk l = true) : 1 ≤ l.length ∧ l.length ≤ 64 := by
  simp only [slotsOk, Bool.and_eq_true, decide_eq_true_eq] at h
  exact h.2
/-- Where a position lies. -/
theorem plAt_get {l : List Pl} (h : slotsOk l = true) (p : Int) : ∃ k : Nat, place p l.length = k ∧ k < l.length ∧ l[k]? = some (plAt l p) := by
  have hn := slotsOk_len h
  have hp := place_lt (p := p) (n := l.length) (by omega)
  have hk : (place p l.length).toNat < l.length := by omega
  exact ⟨(place p l.length).toNat, by omega, hk, by simp [plAt, List.getD_eq_getElem?_getD, hk]⟩
theorem slotsOk_stamp {l : List Pl} (h : slotsOk l = true) {k : Nat} {x : Pl} (hk : l[k]? = some x) : 0 ≤ x.stamp ∧ x.stamp ≤ 2199023255552 := by
  simp only [slotsOk, Bool.and_eq_true] at h
  have := slotsFrom_at h.1 hk
  exact ⟨this.1, this.2.1⟩
theorem pls_set {l : List Pl} {k : Nat} (hk : k < l.length) (x : Pl) : pls (l.set k x) = ((pls l).set (k * 2) (.int .i64 x.stamp)).set (k * 2 + 1) (.int .i64 x.val) := by
  induction l generalizing k with
  | nil => simp at hk
  | cons a l ih =>
    cases k with
    | zero => rfl
    | succ k =>
      have := ih (k := k) (by simpa using hk)
      simp only [pls, List.set_cons_succ, List.flatMap_cons] at this ⊢
      rw [this, show (k + 1) * 2 = k * 2 + 1 + 1 by omega]
      simp
theorem set_same {α : Type} {l : List α} {k : Nat} {x : α} (h : l[k]? = some x) : l.set k x = l := by
  obtain ⟨hk, rfl⟩ := List.getElem?_eq_some_iff.1 h
  exact List.set_getElem_self hk
theorem pls_val {l : List Pl} {k : Nat} {x : Pl} (h : l[k]? = some x) (v : Int) : pls (l.set k ⟨x.stamp, v⟩) = (pls l).set (k * 2 + 1) (.int .i64 v) := by
  rw [pls_set (List.getElem?_eq_some_iff.1 h).1, set_same (pls_at h).1]
theorem pls_stamp {l : List Pl} {k : Nat} {x : Pl} (h : l[k]? = some x) (v : Int) : pls (l.set k ⟨v, x.val⟩) = (pls l).set (k * 2) (.int .i64 v) := by
  rw [pls_set (List.getElem?_eq_some_iff.1 h).1, List.set_comm _ _ (by omega), set_same (pls_at h).2]
def setAt (l : List Pl) (p : Int) (x : Pl) : List Pl := l.set (place p l.length).toNat x
theorem setAt_len (l : List Pl) (p : Int) (x : Pl) : (setAt l p x).length = l.length := by simp [setAt]
/-- One cell of a row of the call's own is written. -/
theorem Mine.set {w : World} {base : Nat} {e : TypeId} {k : Nat} {g c n : Nat} {xs : List Value} (h : Mine w base e k (some ⟨g, 0, none⟩) c n xs) (j : Nat) (v : Value) (hj : j < xs.length) :
    Mine (w.setCell ⟨g, j, none⟩ v) base e k (some ⟨g, 0, none⟩) c n (xs.set j v) := by
  refine ⟨by simpa using h.1, ?_⟩
  rcases h.2 with ⟨e1, _⟩ | ⟨g', cap, cur, e1, hb, hg, hn, hm, hs, ht⟩
  · cases e1
  · injection e1 with a1 a2 a3
    injection a1 with a1
    injection a1 with a1
    subst a1
    subst a3
    refine .inr ⟨g, c, cur.setIfInBounds j v, rfl, hb, put_cell hg v, hn, hm, by simpa using hs, ?_⟩
    rw [Array.toList_setIfInBounds, ← ht, List.take_set]
theorem Mine.cellAt {w : World} {base : Nat} {e : TypeId} {k : Nat} {g c n : Nat} {xs : List Value} (h : Mine w base e k (some ⟨g, 0, none⟩) c n xs) {j : Nat} {v : Value} (hj : xs[j]? = some v) : w.cell? ⟨g, j, none⟩ = some v ∧ w.frozen? ⟨g, j, none⟩ = false := by
  have h1 := World.ownsRow.cells h (g := g) rfl j v hj
  rw [Addr.add_lit, Nat.zero_add] at h1
  refine ⟨h1, ?_⟩
  rcases h.2 with ⟨e1, _⟩ | ⟨g', cap, cur, e1, hb, hg, _⟩
  · cases e1
  · injection e1 with a1 a2 a3
    injection a1 with a1
    injection a1 with a1
    subst a1
    simp [World.frozen?, hg]
theorem pl_inf : (Tryz.prog.info? 65).map (fun i => (i.zero, i.size, i.bytes)) = some (some (.agg #[.int .i64 0, .int .i64 0]), 2, 16) := by kernel_rfl
theorem pl_sz : (Tryz.prog.info? 65).map (·.size) = some 2 := by kernel_rfl

set_option maxRecDepth 100000 in
set_option maxHeartbeats 2000000 in
theorem ready_any (l : List Pl) (p : Int) (A : Option Addr) (c : Nat) (w : World) (hok : slotsOk l = true) (hp : 0 ≤ p) (hA : Lies w w.heap.size A (pls l)) :
    Calls Tryz.prog 192 #[.slice A l.length c, .int .i64 p] w fun e w' => e = .returned (.bool (readyOf l p)) ∧ Below w.heap.size w w' := by
  have hn := slotsOk_len hok
  have C := slotCheck_any l A c w (by omega) hA
  rw [hok] at C
  have P := fun W => pos_place p l.length W
  obtain ⟨k, hk, hkl, hg⟩ := plAt_get hok p
  obtain ⟨b, off, rfl, hb, hc⟩ := hA.open_ (by rw [pls_len]; omega)
  have c0 := hc _ _ (pls_at hg).1
  rw [hk] at P
  unfold readyOf
  generalize plAt l p = x at *
  obtain ⟨xs, xv⟩ := x
  dsimp only at *
  clear hc hg hA hok hk
  go_enter Tryz.func192, Tryz.ntmps192
  go_wp2_with (first
      | (go_at_call 44; (with_reducible refine (C).mono ?_); rintro e w1 ⟨rfl, hb1⟩; have c1 := (hb1.cell (p := ⟨b, off + k * 2, none⟩) hb).trans c0)
      | (go_at_call 68; (with_reducible refine (P _).mono ?_); rintro e v0 ⟨rfl, hw⟩; obtain rfl := hw.symm; clear hw))
  go_ret
  exact ⟨rfl, hb1⟩

set_option maxRecDepth 100000 in
set_option maxHeartbeats 2000000 in
theorem write1_any (v : Int) (x : Value) (g o B : Nat) (w : World) (h1 : w.cell? ⟨g, o + 1, none⟩ = some x) (h2 : w.frozen? ⟨g, o + 1, none⟩ = false) (hB : w.cell? ⟨B, 0, none⟩ = some (.int .i64 v)) :
    Calls Tryz.prog 179 #[.pointer (some ⟨g, o, none⟩), .pointer (some ⟨B, 0, none⟩)] w fun e w' => e = .returned (.tuple #[]) ∧ w' = w.setCell ⟨g, o + 1, none⟩ (.int .i64 v) := by
  go_enter Tryz.func179, Tryz.ntmps179
  go_wp2
  go_returns
  exact ⟨rfl, rfl⟩

set_option maxRecDepth 100000 in
set_option maxHeartbeats 2000000 in
theorem read1_any (v : Int) (x : Value) (g o B : Nat) (w : World) (h1 : w.cell? ⟨g, o + 1, none⟩ = some (.int .i64 v)) (h2 : w.frozen? ⟨B, 0, none⟩ = false) (hB : w.cell? ⟨B, 0, none⟩ = some x) :
    Calls Tryz.prog 184 #[.pointer (some ⟨g, o, none⟩), .pointer (some ⟨B, 0, none⟩)] w fun e w' => e = .returned (.tuple #[]) ∧ w' = w.setCell ⟨B, 0, none⟩ (.int .i64 v) := by
  go_enter Tryz.func184, Tryz.ntmps184
  go_wp2
  go_returns
  exact ⟨rfl, rfl⟩

def RelS (g o Bp Bl : Nat) (p s : Int) (A : Option Addr) (n c : Nat) (V : World) : Prop := V.cell? ⟨g, o, none⟩ = some (.int .i64 s) ∧ V.frozen? ⟨g, o, none⟩ = false ∧ V.cell? ⟨Bp, 0, none⟩ = some (.int .i64 p) ∧ V.cell? ⟨Bl, 0, none⟩ = some (.slice A n c)

theorem RelS.intro {g o Bp Bl : Nat} {p s : Int} {A : Option Addr} {n c : Nat} {V : World} (h1 : V.cell? ⟨g, o, none⟩ = some (.int .i64 s) ∧ V.frozen? ⟨g, o, none⟩ = false) (h3 : V.cell? ⟨Bp, 0, none⟩ = some (.int .i64 p)) (h4 : V.cell? ⟨Bl, 0, none⟩ = some (.slice A n c)) : RelS g o Bp Bl p s A n c V := ⟨h1.1, h1.2, h3, h4⟩
set_option maxRecDepth 100000 in
set_option maxHeartbeats 2000000 in
theorem release1_any (p s : Int) (n c : Nat) (A : Option Addr) (g o Bp Be Bl : Nat) (w : World) (hS0 : RelS g o Bp Bl p s A n c w) (hp : p ≤ 1099511627776) (hn : n ≤ 64) (hs0 : 0 ≤ s) (hs1 : s ≤ 2199023255552) :
    Calls Tryz.prog 182 #[.pointer (some ⟨g, o, none⟩), .pointer (some ⟨Bp, 0, none⟩), .pointer (some ⟨Be, 0, none⟩), .pointer (some ⟨Bl, 0, none⟩)] w fun e w' => e = .returned (.tuple #[]) ∧ w' = (w.drew).setCell ⟨g, o, none⟩ (.int .i64 (s + n)) := by
  have hp2 : ¬ p > 1099511627776 := by omega
  obtain ⟨h1, h2, h3, h4⟩ := hS0
  go_enter Tryz.func182, Tryz.ntmps182
  go_wp2_with fail
  have hS : RelS g o Bp Bl p s A n c w.drew := ⟨h1, h2, h3, h4⟩
  refine wp_region_ord3 (RelS g o Bp Bl p s A n c) (fun _ => True) 9 (by kernel_rfl)
    [(2, 0), (2, 1), (2, 2), (1, 3), (1, 4), (2, 5), (2, 6), (2, 7), (2, 8), (0, 9)]
    (by kernel_rfl) (by kernel_rfl) (by decide) (by kernel_rfl) (fun _ _ d _ _ h => by cases d <;> exact h) ?_
  simp only [inOrder2, List.getElem?_cons_succ, List.getElem?_cons_zero, List.nil_append, List.cons_append]
  clear h1 h2 h3 h4
  generalize hw3 : w.drew = w3 at *
  iterate 3 (((with_reducible refine o3_calmF (v := ?_) (a' := ?_) hS ?_ (fun V => ?_) ?_ ?_); rotate_left 2; (rfl); (first | (go_simp; with_reducible rfl) | (go_simp; refine (if_pos ?_).trans ?_; omega; with_reducible rfl)); (simp only [Act.put, List.setIfInBounds_toArray, List.set_cons_succ, List.set_cons_zero] <;> rfl)))
  iterate 2 (((with_reducible refine o3_pre (v := ?_) (a' := ?_) hS ?_ (fun V hV => ?_) ?_ ?_); rotate_left 2; (rfl); (obtain ⟨q1, q2, q3, q4⟩ := hV; first | (go_simp; with_reducible rfl) | (go_simp; refine (if_pos ?_).trans ?_; omega; with_reducible rfl)); (simp only [Act.put, List.setIfInBounds_toArray, List.set_cons_succ, List.set_cons_zero] <;> rfl)))
  iterate 4 (((with_reducible refine o3_calmF (v := ?_) (a' := ?_) hS ?_ (fun V => ?_) ?_ ?_); rotate_left 2; (rfl); (first | (go_simp; with_reducible rfl) | (go_simp; refine (if_pos ?_).trans ?_; omega; with_reducible rfl)); (simp only [Act.put, List.setIfInBounds_toArray, List.set_cons_succ, List.set_cons_zero] <;> rfl)))
  obtain ⟨b1, b2, b3, b4⟩ := hS
  refine o3_onlyS rfl rfl ?_
  go_simp
  refine o3_end _ ?_
  try simp only [Exit.then]
  go_wp2
  go_returns
  exact ⟨rfl, by rw [IntWalk.i64_in _ ⟨by omega, by omega⟩, hw3]⟩

set_option maxRecDepth 100000 in
set_option maxHeartbeats 2000000 in
theorem changeW_no (l : List Pl) (p : Int) (e0 : Int) (v : Int) (B : Nat) (A : Option Addr) (c : Nat) (w : World) (hok : slotsOk l = true) (hp : 0 ≤ p) (hA : Lies w w.heap.size A (pls l)) (hB : w.cell? ⟨B, 0, none⟩ = some (.int .i64 v)) (hBl : B < w.heap.size) (hr : readyOf l p = false) :
    Calls Tryz.prog 178 #[.slice A l.length c, .int .i64 p, .int .i64 e0, .func (.func 179) #[] #[.pointer (some ⟨B, 0, none⟩)]] w fun e w' => ∃ A' c', e = .returned (.tuple #[.slice A' (l).length c', .int .i64 e0]) ∧ Mine w' w.heap.size 65 2 A' c' (l).length (pls (l)) ∧ Below w.heap.size w w' := by
  obtain ⟨i0, hi, hz0, hz1, hz2⟩ := info_parts pl_inf
  have hn := slotsOk_len hok
  obtain ⟨k, hk, hkl, hg⟩ := plAt_get hok p
  obtain ⟨b, off, rfl, hb, hc⟩ := hA.open_ (by rw [pls_len]; omega)
  have hsrc : ∀ W, w.grownBy W none → ∀ i x, (pls l)[i]? = some x → W.cell? ⟨b, off + i, none⟩ = some x := fun W hW i x hx => (World.cell?_of_block (hW.block b hb (by simp))).trans (hc i x hx)
  have hbel : ∀ W V, w.grownBy W none → Below w.heap.size W V → Below w.heap.size w V := fun W V hW hV => ⟨hV.os.trans hW.os, hV.tape.trans hW.tape, hV.output.trans hW.output, Nat.le_trans hW.size hV.size, fun j hj => (hV.block j hj).trans (hW.block j hj (by simp))⟩
  have C := fun W (hW : Below w.heap.size w W) => slotCheck_any l (some ⟨b, off, none⟩) c W (by omega) (hA.on hW)
  rw [hok] at C
  have R := fun W (hW : Below w.heap.size w W) => ready_any l p (some ⟨b, off, none⟩) c W hok hp (hA.on hW)
  rw [hr] at R
  have P := fun W => pos_place p l.length W
  rw [hk] at P
  have HSRC := Lib.hid hsrc
  have HC := Lib.hid hc
  have hp0 : ¬ p < 0 := by omega
  clear hsrc hc
  go_enter Tryz.func178, Tryz.ntmps178
  go_wp2_with (first
      | (at_make; (refine wpList_make_full _ rfl (.tmp 12) (.tmp 12) 29 rfl w.heap.size 65 i0 (.agg #[.int .i64 0, .int .i64 0]) 2 Tryz.underlying29 hi hz0 hz1 .i64 .i64 _ _ l.length rfl rfl rfl rfl (by rw [hz2]; omega) (by simp only [maxLen]; omega) (Nat.le_refl _) ?_); intro w1 hown1 hg1; replace hown1 : Mine w1 w.heap.size 65 2 (some ⟨w.heap.size, 0, none⟩) l.length l.length _ := hown1; obtain ⟨w2, hcp, hown2, hB2⟩ := copy_run (ty := 3) (sT := 29) (sCap := c) Tryz.underlying29 pl_sz hown1 (pls_len l) (fun i x hi => HSRC.out w1 hg1 i x hi) (one_pls l))
      | fail
      | (go_at_call 44; (with_reducible refine (C _ (hbel _ _ hg1 hB2)).mono ?_); rintro e w3 ⟨rfl, hb3⟩; have hown3 := Mine.kept hown2 hb3; have hB3 := (hbel _ _ hg1 hB2).trans (hb3.mono (Nat.le_trans hg1.size hB2.size)))
      | (go_at_call 192; (with_reducible refine (R _ hB3).mono ?_); rintro e w4 ⟨rfl, hb4⟩; have hown4 := Mine.kept hown3 hb4; have hB4 := hB3.trans (hb4.mono hB3.size)))
  go_ret2
  exact ⟨_, _, rfl, hown4, hB4⟩

set_option maxRecDepth 100000 in
set_option maxHeartbeats 2000000 in
theorem changeR_no (l : List Pl) (p : Int) (e0 : Int) (B : Nat) (A : Option Addr) (c : Nat) (w : World) (hok : slotsOk l = true) (hp : 0 ≤ p) (hA : Lies w w.heap.size A (pls l)) (hBx : w.heap[B]? = some (.cells #[.int .i64 0] 3 (0, 0))) (hr : readyOf l p = false) :
    Calls Tryz.prog 178 #[.slice A l.length c, .int .i64 p, .int .i64 e0, .func (.func 184) #[] #[.pointer (some ⟨B, 0, none⟩)]] w fun e w' => ∃ A' c', e = .returned (.tuple #[.slice A' (l).length c', .int .i64 e0]) ∧ Mine w' w.heap.size 65 2 A' c' (l).length (pls (l)) ∧ Below w.heap.size w w' := by
  obtain ⟨i0, hi, hz0, hz1, hz2⟩ := info_parts pl_inf
  have hn := slotsOk_len hok
  obtain ⟨k, hk, hkl, hg⟩ := plAt_get hok p
  obtain ⟨b, off, rfl, hb, hc⟩ := hA.open_ (by rw [pls_len]; omega)
  have hsrc : ∀ W, w.grownBy W none → ∀ i x, (pls l)[i]? = some x → W.cell? ⟨b, off + i, none⟩ = some x := fun W hW i x hx => (World.cell?_of_block (hW.block b hb (by simp))).trans (hc i x hx)
  have hbel : ∀ W V, w.grownBy W none → Below w.heap.size W V → Below w.heap.size w V := fun W V hW hV => ⟨hV.os.trans hW.os, hV.tape.trans hW.tape, hV.output.trans hW.output, Nat.le_trans hW.size hV.size, fun j hj => (hV.block j hj).trans (hW.block j hj (by simp))⟩
  have C := fun W (hW : Below w.heap.size w W) => slotCheck_any l (some ⟨b, off, none⟩) c W (by omega) (hA.on hW)
  rw [hok] at C
  have R := fun W (hW : Below w.heap.size w W) => ready_any l p (some ⟨b, off, none⟩) c W hok hp (hA.on hW)
  rw [hr] at R
  have P := fun W => pos_place p l.length W
  rw [hk] at P
  have HSRC := Lib.hid hsrc
  have HC := Lib.hid hc
  have hp0 : ¬ p < 0 := by omega
  clear hsrc hc
  go_enter Tryz.func178, Tryz.ntmps178
  go_wp2_with (first
      | (at_make; (refine wpList_make_full _ rfl (.tmp 12) (.tmp 12) 29 rfl w.heap.size 65 i0 (.agg #[.int .i64 0, .int .i64 0]) 2 Tryz.underlying29 hi hz0 hz1 .i64 .i64 _ _ l.length rfl rfl rfl rfl (by rw [hz2]; omega) (by simp only [maxLen]; omega) (Nat.le_refl _) ?_); intro w1 hown1 hg1; replace hown1 : Mine w1 w.heap.size 65 2 (some ⟨w.heap.size, 0, none⟩) l.length l.length _ := hown1; obtain ⟨w2, hcp, hown2, hB2⟩ := copy_run (ty := 3) (sT := 29) (sCap := c) Tryz.underlying29 pl_sz hown1 (pls_len l) (fun i x hi => HSRC.out w1 hg1 i x hi) (one_pls l))
      | fail
      | (go_at_call 44; (with_reducible refine (C _ (hbel _ _ hg1 hB2)).mono ?_); rintro e w3 ⟨rfl, hb3⟩; have hown3 := Mine.kept hown2 hb3; have hB3 := (hbel _ _ hg1 hB2).trans (hb3.mono (Nat.le_trans hg1.size hB2.size)))
      | (go_at_call 192; (with_reducible refine (R _ hB3).mono ?_); rintro e w4 ⟨rfl, hb4⟩; have hown4 := Mine.kept hown3 hb4; have hB4 := hB3.trans (hb4.mono hB3.size)))
  go_ret2
  exact ⟨_, _, rfl, hown4, hB4⟩

set_option maxRecDepth 100000 in
set_option maxHeartbeats 2000000 in
theorem changeL_no (l : List Pl) (p : Int) (e0 : Int) (Bp Be Bl : Nat) (A : Option Addr) (c : Nat) (w : World) (hok : slotsOk l = true) (hp : 0 ≤ p) (hA : Lies w w.heap.size A (pls l)) (hp2 : p ≤ 1099511627776) (hBp : w.cell? ⟨Bp, 0, none⟩ = some (.int .i64 p)) (hBl : w.cell? ⟨Bl, 0, none⟩ = some (.slice A l.length c)) (hBpl : Bp < w.heap.size) (hBll : Bl < w.heap.size) (hr : readyOf l p = false) :
    Calls Tryz.prog 178 #[.slice A l.length c, .int .i64 p, .int .i64 e0, .func (.func 182) #[] #[.pointer (some ⟨Bp, 0, none⟩), .pointer (some ⟨Be, 0, none⟩), .pointer (some ⟨Bl, 0, none⟩)]] w fun e w' => ∃ A' c', e = .returned (.tuple #[.slice A' (l).length c', .int .i64 e0]) ∧ Mine w' w.heap.size 65 2 A' c' (l).length (pls (l)) ∧ Below w.heap.size w w' := by
  obtain ⟨i0, hi, hz0, hz1, hz2⟩ := info_parts pl_inf
  have hn := slotsOk_len hok
  obtain ⟨k, hk, hkl, hg⟩ := plAt_get hok p
  obtain ⟨b, off, rfl, hb, hc⟩ := hA.open_ (by rw [pls_len]; omega)
  have hsrc : ∀ W, w.grownBy W none → ∀ i x, (pls l)[i]? = some x → W.cell? ⟨b, off + i, none⟩ = some x := fun W hW i x hx => (World.cell?_of_block (hW.block b hb (by simp))).trans (hc i x hx)
  have hbel : ∀ W V, w.grownBy W none → Below w.heap.size W V → Below w.heap.size w V := fun W V hW hV => ⟨hV.os.trans hW.os, hV.tape.trans hW.tape, hV.output.trans hW.output, Nat.le_trans hW.size hV.size, fun j hj => (hV.block j hj).trans (hW.block j hj (by simp))⟩
  have C := fun W (hW : Below w.heap.size w W) => slotCheck_any l (some ⟨b, off, none⟩) c W (by omega) (hA.on hW)
  rw [hok] at C
  have R := fun W (hW : Below w.heap.size w W) => ready_any l p (some ⟨b, off, none⟩) c W hok hp (hA.on hW)
  rw [hr] at R
  have P := fun W => pos_place p l.length W
  rw [hk] at P
  have HSRC := Lib.hid hsrc
  have HC := Lib.hid hc
  have hp0 : ¬ p < 0 := by omega
  clear hsrc hc
  go_enter Tryz.func178, Tryz.ntmps178
  go_wp2_with (first
      | (at_make; (refine wpList_make_full _ rfl (.tmp 12) (.tmp 12) 29 rfl w.heap.size 65 i0 (.agg #[.int .i64 0, .int .i64 0]) 2 Tryz.underlying29 hi hz0 hz1 .i64 .i64 _ _ l.length rfl rfl rfl rfl (by rw [hz2]; omega) (by simp only [maxLen]; omega) (Nat.le_refl _) ?_); intro w1 hown1 hg1; replace hown1 : Mine w1 w.heap.size 65 2 (some ⟨w.heap.size, 0, none⟩) l.length l.length _ := hown1; obtain ⟨w2, hcp, hown2, hB2⟩ := copy_run (ty := 3) (sT := 29) (sCap := c) Tryz.underlying29 pl_sz hown1 (pls_len l) (fun i x hi => HSRC.out w1 hg1 i x hi) (one_pls l))
      | fail
      | (go_at_call 44; (with_reducible refine (C _ (hbel _ _ hg1 hB2)).mono ?_); rintro e w3 ⟨rfl, hb3⟩; have hown3 := Mine.kept hown2 hb3; have hB3 := (hbel _ _ hg1 hB2).trans (hb3.mono (Nat.le_trans hg1.size hB2.size)))
      | (go_at_call 192; (with_reducible refine (R _ hB3).mono ?_); rintro e w4 ⟨rfl, hb4⟩; have hown4 := Mine.kept hown3 hb4; have hB4 := hB3.trans (hb4.mono hB3.size)))
  go_ret2
  exact ⟨_, _, rfl, hown4, hB4⟩

set_option maxRecDepth 100000 in
set_option maxHeartbeats 2000000 in
theorem changeW_yes (l : List Pl) (p : Int) (e0 : Int) (v : Int) (B : Nat) (A : Option Addr) (c : Nat) (w : World) (hok : slotsOk l = true) (hp : 0 ≤ p) (hA : Lies w w.heap.size A (pls l)) (hB : w.cell? ⟨B, 0, none⟩ = some (.int .i64 v)) (hBl : B < w.heap.size) (hr : readyOf l p = true) :
    Calls Tryz.prog 178 #[.slice A l.length c, .int .i64 p, .int .i64 e0, .func (.func 179) #[] #[.pointer (some ⟨B, 0, none⟩)]] w fun e w' => ∃ A' c', e = .returned (.tuple #[.slice A' (setAt l p ⟨(plAt l p).stamp, v⟩).length c', .int .i64 0]) ∧ Mine w' w.heap.size 65 2 A' c' (setAt l p ⟨(plAt l p).stamp, v⟩).length (pls (setAt l p ⟨(plAt l p).stamp, v⟩)) ∧ Below w.heap.size w w' := by
  obtain ⟨i0, hi, hz0, hz1, hz2⟩ := info_parts pl_inf
  have hn := slotsOk_len hok
  obtain ⟨k, hk, hkl, hg⟩ := plAt_get hok p
  obtain ⟨b, off, rfl, hb, hc⟩ := hA.open_ (by rw [pls_len]; omega)
  have hsrc : ∀ W, w.grownBy W none → ∀ i x, (pls l)[i]? = some x → W.cell? ⟨b, off + i, none⟩ = some x := fun W hW i x hx => (World.cell?_of_block (hW.block b hb (by simp))).trans (hc i x hx)
  have hbel : ∀ W V, w.grownBy W none → Below w.heap.size W V → Below w.heap.size w V := fun W V hW hV => ⟨hV.os.trans hW.os, hV.tape.trans hW.tape, hV.output.trans hW.output, Nat.le_trans hW.size hV.size, fun j hj => (hV.block j hj).trans (hW.block j hj (by simp))⟩
  have C := fun W (hW : Below w.heap.size w W) => slotCheck_any l (some ⟨b, off, none⟩) c W (by omega) (hA.on hW)
  rw [hok] at C
  have R := fun W (hW : Below w.heap.size w W) => ready_any l p (some ⟨b, off, none⟩) c W hok hp (hA.on hW)
  rw [hr] at R
  have P := fun W => pos_place p l.length W
  rw [hk] at P
  have HSRC := Lib.hid hsrc
  have HC := Lib.hid hc
  have hp0 : ¬ p < 0 := by omega
  clear hsrc hc
  have CL := fun W x h1 h2 h3 => write1_any v x w.heap.size (k * 2) B W h1 h2 h3
  have HG := Lib.hid hg
  clear hg
  go_enter Tryz.func178, Tryz.ntmps178
  go_wp2_with (first
      | (at_make; (refine wpList_make_full _ rfl (.tmp 12) (.tmp 12) 29 rfl w.heap.size 65 i0 (.agg #[.int .i64 0, .int .i64 0]) 2 Tryz.underlying29 hi hz0 hz1 .i64 .i64 _ _ l.length rfl rfl rfl rfl (by rw [hz2]; omega) (by simp only [maxLen]; omega) (Nat.le_refl _) ?_); intro w1 hown1 hg1; replace hown1 : Mine w1 w.heap.size 65 2 (some ⟨w.heap.size, 0, none⟩) l.length l.length _ := hown1; obtain ⟨w2, hcp, hown2, hB2⟩ := copy_run (ty := 3) (sT := 29) (sCap := c) Tryz.underlying29 pl_sz hown1 (pls_len l) (fun i x hi => HSRC.out w1 hg1 i x hi) (one_pls l))
      | fail
      | (go_at_call 44; (with_reducible refine (C _ (hbel _ _ hg1 hB2)).mono ?_); rintro e w3 ⟨rfl, hb3⟩; have hown3 := Mine.kept hown2 hb3; have hB3 := (hbel _ _ hg1 hB2).trans (hb3.mono (Nat.le_trans hg1.size hB2.size)))
      | (go_at_call 192; (with_reducible refine (R _ hB3).mono ?_); rintro e w4 ⟨rfl, hb4⟩; have hown4 := Mine.kept hown3 hb4; have hB4 := hB3.trans (hb4.mono hB3.size); have hBc := (hB4.cell (p := ⟨B, 0, none⟩) hBl).trans hB; obtain ⟨q1, q2⟩ := Mine.cellAt hown4 (pls_at HG.out).2)
      | (go_at_call 68; (with_reducible refine (P _).mono ?_); rintro e v0 ⟨rfl, hw⟩; obtain rfl := hw.symm; clear hw)
      | (go_at_call 179; (with_reducible refine (CL _ _ q1 q2 hBc).mono ?_); rintro e w5 ⟨rfl, hw⟩; subst hw))
  go_ret2
  refine ⟨_, _, by rw [setAt_len]; rfl, ?_, ?_⟩
  · rw [setAt_len]
    have := hown4.set (k * 2 + 1) (.int .i64 v) (by rw [pls_len]; omega)
    rw [← pls_val HG.out v] at this
    simpa [setAt, hk] using this
  · go_grown

set_option maxRecDepth 100000 in
set_option maxHeartbeats 2000000 in
theorem changeR_yes (l : List Pl) (p : Int) (e0 : Int) (B : Nat) (A : Option Addr) (c : Nat) (w : World) (hok : slotsOk l = true) (hp : 0 ≤ p) (hA : Lies w w.heap.size A (pls l)) (hBx : w.heap[B]? = some (.cells #[.int .i64 0] 3 (0, 0))) (hr : readyOf l p = true) :
    Calls Tryz.prog 178 #[.slice A l.length c, .int .i64 p, .int .i64 e0, .func (.func 184) #[] #[.pointer (some ⟨B, 0, none⟩)]] w fun e w' => ∃ A' c' w1, e = .returned (.tuple #[.slice A' l.length c', .int .i64 0]) ∧ Below w.heap.size w w1 ∧ w' = w1.setCell ⟨B, 0, none⟩ (.int .i64 (plAt l p).val) := by
  obtain ⟨i0, hi, hz0, hz1, hz2⟩ := info_parts pl_inf
  have hn := slotsOk_len hok
  obtain ⟨k, hk, hkl, hg⟩ := plAt_get hok p
  obtain ⟨b, off, rfl, hb, hc⟩ := hA.open_ (by rw [pls_len]; omega)
  have hsrc : ∀ W, w.grownBy W none → ∀ i x, (pls l)[i]? = some x → W.cell? ⟨b, off + i, none⟩ = some x := fun W hW i x hx => (World.cell?_of_block (hW.block b hb (by simp))).trans (hc i x hx)
  have hbel : ∀ W V, w.grownBy W none → Below w.heap.size W V → Below w.heap.size w V := fun W V hW hV => ⟨hV.os.trans hW.os, hV.tape.trans hW.tape, hV.output.trans hW.output, Nat.le_trans hW.size hV.size, fun j hj => (hV.block j hj).trans (hW.block j hj (by simp))⟩
  have C := fun W (hW : Below w.heap.size w W) => slotCheck_any l (some ⟨b, off, none⟩) c W (by omega) (hA.on hW)
  rw [hok] at C
  have R := fun W (hW : Below w.heap.size w W) => ready_any l p (some ⟨b, off, none⟩) c W hok hp (hA.on hW)
  rw [hr] at R
  have P := fun W => pos_place p l.length W
  rw [hk] at P
  have HSRC := Lib.hid hsrc
  have HC := Lib.hid hc
  have hp0 : ¬ p < 0 := by omega
  clear hsrc hc
  have CL := fun W x h1 h2 h3 => read1_any (plAt l p).val x w.heap.size (k * 2) B W h1 h2 h3
  have HG := Lib.hid hg
  clear hg
  have hBl := blk_lt hBx
  go_enter Tryz.func178, Tryz.ntmps178
  go_wp2_with (first
      | (at_make; (refine wpList_make_full _ rfl (.tmp 12) (.tmp 12) 29 rfl w.heap.size 65 i0 (.agg #[.int .i64 0, .int .i64 0]) 2 Tryz.underlying29 hi hz0 hz1 .i64 .i64 _ _ l.length rfl rfl rfl rfl (by rw [hz2]; omega) (by simp only [maxLen]; omega) (Nat.le_refl _) ?_); intro w1 hown1 hg1; replace hown1 : Mine w1 w.heap.size 65 2 (some ⟨w.heap.size, 0, none⟩) l.length l.length _ := hown1; obtain ⟨w2, hcp, hown2, hB2⟩ := copy_run (ty := 3) (sT := 29) (sCap := c) Tryz.underlying29 pl_sz hown1 (pls_len l) (fun i x hi => HSRC.out w1 hg1 i x hi) (one_pls l))
      | fail
      | (go_at_call 44; (with_reducible refine (C _ (hbel _ _ hg1 hB2)).mono ?_); rintro e w3 ⟨rfl, hb3⟩; have hown3 := Mine.kept hown2 hb3; have hB3 := (hbel _ _ hg1 hB2).trans (hb3.mono (Nat.le_trans hg1.size hB2.size)))
      | (go_at_call 192; (with_reducible refine (R _ hB3).mono ?_); rintro e w4 ⟨rfl, hb4⟩; have hown4 := Mine.kept hown3 hb4; have hB4 := hB3.trans (hb4.mono hB3.size); obtain ⟨hBc, hBf⟩ := cells1 ((hB4.block B hBl).trans hBx); obtain ⟨q1, q2⟩ := Mine.cellAt hown4 (pls_at HG.out).2)
      | (go_at_call 68; (with_reducible refine (P _).mono ?_); rintro e v0 ⟨rfl, hw⟩; obtain rfl := hw.symm; clear hw)
      | (go_at_call 184; (with_reducible refine (CL _ _ q1 hBf hBc).mono ?_); rintro e w5 ⟨rfl, hw⟩; subst hw))
  go_ret2
  exact ⟨_, _, w4, rfl, hB4, rfl⟩

set_option maxRecDepth 100000 in
set_option maxHeartbeats 2000000 in
theorem changeL_yes (l : List Pl) (p : Int) (e0 : Int) (Bp Be Bl : Nat) (A : Option Addr) (c : Nat) (w : World) (hok : slotsOk l = true) (hp : 0 ≤ p) (hA : Lies w w.heap.size A (pls l)) (hp2 : p ≤ 1099511627776) (hBp : w.cell? ⟨Bp, 0, none⟩ = some (.int .i64 p)) (hBl : w.cell? ⟨Bl, 0, none⟩ = some (.slice A l.length c)) (hBpl : Bp < w.heap.size) (hBll : Bl < w.heap.size) (hr : readyOf l p = true) :
    Calls Tryz.prog 178 #[.slice A l.length c, .int .i64 p, .int .i64 e0, .func (.func 182) #[] #[.pointer (some ⟨Bp, 0, none⟩), .pointer (some ⟨Be, 0, none⟩), .pointer (some ⟨Bl, 0, none⟩)]] w fun e w' => ∃ A' c', e = .returned (.tuple #[.slice A' (setAt l p ⟨(plAt l p).stamp + l.length, (plAt l p).val⟩).length c', .int .i64 0]) ∧ Mine w' w.heap.size 65 2 A' c' (setAt l p ⟨(plAt l p).stamp + l.length, (plAt l p).val⟩).length (pls (setAt l p ⟨(plAt l p).stamp + l.length, (plAt l p).val⟩)) ∧ Below w.heap.size w w' := by
  obtain ⟨i0, hi, hz0, hz1, hz2⟩ := info_parts pl_inf
  have hn := slotsOk_len hok
  obtain ⟨k, hk, hkl, hg⟩ := plAt_get hok p
  obtain ⟨b, off, rfl, hb, hc⟩ := hA.open_ (by rw [pls_len]; omega)
  have hsrc : ∀ W, w.grownBy W none → ∀ i x, (pls l)[i]? = some x → W.cell? ⟨b, off + i, none⟩ = some x := fun W hW i x hx => (World.cell?_of_block (hW.block b hb (by simp))).trans (hc i x hx)
  have hbel : ∀ W V, w.grownBy W none → Below w.heap.size W V → Below w.heap.size w V := fun W V hW hV => ⟨hV.os.trans hW.os, hV.tape.trans hW.tape, hV.output.trans hW.output, Nat.le_trans hW.size hV.size, fun j hj => (hV.block j hj).trans (hW.block j hj (by simp))⟩
  have C := fun W (hW : Below w.heap.size w W) => slotCheck_any l (some ⟨b, off, none⟩) c W (by omega) (hA.on hW)
  rw [hok] at C
  have R := fun W (hW : Below w.heap.size w W) => ready_any l p (some ⟨b, off, none⟩) c W hok hp (hA.on hW)
  rw [hr] at R
  have P := fun W => pos_place p l.length W
  rw [hk] at P
  have HSRC := Lib.hid hsrc
  have HC := Lib.hid hc
  have hp0 : ¬ p < 0 := by omega
  clear hsrc hc
  have hst := slotsOk_stamp hok hg
  have CL := fun W h => release1_any p (plAt l p).stamp l.length c (some ⟨b, off, none⟩) w.heap.size (k * 2) Bp Be Bl W h hp2 hn.2 hst.1 hst.2
  have HG := Lib.hid hg
  clear hg
  go_enter Tryz.func178, Tryz.ntmps178
  go_wp2_with (first
      | (at_make; (refine wpList_make_full _ rfl (.tmp 12) (.tmp 12) 29 rfl w.heap.size 65 i0 (.agg #[.int .i64 0, .int .i64 0]) 2 Tryz.underlying29 hi hz0 hz1 .i64 .i64 _ _ l.length rfl rfl rfl rfl (by rw [hz2]; omega) (by simp only [maxLen]; omega) (Nat.le_refl _) ?_); intro w1 hown1 hg1; replace hown1 : Mine w1 w.heap.size 65 2 (some ⟨w.heap.size, 0, none⟩) l.length l.length _ := hown1; obtain ⟨w2, hcp, hown2, hB2⟩ := copy_run (ty := 3) (sT := 29) (sCap := c) Tryz.underlying29 pl_sz hown1 (pls_len l) (fun i x hi => HSRC.out w1 hg1 i x hi) (one_pls l))
      | fail
      | (go_at_call 44; (with_reducible refine (C _ (hbel _ _ hg1 hB2)).mono ?_); rintro e w3 ⟨rfl, hb3⟩; have hown3 := Mine.kept hown2 hb3; have hB3 := (hbel _ _ hg1 hB2).trans (hb3.mono (Nat.le_trans hg1.size hB2.size)))
      | (go_at_call 192; (with_reducible refine (R _ hB3).mono ?_); rintro e w4 ⟨rfl, hb4⟩; have hown4 := Mine.kept hown3 hb4; have hB4 := hB3.trans (hb4.mono hB3.size); have hS := RelS.intro (Mine.cellAt hown4 (pls_at HG.out).1) ((hB4.cell (p := ⟨Bp, 0, none⟩) hBpl).trans hBp) ((hB4.cell (p := ⟨Bl, 0, none⟩) hBll).trans hBl))
      | (go_at_call 68; (with_reducible refine (P _).mono ?_); rintro e v0 ⟨rfl, hw⟩; obtain rfl := hw.symm; clear hw)
      | (go_at_call 182; (with_reducible refine (CL _ hS).mono ?_); rintro e w5 ⟨rfl, hw⟩; subst hw))
  go_ret2
  refine ⟨_, _, by rw [setAt_len]; rfl, ?_, ?_⟩
  · rw [setAt_len]
    have := (hown4.set (k * 2) (.int .i64 ((plAt l p).stamp + l.length)) (by rw [pls_len]; omega)).drew
    rw [← pls_stamp HG.out ((plAt l p).stamp + l.length)] at this
    simpa [setAt, hk] using this
  · go_grown

end Go.Proofs.YtnbgpopjnpdmgaaGreat

namespace Go.Proofs.YtnbgpopjnpdmgaaGreat
open Go Go.RowKit Go.Shelf

def wrtS (l : List Pl) (p v : Int) : List Pl × Int := if readyOf l p then (setAt l p ⟨(plAt l p).stamp, v⟩, 0) else (l, 30)
def rdS (l : List Pl) (p : Int) : Int × Int := if readyOf l p then ((plAt l p).val, 0) else (0, 40)
def relS (l : List Pl) (p : Int) : List Pl × Int := if readyOf l p then (setAt l p ⟨(plAt l p).stamp + l.length, (plAt l p).val⟩, 0) else (l, 40)

set_option maxRecDepth 100000 in
set_option maxHeartbeats 2000000 in
theorem slotWrite_any (l : List Pl) (p v : Int) (A : Option Addr) (c : Nat) (w : World) (hok : slotsOk l = true) (hp : 0 ≤ p) (hA : Lies w w.heap.size A (pls l)) :
    Calls Tryz.prog 145 #[.slice A l.length c, .int .i64 p, .int .i64 v] w fun e w' => ∃ A' c', e = .returned (.tuple #[.slice A' ((wrtS l p v).1).length c', .int .i64 ((wrtS l p v).2)]) ∧ Mine w' w.heap.size 65 2 A' c' ((wrtS l p v).1).length (pls ((wrtS l p v).1)) ∧ Below w.heap.size w w' := by
  have C : ∀ B W, Below w.heap.size w W → W.cell? ⟨B, 0, none⟩ = some (.int .i64 v) → B < W.heap.size → Calls Tryz.prog 178 #[.slice A l.length c, .int .i64 p, .int .i64 30, .func (.func 179) #[] #[.pointer (some ⟨B, 0, none⟩)]] W fun e w' => ∃ A' c', e = .returned (.tuple #[.slice A' (wrtS l p v).1.length c', .int .i64 (wrtS l p v).2]) ∧ Mine w' W.heap.size 65 2 A' c' (wrtS l p v).1.length (pls (wrtS l p v).1) ∧ Below W.heap.size W w' := by
    intro B W hW h1 h2
    unfold wrtS
    cases hr : readyOf l p with
    | true => exact changeW_yes l p 30 v B A c W hok hp (hA.on hW) h1 h2 hr
    | false => exact changeW_no l p 30 v B A c W hok hp (hA.on hW) h1 h2 hr
  generalize wrtS l p v = x at *
  obtain ⟨x1, x2⟩ := x
  dsimp only at *
  obtain ⟨q0, -⟩ := cells1 (World.alloc_heap_new w (.cells #[.int .i64 v] 3))
  go_enter Tryz.func145, Tryz.ntmps145
  go_wp2_with (first
      | (go_at_call 178; (with_reducible refine (C _ _ (below_one w _) q0 (by simp)).mono ?_); rintro e w1 ⟨A1, c1, rfl, hown, hb⟩))
  go_ret2
  exact ⟨A1, c1, rfl, hown.mono (by simp), (below_one w _).trans (hb.mono (by simp))⟩

set_option maxRecDepth 100000 in
set_option maxHeartbeats 2000000 in
theorem slotRead_yes (l : List Pl) (p : Int) (A : Option Addr) (c : Nat) (w : World) (hok : slotsOk l = true) (hp : 0 ≤ p) (hA : Lies w w.heap.size A (pls l)) (hr : readyOf l p = true) :
    Calls Tryz.prog 164 #[.slice A l.length c, .int .i64 p] w fun e w' => e = .returned (.tuple #[.int .i64 (plAt l p).val, .int .i64 0]) ∧ Below w.heap.size w w' := by
  have q := World.alloc_heap_new w (.cells #[.int .i64 0] 3)
  have C := fun W (hW : Below w.heap.size w W) (B : Nat) (h1 : W.heap[B]? = some (.cells #[.int .i64 0] 3 (0, 0))) => changeR_yes l p 40 B A c W hok hp (hA.on hW) h1 hr
  generalize (plAt l p).val = pv at *
  go_enter Tryz.func164, Tryz.ntmps164
  go_wp2_with (first
      | (go_at_call 178; (with_reducible refine (C _ (below_one w _) _ q).mono ?_); rintro e w1 ⟨A1, c1, w2, rfl, hb, hw⟩; subst hw; have q2 := kept q hb; obtain ⟨a0, f0⟩ := cells1 q2))
  obtain ⟨r0, -⟩ := cells1 (put_cell (i := 0) (put_cell (i := 0) q2 (.int .i64 pv)) (.int .i64 pv))
  have hB := (below_one w (.cells #[.int .i64 0] 3)).trans (hb.mono (by simp))
  refine bodyPost_ret (v := .tuple #[.int .i64 pv, .int .i64 0]) (by simp [results, Tryz.f164, go_sem, r0]) rfl ⟨rfl, ?_⟩
  go_grown

set_option maxRecDepth 100000 in
set_option maxHeartbeats 2000000 in
theorem slotRead_no (l : List Pl) (p : Int) (A : Option Addr) (c : Nat) (w : World) (hok : slotsOk l = true) (hp : 0 ≤ p) (hA : Lies w w.heap.size A (pls l)) (hr : readyOf l p = false) :
    Calls Tryz.prog 164 #[.slice A l.length c, .int .i64 p] w fun e w' => e = .returned (.tuple #[.int .i64 0, .int .i64 40]) ∧ Below w.heap.size w w' := by
  have q := World.alloc_heap_new w (.cells #[.int .i64 0] 3)
  have C := fun W (hW : Below w.heap.size w W) (B : Nat) (h1 : W.heap[B]? = some (.cells #[.int .i64 0] 3 (0, 0))) => changeR_no l p 40 B A c W hok hp (hA.on hW) h1 hr
  generalize (plAt l p).val = pv at *
  go_enter Tryz.func164, Tryz.ntmps164
  go_wp2_with (first
      | (go_at_call 178; (with_reducible refine (C _ (below_one w _) _ q).mono ?_); rintro e w2 ⟨A1, c1, rfl, hown, hb⟩; have q2 := kept q hb; obtain ⟨a0, f0⟩ := cells1 q2))
  obtain ⟨r0, -⟩ := cells1 (put_cell (i := 0) q2 (.int .i64 0))
  have hB := (below_one w (.cells #[.int .i64 0] 3)).trans (hb.mono (by simp))
  refine bodyPost_ret (v := .tuple #[.int .i64 0, .int .i64 40]) (by simp [results, Tryz.f164, go_sem, r0]) rfl ⟨rfl, ?_⟩
  go_grown

theorem slotRead_any (l : List Pl) (p : Int) (A : Option Addr) (c : Nat) (w : World) (hok : slotsOk l = true) (hp : 0 ≤ p) (hA : Lies w w.heap.size A (pls l)) : Calls Tryz.prog 164 #[.slice A l.length c, .int .i64 p] w fun e w' => e = .returned (.tuple #[.int .i64 (rdS l p).1, .int .i64 (rdS l p).2]) ∧ Below w.heap.size w w' := by
  unfold rdS
  cases hr : readyOf l p with
  | true => exact slotRead_yes l p A c w hok hp hA hr
  | false => exact slotRead_no l p A c w hok hp hA hr

set_option maxRecDepth 100000 in
set_option maxHeartbeats 2000000 in
theorem slotRelease_any (l : List Pl) (p : Int) (A : Option Addr) (c : Nat) (w : World) (hok : slotsOk l = true) (hp : 0 ≤ p) (hA : Lies w w.heap.size A (pls l)) (hp2 : p ≤ 1099511627776) :
    Calls Tryz.prog 153 #[.slice A l.length c, .int .i64 p] w fun e w' => ∃ A' c', e = .returned (.tuple #[.slice A' ((relS l p).1).length c', .int .i64 ((relS l p).2)]) ∧ Mine w' w.heap.size 65 2 A' c' ((relS l p).1).length (pls ((relS l p).1)) ∧ Below w.heap.size w w' := by
  have hx : (relS l p).2 = 0 ∨ (relS l p).2 = 40 := by unfold relS; split <;> simp
  have C : ∀ W, Below w.heap.size w W → W.cell? ⟨w.heap.size + 1, 0, none⟩ = some (.int .i64 p) → W.cell? ⟨w.heap.size, 0, none⟩ = some (.slice A l.length c) → w.heap.size + 1 < W.heap.size → Calls Tryz.prog 178 #[.slice A l.length c, .int .i64 p, .int .i64 40, .func (.func 182) #[] #[.pointer (some ⟨w.heap.size + 1, 0, none⟩), .pointer (some ⟨w.heap.size + 2, 0, none⟩), .pointer (some ⟨w.heap.size, 0, none⟩)]] W fun e w' => ∃ A' c', e = .returned (.tuple #[.slice A' (relS l p).1.length c', .int .i64 (relS l p).2]) ∧ Mine w' W.heap.size 65 2 A' c' (relS l p).1.length (pls (relS l p).1) ∧ Below W.heap.size W w' := by
    intro W hW h1 h2 h3
    unfold relS
    cases hr : readyOf l p with
    | true => exact changeL_yes l p 40 _ _ _ A c W hok hp (hA.on hW) hp2 h1 h2 h3 (by omega) hr
    | false => exact changeL_no l p 40 _ _ _ A c W hok hp (hA.on hW) hp2 h1 h2 h3 (by omega) hr
  generalize relS l p = x at *
  obtain ⟨x1, x2⟩ := x
  dsimp only at *
  have hS := (((Blk.nil w).add (.cells #[.slice A l.length c] 29)).add (.cells #[.int .i64 p] 3)).add (.cells #[.int .i64 0] 37)
  simp only [World.size_alloc] at hS
  obtain ⟨q0, -⟩ := cells1 (hS.get (B := w.heap.size) (o := .cells #[.slice A l.length c] 29) (by simp))
  obtain ⟨q1, -⟩ := cells1 (hS.get (B := w.heap.size + 1) (o := .cells #[.int .i64 p] 3) (by simp))
  go_enter Tryz.func153, Tryz.ntmps153
  go_wp2_with (first
      | (go_at_call 178; (with_reducible refine (C _ hS.below q1 q0 (by simp)).mono ?_); rintro e w1 ⟨A1, c1, rfl, hown, hb⟩; replace hS := hS.on hb; clear q0 q1; obtain ⟨a0, f0⟩ := cells1 (hS.get (B := w.heap.size + 2) (o := .cells #[.int .i64 0] 37) (by simp))))
  have hS3 := (hS.less (M := [(w.heap.size + 2, .cells #[.int .i64 0] 37)]) (by simp)).drew
  clear a0 f0
  rcases hx with hx | hx
  all_goals
    subst hx
    clear hS
    have hS := hS3
    clear hS3
    refine wp_region_ord (S := (Blk w w.heap.size [(w.heap.size + 2, .cells #[.int .i64 0] 37)])) (by kernel_rfl)
      [(true, 0), (true, 1), (true, 2), (true, 3), (true, 4), (true, 5)]
      (by kernel_rfl) (by kernel_rfl) (by kernel_rfl) (fun _ _ d _ _ h => by cases d <;> exact h) ?_
    simp only [inOrder, List.getElem?_cons_succ, List.getElem?_cons_zero, List.nil_append, List.cons_append]
    repeat (first
      | (refine Ord.idle hS rfl (fun V hV f hf => ?_) (by simp only [Act.put, List.setIfInBounds_toArray, List.set_cons_succ, List.set_cons_zero]; rfl) ?_
         · trivial)
      | (refine Ord.calm (v := ?_) hS rfl (fun V hV => ?_) (fun V hV f hf => ?_) (by simp only [Act.put, List.setIfInBounds_toArray, List.set_cons_succ, List.set_cons_zero]; rfl) ?_
         rotate_left
         · first
           | (go_simp; with_reducible rfl)
           | (obtain ⟨a0, f0⟩ := cells1 (hV.get (B := w.heap.size + 2) (o := .cells #[.int .i64 0] 37) (by simp)); go_simp; with_reducible rfl)
           | (go_simp; refine (if_pos ?hc).trans ?_; omega; with_reducible rfl)
         · trivial))
    simp only [Ord, Exit.then]
    go_wp2
    go_ret2
    exact ⟨A1, c1, rfl, hown.mono (by simp; omega), hS.below⟩

end Go.Proofs.YtnbgpopjnpdmgaaGreat
