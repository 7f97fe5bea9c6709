/-
  DERIVED. Due.
-/
import Derived.Test.YtnbgpopjnpdmgaaGreatPbn
import Derived.Test.YtnbgpopjnpdmgaaGreatPac
set_option linter.unusedVariables false
set_option linter.unusedSimpArgs false

namespace Go.Proofs.YtnbgpopjnpdmgaaGreat
open Go Go.RowKit Go.Shelf

set_option maxRecDepth 100000 in
set_option maxHeartbeats 2000000 in
theorem due_time (k : Int) (w : World) :
    Calls Tryz.prog 129 #[.int .i64 k] w fun e w' => e = .returned (.bool (decide (0 ≤ k) && decide (k ≤ 1099511627776))) ∧ w' = w := by
  by_cases h0 : 0 ≤ k
  · go_enter Tryz.func129, Tryz.ntmps129
    go_wp2
    go_ret
    exact ⟨by simp [h0], rfl⟩
  · have h1 : ¬ k ≥ 0 := by omega
    go_enter Tryz.func129, Tryz.ntmps129
    go_wp2
    go_ret
    exact ⟨by simp; omega, rfl⟩

set_option maxRecDepth 100000 in
set_option maxHeartbeats 2000000 in
theorem due_id (k : Int) (w : World) :
    Calls Tryz.prog 130 #[.int .i64 k] w fun e w' => e = .returned (.bool (decide (0 ≤ k) && decide (k < 16))) ∧ w' = w := by
  by_cases h0 : 0 ≤ k
  · go_enter Tryz.func130, Tryz.ntmps130
    go_wp2
    go_ret
    exact ⟨by simp [h0], rfl⟩
  · have h1 : ¬ k ≥ 0 := by omega
    go_enter Tryz.func130, Tryz.ntmps130
    go_wp2
    go_ret
    exact ⟨by simp; omega, rfl⟩

set_option maxRecDepth 100000 in
set_option maxHeartbeats 4000000 in
theorem by_due (Q : Du → Prop) (l : List Du) (A : Option Addr) (c : Nat) (w : World) (hl : l.length ≤ 900) (hA : Lies w w.heap.size A (dus l)) (hQ : ∀ d ∈ l, Q d) :
    Calls Tryz.prog 99 #[.slice A l.length c] w fun e w' => ∃ mb, e = .returned (.map (some mb)) ∧ MapV mb l.length (DuV Q) w' ∧ w.heap.size ≤ mb ∧ Below w.heap.size w w' := by
  have hM0 := MapV.new w (DuV Q)
  have hB0 := below_one w (.map #[] 0)
  have hmm := @run_makeMap Tryz.prog
  go_enter Tryz.func99, Tryz.ntmps99
  go_wp2
  go_loopw [9] (fun i wr => ∃ k : Nat, k ≤ l.length ∧ i = .int .i64 k ∧ MapV w.heap.size k (DuV Q) wr ∧ Below w.heap.size w wr) (fun i _ => l.length - (intOf i).toNat)
  case atStart => exact ⟨0, Nat.zero_le _, rfl, hM0, hB0⟩
  case round =>
    clear hM0 hB0 hmm
    obtain ⟨k, hk, rfl, hM, hB⟩ := hrel
    have hsz := hB.size
    by_cases hlt : k < l.length
    · obtain ⟨b, off, rfl, hb0, hc⟩ := (hA.below hB).open_ (by rw [dus_len]; omega)
      obtain ⟨d, hd⟩ : ∃ d, l[k]? = some d := ⟨_, List.getElem?_eq_getElem hlt⟩
      have x0 := hc _ _ (flat_at (f := Du.cells) (k := 2) (fun _ => rfl) hd (j := 0) rfl)
      have x1 := hc _ _ (flat_at (f := Du.cells) (k := 2) (fun _ => rfl) hd (j := 1) rfl)
      rw [Nat.add_zero] at x0
      rw [← Nat.add_assoc] at x1

      have hM2 := hM.on (Below.heap_alloc wr (.cells #[.int .i64 d.at_, .int .i64 d.id] 141) _ hM.lt)
      have HD := Lib.hid hd
      clear hc hA
      go_wp2_with (first
          | (at_mapUpdate; (refine wpList_upd rfl (.tmp 13) (.tmp 15) (.tmp 16) rfl Tryz.underlying142 Tryz.underlying3 hM2 rfl d.id rfl _ rfl ⟨d, rfl, hQ d (List.mem_of_getElem? hd)⟩ ?_); intro w3 hM3 hO3))
      go_roundw
      case rel => exact ⟨k + 1, by omega, by go_num, hM3, (hB.alloc hsz _).trans (hO3.below (Nat.le_refl _))⟩
      case measure => simp [intOf]; omega
    · obtain rfl : k = l.length := by omega
      go_wp2
      go_ret
      exact ⟨_, rfl, hM, Nat.le_refl _, hB⟩

def BoV (v : Value) : Prop := ∃ b : Bool, v = .bool b
/-- What a look-up gives as long as the map stands. -/
theorem look_fixed {P : Program} {mty kt et : TypeId} {mb n : Nat} {V : Value → Prop} {W : World} (hm : P.underlying mty = some (.map kt et)) (hd : P.underlying kt = some (.int .i64)) (h : MapV mb n V W) (k : Int) (z : Value) (hz : ∀ w, (zeroValue et).run P w = .ok z w) (hV : V z) :
    ∃ v, V v ∧ ∀ W', W'.heap[mb]? = W.heap[mb]? → (Instr.lookup mty (.map (some mb)) (.int .i64 k) false).run P W' = .ok v W' := by
  obtain ⟨es, clock, hb, hn, hs, hp⟩ := h
  have hks : ∀ x ∈ es.toList, MapKept.IsKey (.int .i64) x.key := fun x hx => (hp x hx).1
  have hk := isKey_int k
  rcases MapKept.findNow_spec hk es.toList 0 hks with ⟨h1, h2⟩ | ⟨j, e, h1, h2, h3⟩
  · exact ⟨z, hV, fun W' hW => by simp [Instr.lookup, run_underlying hm, MapKept.run_getObj_map (hW.trans hb), MapKept.run_checkKey hd hk, MapKept.run_findKey hd h1, hz, Result.andThen]⟩
  · have hj : es[j]? = some e := by simpa using h2
    exact ⟨e.val, (hp e (MapFrom.at_mem hj)).2, fun W' hW => by simp [Instr.lookup, run_underlying hm, MapKept.run_getObj_map (hW.trans hb), MapKept.run_checkKey hd hk, MapKept.run_findKey hd h1, Result.andThen]⟩
theorem look_exec {P : Program} {w : World} {m x : Operand} {t : TypeId} {a : Act} {dst : Option Tmp} {ty : TypeId} {ps : String} {af : Array Edge} {gd : Option (Nat × Bool)} {vm vx v : Value} (hm : a.eval m = vm) (hx : a.eval x = vx) (h : (Instr.lookup t vm vx false).run P w = .ok v w) : (execOp a.eval (Oper.mk dst (.lookup t m x false) ty ps af gd)).run P w = .ok (.value v) w := by
  simp [execOp, hm, hx, h, Result.andThen]

set_option maxRecDepth 100000 in
set_option maxHeartbeats 16000000 in
theorem check_due (l : List Du) (A : Option Addr) (c : Nat) (w : World) (hl : l.length ≤ 900) (hA : Lies w w.heap.size A (dus l)) :
    Calls Tryz.prog 97 #[.slice A l.length c] w fun e w' => AnyB e ∧ Below w.heap.size w w' := by
  have hM0 := MapV.new w BoV
  have hB0 := below_one w (.map #[] 0)
  have hmm := @run_makeMap Tryz.prog
  go_enter Tryz.func97, Tryz.ntmps97
  go_wp2
  go_loopw [9] (fun i wr => ∃ k : Nat, k ≤ l.length ∧ i = .int .i64 k ∧ MapV w.heap.size k BoV wr ∧ Below w.heap.size w wr) (fun i _ => l.length - (intOf i).toNat)
  case atStart => exact ⟨0, Nat.zero_le _, rfl, hM0, hB0⟩
  case round =>
    clear hM0 hB0 hmm
    obtain ⟨k, hk, rfl, hM, hB⟩ := hrel
    have hsz := hB.size
    by_cases hlt : k < l.length
    · obtain ⟨b, off, rfl, hb0, hc⟩ := (hA.below hB).open_ (by rw [dus_len]; omega)
      obtain ⟨d, hd⟩ : ∃ d, l[k]? = some d := ⟨_, List.getElem?_eq_getElem hlt⟩
      have x0 := hc _ _ (flat_at (f := Du.cells) (k := 2) (fun _ => rfl) hd (j := 0) rfl)
      have x1 := hc _ _ (flat_at (f := Du.cells) (k := 2) (fun _ => rfl) hd (j := 1) rfl)
      rw [Nat.add_zero] at x0
      rw [← Nat.add_assoc] at x1

      have hMx := hM.on (Below.heap_alloc wr (.cells #[.int .i64 d.at_, .int .i64 d.id] 141) _ hM.lt)
      have hBx := hB.alloc hsz (.cells #[.int .i64 d.at_, .int .i64 d.id] 141)
      have hbox := World.alloc_heap_new wr (.cells #[.int .i64 d.at_, .int .i64 d.id] 141)
      obtain ⟨f0, f1, -, -⟩ := cells2 hbox
      have hAx := below_one wr (.cells #[.int .i64 d.at_, .int .i64 d.id] 141)
      have hprev : ∀ m, k = m + 1 → ∃ dp, (wr.alloc (.cells #[.int .i64 d.at_, .int .i64 d.id] 141)).cell? ⟨b, off + m * 2, none⟩ = some (.int .i64 dp.at_) ∧ (wr.alloc (.cells #[.int .i64 d.at_, .int .i64 d.id] 141)).cell? ⟨b, off + m * 2 + 1, none⟩ = some (.int .i64 (Du.id dp)) := by
        intro m hm
        obtain ⟨dp, hdp⟩ : ∃ d, l[m]? = some d := ⟨_, List.getElem?_eq_getElem (by omega)⟩
        have z0 := hc _ _ (flat_at (f := Du.cells) (k := 2) (fun _ => rfl) hdp (j := 0) rfl)
        have z1 := hc _ _ (flat_at (f := Du.cells) (k := 2) (fun _ => rfl) hdp (j := 1) rfl)
        rw [Nat.add_zero] at z0
        rw [← Nat.add_assoc] at z1
        exact ⟨dp, keep_c z0 hAx, keep_c z1 hAx⟩
      have hmx := hMx.lt
      obtain ⟨v3, ⟨b3, rfl⟩, LK⟩ := look_fixed Tryz.underlying172 Tryz.underlying3 hMx d.id (.bool false) (fun w => Tryz.zeroValue4 w) ⟨false, rfl⟩
      have T1 := fun W => due_time d.at_ W
      have T2 := fun W => due_id d.id W
      generalize (decide (0 ≤ d.at_) && decide (d.at_ ≤ 1099511627776)) = t1 at *
      generalize (decide (0 ≤ d.id) && decide (d.id < 16)) = t2 at *
      have hsx : w.heap.size ≤ (wr.alloc (.cells #[.int .i64 d.at_, .int .i64 d.id] 141)).heap.size := by simp; omega
      have hbb : b < (wr.alloc (.cells #[.int .i64 d.at_, .int .i64 d.id] 141)).heap.size := by simp; omega
      clear hc hA hbox hAx hd
      go_wp2_with fail
      generalize hwx : wr.alloc (.cells #[.int .i64 d.at_, .int .i64 d.id] 141) = wx at *
      cases t1 with
      | false =>
        refine wp_region_ord3 (fun V => Below wx.heap.size wx V) (fun V => Below wx.heap.size wx V) 26 (by kernel_rfl)
          [(2, 0), (2, 1), (0, 2), (2, 3), (2, 4), (2, 5), (2, 6), (0, 7), (2, 8), (2, 9), (2, 10), (2, 11), (2, 12), (2, 13), (0, 14), (2, 15), (2, 16), (2, 17), (2, 18), (2, 19), (2, 20), (2, 21), (2, 22), (2, 23), (1, 24), (1, 25), (0, 26), (2, 27), (2, 28), (2, 29)]
          (by kernel_rfl) (by kernel_rfl) (by decide) (by kernel_rfl) (fun _ _ d _ _ h => by cases d <;> exact h) ?_
        simp only [inOrder2, List.getElem?_cons_succ, List.getElem?_cons_zero, List.nil_append, List.cons_append]
        have hS := (Below.refl wx.heap.size wx).drew
        ((with_reducible refine o3_calmF (v := ?_) (a' := ?_) hS ?_ (fun V => ?_) ?_ ?_); rotate_left 2; (rfl); (first | (go_simp; with_reducible rfl) | (go_simp; refine (if_pos ?_).trans ?_; omega; with_reducible rfl)); (simp only [Act.put, List.setIfInBounds_toArray, List.set_cons_succ, List.set_cons_zero] <;> rfl))
        ((with_reducible refine o3_both (v := ?_) (a' := ?_) hS ?_ (fun V hV => ?_) (fun V hV => ?_) ?_ ?_); rotate_left 2; (focus rfl); (focus (have y0 := keep_c f0 hV; have y1 := keep_c f1 hV; first | (go_simp; with_reducible rfl) | (go_simp; refine (if_pos ?_).trans ?_; omega; with_reducible rfl))); (focus (have y0 := keep_c f0 hV; have y1 := keep_c f1 hV; first | (go_simp; done) | (go_simp; with_reducible rfl))); (focus (simp only [Act.put, List.setIfInBounds_toArray, List.set_cons_succ, List.set_cons_zero] <;> rfl)))
        refine o3_onlyF rfl rfl ?_
        go_simp
        refine ⟨trivial, rfl, (callsIn_wide.2 (T1 _)).mono ?_⟩
        rintro e w2 ⟨rfl, hw⟩
        obtain rfl := hw.symm
        clear hw
        refine ⟨hS, ?_⟩
        iterate 2 (((with_reducible refine o3_calmF (v := ?_) (a' := ?_) hS ?_ (fun V => ?_) ?_ ?_); rotate_left 2; (rfl); (first | (go_simp; with_reducible rfl) | (go_simp; refine (if_pos ?_).trans ?_; omega; with_reducible rfl)); (simp only [Act.put, List.setIfInBounds_toArray, List.set_cons_succ, List.set_cons_zero] <;> rfl)))
        first | ((with_reducible refine o3_calmF (v := ?_) (a' := ?_) hS ?_ (fun V => ?_) ?_ ?_); rotate_left 2; (rfl); (first | (go_simp; with_reducible rfl) | (go_simp; refine (if_pos ?_).trans ?_; omega; with_reducible rfl)); (simp only [Act.put, List.setIfInBounds_toArray, List.set_cons_succ, List.set_cons_zero] <;> rfl)) | ((with_reducible refine o3_idleF (a' := ?_) hS ?_ ?_ ?_); rotate_left; (rfl); (simp only [Act.put, List.setIfInBounds_toArray, List.set_cons_succ, List.set_cons_zero] <;> rfl))
        first | ((with_reducible refine o3_both (v := ?_) (a' := ?_) hS ?_ (fun V hV => ?_) (fun V hV => ?_) ?_ ?_); rotate_left 2; (focus rfl); (focus (have y0 := keep_c f0 hV; have y1 := keep_c f1 hV; first | (go_simp; with_reducible rfl) | (go_simp; refine (if_pos ?_).trans ?_; omega; with_reducible rfl))); (focus (have y0 := keep_c f0 hV; have y1 := keep_c f1 hV; first | (go_simp; done) | (go_simp; with_reducible rfl))); (focus (simp only [Act.put, List.setIfInBounds_toArray, List.set_cons_succ, List.set_cons_zero] <;> rfl))) | ((with_reducible refine o3_idleF (a' := ?_) hS ?_ ?_ ?_); rotate_left; (rfl); (simp only [Act.put, List.setIfInBounds_toArray, List.set_cons_succ, List.set_cons_zero] <;> rfl))
        refine o3_idle0 (a' := ?_) hS rfl ?_ ?_ ?_
        rotate_left
        · rfl
        · simp only [Act.put, List.setIfInBounds_toArray, List.set_cons_succ, List.set_cons_zero] <;> rfl
        first | ((with_reducible refine o3_calmF (v := ?_) (a' := ?_) hS ?_ (fun V => ?_) ?_ ?_); rotate_left 2; (rfl); (first | (go_simp; with_reducible rfl) | (go_simp; refine (if_pos ?_).trans ?_; omega; with_reducible rfl)); (simp only [Act.put, List.setIfInBounds_toArray, List.set_cons_succ, List.set_cons_zero] <;> rfl)) | ((with_reducible refine o3_idleF (a' := ?_) hS ?_ ?_ ?_); rotate_left; (rfl); (simp only [Act.put, List.setIfInBounds_toArray, List.set_cons_succ, List.set_cons_zero] <;> rfl))
        iterate 2 (((with_reducible refine o3_calmF (v := ?_) (a' := ?_) hS ?_ (fun V => ?_) ?_ ?_); rotate_left 2; (rfl); (first | (go_simp; with_reducible rfl) | (go_simp; refine (if_pos ?_).trans ?_; omega; with_reducible rfl)); (simp only [Act.put, List.setIfInBounds_toArray, List.set_cons_succ, List.set_cons_zero] <;> rfl)))
        iterate 2 (first | ((with_reducible refine o3_calmF (v := ?_) (a' := ?_) hS ?_ (fun V => ?_) ?_ ?_); rotate_left 2; (rfl); (first | (go_simp; with_reducible rfl) | (go_simp; refine (if_pos ?_).trans ?_; omega; with_reducible rfl)); (simp only [Act.put, List.setIfInBounds_toArray, List.set_cons_succ, List.set_cons_zero] <;> rfl)) | ((with_reducible refine o3_idleF (a' := ?_) hS ?_ ?_ ?_); rotate_left; (rfl); (simp only [Act.put, List.setIfInBounds_toArray, List.set_cons_succ, List.set_cons_zero] <;> rfl)))
        first | ((with_reducible refine o3_both (v := ?_) (a' := ?_) hS ?_ (fun V hV => ?_) (fun V hV => ?_) ?_ ?_); rotate_left 2; (focus rfl); (focus (have y0 := keep_c f0 hV; have y1 := keep_c f1 hV; first | (go_simp; with_reducible rfl) | (go_simp; refine (if_pos ?_).trans ?_; omega; with_reducible rfl))); (focus (have y0 := keep_c f0 hV; have y1 := keep_c f1 hV; first | (go_simp; done) | (go_simp; with_reducible rfl))); (focus (simp only [Act.put, List.setIfInBounds_toArray, List.set_cons_succ, List.set_cons_zero] <;> rfl))) | ((with_reducible refine o3_idleF (a' := ?_) hS ?_ ?_ ?_); rotate_left; (rfl); (simp only [Act.put, List.setIfInBounds_toArray, List.set_cons_succ, List.set_cons_zero] <;> rfl))
        refine o3_idle0 (a' := ?_) hS rfl ?_ ?_ ?_
        rotate_left
        · rfl
        · simp only [Act.put, List.setIfInBounds_toArray, List.set_cons_succ, List.set_cons_zero] <;> rfl
        iterate 2 (((with_reducible refine o3_calmF (v := ?_) (a' := ?_) hS ?_ (fun V => ?_) ?_ ?_); rotate_left 2; (rfl); (first | (go_simp; with_reducible rfl) | (go_simp; refine (if_pos ?_).trans ?_; omega; with_reducible rfl)); (simp only [Act.put, List.setIfInBounds_toArray, List.set_cons_succ, List.set_cons_zero] <;> rfl)))
        iterate 7 (first | ((with_reducible refine o3_calmF (v := ?_) (a' := ?_) hS ?_ (fun V => ?_) ?_ ?_); rotate_left 2; (rfl); (first | (go_simp; with_reducible rfl) | (go_simp; refine (if_pos ?_).trans ?_; omega; with_reducible rfl)); (simp only [Act.put, List.setIfInBounds_toArray, List.set_cons_succ, List.set_cons_zero] <;> rfl)) | ((with_reducible refine o3_idleF (a' := ?_) hS ?_ ?_ ?_); rotate_left; (rfl); (simp only [Act.put, List.setIfInBounds_toArray, List.set_cons_succ, List.set_cons_zero] <;> rfl)))
        iterate 2 (first | ((with_reducible refine o3_pre (v := ?_) (a' := ?_) hS ?_ (fun V hV => ?_) ?_ ?_); rotate_left 2; (rfl); (have y0 := keep_c f0 hV; have y1 := keep_c f1 hV; first | (go_simp; with_reducible rfl) | (go_simp; refine (if_pos ?_).trans ?_; omega; with_reducible rfl)); (simp only [Act.put, List.setIfInBounds_toArray, List.set_cons_succ, List.set_cons_zero] <;> rfl)) | ((with_reducible refine o3_idleF (a' := ?_) hS ?_ ?_ ?_); rotate_left; (rfl); (simp only [Act.put, List.setIfInBounds_toArray, List.set_cons_succ, List.set_cons_zero] <;> rfl)))
        refine o3_idleS (a' := ?_) hS rfl ?_ ?_ ?_
        rotate_left
        · rfl
        · simp only [Act.put, List.setIfInBounds_toArray, List.set_cons_succ, List.set_cons_zero] <;> rfl
        iterate 2 (first | ((with_reducible refine o3_calmT (v := ?_) (a' := ?_) hS ?_ (fun V => ?_) ?_ ?_); rotate_left 2; (rfl); (first | (go_simp; with_reducible rfl) | (go_simp; refine (if_pos ?_).trans ?_; omega; with_reducible rfl)); (simp only [Act.put, List.setIfInBounds_toArray, List.set_cons_succ, List.set_cons_zero] <;> rfl)) | ((with_reducible refine o3_idleT (a' := ?_) hS ?_ ?_ ?_); rotate_left; (rfl); (simp only [Act.put, List.setIfInBounds_toArray, List.set_cons_succ, List.set_cons_zero] <;> rfl)))
        ((with_reducible refine o3_calmT (v := ?_) (a' := ?_) hS ?_ (fun V => ?_) ?_ ?_); rotate_left 2; (rfl); (first | (go_simp; with_reducible rfl) | (go_simp; refine (if_pos ?_).trans ?_; omega; with_reducible rfl)); (simp only [Act.put, List.setIfInBounds_toArray, List.set_cons_succ, List.set_cons_zero] <;> rfl))
        refine o3_end _ ?_
        try simp only [Exit.then]
        go_wp2
        go_returns
        exact ⟨⟨_, rfl⟩, hBx.trans (hS.mono hsx)⟩
      | true =>
        cases t2 with
        | false =>
          refine wp_region_ord3 (fun V => Below wx.heap.size wx V) (fun V => Below wx.heap.size wx V) 26 (by kernel_rfl)
            [(2, 0), (2, 1), (0, 2), (2, 3), (2, 4), (2, 5), (2, 6), (0, 7), (2, 8), (2, 9), (2, 10), (2, 11), (2, 12), (2, 13), (0, 14), (2, 15), (2, 16), (2, 17), (2, 18), (2, 19), (2, 20), (2, 21), (2, 22), (2, 23), (1, 24), (1, 25), (0, 26), (2, 27), (2, 28), (2, 29)]
            (by kernel_rfl) (by kernel_rfl) (by decide) (by kernel_rfl) (fun _ _ d _ _ h => by cases d <;> exact h) ?_
          simp only [inOrder2, List.getElem?_cons_succ, List.getElem?_cons_zero, List.nil_append, List.cons_append]
          have hS := (Below.refl wx.heap.size wx).drew
          ((with_reducible refine o3_calmF (v := ?_) (a' := ?_) hS ?_ (fun V => ?_) ?_ ?_); rotate_left 2; (rfl); (first | (go_simp; with_reducible rfl) | (go_simp; refine (if_pos ?_).trans ?_; omega; with_reducible rfl)); (simp only [Act.put, List.setIfInBounds_toArray, List.set_cons_succ, List.set_cons_zero] <;> rfl))
          ((with_reducible refine o3_both (v := ?_) (a' := ?_) hS ?_ (fun V hV => ?_) (fun V hV => ?_) ?_ ?_); rotate_left 2; (focus rfl); (focus (have y0 := keep_c f0 hV; have y1 := keep_c f1 hV; first | (go_simp; with_reducible rfl) | (go_simp; refine (if_pos ?_).trans ?_; omega; with_reducible rfl))); (focus (have y0 := keep_c f0 hV; have y1 := keep_c f1 hV; first | (go_simp; done) | (go_simp; with_reducible rfl))); (focus (simp only [Act.put, List.setIfInBounds_toArray, List.set_cons_succ, List.set_cons_zero] <;> rfl)))
          refine o3_onlyF rfl rfl ?_
          go_simp
          refine ⟨trivial, rfl, (callsIn_wide.2 (T1 _)).mono ?_⟩
          rintro e w2 ⟨rfl, hw⟩
          obtain rfl := hw.symm
          clear hw
          refine ⟨hS, ?_⟩
          iterate 2 (((with_reducible refine o3_calmF (v := ?_) (a' := ?_) hS ?_ (fun V => ?_) ?_ ?_); rotate_left 2; (rfl); (first | (go_simp; with_reducible rfl) | (go_simp; refine (if_pos ?_).trans ?_; omega; with_reducible rfl)); (simp only [Act.put, List.setIfInBounds_toArray, List.set_cons_succ, List.set_cons_zero] <;> rfl)))
          first | ((with_reducible refine o3_calmF (v := ?_) (a' := ?_) hS ?_ (fun V => ?_) ?_ ?_); rotate_left 2; (rfl); (first | (go_simp; with_reducible rfl) | (go_simp; refine (if_pos ?_).trans ?_; omega; with_reducible rfl)); (simp only [Act.put, List.setIfInBounds_toArray, List.set_cons_succ, List.set_cons_zero] <;> rfl)) | ((with_reducible refine o3_idleF (a' := ?_) hS ?_ ?_ ?_); rotate_left; (rfl); (simp only [Act.put, List.setIfInBounds_toArray, List.set_cons_succ, List.set_cons_zero] <;> rfl))
          first | ((with_reducible refine o3_both (v := ?_) (a' := ?_) hS ?_ (fun V hV => ?_) (fun V hV => ?_) ?_ ?_); rotate_left 2; (focus rfl); (focus (have y0 := keep_c f0 hV; have y1 := keep_c f1 hV; first | (go_simp; with_reducible rfl) | (go_simp; refine (if_pos ?_).trans ?_; omega; with_reducible rfl))); (focus (have y0 := keep_c f0 hV; have y1 := keep_c f1 hV; first | (go_simp; done) | (go_simp; with_reducible rfl))); (focus (simp only [Act.put, List.setIfInBounds_toArray, List.set_cons_succ, List.set_cons_zero] <;> rfl))) | ((with_reducible refine o3_idleF (a' := ?_) hS ?_ ?_ ?_); rotate_left; (rfl); (simp only [Act.put, List.setIfInBounds_toArray, List.set_cons_succ, List.set_cons_zero] <;> rfl))
          refine o3_onlyF rfl rfl ?_
          go_simp
          refine ⟨trivial, rfl, (callsIn_wide.2 (T2 _)).mono ?_⟩
          rintro e w2 ⟨rfl, hw⟩
          obtain rfl := hw.symm
          clear hw
          refine ⟨hS, ?_⟩
          first | ((with_reducible refine o3_calmF (v := ?_) (a' := ?_) hS ?_ (fun V => ?_) ?_ ?_); rotate_left 2; (rfl); (first | (go_simp; with_reducible rfl) | (go_simp; refine (if_pos ?_).trans ?_; omega; with_reducible rfl)); (simp only [Act.put, List.setIfInBounds_toArray, List.set_cons_succ, List.set_cons_zero] <;> rfl)) | ((with_reducible refine o3_idleF (a' := ?_) hS ?_ ?_ ?_); rotate_left; (rfl); (simp only [Act.put, List.setIfInBounds_toArray, List.set_cons_succ, List.set_cons_zero] <;> rfl))
          iterate 2 (((with_reducible refine o3_calmF (v := ?_) (a' := ?_) hS ?_ (fun V => ?_) ?_ ?_); rotate_left 2; (rfl); (first | (go_simp; with_reducible rfl) | (go_simp; refine (if_pos ?_).trans ?_; omega; with_reducible rfl)); (simp only [Act.put, List.setIfInBounds_toArray, List.set_cons_succ, List.set_cons_zero] <;> rfl)))
          iterate 2 (first | ((with_reducible refine o3_calmF (v := ?_) (a' := ?_) hS ?_ (fun V => ?_) ?_ ?_); rotate_left 2; (rfl); (first | (go_simp; with_reducible rfl) | (go_simp; refine (if_pos ?_).trans ?_; omega; with_reducible rfl)); (simp only [Act.put, List.setIfInBounds_toArray, List.set_cons_succ, List.set_cons_zero] <;> rfl)) | ((with_reducible refine o3_idleF (a' := ?_) hS ?_ ?_ ?_); rotate_left; (rfl); (simp only [Act.put, List.setIfInBounds_toArray, List.set_cons_succ, List.set_cons_zero] <;> rfl)))
          first | ((with_reducible refine o3_both (v := ?_) (a' := ?_) hS ?_ (fun V hV => ?_) (fun V hV => ?_) ?_ ?_); rotate_left 2; (focus rfl); (focus (have y0 := keep_c f0 hV; have y1 := keep_c f1 hV; first | (go_simp; with_reducible rfl) | (go_simp; refine (if_pos ?_).trans ?_; omega; with_reducible rfl))); (focus (have y0 := keep_c f0 hV; have y1 := keep_c f1 hV; first | (go_simp; done) | (go_simp; with_reducible rfl))); (focus (simp only [Act.put, List.setIfInBounds_toArray, List.set_cons_succ, List.set_cons_zero] <;> rfl))) | ((with_reducible refine o3_idleF (a' := ?_) hS ?_ ?_ ?_); rotate_left; (rfl); (simp only [Act.put, List.setIfInBounds_toArray, List.set_cons_succ, List.set_cons_zero] <;> rfl))
          refine o3_idle0 (a' := ?_) hS rfl ?_ ?_ ?_
          rotate_left
          · rfl
          · simp only [Act.put, List.setIfInBounds_toArray, List.set_cons_succ, List.set_cons_zero] <;> rfl
          iterate 2 (((with_reducible refine o3_calmF (v := ?_) (a' := ?_) hS ?_ (fun V => ?_) ?_ ?_); rotate_left 2; (rfl); (first | (go_simp; with_reducible rfl) | (go_simp; refine (if_pos ?_).trans ?_; omega; with_reducible rfl)); (simp only [Act.put, List.setIfInBounds_toArray, List.set_cons_succ, List.set_cons_zero] <;> rfl)))
          iterate 7 (first | ((with_reducible refine o3_calmF (v := ?_) (a' := ?_) hS ?_ (fun V => ?_) ?_ ?_); rotate_left 2; (rfl); (first | (go_simp; with_reducible rfl) | (go_simp; refine (if_pos ?_).trans ?_; omega; with_reducible rfl)); (simp only [Act.put, List.setIfInBounds_toArray, List.set_cons_succ, List.set_cons_zero] <;> rfl)) | ((with_reducible refine o3_idleF (a' := ?_) hS ?_ ?_ ?_); rotate_left; (rfl); (simp only [Act.put, List.setIfInBounds_toArray, List.set_cons_succ, List.set_cons_zero] <;> rfl)))
          iterate 2 (first | ((with_reducible refine o3_pre (v := ?_) (a' := ?_) hS ?_ (fun V hV => ?_) ?_ ?_); rotate_left 2; (rfl); (have y0 := keep_c f0 hV; have y1 := keep_c f1 hV; first | (go_simp; with_reducible rfl) | (go_simp; refine (if_pos ?_).trans ?_; omega; with_reducible rfl)); (simp only [Act.put, List.setIfInBounds_toArray, List.set_cons_succ, List.set_cons_zero] <;> rfl)) | ((with_reducible refine o3_idleF (a' := ?_) hS ?_ ?_ ?_); rotate_left; (rfl); (simp only [Act.put, List.setIfInBounds_toArray, List.set_cons_succ, List.set_cons_zero] <;> rfl)))
          refine o3_idleS (a' := ?_) hS rfl ?_ ?_ ?_
          rotate_left
          · rfl
          · simp only [Act.put, List.setIfInBounds_toArray, List.set_cons_succ, List.set_cons_zero] <;> rfl
          iterate 2 (first | ((with_reducible refine o3_calmT (v := ?_) (a' := ?_) hS ?_ (fun V => ?_) ?_ ?_); rotate_left 2; (rfl); (first | (go_simp; with_reducible rfl) | (go_simp; refine (if_pos ?_).trans ?_; omega; with_reducible rfl)); (simp only [Act.put, List.setIfInBounds_toArray, List.set_cons_succ, List.set_cons_zero] <;> rfl)) | ((with_reducible refine o3_idleT (a' := ?_) hS ?_ ?_ ?_); rotate_left; (rfl); (simp only [Act.put, List.setIfInBounds_toArray, List.set_cons_succ, List.set_cons_zero] <;> rfl)))
          ((with_reducible refine o3_calmT (v := ?_) (a' := ?_) hS ?_ (fun V => ?_) ?_ ?_); rotate_left 2; (rfl); (first | (go_simp; with_reducible rfl) | (go_simp; refine (if_pos ?_).trans ?_; omega; with_reducible rfl)); (simp only [Act.put, List.setIfInBounds_toArray, List.set_cons_succ, List.set_cons_zero] <;> rfl))
          refine o3_end _ ?_
          try simp only [Exit.then]
          go_wp2
          go_returns
          exact ⟨⟨_, rfl⟩, hBx.trans (hS.mono hsx)⟩
        | true =>
          cases b3 with
          | true =>
            refine wp_region_ord3 (fun V => Below wx.heap.size wx V) (fun V => Below wx.heap.size wx V) 26 (by kernel_rfl)
              [(2, 0), (2, 1), (0, 2), (2, 3), (2, 4), (2, 5), (2, 6), (0, 7), (2, 8), (2, 9), (2, 10), (2, 11), (2, 12), (2, 13), (0, 14), (2, 15), (2, 16), (2, 17), (2, 18), (2, 19), (2, 20), (2, 21), (2, 22), (2, 23), (1, 24), (1, 25), (0, 26), (2, 27), (2, 28), (2, 29)]
              (by kernel_rfl) (by kernel_rfl) (by decide) (by kernel_rfl) (fun _ _ d _ _ h => by cases d <;> exact h) ?_
            simp only [inOrder2, List.getElem?_cons_succ, List.getElem?_cons_zero, List.nil_append, List.cons_append]
            have hS := (Below.refl wx.heap.size wx).drew
            ((with_reducible refine o3_calmF (v := ?_) (a' := ?_) hS ?_ (fun V => ?_) ?_ ?_); rotate_left 2; (rfl); (first | (go_simp; with_reducible rfl) | (go_simp; refine (if_pos ?_).trans ?_; omega; with_reducible rfl)); (simp only [Act.put, List.setIfInBounds_toArray, List.set_cons_succ, List.set_cons_zero] <;> rfl))
            ((with_reducible refine o3_both (v := ?_) (a' := ?_) hS ?_ (fun V hV => ?_) (fun V hV => ?_) ?_ ?_); rotate_left 2; (focus rfl); (focus (have y0 := keep_c f0 hV; have y1 := keep_c f1 hV; first | (go_simp; with_reducible rfl) | (go_simp; refine (if_pos ?_).trans ?_; omega; with_reducible rfl))); (focus (have y0 := keep_c f0 hV; have y1 := keep_c f1 hV; first | (go_simp; done) | (go_simp; with_reducible rfl))); (focus (simp only [Act.put, List.setIfInBounds_toArray, List.set_cons_succ, List.set_cons_zero] <;> rfl)))
            refine o3_onlyF rfl rfl ?_
            go_simp
            refine ⟨trivial, rfl, (callsIn_wide.2 (T1 _)).mono ?_⟩
            rintro e w2 ⟨rfl, hw⟩
            obtain rfl := hw.symm
            clear hw
            refine ⟨hS, ?_⟩
            iterate 2 (((with_reducible refine o3_calmF (v := ?_) (a' := ?_) hS ?_ (fun V => ?_) ?_ ?_); rotate_left 2; (rfl); (first | (go_simp; with_reducible rfl) | (go_simp; refine (if_pos ?_).trans ?_; omega; with_reducible rfl)); (simp only [Act.put, List.setIfInBounds_toArray, List.set_cons_succ, List.set_cons_zero] <;> rfl)))
            first | ((with_reducible refine o3_calmF (v := ?_) (a' := ?_) hS ?_ (fun V => ?_) ?_ ?_); rotate_left 2; (rfl); (first | (go_simp; with_reducible rfl) | (go_simp; refine (if_pos ?_).trans ?_; omega; with_reducible rfl)); (simp only [Act.put, List.setIfInBounds_toArray, List.set_cons_succ, List.set_cons_zero] <;> rfl)) | ((with_reducible refine o3_idleF (a' := ?_) hS ?_ ?_ ?_); rotate_left; (rfl); (simp only [Act.put, List.setIfInBounds_toArray, List.set_cons_succ, List.set_cons_zero] <;> rfl))
            first | ((with_reducible refine o3_both (v := ?_) (a' := ?_) hS ?_ (fun V hV => ?_) (fun V hV => ?_) ?_ ?_); rotate_left 2; (focus rfl); (focus (have y0 := keep_c f0 hV; have y1 := keep_c f1 hV; first | (go_simp; with_reducible rfl) | (go_simp; refine (if_pos ?_).trans ?_; omega; with_reducible rfl))); (focus (have y0 := keep_c f0 hV; have y1 := keep_c f1 hV; first | (go_simp; done) | (go_simp; with_reducible rfl))); (focus (simp only [Act.put, List.setIfInBounds_toArray, List.set_cons_succ, List.set_cons_zero] <;> rfl))) | ((with_reducible refine o3_idleF (a' := ?_) hS ?_ ?_ ?_); rotate_left; (rfl); (simp only [Act.put, List.setIfInBounds_toArray, List.set_cons_succ, List.set_cons_zero] <;> rfl))
            refine o3_onlyF rfl rfl ?_
            go_simp
            refine ⟨trivial, rfl, (callsIn_wide.2 (T2 _)).mono ?_⟩
            rintro e w2 ⟨rfl, hw⟩
            obtain rfl := hw.symm
            clear hw
            refine ⟨hS, ?_⟩
            first | ((with_reducible refine o3_calmF (v := ?_) (a' := ?_) hS ?_ (fun V => ?_) ?_ ?_); rotate_left 2; (rfl); (first | (go_simp; with_reducible rfl) | (go_simp; refine (if_pos ?_).trans ?_; omega; with_reducible rfl)); (simp only [Act.put, List.setIfInBounds_toArray, List.set_cons_succ, List.set_cons_zero] <;> rfl)) | ((with_reducible refine o3_idleF (a' := ?_) hS ?_ ?_ ?_); rotate_left; (rfl); (simp only [Act.put, List.setIfInBounds_toArray, List.set_cons_succ, List.set_cons_zero] <;> rfl))
            iterate 2 (((with_reducible refine o3_calmF (v := ?_) (a' := ?_) hS ?_ (fun V => ?_) ?_ ?_); rotate_left 2; (rfl); (first | (go_simp; with_reducible rfl) | (go_simp; refine (if_pos ?_).trans ?_; omega; with_reducible rfl)); (simp only [Act.put, List.setIfInBounds_toArray, List.set_cons_succ, List.set_cons_zero] <;> rfl)))
            iterate 2 (first | ((with_reducible refine o3_calmF (v := ?_) (a' := ?_) hS ?_ (fun V => ?_) ?_ ?_); rotate_left 2; (rfl); (first | (go_simp; with_reducible rfl) | (go_simp; refine (if_pos ?_).trans ?_; omega; with_reducible rfl)); (simp only [Act.put, List.setIfInBounds_toArray, List.set_cons_succ, List.set_cons_zero] <;> rfl)) | ((with_reducible refine o3_idleF (a' := ?_) hS ?_ ?_ ?_); rotate_left; (rfl); (simp only [Act.put, List.setIfInBounds_toArray, List.set_cons_succ, List.set_cons_zero] <;> rfl)))
            first | ((with_reducible refine o3_both (v := ?_) (a' := ?_) hS ?_ (fun V hV => ?_) (fun V hV => ?_) ?_ ?_); rotate_left 2; (focus rfl); (focus (have y0 := keep_c f0 hV; have y1 := keep_c f1 hV; first | (go_simp; with_reducible rfl) | (go_simp; refine (if_pos ?_).trans ?_; omega; with_reducible rfl))); (focus (have y0 := keep_c f0 hV; have y1 := keep_c f1 hV; first | (go_simp; done) | (go_simp; with_reducible rfl))); (focus (simp only [Act.put, List.setIfInBounds_toArray, List.set_cons_succ, List.set_cons_zero] <;> rfl))) | ((with_reducible refine o3_idleF (a' := ?_) hS ?_ ?_ ?_); rotate_left; (rfl); (simp only [Act.put, List.setIfInBounds_toArray, List.set_cons_succ, List.set_cons_zero] <;> rfl))
            refine o3_valF (a' := ?_) rfl ?_ (look_exec rfl rfl (LK _ (hS.block w.heap.size hmx))) ?_ hS ?_
            rotate_left
            · rfl
            focus (simp only [Act.put, List.setIfInBounds_toArray, List.set_cons_succ, List.set_cons_zero] <;> rfl)
            iterate 2 (((with_reducible refine o3_calmF (v := ?_) (a' := ?_) hS ?_ (fun V => ?_) ?_ ?_); rotate_left 2; (rfl); (first | (go_simp; with_reducible rfl) | (go_simp; refine (if_pos ?_).trans ?_; omega; with_reducible rfl)); (simp only [Act.put, List.setIfInBounds_toArray, List.set_cons_succ, List.set_cons_zero] <;> rfl)))
            iterate 7 (first | ((with_reducible refine o3_calmF (v := ?_) (a' := ?_) hS ?_ (fun V => ?_) ?_ ?_); rotate_left 2; (rfl); (first | (go_simp; with_reducible rfl) | (go_simp; refine (if_pos ?_).trans ?_; omega; with_reducible rfl)); (simp only [Act.put, List.setIfInBounds_toArray, List.set_cons_succ, List.set_cons_zero] <;> rfl)) | ((with_reducible refine o3_idleF (a' := ?_) hS ?_ ?_ ?_); rotate_left; (rfl); (simp only [Act.put, List.setIfInBounds_toArray, List.set_cons_succ, List.set_cons_zero] <;> rfl)))
            iterate 2 (first | ((with_reducible refine o3_pre (v := ?_) (a' := ?_) hS ?_ (fun V hV => ?_) ?_ ?_); rotate_left 2; (rfl); (have y0 := keep_c f0 hV; have y1 := keep_c f1 hV; first | (go_simp; with_reducible rfl) | (go_simp; refine (if_pos ?_).trans ?_; omega; with_reducible rfl)); (simp only [Act.put, List.setIfInBounds_toArray, List.set_cons_succ, List.set_cons_zero] <;> rfl)) | ((with_reducible refine o3_idleF (a' := ?_) hS ?_ ?_ ?_); rotate_left; (rfl); (simp only [Act.put, List.setIfInBounds_toArray, List.set_cons_succ, List.set_cons_zero] <;> rfl)))
            refine o3_idleS (a' := ?_) hS rfl ?_ ?_ ?_
            rotate_left
            · rfl
            · simp only [Act.put, List.setIfInBounds_toArray, List.set_cons_succ, List.set_cons_zero] <;> rfl
            iterate 2 (first | ((with_reducible refine o3_calmT (v := ?_) (a' := ?_) hS ?_ (fun V => ?_) ?_ ?_); rotate_left 2; (rfl); (first | (go_simp; with_reducible rfl) | (go_simp; refine (if_pos ?_).trans ?_; omega; with_reducible rfl)); (simp only [Act.put, List.setIfInBounds_toArray, List.set_cons_succ, List.set_cons_zero] <;> rfl)) | ((with_reducible refine o3_idleT (a' := ?_) hS ?_ ?_ ?_); rotate_left; (rfl); (simp only [Act.put, List.setIfInBounds_toArray, List.set_cons_succ, List.set_cons_zero] <;> rfl)))
            ((with_reducible refine o3_calmT (v := ?_) (a' := ?_) hS ?_ (fun V => ?_) ?_ ?_); rotate_left 2; (rfl); (first | (go_simp; with_reducible rfl) | (go_simp; refine (if_pos ?_).trans ?_; omega; with_reducible rfl)); (simp only [Act.put, List.setIfInBounds_toArray, List.set_cons_succ, List.set_cons_zero] <;> rfl))
            refine o3_end _ ?_
            try simp only [Exit.then]
            go_wp2
            go_returns
            exact ⟨⟨_, rfl⟩, hBx.trans (hS.mono hsx)⟩
          | false =>
            by_cases hk0 : k = 0
            · subst hk0
              refine wp_region_ord3 (fun V => Below wx.heap.size wx V) (fun V => Below wx.heap.size wx V) 26 (by kernel_rfl)
                [(2, 0), (2, 1), (0, 2), (2, 3), (2, 4), (2, 5), (2, 6), (0, 7), (2, 8), (2, 9), (2, 10), (2, 11), (2, 12), (2, 13), (0, 14), (2, 15), (2, 16), (2, 17), (2, 18), (2, 19), (2, 20), (2, 21), (2, 22), (2, 23), (1, 24), (1, 25), (0, 26), (2, 27), (2, 28), (2, 29)]
                (by kernel_rfl) (by kernel_rfl) (by decide) (by kernel_rfl) (fun _ _ d _ _ h => by cases d <;> exact h) ?_
              simp only [inOrder2, List.getElem?_cons_succ, List.getElem?_cons_zero, List.nil_append, List.cons_append]
              have hS := (Below.refl wx.heap.size wx).drew
              ((with_reducible refine o3_calmF (v := ?_) (a' := ?_) hS ?_ (fun V => ?_) ?_ ?_); rotate_left 2; (rfl); (first | (go_simp; with_reducible rfl) | (go_simp; refine (if_pos ?_).trans ?_; omega; with_reducible rfl)); (simp only [Act.put, List.setIfInBounds_toArray, List.set_cons_succ, List.set_cons_zero] <;> rfl))
              ((with_reducible refine o3_both (v := ?_) (a' := ?_) hS ?_ (fun V hV => ?_) (fun V hV => ?_) ?_ ?_); rotate_left 2; (focus rfl); (focus (have y0 := keep_c f0 hV; have y1 := keep_c f1 hV; first | (go_simp; with_reducible rfl) | (go_simp; refine (if_pos ?_).trans ?_; omega; with_reducible rfl))); (focus (have y0 := keep_c f0 hV; have y1 := keep_c f1 hV; first | (go_simp; done) | (go_simp; with_reducible rfl))); (focus (simp only [Act.put, List.setIfInBounds_toArray, List.set_cons_succ, List.set_cons_zero] <;> rfl)))
              refine o3_onlyF rfl rfl ?_
              go_simp
              refine ⟨trivial, rfl, (callsIn_wide.2 (T1 _)).mono ?_⟩
              rintro e w2 ⟨rfl, hw⟩
              obtain rfl := hw.symm
              clear hw
              refine ⟨hS, ?_⟩
              iterate 2 (((with_reducible refine o3_calmF (v := ?_) (a' := ?_) hS ?_ (fun V => ?_) ?_ ?_); rotate_left 2; (rfl); (first | (go_simp; with_reducible rfl) | (go_simp; refine (if_pos ?_).trans ?_; omega; with_reducible rfl)); (simp only [Act.put, List.setIfInBounds_toArray, List.set_cons_succ, List.set_cons_zero] <;> rfl)))
              first | ((with_reducible refine o3_calmF (v := ?_) (a' := ?_) hS ?_ (fun V => ?_) ?_ ?_); rotate_left 2; (rfl); (first | (go_simp; with_reducible rfl) | (go_simp; refine (if_pos ?_).trans ?_; omega; with_reducible rfl)); (simp only [Act.put, List.setIfInBounds_toArray, List.set_cons_succ, List.set_cons_zero] <;> rfl)) | ((with_reducible refine o3_idleF (a' := ?_) hS ?_ ?_ ?_); rotate_left; (rfl); (simp only [Act.put, List.setIfInBounds_toArray, List.set_cons_succ, List.set_cons_zero] <;> rfl))
              first | ((with_reducible refine o3_both (v := ?_) (a' := ?_) hS ?_ (fun V hV => ?_) (fun V hV => ?_) ?_ ?_); rotate_left 2; (focus rfl); (focus (have y0 := keep_c f0 hV; have y1 := keep_c f1 hV; first | (go_simp; with_reducible rfl) | (go_simp; refine (if_pos ?_).trans ?_; omega; with_reducible rfl))); (focus (have y0 := keep_c f0 hV; have y1 := keep_c f1 hV; first | (go_simp; done) | (go_simp; with_reducible rfl))); (focus (simp only [Act.put, List.setIfInBounds_toArray, List.set_cons_succ, List.set_cons_zero] <;> rfl))) | ((with_reducible refine o3_idleF (a' := ?_) hS ?_ ?_ ?_); rotate_left; (rfl); (simp only [Act.put, List.setIfInBounds_toArray, List.set_cons_succ, List.set_cons_zero] <;> rfl))
              refine o3_onlyF rfl rfl ?_
              go_simp
              refine ⟨trivial, rfl, (callsIn_wide.2 (T2 _)).mono ?_⟩
              rintro e w2 ⟨rfl, hw⟩
              obtain rfl := hw.symm
              clear hw
              refine ⟨hS, ?_⟩
              first | ((with_reducible refine o3_calmF (v := ?_) (a' := ?_) hS ?_ (fun V => ?_) ?_ ?_); rotate_left 2; (rfl); (first | (go_simp; with_reducible rfl) | (go_simp; refine (if_pos ?_).trans ?_; omega; with_reducible rfl)); (simp only [Act.put, List.setIfInBounds_toArray, List.set_cons_succ, List.set_cons_zero] <;> rfl)) | ((with_reducible refine o3_idleF (a' := ?_) hS ?_ ?_ ?_); rotate_left; (rfl); (simp only [Act.put, List.setIfInBounds_toArray, List.set_cons_succ, List.set_cons_zero] <;> rfl))
              iterate 2 (((with_reducible refine o3_calmF (v := ?_) (a' := ?_) hS ?_ (fun V => ?_) ?_ ?_); rotate_left 2; (rfl); (first | (go_simp; with_reducible rfl) | (go_simp; refine (if_pos ?_).trans ?_; omega; with_reducible rfl)); (simp only [Act.put, List.setIfInBounds_toArray, List.set_cons_succ, List.set_cons_zero] <;> rfl)))
              iterate 2 (first | ((with_reducible refine o3_calmF (v := ?_) (a' := ?_) hS ?_ (fun V => ?_) ?_ ?_); rotate_left 2; (rfl); (first | (go_simp; with_reducible rfl) | (go_simp; refine (if_pos ?_).trans ?_; omega; with_reducible rfl)); (simp only [Act.put, List.setIfInBounds_toArray, List.set_cons_succ, List.set_cons_zero] <;> rfl)) | ((with_reducible refine o3_idleF (a' := ?_) hS ?_ ?_ ?_); rotate_left; (rfl); (simp only [Act.put, List.setIfInBounds_toArray, List.set_cons_succ, List.set_cons_zero] <;> rfl)))
              first | ((with_reducible refine o3_both (v := ?_) (a' := ?_) hS ?_ (fun V hV => ?_) (fun V hV => ?_) ?_ ?_); rotate_left 2; (focus rfl); (focus (have y0 := keep_c f0 hV; have y1 := keep_c f1 hV; first | (go_simp; with_reducible rfl) | (go_simp; refine (if_pos ?_).trans ?_; omega; with_reducible rfl))); (focus (have y0 := keep_c f0 hV; have y1 := keep_c f1 hV; first | (go_simp; done) | (go_simp; with_reducible rfl))); (focus (simp only [Act.put, List.setIfInBounds_toArray, List.set_cons_succ, List.set_cons_zero] <;> rfl))) | ((with_reducible refine o3_idleF (a' := ?_) hS ?_ ?_ ?_); rotate_left; (rfl); (simp only [Act.put, List.setIfInBounds_toArray, List.set_cons_succ, List.set_cons_zero] <;> rfl))
              refine o3_valF (a' := ?_) rfl ?_ (look_exec rfl rfl (LK _ (hS.block w.heap.size hmx))) ?_ hS ?_
              rotate_left
              · rfl
              focus (simp only [Act.put, List.setIfInBounds_toArray, List.set_cons_succ, List.set_cons_zero] <;> rfl)
              iterate 2 (((with_reducible refine o3_calmF (v := ?_) (a' := ?_) hS ?_ (fun V => ?_) ?_ ?_); rotate_left 2; (rfl); (first | (go_simp; with_reducible rfl) | (go_simp; refine (if_pos ?_).trans ?_; omega; with_reducible rfl)); (simp only [Act.put, List.setIfInBounds_toArray, List.set_cons_succ, List.set_cons_zero] <;> rfl)))
              iterate 7 (first | ((with_reducible refine o3_calmF (v := ?_) (a' := ?_) hS ?_ (fun V => ?_) ?_ ?_); rotate_left 2; (rfl); (first | (go_simp; with_reducible rfl) | (go_simp; refine (if_pos ?_).trans ?_; omega; with_reducible rfl)); (simp only [Act.put, List.setIfInBounds_toArray, List.set_cons_succ, List.set_cons_zero] <;> rfl)) | ((with_reducible refine o3_idleF (a' := ?_) hS ?_ ?_ ?_); rotate_left; (rfl); (simp only [Act.put, List.setIfInBounds_toArray, List.set_cons_succ, List.set_cons_zero] <;> rfl)))
              iterate 2 (first | ((with_reducible refine o3_pre (v := ?_) (a' := ?_) hS ?_ (fun V hV => ?_) ?_ ?_); rotate_left 2; (rfl); (have y0 := keep_c f0 hV; have y1 := keep_c f1 hV; first | (go_simp; with_reducible rfl) | (go_simp; refine (if_pos ?_).trans ?_; omega; with_reducible rfl)); (simp only [Act.put, List.setIfInBounds_toArray, List.set_cons_succ, List.set_cons_zero] <;> rfl)) | ((with_reducible refine o3_idleF (a' := ?_) hS ?_ ?_ ?_); rotate_left; (rfl); (simp only [Act.put, List.setIfInBounds_toArray, List.set_cons_succ, List.set_cons_zero] <;> rfl)))
              refine o3_idleS (a' := ?_) hS rfl ?_ ?_ ?_
              rotate_left
              · rfl
              · simp only [Act.put, List.setIfInBounds_toArray, List.set_cons_succ, List.set_cons_zero] <;> rfl
              iterate 2 (first | ((with_reducible refine o3_calmT (v := ?_) (a' := ?_) hS ?_ (fun V => ?_) ?_ ?_); rotate_left 2; (rfl); (first | (go_simp; with_reducible rfl) | (go_simp; refine (if_pos ?_).trans ?_; omega; with_reducible rfl)); (simp only [Act.put, List.setIfInBounds_toArray, List.set_cons_succ, List.set_cons_zero] <;> rfl)) | ((with_reducible refine o3_idleT (a' := ?_) hS ?_ ?_ ?_); rotate_left; (rfl); (simp only [Act.put, List.setIfInBounds_toArray, List.set_cons_succ, List.set_cons_zero] <;> rfl)))
              ((with_reducible refine o3_calmT (v := ?_) (a' := ?_) hS ?_ (fun V => ?_) ?_ ?_); rotate_left 2; (rfl); (first | (go_simp; with_reducible rfl) | (go_simp; refine (if_pos ?_).trans ?_; omega; with_reducible rfl)); (simp only [Act.put, List.setIfInBounds_toArray, List.set_cons_succ, List.set_cons_zero] <;> rfl))
              refine o3_end _ ?_
              try simp only [Exit.then]
              have y0 := keep_c f0 hS
              have y1 := keep_c f1 hS
              go_wp2_with (first
                  | (at_mapUpdate; (refine wpList_upd rfl (.tmp 44) (.tmp 46) (.const (.bool true)) rfl Tryz.underlying172 Tryz.underlying3 (hMx.on (hS.block w.heap.size hmx)) rfl d.id rfl _ rfl ⟨true, rfl⟩ ?_); intro w7 hM7 hO7))
              go_roundw
              case rel => exact ⟨0 + 1, by omega, by go_num, hM7, (hBx.trans (hS.mono hsx)).trans (hO7.below (Nat.le_refl _))⟩
              case measure => simp [intOf]; omega
            · obtain ⟨m, rfl⟩ : ∃ m, k = m + 1 := ⟨k - 1, by omega⟩
              obtain ⟨dp, p0, p1⟩ := hprev m rfl
              have hm900 : m ≤ 900 := by omega
              have hw : IntKind.i64.wrap (m : Int) = m := by go_arith
              refine wp_region_ord3 (fun V => Below wx.heap.size wx V) (fun V => Below wx.heap.size wx V) 26 (by kernel_rfl)
                [(2, 0), (2, 1), (0, 2), (2, 3), (2, 4), (2, 5), (2, 6), (0, 7), (2, 8), (2, 9), (2, 10), (2, 11), (2, 12), (2, 13), (0, 14), (2, 15), (2, 16), (2, 17), (2, 18), (2, 19), (2, 20), (2, 21), (2, 22), (2, 23), (1, 24), (1, 25), (0, 26), (2, 27), (2, 28), (2, 29)]
                (by kernel_rfl) (by kernel_rfl) (by decide) (by kernel_rfl) (fun _ _ d _ _ h => by cases d <;> exact h) ?_
              simp only [inOrder2, List.getElem?_cons_succ, List.getElem?_cons_zero, List.nil_append, List.cons_append]
              have hS := (Below.refl wx.heap.size wx).drew
              ((with_reducible refine o3_calmF (v := ?_) (a' := ?_) hS ?_ (fun V => ?_) ?_ ?_); rotate_left 2; (rfl); (first | (go_simp; with_reducible rfl) | (go_simp; refine (if_pos ?_).trans ?_; omega; with_reducible rfl)); (simp only [Act.put, List.setIfInBounds_toArray, List.set_cons_succ, List.set_cons_zero] <;> rfl))
              ((with_reducible refine o3_both (v := ?_) (a' := ?_) hS ?_ (fun V hV => ?_) (fun V hV => ?_) ?_ ?_); rotate_left 2; (focus rfl); (focus (have y0 := keep_c f0 hV; have y1 := keep_c f1 hV; have u0 := keep_c p0 hV; have u1 := keep_c p1 hV; first | (go_simp; with_reducible rfl) | (go_simp; refine (if_pos ?_).trans ?_; omega; with_reducible rfl))); (focus (have y0 := keep_c f0 hV; have y1 := keep_c f1 hV; have u0 := keep_c p0 hV; have u1 := keep_c p1 hV; first | (go_simp; done) | (go_simp; with_reducible rfl))); (focus (simp only [Act.put, List.setIfInBounds_toArray, List.set_cons_succ, List.set_cons_zero] <;> rfl)))
              refine o3_onlyF rfl rfl ?_
              go_simp
              refine ⟨trivial, rfl, (callsIn_wide.2 (T1 _)).mono ?_⟩
              rintro e w2 ⟨rfl, hw⟩
              obtain rfl := hw.symm
              clear hw
              refine ⟨hS, ?_⟩
              iterate 2 (((with_reducible refine o3_calmF (v := ?_) (a' := ?_) hS ?_ (fun V => ?_) ?_ ?_); rotate_left 2; (rfl); (first | (go_simp; with_reducible rfl) | (go_simp; refine (if_pos ?_).trans ?_; omega; with_reducible rfl)); (simp only [Act.put, List.setIfInBounds_toArray, List.set_cons_succ, List.set_cons_zero] <;> rfl)))
              first | ((with_reducible refine o3_calmF (v := ?_) (a' := ?_) hS ?_ (fun V => ?_) ?_ ?_); rotate_left 2; (rfl); (first | (go_simp; with_reducible rfl) | (go_simp; refine (if_pos ?_).trans ?_; omega; with_reducible rfl)); (simp only [Act.put, List.setIfInBounds_toArray, List.set_cons_succ, List.set_cons_zero] <;> rfl)) | ((with_reducible refine o3_idleF (a' := ?_) hS ?_ ?_ ?_); rotate_left; (rfl); (simp only [Act.put, List.setIfInBounds_toArray, List.set_cons_succ, List.set_cons_zero] <;> rfl))
              first | ((with_reducible refine o3_both (v := ?_) (a' := ?_) hS ?_ (fun V hV => ?_) (fun V hV => ?_) ?_ ?_); rotate_left 2; (focus rfl); (focus (have y0 := keep_c f0 hV; have y1 := keep_c f1 hV; have u0 := keep_c p0 hV; have u1 := keep_c p1 hV; first | (go_simp; with_reducible rfl) | (go_simp; refine (if_pos ?_).trans ?_; omega; with_reducible rfl))); (focus (have y0 := keep_c f0 hV; have y1 := keep_c f1 hV; have u0 := keep_c p0 hV; have u1 := keep_c p1 hV; first | (go_simp; done) | (go_simp; with_reducible rfl))); (focus (simp only [Act.put, List.setIfInBounds_toArray, List.set_cons_succ, List.set_cons_zero] <;> rfl))) | ((with_reducible refine o3_idleF (a' := ?_) hS ?_ ?_ ?_); rotate_left; (rfl); (simp only [Act.put, List.setIfInBounds_toArray, List.set_cons_succ, List.set_cons_zero] <;> rfl))
              refine o3_onlyF rfl rfl ?_
              go_simp
              refine ⟨trivial, rfl, (callsIn_wide.2 (T2 _)).mono ?_⟩
              rintro e w2 ⟨rfl, hw⟩
              obtain rfl := hw.symm
              clear hw
              refine ⟨hS, ?_⟩
              first | ((with_reducible refine o3_calmF (v := ?_) (a' := ?_) hS ?_ (fun V => ?_) ?_ ?_); rotate_left 2; (rfl); (first | (go_simp; with_reducible rfl) | (go_simp; refine (if_pos ?_).trans ?_; omega; with_reducible rfl)); (simp only [Act.put, List.setIfInBounds_toArray, List.set_cons_succ, List.set_cons_zero] <;> rfl)) | ((with_reducible refine o3_idleF (a' := ?_) hS ?_ ?_ ?_); rotate_left; (rfl); (simp only [Act.put, List.setIfInBounds_toArray, List.set_cons_succ, List.set_cons_zero] <;> rfl))
              iterate 2 (((with_reducible refine o3_calmF (v := ?_) (a' := ?_) hS ?_ (fun V => ?_) ?_ ?_); rotate_left 2; (rfl); (first | (go_simp; with_reducible rfl) | (go_simp; refine (if_pos ?_).trans ?_; omega; with_reducible rfl)); (simp only [Act.put, List.setIfInBounds_toArray, List.set_cons_succ, List.set_cons_zero] <;> rfl)))
              iterate 2 (first | ((with_reducible refine o3_calmF (v := ?_) (a' := ?_) hS ?_ (fun V => ?_) ?_ ?_); rotate_left 2; (rfl); (first | (go_simp; with_reducible rfl) | (go_simp; refine (if_pos ?_).trans ?_; omega; with_reducible rfl)); (simp only [Act.put, List.setIfInBounds_toArray, List.set_cons_succ, List.set_cons_zero] <;> rfl)) | ((with_reducible refine o3_idleF (a' := ?_) hS ?_ ?_ ?_); rotate_left; (rfl); (simp only [Act.put, List.setIfInBounds_toArray, List.set_cons_succ, List.set_cons_zero] <;> rfl)))
              first | ((with_reducible refine o3_both (v := ?_) (a' := ?_) hS ?_ (fun V hV => ?_) (fun V hV => ?_) ?_ ?_); rotate_left 2; (focus rfl); (focus (have y0 := keep_c f0 hV; have y1 := keep_c f1 hV; have u0 := keep_c p0 hV; have u1 := keep_c p1 hV; first | (go_simp; with_reducible rfl) | (go_simp; refine (if_pos ?_).trans ?_; omega; with_reducible rfl))); (focus (have y0 := keep_c f0 hV; have y1 := keep_c f1 hV; have u0 := keep_c p0 hV; have u1 := keep_c p1 hV; first | (go_simp; done) | (go_simp; with_reducible rfl))); (focus (simp only [Act.put, List.setIfInBounds_toArray, List.set_cons_succ, List.set_cons_zero] <;> rfl))) | ((with_reducible refine o3_idleF (a' := ?_) hS ?_ ?_ ?_); rotate_left; (rfl); (simp only [Act.put, List.setIfInBounds_toArray, List.set_cons_succ, List.set_cons_zero] <;> rfl))
              refine o3_valF (a' := ?_) rfl ?_ (look_exec rfl rfl (LK _ (hS.block w.heap.size hmx))) ?_ hS ?_
              rotate_left
              · rfl
              focus (simp only [Act.put, List.setIfInBounds_toArray, List.set_cons_succ, List.set_cons_zero] <;> rfl)
              iterate 2 (((with_reducible refine o3_calmF (v := ?_) (a' := ?_) hS ?_ (fun V => ?_) ?_ ?_); rotate_left 2; (rfl); (first | (go_simp; with_reducible rfl) | (go_simp; refine (if_pos ?_).trans ?_; omega; with_reducible rfl)); (simp only [Act.put, List.setIfInBounds_toArray, List.set_cons_succ, List.set_cons_zero] <;> rfl)))
              iterate 7 (first | ((with_reducible refine o3_calmF (v := ?_) (a' := ?_) hS ?_ (fun V => ?_) ?_ ?_); rotate_left 2; (rfl); (first | (go_simp; with_reducible rfl) | (go_simp; refine (if_pos ?_).trans ?_; omega; with_reducible rfl)); (simp only [Act.put, List.setIfInBounds_toArray, List.set_cons_succ, List.set_cons_zero] <;> rfl)) | ((with_reducible refine o3_idleF (a' := ?_) hS ?_ ?_ ?_); rotate_left; (rfl); (simp only [Act.put, List.setIfInBounds_toArray, List.set_cons_succ, List.set_cons_zero] <;> rfl)))
              iterate 2 (first | ((with_reducible refine o3_pre (v := ?_) (a' := ?_) hS ?_ (fun V hV => ?_) ?_ ?_); rotate_left 2; (rfl); (have y0 := keep_c f0 hV; have y1 := keep_c f1 hV; have u0 := keep_c p0 hV; have u1 := keep_c p1 hV; first | (go_simp; with_reducible rfl) | (go_simp; refine (if_pos ?_).trans ?_; omega; with_reducible rfl)); (simp only [Act.put, List.setIfInBounds_toArray, List.set_cons_succ, List.set_cons_zero] <;> rfl)) | ((with_reducible refine o3_idleF (a' := ?_) hS ?_ ?_ ?_); rotate_left; (rfl); (simp only [Act.put, List.setIfInBounds_toArray, List.set_cons_succ, List.set_cons_zero] <;> rfl)))
              refine o3_onlyS rfl rfl ?_
              go_simp
              refine ⟨trivial, rfl, (callsIn_wide.2 (ahead_any dp d _)).mono ?_⟩
              rintro e w4 ⟨⟨q, rfl⟩, hb⟩
              replace hS := hS.trans (hb.mono hS.size)
              refine ⟨hS, ?_⟩
              iterate 2 (first | ((with_reducible refine o3_calmT (v := ?_) (a' := ?_) hS ?_ (fun V => ?_) ?_ ?_); rotate_left 2; (rfl); (first | (go_simp; with_reducible rfl) | (go_simp; refine (if_pos ?_).trans ?_; omega; with_reducible rfl)); (simp only [Act.put, List.setIfInBounds_toArray, List.set_cons_succ, List.set_cons_zero] <;> rfl)) | ((with_reducible refine o3_idleT (a' := ?_) hS ?_ ?_ ?_); rotate_left; (rfl); (simp only [Act.put, List.setIfInBounds_toArray, List.set_cons_succ, List.set_cons_zero] <;> rfl)))
              ((with_reducible refine o3_calmT (v := ?_) (a' := ?_) hS ?_ (fun V => ?_) ?_ ?_); rotate_left 2; (rfl); (first | (go_simp; with_reducible rfl) | (go_simp; refine (if_pos ?_).trans ?_; omega; with_reducible rfl)); (simp only [Act.put, List.setIfInBounds_toArray, List.set_cons_succ, List.set_cons_zero] <;> rfl))
              refine o3_end _ ?_
              try simp only [Exit.then]
              cases q with
              | false =>
                go_wp2
                go_returns
                exact ⟨⟨_, rfl⟩, hBx.trans (hS.mono hsx)⟩
              | true =>
                have y0 := keep_c f0 hS
                have y1 := keep_c f1 hS
                go_wp2_with (first
                    | (at_mapUpdate; (refine wpList_upd rfl (.tmp 44) (.tmp 46) (.const (.bool true)) rfl Tryz.underlying172 Tryz.underlying3 (hMx.on (hS.block w.heap.size hmx)) rfl d.id rfl _ rfl ⟨true, rfl⟩ ?_); intro w7 hM7 hO7))
                go_roundw
                case rel => exact ⟨m + 1 + 1, by omega, by go_num, hM7, (hBx.trans (hS.mono hsx)).trans (hO7.below (Nat.le_refl _))⟩
                case measure => simp [intOf]; omega
    · obtain rfl : k = l.length := by omega
      go_wp2
      go_ret
      exact ⟨⟨_, rfl⟩, hB⟩

end Go.Proofs.YtnbgpopjnpdmgaaGreat
