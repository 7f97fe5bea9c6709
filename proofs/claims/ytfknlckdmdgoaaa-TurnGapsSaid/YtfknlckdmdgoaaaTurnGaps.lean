/-
  TurnGaps, for every input: the law's Go function returns true, and the arguments read afterwards as they read before. No condition beside those that the given statement itself bears. (Printed by mk_turngaps.py.)
-/
import Derived.Test.YtfknlckdmdgoaaaRows
import Derived.Test.YtfknlckdmdgoaaaAwake10
import Derived.Test.YtfknlckdmdgoaaaPlain10
import Derived.Test.YtfknlckdmdgoaaaOpenI
import Derived.Test.YtfknlckdmdgoaaaAppend
namespace Go.Proofs.Ytfknlckdmdgoaaa
open Go Go.ChangeShapes Go.WideShapes Go.ChangeAt Go.RowKit

/-- Numbers as cells. -/
def cellsI (l : List Int) : List Value := l.map (Value.int .i64)
theorem cellsI_one (l : List Int) : ∀ u ∈ cellsI l, u.oneCell' = true := by
  intro u hu
  simp only [cellsI, List.mem_map] at hu
  obtain ⟨x, _, rfl⟩ := hu
  rfl
theorem cellsI_append (a b : List Int) : cellsI (a ++ b) = cellsI a ++ cellsI b := by simp [cellsI]
theorem reads_cells {w : World} {B : Nat} {A : Option Addr} {l : List Int} (h : ReadsI w B A l) : Reads w B 1 A l.length (cellsI l) :=
  ⟨by simp [cellsI], fun hn => by
    obtain ⟨b, off, rfl, hb, hc⟩ := h hn
    refine ⟨_, rfl, hb, fun j u hu => ?_⟩
    simp only [cellsI, List.getElem?_map, Option.map_eq_some_iff] at hu
    obtain ⟨x, hx, rfl⟩ := hu
    rw [Addr.add_lit]
    exact hc j x hx⟩
theorem reads_ownI {w : World} {base n : Nat} {v : Value} {l : List Int} (h : w.ownsRow base 3 1 v n (cellsI l)) : ∃ A cap, v = .slice A l.length cap ∧ ReadsI w w.heap.size A l := by
  have hn : n = l.length := by
    have := h.1
    simp only [cellsI, List.length_map] at this
    omega
  subst hn
  exact reads_own h
theorem own_baseI {w : World} {base : Nat} {e : TypeId} {size n : Nat} {v : Value} {xs : List Value} (h : w.ownsRow base e size v n xs) {g : Nat} (hg : v.ownBlock = some g) : base ≤ g := (h.lt g hg).1

set_option maxRecDepth 100000 in
set_option maxHeartbeats 2000000 in
theorem turnGaps_long (a b : List Int) (A B : Option Addr) (ca cb : Nat) (who : Int) (w : World) (h : 100 < a.length) (hR : ReadsI w w.heap.size A a) (hS : ReadsI w w.heap.size B b) :
    Calls Try.prog 6 #[.slice A a.length ca, .slice B b.length cb, .int .i64 who] w fun e w' => e = .returned (.bool true) ∧ Below w.heap.size w w' := by
  have hd : ((100 : Int) < (a.length : Nat)) := by omega
  go_enter Try.func6, Try.ntmps6
  go_wp2_with fail
  refine (awake_any _).mono ?_
  rintro e w1 ⟨rfl, hb⟩
  replace hR := hR.on hb
  replace hS := hS.on hb
  have hB := hb
  clear hb
  clear hR hS
  go_wp2
  go_ret
  exact ⟨rfl, hB⟩

set_option maxRecDepth 100000 in
set_option maxHeartbeats 2000000 in
theorem turnGaps_long2 (a b : List Int) (A B : Option Addr) (ca cb : Nat) (who : Int) (w : World) (h : ¬ 100 < a.length) (h2 : 100 < b.length) (hR : ReadsI w w.heap.size A a) (hS : ReadsI w w.heap.size B b) :
    Calls Try.prog 6 #[.slice A a.length ca, .slice B b.length cb, .int .i64 who] w fun e w' => e = .returned (.bool true) ∧ Below w.heap.size w w' := by
  have hd : ¬ ((100 : Int) < (a.length : Nat)) := by omega
  have hd2 : ((100 : Int) < (b.length : Nat)) := by omega
  go_enter Try.func6, Try.ntmps6
  go_wp2_with fail
  refine (awake_any _).mono ?_
  rintro e w1 ⟨rfl, hb⟩
  replace hR := hR.on hb
  replace hS := hS.on hb
  have hB := hb
  clear hb
  clear hR hS
  go_wp2
  go_ret
  exact ⟨rfl, hB⟩

set_option maxRecDepth 100000 in
set_option maxHeartbeats 2000000 in
theorem turnGaps_walk (a b : List Int) (A B : Option Addr) (ca cb : Nat) (who : Int) (w : World) (h : ¬ 100 < a.length) (h2 : ¬ 100 < b.length) (hR : ReadsI w w.heap.size A a) (hS : ReadsI w w.heap.size B b) :
    Calls Try.prog 6 #[.slice A a.length ca, .slice B b.length cb, .int .i64 who] w fun e w' => e = .returned (.bool true) ∧ Below w.heap.size w w' := by
  have hd : ¬ ((100 : Int) < (a.length : Nat)) := by omega
  have hd2 : ¬ ((100 : Int) < (b.length : Nat)) := by omega
  obtain ⟨i0, hi, hz0, hz1, hz2⟩ := info_parts int_info
  have f1 := cellsI_one a
  have f2 := cellsI_one b
  go_enter Try.func6, Try.ntmps6
  go_wp2_with fail
  refine (awake_any _).mono ?_
  rintro e w1 ⟨rfl, hb⟩
  replace hR := hR.on hb
  replace hS := hS.on hb
  have hB := hb
  clear hb
  have hown0 := World.ownsRow_lit (base := w1.heap.size) (e := 3) (size := 1) w1 #[] 0 (Nat.le_refl _) (by decide) rfl
  have b0 : Below w1.heap.size w1 (w1.alloc (.cells #[] 3)) := (Below.refl _ w1).alloc (Nat.le_refl _) _
  have hK0 := reads_cells (hR.below b0)
  go_wp2_with (first
    | (at_builtin; refine wpList_append_any _ rfl (.tmp 22) (.tmp 23) _ rfl w1.heap.size 3 i0 _ 1 8 Try.underlying22 hi hz0 hz1 hz2 rfl (by decide) (.slice (some ⟨w1.heap.size, 0, none⟩) 0 0) 0 [] rfl hown0 w1.heap.size A a.length ca (cellsI a) rfl hK0 f1 (by simp only [maxLen]; omega) (by omega) (by simp) ?_; intro v1 w2 hown1 hg1 hat1; have b1 := b0.grown hg1 (by simp) (fun g hg => own_baseI hown0 hg); have hL1 := reads_cells (hS.below b1); clear hown0 hg1 hat1 hK0)
    | (at_builtin; refine wpList_append_any _ rfl (.tmp 24) (.tmp 25) _ rfl w1.heap.size 3 i0 _ 1 8 Try.underlying22 hi hz0 hz1 hz2 rfl (by decide) v1 (0 + a.length) ([] ++ cellsI a) rfl hown1 w1.heap.size B b.length cb (cellsI b) rfl hL1 f2 (by simp only [maxLen]; omega) (by omega) b1.size ?_; intro v2 w3 hown2 hg2 hat2; have b2 := b1.grown hg2 b1.size (fun g hg => own_baseI hown1 hg); clear hown1 hg2 hat2 hL1 b1 b0))
  obtain ⟨A2, cap2, rfl, hC2⟩ := reads_ownI (l := a ++ b) (by rw [cellsI_append]; simpa using hown2)
  refine (gap_at who _ (by rw [List.length_append]; omega) hC2 rfl).mono ?_
  rintro e w4 ⟨rfl, hb⟩
  have b3 := b2.trans (hb.mono b2.size)
  replace hR := hR.on b3
  replace hS := hS.on b3
  replace hB := hB.trans (b3.mono hB.size)
  clear hb b2 b3 hown2 hC2
  have hown0 := World.ownsRow_lit (base := w4.heap.size) (e := 3) (size := 1) w4 #[] 0 (Nat.le_refl _) (by decide) rfl
  have b0 : Below w4.heap.size w4 (w4.alloc (.cells #[] 3)) := (Below.refl _ w4).alloc (Nat.le_refl _) _
  have hK0 := reads_cells (hR.below b0)
  have one1 := cellsI_one [who]
  go_wp2_with (first
    | (at_builtin; refine wpList_append_any _ rfl (.tmp 29) (.tmp 30) _ rfl w4.heap.size 3 i0 _ 1 8 Try.underlying22 hi hz0 hz1 hz2 rfl (by decide) (.slice (some ⟨w4.heap.size, 0, none⟩) 0 0) 0 [] rfl hown0 w4.heap.size A a.length ca (cellsI a) rfl hK0 f1 (by simp only [maxLen]; omega) (by omega) (by simp) ?_; intro v3 w5 hown3 hg3 hat3; have b1 := b0.grown hg3 (by simp) (fun g hg => own_baseI hown0 hg); have hown3' := hown3.alloc (.cells (([who] : List Int).map (Value.int .i64)).toArray 3); have hN := reads_cells (readsI_new w5 [who] 3); have b4 := b1.alloc b1.size (.cells (([who] : List Int).map (Value.int .i64)).toArray 3); simp only [List.map_cons, List.map_nil] at hown3' hN b4; clear hown0 hg3 hat3 hK0 hown3 b0)
    | (at_builtin; refine wpList_append_any _ rfl (.tmp 31) (.tmp 33) _ rfl w4.heap.size 3 i0 _ 1 8 Try.underlying22 hi hz0 hz1 hz2 rfl (by decide) v3 (0 + a.length) ([] ++ cellsI a) rfl hown3' (w5.heap.size + 1) (some ⟨w5.heap.size, 0, none⟩) 1 1 (cellsI [who]) rfl hN one1 (by simp only [maxLen]; omega) (by omega) b4.size ?_; intro v4 w6 hown4 hg4 hat4; have b5 := b4.grown hg4 b4.size (fun g hg => own_baseI hown3' hg); have hL1 := reads_cells (hS.below b5); clear hown3' hg4 hat4 hN b4 b1)
    | (at_builtin; refine wpList_append_any _ rfl (.tmp 34) (.tmp 35) _ rfl w4.heap.size 3 i0 _ 1 8 Try.underlying22 hi hz0 hz1 hz2 rfl (by decide) v4 (0 + a.length + 1) ([] ++ cellsI a ++ cellsI [who]) rfl hown4 w4.heap.size B b.length cb (cellsI b) rfl hL1 f2 (by simp only [maxLen]; omega) (by omega) b5.size ?_; intro v5 w7 hown5 hg5 hat5; have b6 := b5.grown hg5 b5.size (fun g hg => own_baseI hown4 hg); clear hown4 hg5 hat5 hL1 b5))
  obtain ⟨A3, cap3, rfl, hC3⟩ := reads_ownI (l := a ++ [who] ++ b) (by rw [cellsI_append, cellsI_append]; simpa using hown5)
  refine (gap_at who _ (by rw [List.length_append, List.length_append]; simp; omega) hC3 rfl).mono ?_
  rintro e w8 ⟨rfl, hb⟩
  have b7 := b6.trans (hb.mono b6.size)
  replace hR := hR.on b7
  replace hS := hS.on b7
  replace hB := hB.trans (b7.mono hB.size)
  clear hb b6 b7 hown5 hC3 f1 f2 one1 hi hz0 hz1 hz2
  go_wp2_with fail
  refine (gap_at who _ (by omega) hR rfl).mono ?_
  rintro e w9 ⟨rfl, hb⟩
  replace hR := hR.on hb
  replace hS := hS.on hb
  replace hB := hB.trans (hb.mono hB.size)
  clear hb
  go_wp2_with fail
  refine (gap_at who _ (by omega) hS rfl).mono ?_
  rintro e w10 ⟨rfl, hb⟩
  replace hR := hR.on hb
  replace hB := hB.trans (hb.mono hB.size)
  clear hb hS
  have C := fun W h => count_any a A ca who W (by omega) h
  have p1 := gap_parts a b who
  have p2 := gap_cut a b who
  rw [show a ++ [who] ++ b = a ++ who :: b by simp] at p2
  have p3 := gap_none a who
  have p4 := gapOf_bounds a who
  have p5 := gapOf_bounds b who
  have p6 : 0 ≤ countOf a who := by unfold countOf; omega
  generalize gapOf (a ++ b) who = D at *
  generalize gapOf (a ++ who :: b) who = E at *
  generalize gapOf a who = X at *
  generalize gapOf b who = Y at *
  generalize countOf a who = N at *
  generalize a.length = m at *
  obtain ⟨p10, p11⟩ := p1
  have x0 : X ≤ 100 := by omega
  have y0 : Y ≤ 100 := by omega
  obtain ⟨p4, _⟩ := p4
  obtain ⟨p5, _⟩ := p5
  by_cases hxy : X < Y
  · have m1 : max X Y = Y := by omega
    rw [m1] at p10 p2
    subst p2
    clear m1
    by_cases hN : 0 < N
    · clear p3
      go_wp2_with fail
      refine (C _ hR).mono ?_
      rintro e w11 ⟨rfl, hb⟩
      replace hB := hB.trans (hb.mono hB.size)
      clear hb hR C
      go_wp2
      go_ret
      exact ⟨rfl, hB⟩
    · have p3' := p3 (by omega)
      clear p3
      have p8 : (X == (m : Int)) = true := by simpa using p3'
      clear p3'
      go_wp2_with fail
      refine (C _ hR).mono ?_
      rintro e w11 ⟨rfl, hb⟩
      replace hB := hB.trans (hb.mono hB.size)
      clear hb hR C
      go_wp2
      go_ret
      exact ⟨rfl, hB⟩
  · have m1 : max X Y = X := by omega
    rw [m1] at p10 p2
    subst p2
    clear m1
    by_cases hN : 0 < N
    · clear p3
      go_wp2_with fail
      refine (C _ hR).mono ?_
      rintro e w11 ⟨rfl, hb⟩
      replace hB := hB.trans (hb.mono hB.size)
      clear hb hR C
      go_wp2
      go_ret
      exact ⟨rfl, hB⟩
    · have p3' := p3 (by omega)
      clear p3
      have p8 : (E == (m : Int)) = true := by simpa using p3'
      clear p3'
      go_wp2_with fail
      refine (C _ hR).mono ?_
      rintro e w11 ⟨rfl, hb⟩
      replace hB := hB.trans (hb.mono hB.size)
      clear hb hR C
      go_wp2
      go_ret
      exact ⟨rfl, hB⟩


theorem turnGaps_all (a b : List Int) (A B : Option Addr) (ca cb : Nat) (who : Int) (w : World) (hR : ReadsI w w.heap.size A a) (hS : ReadsI w w.heap.size B b) :
    Calls Try.prog 6 #[.slice A a.length ca, .slice B b.length cb, .int .i64 who] w fun e w' => e = .returned (.bool true) ∧ Below w.heap.size w w' := by
  by_cases h : 100 < a.length
  · exact turnGaps_long a b A B ca cb who w h hR hS
  · by_cases h2 : 100 < b.length
    · exact turnGaps_long2 a b A B ca cb who w h h2 hR hS
    · exact turnGaps_walk a b A B ca cb who w h h2 hR hS

/-! ### The row -/
set_option maxRecDepth 100000 in
theorem turnGaps_lifted (os : Os) (started : os.Started) (H : Type) (enc : TypeId × Value → H) :
    ReturnsInHanded {} Try.checked os 6 .any (Rows.turnGapsSpec.pre6 enc Try.prog Try.f6 Rows.turnGapsRow.domain false) (Rows.turnGapsSpec.post enc Try.prog Try.f6 false true false false) := by
  refine returnsInHanded_of_change (C := Try.checked) own started (by kernel_rfl) Try.func6
    (ChangeSpec.witness6 (enc := enc) (C := Try.checked) false ⟨#[], #[.slice none 0 0, .slice none 0 0, .int .i64 0], []⟩ 8 (by kernel_rfl) (by kernel_rfl) (by kernel_rfl) (by kernel_rfl)) ?_
  intro W base args ds gs before hval0 hW hcnd _
  have hval : ∀ (j : Nat) t v, Try.f6.params[j]? = some t → args[j]? = some v → Value.okWide Try.prog W .any base t v := hval0
  have hW' := hW
  obtain ⟨p, q, hA0, hV, rfl, hfz, hnd⟩ := hW
  have hA : DataW.TrodAll enc Try.prog W 0 (fun _ => true) true Try.f6.params.toList args.toList ds p := hA0
  rw [Try.params6] at hA hval
  obtain ⟨v0, vs0, d0, ds0, p0, q0, hargs, rfl, rfl, h0, r0⟩ := trodAll_cons hA
  obtain ⟨v1, vs1, d1, ds1, p1, q1, rfl, rfl, rfl, h1, r1⟩ := trodAll_cons r0
  obtain ⟨v2, vs2, d2, ds2, p2, q2, rfl, rfl, rfl, h2, r2⟩ := trodAll_cons r1
  obtain ⟨rfl, rfl, rfl⟩ := trodAll_nil r2
  obtain rfl : args = #[v0, v1, v2] := by cases args; simp_all
  obtain ⟨rfl, rfl⟩ := trodVars_none hV
  have k0 := h0
  have lt0 : ∀ x ∈ p0, x.block < W.heap.size := by obtain ⟨m, hm⟩ := k0; exact DataW.trod_lt m _ _ _ hm
  obtain ⟨A0, len0, cap0, rfl⟩ := okWide_slice Try.underlying22 (hval 0 22 v0 rfl rfl)
  obtain ⟨l0, w0⟩ : ∃ l : List Int, l.length = len0 ∧ ReadsI W W.heap.size A0 l := by obtain ⟨fuel, hf⟩ := h0; exact open_nums hf
  obtain ⟨rfl, w0⟩ := w0
  have k1 := h1
  have lt1 : ∀ x ∈ p1, x.block < W.heap.size := by obtain ⟨m, hm⟩ := k1; exact DataW.trod_lt m _ _ _ hm
  obtain ⟨A1, len1, cap1, rfl⟩ := okWide_slice Try.underlying22 (hval 1 22 v1 rfl rfl)
  obtain ⟨l1, w1⟩ : ∃ l : List Int, l.length = len1 ∧ ReadsI W W.heap.size A1 l := by obtain ⟨fuel, hf⟩ := h1; exact open_nums hf
  obtain ⟨rfl, w1⟩ := w1
  obtain ⟨a2, rfl, rfl, rfl, w2⟩ := open_int Try.underlying3 (hval 2 3 v2 rfl rfl) h2
  clear hA0 hval0
  refine (turnGaps_all l0 l1 A0 A1 cap0 cap1 a2 W w0 w1).mono fun e W' ⟨he, bel⟩ => ?_
  subst he
  exact ⟨_, rfl, _, _, _, [], _, [], hW', trodAll_mk1 (shut_bool Try.underlying4 _), (trodAll_cons_mk (Below.trod laidOut (by kernel_rfl) (of_decide_eq_true (by kernel_rfl)) k0 bel lt0) (trodAll_cons_mk (Below.trod laidOut (by kernel_rfl) (of_decide_eq_true (by kernel_rfl)) k1 bel lt1) (trodAll_cons_mk (shut_int Try.underlying3 w2) trodAll_mk0))), rfl, bel.frame _, fun h => by cases h⟩

theorem turnGaps_over : Rows.turnGapsRow.holds Try.pinned (OpenSpec.ofChange Rows.turnGapsSpec) :=
  OpenClaim.holds_of_wide 6 Try.f6 rfl rfl rfl rfl rfl rfl rfl ⟨rfl, rfl, rfl, rfl, rfl⟩ rfl rfl rfl rfl rfl (by kernel_rfl) Try.func6 (by kernel_rfl)
    (of_decide_eq_true (by kernel_rfl)) (by unfold Func.isWrapper; first | (rw [if_pos (by decide +kernel)]; kernel_rfl) | (rw [if_neg (by decide +kernel)]; exact ⟨rfl, rfl⟩))
    (fun os started H enc _ => turnGaps_lifted os started H enc)

/-- The statement. -/
theorem turnGaps_holds : Rows.TurnGapsSaid := turnGaps_over
#print axioms turnGaps_holds

end Go.Proofs.Ytfknlckdmdgoaaa
