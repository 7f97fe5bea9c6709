/-
  ConfTells, for every configuration and every list of them: the law's Go function returns true, and the arguments read afterwards as they read before. No condition beside those that the given statement itself bears. (Printed by mk_conftells.py.)
-/
import Derived.Test.YtolkmpfnomeklaaRows
import Derived.Test.YtolkmpfnomeklaaOpen
import Derived.Test.YtolkmpfnomeklaaOrd
import Derived.Test.YtolkmpfnomeklaaRef02
namespace Go.Proofs.Ytolkmpfnomeklaa
open Go Go.ChangeShapes Go.WideShapes Go.ChangeAt Go.RowKit

/-- Boxes of the call's own. -/
def Boxes (w : World) (l : List (Nat × Cfg)) (t : TypeId) (W : World) : Prop :=
  (∀ p ∈ l, W.heap[p.1]? = some (.cells p.2.cells t (0, 0))) ∧ Below w.heap.size w W
theorem Boxes.on {w : World} {l : List (Nat × Cfg)} {t : TypeId} {W V : World} (h : Boxes w l t W) (hb : Below W.heap.size W V) : Boxes w l t V :=
  ⟨fun p hp => (hb.block _ (Array.getElem?_eq_some_iff.1 (h.1 p hp)).1).trans (h.1 p hp), h.2.trans (hb.mono h.2.size)⟩
theorem Boxes.drew {w : World} {l : List (Nat × Cfg)} {t : TypeId} {W : World} (h : Boxes w l t W) : Boxes w l t W.drew := ⟨h.1, h.2.drew⟩
theorem Boxes.add {w : World} {l : List (Nat × Cfg)} {t : TypeId} {W : World} (h : Boxes w l t W) (c : Cfg) : Boxes w ((W.heap.size, c) :: l) t (W.alloc (.cells c.cells t)) :=
  ⟨fun p hp => by
    rcases List.mem_cons.1 hp with rfl | hp
    · exact World.alloc_heap_new W _
    · exact (Below.heap_alloc _ _ _ (Array.getElem?_eq_some_iff.1 (h.1 p hp)).1).trans (h.1 p hp), h.2.alloc h.2.size _⟩
theorem Boxes.at_ {w : World} {l : List (Nat × Cfg)} {t : TypeId} {W : World} (h : Boxes w l t W) {B : Nat} {c : Cfg} (hm : (B, c) ∈ l) : W.heap[B]? = some (.cells c.cells t (0, 0)) := h.1 _ hm
theorem Boxes.nil (w : World) (t : TypeId) : Boxes w [] t w := ⟨(fun _ h => by cases h), Below.refl _ _⟩

theorem ReadsC.on {w w' : World} {A : Option Addr} {l : List Cfg} (h : ReadsC w w.heap.size A l) (hb : Below w.heap.size w w') : ReadsC w' w'.heap.size A l := fun hl => by
  obtain ⟨b, off, e, hB, hc⟩ := (h.below hb) hl
  exact ⟨b, off, e, by have := hb.size; omega, hc⟩

set_option maxRecDepth 100000 in
set_option maxHeartbeats 2000000 in
theorem confTells_long (c : Cfg) (l : List Cfg) (A : Option Addr) (cap : Nat) (w : World) (h1 : 100 < l.length) :
    Calls Try.prog 3 #[c.val, .slice A l.length cap] w fun e w' => e = .returned (.bool true) ∧ Below w.heap.size w w' := by
  have hd : ((100 : Int) < (l.length : Nat)) := by omega
  go_enter Try.func3, Try.ntmps3
  go_wp2_with fail
  refine (awake_any _).mono ?_
  rintro e w1 ⟨rfl, hb⟩
  rw [World.size_alloc] at hb
  have hB := below_box hb
  clear hb
  go_wp2
  go_ret
  exact ⟨rfl, hB⟩

set_option maxRecDepth 100000 in
set_option maxHeartbeats 4000000 in
theorem confTells_walk (c : Cfg) (l : List Cfg) (A : Option Addr) (cap : Nat) (w : World) (h1 : ¬ 100 < l.length) (hR : ReadsC w w.heap.size A l) :
    Calls Try.prog 3 #[c.val, .slice A l.length cap] w fun e w' => e = .returned (.bool true) ∧ Below w.heap.size w w' := by
  have hd : ¬ ((100 : Int) < (l.length : Nat)) := by omega
  have hl : l.length ≤ 1000 := by omega
  clear h1
  obtain ⟨log, th, pol, wt, sp, yi, single⟩ := c
  have C0 := fun W => check_any ⟨log, th, pol, wt, sp, yi, single⟩ W
  have C1 := fun W => refCheck_any ⟨log, th, pol, wt, sp, yi, single⟩ W
  have C2 := fun W => room_any ⟨log, th, pol, wt, sp, yi, single⟩ W
  have C3 := fun W => refRoom_any ⟨log, th, pol, wt, sp, yi, single⟩ W
  have C4 := fun W => conf_tries ⟨log, th, pol, wt, sp, yi, single⟩ W
  have C5 := fun W => refTries_any ⟨log, th, pol, wt, sp, yi, single⟩ W
  have C6 := fun W => parks_any ⟨log, th, pol, wt, sp, yi, single⟩ W
  have C7 := fun W => refParks_any ⟨log, th, pol, wt, sp, yi, single⟩ W
  have D0 := fun W h => count_any l A cap W hl h
  have D1 := fun W h => refCount_any l A cap W hl h
  generalize Cfg.chk ⟨log, th, pol, wt, sp, yi, single⟩ = g0 at *
  generalize Cfg.room ⟨log, th, pol, wt, sp, yi, single⟩ = g1 at *
  generalize Cfg.tries ⟨log, th, pol, wt, sp, yi, single⟩ = g2 at *
  generalize Cfg.parks ⟨log, th, pol, wt, sp, yi, single⟩ = g3 at *
  generalize cnt l = n at *
  generalize rooms l = r at *
  go_enter Try.func3, Try.ntmps3
  go_wp2_with fail
  have hS := (Boxes.nil w 23).add ⟨log, th, pol, wt, sp, yi, single⟩
  have hr1 := hR.on ((Below.refl w.heap.size w).alloc (Nat.le_refl _) (.cells (Cfg.cells ⟨log, th, pol, wt, sp, yi, single⟩) 23))
  clear hR
  refine (awake_any _).mono ?_
  rintro e w1 ⟨rfl, hb⟩
  replace hS := hS.on hb
  have hR := hr1.on hb
  clear hb hr1
  go_wp2_with fail
  refine (D0 _ hR).mono ?_
  rintro e w2 ⟨rfl, hb⟩
  replace hS := hS.on hb
  replace hR := hR.on hb
  clear hb
  go_wp2_with fail
  refine (D1 _ hR).mono ?_
  rintro e w3 ⟨rfl, hb⟩
  replace hS := hS.on hb
  clear hb hR D0 D1
  go_wp2
  replace hS := hS.drew
  refine wp_region_ord (S := Boxes w [(w.heap.size, ⟨log, th, pol, wt, sp, yi, single⟩)] 23) (by kernel_rfl)
    [(true, 0), (true, 1), (true, 2), (true, 4), (false, 3), (false, 5), (true, 6), (true, 7), (true, 8), (true, 9), (true, 11), (false, 10), (false, 12), (true, 13), (true, 14), (true, 15), (true, 16), (true, 18), (false, 17), (false, 19), (true, 20), (true, 21), (true, 22), (true, 23), (true, 25), (false, 24), (false, 26), (true, 27), (true, 28), (true, 29), (true, 30), (true, 31), (true, 32), (true, 33), (true, 34), (true, 35), (true, 36), (true, 37), (true, 38), (true, 39)]
    (by kernel_rfl) (by kernel_rfl) (by kernel_rfl) (fun _ _ d _ _ h => by cases d <;> exact h) ?_
  simp only [inOrder, List.getElem?_cons_succ, List.getElem?_cons_zero, List.nil_append, List.cons_append]
  repeat (first
    | (refine Ord.idle hS rfl (fun V hV f hf => ?_) (by simp only [Act.put, List.setIfInBounds_toArray, List.set_cons_succ, List.set_cons_zero]; rfl) ?_
       · trivial)
    | (refine Ord.calm (v := ?_) hS rfl (fun V hV => ?_) (fun V hV f hf => ?_) (by simp only [Act.put, List.setIfInBounds_toArray, List.set_cons_succ, List.set_cons_zero]; rfl) ?_
       rotate_left
       · first
         | (go_simp; with_reducible rfl)
         | (obtain ⟨a0, a1, a2, a3, a4, a5, a6⟩ := cells7 (Boxes.at_ (B := w.heap.size) (c := ⟨log, th, pol, wt, sp, yi, single⟩) hV (by simp)); go_simp; with_reducible rfl)
       · trivial))
  refine Ord.only rfl ?_
  go_simp
  refine ⟨trivial, rfl, (callsIn_wide.2 (C0 _)).mono ?_⟩
  rintro e w4 ⟨rfl, hb⟩
  replace hS := hS.on hb
  refine ⟨hS, ?_⟩
  clear hb
  repeat (first
    | (refine Ord.idle hS rfl (fun V hV f hf => ?_) (by simp only [Act.put, List.setIfInBounds_toArray, List.set_cons_succ, List.set_cons_zero]; rfl) ?_
       · trivial)
    | (refine Ord.calm (v := ?_) hS rfl (fun V hV => ?_) (fun V hV f hf => ?_) (by simp only [Act.put, List.setIfInBounds_toArray, List.set_cons_succ, List.set_cons_zero]; rfl) ?_
       rotate_left
       · first
         | (go_simp; with_reducible rfl)
         | (obtain ⟨a0, a1, a2, a3, a4, a5, a6⟩ := cells7 (Boxes.at_ (B := w.heap.size) (c := ⟨log, th, pol, wt, sp, yi, single⟩) hV (by simp)); go_simp; with_reducible rfl)
       · trivial))
  refine Ord.only rfl ?_
  go_simp
  refine ⟨trivial, rfl, (callsIn_wide.2 (C1 _)).mono ?_⟩
  rintro e w5 ⟨rfl, hb⟩
  replace hS := hS.on hb
  refine ⟨hS, ?_⟩
  clear hb
  repeat (first
    | (refine Ord.idle hS rfl (fun V hV f hf => ?_) (by simp only [Act.put, List.setIfInBounds_toArray, List.set_cons_succ, List.set_cons_zero]; rfl) ?_
       · trivial)
    | (refine Ord.calm (v := ?_) hS rfl (fun V hV => ?_) (fun V hV f hf => ?_) (by simp only [Act.put, List.setIfInBounds_toArray, List.set_cons_succ, List.set_cons_zero]; rfl) ?_
       rotate_left
       · first
         | (go_simp; with_reducible rfl)
         | (obtain ⟨a0, a1, a2, a3, a4, a5, a6⟩ := cells7 (Boxes.at_ (B := w.heap.size) (c := ⟨log, th, pol, wt, sp, yi, single⟩) hV (by simp)); go_simp; with_reducible rfl)
       · trivial))
  refine Ord.only rfl ?_
  go_simp
  refine ⟨trivial, rfl, (callsIn_wide.2 (C2 _)).mono ?_⟩
  rintro e w6 ⟨rfl, hb⟩
  replace hS := hS.on hb
  refine ⟨hS, ?_⟩
  clear hb
  repeat (first
    | (refine Ord.idle hS rfl (fun V hV f hf => ?_) (by simp only [Act.put, List.setIfInBounds_toArray, List.set_cons_succ, List.set_cons_zero]; rfl) ?_
       · trivial)
    | (refine Ord.calm (v := ?_) hS rfl (fun V hV => ?_) (fun V hV f hf => ?_) (by simp only [Act.put, List.setIfInBounds_toArray, List.set_cons_succ, List.set_cons_zero]; rfl) ?_
       rotate_left
       · first
         | (go_simp; with_reducible rfl)
         | (obtain ⟨a0, a1, a2, a3, a4, a5, a6⟩ := cells7 (Boxes.at_ (B := w.heap.size) (c := ⟨log, th, pol, wt, sp, yi, single⟩) hV (by simp)); go_simp; with_reducible rfl)
       · trivial))
  refine Ord.only rfl ?_
  go_simp
  refine ⟨trivial, rfl, (callsIn_wide.2 (C3 _)).mono ?_⟩
  rintro e w7 ⟨rfl, hb⟩
  replace hS := hS.on hb
  refine ⟨hS, ?_⟩
  clear hb
  repeat (first
    | (refine Ord.idle hS rfl (fun V hV f hf => ?_) (by simp only [Act.put, List.setIfInBounds_toArray, List.set_cons_succ, List.set_cons_zero]; rfl) ?_
       · trivial)
    | (refine Ord.calm (v := ?_) hS rfl (fun V hV => ?_) (fun V hV f hf => ?_) (by simp only [Act.put, List.setIfInBounds_toArray, List.set_cons_succ, List.set_cons_zero]; rfl) ?_
       rotate_left
       · first
         | (go_simp; with_reducible rfl)
         | (obtain ⟨a0, a1, a2, a3, a4, a5, a6⟩ := cells7 (Boxes.at_ (B := w.heap.size) (c := ⟨log, th, pol, wt, sp, yi, single⟩) hV (by simp)); go_simp; with_reducible rfl)
       · trivial))
  refine Ord.only rfl ?_
  go_simp
  refine ⟨trivial, rfl, (callsIn_wide.2 (C4 _)).mono ?_⟩
  rintro e w8 ⟨rfl, hb⟩
  replace hS := hS.on hb
  refine ⟨hS, ?_⟩
  clear hb
  repeat (first
    | (refine Ord.idle hS rfl (fun V hV f hf => ?_) (by simp only [Act.put, List.setIfInBounds_toArray, List.set_cons_succ, List.set_cons_zero]; rfl) ?_
       · trivial)
    | (refine Ord.calm (v := ?_) hS rfl (fun V hV => ?_) (fun V hV f hf => ?_) (by simp only [Act.put, List.setIfInBounds_toArray, List.set_cons_succ, List.set_cons_zero]; rfl) ?_
       rotate_left
       · first
         | (go_simp; with_reducible rfl)
         | (obtain ⟨a0, a1, a2, a3, a4, a5, a6⟩ := cells7 (Boxes.at_ (B := w.heap.size) (c := ⟨log, th, pol, wt, sp, yi, single⟩) hV (by simp)); go_simp; with_reducible rfl)
       · trivial))
  refine Ord.only rfl ?_
  go_simp
  refine ⟨trivial, rfl, (callsIn_wide.2 (C5 _)).mono ?_⟩
  rintro e w9 ⟨rfl, hb⟩
  replace hS := hS.on hb
  refine ⟨hS, ?_⟩
  clear hb
  repeat (first
    | (refine Ord.idle hS rfl (fun V hV f hf => ?_) (by simp only [Act.put, List.setIfInBounds_toArray, List.set_cons_succ, List.set_cons_zero]; rfl) ?_
       · trivial)
    | (refine Ord.calm (v := ?_) hS rfl (fun V hV => ?_) (fun V hV f hf => ?_) (by simp only [Act.put, List.setIfInBounds_toArray, List.set_cons_succ, List.set_cons_zero]; rfl) ?_
       rotate_left
       · first
         | (go_simp; with_reducible rfl)
         | (obtain ⟨a0, a1, a2, a3, a4, a5, a6⟩ := cells7 (Boxes.at_ (B := w.heap.size) (c := ⟨log, th, pol, wt, sp, yi, single⟩) hV (by simp)); go_simp; with_reducible rfl)
       · trivial))
  refine Ord.only rfl ?_
  go_simp
  refine ⟨trivial, rfl, (callsIn_wide.2 (C6 _)).mono ?_⟩
  rintro e w10 ⟨rfl, hb⟩
  replace hS := hS.on hb
  refine ⟨hS, ?_⟩
  clear hb
  repeat (first
    | (refine Ord.idle hS rfl (fun V hV f hf => ?_) (by simp only [Act.put, List.setIfInBounds_toArray, List.set_cons_succ, List.set_cons_zero]; rfl) ?_
       · trivial)
    | (refine Ord.calm (v := ?_) hS rfl (fun V hV => ?_) (fun V hV f hf => ?_) (by simp only [Act.put, List.setIfInBounds_toArray, List.set_cons_succ, List.set_cons_zero]; rfl) ?_
       rotate_left
       · first
         | (go_simp; with_reducible rfl)
         | (obtain ⟨a0, a1, a2, a3, a4, a5, a6⟩ := cells7 (Boxes.at_ (B := w.heap.size) (c := ⟨log, th, pol, wt, sp, yi, single⟩) hV (by simp)); go_simp; with_reducible rfl)
       · trivial))
  refine Ord.only rfl ?_
  go_simp
  refine ⟨trivial, rfl, (callsIn_wide.2 (C7 _)).mono ?_⟩
  rintro e w11 ⟨rfl, hb⟩
  replace hS := hS.on hb
  refine ⟨hS, ?_⟩
  clear hb
  repeat (first
    | (refine Ord.idle hS rfl (fun V hV f hf => ?_) (by simp only [Act.put, List.setIfInBounds_toArray, List.set_cons_succ, List.set_cons_zero]; rfl) ?_
       · trivial)
    | (refine Ord.calm (v := ?_) hS rfl (fun V hV => ?_) (fun V hV f hf => ?_) (by simp only [Act.put, List.setIfInBounds_toArray, List.set_cons_succ, List.set_cons_zero]; rfl) ?_
       rotate_left
       · first
         | (go_simp; with_reducible rfl)
         | (obtain ⟨a0, a1, a2, a3, a4, a5, a6⟩ := cells7 (Boxes.at_ (B := w.heap.size) (c := ⟨log, th, pol, wt, sp, yi, single⟩) hV (by simp)); go_simp; with_reducible rfl)
       · trivial))
  simp only [Ord, Exit.then]
  have hB := hS.2
  clear hS C0 C1 C2 C3 C4 C5 C6 C7
  go_wp2
  go_ret
  exact ⟨rfl, hB⟩

theorem confTells_all (c : Cfg) (l : List Cfg) (A : Option Addr) (cap : Nat) (w : World) (hR : ReadsC w w.heap.size A l) :
    Calls Try.prog 3 #[c.val, .slice A l.length cap] w fun e w' => e = .returned (.bool true) ∧ Below w.heap.size w w' := by
  by_cases h1 : 100 < l.length
  · exact confTells_long c l A cap w h1
  · exact confTells_walk c l A cap w h1 hR

/-! ### The row -/
set_option maxRecDepth 100000 in
theorem confTells_lifted (os : Os) (started : os.Started) (H : Type) (enc : TypeId × Value → H) :
    ReturnsInHanded {} Try.checked os 3 .any (Rows.confTellsSpec.pre6 enc Try.prog Try.f3 Rows.confTellsRow.domain false) (Rows.confTellsSpec.post enc Try.prog Try.f3 false true false false) := by
  refine returnsInHanded_of_change (C := Try.checked) own started (by kernel_rfl) Try.func3
    (ChangeSpec.witness6 (enc := enc) (C := Try.checked) false ⟨#[], #[.agg #[.int .i64 0, .int .i64 0, .int .i64 0, .int .i64 0, .int .i64 0, .int .i64 0, .bool false], .slice none 0 0], []⟩ 8 (by kernel_rfl) (by kernel_rfl) (by kernel_rfl) (by kernel_rfl)) ?_
  intro W base args ds gs before hval0 hW hcnd _
  have hval : ∀ (j : Nat) t v, Try.f3.params[j]? = some t → args[j]? = some v → Value.okWide Try.prog W .any base t v := hval0
  have hW' := hW
  obtain ⟨p, q, hA0, hV, rfl, hfz, hnd⟩ := hW
  have hA : DataW.TrodAll enc Try.prog W 0 (fun _ => true) true Try.f3.params.toList args.toList ds p := hA0
  rw [Try.params3] at hA hval
  obtain ⟨v0, vs0, d0, ds0, p0, q0, hargs, rfl, rfl, h0, r0⟩ := trodAll_cons hA
  obtain ⟨v1, vs1, d1, ds1, p1, q1, rfl, rfl, rfl, h1, r1⟩ := trodAll_cons r0
  obtain ⟨rfl, rfl, rfl⟩ := trodAll_nil r1
  obtain rfl : args = #[v0, v1] := by cases args; simp_all
  obtain ⟨rfl, rfl⟩ := trodVars_none hV
  have k0 := h0
  have lt0 : ∀ x ∈ p0, x.block < W.heap.size := by obtain ⟨m, hm⟩ := k0; exact DataW.trod_lt m _ _ _ hm
  obtain ⟨c0, rfl, w0⟩ := open_cfg (hval 0 23 v0 rfl rfl) h0
  have k1 := h1
  have lt1 : ∀ x ∈ p1, x.block < W.heap.size := by obtain ⟨m, hm⟩ := k1; exact DataW.trod_lt m _ _ _ hm
  obtain ⟨A1, len1, cap1, rfl⟩ := okWide_slice Try.underlying24 (hval 1 24 v1 rfl rfl)
  obtain ⟨l1, w1⟩ : ∃ l : List Cfg, l.length = len1 ∧ ReadsC W W.heap.size A1 l := by obtain ⟨fuel, hf⟩ := h1; exact open_cfgs hf
  obtain ⟨rfl, w1⟩ := w1
  clear hA0 hval0
  refine (confTells_all c0 l1 A1 cap1 W w1).mono fun e W' ⟨he, bel⟩ => ?_
  subst he
  exact ⟨_, rfl, _, _, _, [], _, [], hW', trodAll_mk1 (shut_bool Try.underlying4 _), (trodAll_cons_mk (Below.trod laidOut (by kernel_rfl) (of_decide_eq_true (by kernel_rfl)) k0 bel lt0) (trodAll_cons_mk (Below.trod laidOut (by kernel_rfl) (of_decide_eq_true (by kernel_rfl)) k1 bel lt1) trodAll_mk0)), rfl, bel.frame _, fun h => by cases h⟩

theorem confTells_over : Rows.confTellsRow.holds Try.pinned (OpenSpec.ofChange Rows.confTellsSpec) :=
  OpenClaim.holds_of_wide 3 Try.f3 rfl rfl rfl rfl rfl rfl rfl ⟨rfl, rfl, rfl, rfl, rfl⟩ rfl rfl rfl rfl rfl (by kernel_rfl) Try.func3 (by kernel_rfl)
    (of_decide_eq_true (by kernel_rfl)) (by unfold Func.isWrapper; first | (rw [if_pos (by decide +kernel)]; kernel_rfl) | (rw [if_neg (by decide +kernel)]; exact ⟨rfl, rfl⟩))
    (fun os started H enc _ => confTells_lifted os started H enc)

/-- The statement. -/
theorem confTells_holds : Rows.ConfTellsSaid := confTells_over
#print axioms confTells_holds

end Go.Proofs.Ytolkmpfnomeklaa
