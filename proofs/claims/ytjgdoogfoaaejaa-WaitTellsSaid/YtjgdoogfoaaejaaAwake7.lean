/-
  DERIVED. The head of the statements of layer 7: the calls whose answers the document fixes. (Printed by mk_awake7.py.)
-/
import Derived.Test.YtjgdoogfoaaejaaWalk
import Derived.Test.YtjgdoogfoaaejaaSpent
namespace Go.Proofs.Ytjgdoogfoaaejaa
open Go Go.RowKit Go.Shelf

theorem until_at (r : Int) (b : Bool) (c : Cfg) (w : World) (h1 : c.tries = r) (h2 : c.parks = b) : Calls Try.prog 9 #[c.val] w fun e w' => e = .returned (.tuple #[.int .i64 r, .bool b]) ∧ Below w.heap.size w w' :=
  (until_any c w).mono fun _ _ ⟨he, hb⟩ => ⟨by rw [he, h1, h2], hb⟩
theorem spent_at (x y z : Int) (l : List Int) (A : Option Addr) (cap : Nat) (w : World) (hl : l.length ≤ 1000) (hwf : ∀ x ∈ l, (Lit.int .i64 x).wf = true) (hR : ReadsI w w.heap.size A l) (h0 : cnts l 0 = x) (h1 : cnts l 1 = y) (h2 : cnts l 2 = z) :
    Calls Try.prog 11 #[.slice A l.length cap] w fun e w' => e = .returned (.tuple #[.int .i64 x, .int .i64 y, .int .i64 z]) ∧ Below w.heap.size w w' :=
  (spent_any l A cap w hl hwf hR).mono fun _ _ ⟨he, hb⟩ => ⟨by rw [he, h0, h1, h2], hb⟩
theorem ints_at_ {A B : Option Addr} {w : World} {a b : List Int} {ca cb : Nat} (v : Bool) (ha : a.length ≤ 1000000) (hb : b.length ≤ 1000000) (hR : ReadsI w w.heap.size A a) (hS : ReadsI w w.heap.size B b) (h : decide (a = b) = v) :
    Calls Try.prog 14 #[.slice A a.length ca, .slice B b.length cb] w fun e w' => e = .returned (.bool v) ∧ Below w.heap.size w w' :=
  (ints_any a b A B ca cb w ha hb hR hS).mono fun _ _ ⟨he, hb⟩ => ⟨by rw [he, h], hb⟩

set_option maxRecDepth 100000 in
set_option maxHeartbeats 4000000 in
theorem awake_any (w : World) : Calls Try.prog 8 #[] w fun e w' => e = .returned (.bool true) ∧ Below w.heap.size w w' := by
  go_enter Try.func8, Try.ntmps8
  go_wp2_with fail
  have hS := ((Boxes.nil w 23).add (⟨1, 1, 0, 2, 2, 1, false⟩ : Cfg)).add (⟨1, 1, 0, 1, 0, 0, false⟩ : Cfg)
  rw [World.size_alloc] at hS
  refine (until_at 3 true (⟨1, 1, 0, 2, 2, 1, false⟩ : Cfg) _ (by decide) (by decide)).mono ?_
  rintro e w1 ⟨rfl, hb⟩
  replace hS := hS.on hb
  clear hb
  obtain ⟨c0, c1, c2, c3, c4, c5, c6⟩ := cells7 (hS.at_ (B := (w.heap.size + 1)) (c := (⟨1, 1, 0, 1, 0, 0, false⟩ : Cfg)) (by simp))
  go_wp2_with fail
  refine (until_at 0 false (⟨1, 1, 0, 1, 0, 0, false⟩ : Cfg) _ (by decide) (by decide)).mono ?_
  rintro e w2 ⟨rfl, hb⟩
  replace hS := hS.on hb
  clear hb c0 c1 c2 c3 c4 c5 c6
  go_wp2_with fail
  have hN := readsI_new w2 ([0, 1, 1, 2, 2, 2, 3, -1] : List Int) 3
  replace hS := hS.on ((Below.refl _ _).alloc (Nat.le_refl _) (.cells (([0, 1, 1, 2, 2, 2, 3, -1] : List Int).map (Value.int .i64)).toArray 3))
  simp only [List.map_cons, List.map_nil] at hN hS
  rw [← World.size_alloc w2 (.cells #[.int .i64 0, .int .i64 1, .int .i64 1, .int .i64 2, .int .i64 2, .int .i64 2, .int .i64 3, .int .i64 (-1)] 3)] at hN
  refine (spent_at 1 2 3 ([0, 1, 1, 2, 2, 2, 3, -1] : List Int) _ _ _ (by decide) (by decide) hN (by decide) (by decide) (by decide)).mono ?_
  rintro e w3 ⟨rfl, hb⟩
  replace hS := hS.on hb
  clear hb
  clear hN
  obtain ⟨c0, c1, c2, c3, c4, c5, c6⟩ := cells7 (hS.at_ (B := w.heap.size) (c := (⟨1, 1, 0, 2, 2, 1, false⟩ : Cfg)) (by simp))
  go_wp2_with fail
  refine (walk_at [0, 0, 1, 2, 2] (⟨1, 1, 0, 2, 2, 1, false⟩ : Cfg) 5 _ (by decide)).mono ?_
  rintro e w4 ⟨A, cap, rfl, hA, hb⟩
  replace hS := hS.on hb
  clear hb c0 c1 c2 c3 c4 c5 c6
  go_wp2_with fail
  have hN := readsI_new w4 ([0, 0, 1, 2, 2] : List Int) 3
  have hA2 := hA.on ((Below.refl _ _).alloc (Nat.le_refl _) (.cells (([0, 0, 1, 2, 2] : List Int).map (Value.int .i64)).toArray 3))
  replace hS := hS.on ((Below.refl _ _).alloc (Nat.le_refl _) (.cells (([0, 0, 1, 2, 2] : List Int).map (Value.int .i64)).toArray 3))
  simp only [List.map_cons, List.map_nil] at hN hA2 hS
  rw [← World.size_alloc w4 (.cells #[.int .i64 0, .int .i64 0, .int .i64 1, .int .i64 2, .int .i64 2] 3)] at hN
  refine (ints_at_ (a := [0, 0, 1, 2, 2]) (b := [0, 0, 1, 2, 2]) true (by decide) (by decide) hA2 hN (by decide)).mono ?_
  rintro e w5 ⟨rfl, hb⟩
  replace hS := hS.on hb
  clear hb
  clear hA hA2 hN
  obtain ⟨c0, c1, c2, c3, c4, c5, c6⟩ := cells7 (hS.at_ (B := w.heap.size) (c := (⟨1, 1, 0, 2, 2, 1, false⟩ : Cfg)) (by simp))
  go_wp2_with fail
  refine (next_at 0 (⟨1, 1, 0, 2, 2, 1, false⟩ : Cfg) (-7) _ (by decide)).mono ?_
  rintro e w6 ⟨rfl, hb⟩
  replace hS := hS.on hb
  clear hb c0 c1 c2 c3 c4 c5 c6
  obtain ⟨c0, c1, c2, c3, c4, c5, c6⟩ := cells7 (hS.at_ (B := (w.heap.size + 1)) (c := (⟨1, 1, 0, 1, 0, 0, false⟩ : Cfg)) (by simp))
  go_wp2_with fail
  refine (next_at 1 (⟨1, 1, 0, 1, 0, 0, false⟩ : Cfg) 9 _ (by decide)).mono ?_
  rintro e w7 ⟨rfl, hb⟩
  replace hS := hS.on hb
  clear hb c0 c1 c2 c3 c4 c5 c6
  go_wp2_with fail
  refine (next_at 2 (⟨1, 1, 0, 3, 0, 0, false⟩ : Cfg) 0 _ (by decide)).mono ?_
  rintro e w8 ⟨rfl, hb⟩
  replace hS := hS.on hb
  clear hb
  go_wp2_with fail
  refine (next_at 0 (⟨0, 0, 0, 3, 0, 0, false⟩ : Cfg) 0 _ (by decide)).mono ?_
  rintro e w9 ⟨rfl, hb⟩
  replace hS := hS.on hb
  clear hb
  obtain ⟨c0, c1, c2, c3, c4, c5, c6⟩ := cells7 (hS.at_ (B := w.heap.size) (c := (⟨1, 1, 0, 2, 2, 1, false⟩ : Cfg)) (by simp))
  go_wp2_with fail
  refine (walk_at [] (⟨1, 1, 0, 2, 2, 1, false⟩ : Cfg) (-1) _ (by decide)).mono ?_
  rintro e w10 ⟨A, cap, rfl, hA, hb⟩
  replace hS := hS.on hb
  clear hb c0 c1 c2 c3 c4 c5 c6 hA
  have hB := hS.2
  clear hS
  go_wp2
  go_ret
  exact ⟨rfl, hB⟩

end Go.Proofs.Ytjgdoogfoaaejaa
