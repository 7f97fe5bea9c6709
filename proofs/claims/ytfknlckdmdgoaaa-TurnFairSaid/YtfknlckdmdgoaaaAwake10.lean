/-
  DERIVED. The head of the statements of layer 10: the calls whose answers the document fixes. (Printed by mk_awake10.py.)
-/
import Derived.Test.YtfknlckdmdgoaaaRobin
namespace Go.Proofs.Ytfknlckdmdgoaaa
open Go Go.RowKit

section
variable {l ws : List Int} {A B : Option Addr} {cap cap2 : Nat} {w : World}
theorem least_at (n : Int) (b : Bool) (hl : l.length ≤ 1000) (hw : ws.length ≤ 1000) (hR : ReadsI w w.heap.size A l) (hS : ReadsI w w.heap.size B ws) (h1 : leastOf l ws = n) (h2 : leastIs l ws = b) :
    Calls Try.prog 10 #[.slice A l.length cap, .slice B ws.length cap2] w fun e w' => e = .returned (.tuple #[.int .i64 n, .bool b]) ∧ Below w.heap.size w w' :=
  (least_any l A cap ws B cap2 w hl hw hR hS).mono fun _ _ ⟨he, hb⟩ => ⟨by rw [he, h1, h2], hb⟩
theorem fair_at (window : Int) (b : Bool) (hl : l.length ≤ 1000) (hw : ws.length ≤ 1000) (hR : ReadsI w w.heap.size A l) (hS : ReadsI w w.heap.size B ws) (h1 : fairOf l ws window = b) :
    Calls Try.prog 8 #[.slice A l.length cap, .slice B ws.length cap2, .int .i64 window] w fun e w' => e = .returned (.bool b) ∧ Below w.heap.size w w' :=
  (fair_any l A cap ws B cap2 window w hl hw hR hS).mono fun _ _ ⟨he, hb⟩ => ⟨by rw [he, h1], hb⟩
theorem gap_at (who n : Int) (hl : l.length ≤ 1000) (hR : ReadsI w w.heap.size A l) (h1 : gapOf l who = n) :
    Calls Try.prog 9 #[.slice A l.length cap, .int .i64 who] w fun e w' => e = .returned (.int .i64 n) ∧ Below w.heap.size w w' :=
  (gap_any l A cap who w hl hR).mono fun _ _ ⟨he, hb⟩ => ⟨by rw [he, h1], hb⟩
theorem count_at (who n : Int) (hl : l.length ≤ 1000) (hR : ReadsI w w.heap.size A l) (h1 : countOf l who = n) :
    Calls Try.prog 12 #[.slice A l.length cap, .int .i64 who] w fun e w' => e = .returned (.int .i64 n) ∧ Below w.heap.size w w' :=
  (count_any l A cap who w hl hR).mono fun _ _ ⟨he, hb⟩ => ⟨by rw [he, h1], hb⟩
theorem ints_at_ {a b : List Int} {ca cb : Nat} (v : Bool) (ha : a.length ≤ 1000000) (hb : b.length ≤ 1000000) (hR : ReadsI w w.heap.size A a) (hS : ReadsI w w.heap.size B b) (h : decide (a = b) = v) :
    Calls Try.prog 13 #[.slice A a.length ca, .slice B b.length cb] w fun e w' => e = .returned (.bool v) ∧ Below w.heap.size w w' :=
  (ints_any a b A B ca cb w ha hb hR hS).mono fun _ _ ⟨he, hb⟩ => ⟨by rw [he, h], hb⟩
theorem robin_at (t r : Int) (l : List Int) (h : robinOf t r = l) : Calls Try.prog 11 #[.int .i64 t, .int .i64 r] w (GivesI w l) := h ▸ robin_any t r w
end

set_option maxRecDepth 100000 in
set_option maxHeartbeats 1000000 in
theorem awake_any (w : World) : Calls Try.prog 7 #[] w fun e w' => e = .returned (.bool true) ∧ Below w.heap.size w w' := by
  go_enter Try.func7, Try.ntmps7
  go_wp2_with fail
  have hR := readsI_new w [0, 1, 1, 0] 3
  have hB := (Below.refl w.heap.size w).alloc (Nat.le_refl _) (.cells (([0, 1, 1, 0] : List Int).map (Value.int .i64)).toArray 3)
  rw [← World.size_alloc w (.cells (([0, 1, 1, 0] : List Int).map (Value.int .i64)).toArray 3)] at hR
  simp only [List.map_cons, List.map_nil] at hR hB
  have L := fun (V : World) (q : List Int) (h : ReadsI V V.heap.size (some ⟨w.heap.size, 0, none⟩) [0, 1, 1, 0]) => ReadsI.on h ((Below.refl V.heap.size V).alloc (Nat.le_refl _) (.cells (q.map (Value.int .i64)).toArray 3))
  have N := fun (V : World) (q : List Int) => (show ReadsI (V.alloc (.cells (q.map (Value.int .i64)).toArray 3)) (V.alloc (.cells (q.map (Value.int .i64)).toArray 3)).heap.size (some ⟨V.heap.size, 0, none⟩) q by rw [World.size_alloc]; exact readsI_new V q 3)
  have HB := hB.alloc hB.size (.cells (([0, 1] : List Int).map (Value.int .i64)).toArray 3)
  have HR := L _ [0, 1] hR
  have HN := N (w.alloc (.cells #[.int .i64 0, .int .i64 1, .int .i64 1, .int .i64 0] 3)) [0, 1]
  simp only [List.map_cons, List.map_nil] at HB HR HN
  rw [World.size_alloc w] at HN
  refine (least_at 3 true (by decide) (by decide) HR HN (by decide) (by decide)).mono ?_
  rintro e w1 ⟨rfl, hb⟩
  clear hR hB
  have hR := HR.on hb
  have hB := HB.trans (hb.mono HB.size)
  clear HB HR hb HN
  go_wp2_with fail
  have HB := hB.alloc hB.size (.cells (([2] : List Int).map (Value.int .i64)).toArray 3)
  have HR := L _ [2] hR
  have HN := N w1 [2]
  simp only [List.map_cons, List.map_nil] at HB HR HN
  refine (least_at 0 false (by decide) (by decide) HR HN (by decide) (by decide)).mono ?_
  rintro e w2 ⟨rfl, hb⟩
  clear hR hB
  have hR := HR.on hb
  have hB := HB.trans (hb.mono HB.size)
  clear HB HR hb HN
  go_wp2_with fail
  have HB := hB
  have HR := hR
  refine (robin_at 2 2 [0, 1, 0, 1] (by decide)).mono ?_
  rintro e w3 ⟨A, cap, rfl, hA, hb⟩
  clear hR hB
  have hR := HR.on hb
  have hB := HB.trans (hb.mono HB.size)
  clear HB HR hb
  have hA2 := hA.on ((Below.refl _ _).alloc (Nat.le_refl _) (.cells (([0, 1, 0, 1] : List Int).map (Value.int .i64)).toArray 3))
  simp only [List.map_cons, List.map_nil] at hA2
  go_wp2_with fail
  have HB := hB.alloc hB.size (.cells (([0, 1, 0, 1] : List Int).map (Value.int .i64)).toArray 3)
  have HR := L _ [0, 1, 0, 1] hR
  have HN := N w3 [0, 1, 0, 1]
  simp only [List.map_cons, List.map_nil] at HB HR HN
  refine (ints_at_ (a := [0, 1, 0, 1]) (b := [0, 1, 0, 1]) true (by decide) (by decide) hA2 HN (by decide)).mono ?_
  rintro e w4 ⟨rfl, hb⟩
  clear hR hB
  have hR := HR.on hb
  have hB := HB.trans (hb.mono HB.size)
  clear HB HR hb HN
  clear hA hA2
  go_wp2_with fail
  have HB := hB
  have HR := hR
  refine (robin_at 17 1 [] (by decide)).mono ?_
  rintro e w5 ⟨A5, cap5, rfl, _, hb⟩
  clear hR hB
  have hR := HR.on hb
  have hB := HB.trans (hb.mono HB.size)
  clear HB HR hb
  go_wp2_with fail
  have HB := hB
  have HR := hR
  refine (robin_at 1 0 [] (by decide)).mono ?_
  rintro e w6 ⟨A6, cap6, rfl, _, hb⟩
  clear hR hB
  have hR := HR.on hb
  have hB := HB.trans (hb.mono HB.size)
  clear HB HR hb
  go_wp2_with fail
  have HB := hB
  have HR := hR
  refine (count_at 1 2 (by decide) HR (by decide)).mono ?_
  rintro e w7 ⟨rfl, hb⟩
  clear hR hB
  have hR := HR.on hb
  have hB := HB.trans (hb.mono HB.size)
  clear HB HR hb
  go_wp2_with fail
  have HB := hB
  have HR := hR
  refine (gap_at 0 2 (by decide) HR (by decide)).mono ?_
  rintro e w8 ⟨rfl, hb⟩
  clear hR hB
  have hR := HR.on hb
  have hB := HB.trans (hb.mono HB.size)
  clear HB HR hb
  go_wp2_with fail
  have HB := hB
  have HR := hR
  refine (gap_at 1 1 (by decide) HR (by decide)).mono ?_
  rintro e w9 ⟨rfl, hb⟩
  clear hR hB
  have hR := HR.on hb
  have hB := HB.trans (hb.mono HB.size)
  clear HB HR hb
  go_wp2_with fail
  have HB := hB
  have HR := hR
  refine (gap_at 5 4 (by decide) HR (by decide)).mono ?_
  rintro e w10 ⟨rfl, hb⟩
  clear hR hB
  have hR := HR.on hb
  have hB := HB.trans (hb.mono HB.size)
  clear HB HR hb
  go_wp2_with fail
  have HB := hB.alloc hB.size (.cells (([0, 1] : List Int).map (Value.int .i64)).toArray 3)
  have HR := L _ [0, 1] hR
  have HN := N w10 [0, 1]
  simp only [List.map_cons, List.map_nil] at HB HR HN
  refine (fair_at 3 true (by decide) (by decide) HR HN (by decide)).mono ?_
  rintro e w11 ⟨rfl, hb⟩
  clear hR hB
  have hR := HR.on hb
  have hB := HB.trans (hb.mono HB.size)
  clear HB HR hb HN
  go_wp2_with fail
  have HB := hB.alloc hB.size (.cells (([0, 1] : List Int).map (Value.int .i64)).toArray 3)
  have HR := L _ [0, 1] hR
  have HN := N w11 [0, 1]
  simp only [List.map_cons, List.map_nil] at HB HR HN
  refine (fair_at 2 false (by decide) (by decide) HR HN (by decide)).mono ?_
  rintro e w12 ⟨rfl, hb⟩
  clear hR hB
  have hR := HR.on hb
  have hB := HB.trans (hb.mono HB.size)
  clear HB HR hb HN
  go_wp2_with fail
  have HB := hB.alloc hB.size (.cells (([5] : List Int).map (Value.int .i64)).toArray 3)
  have HR := L _ [5] hR
  have HN := N w12 [5]
  simp only [List.map_cons, List.map_nil] at HB HR HN
  refine (fair_at 5 true (by decide) (by decide) HR HN (by decide)).mono ?_
  rintro e w13 ⟨rfl, hb⟩
  clear hR hB
  have hR := HR.on hb
  have hB := HB.trans (hb.mono HB.size)
  clear HB HR hb HN
  go_wp2_with fail
  have HB := hB
  have HR := hR
  refine (fair_at (ws := []) 0 false (by decide) (by decide) HR (readsI_nil _ _ _) (by decide)).mono ?_
  rintro e w14 ⟨rfl, hb⟩
  clear hR hB
  have hR := HR.on hb
  have hB := HB.trans (hb.mono HB.size)
  clear HB HR hb
  clear hR L N
  go_wp2
  go_ret
  exact ⟨rfl, hB⟩

end Go.Proofs.Ytfknlckdmdgoaaa
