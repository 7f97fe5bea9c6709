/-
  DERIVED. Funcs, Line, Line2.
-/
import Derived.WalkMore
import Derived.Test.YtnbgpopjnpdmgaaGreatPah
import Derived.Test.YtnbgpopjnpdmgaaGreatPaf
set_option linter.unusedVariables false
set_option linter.unusedSimpArgs false

namespace Go.Proofs.YtnbgpopjnpdmgaaGreat
open Go Go.RowKit Go.Shelf

theorem take_snoc {α : Type} {l : List α} {k : Nat} {x : α} (h : l[k]? = some x) : l.take (k + 1) = l.take k ++ [x] := by rw [List.take_add_one, h]; rfl

/-- The first place of a number; -1: there is none. -/
def idxOf (l : List Int) (x : Int) : Int := if x ∈ l then (l.idxOf x : Nat) else -1
theorem idxOf_none {l : List Int} {x : Int} (h : x ∉ l) : idxOf l x = -1 := if_neg h
theorem idxOf_at {l : List Int} {x : Int} {k : Nat} (hk : l[k]? = some x) (hn : x ∉ l.take k) : idxOf l x = k := by
  have hm : x ∈ l := List.mem_of_getElem? hk
  have hlt := (List.getElem?_eq_some_iff.1 hk).1
  unfold idxOf
  rw [if_pos hm]
  have e : l.idxOf x = k := by
    have h1 := List.take_append_drop k l
    have h2 : l.drop k = x :: l.drop (k + 1) := by
      rw [List.drop_eq_getElem_cons hlt]
      congr 1
      exact (List.getElem?_eq_some_iff.1 hk).2
    rw [← h1, List.idxOf_append, if_neg hn, h2, List.idxOf_cons_self, List.length_take]
    omega
  rw [e]
theorem idxOf_ge (l : List Int) (x : Int) : decide (0 ≤ idxOf l x) = decide (x ∈ l) := by
  unfold idxOf
  split
  · simp [*]
  · simp [*]
theorem idxOf_lt (l : List Int) (x : Int) : idxOf l x < l.length ∧ -1 ≤ idxOf l x := by
  unfold idxOf
  split
  · rename_i h
    have := List.idxOf_lt_length_of_mem h
    omega
  · omega

set_option maxRecDepth 100000 in
set_option maxHeartbeats 2000000 in
theorem index_any (l : List Int) (x : Int) (A : Option Addr) (c : Nat) (w : World) (hl : l.length ≤ 1000000) (hA : Lies w w.heap.size A (ints l)) :
    Calls Tryz.prog 137 #[.slice A l.length c, .int .i64 x] w fun e w' => e = .returned (.int .i64 (idxOf l x)) ∧ w' = w := by
  go_enter Tryz.func137, Tryz.ntmps137
  go_wp2
  go_loopw [8] (fun i wr => ∃ k : Nat, k ≤ l.length ∧ i = .int .i64 k ∧ x ∉ l.take k ∧ wr = w) (fun i _ => l.length - (intOf i).toNat)
  case atStart => exact ⟨0, Nat.zero_le _, rfl, by simp, rfl⟩
  case round =>
    obtain ⟨k, hk, rfl, hno, rfl⟩ := hrel
    have HN := Lib.hid hno
    clear hno
    by_cases hlt : k < l.length
    · obtain ⟨y, hy⟩ : ∃ y, l[k]? = some y := ⟨_, List.getElem?_eq_getElem hlt⟩
      obtain ⟨b, off, rfl, hb, hc⟩ := hA.open_ (by rw [ints_len]; omega)
      have hcy := hc k _ (ints_get hy)
      have HY := Lib.hid hy
      clear hc hy
      by_cases hxy : x = y
      · have hq : (x == y) = true := by simpa using hxy
        have e : idxOf l x = k := idxOf_at (hxy ▸ HY.out) HN.out
        clear hxy
        go_wp2
        go_ret
        exact ⟨by rw [e]; rfl, rfl⟩
      · have hq : (x == y) = false := by simpa using hxy
        have HQ := Lib.hid hxy
        clear hxy
        go_wp2
        go_roundw
        case rel => exact ⟨k + 1, by omega, by go_num, by rw [take_snoc HY.out]; simp only [List.mem_append, List.mem_singleton, not_or]; exact ⟨HN.out, HQ.out⟩, trivial⟩
        case measure => simp [intOf]; omega
    · obtain rfl : k = l.length := by omega
      have e : idxOf l x = -1 := idxOf_none (by have := HN.out; rwa [List.take_length] at this)
      go_wp2
      go_ret
      exact ⟨by rw [e]; rfl, rfl⟩

set_option maxRecDepth 100000 in
set_option maxHeartbeats 2000000 in
theorem contains_any (l : List Int) (x : Int) (A : Option Addr) (c : Nat) (w : World) (hl : l.length ≤ 1000000) (hA : Lies w w.heap.size A (ints l)) :
    Calls Tryz.prog 105 #[.slice A l.length c, .int .i64 x] w fun e w' => e = .returned (.bool (decide (x ∈ l))) ∧ w' = w := by
  have C := index_any l x A c w hl hA
  have e := idxOf_ge l x
  generalize decide (x ∈ l) = r at *
  generalize idxOf l x = i at *
  go_enter Tryz.func105, Tryz.ntmps105
  go_wp2_with (refine C.mono ?_; rintro e w' ⟨rfl, rfl⟩)
  go_ret
  exact ⟨by simp [← e], rfl⟩

/-- No thread's number, of N. -/
def offN (N : Int) (x : Int) : Bool := decide (x < 0) || decide (x ≥ N)
set_option maxRecDepth 100000 in
theorem wrong16_any (x : Int) (w : World) : Calls Tryz.prog 83 #[.int .i64 x] w fun e w' => e = .returned (.bool (offN 16 x)) ∧ Below w.heap.size w w' := by
  go_enter Tryz.func83, Tryz.ntmps83
  go_wp2
  all_goals
    go_ret
    exact ⟨by simp_all [offN], Below.refl _ _⟩
set_option maxRecDepth 100000 in
theorem wrongN_any (N : Int) (B : Nat) (x : Int) (w : World) (hN : w.cell? ⟨B, 0, none⟩ = some (.int .i64 N)) : Calls Tryz.prog 69 #[.int .i64 x, .pointer (some ⟨B, 0, none⟩)] w fun e w' => e = .returned (.bool (offN N x)) ∧ Below w.heap.size w w' := by
  go_enter Tryz.func69, Tryz.ntmps69
  go_wp2
  all_goals
    go_ret
    exact ⟨by simp_all [offN], Below.refl _ _⟩

set_option maxRecDepth 100000 in
set_option maxHeartbeats 2000000 in
theorem idxf_16 (l : List Int) (A : Option Addr) (c : Nat) (w : World) (hl : l.length ≤ 1000000) (hA : Lies w w.heap.size A (ints l)) :
    Calls Tryz.prog 85 #[.slice A l.length c, .func (.func 83) #[] #[]] w fun e w' => ∃ i : Int, e = .returned (.int .i64 i) ∧ decide (0 ≤ i) = l.any (offN 16) ∧ Below w.heap.size w w' := by
  go_enter Tryz.func85, Tryz.ntmps85
  go_wp2
  go_loopw [8] (fun i wr => ∃ k : Nat, k ≤ l.length ∧ i = .int .i64 k ∧ (l.take k).any (offN 16) = false ∧ Below w.heap.size w wr) (fun i _ => l.length - (intOf i).toNat)
  case atStart => exact ⟨0, Nat.zero_le _, rfl, by simp, Below.refl _ _⟩
  case round =>
    obtain ⟨k, hk, rfl, hno, hB⟩ := hrel
    have HN := Lib.hid hno
    clear hno
    by_cases hlt : k < l.length
    · obtain ⟨y, hy⟩ : ∃ y, l[k]? = some y := ⟨_, List.getElem?_eq_getElem hlt⟩
      obtain ⟨b, off, rfl, hb, hc⟩ := (hA.below hB).open_ (by rw [ints_len]; omega)
      have hcy := hc k _ (ints_get hy)
      have HY := Lib.hid hy
      clear hc hy hA
      have C := fun W (hW : Below w.heap.size w W) => wrong16_any y W
      have hB0 := Lib.hid hB
      cases hq : (offN 16) y with
      | true =>
        rw [hq] at C
        have e : l.any (offN 16) = true := List.any_eq_true.2 ⟨y, List.mem_of_getElem? HY.out, hq⟩
        clear hq
        go_wp2_with (refine (C _ hB0.out).mono ?_; rintro e w1 ⟨rfl, hb1⟩)
        go_ret
        exact ⟨k, rfl, by rw [e]; simp, hB0.out.trans (hb1.mono hB0.out.size)⟩
      | false =>
        rw [hq] at C
        have hall : (l.take (k + 1)).any (offN 16) = false := by rw [take_snoc HY.out, List.any_append, HN.out]; simp [hq]
        have HA := Lib.hid hall
        clear hq hall
        go_wp2_with (refine (C _ hB0.out).mono ?_; rintro e w1 ⟨rfl, hb1⟩)
        go_roundw
        case rel => exact ⟨k + 1, by omega, by go_num, HA.out, hB0.out.trans (hb1.mono hB0.out.size)⟩
        case measure => simp [intOf]; omega
    · obtain rfl : k = l.length := by omega
      have e : l.any (offN 16) = false := by have := HN.out; rwa [List.take_length] at this
      have HE := Lib.hid e
      clear e
      go_wp2
      go_ret
      exact ⟨-1, rfl, by rw [HE.out]; rfl, hB⟩

set_option maxRecDepth 100000 in
set_option maxHeartbeats 2000000 in
theorem conf_16 (l : List Int) (A : Option Addr) (c : Nat) (w : World) (hl : l.length ≤ 1000000) (hA : Lies w w.heap.size A (ints l)) :
    Calls Tryz.prog 71 #[.slice A l.length c, .func (.func 83) #[] #[]] w fun e w' => e = .returned (.bool (l.any (offN 16))) ∧ Below w.heap.size w w' := by
  have C := idxf_16 l A c w hl hA
  generalize l.any (offN 16) = r at *
  go_enter Tryz.func71, Tryz.ntmps71
  go_wp2_with (refine C.mono ?_; rintro e w' ⟨i, rfl, hi, hB⟩; subst hi)
  go_ret
  exact ⟨by simp, hB⟩

set_option maxRecDepth 100000 in
set_option maxHeartbeats 2000000 in
theorem idxf_N (N : Int) (B : Nat) (l : List Int) (A : Option Addr) (c : Nat) (w : World) (hl : l.length ≤ 1000000) (hA : Lies w w.heap.size A (ints l)) (hN : w.cell? ⟨B, 0, none⟩ = some (.int .i64 N)) (hBl : B < w.heap.size) :
    Calls Tryz.prog 85 #[.slice A l.length c, .func (.func 69) #[] #[.pointer (some ⟨B, 0, none⟩)]] w fun e w' => ∃ i : Int, e = .returned (.int .i64 i) ∧ decide (0 ≤ i) = l.any (offN N) ∧ Below w.heap.size w w' := by
  go_enter Tryz.func85, Tryz.ntmps85
  go_wp2
  go_loopw [8] (fun i wr => ∃ k : Nat, k ≤ l.length ∧ i = .int .i64 k ∧ (l.take k).any (offN N) = false ∧ Below w.heap.size w wr) (fun i _ => l.length - (intOf i).toNat)
  case atStart => exact ⟨0, Nat.zero_le _, rfl, by simp, Below.refl _ _⟩
  case round =>
    obtain ⟨k, hk, rfl, hno, hB⟩ := hrel
    have HN := Lib.hid hno
    clear hno
    by_cases hlt : k < l.length
    · obtain ⟨y, hy⟩ : ∃ y, l[k]? = some y := ⟨_, List.getElem?_eq_getElem hlt⟩
      obtain ⟨b, off, rfl, hb, hc⟩ := (hA.below hB).open_ (by rw [ints_len]; omega)
      have hcy := hc k _ (ints_get hy)
      have HY := Lib.hid hy
      clear hc hy hA
      have C := fun W (hW : Below w.heap.size w W) => wrongN_any N B y W ((hW.cell (p := ⟨B, 0, none⟩) hBl).trans hN)
      have hB0 := Lib.hid hB
      cases hq : (offN N) y with
      | true =>
        rw [hq] at C
        have e : l.any (offN N) = true := List.any_eq_true.2 ⟨y, List.mem_of_getElem? HY.out, hq⟩
        clear hq
        go_wp2_with (refine (C _ hB0.out).mono ?_; rintro e w1 ⟨rfl, hb1⟩)
        go_ret
        exact ⟨k, rfl, by rw [e]; simp, hB0.out.trans (hb1.mono hB0.out.size)⟩
      | false =>
        rw [hq] at C
        have hall : (l.take (k + 1)).any (offN N) = false := by rw [take_snoc HY.out, List.any_append, HN.out]; simp [hq]
        have HA := Lib.hid hall
        clear hq hall
        go_wp2_with (refine (C _ hB0.out).mono ?_; rintro e w1 ⟨rfl, hb1⟩)
        go_roundw
        case rel => exact ⟨k + 1, by omega, by go_num, HA.out, hB0.out.trans (hb1.mono hB0.out.size)⟩
        case measure => simp [intOf]; omega
    · obtain rfl : k = l.length := by omega
      have e : l.any (offN N) = false := by have := HN.out; rwa [List.take_length] at this
      have HE := Lib.hid e
      clear e
      go_wp2
      go_ret
      exact ⟨-1, rfl, by rw [HE.out]; rfl, hB⟩

set_option maxRecDepth 100000 in
set_option maxHeartbeats 2000000 in
theorem conf_N (N : Int) (B : Nat) (l : List Int) (A : Option Addr) (c : Nat) (w : World) (hl : l.length ≤ 1000000) (hA : Lies w w.heap.size A (ints l)) (hN : w.cell? ⟨B, 0, none⟩ = some (.int .i64 N)) (hBl : B < w.heap.size) :
    Calls Tryz.prog 71 #[.slice A l.length c, .func (.func 69) #[] #[.pointer (some ⟨B, 0, none⟩)]] w fun e w' => e = .returned (.bool (l.any (offN N))) ∧ Below w.heap.size w w' := by
  have C := idxf_N N B l A c w hl hA hN hBl
  generalize l.any (offN N) = r at *
  go_enter Tryz.func71, Tryz.ntmps71
  go_wp2_with (refine C.mono ?_; rintro e w' ⟨i, rfl, hi, hB⟩; subst hi)
  go_ret
  exact ⟨by simp, hB⟩

end Go.Proofs.YtnbgpopjnpdmgaaGreat

namespace Go.Proofs.YtnbgpopjnpdmgaaGreat
open Go Go.RowKit Go.Shelf

/-- Each once. -/
def addU (out : List Int) (x : Int) : List Int := if x ∈ out then out else out ++ [x]
def uniq (l : List Int) : List Int := l.foldl addU []
theorem uniq_snoc (l : List Int) (x : Int) : uniq (l ++ [x]) = addU (uniq l) x := by simp [uniq]
theorem uniq_len (l : List Int) : (uniq l).length ≤ l.length := by
  have h : ∀ (l out : List Int), (l.foldl addU out).length ≤ out.length + l.length := by
    intro l
    induction l with
    | nil => intro out; simp
    | cons a l ih =>
      intro out
      have := ih (addU out a)
      have h2 : (addU out a).length ≤ out.length + 1 := by unfold addU; split <;> simp
      simp only [List.foldl_cons, List.length_cons]
      omega
  simpa [uniq] using h l []
theorem cell_one (w : World) (v : Value) (t : TypeId) : ∀ j u, [v][j]? = some u → (w.alloc (.cells #[v] t)).cell? ((⟨w.heap.size, 0, none⟩ : Addr).add j) = some u := by
  intro j u hj
  rw [Addr.add_lit]
  cases j with
  | zero =>
    have := World.alloc_heap_new w (.cells #[v] t)
    simp at hj
    subst hj
    exact (of_block this 0).1
  | succ j => simp at hj
theorem int_inf : (Tryz.prog.info? 3).map (fun i => (i.zero, i.size, i.bytes)) = some (some (.int .i64 0), 1, 8) := by kernel_rfl

set_option maxRecDepth 100000 in
set_option maxHeartbeats 4000000 in
theorem unlike_any (l : List Int) (A : Option Addr) (c : Nat) (w : World) (hl : l.length ≤ 100000) (hA : Lies w w.heap.size A (ints l)) :
    Calls Tryz.prog 84 #[.slice A l.length c] w fun e w' => ∃ A' c', e = .returned (.slice A' (uniq l).length c') ∧ Below w.heap.size w w' := by
  obtain ⟨i0, hi, hz0, hz1, hz2⟩ := info_parts int_inf
  have UL := Lib.hid (uniq_len)
  have US := Lib.hid uniq_snoc
  go_enter Tryz.func84, Tryz.ntmps84
  go_wp2
  go_loopw [2, 7] (fun v i wr => ∃ (k : Nat) (A' : Option Addr) (c' : Nat), k ≤ l.length ∧ i = .int .i64 k ∧ v = .slice A' (uniq (l.take k)).length c' ∧ Mine wr w.heap.size 3 1 A' c' (uniq (l.take k)).length (ints (uniq (l.take k))) ∧ Below w.heap.size w wr) (fun _ i _ => l.length - (intOf i).toNat)
  case atStart => exact ⟨0, none, 0, Nat.zero_le _, rfl, rfl, World.ownsRow_nil _ _ _ _, Below.refl _ _⟩
  case round =>
    obtain ⟨k, A', c', hk, rfl, rfl, hown, hB⟩ := hrel
    by_cases hlt : k < l.length
    · obtain ⟨y, hy⟩ : ∃ y, l[k]? = some y := ⟨_, List.getElem?_eq_getElem hlt⟩
      obtain ⟨b, off, rfl, hb, hc⟩ := (hA.below hB).open_ (by rw [ints_len]; omega)
      have hcy := hc k _ (ints_get hy)
      have hlen : (uniq (l.take k)).length ≤ 100000 := Nat.le_trans (UL.out _) (by rw [List.length_take]; omega)
      have hsn : uniq (l.take (k + 1)) = addU (uniq (l.take k)) y := by rw [take_snoc hy, US.out]
      generalize uniq (l.take k) = U at *
      have C := contains_any U y A' c' wr (by omega) hown.lies
      have HY := Lib.hid hy
      clear hc hy hA
      by_cases hin : y ∈ U
      · have hd : decide (y ∈ U) = true := by simpa using hin
        rw [hd] at C
        have he : addU U y = U := if_pos hin
        rw [he] at hsn
        have HS := Lib.hid hsn
        clear he hd hin hsn
        go_wp2_with (refine C.mono ?_; rintro e w1 ⟨rfl, rfl⟩)
        go_roundw
        case rel => exact ⟨k + 1, A', c', by omega, by go_num, by rw [HS.out], by rw [HS.out]; exact hown, hB⟩
        case measure => simp [intOf]; omega
      · have hd : decide (y ∈ U) = false := by simpa using hin
        rw [hd] at C
        have he : addU U y = U ++ [y] := if_neg hin
        rw [he] at hsn
        have HS := Lib.hid hsn
        have hsz : w.heap.size ≤ wr.heap.size := hB.size
        clear he hd hin hsn
        go_wp2_with (first | (refine C.mono ?_; rintro e w1 ⟨rfl, hw⟩; obtain rfl := hw.symm; clear hw) | (at_builtin; go_loud (refine wpList_append_own _ rfl _ _ 30 rfl w.heap.size 3 i0 (.int .i64 0) 1 8 Tryz.underlying30 hi hz0 hz1 hz2 rfl (by decide) _ _ _ rfl (World.ownsRow.alloc hown _) ⟨wr.heap.size, 0, none⟩ 1 1 [.int .i64 y] rfl rfl (cell_one _ _ _) (by simp [Value.oneCell']) (by simp only [maxLen]; omega) (by omega) (by simp; omega) ?_); intro v' w2 hown' hgrow hnil))
        have hB2 : Below w.heap.size w w2 := (hB.alloc hsz _).grown hgrow (by simp; omega) (by intro g hg; exact (World.ownsRow.lt hown g hg).1)
        have hown2 : w2.ownsRow w.heap.size 3 1 v' (U ++ [y]).length (ints (U ++ [y])) := by simpa using hown'
        clear hown hown' hgrow hB
        obtain ⟨A2, c2, rfl⟩ : ∃ A2 c2, v' = .slice A2 (U ++ [y]).length c2 := by
          rcases hown2.2 with ⟨e1, e2⟩ | ⟨g, cap, cur, e1, _⟩
          · exact ⟨none, 0, by rw [e1, e2]⟩
          · exact ⟨_, cap, e1⟩
        go_roundw
        case rel => exact ⟨k + 1, A2, c2, by omega, by go_num, by rw [HS.out], by rw [HS.out]; exact hown2, hB2⟩
        case measure => simp [intOf]; omega
    · obtain rfl : k = l.length := by omega
      rw [List.take_length] at *
      go_wp2
      go_ret
      exact ⟨A', c', rfl, hB⟩

end Go.Proofs.YtnbgpopjnpdmgaaGreat

namespace Go.Proofs.YtnbgpopjnpdmgaaGreat
open Go Go.RowKit Go.Shelf

def lineOk (l : List Int) : Bool := !(l.any (offN 16)) && decide ((uniq l).length = l.length)
/-- How many stand ahead; -1: it does not stand there. -/
def plc (l : List Int) (x : Int) : Int := if lineOk l then idxOf l x else -1
theorem plc_lt (l : List Int) (x : Int) : plc l x < l.length ∧ -1 ≤ plc l x := by
  unfold plc
  split
  · exact idxOf_lt l x
  · omega

set_option maxRecDepth 100000 in
set_option maxHeartbeats 2000000 in
theorem lineCheck_off (l : List Int) (A : Option Addr) (c : Nat) (w : World) (hl : l.length ≤ 100000) (hA : Lies w w.heap.size A (ints l)) (h : l.any (offN 16) = true) :
    Calls Tryz.prog 70 #[.slice A l.length c] w fun e w' => e = .returned (.bool false) ∧ Below w.heap.size w w' := by
  have C := conf_16 l A c w (by omega) hA
  rw [h] at C
  clear h
  go_enter Tryz.func70, Tryz.ntmps70
  go_wp2_with (first
      | (go_at_call 71; with_reducible refine (C).mono ?_; rintro e w1 ⟨rfl, hb⟩))
  go_ret
  exact ⟨rfl, hb⟩

set_option maxRecDepth 100000 in
set_option maxHeartbeats 2000000 in
theorem lineCheck_true (l : List Int) (A : Option Addr) (c : Nat) (w : World) (hl : l.length ≤ 100000) (hA : Lies w w.heap.size A (ints l)) (h : l.any (offN 16) = false) (h2 : (uniq l).length = l.length) :
    Calls Tryz.prog 70 #[.slice A l.length c] w fun e w' => e = .returned (.bool true) ∧ Below w.heap.size w w' := by
  have C := conf_16 l A c w (by omega) hA
  rw [h] at C
  have D := fun W (hW : Below w.heap.size w W) => unlike_any l A c W hl (hA.on hW)
  have hq : (((uniq l).length : Int) == (l.length : Int)) = true := by simp; omega
  generalize (uniq l).length = m at *
  clear h h2
  go_enter Tryz.func70, Tryz.ntmps70
  go_wp2_with (first
      | (go_at_call 71; with_reducible refine (C).mono ?_; rintro e w1 ⟨rfl, hb⟩)
      | (go_at_call 84; with_reducible refine (D _ hb).mono ?_; rintro e w2 ⟨A2, c2, rfl, hb2⟩))
  go_ret
  exact ⟨rfl, hb.trans (hb2.mono hb.size)⟩

set_option maxRecDepth 100000 in
set_option maxHeartbeats 2000000 in
theorem lineCheck_false (l : List Int) (A : Option Addr) (c : Nat) (w : World) (hl : l.length ≤ 100000) (hA : Lies w w.heap.size A (ints l)) (h : l.any (offN 16) = false) (h2 : ¬ (uniq l).length = l.length) :
    Calls Tryz.prog 70 #[.slice A l.length c] w fun e w' => e = .returned (.bool false) ∧ Below w.heap.size w w' := by
  have C := conf_16 l A c w (by omega) hA
  rw [h] at C
  have D := fun W (hW : Below w.heap.size w W) => unlike_any l A c W hl (hA.on hW)
  have hq : (((uniq l).length : Int) == (l.length : Int)) = false := by simp; omega
  generalize (uniq l).length = m at *
  clear h h2
  go_enter Tryz.func70, Tryz.ntmps70
  go_wp2_with (first
      | (go_at_call 71; with_reducible refine (C).mono ?_; rintro e w1 ⟨rfl, hb⟩)
      | (go_at_call 84; with_reducible refine (D _ hb).mono ?_; rintro e w2 ⟨A2, c2, rfl, hb2⟩))
  go_ret
  exact ⟨rfl, hb.trans (hb2.mono hb.size)⟩

theorem lineCheck_any (l : List Int) (A : Option Addr) (c : Nat) (w : World) (hl : l.length ≤ 100000) (hA : Lies w w.heap.size A (ints l)) : Calls Tryz.prog 70 #[.slice A l.length c] w fun e w' => e = .returned (.bool (lineOk l)) ∧ Below w.heap.size w w' := by
  by_cases h : l.any (offN 16) = true
  · have e : lineOk l = false := by simp [lineOk, h]
    rw [e]
    exact lineCheck_off l A c w hl hA h
  · have h' : l.any (offN 16) = false := by simpa using h
    by_cases h2 : (uniq l).length = l.length
    · have e : lineOk l = true := by simp only [lineOk, h', h2]; simp
      rw [e]
      exact lineCheck_true l A c w hl hA h' h2
    · have e : lineOk l = false := by simp only [lineOk, h', h2]; simp
      rw [e]
      exact lineCheck_false l A c w hl hA h' h2

set_option maxRecDepth 100000 in
set_option maxHeartbeats 2000000 in
theorem place_true (l : List Int) (x : Int) (A : Option Addr) (c : Nat) (w : World) (hl : l.length ≤ 100000) (hA : Lies w w.heap.size A (ints l)) (h : lineOk l = true) :
    Calls Tryz.prog 135 #[.slice A l.length c, .int .i64 x] w fun e w' => e = .returned (.int .i64 (idxOf l x)) ∧ Below w.heap.size w w' := by
  have C := lineCheck_any l A c w hl hA
  rw [h] at C
  have D := fun W (hW : Below w.heap.size w W) => index_any l x A c W (by omega) (hA.on hW)
  clear h
  generalize idxOf l x = i at *
  go_enter Tryz.func135, Tryz.ntmps135
  go_wp2_with (first
      | (go_at_call 70; with_reducible refine (C).mono ?_; rintro e w1 ⟨rfl, hb⟩)
      | (go_at_call 137; with_reducible refine (D _ hb).mono ?_; rintro e w2 ⟨rfl, hw⟩; obtain rfl := hw.symm; clear hw))
  go_ret
  exact ⟨rfl, hb⟩

set_option maxRecDepth 100000 in
set_option maxHeartbeats 2000000 in
theorem place_false (l : List Int) (x : Int) (A : Option Addr) (c : Nat) (w : World) (hl : l.length ≤ 100000) (hA : Lies w w.heap.size A (ints l)) (h : lineOk l = false) :
    Calls Tryz.prog 135 #[.slice A l.length c, .int .i64 x] w fun e w' => e = .returned (.int .i64 (-1)) ∧ Below w.heap.size w w' := by
  have C := lineCheck_any l A c w hl hA
  rw [h] at C
  have D := fun W (hW : Below w.heap.size w W) => index_any l x A c W (by omega) (hA.on hW)
  clear h
  generalize idxOf l x = i at *
  go_enter Tryz.func135, Tryz.ntmps135
  go_wp2_with (first
      | (go_at_call 70; with_reducible refine (C).mono ?_; rintro e w1 ⟨rfl, hb⟩)
      | (go_at_call 137; with_reducible refine (D _ hb).mono ?_; rintro e w2 ⟨rfl, hw⟩; obtain rfl := hw.symm; clear hw))
  go_ret
  exact ⟨rfl, hb⟩

theorem place_any (l : List Int) (x : Int) (A : Option Addr) (c : Nat) (w : World) (hl : l.length ≤ 100000) (hA : Lies w w.heap.size A (ints l)) : Calls Tryz.prog 135 #[.slice A l.length c, .int .i64 x] w fun e w' => e = .returned (.int .i64 (plc l x)) ∧ Below w.heap.size w w' := by
  cases h : lineOk l with
  | true => rw [show plc l x = idxOf l x by simp [plc, h]]; exact place_true l x A c w hl hA h
  | false => rw [show plc l x = -1 by simp [plc, h]]; exact place_false l x A c w hl hA h

set_option maxRecDepth 100000 in
set_option maxHeartbeats 2000000 in
theorem first_any (l : List Int) (x : Int) (A : Option Addr) (c : Nat) (w : World) (hl : l.length ≤ 100000) (hA : Lies w w.heap.size A (ints l)) :
    Calls Tryz.prog 140 #[.slice A l.length c, .int .i64 x] w fun e w' => e = .returned (.bool (plc l x == 0)) ∧ Below w.heap.size w w' := by
  have C := place_any l x A c w hl hA
  generalize plc l x = i at *
  go_enter Tryz.func140, Tryz.ntmps140
  go_wp2_with (first
      | (go_at_call 135; with_reducible refine (C).mono ?_; rintro e w1 ⟨rfl, hb⟩))
  go_ret
  exact ⟨rfl, hb⟩

/-- One more behind. -/
def entL (l : List Int) (x : Int) : List Int × Int := if lineOk l = false then (l, 40) else if lineOk [x] = false then (l, 40) else if 0 ≤ plc l x then (l, 60) else (l ++ [x], 0)
theorem ints1 (w : World) (x : Int) (t : TypeId) : Lies (w.alloc (.cells #[.int .i64 x] t)) (w.heap.size + 1) (some ⟨w.heap.size, 0, none⟩) (ints [x]) :=
  .inr ⟨w.heap.size, 0, rfl, by omega, fun i v hi => by
    have := cell_one w (.int .i64 x) t i v (by simpa using hi)
    rw [Addr.add_lit] at this
    simpa using this⟩

set_option maxRecDepth 100000 in
set_option maxHeartbeats 2000000 in
theorem enter_no1 (l : List Int) (x : Int) (A : Option Addr) (c : Nat) (w : World) (hl : l.length ≤ 100000) (hA : Lies w w.heap.size A (ints l)) (h : lineOk l = false) :
    Calls Tryz.prog 138 #[.slice A l.length c, .int .i64 x] w fun e w' => ∃ A' c', e = .returned (.tuple #[.slice A' (l).length c', .int .i64 40]) ∧ Mine w' w.heap.size 3 1 A' c' (l).length (ints (l)) ∧ Below w.heap.size w w' := by
  have K := fun W (hW : Below w.heap.size w W) => clone_ints (ints l) A l.length c W (by rw [ints_len, Nat.mul_one]) (one_ints l) (hA.on hW) (by omega)
  have C := fun W (hW : Below w.heap.size w W) => lineCheck_any l A c W hl (hA.on hW)
  rw [h] at C
  clear h
  go_enter Tryz.func138, Tryz.ntmps138
  go_wp2_with (first
      | (go_at_call 50; with_reducible refine (K _ (Below.refl _ _)).mono ?_; rintro e w1 ⟨A1, c1, rfl, hown, hb⟩)
      | (go_at_call 70; with_reducible refine (C _ hb).mono ?_; rintro e w2 ⟨rfl, hb2⟩))
  go_ret2
  exact ⟨A1, c1, rfl, hown.kept hb2, hb.trans (hb2.mono hb.size)⟩

set_option maxRecDepth 100000 in
set_option maxHeartbeats 2000000 in
theorem enter_no2 (l : List Int) (x : Int) (A : Option Addr) (c : Nat) (w : World) (hl : l.length ≤ 100000) (hA : Lies w w.heap.size A (ints l)) (h : lineOk l = true) (h2 : lineOk [x] = false) :
    Calls Tryz.prog 138 #[.slice A l.length c, .int .i64 x] w fun e w' => ∃ A' c', e = .returned (.tuple #[.slice A' (l).length c', .int .i64 40]) ∧ Mine w' w.heap.size 3 1 A' c' (l).length (ints (l)) ∧ Below w.heap.size w w' := by
  have K := fun W (hW : Below w.heap.size w W) => clone_ints (ints l) A l.length c W (by rw [ints_len, Nat.mul_one]) (one_ints l) (hA.on hW) (by omega)
  have C := fun W (hW : Below w.heap.size w W) => lineCheck_any l A c W hl (hA.on hW)
  rw [h] at C
  have D : ∀ W : World, Calls Tryz.prog 70 #[.slice (some ⟨W.heap.size, 0, none⟩) 1 1] (W.alloc (.cells #[.int .i64 x] 3)) fun e w' => e = .returned (.bool (lineOk [x])) ∧ Below (W.alloc (.cells #[.int .i64 x] 3)).heap.size (W.alloc (.cells #[.int .i64 x] 3)) w' := fun (W : World) => lineCheck_any [x] (some ⟨W.heap.size, 0, none⟩) 1 (W.alloc (.cells #[.int .i64 x] 3)) (by simp) (by rw [World.size_alloc]; exact ints1 W x _)
  rw [h2] at D
  clear h h2
  go_enter Tryz.func138, Tryz.ntmps138
  go_wp2_with (first | (go_at_call 50; with_reducible refine (K _ (Below.refl _ _)).mono ?_; rintro e w1 ⟨A1, c1, rfl, hown, hb⟩) | (go_at_call 70; with_reducible refine (C _ hb).mono ?_; rintro e w2 ⟨rfl, hb2⟩) | (go_at_call 70; with_reducible refine (D _).mono ?_; rintro e w3 ⟨rfl, hb3⟩))
  go_ret2
  have hb3' : Below w2.heap.size w2 w3 := (below_one w2 _).trans (hb3.mono (by simp))
  exact ⟨A1, c1, rfl, (hown.kept hb2).kept hb3', (hb.trans (hb2.mono hb.size)).trans (hb3'.mono (Nat.le_trans hb.size hb2.size))⟩

set_option maxRecDepth 100000 in
set_option maxHeartbeats 2000000 in
theorem enter_no3 (l : List Int) (x : Int) (A : Option Addr) (c : Nat) (w : World) (hl : l.length ≤ 100000) (hA : Lies w w.heap.size A (ints l)) (h : lineOk l = true) (h2 : lineOk [x] = true) (h3 : 0 ≤ plc l x) :
    Calls Tryz.prog 138 #[.slice A l.length c, .int .i64 x] w fun e w' => ∃ A' c', e = .returned (.tuple #[.slice A' (l).length c', .int .i64 60]) ∧ Mine w' w.heap.size 3 1 A' c' (l).length (ints (l)) ∧ Below w.heap.size w w' := by
  have K := fun W (hW : Below w.heap.size w W) => clone_ints (ints l) A l.length c W (by rw [ints_len, Nat.mul_one]) (one_ints l) (hA.on hW) (by omega)
  have C := fun W (hW : Below w.heap.size w W) => lineCheck_any l A c W hl (hA.on hW)
  rw [h] at C
  have D : ∀ W : World, Calls Tryz.prog 70 #[.slice (some ⟨W.heap.size, 0, none⟩) 1 1] (W.alloc (.cells #[.int .i64 x] 3)) fun e w' => e = .returned (.bool (lineOk [x])) ∧ Below (W.alloc (.cells #[.int .i64 x] 3)).heap.size (W.alloc (.cells #[.int .i64 x] 3)) w' := fun (W : World) => lineCheck_any [x] (some ⟨W.heap.size, 0, none⟩) 1 (W.alloc (.cells #[.int .i64 x] 3)) (by simp) (by rw [World.size_alloc]; exact ints1 W x _)
  rw [h2] at D
  have P := fun W (hW : Below w.heap.size w W) => place_any l x A c W hl (hA.on hW)
  generalize plc l x = i at *
  clear h h2
  go_enter Tryz.func138, Tryz.ntmps138
  go_wp2_with (first | (go_at_call 50; with_reducible refine (K _ (Below.refl _ _)).mono ?_; rintro e w1 ⟨A1, c1, rfl, hown, hb⟩) | (go_at_call 70; with_reducible refine (C _ hb).mono ?_; rintro e w2 ⟨rfl, hb2⟩) | (go_at_call 70; with_reducible refine (D _).mono ?_; rintro e w3 ⟨rfl, hb3⟩; have hb3' : Below w2.heap.size w2 w3 := (below_one w2 _).trans (hb3.mono (by simp)); have hB := (hb.trans (hb2.mono hb.size)).trans (hb3'.mono (Nat.le_trans hb.size hb2.size))) | (go_at_call 135; with_reducible refine (P _ hB).mono ?_; rintro e w4 ⟨rfl, hb4⟩))
  go_ret2
  exact ⟨A1, c1, rfl, ((hown.kept hb2).kept hb3').kept hb4, hB.trans (hb4.mono hB.size)⟩

set_option maxRecDepth 100000 in
set_option maxHeartbeats 2000000 in
theorem enter_yes (l : List Int) (x : Int) (A : Option Addr) (c : Nat) (w : World) (hl : l.length ≤ 100000) (hA : Lies w w.heap.size A (ints l)) (h : lineOk l = true) (h2 : lineOk [x] = true) (h3 : ¬ 0 ≤ plc l x) :
    Calls Tryz.prog 138 #[.slice A l.length c, .int .i64 x] w fun e w' => ∃ A' c', e = .returned (.tuple #[.slice A' (l ++ [x]).length c', .int .i64 0]) ∧ Mine w' w.heap.size 3 1 A' c' (l ++ [x]).length (ints (l ++ [x])) ∧ Below w.heap.size w w' := by
  obtain ⟨i0, hi, hz0, hz1, hz2⟩ := info_parts int_inf
  have K := fun W (hW : Below w.heap.size w W) => clone_ints (ints l) A l.length c W (by rw [ints_len, Nat.mul_one]) (one_ints l) (hA.on hW) (by omega)
  have C := fun W (hW : Below w.heap.size w W) => lineCheck_any l A c W hl (hA.on hW)
  rw [h] at C
  have D : ∀ W : World, Calls Tryz.prog 70 #[.slice (some ⟨W.heap.size, 0, none⟩) 1 1] (W.alloc (.cells #[.int .i64 x] 3)) fun e w' => e = .returned (.bool (lineOk [x])) ∧ Below (W.alloc (.cells #[.int .i64 x] 3)).heap.size (W.alloc (.cells #[.int .i64 x] 3)) w' := fun (W : World) => lineCheck_any [x] (some ⟨W.heap.size, 0, none⟩) 1 (W.alloc (.cells #[.int .i64 x] 3)) (by simp) (by rw [World.size_alloc]; exact ints1 W x _)
  rw [h2] at D
  have P := fun W (hW : Below w.heap.size w W) => place_any l x A c W hl (hA.on hW)
  generalize plc l x = i at *
  clear h h2
  go_enter Tryz.func138, Tryz.ntmps138
  go_wp2_with (first | (go_at_call 50; with_reducible refine (K _ (Below.refl _ _)).mono ?_; rintro e w1 ⟨A1, c1, rfl, hown, hb⟩) | (go_at_call 70; with_reducible refine (C _ hb).mono ?_; rintro e w2 ⟨rfl, hb2⟩) | (go_at_call 70; with_reducible refine (D _).mono ?_; rintro e w3 ⟨rfl, hb3⟩; have hb3' : Below w2.heap.size w2 w3 := (below_one w2 _).trans (hb3.mono (by simp)); have hB := (hb.trans (hb2.mono hb.size)).trans (hb3'.mono (Nat.le_trans hb.size hb2.size))) | (go_at_call 135; with_reducible refine (P _ hB).mono ?_; rintro e w4 ⟨rfl, hb4⟩; have hown4 := ((hown.kept hb2).kept hb3').kept hb4; have hB4 := hB.trans (hb4.mono hB.size); have hsz := hB4.size; clear hown hb hb2 hb3 hb3' hb4 hB K C D P) | (at_builtin; refine wpList_append_own _ rfl _ _ 30 rfl w.heap.size 3 i0 (.int .i64 0) 1 8 Tryz.underlying30 hi hz0 hz1 hz2 rfl (by decide) _ _ _ rfl (World.ownsRow.alloc hown4 _) ⟨w4.heap.size, 0, none⟩ 1 1 [.int .i64 x] rfl rfl (cell_one _ _ _) (by simp [Value.oneCell']) (by simp only [maxLen]; omega) (by omega) (by simp; omega) ?_; intro v' w5 hown' hgrow hnil))
  have hB2 : Below w.heap.size w w5 := (hB4.alloc hB4.size _).grown hgrow (by simp; have := hB4.size; omega) (by intro g hg; exact (World.ownsRow.lt hown4 g hg).1)
  have hown2 : w5.ownsRow w.heap.size 3 1 v' (l ++ [x]).length (ints (l ++ [x])) := by simpa using hown'
  obtain ⟨A2, c2, rfl⟩ : ∃ A2 c2, v' = .slice A2 (l ++ [x]).length c2 := by
    rcases hown2.2 with ⟨e1, e2⟩ | ⟨g, cap, cur, e1, _⟩
    · exact ⟨none, 0, by rw [e1, e2]⟩
    · exact ⟨_, cap, e1⟩
  go_ret2
  exact ⟨A2, c2, rfl, hown2, hB2⟩

theorem enter_any (l : List Int) (x : Int) (A : Option Addr) (c : Nat) (w : World) (hl : l.length ≤ 100000) (hA : Lies w w.heap.size A (ints l)) : Calls Tryz.prog 138 #[.slice A l.length c, .int .i64 x] w fun e w' => ∃ A' c', e = .returned (.tuple #[.slice A' ((entL l x).1).length c', .int .i64 (entL l x).2]) ∧ Mine w' w.heap.size 3 1 A' c' ((entL l x).1).length (ints ((entL l x).1)) ∧ Below w.heap.size w w' := by
  unfold entL
  split
  · exact enter_no1 l x A c w hl hA (by assumption)
  · rename_i h1
    split
    · exact enter_no2 l x A c w hl hA (by simpa using h1) (by assumption)
    · rename_i h2
      split
      · exact enter_no3 l x A c w hl hA (by simpa using h1) (by simpa using h2) (by assumption)
      · exact enter_yes l x A c w hl hA (by simpa using h1) (by simpa using h2) (by assumption)

end Go.Proofs.YtnbgpopjnpdmgaaGreat
