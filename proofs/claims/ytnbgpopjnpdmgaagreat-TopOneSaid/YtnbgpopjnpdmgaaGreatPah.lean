/-
  DERIVED. Lies.
-/
import Derived.Deep.LoopGhost
import Derived.WalkSmall
import Derived.Lib.SliceRun
import Derived.Lib.Walk
import Derived.Deep.AppendLies
import Derived.OwnWalk
import Derived.Test.YtnbgpopjnpdmgaaGreatPaf
set_option linter.unusedVariables false
set_option linter.unusedSimpArgs false

namespace Go.Proofs.YtnbgpopjnpdmgaaGreat
open Go Go.RowKit Go.Shelf

/-- A slice below block B whose cells are xs. -/
def Lies (w : World) (B : Nat) (A : Option Addr) (xs : List Value) : Prop :=
  (A = none ∧ xs = []) ∨ ∃ b off, A = some ⟨b, off, none⟩ ∧ b < B ∧ ∀ (i : Nat) (x : Value), xs[i]? = some x → w.cell? ⟨b, off + i, none⟩ = some x

theorem Lies.below {w w' : World} {B : Nat} {A : Option Addr} {xs : List Value} (h : Lies w B A xs) (hb : Below B w w') : Lies w' B A xs := by
  rcases h with h | ⟨b, off, e, hB, hc⟩
  · exact .inl h
  · exact .inr ⟨b, off, e, hB, fun i x hi => (hb.cell (p := ⟨b, off + i, none⟩) hB).trans (hc i x hi)⟩
theorem Lies.more {w : World} {B C : Nat} {A : Option Addr} {xs : List Value} (h : Lies w B A xs) (hBC : B ≤ C) : Lies w C A xs := by
  rcases h with h | ⟨b, off, e, hB, hc⟩
  · exact .inl h
  · exact .inr ⟨b, off, e, by omega, hc⟩
theorem Lies.on {w w' : World} {A : Option Addr} {xs : List Value} (h : Lies w w.heap.size A xs) (hb : Below w.heap.size w w') : Lies w' w'.heap.size A xs := (h.below hb).more hb.size
theorem lies_none (w : World) (B : Nat) : Lies w B none [] := .inl ⟨rfl, rfl⟩
/-- It lies in some block, if there is anything. -/
theorem Lies.open_ {w : World} {B : Nat} {A : Option Addr} {xs : List Value} (h : Lies w B A xs) (hx : 0 < xs.length) :
    ∃ b off, A = some ⟨b, off, none⟩ ∧ b < B ∧ ∀ (i : Nat) (x : Value), xs[i]? = some x → w.cell? ⟨b, off + i, none⟩ = some x := by
  rcases h with ⟨_, rfl⟩ | h
  · cases hx
  · exact h

/-- Cells of the call's own. -/
def Mine (w : World) (base : Nat) (e : TypeId) (k : Nat) (A : Option Addr) (c n : Nat) (xs : List Value) : Prop := w.ownsRow base e k (.slice A n c) n xs
theorem Mine.lies {w : World} {base : Nat} {e : TypeId} {k : Nat} {A : Option Addr} {c n : Nat} {xs : List Value} (h : Mine w base e k A c n xs) : Lies w w.heap.size A xs := by
  rcases h.2 with ⟨e1, e2⟩ | ⟨g, cap, cur, e1, hb, hg, hn, hm, hs, ht⟩
  · obtain ⟨rfl, rfl, rfl⟩ : A = none ∧ n = 0 ∧ c = 0 := by injection e1 with a b c; exact ⟨a, b, c⟩
    have := h.1
    exact .inl ⟨rfl, List.eq_nil_of_length_eq_zero (by simpa using this)⟩
  · obtain ⟨rfl, -, rfl⟩ : A = some ⟨g, 0, none⟩ ∧ n = n ∧ c = cap := by injection e1 with a b c; exact ⟨a, b, c⟩
    refine .inr ⟨g, 0, rfl, (Array.getElem?_eq_some_iff.1 hg).1, fun i x hi => ?_⟩
    have := h.cells (g := g) rfl i x hi
    rwa [Addr.add_lit] at this
theorem Mine.kept {w w' : World} {base : Nat} {e : TypeId} {k : Nat} {A : Option Addr} {c n : Nat} {xs : List Value} (h : Mine w base e k A c n xs) (hb : Below w.heap.size w w') : Mine w' base e k A c n xs := by
  refine ⟨h.1, ?_⟩
  rcases h.2 with hn | ⟨g, cap, cur, e1, hb2, hg, rest⟩
  · exact .inl hn
  · exact .inr ⟨g, cap, cur, e1, hb2, (hb.block g (Array.getElem?_eq_some_iff.1 hg).1).trans hg, rest⟩
theorem Mine.base {w : World} {base : Nat} {e : TypeId} {k : Nat} {A : Option Addr} {c n : Nat} {xs : List Value} (h : Mine w base e k A c n xs) : ∀ b off t, A = some ⟨b, off, t⟩ → base ≤ b ∧ b < w.heap.size := by
  intro b off t hA
  subst hA
  exact h.lt b rfl

/-- Records of k cells each, one behind the other. -/
theorem flat_len {α : Type} {f : α → List Value} {k : Nat} (hf : ∀ x, (f x).length = k) (l : List α) : (l.flatMap f).length = l.length * k := by
  induction l with
  | nil => simp
  | cons a l ih => simp only [List.flatMap_cons, List.length_append, List.length_cons, hf, ih, Nat.succ_mul]; omega
theorem flat_at {α : Type} {f : α → List Value} {k : Nat} (hf : ∀ x, (f x).length = k) : ∀ {l : List α} {i : Nat} {x : α}, l[i]? = some x → ∀ {j : Nat} {v : Value}, (f x)[j]? = some v → (l.flatMap f)[i * k + j]? = some v := by
  intro l
  induction l with
  | nil => intro i x h; simp at h
  | cons a l ih =>
    intro i x h j v hj
    have hk : j < k := by rw [← hf x]; exact (List.getElem?_eq_some_iff.1 hj).1
    cases i with
    | zero =>
      obtain rfl : a = x := by simpa using h
      rw [List.flatMap_cons, List.getElem?_append_left (by rw [hf]; omega), Nat.zero_mul, Nat.zero_add]
      exact hj
    | succ i =>
      rw [List.flatMap_cons, List.getElem?_append_right (by rw [hf, Nat.succ_mul]; omega), hf, show (i + 1) * k + j - k = i * k + j by rw [Nat.succ_mul]; omega]
      exact ih (by simpa using h) hj

abbrev ints (l : List Int) : List Value := l.flatMap fun x => [.int .i64 x]
theorem ints_map (l : List Int) : ints l = l.map (Value.int .i64) := by induction l with | nil => rfl | cons a l ih => simp only [ints, List.flatMap_cons, List.map_cons, List.singleton_append] at ih ⊢; rw [ih]
theorem ints_len (l : List Int) : (ints l).length = l.length := by simp [ints_map]
theorem ints_get {l : List Int} {i : Nat} {x : Int} (h : l[i]? = some x) : (ints l)[i]? = some (.int .i64 x) := by simp [ints_map, h]

/-- A place of a ring. -/
structure Pl where
  stamp : Int
  val : Int
  deriving DecidableEq
abbrev Pl.cells (s : Pl) : List Value := [.int .i64 s.stamp, .int .i64 s.val]
abbrev pls (l : List Pl) : List Value := l.flatMap Pl.cells
/-- What a thread did. -/
structure En where
  thread : Int
  kind : Int
  val : Int
  result : Int
  got : Int
  deriving DecidableEq
abbrev En.cells (s : En) : List Value := [.int .i64 s.thread, .int .i64 s.kind, .int .i64 s.val, .int .i64 s.result, .int .i64 s.got]
abbrev ens (l : List En) : List Value := l.flatMap En.cells
abbrev Th.list (t : Th) : List Value := [.int .i64 t.status, .int .i64 t.kind, .int .i64 t.val, .int .i64 t.until_, .int .i64 t.pc, .int .i64 t.reg, .int .i64 t.seen, .int .i64 t.tries, .bool t.late, .int .i64 t.result, .int .i64 t.got]
abbrev ths (l : List Th) : List Value := l.flatMap Th.list
/-- A thread, and until when it waits. -/
structure Du where
  at_ : Int
  id : Int
  deriving DecidableEq
abbrev Du.cells (s : Du) : List Value := [.int .i64 s.at_, .int .i64 s.id]
abbrev dus (l : List Du) : List Value := l.flatMap Du.cells

theorem one_flat {α : Type} {f : α → List Value} (hf : ∀ x, ∀ v ∈ f x, v.oneCell' = true) (l : List α) : ∀ v ∈ l.flatMap f, v.oneCell' = true := by
  intro v hv
  obtain ⟨x, _, hx⟩ := List.mem_flatMap.1 hv
  exact hf x v hx
theorem one_ints (l : List Int) : ∀ v ∈ ints l, v.oneCell' = true := one_flat (fun x v h => by simp at h; subst h; rfl) l
theorem one_pls (l : List Pl) : ∀ v ∈ pls l, v.oneCell' = true := one_flat (fun x v h => by simp at h; rcases h with rfl | rfl <;> rfl) l
theorem one_dus (l : List Du) : ∀ v ∈ dus l, v.oneCell' = true := one_flat (fun x v h => by simp at h; rcases h with rfl | rfl <;> rfl) l
theorem one_ens (l : List En) : ∀ v ∈ ens l, v.oneCell' = true := one_flat (fun x v h => by simp at h; rcases h with rfl | rfl | rfl | rfl | rfl <;> rfl) l
theorem one_ths (l : List Th) : ∀ v ∈ ths l, v.oneCell' = true := one_flat (fun x v h => by simp at h; rcases h with rfl | rfl | rfl | rfl | rfl | rfl | rfl | rfl | rfl | rfl | rfl <;> rfl) l

theorem eql_nil (t : TypeId) (e : TypeId) (h : Tryz.prog.underlying t = some (.slice e)) (w : World) (a : Option Addr) (n c n' c' : Nat) : (binOp .eql t (.slice a n c) (.slice none n' c')).run Tryz.prog w = .ok (.bool a.isNone) w := Lib.run_eql_slice_nil w _ _ a n c n' c' h

/-! ### Clones -/

set_option maxRecDepth 100000 in
set_option maxHeartbeats 2000000 in
theorem clone_slots (xs : List Value) (A : Option Addr) (n c : Nat) (w : World) (hl : xs.length = n * 2) (h1 : ∀ v ∈ xs, v.oneCell' = true) (hA : Lies w w.heap.size A xs) (hn : n ≤ 1000000) :
    Calls Tryz.prog 49 #[.slice A n c] w fun e w' => ∃ A' c', e = .returned (.slice A' n c') ∧ Mine w' w.heap.size 65 2 A' c' n xs ∧ Below w.heap.size w w' := by
  rcases hA with ⟨rfl, rfl⟩ | ⟨b, off, rfl, hb, hc⟩
  · obtain rfl : n = 0 := by simp at hl; omega
    go_enter Tryz.func49, Tryz.ntmps49
    have q := eql_nil 29 65 (by kernel_rfl)
    go_wp2
    go_ret
    exact ⟨none, 0, rfl, World.ownsRow_nil _ _ _ _, Below.refl _ _⟩
  · go_enter Tryz.func49, Tryz.ntmps49
    have q := eql_nil 29 65 (by kernel_rfl)
    have A : Aside (∀ (i : Nat) (x : Value), xs[i]? = some x → w.cell? ⟨b, off + i, none⟩ = some x) := hc
    clear hc
    have hq : (Tryz.prog.info? 65).map (fun i => (i.zero, i.size, i.bytes)) = some (some (.agg #[.int .i64 0, .int .i64 0]), 2, 16) := by kernel_rfl
    obtain ⟨i0, hi, hz⟩ := Option.map_eq_some_iff.1 hq
    obtain ⟨hz0, hz1, hz2⟩ : i0.zero = some _ ∧ i0.size = _ ∧ i0.bytes = _ := by injection hz with a b; injection b with b c; exact ⟨a, b, c⟩
    clear hq hz
    go_wp2_with (at_builtin; refine wpList_append_own _ rfl _ _ 29 rfl w.heap.size 65 i0 (.agg #[.int .i64 0, .int .i64 0]) 2 16 (by kernel_rfl) hi hz0 hz1 hz2 rfl (by decide) _ _ _ rfl (World.ownsRow_made w #[] 0 (Nat.le_refl _) (Nat.zero_le _) (by simp)) ⟨b, off, none⟩ n c xs rfl ?qc1 ?qc2 ?qc3 ?qc4 ?qc5 ?qc6 ?_)
    case qc1 => exact hl
    case qc2 =>
      intro j u hj
      rw [Addr.add_lit]
      exact Lib.cell?_alloc_some _ (A.out j u hj)
    case qc3 => exact h1
    case qc4 => rw [Nat.zero_add]; exact Nat.le_trans hn (by decide)
    case qc5 => rw [Nat.zero_add]; omega
    case qc6 => simp
    intro v' w1 hown hgrow hnil
    go_wp2
    go_ret
    have hB : Below w.heap.size w w1 := ((Below.refl _ w).alloc (Nat.le_refl _) _).grown hgrow (by simp) (by intro k hk; simp [Value.ownBlock] at hk; omega)
    have hown' : w1.ownsRow w.heap.size 65 2 v' n xs := by simpa using hown
    rcases hown'.2 with ⟨e1, _⟩ | ⟨g, cap, cur, e1, _⟩
    · exact absurd e1 hnil
    · subst e1
      exact ⟨_, cap, rfl, hown', hB⟩

set_option maxRecDepth 100000 in
set_option maxHeartbeats 2000000 in
theorem clone_ints (xs : List Value) (A : Option Addr) (n c : Nat) (w : World) (hl : xs.length = n * 1) (h1 : ∀ v ∈ xs, v.oneCell' = true) (hA : Lies w w.heap.size A xs) (hn : n ≤ 1000000) :
    Calls Tryz.prog 50 #[.slice A n c] w fun e w' => ∃ A' c', e = .returned (.slice A' n c') ∧ Mine w' w.heap.size 3 1 A' c' n xs ∧ Below w.heap.size w w' := by
  rcases hA with ⟨rfl, rfl⟩ | ⟨b, off, rfl, hb, hc⟩
  · obtain rfl : n = 0 := by simp at hl; omega
    go_enter Tryz.func50, Tryz.ntmps50
    have q := eql_nil 30 3 (by kernel_rfl)
    go_wp2
    go_ret
    exact ⟨none, 0, rfl, World.ownsRow_nil _ _ _ _, Below.refl _ _⟩
  · go_enter Tryz.func50, Tryz.ntmps50
    have q := eql_nil 30 3 (by kernel_rfl)
    have A : Aside (∀ (i : Nat) (x : Value), xs[i]? = some x → w.cell? ⟨b, off + i, none⟩ = some x) := hc
    clear hc
    have hq : (Tryz.prog.info? 3).map (fun i => (i.zero, i.size, i.bytes)) = some (some (.int .i64 0), 1, 8) := by kernel_rfl
    obtain ⟨i0, hi, hz⟩ := Option.map_eq_some_iff.1 hq
    obtain ⟨hz0, hz1, hz2⟩ : i0.zero = some _ ∧ i0.size = _ ∧ i0.bytes = _ := by injection hz with a b; injection b with b c; exact ⟨a, b, c⟩
    clear hq hz
    go_wp2_with (at_builtin; refine wpList_append_own _ rfl _ _ 30 rfl w.heap.size 3 i0 (.int .i64 0) 1 8 (by kernel_rfl) hi hz0 hz1 hz2 rfl (by decide) _ _ _ rfl (World.ownsRow_made w #[] 0 (Nat.le_refl _) (Nat.zero_le _) (by simp)) ⟨b, off, none⟩ n c xs rfl ?qc1 ?qc2 ?qc3 ?qc4 ?qc5 ?qc6 ?_)
    case qc1 => exact hl
    case qc2 =>
      intro j u hj
      rw [Addr.add_lit]
      exact Lib.cell?_alloc_some _ (A.out j u hj)
    case qc3 => exact h1
    case qc4 => rw [Nat.zero_add]; exact Nat.le_trans hn (by decide)
    case qc5 => rw [Nat.zero_add]; omega
    case qc6 => simp
    intro v' w1 hown hgrow hnil
    go_wp2
    go_ret
    have hB : Below w.heap.size w w1 := ((Below.refl _ w).alloc (Nat.le_refl _) _).grown hgrow (by simp) (by intro k hk; simp [Value.ownBlock] at hk; omega)
    have hown' : w1.ownsRow w.heap.size 3 1 v' n xs := by simpa using hown
    rcases hown'.2 with ⟨e1, _⟩ | ⟨g, cap, cur, e1, _⟩
    · exact absurd e1 hnil
    · subst e1
      exact ⟨_, cap, rfl, hown', hB⟩

set_option maxRecDepth 100000 in
set_option maxHeartbeats 2000000 in
theorem clone_ths (xs : List Value) (A : Option Addr) (n c : Nat) (w : World) (hl : xs.length = n * 11) (h1 : ∀ v ∈ xs, v.oneCell' = true) (hA : Lies w w.heap.size A xs) (hn : n ≤ 1000000) :
    Calls Tryz.prog 51 #[.slice A n c] w fun e w' => ∃ A' c', e = .returned (.slice A' n c') ∧ Mine w' w.heap.size 51 11 A' c' n xs ∧ Below w.heap.size w w' := by
  rcases hA with ⟨rfl, rfl⟩ | ⟨b, off, rfl, hb, hc⟩
  · obtain rfl : n = 0 := by simp at hl; omega
    go_enter Tryz.func51, Tryz.ntmps51
    have q := eql_nil 33 51 (by kernel_rfl)
    go_wp2
    go_ret
    exact ⟨none, 0, rfl, World.ownsRow_nil _ _ _ _, Below.refl _ _⟩
  · go_enter Tryz.func51, Tryz.ntmps51
    have q := eql_nil 33 51 (by kernel_rfl)
    have A : Aside (∀ (i : Nat) (x : Value), xs[i]? = some x → w.cell? ⟨b, off + i, none⟩ = some x) := hc
    clear hc
    have hq : (Tryz.prog.info? 51).map (fun i => (i.zero, i.size, i.bytes)) = some (some (.agg #[.int .i64 0, .int .i64 0, .int .i64 0, .int .i64 0, .int .i64 0, .int .i64 0, .int .i64 0, .int .i64 0, .bool false, .int .i64 0, .int .i64 0]), 11, 88) := by kernel_rfl
    obtain ⟨i0, hi, hz⟩ := Option.map_eq_some_iff.1 hq
    obtain ⟨hz0, hz1, hz2⟩ : i0.zero = some _ ∧ i0.size = _ ∧ i0.bytes = _ := by injection hz with a b; injection b with b c; exact ⟨a, b, c⟩
    clear hq hz
    go_wp2_with (at_builtin; refine wpList_append_own _ rfl _ _ 33 rfl w.heap.size 51 i0 (.agg #[.int .i64 0, .int .i64 0, .int .i64 0, .int .i64 0, .int .i64 0, .int .i64 0, .int .i64 0, .int .i64 0, .bool false, .int .i64 0, .int .i64 0]) 11 88 (by kernel_rfl) hi hz0 hz1 hz2 rfl (by decide) _ _ _ rfl (World.ownsRow_made w #[] 0 (Nat.le_refl _) (Nat.zero_le _) (by simp)) ⟨b, off, none⟩ n c xs rfl ?qc1 ?qc2 ?qc3 ?qc4 ?qc5 ?qc6 ?_)
    case qc1 => exact hl
    case qc2 =>
      intro j u hj
      rw [Addr.add_lit]
      exact Lib.cell?_alloc_some _ (A.out j u hj)
    case qc3 => exact h1
    case qc4 => rw [Nat.zero_add]; exact Nat.le_trans hn (by decide)
    case qc5 => rw [Nat.zero_add]; omega
    case qc6 => simp
    intro v' w1 hown hgrow hnil
    go_wp2
    go_ret
    have hB : Below w.heap.size w w1 := ((Below.refl _ w).alloc (Nat.le_refl _) _).grown hgrow (by simp) (by intro k hk; simp [Value.ownBlock] at hk; omega)
    have hown' : w1.ownsRow w.heap.size 51 11 v' n xs := by simpa using hown
    rcases hown'.2 with ⟨e1, _⟩ | ⟨g, cap, cur, e1, _⟩
    · exact absurd e1 hnil
    · subst e1
      exact ⟨_, cap, rfl, hown', hB⟩

set_option maxRecDepth 100000 in
set_option maxHeartbeats 2000000 in
theorem clone_ens (xs : List Value) (A : Option Addr) (n c : Nat) (w : World) (hl : xs.length = n * 5) (h1 : ∀ v ∈ xs, v.oneCell' = true) (hA : Lies w w.heap.size A xs) (hn : n ≤ 1000000) :
    Calls Tryz.prog 52 #[.slice A n c] w fun e w' => ∃ A' c', e = .returned (.slice A' n c') ∧ Mine w' w.heap.size 96 5 A' c' n xs ∧ Below w.heap.size w w' := by
  rcases hA with ⟨rfl, rfl⟩ | ⟨b, off, rfl, hb, hc⟩
  · obtain rfl : n = 0 := by simp at hl; omega
    go_enter Tryz.func52, Tryz.ntmps52
    have q := eql_nil 34 96 (by kernel_rfl)
    go_wp2
    go_ret
    exact ⟨none, 0, rfl, World.ownsRow_nil _ _ _ _, Below.refl _ _⟩
  · go_enter Tryz.func52, Tryz.ntmps52
    have q := eql_nil 34 96 (by kernel_rfl)
    have A : Aside (∀ (i : Nat) (x : Value), xs[i]? = some x → w.cell? ⟨b, off + i, none⟩ = some x) := hc
    clear hc
    have hq : (Tryz.prog.info? 96).map (fun i => (i.zero, i.size, i.bytes)) = some (some (.agg #[.int .i64 0, .int .i64 0, .int .i64 0, .int .i64 0, .int .i64 0]), 5, 40) := by kernel_rfl
    obtain ⟨i0, hi, hz⟩ := Option.map_eq_some_iff.1 hq
    obtain ⟨hz0, hz1, hz2⟩ : i0.zero = some _ ∧ i0.size = _ ∧ i0.bytes = _ := by injection hz with a b; injection b with b c; exact ⟨a, b, c⟩
    clear hq hz
    go_wp2_with (at_builtin; refine wpList_append_own _ rfl _ _ 34 rfl w.heap.size 96 i0 (.agg #[.int .i64 0, .int .i64 0, .int .i64 0, .int .i64 0, .int .i64 0]) 5 40 (by kernel_rfl) hi hz0 hz1 hz2 rfl (by decide) _ _ _ rfl (World.ownsRow_made w #[] 0 (Nat.le_refl _) (Nat.zero_le _) (by simp)) ⟨b, off, none⟩ n c xs rfl ?qc1 ?qc2 ?qc3 ?qc4 ?qc5 ?qc6 ?_)
    case qc1 => exact hl
    case qc2 =>
      intro j u hj
      rw [Addr.add_lit]
      exact Lib.cell?_alloc_some _ (A.out j u hj)
    case qc3 => exact h1
    case qc4 => rw [Nat.zero_add]; exact Nat.le_trans hn (by decide)
    case qc5 => rw [Nat.zero_add]; omega
    case qc6 => simp
    intro v' w1 hown hgrow hnil
    go_wp2
    go_ret
    have hB : Below w.heap.size w w1 := ((Below.refl _ w).alloc (Nat.le_refl _) _).grown hgrow (by simp) (by intro k hk; simp [Value.ownBlock] at hk; omega)
    have hown' : w1.ownsRow w.heap.size 96 5 v' n xs := by simpa using hown
    rcases hown'.2 with ⟨e1, _⟩ | ⟨g, cap, cur, e1, _⟩
    · exact absurd e1 hnil
    · subst e1
      exact ⟨_, cap, rfl, hown', hB⟩

set_option maxRecDepth 100000 in
set_option maxHeartbeats 2000000 in
theorem clone_dus (xs : List Value) (A : Option Addr) (n c : Nat) (w : World) (hl : xs.length = n * 2) (h1 : ∀ v ∈ xs, v.oneCell' = true) (hA : Lies w w.heap.size A xs) (hn : n ≤ 1000000) :
    Calls Tryz.prog 98 #[.slice A n c] w fun e w' => ∃ A' c', e = .returned (.slice A' n c') ∧ Mine w' w.heap.size 141 2 A' c' n xs ∧ Below w.heap.size w w' := by
  rcases hA with ⟨rfl, rfl⟩ | ⟨b, off, rfl, hb, hc⟩
  · obtain rfl : n = 0 := by simp at hl; omega
    go_enter Tryz.func98, Tryz.ntmps98
    have q := eql_nil 127 141 (by kernel_rfl)
    go_wp2
    go_ret
    exact ⟨none, 0, rfl, World.ownsRow_nil _ _ _ _, Below.refl _ _⟩
  · go_enter Tryz.func98, Tryz.ntmps98
    have q := eql_nil 127 141 (by kernel_rfl)
    have A : Aside (∀ (i : Nat) (x : Value), xs[i]? = some x → w.cell? ⟨b, off + i, none⟩ = some x) := hc
    clear hc
    have hq : (Tryz.prog.info? 141).map (fun i => (i.zero, i.size, i.bytes)) = some (some (.agg #[.int .i64 0, .int .i64 0]), 2, 16) := by kernel_rfl
    obtain ⟨i0, hi, hz⟩ := Option.map_eq_some_iff.1 hq
    obtain ⟨hz0, hz1, hz2⟩ : i0.zero = some _ ∧ i0.size = _ ∧ i0.bytes = _ := by injection hz with a b; injection b with b c; exact ⟨a, b, c⟩
    clear hq hz
    go_wp2_with (at_builtin; refine wpList_append_own _ rfl _ _ 127 rfl w.heap.size 141 i0 (.agg #[.int .i64 0, .int .i64 0]) 2 16 (by kernel_rfl) hi hz0 hz1 hz2 rfl (by decide) _ _ _ rfl (World.ownsRow_made w #[] 0 (Nat.le_refl _) (Nat.zero_le _) (by simp)) ⟨b, off, none⟩ n c xs rfl ?qc1 ?qc2 ?qc3 ?qc4 ?qc5 ?qc6 ?_)
    case qc1 => exact hl
    case qc2 =>
      intro j u hj
      rw [Addr.add_lit]
      exact Lib.cell?_alloc_some _ (A.out j u hj)
    case qc3 => exact h1
    case qc4 => rw [Nat.zero_add]; exact Nat.le_trans hn (by decide)
    case qc5 => rw [Nat.zero_add]; omega
    case qc6 => simp
    intro v' w1 hown hgrow hnil
    go_wp2
    go_ret
    have hB : Below w.heap.size w w1 := ((Below.refl _ w).alloc (Nat.le_refl _) _).grown hgrow (by simp) (by intro k hk; simp [Value.ownBlock] at hk; omega)
    have hown' : w1.ownsRow w.heap.size 141 2 v' n xs := by simpa using hown
    rcases hown'.2 with ⟨e1, _⟩ | ⟨g, cap, cur, e1, _⟩
    · exact absurd e1 hnil
    · subst e1
      exact ⟨_, cap, rfl, hown', hB⟩

end Go.Proofs.YtnbgpopjnpdmgaaGreat
