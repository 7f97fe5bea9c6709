/-
  DERIVED. conf.Check, at every configuration: ErrConfig, if one of its numbers is beyond its bounds; else OK. What lay before lies as it lay.
-/
import Derived.Test.YtjgdoogfoaaejaaBounds
namespace Go.Proofs.Ytjgdoogfoaaejaa
open Go Go.RowKit Go.Shelf
attribute [local go_sem] Oper.semAt_some

/-- A number within its bounds. -/
def within (x : Int × Int × Int) : Bool := decide (x.2.1 ≤ x.1) && decide (x.1 ≤ x.2.2)
/-- It may be. -/
def Cfg.ok (c : Cfg) : Bool := c.spans.all within
/-- Check's answer. -/
def Cfg.chk (c : Cfg) : Int := if c.ok then 0 else 20

theorem Cfg.ok_iff (c : Cfg) : c.ok = true ↔ (1 ≤ c.log ∧ c.log ≤ 6) ∧ (1 ≤ c.th ∧ c.th ≤ 16) ∧ (0 ≤ c.pol ∧ c.pol ≤ 2) ∧ (0 ≤ c.wt ∧ c.wt ≤ 3) ∧ (0 ≤ c.sp ∧ c.sp ≤ c.most) ∧ (0 ≤ c.yi ∧ c.yi ≤ c.most) := by
  simp [Cfg.ok, Cfg.spans, within]

theorem of_block {W : World} {B : Nat} {cs : Array Value} {t : TypeId} (h : W.heap[B]? = some (.cells cs t (0, 0))) (i : Nat) : W.cell? ⟨B, i, none⟩ = cs[i]? ∧ W.frozen? ⟨B, i, none⟩ = false := by
  constructor <;> simp [World.cell?, World.frozen?, h]
theorem new_cell (W : World) (v : Value) (t : TypeId) : (W.alloc (.cells #[v] t)).cell? ⟨W.heap.size, 0, none⟩ = some v ∧ (W.alloc (.cells #[v] t)).frozen? ⟨W.heap.size, 0, none⟩ = false :=
  of_block (World.alloc_heap_new W _) 0
theorem Above.alloc (B : Nat) (W : World) (o : Obj) : Above B W (W.alloc o) := ⟨by simp, fun i _ hl => Below.heap_alloc W o i hl⟩
theorem Above.setCell {B : Nat} (W : World) {p : Addr} (v : Value) (hp : p.block < B) : Above B W (W.setCell p v) :=
  ⟨(KeepsWalks.setCell W p v).size, fun i hi _ => Below.heap_setCell W p v i (by omega)⟩

/-- Between two rounds: all that came were within their bounds. -/
def CI (w : World) (pre : List (Int × Int × Int)) (W : World) : Prop :=
  ((∀ x ∈ pre, within x = true) ∧ W.cell? ⟨w.heap.size + 1, 0, none⟩ = some (.int .i64 0) ∧ W.frozen? ⟨w.heap.size + 1, 0, none⟩ = false) ∧ Below w.heap.size w W
/-- A round has left: one was not. -/
def CX (w : World) (pre : List (Int × Int × Int)) (W : World) : Prop :=
  ((∃ x ∈ pre, within x = false) ∧ W.cell? ⟨w.heap.size + 1, 0, none⟩ = some (.int .i64 20)) ∧ Below w.heap.size w W

set_option maxRecDepth 100000 in
set_option maxHeartbeats 2000000 in
theorem check_any (c : Cfg) (w : World) : Calls Try.prog 20 #[c.val] w fun e w' => e = .returned (.int .i64 c.chk) ∧ Below w.heap.size w w' := by
  obtain ⟨log, th, pol, wt, sp, yi, single⟩ := c
  refine (callsIn_wide (n := 3)).1 ?_
  refine callsIn_of_wp_marks Try.func20 rfl trivial ?_ rfl
  simp only [Try.ntmps20, List.size_toArray, List.length_cons, List.length_nil, Nat.reduceAdd, Nat.reduceSub, Array.replicate_succ, Array.replicate_zero, List.push_toArray, List.append_toArray, List.nil_append, List.cons_append]
  gi_wp2
  let W0 := (w.alloc (.cells (Cfg.cells ⟨log, th, pol, wt, sp, yi, single⟩) 23)).alloc (.cells #[.int .i64 0] 39)
  have hs0 : W0.heap.size = w.heap.size + 2 := by simp [W0]
  have hB0 : Below w.heap.size w W0 := ((Below.refl _ w).alloc (Nat.le_refl _) _).alloc (by simp) _
  have hc0 : W0.cell? ⟨w.heap.size + 1, 0, none⟩ = some (.int .i64 0) := by
    have h := (new_cell (w.alloc (.cells (Cfg.cells ⟨log, th, pol, wt, sp, yi, single⟩) 23)) (.int .i64 0) 39).1
    rwa [World.size_alloc] at h
  have hf0 : W0.frozen? ⟨w.heap.size + 1, 0, none⟩ = false := by
    have h := (new_cell (w.alloc (.cells (Cfg.cells ⟨log, th, pol, wt, sp, yi, single⟩) 23)) (.int .i64 0) 39).2
    rwa [World.size_alloc] at h
  let mk : Nat → Int × Int × Int → Act := fun g x =>
    { tmps := #[Cfg.val ⟨log, th, pol, wt, sp, yi, single⟩, .pointer (some ⟨w.heap.size, 0, none⟩), .pointer (some ⟨w.heap.size + 1, 0, none⟩),
        .func (.func 26) #[Cfg.val ⟨log, th, pol, wt, sp, yi, single⟩] #[], .int .i64 x.1, .pointer (some ⟨g, 0, none⟩), Cfg.val ⟨log, th, pol, wt, sp, yi, single⟩,
        .func (.func 26) #[Cfg.val ⟨log, th, pol, wt, sp, yi, single⟩] #[], .func (.func 26) #[Cfg.val ⟨log, th, pol, wt, sp, yi, single⟩] #[],
        .int .i64 x.1, .agg #[.int .i64 x.2.1, .int .i64 x.2.2], undef, undef, undef, undef, undef, undef, undef, undef, undef, undef], defers := [] }
  refine wpIn_range_hands (gf := 26) (fst := #[Cfg.val ⟨log, th, pol, wt, sp, yi, single⟩]) (encs := spanEnc) (xs := Cfg.spans ⟨log, th, pol, wt, sp, yi, single⟩) rfl (by omega) rfl trivial (enters_of Try.func26 (by kernel_rfl) rfl)
    (bounds_hands Fence.wide _ trivial trivial rfl (by omega) _) (fun _ => rfl)
    (CI w) (CX w)
    (fun p W => (((∀ x ∈ p.1, within x = true) ∧ W.cell? ⟨w.heap.size + 1, 0, none⟩ = some (.int .i64 0) ∧ W.frozen? ⟨w.heap.size + 1, 0, none⟩ = false) ∧
      ∃ g, w.heap.size + 1 < g ∧ W.cell? ⟨g, 0, none⟩ = some (.int .i64 p.2.1.2.1) ∧ W.cell? ⟨g, 1, none⟩ = some (.int .i64 p.2.1.2.2) ∧ p.2.2 = mk g p.2.1) ∧ Below w.heap.size w W)
    ?hI ?hIx ?hA ?h0 ?assign ?body ?done ?stop
  case hI => exact OwnFrom.and (Own.from (fun s A B row hs hg hr => ⟨hs.1, cell_kept hs.2.1 hg hr, (frozen_kept hs.2.1 hg hr).trans hs.2.2⟩) _) (ownFrom_below (Nat.le_refl _) (by simp; omega))
  case hIx => exact OwnFrom.and (Own.from (fun s A B row hs hg hr => ⟨hs.1, cell_kept hs.2 hg hr⟩) _) (ownFrom_below (Nat.le_refl _) (by simp; omega))
  case hA =>
    refine OwnFrom.and (Own.from (fun s A B row hs hg hr => ?_) _) (ownFrom_below (Nat.le_refl _) (by simp; omega))
    obtain ⟨⟨h1, h2, h3⟩, g, hg1, hg2, hg3, hg4⟩ := hs
    exact ⟨⟨h1, cell_kept h2 hg hr, (frozen_kept h2 hg hr).trans h3⟩, g, hg1, cell_kept hg2 hg hr, cell_kept hg3 hg hr, hg4⟩
  case h0 => exact ⟨⟨(fun x hx => by cases hx), hc0, hf0⟩, hB0⟩
  case assign =>
    rintro l pre ⟨n, lo, hi⟩ W ⟨⟨h1, h2, h3⟩, hB⟩ hp hsz
    change W0.heap.size + 2 ≤ W.heap.size at hsz
    have hlt : w.heap.size + 1 < W.heap.size := by omega
    gi_wp2
    have hn := World.alloc_heap_new W (.cells #[.int .i64 lo, .int .i64 hi] 52)
    exact ⟨KeepsOthers.alloc _ _, Above.alloc _ _ _, ⟨⟨h1, by rw [World.cell?_alloc_lt W _ _ hlt]; exact h2, (frozen_kept h2 (World.grownBy_alloc W _ none) (fun r e => by cases e)).trans h3⟩, W.heap.size, hlt, (of_block hn 0).1, (of_block hn 1).1, rfl⟩, hB.alloc (by omega) _⟩
  case body =>
    rintro l pre ⟨n, lo, hi⟩ b W ⟨⟨⟨h1, h2, h3⟩, g, hg1, hg2, hg3, hb⟩, hB⟩ hp
    dsimp only at h1 hg2 hg3 hb
    subst hb
    simp only [mk]
    have go_on : within (n, lo, hi) = true → ∀ x ∈ pre ++ [(n, lo, hi)], within x = true := fun hw x hx => (List.mem_append.1 hx).elim (h1 x) (fun e => by simp at e; subst e; exact hw)
    have stop : within (n, lo, hi) = false → ∃ x ∈ pre ++ [(n, lo, hi)], within x = false := fun hw => ⟨_, List.mem_append.2 (.inr (by simp)), hw⟩
    have left : within (n, lo, hi) = false → KeepsOthers W (W.setCell ⟨w.heap.size + 1, 0, none⟩ (.int .i64 20)) ∧ Above (W0.heap.size + 2) W (W.setCell ⟨w.heap.size + 1, 0, none⟩ (.int .i64 20)) ∧
        CX w (pre ++ [(n, lo, hi)]) (W.setCell ⟨w.heap.size + 1, 0, none⟩ (.int .i64 20)) := fun hw =>
      ⟨KeepsOthers.setCell _ _ _, Above.setCell _ _ (by simp; omega), ⟨stop hw, World.cell?_setCell_same' _ _ _ (by rw [h2]; rfl)⟩, hB.setCell (p := ⟨w.heap.size + 1, 0, none⟩) (by simp) _⟩
    have hfin : within (n, lo, hi) = true → KeepsOthers W W ∧ Above (W0.heap.size + 2) W W ∧ CI w (pre ++ [(n, lo, hi)]) W :=
      fun hw => ⟨KeepsOthers.refl _, Above.refl _ _, ⟨go_on hw, h2, h3⟩, hB⟩
    clear hB0 hc0 hf0 go_on stop
    by_cases ha : n < lo
    · have L := left (by simp [within]; omega)
      clear left hfin
      gi_wp2
      exact L
    · by_cases hc : hi < n
      · have L := left (by simp [within]; omega)
        rw [hs0] at L
        clear left hfin hs0
        gi_wp2
        exact L
      · have L := hfin (by simp [within]; omega)
        rw [hs0] at L
        clear left hfin hs0
        gi_wp2
        exact L
  case done =>
    rintro D W hD ⟨⟨hall, hc, hf⟩, hB⟩ hK
    have hv : Cfg.chk ⟨log, th, pol, wt, sp, yi, single⟩ = 0 := by
      have : Cfg.ok ⟨log, th, pol, wt, sp, yi, single⟩ = true := List.all_eq_true.2 hall
      simp [Cfg.chk, this]
    clear hB0 hc0 hf0 hs0
    gi_wp2
    have hK' := (KeepsOthers.setCell W ⟨w.heap.size + 1, 0, none⟩ (.int .i64 0)).same D _ hK rfl
    refine ⟨by simp, .inl ⟨_, _, rfl, run_takeDeferred hK', ?_⟩⟩
    have hc5 := cell_kept (World.cell?_setCell_same' W ⟨w.heap.size + 1, 0, none⟩ (.int .i64 0) (by rw [hc]; rfl)) (grownBy_putObj' _ D (.deferred none)) (fun r e => by cases e; exact ⟨_, hK', rfl⟩)
    refine ⟨.int .i64 0, ?_, by rw [hv], (hB.setCell (p := ⟨w.heap.size + 1, 0, none⟩) (by simp) _).trans (belowK_b (w := w) (Nat.le_refl _) _ D _ _ (by simp at hD; omega) hK' rfl rfl)⟩
    simp [results, Try.f20, go_sem, hc5]
  case stop =>
    rintro D pre W hD hpre ⟨⟨⟨x, hx, hw⟩, hc⟩, hB⟩ hK
    have hv : Cfg.chk ⟨log, th, pol, wt, sp, yi, single⟩ = 20 := by
      have : Cfg.ok ⟨log, th, pol, wt, sp, yi, single⟩ = false := by
        rw [Cfg.ok, List.all_eq_false]
        exact ⟨x, hpre.subset hx, by simp [hw]⟩
      simp [Cfg.chk, this]
    clear hB0 hc0 hf0 hs0
    gi_wp2
    refine ⟨by simp, .inl ⟨_, _, rfl, run_takeDeferred hK, ?_⟩⟩
    have hc5 := cell_kept hc (grownBy_putObj' _ D (.deferred none)) (fun r e => by cases e; exact ⟨_, hK, rfl⟩)
    refine ⟨.int .i64 20, ?_, by rw [hv], hB.trans (belowK_b (w := w) (Nat.le_refl _) W D _ _ (by simp at hD; omega) hK rfl rfl)⟩
    simp [results, Try.f20, go_sem, hc5]

end Go.Proofs.Ytjgdoogfoaaejaa
