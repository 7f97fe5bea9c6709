/-
  DERIVED. Range.
-/
import Derived.RangeFuncFrom
import Derived.RangeFuncCalls
import Derived.RangeFuncLeaves
set_option linter.unusedVariables false
set_option linter.unusedSimpArgs false

namespace Go.Proofs.YtnbgpopjnpdmgaaGreat
open Go Go.RowKit

section
variable {F : Fence} {n : Nat} {P : Program} {α : Type}

/-- What lay at B and beyond lies as it lay. -/
structure Above (B : Nat) (W W' : World) : Prop where
  size : W.heap.size ≤ W'.heap.size
  same : ∀ i, B ≤ i → i < W.heap.size → W'.heap[i]? = W.heap[i]?

theorem Above.refl (B : Nat) (W : World) : Above B W W := ⟨Nat.le_refl _, fun _ _ _ => rfl⟩
theorem Above.trans {B : Nat} {W V U : World} (h : Above B W V) (k : Above B V U) : Above B W U :=
  ⟨Nat.le_trans h.size k.size, fun i hi hl => (k.same i hi (Nat.lt_of_lt_of_le hl h.size)).trans (h.same i hi hl)⟩
theorem Above.putObj {B l : Nat} (W : World) (o : Obj) (h : l < B) : Above B W (W.putObj l o) :=
  ⟨by simp, fun i hi _ => World.putObj_heap_other (by omega)⟩
theorem Above.cell {B : Nat} {W W' : World} {p : Addr} {v : Value} (h : Above B W W') (hp : B ≤ p.block) (hc : W.cell? p = some v) : W'.cell? p = some v := by
  obtain ⟨o, ho, _⟩ := cells_of_cell hc
  exact (World.cell?_of_block (h.same p.block hp (Array.getElem?_eq_some_iff.1 ho).1)).trans hc

/-- What such a function does at the yield of whatever loop: it hands over xs, one by one, till a round says 'no more'. A round that goes on keeps what was laid since the call began. -/
def Hands (F : Fence) (n : Nat) (P : Program) (g : Nat) (fst : Array Value) (encs : α → Array Value) (xs : List α) : Prop :=
  ∀ (l : Nat) (J Jx : List α → World → Prop) (W : World), AbidesFrom W.heap.size J → AbidesFrom W.heap.size Jx →
    (∀ pre x W1, J pre W1 → pre ++ [x] <+: xs → YieldAt F (n - 1) P l (encs x) W1 fun e W' =>
      Above W.heap.size W1 W' ∧ ((e = .returned (.bool true) ∧ J (pre ++ [x]) W') ∨ (e = .returned (.bool false) ∧ Jx (pre ++ [x]) W'))) →
    J [] W →
    CallsIn F n P g (fst ++ #[.func (.yield l) #[] #[]]) W fun e W' => (∃ v, e = .returned v) ∧ (J xs W' ∨ ∃ pre, pre <+: xs ∧ Jx pre W')

/-- How a round's body may be left: it goes on, or it returns from the function. -/
def RoundLeft (B : Nat) (I : List α → World → Prop) (Ix : List α → World → Prop) (xs : List α) (W : World) : Exit → Act → World → Prop
  | .normal, _, W' => KeepsOthers W W' ∧ Above B W W' ∧ I xs W'
  | .ret, _, W' => KeepsOthers W W' ∧ Above B W W' ∧ Ix xs W'
  | _, _, _ => False

/-- The loop's record in one of its states. -/
def recAt (fn : FuncId) (a : Act) (ps : Array Tmp) (assign body : Code) (D : Nat) (st : LoopState) (pe : Option Code) : Loop :=
  { state := st, pending := pe, fn, tmps := a.tmps, params := ps, assign, body, defers := D }

/-- The loop's two blocks. -/
def Bk (D : Nat) (r : Loop) (W : World) : Prop := W.heap[D + 1]? = some (.loop r) ∧ W.heap[D]? = some (.deferred (some []))

theorem Bk.others {D : Nat} {r : Loop} {W W' : World} (h : Bk D r W) (hk : KeepsOthers W W') : Bk D r W' := ⟨hk.same _ _ h.1 rfl, hk.same _ _ h.2 rfl⟩
theorem Bk.put {D : Nat} {r : Loop} {W : World} (h : Bk D r W) (r' : Loop) : Bk D r' (W.putObj (D + 1) (.loop r')) :=
  ⟨World.putObj_heap_same (Array.getElem?_eq_some_iff.1 h.1).1, (World.putObj_heap_other (by omega)).trans h.2⟩
theorem Bk.step {D : Nat} {r : Loop} {W W' : World} {row : Option Nat} (h : Bk D r W) (hg : W.grownBy W' row) (hr : ∀ k, row = some k → ∃ o : Obj, W.heap[k]? = some o ∧ o.isWalk = true) : Bk D r W' :=
  ⟨(grownBy_keeps hg hr h.1 rfl).trans h.1, (grownBy_keeps hg hr h.2 rfl).trans h.2⟩
theorem OwnFrom.turn {β : Type} {B : Nat} {I : β → World → Prop} (h : OwnFrom B I) {s : β} {W : World} {r : Loop} (hb : Bk B r W) (r' : Loop) (hs : I s W) : I s (W.putObj (B + 1) (.loop r')) :=
  OwnFrom.putObj h _ hs (by omega) hb.1 rfl
theorem OwnFrom.walk {β : Type} {B C : Nat} {I : β → World → Prop} (h : OwnFrom B I) (hBC : B ≤ C) {s : β} {W W' : World} {row : Option Nat} (hs : I s W) (hg : W.grownBy W' row)
    (hr : ∀ k, row = some k → C ≤ k ∧ ∃ o : Obj, W.heap[k]? = some o ∧ o.isWalk = true) : I s W' :=
  h s W W' row hs hg fun k e => by obtain ⟨hk, o, ho, hw⟩ := hr k e; exact ⟨by omega, o, ho, Obj.not_cells_of_walk hw⟩

theorem wpIn_range_hands {g : Operand} {ps : Array Tmp} {assign body : Code} {Q : Exit → Act → World → Prop} {a : Act} {w : World}
    (hro : F.round = none) (h1 : 1 ≤ n) {gf : Nat} {fst : Array Value} (hg : a.eval g = .func (.func gf) fst #[]) (hFg : F.fn gf) (eg : ∀ args w, (callFunc gf args).run P w = .ok (.enter gf args) w)
    {encs : α → Array Value} {xs : List α} (hseq : Hands F (n - 1) P gf fst encs xs) (hps : ∀ x, (encs x).size = ps.size)
    (I Ix : List α → World → Prop) (A : List α × α × Act → World → Prop) (hI : OwnFrom w.heap.size I) (hIx : OwnFrom w.heap.size Ix) (hA : OwnFrom w.heap.size A) (h0 : I [] w)
    (hassign : ∀ (l : Nat) (pre : List α) (x : α) (W : World), I pre W → pre ++ [x] <+: xs → w.heap.size + 2 ≤ W.heap.size →
      assign.wpIn (F.inRound l) (n - 1 - 1) P (Exit.then (fun b V => KeepsOthers W V ∧ Above (w.heap.size + 2) W V ∧ A (pre, x, b) V) (fun _ _ _ => False)) { tmps := (ps.zip (encs x)).foldl (fun t (p, v) => t.setIfInBounds p v) a.tmps, defers := [] } W)
    (hbody : ∀ (l : Nat) (pre : List α) (x : α) (b : Act) (W : World), A (pre, x, b) W → pre ++ [x] <+: xs →
      body.wpIn (F.inRound l) (n - 1 - 1) P (RoundLeft (w.heap.size + 2) I Ix (pre ++ [x]) W) b W)
    (hdone : ∀ (D : Nat) (W : World), w.heap.size ≤ D → I xs W → W.heap[D]? = some (.deferred (some [])) → Q .normal { a with defers := { target := .collected D, args := #[] } :: a.defers } W)
    (hstop : ∀ (D : Nat) (pre : List α) (W : World), w.heap.size ≤ D → pre <+: xs → Ix pre W → W.heap[D]? = some (.deferred (some [])) → Code.ret.wpIn F n P Q { a with defers := { target := .collected D, args := #[] } :: a.defers } W) :
    (Code.rangeFunc g ps assign body).wpIn F n P Q a w := by
  refine wpIn_rangeFunc ?_
  intro fn hfn
  rw [hro]
  let B := w.heap.size
  let R := recAt fn a ps assign body B
  let V0 := (w.alloc (.deferred (some []))).alloc (.loop (R .ready none))
  have hV0 : V0.heap.size = B + 2 := by simp [V0, B]
  have hk0 : Bk B (R .ready none) V0 := by
    refine ⟨?_, (Below.heap_alloc _ _ _ (by simp [B])).trans (World.alloc_heap_new w _)⟩
    have h := World.alloc_heap_new (w.alloc (.deferred (some []))) (.loop (R .ready none))
    rwa [World.size_alloc] at h
  have hi0 : I [] V0 := OwnFrom.alloc hI _ (OwnFrom.alloc hI _ h0)
  refine ⟨B + 1, [{ target := .collected B, args := #[] }], V0, { target := .fn (.func gf) #[], args := fst ++ #[.func (.yield (B + 1)) #[] #[]] }, V0, gf,
    fst ++ #[.func (.yield (B + 1)) #[] #[]], V0, run_enterLoop_outer _ _ _ _ _, ?_, ?_, ?_, fun _ => h1, ?_⟩
  · simp only [resolve, hg]
    simp [go_sem]
  · intro f' hf'
    simp [Target.leads] at hf'
    subst hf'
    exact hFg
  · simp [invoke, go_sem, eg]
  refine (hseq (B + 1) (fun pre W => I pre W ∧ Bk B (R .ready none) W ∧ B + 2 ≤ W.heap.size) (fun pre W => Ix pre W ∧ Bk B (R .done (some .ret)) W) V0
    (fun s V U row hs hgr hr => ⟨OwnFrom.walk hI (C := V0.heap.size) (by omega) hs.1 hgr hr, hs.2.1.step hgr (fun k e => (hr k e).2), Nat.le_trans hs.2.2 hgr.size⟩)
    (fun s V U row hs hgr hr => ⟨OwnFrom.walk hIx (C := V0.heap.size) (by omega) hs.1 hgr hr, hs.2.step hgr (fun k e => (hr k e).2)⟩)
    ?_ ⟨hi0, hk0, Nat.le_of_eq hV0.symm⟩).mono ?_
  · rintro pre x W ⟨hi, hk, hsz⟩ hpx
    refine ⟨fn, _, assign, body, run_yield hk.1 (hps x), roundIn_of_wpIn hfn (wpIn_mono (hassign (B + 1) pre x W hi hpx hsz) ?_)⟩
    rintro e b V he
    cases e <;> simp only [Exit.then] at he ⊢
    obtain ⟨hko, hab, hA1⟩ := he
    have hkV := hk.others hko
    refine ⟨_, run_beginRound hkV.1 rfl, ?_⟩
    have hkV2 : Bk B (R .busy none) (V.putObj (B + 1) (.loop (R .busy none))) := hkV.put _
    refine wpIn_mono (hbody (B + 1) pre x b _ (OwnFrom.turn hA hkV _ hA1) hpx) ?_
    rintro e b' U he
    cases e <;> simp only [RoundLeft] at he
    case normal =>
      obtain ⟨hko2, hab2, hi2⟩ := he
      have hkU := hkV2.others hko2
      refine ⟨_, _, run_endRound none hkU.1, ?_, .inl ⟨rfl, OwnFrom.turn hI hkU _ hi2, hkU.put _, ?_⟩⟩
      · rw [hV0]
        exact (hab.trans ((Above.putObj V _ (by omega)).trans (hab2.trans (Above.putObj U _ (by omega)))))
      · have h1 := hko2.size
        have h2 := hko.size
        simp at h1 ⊢
        omega
    case ret =>
      obtain ⟨hko2, hab2, hi2⟩ := he
      have hkU := hkV2.others hko2
      refine ⟨_, _, run_endRound (some .ret) hkU.1, ?_, .inr ⟨rfl, OwnFrom.turn hIx hkU _ hi2, hkU.put _⟩⟩
      rw [hV0]
      exact (hab.trans ((Above.putObj V _ (by omega)).trans (hab2.trans (Above.putObj U _ (by omega)))))
  · rintro e U ⟨⟨v, rfl⟩, (⟨hi, hk, _⟩ | ⟨pre, hpre, hi, hk⟩)⟩
    · exact ⟨none, _, run_endLoop hk.1 (by simp [R, recAt]), hdone B _ (Nat.le_refl _) (OwnFrom.turn hI hk _ hi) (hk.put _).2⟩
    · exact ⟨some .ret, _, run_endLoop hk.1 (by simp [R, recAt]), hstop B pre _ (Nat.le_refl _) hpre (OwnFrom.turn hIx hk _ hi) (hk.put _).2⟩

end
end Go.Proofs.YtnbgpopjnpdmgaaGreat
