/-
  DERIVED. Held.
-/
import Derived.OrdersIn
import Derived.OrdersHeld
import Derived.Laws.World
set_option linter.unusedVariables false
set_option linter.unusedSimpArgs false

namespace Go.Proofs.YtnbgpopjnpdmgaaGreat
open Go

section
variable {F : Fence} {n : Nat} {P : Program} {ops : Array Oper} {Q : Exit → Act → World → Prop} {md : Region.Mode} {S : World → Prop}

/-- It yields v in every world that meets S, and calls nobody beyond the fence. -/
def Calm (F : Fence) (P : Program) (ops : Array Oper) (S : World → Prop) (o : Oper) (v : Value) (a : Act) : Prop :=
  YieldsIf P ops S o v a ∧ ∀ w, S w → ∀ f, o.about P w a.eval = some f → F.fn f

theorem Calm.wpOpIn {i : Nat} {o : Oper} {v : Value} {a : Act} (hro : F.round = none) (hi : ops[i]? = some o) (hy : Calm F P ops S o v a)
    {K : Act → World → Prop} {w : World} (hS : S w) (h : K (a.put o.dst v) w) : wpOpIn F n P ops Q i K a w := by
  unfold Go.wpOpIn
  simp only [hi]
  have hab := hy.2 w hS
  rcases hy.1 with ⟨hw, hv⟩ | ⟨hw, rfl⟩
  · simp only [hw, if_true, Oper.wpIn, hro, Oper.semAt_none, hv w hS, Oper.uponIn]; exact ⟨hab, h⟩
  · simp only [hw, Bool.false_eq_true, if_false]; exact ⟨hab, h⟩

theorem Calm.of_same {o : Oper} {v : Value} {a a' : Act} (hy : Calm F P ops S o v a) (he : execOp a'.eval o = execOp a.eval o)
    (hw : Region.wanted o (yielded ops a'.tmps) = Region.wanted o (yielded ops a.tmps)) (hb : ∀ w, o.about P w a'.eval = o.about P w a.eval) : Calm F P ops S o v a' :=
  ⟨hy.1.of_same he hw, fun w hS f hf => hy.2 w hS f (by rw [← hb w]; exact hf)⟩

theorem calm_put {j : Nat} {oi oj : Oper} {v : Value} (hro : F.round = none) (hj : ops[j]? = some oj) (hap : oi.apart ops oj = true)
    (hsi : ∀ cs b, oi.op ≠ .select cs b) (hsj : ∀ cs b, oj.op ≠ .select cs b)
    (hQ : ∀ c a w, Q (.panic c) (a.put oi.dst v) w → Q (.panic c) a w) {K : Act → World → Prop} {a : Act} {w : World}
    (hy : Calm F P ops S oi v a) (h : wpOpIn F n P ops Q j K (a.put oi.dst v) w) :
    wpOpIn F n P ops Q j (fun a' w' => Calm F P ops S oi v a' ∧ K (a'.put oi.dst v) w') a w := by
  obtain ⟨h1, h2, h3⟩ := Oper.apart_spec hap
  have keep : ∀ (b : Act), Calm F P ops S oi v b → ∀ u, Calm F P ops S oi v (b.put oj.dst u) := fun b hb u =>
    hb.of_same (execOp_put oi hsi b oj.dst u h3) (wanted_put oi b oj.dst u h3) (fun w => about_put oi w b oj.dst u h3)
  have keepD : ∀ d, Calm F P ops S oi v { a with defers := d :: a.defers } := fun d => hy.of_same rfl rfl (fun _ => rfl)
  have swap : ∀ (b : Act) u, (b.put oi.dst v).put oj.dst u = (b.put oj.dst u).put oi.dst v := fun b u => Act.put_comm b v u h2
  unfold Go.wpOpIn at *
  simp only [hj] at *
  rw [wanted_put oj a oi.dst v h1, about_put oj w a oi.dst v h1] at h
  split
  · rename_i hw
    simp only [hw, if_true] at h
    unfold Oper.wpIn at *
    rw [about_put oj w a oi.dst v h1] at h
    refine ⟨h.1, ?_⟩
    have h := h.2
    rw [hro, Oper.semAt_none, execOp_put oj hsj a oi.dst v h1] at h
    rw [hro, Oper.semAt_none]
    generalize (execOp a.eval oj).run P w = r at *
    cases r with
    | ok x w' =>
      cases x <;> simp only [Oper.uponIn] at h ⊢
      case value u => exact ⟨keep a hy u, by rw [← swap]; exact h⟩
      case skip => exact ⟨keep a hy _, by rw [← swap]; exact h⟩
      case defer d =>
        refine ⟨keep _ (keepD d) _, ?_⟩
        rw [← swap, ← Act.put_defers]
        exact h
      case enter f args =>
        refine ⟨h.1, CallsIn.mono h.2 fun e w'' he => ?_⟩
        cases e with
        | returned u => exact ⟨keep a hy u, by rw [← swap]; exact he⟩
        | panicked c => exact hQ _ _ _ he
        | outgrown => exact he
      case row row args => exact ⟨h.1, RowsIn.mono h.2 fun u w'' he => ⟨keep a hy u, by rw [← swap]; exact he⟩⟩
      case round l f tmps assign body =>
        refine ⟨h.1, RoundIn.mono h.2 fun e w'' he => ?_⟩
        cases e with
        | returned u => exact ⟨keep a hy u, by rw [← swap]; exact he⟩
        | panicked c => exact hQ _ _ _ he
        | outgrown => exact he
    | halt x w' =>
      cases x <;> simp only [Oper.uponIn] at h ⊢
      case panic u => exact hQ _ _ _ h
  · rename_i hw
    simp only [hw] at h
    exact ⟨h.1, keep a hy _, by rw [← swap]; exact h.2⟩

/-- Whatever order is picked from here on, and S holds behind each operation. -/
def AnyHeld (F : Fence) (n : Nat) (P : Program) (md : Region.Mode) (ops : Array Oper) (Q : Exit → Act → World → Prop) (S : World → Prop) : Nat → Array Bool → Act → World → Prop
  | 0, listed, a, w => Region.ready md ops listed = [] ∧ Q .normal a w
  | fuel + 1, listed, a, w =>
    (Region.ready md ops listed = [] → Q .normal a w) ∧
    ∀ i ∈ Region.ready md ops listed, wpOpIn F n P ops Q i (fun a' w' => S w' ∧ AnyHeld F n P md ops Q S fuel (listed.setIfInBounds i true) a' w') a w

theorem AnyHeld.any : ∀ (fuel : Nat) (listed : Array Bool) (a : Act) (w : World), AnyHeld F n P md ops Q S fuel listed a w → wpAnyIn F n P md ops Q fuel listed a w
  | 0, _, _, _, h => h
  | fuel + 1, _, _, _, h => ⟨h.1, fun i hi => wpOpIn_mono (fun a' w' h' => AnyHeld.any fuel _ a' w' h'.2) (h.2 i hi)⟩

theorem AnyHeld.first {i : Nat} {oi : Oper} {v : Value} (hro : F.round = none) (hi : ops[i]? = some oi) (hsel : ∀ (j : Nat) (o : Oper) cs b, ops[j]? = some o → o.op ≠ .select cs b)
    (hQ : ∀ c a w, Q (.panic c) (a.put oi.dst v) w → Q (.panic c) a w) :
    ∀ (fuel : Nat) (listed : Array Bool) (a : Act) (w : World),
      (∀ j oj, ops[j]? = some oj → j ≠ i → listed.getD j true = false → (∀ e ∈ oj.after, Region.binds md e = true → e.on ≠ i) → oi.apart ops oj = true) →
      i ∈ Region.ready md ops listed → Calm F P ops S oi v a → S w →
      AnyHeld F n P md ops Q S fuel (listed.setIfInBounds i true) (a.put oi.dst v) w → AnyHeld F n P md ops Q S (fuel + 1) listed a w := by
  intro fuel
  induction fuel with
  | zero =>
    intro listed a w _ hr hy hS H
    refine ⟨fun h => (by rw [h] at hr; cases hr), fun j hj => ?_⟩
    by_cases hji : j = i
    · subst hji; exact hy.wpOpIn hro hi hS ⟨hS, H⟩
    · have h0 := ready_mono hj hji
      rw [H.1] at h0
      cases h0
  | succ fuel ih =>
    intro listed a w hfree hr hy hS H
    refine ⟨fun h => (by rw [h] at hr; cases hr), fun j hj => ?_⟩
    by_cases hji : j = i
    · subst hji; exact hy.wpOpIn hro hi hS ⟨hS, H⟩
    · obtain ⟨hjun, oj, hoj, hall⟩ := mem_ready.1 hj
      have hnot : ∀ e ∈ oj.after, Region.binds md e = true → e.on ≠ i := fun e he hb heq => by
        have h1 := hall e he hb
        have h0 := (mem_ready.1 hr).1
        rw [heq] at h1
        rcases Nat.lt_or_ge i listed.size with h' | h'
        · simp [h'] at h0 h1; rw [h0] at h1; cases h1
        · simp [Array.getElem?_eq_none h'] at h1
      have h2 := calm_put hro hoj (hfree j oj hoj hji hjun hnot) (fun cs b => hsel i oi cs b hi) (fun cs b => hsel j oj cs b hoj) hQ hy (H.2 j (ready_mono hj hji))
      have hfree' : ∀ k ok, ops[k]? = some ok → k ≠ i → (listed.setIfInBounds j true).getD k true = false →
          (∀ e ∈ ok.after, Region.binds md e = true → e.on ≠ i) → oi.apart ops ok = true := fun k ok hk hki hun hno => by
        refine hfree k ok hk hki ?_ hno
        by_cases hjk : j = k
        · subst hjk; exact hjun
        · rw [getD_set_ne true hjk] at hun; exact hun
      refine wpOpIn_mono (fun a' w' h3 => ⟨h3.2.1, ih (listed.setIfInBounds j true) a' w' hfree' (ready_mono hr (Ne.symm hji)) h3.1 h3.2.1 ?_⟩) h2
      rw [Array.setIfInBounds_comm _ _ hji]
      exact h3.2.2

/-- The order of the text, an operation a flag: true: it is calm, and free; false: nobody else may come up. -/
def inText (md : Region.Mode) (ops : Array Oper) : Nat → Array Bool → List Bool → Bool
  | _, listed, [] => (Region.ready md ops listed).isEmpty
  | i, listed, true :: fs => Region.free md ops listed i && (Region.ready md ops listed).contains i && inText md ops (i + 1) (listed.setIfInBounds i true) fs
  | i, listed, false :: fs => (Region.ready md ops listed == [i]) && inText md ops (i + 1) (listed.setIfInBounds i true) fs

/-- One walk in the order of the text. -/
def Lex (F : Fence) (n : Nat) (P : Program) (ops : Array Oper) (Q : Exit → Act → World → Prop) (S : World → Prop) : List Bool → List Oper → Act → World → Prop
  | [], [], a, w => Q .normal a w
  | true :: fs, o :: rest, a, w => S w ∧ ∃ v, Calm F P ops S o v a ∧ Lex F n P ops Q S fs rest (a.put o.dst v) w
  | false :: fs, o :: rest, a, w =>
    if Region.wanted o (yielded ops a.tmps) then o.wpIn F n P a w (fun a' w' => S w' ∧ Lex F n P ops Q S fs rest a' w') Q
    else (∀ f, o.about P w a.eval = some f → F.fn f) ∧ S w ∧ Lex F n P ops Q S fs rest (a.put o.dst undef) w
  | _, _, _, _ => False

theorem Lex.held (hro : F.round = none) (hs : Region.noSelect ops = true) (hQ : ∀ c a d v w, Q (.panic c) (Act.put a d v) w → Q (.panic c) a w) :
    ∀ (fs : List Bool) (rest : List Oper) (i : Nat) (listed : Array Bool) (a : Act) (w : World), (∀ k o, rest[k]? = some o → ops[i + k]? = some o) → inText md ops i listed fs = true →
      Lex F n P ops Q S fs rest a w → AnyHeld F n P md ops Q S fs.length listed a w := by
  intro fs
  induction fs with
  | nil =>
    intro rest i listed a w hk hl h
    cases rest with
    | nil => exact ⟨by simpa [inText] using hl, h⟩
    | cons o rest => exact h.elim
  | cons q fs ih =>
    intro rest i listed a w hk hl h
    cases rest with
    | nil => cases q <;> exact h.elim
    | cons o rest =>
      have ho : ops[i]? = some o := hk 0 o rfl
      have hk' : ∀ k o', rest[k]? = some o' → ops[i + 1 + k]? = some o' := fun k o' h' => by
        have := hk (k + 1) o' (by simpa using h')
        rwa [show i + (k + 1) = i + 1 + k by omega] at this
      cases q with
      | true =>
        simp only [inText, Bool.and_eq_true] at hl
        obtain ⟨hS, v, hy, hrest⟩ := h
        exact AnyHeld.first hro ho (Region.noSelect_spec hs) (fun c a w => hQ c a o.dst v w) fs.length listed a w (Region.free_spec ho hl.1.1) (by simpa using hl.1.2) hy hS (ih rest (i + 1) _ _ w hk' hl.2 hrest)
      | false =>
        simp only [inText, Bool.and_eq_true, beq_iff_eq] at hl
        refine ⟨fun h0 => (by rw [hl.1] at h0; cases h0), fun j hj => ?_⟩
        rw [hl.1] at hj
        obtain rfl : j = i := by simpa using hj
        unfold Go.wpOpIn
        simp only [ho]
        unfold Lex at h
        split at h
        · rename_i hw
          rw [if_pos hw]
          exact Oper.wpIn_mono (fun a' w' h' => ⟨h'.1, ih rest (j + 1) _ a' w' hk' hl.2 h'.2⟩) h
        · rename_i hw
          rw [if_neg hw]
          exact ⟨h.1, h.2.1, ih rest (j + 1) _ _ w hk' hl.2 h.2.2⟩

/-- **A region that draws: one walk in the order of the text.** -/
theorem wpIn_region_lex {id : Nat} {a : Act} {w : World} (hro : F.round = none) (hm : P.follows .mixedOrders = true) (fs : List Bool) (hlen : fs.length = ops.size) (hs : Region.noSelect ops = true)
    (hl : inText .any ops 0 (Array.replicate ops.size false) fs = true) (hQ : ∀ c a d v w, Q (.panic c) (Act.put a d v) w → Q (.panic c) a w)
    (h : Lex F n P ops Q S fs ops.toList a w.drew) : (Code.region id ops true).wpIn F n P Q a w :=
  wpIn_region_any hm (AnyHeld.any _ _ _ _ (hlen ▸ Lex.held hro hs hQ fs ops.toList 0 _ a w.drew (fun k o hk => by simpa using hk) hl h))

/-- A calm step. -/
theorem Lex.calm {fs : List Bool} {rest : List Oper} {a a' : Act} {w : World} {o : Oper} {v : Value} (hS : S w) (hw : Region.wanted o (yielded ops a.tmps) = true)
    (hv : ∀ w, S w → (execOp a.eval o).run P w = .ok (.value v) w) (hab : ∀ w, S w → ∀ f, o.about P w a.eval = some f → F.fn f) (ha : a.put o.dst v = a') (h : Lex F n P ops Q S fs rest a' w) :
    Lex F n P ops Q S (true :: fs) (o :: rest) a w := ⟨hS, v, ⟨.inl ⟨hw, hv⟩, hab⟩, by rw [ha]; exact h⟩

/-- A step that is not wanted. -/
theorem Lex.idle {q : Bool} {fs : List Bool} {rest : List Oper} {a a' : Act} {w : World} {o : Oper} (hS : S w) (hw : Region.wanted o (yielded ops a.tmps) = false)
    (hab : ∀ w, S w → ∀ f, o.about P w a.eval = some f → F.fn f) (ha : a.put o.dst undef = a') (h : Lex F n P ops Q S fs rest a' w) :
    Lex F n P ops Q S (q :: fs) (o :: rest) a w := by
  cases q with
  | true => exact ⟨hS, undef, ⟨.inr ⟨hw, rfl⟩, hab⟩, by rw [ha]; exact h⟩
  | false =>
    unfold Lex
    rw [if_neg (by rw [hw]; simp), ha]
    exact ⟨hab w hS, hS, h⟩

/-- A step at which nobody else may come up. -/
theorem Lex.only {fs : List Bool} {rest : List Oper} {a : Act} {w : World} {o : Oper} (hw : Region.wanted o (yielded ops a.tmps) = true)
    (h : o.wpIn F n P a w (fun a' w' => S w' ∧ Lex F n P ops Q S fs rest a' w') Q) : Lex F n P ops Q S (false :: fs) (o :: rest) a w := by
  unfold Lex
  rw [if_pos hw]
  exact h

end
end Go.Proofs.YtnbgpopjnpdmgaaGreat
