/-
  DERIVED. A region that draws its order: one walk in one chosen order serves every order. No program in sight.
-/
import Derived.Test.YtjgdoogfoaaejaaHeld
import Derived.ControlIn
namespace Go.Proofs.Ytjgdoogfoaaejaa
open Go

section
variable {F : Fence} {n : Nat} {P : Program} {ops : Array Oper} {Q : Exit → Act → World → Prop} {md : Region.Mode} {S : World → Prop}

/-! ### The same in another order than the text's: each operation that is calm as soon as it may come up -/

/-- The operations in the order in which they are taken. -/
def inOrder (ops : List Oper) : List (Bool × Nat) → List (Bool × Oper)
  | [] => []
  | (q, i) :: r => (match ops[i]? with | some o => [(q, o)] | none => []) ++ inOrder ops r

theorem inOrder_cons (ops : List Oper) (q : Bool) (i : Nat) (r : List (Bool × Nat)) {o : Oper} (h : ops[i]? = some o) : inOrder ops ((q, i) :: r) = (q, o) :: inOrder ops r := by simp [inOrder, h]

def okOrder (md : Region.Mode) (ops : Array Oper) : Array Bool → List (Bool × Nat) → Bool
  | listed, [] => (Region.ready md ops listed).isEmpty
  | listed, (true, i) :: r => decide (i < ops.size) && (Region.free md ops listed i && (Region.ready md ops listed).contains i && okOrder md ops (listed.setIfInBounds i true) r)
  | listed, (false, i) :: r => decide (i < ops.size) && ((Region.ready md ops listed == [i]) && okOrder md ops (listed.setIfInBounds i true) r)

/-- One walk in such an order. -/
def Ord (F : Fence) (n : Nat) (P : Program) (ops : Array Oper) (Q : Exit → Act → World → Prop) (S : World → Prop) : List (Bool × Oper) → Act → World → Prop
  | [], a, w => Q .normal a w
  | (true, o) :: rest, a, w => S w ∧ ∃ v, Calm F P ops S o v a ∧ Ord F n P ops Q S rest (a.put o.dst v) w
  | (false, o) :: rest, a, w =>
    if Region.wanted o (yielded ops a.tmps) then o.wpIn F n P a w (fun a' w' => S w' ∧ Ord F n P ops Q S rest a' w') Q
    else (∀ f, o.about P w a.eval = some f → F.fn f) ∧ S w ∧ Ord F n P ops Q S rest (a.put o.dst undef) w

theorem Ord.held (hro : F.round = none) (hs : Region.noSelect ops = true) (hQ : ∀ c a d v w, Q (.panic c) (Act.put a d v) w → Q (.panic c) a w) :
    ∀ (ord : List (Bool × Nat)) (listed : Array Bool) (a : Act) (w : World), okOrder md ops listed ord = true →
      Ord F n P ops Q S (inOrder ops.toList ord) a w → AnyHeld F n P md ops Q S ord.length listed a w := by
  intro ord
  induction ord with
  | nil =>
    intro listed a w hl h
    exact ⟨by simpa [okOrder] using hl, h⟩
  | cons p r ih =>
    obtain ⟨q, i⟩ := p
    intro listed a w hl h
    have hlt : i < ops.size := by cases q <;> (simp only [okOrder, Bool.and_eq_true, decide_eq_true_eq] at hl; exact hl.1)
    have ho : ops[i]? = some ops[i] := Array.getElem?_eq_getElem hlt
    rw [inOrder_cons ops.toList q i r (o := ops[i]) (by simp [ho])] at h
    generalize ops[i] = o at ho h
    cases q with
    | true =>
      simp only [okOrder, Bool.and_eq_true] at hl
      obtain ⟨hS, v, hy, hrest⟩ := h
      exact AnyHeld.first hro ho (Region.noSelect_spec hs) (fun c a w => hQ c a o.dst v w) r.length listed a w (Region.free_spec ho hl.2.1.1) (by simpa using hl.2.1.2) hy hS (ih _ _ w hl.2.2 hrest)
    | false =>
      simp only [okOrder, Bool.and_eq_true, beq_iff_eq] at hl
      refine ⟨fun h0 => (by rw [hl.2.1] at h0; cases h0), fun j hj => ?_⟩
      rw [hl.2.1] at hj
      obtain rfl : j = i := by simpa using hj
      unfold Go.wpOpIn
      simp only [ho]
      unfold Ord at h
      split at h
      · rename_i hw
        rw [if_pos hw]
        exact Oper.wpIn_mono (fun a' w' h' => ⟨h'.1, ih _ a' w' hl.2.2 h'.2⟩) h
      · rename_i hw
        rw [if_neg hw]
        exact ⟨h.1, h.2.1, ih _ _ w hl.2.2 h.2.2⟩

/-- **A region that draws: one walk in one order.** -/
theorem wpIn_region_ord {id : Nat} {a : Act} {w : World} (hro : F.round = none) (hm : P.follows .mixedOrders = true) (ord : List (Bool × Nat)) (hlen : ord.length = ops.size) (hs : Region.noSelect ops = true)
    (hl : okOrder .any ops (Array.replicate ops.size false) ord = true) (hQ : ∀ c a d v w, Q (.panic c) (Act.put a d v) w → Q (.panic c) a w)
    (h : Ord F n P ops Q S (inOrder ops.toList ord) a w.drew) : (Code.region id ops true).wpIn F n P Q a w :=
  wpIn_region_any hm (AnyHeld.any _ _ _ _ (hlen ▸ Ord.held hro hs hQ ord _ a w.drew hl h))

/-- The same outside a fence. -/
theorem wp_region_ord {id : Nat} {a : Act} {w : World} (hm : P.follows .mixedOrders = true) (ord : List (Bool × Nat)) (hlen : ord.length = ops.size) (hs : Region.noSelect ops = true)
    (hl : okOrder .any ops (Array.replicate ops.size false) ord = true) (hQ : ∀ c a d v w, Q (.panic c) (Act.put a d v) w → Q (.panic c) a w)
    (h : Ord Fence.wide 0 P ops Q S (inOrder ops.toList ord) a w.drew) : (Code.region id ops true).wp P Q a w :=
  (wpIn_wide (n := 0)).1 (wpIn_region_ord rfl hm ord hlen hs hl hQ h)

theorem Ord.calm {rest : List (Bool × Oper)} {a a' : Act} {w : World} {o : Oper} {v : Value} (hS : S w) (hw : Region.wanted o (yielded ops a.tmps) = true)
    (hv : ∀ w, S w → (execOp a.eval o).run P w = .ok (.value v) w) (hab : ∀ w, S w → ∀ f, o.about P w a.eval = some f → F.fn f) (ha : a.put o.dst v = a') (h : Ord F n P ops Q S rest a' w) :
    Ord F n P ops Q S ((true, o) :: rest) a w := ⟨hS, v, ⟨.inl ⟨hw, hv⟩, hab⟩, by rw [ha]; exact h⟩

theorem Ord.idle {q : Bool} {rest : List (Bool × Oper)} {a a' : Act} {w : World} {o : Oper} (hS : S w) (hw : Region.wanted o (yielded ops a.tmps) = false)
    (hab : ∀ w, S w → ∀ f, o.about P w a.eval = some f → F.fn f) (ha : a.put o.dst undef = a') (h : Ord F n P ops Q S rest a' w) :
    Ord F n P ops Q S ((q, o) :: rest) a w := by
  cases q with
  | true => exact ⟨hS, undef, ⟨.inr ⟨hw, rfl⟩, hab⟩, by rw [ha]; exact h⟩
  | false =>
    unfold Ord
    rw [if_neg (by rw [hw]; simp), ha]
    exact ⟨hab w hS, hS, h⟩

theorem Ord.only {rest : List (Bool × Oper)} {a : Act} {w : World} {o : Oper} (hw : Region.wanted o (yielded ops a.tmps) = true)
    (h : o.wpIn F n P a w (fun a' w' => S w' ∧ Ord F n P ops Q S rest a' w') Q) : Ord F n P ops Q S ((false, o) :: rest) a w := by
  unfold Ord
  rw [if_pos hw]
  exact h

end
end Go.Proofs.Ytjgdoogfoaaejaa
