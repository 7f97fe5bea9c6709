/-
  DERIVED. Ord, Ord2, Ord4, Ord5.
-/
import Derived.ControlIn
import Derived.Test.YtnbgpopjnpdmgaaGreatPaa
set_option linter.unusedVariables false
set_option linter.unusedSimpArgs false

namespace Go.Proofs.YtnbgpopjnpdmgaaGreat
open Go

section
variable {F : Fence} {n : Nat} {P : Program} {ops : Array Oper} {Q : Exit → Act → World → Prop} {md : Region.Mode} {S : World → Prop}

/-! ### The same in another order than the text's: each operation that is calm as soon as it may come up -/

/-- The operations in the order in which they are taken. -/
def inOrder (ops : List Oper) : List (Bool × Nat) → List (Bool × Oper)
  | [] => []
  | (q, i) :: r => (match ops[i]? with | some o => [(q, o)] | none => []) ++ inOrder ops r

theorem inOrder_cons (ops : List Oper) (q : Bool) (i : Nat) (r : List (Bool × Nat)) {o : Oper} (h : ops[i]? = some o) : inOrder ops ((q, i) :: r) = (q, o) :: inOrder ops r := by simp [inOrder, h]

def okOrder (md : Region.Mode) (ops : Array Oper) : Array Bool → List (Bool × Nat) → Bool
  | listed, [] => (Region.ready md ops listed).isEmpty
  | listed, (true, i) :: r => decide (i < ops.size) && (Region.free md ops listed i && (Region.ready md ops listed).contains i && okOrder md ops (listed.setIfInBounds i true) r)
  | listed, (false, i) :: r => decide (i < ops.size) && ((Region.ready md ops listed == [i]) && okOrder md ops (listed.setIfInBounds i true) r)

/-- One walk in such an order. -/
def Ord (F : Fence) (n : Nat) (P : Program) (ops : Array Oper) (Q : Exit → Act → World → Prop) (S : World → Prop) : List (Bool × Oper) → Act → World → Prop
  | [], a, w => Q .normal a w
  | (true, o) :: rest, a, w => S w ∧ ∃ v, Calm F P ops S o v a ∧ Ord F n P ops Q S rest (a.put o.dst v) w
  | (false, o) :: rest, a, w =>
    if Region.wanted o (yielded ops a.tmps) then o.wpIn F n P a w (fun a' w' => S w' ∧ Ord F n P ops Q S rest a' w') Q
    else (∀ f, o.about P w a.eval = some f → F.fn f) ∧ S w ∧ Ord F n P ops Q S rest (a.put o.dst undef) w

theorem Ord.held (hro : F.round = none) (hs : Region.noSelect ops = true) (hQ : ∀ c a d v w, Q (.panic c) (Act.put a d v) w → Q (.panic c) a w) :
    ∀ (ord : List (Bool × Nat)) (listed : Array Bool) (a : Act) (w : World), okOrder md ops listed ord = true →
      Ord F n P ops Q S (inOrder ops.toList ord) a w → AnyHeld F n P md ops Q S ord.length listed a w := by
  intro ord
  induction ord with
  | nil =>
    intro listed a w hl h
    exact ⟨by simpa [okOrder] using hl, h⟩
  | cons p r ih =>
    obtain ⟨q, i⟩ := p
    intro listed a w hl h
    have hlt : i < ops.size := by cases q <;> (simp only [okOrder, Bool.and_eq_true, decide_eq_true_eq] at hl; exact hl.1)
    have ho : ops[i]? = some ops[i] := Array.getElem?_eq_getElem hlt
    rw [inOrder_cons ops.toList q i r (o := ops[i]) (by simp [ho])] at h
    generalize ops[i] = o at ho h
    cases q with
    | true =>
      simp only [okOrder, Bool.and_eq_true] at hl
      obtain ⟨hS, v, hy, hrest⟩ := h
      exact AnyHeld.first hro ho (Region.noSelect_spec hs) (fun c a w => hQ c a o.dst v w) r.length listed a w (Region.free_spec ho hl.2.1.1) (by simpa using hl.2.1.2) hy hS (ih _ _ w hl.2.2 hrest)
    | false =>
      simp only [okOrder, Bool.and_eq_true, beq_iff_eq] at hl
      refine ⟨fun h0 => (by rw [hl.2.1] at h0; cases h0), fun j hj => ?_⟩
      rw [hl.2.1] at hj
      obtain rfl : j = i := by simpa using hj
      unfold Go.wpOpIn
      simp only [ho]
      unfold Ord at h
      split at h
      · rename_i hw
        rw [if_pos hw]
        exact Oper.wpIn_mono (fun a' w' h' => ⟨h'.1, ih _ a' w' hl.2.2 h'.2⟩) h
      · rename_i hw
        rw [if_neg hw]
        exact ⟨h.1, h.2.1, ih _ _ w hl.2.2 h.2.2⟩

/-- **A region that draws: one walk in one order.** -/
theorem wpIn_region_ord {id : Nat} {a : Act} {w : World} (hro : F.round = none) (hm : P.follows .mixedOrders = true) (ord : List (Bool × Nat)) (hlen : ord.length = ops.size) (hs : Region.noSelect ops = true)
    (hl : okOrder .any ops (Array.replicate ops.size false) ord = true) (hQ : ∀ c a d v w, Q (.panic c) (Act.put a d v) w → Q (.panic c) a w)
    (h : Ord F n P ops Q S (inOrder ops.toList ord) a w.drew) : (Code.region id ops true).wpIn F n P Q a w :=
  wpIn_region_any hm (AnyHeld.any _ _ _ _ (hlen ▸ Ord.held hro hs hQ ord _ a w.drew hl h))

/-- The same outside a fence. -/
theorem wp_region_ord {id : Nat} {a : Act} {w : World} (hm : P.follows .mixedOrders = true) (ord : List (Bool × Nat)) (hlen : ord.length = ops.size) (hs : Region.noSelect ops = true)
    (hl : okOrder .any ops (Array.replicate ops.size false) ord = true) (hQ : ∀ c a d v w, Q (.panic c) (Act.put a d v) w → Q (.panic c) a w)
    (h : Ord Fence.wide 0 P ops Q S (inOrder ops.toList ord) a w.drew) : (Code.region id ops true).wp P Q a w :=
  (wpIn_wide (n := 0)).1 (wpIn_region_ord rfl hm ord hlen hs hl hQ h)

theorem Ord.calm {rest : List (Bool × Oper)} {a a' : Act} {w : World} {o : Oper} {v : Value} (hS : S w) (hw : Region.wanted o (yielded ops a.tmps) = true)
    (hv : ∀ w, S w → (execOp a.eval o).run P w = .ok (.value v) w) (hab : ∀ w, S w → ∀ f, o.about P w a.eval = some f → F.fn f) (ha : a.put o.dst v = a') (h : Ord F n P ops Q S rest a' w) :
    Ord F n P ops Q S ((true, o) :: rest) a w := ⟨hS, v, ⟨.inl ⟨hw, hv⟩, hab⟩, by rw [ha]; exact h⟩

theorem Ord.idle {q : Bool} {rest : List (Bool × Oper)} {a a' : Act} {w : World} {o : Oper} (hS : S w) (hw : Region.wanted o (yielded ops a.tmps) = false)
    (hab : ∀ w, S w → ∀ f, o.about P w a.eval = some f → F.fn f) (ha : a.put o.dst undef = a') (h : Ord F n P ops Q S rest a' w) :
    Ord F n P ops Q S ((q, o) :: rest) a w := by
  cases q with
  | true => exact ⟨hS, undef, ⟨.inr ⟨hw, rfl⟩, hab⟩, by rw [ha]; exact h⟩
  | false =>
    unfold Ord
    rw [if_neg (by rw [hw]; simp), ha]
    exact ⟨hab w hS, hS, h⟩

theorem Ord.only {rest : List (Bool × Oper)} {a : Act} {w : World} {o : Oper} (hw : Region.wanted o (yielded ops a.tmps) = true)
    (h : o.wpIn F n P a w (fun a' w' => S w' ∧ Ord F n P ops Q S rest a' w') Q) : Ord F n P ops Q S ((false, o) :: rest) a w := by
  unfold Ord
  rw [if_pos hw]
  exact h

end
end Go.Proofs.YtnbgpopjnpdmgaaGreat

namespace Go.Proofs.YtnbgpopjnpdmgaaGreat
open Go

section
variable {F : Fence} {n : Nat} {P : Program} {ops : Array Oper} {Q : Exit → Act → World → Prop} {md : Region.Mode} {S : Bool → World → Prop} {st : Nat}

theorem getD_set_ne2 {L : Array Bool} {i j : Nat} (h : i ≠ j) (d : Bool) : (L.setIfInBounds i true).getD j d = L.getD j d := by
  simp [Array.getD_eq_getD_getElem?, h]

/-- Whatever order is picked from here on; behind each operation S holds, of whether st has been. -/
def AnyHeld2 (F : Fence) (n : Nat) (P : Program) (md : Region.Mode) (ops : Array Oper) (Q : Exit → Act → World → Prop) (S : Bool → World → Prop) (st : Nat) : Nat → Array Bool → Act → World → Prop
  | 0, listed, a, w => Region.ready md ops listed = [] ∧ Q .normal a w
  | fuel + 1, listed, a, w =>
    (Region.ready md ops listed = [] → Q .normal a w) ∧
    ∀ i ∈ Region.ready md ops listed, wpOpIn F n P ops Q i (fun a' w' => S ((listed.setIfInBounds i true).getD st false) w' ∧ AnyHeld2 F n P md ops Q S st fuel (listed.setIfInBounds i true) a' w') a w

theorem AnyHeld2.any : ∀ (fuel : Nat) (listed : Array Bool) (a : Act) (w : World), AnyHeld2 F n P md ops Q S st fuel listed a w → wpAnyIn F n P md ops Q fuel listed a w
  | 0, _, _, _, h => h
  | fuel + 1, _, _, _, h => ⟨h.1, fun i hi => wpOpIn_mono (fun a' w' h' => AnyHeld2.any fuel _ a' w' h'.2) (h.2 i hi)⟩

theorem AnyHeld2.first {i : Nat} {oi : Oper} {v : Value} {C : World → Prop} {Inv : Array Bool → Prop} (hro : F.round = none) (hi : ops[i]? = some oi) (his : i ≠ st) (hsel : ∀ (j : Nat) (o : Oper) cs b, ops[j]? = some o → o.op ≠ .select cs b)
    (hQ : ∀ c a w, Q (.panic c) (a.put oi.dst v) w → Q (.panic c) a w)
    (hI1 : ∀ L j, Inv L → L.getD i true = false → j ∈ Region.ready md ops L → j ≠ i → Inv (L.setIfInBounds j true)) (hI2 : ∀ L w, Inv L → S (L.getD st false) w → C w) :
    ∀ (fuel : Nat) (listed : Array Bool) (a : Act) (w : World), Inv listed →
      (∀ j oj, ops[j]? = some oj → j ≠ i → listed.getD j true = false → (∀ e ∈ oj.after, Region.binds md e = true → e.on ≠ i) → oi.apart ops oj = true) →
      i ∈ Region.ready md ops listed → Calm F P ops C oi v a → S (listed.getD st false) w →
      AnyHeld2 F n P md ops Q S st fuel (listed.setIfInBounds i true) (a.put oi.dst v) w → AnyHeld2 F n P md ops Q S st (fuel + 1) listed a w := by
  intro fuel
  induction fuel with
  | zero =>
    intro listed a w hInv _ hr hy hS H
    refine ⟨fun h => (by rw [h] at hr; cases hr), fun j hj => ?_⟩
    by_cases hji : j = i
    · subst hji; exact hy.wpOpIn hro hi (hI2 _ _ hInv hS) ⟨by rw [getD_set_ne2 his]; exact hS, H⟩
    · have h0 := ready_mono hj hji
      rw [H.1] at h0
      cases h0
  | succ fuel ih =>
    intro listed a w hInv hfree hr hy hS H
    refine ⟨fun h => (by rw [h] at hr; cases hr), fun j hj => ?_⟩
    by_cases hji : j = i
    · subst hji; exact hy.wpOpIn hro hi (hI2 _ _ hInv hS) ⟨by rw [getD_set_ne2 his]; exact hS, H⟩
    · obtain ⟨hjun, oj, hoj, hall⟩ := mem_ready.1 hj
      have hiun : listed.getD i true = false := (mem_ready.1 hr).1
      have hnot : ∀ e ∈ oj.after, Region.binds md e = true → e.on ≠ i := fun e he hb heq => by
        have h1 := hall e he hb
        have h0 := (mem_ready.1 hr).1
        rw [heq] at h1
        rcases Nat.lt_or_ge i listed.size with h' | h'
        · simp [h'] at h0 h1; rw [h0] at h1; cases h1
        · simp [Array.getElem?_eq_none h'] at h1
      have h2 := calm_put hro hoj (hfree j oj hoj hji hjun hnot) (fun cs b => hsel i oi cs b hi) (fun cs b => hsel j oj cs b hoj) hQ hy (H.2 j (ready_mono hj hji))
      have hfree' : ∀ k ok, ops[k]? = some ok → k ≠ i → (listed.setIfInBounds j true).getD k true = false →
          (∀ e ∈ ok.after, Region.binds md e = true → e.on ≠ i) → oi.apart ops ok = true := fun k ok hk hki hun hno => by
        refine hfree k ok hk hki ?_ hno
        by_cases hjk : j = k
        · subst hjk; exact hjun
        · rw [getD_set_ne true hjk] at hun; exact hun
      have hst : ((listed.setIfInBounds i true).setIfInBounds j true).getD st false = (listed.setIfInBounds j true).getD st false := by
        rw [Array.setIfInBounds_comm _ _ (Ne.symm hji), getD_set_ne2 his]
      refine wpOpIn_mono (fun a' w' h3 => ?_) h2
      have hS' : S ((listed.setIfInBounds j true).getD st false) w' := by rw [← hst]; exact h3.2.1
      refine ⟨hS', ih (listed.setIfInBounds j true) a' w' (hI1 _ _ hInv hiun hj hji) hfree' (ready_mono hr (Ne.symm hji)) h3.1 hS' ?_⟩
      rw [Array.setIfInBounds_comm _ _ hji]
      exact h3.2.2

def inOrder2 (ops : List Oper) : List (Nat × Nat) → List (Nat × Nat × Oper)
  | [] => []
  | (q, i) :: r => (match ops[i]? with | some o => [(q, i, o)] | none => []) ++ inOrder2 ops r
theorem inOrder2_cons (ops : List Oper) (q : Nat) (i : Nat) (r : List (Nat × Nat)) {o : Oper} (h : ops[i]? = some o) : inOrder2 ops ((q, i) :: r) = (q, i, o) :: inOrder2 ops r := by simp [inOrder2, h]

def bindsOn (md : Region.Mode) (ops : Array Oper) (st i : Nat) : Bool := match ops[st]? with
  | some o => o.after.any fun e => Region.binds md e && (e.on == i)
  | none => false

/-- 0: nobody else may come up; 1: calm as long as st was not (which waits for it); 2: calm; 3: calm behind st. -/
def okOrder2 (md : Region.Mode) (ops : Array Oper) (st : Nat) : Array Bool → List (Nat × Nat) → Bool
  | listed, [] => (Region.ready md ops listed).isEmpty
  | listed, (0, i) :: r => decide (i < ops.size) && ((Region.ready md ops listed == [i]) && okOrder2 md ops st (listed.setIfInBounds i true) r)
  | listed, (k + 1, i) :: r => decide (i < ops.size) && (decide (i ≠ st) && (Region.free md ops listed i && ((Region.ready md ops listed).contains i &&
      ((match k with | 0 => bindsOn md ops st i && !(listed.getD st false) | 1 => true | _ => listed.getD st false) && okOrder2 md ops st (listed.setIfInBounds i true) r))))

def CondK (S : Bool → World → Prop) : Nat → World → Prop
  | 1 => S false
  | 2 => fun w => ∃ f, S f w
  | _ => S true

/-- One walk in such an order; f: st has been. -/
def Ord2 (F : Fence) (n : Nat) (P : Program) (ops : Array Oper) (Q : Exit → Act → World → Prop) (S : Bool → World → Prop) (st : Nat) : List (Nat × Nat × Oper) → Bool → Act → World → Prop
  | [], _, a, w => Q .normal a w
  | (0, i, o) :: rest, f, a, w =>
    if Region.wanted o (yielded ops a.tmps) then o.wpIn F n P a w (fun a' w' => S (f || i == st) w' ∧ Ord2 F n P ops Q S st rest (f || i == st) a' w') Q
    else (∀ g, o.about P w a.eval = some g → F.fn g) ∧ S (f || i == st) w ∧ Ord2 F n P ops Q S st rest (f || i == st) (a.put o.dst undef) w
  | (k + 1, _, o) :: rest, f, a, w => S f w ∧ ∃ v, Calm F P ops (CondK S (k + 1)) o v a ∧ Ord2 F n P ops Q S st rest f (a.put o.dst v) w

theorem Ord2.held (hro : F.round = none) (hs : Region.noSelect ops = true) (hst : st < ops.size) (hQ : ∀ c a d v w, Q (.panic c) (Act.put a d v) w → Q (.panic c) a w) :
    ∀ (ord : List (Nat × Nat)) (listed : Array Bool) (a : Act) (w : World), listed.size = ops.size → okOrder2 md ops st listed ord = true →
      Ord2 F n P ops Q S st (inOrder2 ops.toList ord) (listed.getD st false) a w → AnyHeld2 F n P md ops Q S st ord.length listed a w := by
  intro ord
  induction ord with
  | nil =>
    intro listed a w hsz hl h
    exact ⟨by simpa [okOrder2] using hl, h⟩
  | cons p r ih =>
    obtain ⟨q, i⟩ := p
    intro listed a w hsz hl h
    have hlt : i < ops.size := by cases q <;> (simp only [okOrder2, Bool.and_eq_true, decide_eq_true_eq] at hl; exact hl.1)
    have ho : ops[i]? = some ops[i] := Array.getElem?_eq_getElem hlt
    rw [inOrder2_cons ops.toList q i r (o := ops[i]) (by simp [ho])] at h
    generalize ops[i] = o at ho h
    have hset : (listed.setIfInBounds i true).getD st false = (listed.getD st false || i == st) := by
      by_cases hi : i = st
      · subst hi
        simp [Array.getD_eq_getD_getElem?, show i < listed.size by omega]
      · rw [getD_set_ne2 hi]
        simp [hi]
    have hsz2 : (listed.setIfInBounds i true).size = ops.size := by simpa using hsz
    cases q with
    | zero =>
      simp only [okOrder2, Bool.and_eq_true, beq_iff_eq] at hl
      refine ⟨fun h0 => (by rw [hl.2.1] at h0; cases h0), fun j hj => ?_⟩
      rw [hl.2.1] at hj
      obtain rfl : j = i := by simpa using hj
      unfold Go.wpOpIn
      simp only [ho]
      unfold Ord2 at h
      split at h
      · rename_i hw
        rw [if_pos hw]
        exact Oper.wpIn_mono (fun a' w' h' => ⟨by rw [hset]; exact h'.1, ih _ a' w' hsz2 hl.2.2 (by rw [hset]; exact h'.2)⟩) h
      · rename_i hw
        rw [if_neg hw]
        exact ⟨h.1, by rw [hset]; exact h.2.1, ih _ _ w hsz2 hl.2.2 (by rw [hset]; exact h.2.2)⟩
    | succ k =>
      simp only [okOrder2, Bool.and_eq_true, decide_eq_true_eq] at hl
      obtain ⟨hS, v, hy, hrest⟩ := h
      have his : i ≠ st := hl.2.1
      have hrest' := ih _ _ w hsz2 hl.2.2.2.2.2 (by rw [getD_set_ne2 his]; exact hrest)
      have hr : i ∈ Region.ready md ops listed := by simpa using hl.2.2.2.1
      have hfr := Region.free_spec ho hl.2.2.1
      have hQ' : ∀ c a w, Q (.panic c) (a.put o.dst v) w → Q (.panic c) a w := fun c a w => hQ c a o.dst v w
      have hk := hl.2.2.2.2.1
      match k, hk, hy with
      | 0, hk, hy =>
        simp only [Bool.and_eq_true, Bool.not_eq_true'] at hk
        refine AnyHeld2.first (Inv := fun L => L.getD st false = false) hro ho his (Region.noSelect_spec hs) hQ' (fun L j hL hiL hj hji => ?_) (fun L w' hL hS' => by rw [hL] at hS'; exact hS') r.length listed a w hk.2 hfr hr hy hS hrest'
        by_cases hjs : j = st
        · subst hjs
          exfalso
          obtain ⟨_, oj, hoj, hall⟩ := mem_ready.1 hj
          have hb := hk.1
          simp only [bindsOn, hoj, Array.any_eq_true, Bool.and_eq_true, beq_iff_eq] at hb
          obtain ⟨e, he, hbe, hei⟩ := hb
          have h1 := hall _ (Array.getElem_mem he) hbe
          rw [hei] at h1
          rcases Nat.lt_or_ge i L.size with h' | h'
          · simp [h'] at hiL h1; rw [hiL] at h1; cases h1
          · simp [Array.getElem?_eq_none h'] at h1
        · rw [getD_set_ne2 hjs]
          exact hL
      | 1, _, hy =>
        exact AnyHeld2.first (Inv := fun _ => True) hro ho his (Region.noSelect_spec hs) hQ' (fun _ _ _ _ _ _ => trivial) (fun L w' _ hS' => ⟨_, hS'⟩) r.length listed a w trivial hfr hr hy hS hrest'
      | m + 2, hk, hy =>
        refine AnyHeld2.first (Inv := fun L => L.getD st false = true) hro ho his (Region.noSelect_spec hs) hQ' (fun L j hL hiL hj hji => ?_) (fun L w' hL hS' => by rw [hL] at hS'; exact hS') r.length listed a w hk hfr hr hy hS hrest'
        by_cases hjs : j = st
        · subst hjs
          have : j < L.size := by
            rcases Nat.lt_or_ge j L.size with h' | h'
            · exact h'
            · simp [Array.getD_eq_getD_getElem?, Array.getElem?_eq_none h'] at hL
          simp [Array.getD_eq_getD_getElem?, this]
        · rw [getD_set_ne2 hjs]
          exact hL

theorem wp_region_ord2 {id : Nat} {a : Act} {w : World} (S : Bool → World → Prop) (st : Nat) (hm : P.follows .mixedOrders = true) (ord : List (Nat × Nat)) (hlen : ord.length = ops.size) (hs : Region.noSelect ops = true) (hst : st < ops.size)
    (hl : okOrder2 .any ops st (Array.replicate ops.size false) ord = true) (hQ : ∀ c a d v w, Q (.panic c) (Act.put a d v) w → Q (.panic c) a w)
    (h : Ord2 Fence.wide 0 P ops Q S st (inOrder2 ops.toList ord) false a w.drew) : (Code.region id ops true).wp P Q a w := by
  have e : (Array.replicate ops.size false).getD st false = false := by simp [Array.getD_eq_getD_getElem?, hst]
  have h2 := Ord2.held (md := .any) rfl hs hst hQ ord (Array.replicate ops.size false) a w.drew (by simp) hl (by rw [e]; exact h)
  rw [hlen] at h2
  exact (wpIn_wide (n := 0)).1 (wpIn_region_any hm (AnyHeld2.any _ _ _ _ h2))

theorem Ord2.pre {i : Nat} {rest : List (Nat × Nat × Oper)} {f : Bool} {a a' : Act} {w : World} {o : Oper} {v : Value} (hS : S f w) (hw : Region.wanted o (yielded ops a.tmps) = true)
    (hv : ∀ w, S false w → (execOp a.eval o).run P w = .ok (.value v) w) (hab : ∀ w, S false w → ∀ f, o.about P w a.eval = some f → F.fn f) (ha : a.put o.dst v = a') (h : Ord2 F n P ops Q S st rest f a' w) :
    Ord2 F n P ops Q S st ((1, i, o) :: rest) f a w := ⟨hS, v, ⟨.inl ⟨hw, hv⟩, hab⟩, by rw [ha]; exact h⟩
theorem Ord2.calm {i : Nat} {rest : List (Nat × Nat × Oper)} {f : Bool} {a a' : Act} {w : World} {o : Oper} {v : Value} (hS : S f w) (hw : Region.wanted o (yielded ops a.tmps) = true)
    (hv : ∀ w, (execOp a.eval o).run P w = .ok (.value v) w) (hab : ∀ w, ∀ f, o.about P w a.eval = some f → F.fn f) (ha : a.put o.dst v = a') (h : Ord2 F n P ops Q S st rest f a' w) :
    Ord2 F n P ops Q S st ((2, i, o) :: rest) f a w := ⟨hS, v, ⟨.inl ⟨hw, fun w _ => hv w⟩, fun w _ => hab w⟩, by rw [ha]; exact h⟩
theorem Ord2.post {i : Nat} {rest : List (Nat × Nat × Oper)} {a a' : Act} {w : World} {o : Oper} {v : Value} (hS : S true w) (hw : Region.wanted o (yielded ops a.tmps) = true)
    (hv : ∀ w, S true w → (execOp a.eval o).run P w = .ok (.value v) w) (hab : ∀ w, S true w → ∀ f, o.about P w a.eval = some f → F.fn f) (ha : a.put o.dst v = a') (h : Ord2 F n P ops Q S st rest true a' w) :
    Ord2 F n P ops Q S st ((3, i, o) :: rest) true a w := ⟨hS, v, ⟨.inl ⟨hw, hv⟩, hab⟩, by rw [ha]; exact h⟩
theorem Ord2.idle {k i : Nat} {rest : List (Nat × Nat × Oper)} {f : Bool} {a a' : Act} {w : World} {o : Oper} (hS : S f w) (hw : Region.wanted o (yielded ops a.tmps) = false)
    (hab : ∀ w f, o.about P w a.eval = some f → F.fn f) (ha : a.put o.dst undef = a') (h : Ord2 F n P ops Q S st rest f a' w) :
    Ord2 F n P ops Q S st ((k + 1, i, o) :: rest) f a w := ⟨hS, undef, ⟨.inr ⟨hw, rfl⟩, fun w _ => hab w⟩, by rw [ha]; exact h⟩
theorem Ord2.idle0 {i : Nat} {rest : List (Nat × Nat × Oper)} {f : Bool} {a a' : Act} {w : World} {o : Oper} (hS : S (f || i == st) w) (hw : Region.wanted o (yielded ops a.tmps) = false)
    (hab : ∀ f, o.about P w a.eval = some f → F.fn f) (ha : a.put o.dst undef = a') (h : Ord2 F n P ops Q S st rest (f || i == st) a' w) :
    Ord2 F n P ops Q S st ((0, i, o) :: rest) f a w := by
  unfold Ord2
  rw [if_neg (by rw [hw]; simp), ha]
  exact ⟨hab, hS, h⟩
theorem Ord2.only {i : Nat} {rest : List (Nat × Nat × Oper)} {f f' : Bool} {a : Act} {w : World} {o : Oper} (hw : Region.wanted o (yielded ops a.tmps) = true) (hf : (f || i == st) = f')
    (h : o.wpIn F n P a w (fun a' w' => S f' w' ∧ Ord2 F n P ops Q S st rest f' a' w') Q) : Ord2 F n P ops Q S st ((0, i, o) :: rest) f a w := by
  subst hf
  unfold Ord2
  rw [if_pos hw]
  exact h

/-- What holds ahead of st, and behind it. -/
def two (S0 S1 : World → Prop) : Bool → World → Prop
  | false => S0
  | true => S1
variable {S0 S1 : World → Prop}
/-- One walk in such an order. -/
def Ord3 (n : Nat) (P : Program) (ops : Array Oper) (Q : Exit → Act → World → Prop) (S0 S1 : World → Prop) (st : Nat) (l : List (Nat × Nat × Oper)) (f : Bool) (a : Act) (w : World) : Prop := Ord2 Fence.wide n P ops Q (two S0 S1) st l f a w
theorem wp_region_ord3 {id : Nat} {a : Act} {w : World} (S0 S1 : World → Prop) (st : Nat) (hm : P.follows .mixedOrders = true) (ord : List (Nat × Nat)) (hlen : ord.length = ops.size) (hs : Region.noSelect ops = true) (hst : st < ops.size)
    (hl : okOrder2 .any ops st (Array.replicate ops.size false) ord = true) (hQ : ∀ c a d v w, Q (.panic c) (Act.put a d v) w → Q (.panic c) a w)
    (h : Ord3 0 P ops Q S0 S1 st (inOrder2 ops.toList ord) false a w.drew) : (Code.region id ops true).wp P Q a w := wp_region_ord2 (two S0 S1) st hm ord hlen hs hst hl hQ h
section
variable {i : Nat} {rest : List (Nat × Nat × Oper)} {a a' : Act} {w : World} {o : Oper} {v : Value}
theorem o3_calmF (hS : S0 w) (hw : Region.wanted o (yielded ops a.tmps) = true) (hv : ∀ w, (execOp a.eval o).run P w = .ok (.value v) w) (ha : a.put o.dst v = a') (h : Ord3 n P ops Q S0 S1 st rest false a' w) :
    Ord3 n P ops Q S0 S1 st ((2, i, o) :: rest) false a w := Ord2.calm (S := two S0 S1) (f := false) hS hw hv (fun _ _ _ => trivial) ha h
theorem o3_calmT (hS : S1 w) (hw : Region.wanted o (yielded ops a.tmps) = true) (hv : ∀ w, (execOp a.eval o).run P w = .ok (.value v) w) (ha : a.put o.dst v = a') (h : Ord3 n P ops Q S0 S1 st rest true a' w) :
    Ord3 n P ops Q S0 S1 st ((2, i, o) :: rest) true a w := Ord2.calm (S := two S0 S1) (f := true) hS hw hv (fun _ _ _ => trivial) ha h
theorem o3_pre (hS : S0 w) (hw : Region.wanted o (yielded ops a.tmps) = true) (hv : ∀ w, S0 w → (execOp a.eval o).run P w = .ok (.value v) w) (ha : a.put o.dst v = a') (h : Ord3 n P ops Q S0 S1 st rest false a' w) :
    Ord3 n P ops Q S0 S1 st ((1, i, o) :: rest) false a w := Ord2.pre (S := two S0 S1) (f := false) hS hw hv (fun _ _ _ _ => trivial) ha h
theorem o3_post (hS : S1 w) (hw : Region.wanted o (yielded ops a.tmps) = true) (hv : ∀ w, S1 w → (execOp a.eval o).run P w = .ok (.value v) w) (ha : a.put o.dst v = a') (h : Ord3 n P ops Q S0 S1 st rest true a' w) :
    Ord3 n P ops Q S0 S1 st ((3, i, o) :: rest) true a w := Ord2.post (S := two S0 S1) hS hw hv (fun _ _ _ _ => trivial) ha h
theorem o3_idleF {k : Nat} (hS : S0 w) (hw : Region.wanted o (yielded ops a.tmps) = false) (ha : a.put o.dst undef = a') (h : Ord3 n P ops Q S0 S1 st rest false a' w) :
    Ord3 n P ops Q S0 S1 st ((k + 1, i, o) :: rest) false a w := Ord2.idle (S := two S0 S1) (f := false) hS hw (fun _ _ _ => trivial) ha h
theorem o3_idleT {k : Nat} (hS : S1 w) (hw : Region.wanted o (yielded ops a.tmps) = false) (ha : a.put o.dst undef = a') (h : Ord3 n P ops Q S0 S1 st rest true a' w) :
    Ord3 n P ops Q S0 S1 st ((k + 1, i, o) :: rest) true a w := Ord2.idle (S := two S0 S1) (f := true) hS hw (fun _ _ _ => trivial) ha h
theorem o3_idle0 (hS : S0 w) (hi : (i == st) = false) (hw : Region.wanted o (yielded ops a.tmps) = false) (ha : a.put o.dst undef = a') (h : Ord3 n P ops Q S0 S1 st rest false a' w) :
    Ord3 n P ops Q S0 S1 st ((0, i, o) :: rest) false a w := Ord2.idle0 (S := two S0 S1) (f := false) (by rw [hi]; exact hS) hw (fun _ _ => trivial) ha (by rw [hi]; exact h)
theorem o3_idleS (hS : S1 w) (hi : (i == st) = true) (hw : Region.wanted o (yielded ops a.tmps) = false) (ha : a.put o.dst undef = a') (h : Ord3 n P ops Q S0 S1 st rest true a' w) :
    Ord3 n P ops Q S0 S1 st ((0, i, o) :: rest) false a w := Ord2.idle0 (S := two S0 S1) (f := false) (by rw [hi]; exact hS) hw (fun _ _ => trivial) ha (by rw [hi]; exact h)
theorem o3_onlyF (hi : (i == st) = false) (hw : Region.wanted o (yielded ops a.tmps) = true)
    (h : o.wpIn Fence.wide n P a w (fun a' w' => S0 w' ∧ Ord3 n P ops Q S0 S1 st rest false a' w') Q) : Ord3 n P ops Q S0 S1 st ((0, i, o) :: rest) false a w :=
  Ord2.only (S := two S0 S1) (f := false) (f' := false) hw (by rw [hi]; rfl) h
theorem o3_onlyS (hi : (i == st) = true) (hw : Region.wanted o (yielded ops a.tmps) = true)
    (h : o.wpIn Fence.wide n P a w (fun a' w' => S1 w' ∧ Ord3 n P ops Q S0 S1 st rest true a' w') Q) : Ord3 n P ops Q S0 S1 st ((0, i, o) :: rest) false a w :=
  Ord2.only (S := two S0 S1) (f := false) (f' := true) hw (by rw [hi]; rfl) h
theorem o3_onlyT (hw : Region.wanted o (yielded ops a.tmps) = true)
    (h : o.wpIn Fence.wide n P a w (fun a' w' => S1 w' ∧ Ord3 n P ops Q S0 S1 st rest true a' w') Q) : Ord3 n P ops Q S0 S1 st ((0, i, o) :: rest) true a w :=
  Ord2.only (S := two S0 S1) (f := true) (f' := true) hw rfl h
theorem o3_both (hS : S0 w) (hw : Region.wanted o (yielded ops a.tmps) = true) (hv : ∀ w, S0 w → (execOp a.eval o).run P w = .ok (.value v) w) (hv1 : ∀ w, S1 w → (execOp a.eval o).run P w = .ok (.value v) w) (ha : a.put o.dst v = a') (h : Ord3 n P ops Q S0 S1 st rest false a' w) :
    Ord3 n P ops Q S0 S1 st ((2, i, o) :: rest) false a w :=
  ⟨hS, v, ⟨.inl ⟨hw, fun w hw' => by obtain ⟨f, hf⟩ := hw'; cases f; exact hv w hf; exact hv1 w hf⟩, fun _ _ _ _ => trivial⟩, by rw [ha]; exact h⟩
theorem o3_end (f : Bool) (h : Q .normal a w) : Ord3 n P ops Q S0 S1 st [] f a w := by unfold Ord3; unfold Ord2; exact h
end

end
end Go.Proofs.YtnbgpopjnpdmgaaGreat

namespace Go.Proofs.YtnbgpopjnpdmgaaGreat
open Go

section
variable {n : Nat} {P : Program} {ops : Array Oper} {Q : Exit → Act → World → Prop} {S0 S1 : World → Prop} {st i : Nat} {rest : List (Nat × Nat × Oper)} {a a' : Act} {w w' : World} {o : Oper} {v : Value}

theorem wpIn_val {K : Act → World → Prop} (hrun : (execOp a.eval o).run P w = .ok (.value v) w') (h : K (a.put o.dst v) w') : o.wpIn Fence.wide n P a w K Q := by
  refine ⟨fun _ _ => trivial, ?_⟩
  have e : (o.semAt Fence.wide.round a.eval) = execOp a.eval o := by rw [show Fence.wide.round = none from rfl, Oper.semAt_none]
  rw [e, hrun]
  exact h
theorem wpIn_skip {K : Act → World → Prop} (hrun : (execOp a.eval o).run P w = .ok .skip w') (h : K (a.put o.dst undef) w') : o.wpIn Fence.wide n P a w K Q := by
  refine ⟨fun _ _ => trivial, ?_⟩
  have e : (o.semAt Fence.wide.round a.eval) = execOp a.eval o := by rw [show Fence.wide.round = none from rfl, Oper.semAt_none]
  rw [e, hrun]
  exact h
theorem o3_valF (hi : (i == st) = false) (hw : Region.wanted o (yielded ops a.tmps) = true) (hrun : (execOp a.eval o).run P w = .ok (.value v) w') (ha : a.put o.dst v = a') (hS : S0 w') (h : Ord3 n P ops Q S0 S1 st rest false a' w') :
    Ord3 n P ops Q S0 S1 st ((0, i, o) :: rest) false a w := o3_onlyF hi hw (wpIn_val hrun ⟨hS, by rw [ha]; exact h⟩)
theorem o3_skipS (hi : (i == st) = true) (hw : Region.wanted o (yielded ops a.tmps) = true) (hrun : (execOp a.eval o).run P w = .ok .skip w') (hd : o.dst = none) (hS : S1 w') (h : Ord3 n P ops Q S0 S1 st rest true a w') :
    Ord3 n P ops Q S0 S1 st ((0, i, o) :: rest) false a w := o3_onlyS hi hw (wpIn_skip hrun ⟨hS, by rw [hd]; exact h⟩)
theorem o3_skipT (hw : Region.wanted o (yielded ops a.tmps) = true) (hrun : (execOp a.eval o).run P w = .ok .skip w') (hd : o.dst = none) (hS : S1 w') (h : Ord3 n P ops Q S0 S1 st rest true a w') :
    Ord3 n P ops Q S0 S1 st ((0, i, o) :: rest) true a w := o3_onlyT hw (wpIn_skip hrun ⟨hS, by rw [hd]; exact h⟩)
end
end Go.Proofs.YtnbgpopjnpdmgaaGreat

namespace Go.Proofs.YtnbgpopjnpdmgaaGreat
open Go

/-- Behind the walk comes K. -/
def QK (Q : Exit → Act → World → Prop) (K : Act → World → Prop) (e : Exit) (a : Act) (w : World) : Prop := match e with
  | .normal => K a w
  | e => Q e a w

section
variable {F : Fence} {n : Nat} {P : Program} {ops : Array Oper} {Q : Exit → Act → World → Prop} {md : Region.Mode} {S : Bool → World → Prop} {st : Nat}

theorem letsOut_QK {K : Act → World → Prop} (h : LetsOut (QK Q K)) : LetsOut Q := by
  obtain ⟨a, w, h⟩ := h
  exact ⟨a, w, h⟩

theorem wpIn_QK {o : Oper} {a : Act} {w : World} {K K' : Act → World → Prop} {K2 : Act → World → Prop} (h : ∀ a w, K a w → K' a w)
    (hh : o.wpIn F n P a w K (QK Q K2)) : o.wpIn F n P a w K' Q := by
  unfold Oper.wpIn at *
  refine ⟨hh.1, ?_⟩
  have hh := hh.2
  generalize (o.semAt F.round a.eval).run P w = r at *
  cases r with
  | ok x w' =>
    cases x <;> simp only [Oper.uponIn] at hh ⊢ <;>
      first
        | exact h _ _ hh
        | exact ⟨hh.1, CallsIn.mono hh.2 (fun e w'' he => by cases e <;> first | exact h _ _ he | exact he | exact letsOut_QK he)⟩
        | exact ⟨hh.1, RowsIn.mono hh.2 (fun _ _ he => h _ _ he)⟩
        | exact ⟨hh.1, RoundIn.mono hh.2 (fun e w'' he => by cases e <;> first | exact h _ _ he | exact he | exact letsOut_QK he)⟩
  | halt x w' => cases x <;> simp only [Oper.uponIn] at hh ⊢ <;> exact hh

/-- As okOrder2, of a part. -/
def okPart (md : Region.Mode) (ops : Array Oper) (st : Nat) : Array Bool → List (Nat × Nat) → (Array Bool → Bool) → Bool
  | listed, [], k => k listed
  | listed, (0, i) :: r, k => decide (i < ops.size) && ((Region.ready md ops listed == [i]) && okPart md ops st (listed.setIfInBounds i true) r k)
  | listed, (q + 1, i) :: r, k => decide (i < ops.size) && (decide (i ≠ st) && (Region.free md ops listed i && ((Region.ready md ops listed).contains i &&
      ((match q with | 0 => bindsOn md ops st i && !(listed.getD st false) | 1 => true | _ => listed.getD st false) && okPart md ops st (listed.setIfInBounds i true) r k))))

theorem Ord2.heldK (hro : F.round = none) (hs : Region.noSelect ops = true) (hst : st < ops.size) (hQ : ∀ c a d v w, Q (.panic c) (Act.put a d v) w → Q (.panic c) a w) {K : Act → World → Prop} {k : Array Bool → Bool} {m : Nat} {f0 : Bool}
    (hK : ∀ (L : Array Bool) a w, L.size = ops.size → k L = true → (f0 = false ∨ L.getD st false = f0) → K a w → AnyHeld2 F n P md ops Q S st m L a w) (hk0 : f0 = false) :
    ∀ (ord : List (Nat × Nat)) (listed : Array Bool) (a : Act) (w : World), listed.size = ops.size → okPart md ops st listed ord k = true →
      Ord2 F n P ops (QK Q K) S st (inOrder2 ops.toList ord) (listed.getD st false) a w → AnyHeld2 F n P md ops Q S st (ord.length + m) listed a w := by
  intro ord
  induction ord with
  | nil =>
    intro listed a w hsz hl h
    have := hK listed a w hsz hl (.inl hk0) h
    simpa using this
  | cons p r ih =>
    obtain ⟨q, i⟩ := p
    intro listed a w hsz hl h
    rw [show ((q, i) :: r).length + m = (r.length + m) + 1 by simp; omega]
    have hlt : i < ops.size := by cases q <;> (simp only [okPart, Bool.and_eq_true, decide_eq_true_eq] at hl; exact hl.1)
    have ho : ops[i]? = some ops[i] := Array.getElem?_eq_getElem hlt
    rw [inOrder2_cons ops.toList q i r (o := ops[i]) (by simp [ho])] at h
    generalize ops[i] = o at ho h
    have hset : (listed.setIfInBounds i true).getD st false = (listed.getD st false || i == st) := by
      by_cases hi : i = st
      · subst hi
        simp [Array.getD_eq_getD_getElem?, show i < listed.size by omega]
      · rw [getD_set_ne2 hi]
        simp [hi]
    have hsz2 : (listed.setIfInBounds i true).size = ops.size := by simpa using hsz
    cases q with
    | zero =>
      simp only [okPart, Bool.and_eq_true, beq_iff_eq] at hl
      refine ⟨fun h0 => (by rw [hl.2.1] at h0; cases h0), fun j hj => ?_⟩
      rw [hl.2.1] at hj
      obtain rfl : j = i := by simpa using hj
      unfold Go.wpOpIn
      simp only [ho]
      unfold Ord2 at h
      split at h
      · rename_i hw
        rw [if_pos hw]
        exact wpIn_QK (fun a' w' h' => ⟨by rw [hset]; exact h'.1, ih _ a' w' hsz2 hl.2.2 (by rw [hset]; exact h'.2)⟩) h
      · rename_i hw
        rw [if_neg hw]
        exact ⟨h.1, by rw [hset]; exact h.2.1, ih _ _ w hsz2 hl.2.2 (by rw [hset]; exact h.2.2)⟩
    | succ q =>
      simp only [okPart, Bool.and_eq_true, decide_eq_true_eq] at hl
      obtain ⟨hS, v, hy, hrest⟩ := h
      have his : i ≠ st := hl.2.1
      have hrest' := ih _ _ w hsz2 hl.2.2.2.2.2 (by rw [getD_set_ne2 his]; exact hrest)
      have hr : i ∈ Region.ready md ops listed := by simpa using hl.2.2.2.1
      have hfr := Region.free_spec ho hl.2.2.1
      have hQ' : ∀ c a w, Q (.panic c) (a.put o.dst v) w → Q (.panic c) a w := fun c a w => hQ c a o.dst v w
      have hk := hl.2.2.2.2.1
      match q, hk, hy with
      | 0, hk, hy =>
        simp only [Bool.and_eq_true, Bool.not_eq_true'] at hk
        refine AnyHeld2.first (Inv := fun L => L.getD st false = false) hro ho his (Region.noSelect_spec hs) hQ' (fun L j hL hiL hj hji => ?_) (fun L w' hL hS' => by rw [hL] at hS'; exact hS') (r.length + m) listed a w hk.2 hfr hr hy hS hrest'
        by_cases hjs : j = st
        · subst hjs
          exfalso
          obtain ⟨_, oj, hoj, hall⟩ := mem_ready.1 hj
          have hb := hk.1
          simp only [bindsOn, hoj, Array.any_eq_true, Bool.and_eq_true, beq_iff_eq] at hb
          obtain ⟨e, he, hbe, hei⟩ := hb
          have h1 := hall _ (Array.getElem_mem he) hbe
          rw [hei] at h1
          rcases Nat.lt_or_ge i L.size with h' | h'
          · simp [h'] at hiL h1; rw [hiL] at h1; cases h1
          · simp [Array.getElem?_eq_none h'] at h1
        · rw [getD_set_ne2 hjs]
          exact hL
      | 1, _, hy =>
        exact AnyHeld2.first (Inv := fun _ => True) hro ho his (Region.noSelect_spec hs) hQ' (fun _ _ _ _ _ _ => trivial) (fun L w' _ hS' => ⟨_, hS'⟩) (r.length + m) listed a w trivial hfr hr hy hS hrest'
      | m' + 2, hk, hy =>
        refine AnyHeld2.first (Inv := fun L => L.getD st false = true) hro ho his (Region.noSelect_spec hs) hQ' (fun L j hL hiL hj hji => ?_) (fun L w' hL hS' => by rw [hL] at hS'; exact hS') (r.length + m) listed a w hk hfr hr hy hS hrest'
        by_cases hjs : j = st
        · subst hjs
          have : j < L.size := by
            rcases Nat.lt_or_ge j L.size with h' | h'
            · exact h'
            · simp [Array.getD_eq_getD_getElem?, Array.getElem?_eq_none h'] at hL
          simp [Array.getD_eq_getD_getElem?, this]
        · rw [getD_set_ne2 hjs]
          exact hL

/-- A walk that forks, ahead of st: behind l either i and then t, or j and then u. -/
inductive OT where
  | leaf (l : List (Nat × Nat))
  | fork (l : List (Nat × Nat)) (i : Nat) (t : OT) (j : Nat) (u : OT)
def OT.len : OT → Nat
  | .leaf l => l.length
  | .fork l _ t _ _ => l.length + (t.len + 1)
def okTree (md : Region.Mode) (ops : Array Oper) (st : Nat) : OT → Array Bool → Bool
  | .leaf l, L => okPart md ops st L l (fun L => (Region.ready md ops L).isEmpty)
  | .fork l i t j u, L => okPart md ops st L l (fun L => decide (i < ops.size) && (decide (j < ops.size) && (decide (i ≠ st) && (decide (j ≠ st) && ((L.getD st false == false) && ((Region.ready md ops L == [i, j]) && ((t.len == u.len) && (okTree md ops st t (L.setIfInBounds i true) && okTree md ops st u (L.setIfInBounds j true)))))))))
/-- One operation, with its number. -/
def one2 (ops : Array Oper) (i : Nat) : List (Nat × Nat × Oper) := inOrder2 ops.toList [(0, i)]
/-- The walk. -/
def WalkT (F : Fence) (n : Nat) (P : Program) (ops : Array Oper) (Q : Exit → Act → World → Prop) (S : Bool → World → Prop) (st : Nat) : OT → Act → World → Prop
  | .leaf l, a, w => Ord2 F n P ops (QK Q (Q .normal)) S st (inOrder2 ops.toList l) false a w
  | .fork l i t j u, a, w => Ord2 F n P ops (QK Q (fun a w => Ord2 F n P ops (QK Q (WalkT F n P ops Q S st t)) S st (one2 ops i) false a w ∧ Ord2 F n P ops (QK Q (WalkT F n P ops Q S st u)) S st (one2 ops j) false a w)) S st (inOrder2 ops.toList l) false a w

theorem one2_eq {i : Nat} {o : Oper} (h : ops[i]? = some o) : one2 ops i = [(0, i, o)] := by
  unfold one2
  rw [inOrder2_cons ops.toList 0 i [] (o := o) (by simpa using h)]
  rfl
/-- One step of a fork. -/
theorem fork_one {i : Nat} {K : Act → World → Prop} {m : Nat} {L : Array Bool} (hi : i < ops.size) (his : i ≠ st) (hf : L.getD st false = false) {a : Act} {w : World} (h : Ord2 F n P ops (QK Q K) S st (one2 ops i) false a w)
    (hK : ∀ a w, K a w → AnyHeld2 F n P md ops Q S st m (L.setIfInBounds i true) a w) :
    wpOpIn F n P ops Q i (fun a' w' => S ((L.setIfInBounds i true).getD st false) w' ∧ AnyHeld2 F n P md ops Q S st m (L.setIfInBounds i true) a' w') a w := by
  have ho : ops[i]? = some ops[i] := Array.getElem?_eq_getElem hi
  rw [one2_eq ho] at h
  have e : (L.setIfInBounds i true).getD st false = (false || i == st) := by rw [getD_set_ne2 his, hf]; simp [his]
  unfold Go.wpOpIn
  simp only [ho]
  unfold Ord2 at h
  split at h
  · rename_i hw
    rw [if_pos hw]
    exact wpIn_QK (fun a' w' h' => ⟨by rw [e]; exact h'.1, hK _ _ h'.2⟩) h
  · rename_i hw
    rw [if_neg hw]
    exact ⟨h.1, by rw [e]; exact h.2.1, hK _ _ h.2.2⟩

theorem WalkT.held (hro : F.round = none) (hs : Region.noSelect ops = true) (hst : st < ops.size) (hQ : ∀ c a d v w, Q (.panic c) (Act.put a d v) w → Q (.panic c) a w) :
    ∀ (t : OT) (L : Array Bool) (a : Act) (w : World), L.size = ops.size → L.getD st false = false → okTree md ops st t L = true → WalkT F n P ops Q S st t a w → AnyHeld2 F n P md ops Q S st t.len L a w := by
  intro t
  induction t with
  | leaf l =>
    intro L a w hsz hf hk h
    have := Ord2.heldK (md := md) (K := Q .normal) (m := 0) (f0 := false) hro hs hst hQ (fun L' a w hs' hr _ hq => ⟨by simpa using hr, hq⟩) rfl l L a w hsz hk (by rw [hf]; exact h)
    simpa [OT.len] using this
  | fork l i t j u iht ihu =>
    intro L a w hsz hf hk h
    refine Ord2.heldK (md := md) (m := t.len + 1) (f0 := false) hro hs hst hQ (fun L' a w hs' hr _ hq => ?_) rfl l L a w hsz hk (by rw [hf]; exact h)
    simp only [Bool.and_eq_true, decide_eq_true_eq, beq_iff_eq] at hr
    obtain ⟨h1, h2, h3, h4, h5, h6, h7, h8, h9⟩ := hr
    refine ⟨fun h0 => (by rw [h6] at h0; cases h0), fun x hx => ?_⟩
    rw [h6] at hx
    have hx2 : x = i ∨ x = j := by simpa using hx
    rcases hx2 with rfl | rfl
    · exact fork_one h1 h3 h5 hq.1 (fun a w hw => iht _ a w (by simpa using hs') (by rw [getD_set_ne2 h3]; exact h5) h8 hw)
    · rw [h7]
      exact fork_one h2 h4 h5 hq.2 (fun a w hw => ihu _ a w (by simpa using hs') (by rw [getD_set_ne2 h4]; exact h5) h9 hw)

theorem wp_region_tree {id : Nat} {a : Act} {w : World} (S0 S1 : World → Prop) (st : Nat) (hm : P.follows .mixedOrders = true) (t : OT) (hlen : t.len = ops.size) (hs : Region.noSelect ops = true) (hst : st < ops.size)
    (hl : okTree .any ops st t (Array.replicate ops.size false) = true) (hQ : ∀ c a d v w, Q (.panic c) (Act.put a d v) w → Q (.panic c) a w)
    (h : WalkT Fence.wide 0 P ops Q (two S0 S1) st t a w.drew) : (Code.region id ops true).wp P Q a w := by
  have e : (Array.replicate ops.size false).getD st false = false := by simp [Array.getD_eq_getD_getElem?, hst]
  have h2 := WalkT.held (md := .any) rfl hs hst hQ t (Array.replicate ops.size false) a w.drew (by simp) e hl h
  rw [hlen] at h2
  exact (wpIn_wide (n := 0)).1 (wpIn_region_any hm (AnyHeld2.any _ _ _ _ h2))
end

section
variable {n : Nat} {P : Program} {ops : Array Oper} {Q : Exit → Act → World → Prop} {S0 S1 : World → Prop} {st : Nat} {a : Act} {w : World}
theorem tree_leaf {l : List (Nat × Nat)} (h : Ord3 n P ops (QK Q (Q .normal)) S0 S1 st (inOrder2 ops.toList l) false a w) : WalkT Fence.wide n P ops Q (two S0 S1) st (.leaf l) a w := h
theorem tree_fork {l : List (Nat × Nat)} {i j : Nat} {t u : OT} (h : Ord3 n P ops (QK Q (fun a w => Ord3 n P ops (QK Q (WalkT Fence.wide n P ops Q (two S0 S1) st t)) S0 S1 st (one2 ops i) false a w ∧ Ord3 n P ops (QK Q (WalkT Fence.wide n P ops Q (two S0 S1) st u)) S0 S1 st (one2 ops j) false a w)) S0 S1 st (inOrder2 ops.toList l) false a w) : WalkT Fence.wide n P ops Q (two S0 S1) st (.fork l i t j u) a w := h
theorem tree_end {K : Act → World → Prop} (f : Bool) (h : K a w) : Ord3 n P ops (QK Q K) S0 S1 st [] f a w := by unfold Ord3; unfold Ord2; exact h
end
end Go.Proofs.YtnbgpopjnpdmgaaGreat
