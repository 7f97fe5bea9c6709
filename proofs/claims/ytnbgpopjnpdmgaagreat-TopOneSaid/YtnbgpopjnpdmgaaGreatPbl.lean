/-
  DERIVED. Heap2, Law, Grow.
-/
import Derived.Test.YtnbgpopjnpdmgaaGreatPbk
import Derived.Test.YtnbgpopjnpdmgaaGreatPbi
import Derived.Test.YtnbgpopjnpdmgaaGreatPat
set_option linter.unusedVariables false
set_option linter.unusedSimpArgs false

namespace Go.Proofs.YtnbgpopjnpdmgaaGreat
open Go Go.RowKit Go.Shelf

theorem typeAssert_val (v : Value) (W : World) : Sem.run Tryz.prog (Instr.typeAssert (.iface 141 v) 20 141 false) W = .ok v W := by
  have h1 := Tryz.runUnderlying141
  simp [Instr.typeAssert, h1]
theorem downI (base B : Nat) (A : Option Addr) (c : Nat) (l : List Du) (i0 m : Nat) (a b : Int) (w : World) (hX : PileX base B A c l w) (hl : l.length ≤ 1000) (h0 : i0 ≤ l.length) (hm : m ≤ l.length) (ha : a = i0) (hb : b = m) : Calls Tryz.prog 187 #[.iface 174 (.pointer (some ⟨B, 0, none⟩)), .int .i64 a, .int .i64 b] w fun e w' => AnyB e ∧ ∃ l', PileX base B A c l' w' ∧ From l l' ∧ Frame B A w w' := by
  subst ha
  subst hb
  exact heap_down base B A c l i0 m w hX hl h0 hm
theorem upI (base B : Nat) (A : Option Addr) (c : Nat) (l : List Du) (j : Nat) (a : Int) (w : World) (hX : PileX base B A c l w) (hl : l.length ≤ 1000) (hj : j < l.length) (ha : a = j) : Calls Tryz.prog 174 #[.iface 174 (.pointer (some ⟨B, 0, none⟩)), .int .i64 a] w fun e w' => e = .returned (.tuple #[]) ∧ ∃ l', PileX base B A c l' w' ∧ From l l' ∧ Frame B A w w' := by
  subst ha
  exact heap_up base B A c l j w hX hl hj

set_option maxRecDepth 100000 in
set_option maxHeartbeats 4000000 in
theorem heap_init (base B : Nat) (A : Option Addr) (c : Nat) (l : List Du) (w : World) (hX : PileX base B A c l w) (hl : l.length ≤ 1000) :
    Calls Tryz.prog 175 #[.iface 174 (.pointer (some ⟨B, 0, none⟩))] w fun e w' => e = .returned (.tuple #[]) ∧ ∃ l', PileX base B A c l' w' ∧ From l l' ∧ Frame B A w w' := by
  have hq : ((l.length : Int)).tdiv 2 = ((l.length / 2 : Nat) : Int) := rfl
  go_enter Tryz.func175, Tryz.ntmps175
  go_wp2_with (first
      | (go_at_call 211; (with_reducible refine (pile_len base B A c l _ hX).mono ?_); rintro e w2 ⟨rfl, hw⟩; obtain rfl := hw.symm; clear hw))
  go_loopw [3] (fun v wr => ∃ (z : Int) (l2 : List Du), v = .int .i64 z ∧ -1 ≤ z ∧ z < ((l.length / 2 : Nat) : Int) ∧ PileX base B A c l2 wr ∧ From l l2 ∧ Frame B A w wr) (fun v _ => (intOf v + 1).toNat)
  case atStart => exact ⟨((l.length / 2 : Nat) : Int) - 1, l, by go_num, by omega, by omega, hX, From.refl _, Frame.refl _ _ _⟩
  case round =>
    clear hX
    obtain ⟨z, l2, rfl, hz1, hz2, hX, hF, hB⟩ := hrel
    have hlen := hF.1
    have hl2 : l2.length ≤ 1000 := by omega
    by_cases h0 : z ≥ 0
    · go_wp2_with (first
          | (go_at_call 187; (with_reducible refine (downI base B A c l2 z.toNat l.length _ _ _ hX hl2 (by omega) (by omega) (by omega) (by omega)).mono ?_); rintro e w3 ⟨⟨q, rfl⟩, l3, hX3, hF3, hB3⟩; have hB4 := hB.trans hB3; have hF4 := hF.trans hF3))
      go_roundw
      case rel => exact ⟨z - 1, l3, by go_num, by omega, by omega, hX3, hF4, hB4⟩
      case measure => simp [intOf]; omega
    · go_wp2
      go_returns
      exact ⟨rfl, l2, hX, hF, hB⟩

set_option maxRecDepth 100000 in
set_option maxHeartbeats 4000000 in
theorem heap_push (base B : Nat) (A : Option Addr) (c : Nat) (l : List Du) (d : Du) (w : World) (hX : PileX base B A c l w) (hl9 : l.length ≤ 900) :
    Calls Tryz.prog 132 #[.iface 174 (.pointer (some ⟨B, 0, none⟩)), .iface 141 (.agg d.cells.toArray)] w fun e w' => e = .returned (.tuple #[]) ∧ ∃ l', PileAt base B l' w' ∧ From (l ++ [d]) l' ∧ BelowBut base B w w' ∧ Odd w w' := by
  have hl : l.length ≤ 1000 := by omega
  go_enter Tryz.func132, Tryz.ntmps132
  go_wp2_with (first
      | (go_at_call 214; (with_reducible refine (pile_push base B A c l d _ hl hX).mono ?_); rintro e w3 ⟨rfl, ⟨A2, c2, hX2⟩, hB2, hO2⟩; have hle := hX.le; have hln : (l ++ [d]).length = l.length + 1 := (by simp); have hm2 := hX2.hm; have hle2 := hX2.le)
      | (go_at_call 211; (with_reducible refine (pile_len base B A2 c2 (l ++ [d]) _ hX2).mono ?_); rintro e w2 ⟨rfl, hw⟩; obtain rfl := hw.symm; clear hw)
      | (go_at_call 174; (with_reducible refine (upI base B A2 c2 (l ++ [d]) l.length _ _ hX2 (by simp; omega) (by simp) (by simp)).mono ?_); rintro e w4 ⟨rfl, l3, hX3, hF3, hB3⟩; have hBB := hB2.trans (hB3.but hm2 hle2); have hO3 := hO2.trans (hX2.odd hB3)))
  go_returns
  exact ⟨rfl, l3, ⟨A2, c2, hX3⟩, hF3, hBB, hO3⟩

set_option maxRecDepth 100000 in
set_option maxHeartbeats 4000000 in
theorem heap_pop (base B : Nat) (A : Option Addr) (c : Nat) (l : List Du) (w : World) (hX : PileX base B A c l w) (hl : l.length ≤ 1000) (hpos : 0 < l.length) :
    Calls Tryz.prog 176 #[.iface 174 (.pointer (some ⟨B, 0, none⟩))] w fun e w' => ∃ d, e = .returned (.iface 141 (.agg d.cells.toArray)) ∧ d ∈ l ∧ ∃ l', PileX base B A c l' w' ∧ l'.length = l.length - 1 ∧ (∀ x ∈ l', x ∈ l) ∧ Frame B A w w' := by
  go_enter Tryz.func176, Tryz.ntmps176
  go_wp2_with (first
      | (go_at_call 211; (with_reducible refine (pile_len base B A c l _ hX).mono ?_); rintro e w2 ⟨rfl, hw⟩; obtain rfl := hw.symm; clear hw)
      | (go_at_call 215; (with_reducible refine (pSwap base B A c l 0 (l.length - 1) _ _ _ hX (by omega) (by omega) (by omega) (by omega)).mono ?_); rintro e w3 ⟨rfl, l3, hX3, hF3, hB3⟩; have hlen := hF3.1; have hl3 : l3.length ≤ 1000 := (by omega))
      | (go_at_call 187; (with_reducible refine (downI base B A c l3 0 (l.length - 1) _ _ _ hX3 hl3 (by omega) (by omega) (by omega) (by omega)).mono ?_); rintro e w4 ⟨⟨q, rfl⟩, l4, hX4, hF4, hB4⟩; have hB5 := hB3.trans hB4; have hF5 := hF3.trans hF4; have hlen5 := hF5.1)
      | (go_at_call 213; (with_reducible refine (pile_pop base B A c l4 _ (by omega) (by omega) hX4).mono ?_); rintro e w5 ⟨d, rfl, hd, hX5, hB6⟩; have hB7 := hB5.trans hB6))
  go_returns
  exact ⟨d, rfl, hF5.2 d hd, _, hX5, by rw [List.length_take, hlen5]; omega, fun x hx => hF5.2 x (List.mem_of_mem_take hx), hB7⟩

set_option maxRecDepth 100000 in
set_option maxHeartbeats 8000000 in
theorem sorted_any (base B : Nat) (A : Option Addr) (c : Nat) (l : List Du) (w : World) (hX : PileX base B A c l w) (hl : l.length ≤ 1000) :
    Calls Tryz.prog 133 #[.iface 174 (.pointer (some ⟨B, 0, none⟩))] w fun e w' => ∃ (A' : Option Addr) (c' : Nat) (l' : List Du), e = .returned (.slice A' l'.length c') ∧ Mine w' w.heap.size 141 2 A' c' l'.length (dus l') ∧ From l l' ∧ BelowBut base B w w' := by
  obtain ⟨i0, hi, hz0, hz1, hz2⟩ := info_parts du_inf
  have hBw : B < w.heap.size := blk_lt hX.hb
  have hap : ∀ g o t, A = some ⟨g, o, t⟩ → ¬ w.heap.size ≤ g := fun g o t e h => by have := (hX.hm.base g o t e).2; omega
  have hm0 := hX.hm
  have hle0 := hX.le
  have HTA := fun v W => typeAssert_val v W
  go_enter Tryz.func133, Tryz.ntmps133
  go_wp2_with (first
      | (go_at_call 175; (with_reducible refine (heap_init base B A c l _ hX hl).mono ?_); rintro e w1 ⟨rfl, l1, hX1, hF1, hB1⟩))
  clear hX
  go_loopw [2] (fun v wr => ∃ (A' : Option Addr) (c' : Nat) (o2 l2 : List Du), v = .slice A' o2.length c' ∧ o2.length + l2.length = l.length ∧ (∀ d ∈ o2, d ∈ l) ∧ (∀ d ∈ l2, d ∈ l) ∧ PileX base B A c l2 wr ∧ Mine wr w.heap.size 141 2 A' c' o2.length (dus o2) ∧ Frame B A w wr) (fun v _ => match v with | .slice _ n _ => 1001 - n | _ => 0)
  case atStart => exact ⟨none, 0, [], l1, rfl, by simpa using hF1.1, by simp, hF1.2, hX1, World.ownsRow_nil _ _ _ _, hB1⟩
  case round =>
    clear hX1 hB1
    obtain ⟨A', c', o2, l2, rfl, hlen, ho2, hl2, hX, hown, hB⟩ := hrel
    have hszr := hB.size
    by_cases hp : 0 < l2.length
    · have hp' : ((l2.length : Int) > 0) := by omega
      go_wp2_with (first
          | (go_at_call 211; (with_reducible refine (pile_len base B A c l2 _ hX).mono ?_); rintro e w2 ⟨rfl, hw⟩; obtain rfl := hw.symm; clear hw)
          | (go_at_call 176; (with_reducible refine (heap_pop base B A c l2 _ hX (by omega) hp).mono ?_); rintro e w3 ⟨d, rfl, hd, l3, hX3, hlen3, hmem3, hB3⟩; have hsz3 := hB3.size; have hB4 := hB.trans hB3; have hown3 := hown.grown (w' := w3) (fun g o t e => hB3.block g (hown.base g o t e).2 (by have := (hown.base g o t e).1; omega) (fun o2 t2 e2 => hap g o2 t2 e2 (hown.base g o t e).1)))
          | ((with_reducible refine wpList_val (typeAssert_run ?_) ?_); (focus rfl))
          | (at_builtin; go_loud (refine wpList_append_own _ rfl _ _ 127 rfl w.heap.size 141 i0 (.agg #[.int .i64 0, .int .i64 0]) 2 16 Tryz.underlying127 hi hz0 hz1 hz2 rfl (by decide) _ _ _ rfl (World.ownsRow.alloc hown3 _) ⟨w3.heap.size, 0, none⟩ 1 1 d.cells rfl rfl (du_cells w3 d) (one_du d) (by simp only [maxLen]; omega) (by omega) (by simp; omega) ?_); intro v' wz hown' hgrow hnil))
      have hz : Below w.heap.size w3 wz := ((Below.refl w.heap.size w3).alloc (by omega) _).grown hgrow (by simp; omega) (by intro g hg; exact (World.ownsRow.lt hown3 g hg).1)
      have hown2 : wz.ownsRow w.heap.size 141 2 v' (o2 ++ [d]).length (dus (o2 ++ [d])) := by simpa [dus] using hown'
      obtain ⟨A2, c2, rfl⟩ : ∃ A2 c2, v' = .slice A2 (o2 ++ [d]).length c2 := by
        rcases hown2.2 with ⟨e1, e2⟩ | ⟨g, cap, cur, e1, _⟩
        · exact ⟨none, 0, by rw [e1, e2]⟩
        · exact ⟨_, cap, e1⟩
      have hX4 : PileX base B A c l3 wz := ⟨Nat.le_trans hX3.le hz.size, (hz.block B hBw).trans hX3.hb, hX3.hm.grown fun g o t e => hz.block g (by have := hap g o t e; omega)⟩
      have hB5 : Frame B A w wz := ⟨hz.os.trans hB4.os, hz.tape.trans hB4.tape, hz.output.trans hB4.output, Nat.le_trans hB4.size hz.size, fun j hj hn ha => (hz.block j hj).trans (hB4.block j hj hn ha)⟩
      go_roundw
      case rel =>
        refine ⟨A2, c2, o2 ++ [d], l3, by simp, by simp; omega, fun x hx => ?_, fun x hx => hl2 x (hmem3 x hx), hX4, hown2, hB5⟩
        rcases List.mem_append.1 hx with hx | hx
        · exact ho2 x hx
        · rw [List.mem_singleton.1 hx]; exact hl2 d hd
      case measure => simp; omega
    · have hp' : ¬ ((l2.length : Int) > 0) := by omega
      go_wp2_with (first
          | (go_at_call 211; (with_reducible refine (pile_len base B A c l2 _ hX).mono ?_); rintro e w2 ⟨rfl, hw⟩; obtain rfl := hw.symm; clear hw))
      go_ret
      exact ⟨A', c', o2, rfl, hown, ⟨by omega, ho2⟩, hB.but hm0 hle0⟩

end Go.Proofs.YtnbgpopjnpdmgaaGreat

namespace Go.Proofs.YtnbgpopjnpdmgaaGreat
open Go Go.RowKit Go.Shelf

def bit (b : Bool) : Nat := if b then 1 else 0
/-- How many shared things differ. -/
def St.diff (S T : St) : Nat :=
  bit (S.word != T.word) + ((S.slots.zip T.slots).countP fun p => p.1 != p.2) + bit (S.sends != T.sends) + bit (S.recvs != T.recvs) + bit (S.fe != T.fe || S.fl != T.fl) + bit (S.ee != T.ee || S.el != T.el)
/-- What threads share. -/
def St.sh (S : St) : W3 × List Pl × List Int × List Int × (Int × List Int) × (Int × List Int) := (S.word, S.slots, S.sends, S.recvs, (S.fe, S.fl), (S.ee, S.el))
/-- At most one thing was touched. -/
inductive Touch (S : St) : St → Prop where
  | none {T : St} (h : T.sh = S.sh) : Touch S T
  | word {T : St} (x : W3) (h : T.sh = St.sh { S with word := x }) : Touch S T
  | slot {T : St} (i : Nat) (x : Pl) (h : T.sh = St.sh { S with slots := S.slots.set i x }) : Touch S T
  | sends {T : St} (l : List Int) (h : T.sh = St.sh { S with sends := l }) : Touch S T
  | recvs {T : St} (l : List Int) (h : T.sh = St.sh { S with recvs := l }) : Touch S T
  | full {T : St} (e : Int) (l : List Int) (h : T.sh = St.sh { S with fe := e, fl := l }) : Touch S T
  | empty {T : St} (e : Int) (l : List Int) (h : T.sh = St.sh { S with ee := e, el := l }) : Touch S T
theorem zip_self {α : Type} [BEq α] [LawfulBEq α] (l : List α) : ((l.zip l).countP fun p => p.1 != p.2) = 0 := by
  induction l with
  | nil => rfl
  | cons a l ih => simp [ih]
theorem zip_set {α : Type} [BEq α] [LawfulBEq α] (l : List α) (i : Nat) (x : α) : ((l.zip (l.set i x)).countP fun p => p.1 != p.2) ≤ 1 := by
  induction l generalizing i with
  | nil => simp
  | cons a l ih =>
    cases i with
    | zero =>
      have := zip_self l
      simp only [List.set_cons_zero, List.zip_cons_cons, List.countP_cons, this]
      split <;> simp
    | succ i =>
      have := ih i
      simp only [List.set_cons_succ, List.zip_cons_cons, List.countP_cons]
      simpa using this
theorem bit_le (b : Bool) : bit b ≤ 1 := by cases b <;> simp [bit]
theorem bit_no : bit false = 0 := rfl
theorem sh_parts {S T : St} (h : T.sh = S.sh) : T.word = S.word ∧ T.slots = S.slots ∧ T.sends = S.sends ∧ T.recvs = S.recvs ∧ (T.fe = S.fe ∧ T.fl = S.fl) ∧ T.ee = S.ee ∧ T.el = S.el := by
  simpa [St.sh] using h
theorem Touch.le {S T : St} (h : Touch S T) : S.diff T ≤ 1 := by
  cases h
  all_goals
    rename_i h
    obtain ⟨h1, h2, h3, h4, ⟨h5, h6⟩, h7, h8⟩ := sh_parts h
    simp only [St.diff, h1, h2, h3, h4, h5, h6, h7, h8, bne_self_eq_false, Bool.or_self, bit_no, zip_self]
  · omega
  · have := bit_le (S.word != ‹W3›); omega
  · have := zip_set S.slots ‹Nat› ‹Pl›; omega
  · have := bit_le (S.sends != ‹List Int›); omega
  · have := bit_le (S.recvs != ‹List Int›); omega
  · have := bit_le (S.fe != ‹Int› || S.fl != ‹List Int›); omega
  · have := bit_le (S.ee != ‹Int› || S.el != ‹List Int›); omega
theorem mod_sh (S : St) (k : Nat) (f : Th → Th) : (S.mod k f).sh = S.sh := rfl
theorem setTh_sh (S : St) (k : Nat) (t : Th) : (S.setTh k t).sh = S.sh := rfl
theorem tell_sh (S : St) (id kind r o : Int) : (S.tell id kind r o).sh = S.sh := by
  unfold St.tell
  repeat' split
  all_goals rfl
theorem wakeAt_sh (S : St) (id : Int) : (S.wakeAt id).sh = S.sh := by
  unfold St.wakeAt
  repeat' split
  all_goals rfl
theorem wakeAll_sh : ∀ (l : List Int) (S : St), (S.wakeAll l).sh = S.sh
  | [], _ => rfl
  | x :: r, S => (wakeAll_sh r (S.wakeAt x)).trans (wakeAt_sh S x)
theorem ends_sh (S : St) (k : Nat) (t : Th) (r : Int) : (S.ends k t r).sh = S.sh := tell_sh ..
theorem full1_sh (S : St) (k : Nat) (t : Th) : (S.full1 k t).sh = S.sh := by
  unfold St.full1
  repeat' split
  all_goals (first | rfl | exact ends_sh ..)
theorem first1_sh (S : St) (k : Nat) (t : Th) (b : Bool) : (S.first1 k t b).sh = S.sh := by
  unfold St.first1
  repeat' split
  all_goals (first | rfl | exact ends_sh ..)
theorem vain1_sh (S : St) (k : Nat) (t : Th) : (S.vain1 k t).sh = S.sh := by
  unfold St.vain1
  repeat' split
  all_goals (first | rfl | exact ends_sh ..)
theorem setAt_touch {S T : St} {l : List Pl} (h : T.sh = St.sh { S with slots := l }) (hl : l = S.slots ∨ ∃ i x, l = S.slots.set i x) : Touch S T := by
  rcases hl with rfl | ⟨i, x, rfl⟩
  · exact .none h
  · exact .slot i x h
theorem wrt_set (l : List Pl) (p v : Int) : (wrtS l p v).1 = l ∨ ∃ i x, (wrtS l p v).1 = l.set i x := by
  unfold wrtS
  split
  · exact .inr ⟨_, _, rfl⟩
  · exact .inl rfl
theorem rel_set (l : List Pl) (p : Int) : (relS l p).1 = l ∨ ∃ i x, (relS l p).1 = l.set i x := by
  unfold relS
  split
  · exact .inr ⟨_, _, rfl⟩
  · exact .inl rfl
theorem sendAt_touch (S : St) (k : Nat) (t : Th) : Touch S (S.sendAt k t) := by
  unfold St.sendAt
  by_cases h0 : t.pc = 0
  · rw [if_pos h0]
    exact .sends _ rfl
  rw [if_neg h0]
  by_cases h1 : t.pc = 1
  · rw [if_pos h1]
    exact .none (first1_sh ..)
  rw [if_neg h1]
  by_cases h2 : t.pc = 2
  · rw [if_pos h2]
    unfold St.look1
    repeat' split
    all_goals (first | exact .none rfl | exact .none (full1_sh ..) | exact .none (ends_sh ..))
  rw [if_neg h2]
  by_cases h3 : t.pc = 3
  · rw [if_pos h3]
    unfold St.write1
    split
    · exact setAt_touch rfl (wrt_set ..)
    · exact .none rfl
  rw [if_neg h3]
  by_cases h4 : t.pc = 4
  · rw [if_pos h4]
    unfold St.accept1
    repeat' split
    all_goals (first | exact .word _ (tell_sh ..) | exact .word _ rfl | exact .word _ (ends_sh ..))
  rw [if_neg h4]
  by_cases h5 : t.pc = 5
  · rw [if_pos h5]
    exact .none rfl
  rw [if_neg h5]
  by_cases h6 : t.pc = 6
  · rw [if_pos h6]
    split
    · exact .empty _ _ (wakeAt_sh ..)
    · exact .empty _ _ rfl
  rw [if_neg h6]
  by_cases h7 : t.pc = 7
  · rw [if_pos h7]
    unfold St.again1
    split <;> exact .none rfl
  rw [if_neg h7]
  by_cases h8 : t.pc = 8
  · rw [if_pos h8]
    unfold St.commit2
    repeat' split
    all_goals (first | exact .none rfl | exact .full S.fe _ rfl)
  rw [if_neg h8]
  by_cases h9 : t.pc = 9
  · rw [if_pos h9]
    exact .sends _ rfl
  rw [if_neg h9]
  by_cases h10 : t.pc = 10
  · rw [if_pos h10]
    unfold St.evict1
    split
    · exact .word _ (tell_sh ..)
    · exact .word _ rfl
  rw [if_neg h10]
  unfold St.rel1
  split
  · exact setAt_touch rfl (rel_set ..)
  · exact .none rfl
theorem recvAt_touch (S : St) (k : Nat) (t : Th) : Touch S (S.recvAt k t) := by
  unfold St.recvAt
  by_cases h0 : t.pc = 0
  · rw [if_pos h0]
    exact .recvs _ rfl
  rw [if_neg h0]
  by_cases h1 : t.pc = 1
  · rw [if_pos h1]
    exact .none (first1_sh ..)
  rw [if_neg h1]
  by_cases h2 : t.pc = 2
  · rw [if_pos h2]
    unfold St.rlook1
    repeat' split
    all_goals (first | exact .none rfl | exact .none (vain1_sh ..) | exact .none (ends_sh ..))
  rw [if_neg h2]
  by_cases h3 : t.pc = 3
  · rw [if_pos h3]
    unfold St.take1
    repeat' split
    all_goals (first | exact .none rfl | exact .word _ (tell_sh ..) | exact .none (ends_sh ..))
  rw [if_neg h3]
  by_cases h4 : t.pc = 4
  · rw [if_pos h4]
    exact setAt_touch rfl (rel_set ..)
  rw [if_neg h4]
  by_cases h5 : t.pc = 5
  · rw [if_pos h5]
    exact .none rfl
  rw [if_neg h5]
  by_cases h6 : t.pc = 6
  · rw [if_pos h6]
    split
    · exact .full _ _ (wakeAt_sh ..)
    · exact .full _ _ rfl
  rw [if_neg h6]
  by_cases h7 : t.pc = 7
  · rw [if_pos h7]
    unfold St.ragain1
    split <;> exact .none rfl
  rw [if_neg h7]
  by_cases h8 : t.pc = 8
  · rw [if_pos h8]
    unfold St.rcommit2
    repeat' split
    all_goals (first | exact .none rfl | exact .empty S.ee _ rfl)
  rw [if_neg h8]
  exact .recvs _ rfl
theorem closeAt_touch (S : St) (k : Nat) (t : Th) : Touch S (S.closeAt k t) := by
  unfold St.closeAt
  split
  · exact .word _ (tell_sh ..)
  split
  · exact .full _ _ (wakeAll_sh ..)
  · exact .empty _ _ (wakeAll_sh ..)
theorem pick_touch (S : St) (id : Int) : Touch S (S.pick id).1 := by
  unfold St.pick
  split
  · exact .none rfl
  split
  · exact .none rfl
  split
  · exact .none rfl
  split
  · exact .none rfl
  · unfold St.stepOf
    split
    · unfold St.sendStep
      repeat' split
      all_goals (first | exact .none rfl | exact sendAt_touch ..)
    split
    · unfold St.recvStep
      repeat' split
      all_goals (first | exact .none rfl | exact recvAt_touch ..)
    · unfold St.closeStep
      repeat' split
      all_goals (first | exact .none rfl | exact closeAt_touch ..)
/-- No pick changes more than one. -/
theorem pick_one (S : St) (id : Int) : S.diff (S.pick id).1 ≤ 1 := (pick_touch S id).le

end Go.Proofs.YtnbgpopjnpdmgaaGreat

namespace Go.Proofs.YtnbgpopjnpdmgaaGreat
open Go Go.RowKit Go.Shelf

/-- Lines grow by a at most, the log by c. -/
structure Gr (a c : Nat) (S T : St) : Prop where
  g1 : T.slots.length ≤ S.slots.length
  g2 : T.sends.length ≤ S.sends.length + a
  g3 : T.recvs.length ≤ S.recvs.length + a
  g4 : T.fl.length ≤ S.fl.length + a
  g5 : T.el.length ≤ S.el.length + a
  g6 : T.ths.length ≤ S.ths.length
  g7 : T.log.length ≤ S.log.length + c
theorem Gr.refl (S : St) : Gr 0 0 S S := ⟨Nat.le_refl _, Nat.le_refl _, Nat.le_refl _, Nat.le_refl _, Nat.le_refl _, Nat.le_refl _, Nat.le_refl _⟩
theorem Gr.trans {a c a' c' : Nat} {S T U : St} (h : Gr a c S T) (k : Gr a' c' T U) : Gr (a + a') (c + c') S U :=
  ⟨Nat.le_trans k.g1 h.g1, by have := k.g2; have := h.g2; omega, by have := k.g3; have := h.g3; omega, by have := k.g4; have := h.g4; omega, by have := k.g5; have := h.g5; omega, Nat.le_trans k.g6 h.g6, by have := k.g7; have := h.g7; omega⟩
theorem Gr.mono {a c a' c' : Nat} {S T : St} (h : Gr a c S T) (ha : a ≤ a') (hc : c ≤ c') : Gr a' c' S T :=
  ⟨h.g1, by have := h.g2; omega, by have := h.g3; omega, by have := h.g4; omega, by have := h.g5; omega, h.g6, by have := h.g7; omega⟩
theorem mod_gr (S : St) (k : Nat) (f : Th → Th) : Gr 0 0 S (S.mod k f) := ⟨Nat.le_refl _, Nat.le_refl _, Nat.le_refl _, Nat.le_refl _, Nat.le_refl _, by rw [mod_len]; exact Nat.le_refl _, Nat.le_refl _⟩
theorem setTh_gr (S : St) (k : Nat) (t : Th) : Gr 0 0 S (S.setTh k t) := ⟨Nat.le_refl _, Nat.le_refl _, Nat.le_refl _, Nat.le_refl _, Nat.le_refl _, by simp [St.setTh], Nat.le_refl _⟩
theorem tell_gr (S : St) (id kind r o : Int) : Gr 0 1 S (S.tell id kind r o) := by
  unfold St.tell
  split
  · split
    · exact ⟨Nat.le_refl _, Nat.le_refl _, Nat.le_refl _, Nat.le_refl _, Nat.le_refl _, by simp [St.setTh], by simp⟩
    · exact (Gr.refl S).mono (Nat.le_refl _) (by omega)
  · exact (Gr.refl S).mono (Nat.le_refl _) (by omega)
theorem wake_gr (S : St) (id : Int) : Gr 0 0 S (S.wakeAt id) := by
  unfold St.wakeAt
  repeat' split
  all_goals (first | exact Gr.refl S | exact setTh_gr ..)
theorem wakeAll_gr : ∀ (l : List Int) (S : St), Gr 0 0 S (S.wakeAll l)
  | [], S => Gr.refl S
  | x :: r, S => (wake_gr S x).trans (wakeAll_gr r (S.wakeAt x))
theorem ends_gr (S : St) (k : Nat) (t : Th) (r : Int) : Gr 0 1 S (S.ends k t r) := (tell_gr ..).trans (mod_gr ..)
theorem word_gr (S : St) (x : W3) : Gr 0 0 S { S with word := x } := ⟨Nat.le_refl _, Nat.le_refl _, Nat.le_refl _, Nat.le_refl _, Nat.le_refl _, Nat.le_refl _, Nat.le_refl _⟩
theorem up {a c : Nat} {S T : St} (h : Gr a c S T) (ha : a ≤ 1) (hc : c ≤ 1) : Gr 1 1 S T := h.mono ha hc
theorem full1_gr (S : St) (k : Nat) (t : Th) : Gr 1 1 S (S.full1 k t) := by
  unfold St.full1
  repeat' split
  all_goals (first | exact up (ends_gr ..) (by omega) (by omega) | exact up (mod_gr ..) (by omega) (by omega) | exact up ((mod_gr ..).trans (mod_gr ..)) (by omega) (by omega))
theorem first1_gr (S : St) (k : Nat) (t : Th) (b : Bool) : Gr 1 1 S (S.first1 k t b) := by
  unfold St.first1
  repeat' split
  all_goals (first | exact up (ends_gr ..) (by omega) (by omega) | exact up (mod_gr ..) (by omega) (by omega))
theorem vain1_gr (S : St) (k : Nat) (t : Th) : Gr 1 1 S (S.vain1 k t) := by
  unfold St.vain1
  repeat' split
  all_goals (first | exact up (ends_gr ..) (by omega) (by omega) | exact up (mod_gr ..) (by omega) (by omega))
theorem ent_len (l : List Int) (x : Int) : (entL l x).1.length ≤ l.length + 1 := by
  unfold entL
  repeat' split
  all_goals simp
theorem lev_len (l : List Int) (x : Int) : (levL l x).1.length ≤ l.length := by
  unfold levL
  split
  · simp
  · simp only
    rw [List.length_eraseIdx]
    split <;> omega
theorem cmt_len (ep : Int) (l : List Int) (a b : Int) : (cmtE ep l a b).1.length ≤ l.length + 1 := by
  unfold cmtE
  repeat' split
  all_goals (first | exact ent_len .. | simp)
theorem wrt_len (l : List Pl) (p v : Int) : (wrtS l p v).1.length ≤ l.length := by
  unfold wrtS
  split <;> simp [setAt_len]
theorem rel_len (l : List Pl) (p : Int) : (relS l p).1.length ≤ l.length := by
  unfold relS
  split <;> simp [setAt_len]
theorem sends_gr (S : St) (l : List Int) (h : l.length ≤ S.sends.length + 1) : Gr 1 0 S { S with sends := l } := ⟨Nat.le_refl _, h, Nat.le_succ _, Nat.le_succ _, Nat.le_succ _, Nat.le_refl _, Nat.le_refl _⟩
theorem recvs_gr (S : St) (l : List Int) (h : l.length ≤ S.recvs.length + 1) : Gr 1 0 S { S with recvs := l } := ⟨Nat.le_refl _, Nat.le_succ _, h, Nat.le_succ _, Nat.le_succ _, Nat.le_refl _, Nat.le_refl _⟩
theorem full_gr (S : St) (e : Int) (l : List Int) (h : l.length ≤ S.fl.length + 1) : Gr 1 0 S { S with fe := e, fl := l } := ⟨Nat.le_refl _, Nat.le_succ _, Nat.le_succ _, h, Nat.le_succ _, Nat.le_refl _, Nat.le_refl _⟩
theorem empty_gr (S : St) (e : Int) (l : List Int) (h : l.length ≤ S.el.length + 1) : Gr 1 0 S { S with ee := e, el := l } := ⟨Nat.le_refl _, Nat.le_succ _, Nat.le_succ _, Nat.le_succ _, h, Nat.le_refl _, Nat.le_refl _⟩
theorem slots_gr (S : St) (l : List Pl) (h : l.length ≤ S.slots.length) : Gr 1 0 S { S with slots := l } := ⟨h, Nat.le_succ _, Nat.le_succ _, Nat.le_succ _, Nat.le_succ _, Nat.le_refl _, Nat.le_refl _⟩
theorem sendAt_gr (S : St) (k : Nat) (t : Th) : Gr 1 1 S (S.sendAt k t) := by
  unfold St.sendAt
  by_cases h0 : t.pc = 0
  · rw [if_pos h0]
    exact up ((sends_gr S _ (ent_len ..)).trans (mod_gr ..)) (by omega) (by omega)
  rw [if_neg h0]
  by_cases h1 : t.pc = 1
  · rw [if_pos h1]
    exact first1_gr ..
  rw [if_neg h1]
  by_cases h2 : t.pc = 2
  · rw [if_pos h2]
    unfold St.look1
    split
    · exact up ((mod_gr ..).trans (mod_gr ..)) (by omega) (by omega)
    split
    · exact full1_gr ..
    · exact up (ends_gr ..) (by omega) (by omega)
  rw [if_neg h2]
  by_cases h3 : t.pc = 3
  · rw [if_pos h3]
    unfold St.write1
    split
    · exact up ((slots_gr S _ (wrt_len ..)).trans (mod_gr ..)) (by omega) (by omega)
    · exact up (Gr.refl S) (by omega) (by omega)
  rw [if_neg h3]
  by_cases h4 : t.pc = 4
  · rw [if_pos h4]
    unfold St.accept1
    split
    · exact up ((word_gr S _).trans ((tell_gr ..).trans (mod_gr ..))) (by omega) (by omega)
    split
    · exact up ((word_gr S _).trans (mod_gr ..)) (by omega) (by omega)
    · exact up ((word_gr S _).trans (ends_gr ..)) (by omega) (by omega)
  rw [if_neg h4]
  by_cases h5 : t.pc = 5
  · rw [if_pos h5]
    exact up ((mod_gr ..).trans (mod_gr ..)) (by omega) (by omega)
  rw [if_neg h5]
  by_cases h6 : t.pc = 6
  · rw [if_pos h6]
    have hc := (come_len all1 S.ee S.el).1
    split
    · exact up (((empty_gr S _ _ (by omega)).trans (wake_gr ..)).trans (mod_gr ..)) (by omega) (by omega)
    · exact up ((empty_gr S _ _ (by omega)).trans (mod_gr ..)) (by omega) (by omega)
  rw [if_neg h6]
  by_cases h7 : t.pc = 7
  · rw [if_pos h7]
    unfold St.again1
    split <;> exact up (mod_gr ..) (by omega) (by omega)
  rw [if_neg h7]
  by_cases h8 : t.pc = 8
  · rw [if_pos h8]
    have hc := cmt_len S.fe S.fl t.seen k
    unfold St.commit2
    split
    · exact up (mod_gr ..) (by omega) (by omega)
    split
    · exact up (((mod_gr ..).trans (full_gr (S.mod k (Th.at 2)) S.fe _ hc)).trans (mod_gr ..)) (by omega) (by omega)
    · exact up ((mod_gr ..).trans (full_gr (S.mod k (Th.at 2)) S.fe _ hc)) (by omega) (by omega)
  rw [if_neg h8]
  by_cases h9 : t.pc = 9
  · rw [if_pos h9]
    have hc := lev_len S.sends k
    exact up ((sends_gr S _ (by omega)).trans (mod_gr ..)) (by omega) (by omega)
  rw [if_neg h9]
  by_cases h10 : t.pc = 10
  · rw [if_pos h10]
    unfold St.evict1
    split
    · exact up ((word_gr S _).trans ((tell_gr ..).trans (mod_gr ..))) (by omega) (by omega)
    · exact up ((word_gr S _).trans (mod_gr ..)) (by omega) (by omega)
  rw [if_neg h10]
  unfold St.rel1
  split
  · exact up ((slots_gr S _ (rel_len ..)).trans (mod_gr ..)) (by omega) (by omega)
  · exact up (mod_gr ..) (by omega) (by omega)
theorem recvAt_gr (S : St) (k : Nat) (t : Th) : Gr 1 1 S (S.recvAt k t) := by
  unfold St.recvAt
  by_cases h0 : t.pc = 0
  · rw [if_pos h0]
    exact up ((recvs_gr S _ (ent_len ..)).trans (mod_gr ..)) (by omega) (by omega)
  rw [if_neg h0]
  by_cases h1 : t.pc = 1
  · rw [if_pos h1]
    exact first1_gr ..
  rw [if_neg h1]
  by_cases h2 : t.pc = 2
  · rw [if_pos h2]
    unfold St.rlook1
    split
    · exact up (mod_gr ..) (by omega) (by omega)
    split
    · exact vain1_gr ..
    · exact up (ends_gr ..) (by omega) (by omega)
  rw [if_neg h2]
  by_cases h3 : t.pc = 3
  · rw [if_pos h3]
    unfold St.take1
    split
    · exact up ((word_gr S _).trans ((mod_gr ..).trans ((tell_gr ..).trans (mod_gr ..)))) (by omega) (by omega)
    split
    · exact up (mod_gr ..) (by omega) (by omega)
    · exact up (ends_gr ..) (by omega) (by omega)
  rw [if_neg h3]
  by_cases h4 : t.pc = 4
  · rw [if_pos h4]
    exact up ((mod_gr S k _).trans ((slots_gr (S.mod k (Th.gt (rdS S.slots t.reg).1)) _ (rel_len S.slots t.reg)).trans (mod_gr ..))) (by omega) (by omega)
  rw [if_neg h4]
  by_cases h5 : t.pc = 5
  · rw [if_pos h5]
    exact up ((mod_gr ..).trans (mod_gr ..)) (by omega) (by omega)
  rw [if_neg h5]
  by_cases h6 : t.pc = 6
  · rw [if_pos h6]
    have hc := (come_len all1 S.fe S.fl).1
    split
    · exact up (((full_gr S _ _ (by omega)).trans (wake_gr ..)).trans (mod_gr ..)) (by omega) (by omega)
    · exact up ((full_gr S _ _ (by omega)).trans (mod_gr ..)) (by omega) (by omega)
  rw [if_neg h6]
  by_cases h7 : t.pc = 7
  · rw [if_pos h7]
    unfold St.ragain1
    split
    · exact up ((mod_gr ..).trans (mod_gr ..)) (by omega) (by omega)
    · exact up (mod_gr ..) (by omega) (by omega)
  rw [if_neg h7]
  by_cases h8 : t.pc = 8
  · rw [if_pos h8]
    have hc := cmt_len S.ee S.el t.seen k
    unfold St.rcommit2
    split
    · exact up (mod_gr ..) (by omega) (by omega)
    split
    · exact up (((mod_gr ..).trans (empty_gr (S.mod k (Th.at 2)) S.ee _ hc)).trans (mod_gr ..)) (by omega) (by omega)
    · exact up ((mod_gr ..).trans (empty_gr (S.mod k (Th.at 2)) S.ee _ hc)) (by omega) (by omega)
  rw [if_neg h8]
  have hc := lev_len S.recvs k
  exact up ((recvs_gr S _ (by omega)).trans (mod_gr ..)) (by omega) (by omega)
theorem closeAt_gr (S : St) (k : Nat) (t : Th) : Gr 1 1 S (S.closeAt k t) := by
  unfold St.closeAt
  have h1 := (come_len all2 S.fe S.fl).1
  have h2 := (come_len all2 S.ee S.el).1
  split
  · exact up ((word_gr S _).trans ((tell_gr ..).trans (mod_gr ..))) (by omega) (by omega)
  split
  · exact up (((full_gr S _ _ (by omega)).trans (wakeAll_gr ..)).trans (mod_gr ..)) (by omega) (by omega)
  · exact up (((empty_gr S _ _ (by omega)).trans (wakeAll_gr ..)).trans (mod_gr ..)) (by omega) (by omega)
theorem pick_gr (S : St) (id : Int) : Gr 1 1 S (S.pick id).1 := by
  have h0 : Gr 1 1 S S := up (Gr.refl S) (by omega) (by omega)
  unfold St.pick
  split
  · exact h0
  split
  · exact h0
  split
  · exact h0
  split
  · exact h0
  · unfold St.stepOf
    split
    · unfold St.sendStep
      repeat' split
      all_goals (first | exact h0 | exact sendAt_gr ..)
    split
    · unfold St.recvStep
      repeat' split
      all_goals (first | exact h0 | exact recvAt_gr ..)
    · unfold St.closeStep
      repeat' split
      all_goals (first | exact h0 | exact closeAt_gr ..)
theorem invoke_gr (S : St) (id kind x y : Int) : Gr 1 1 S (S.invoke id kind x y).1 := by
  have h0 : Gr 1 1 S S := up (Gr.refl S) (by omega) (by omega)
  unfold St.invoke
  repeat' split
  all_goals (first | exact h0 | exact up (setTh_gr ..) (by omega) (by omega))
/-- All lists are no longer than n. -/
def St.upto (S : St) (n : Nat) : Prop := S.slots.length ≤ n ∧ S.sends.length ≤ n ∧ S.recvs.length ≤ n ∧ S.fl.length ≤ n ∧ S.el.length ≤ n ∧ S.ths.length ≤ n ∧ S.log.length ≤ n
theorem Gr.upto {S T : St} (h : Gr 1 1 S T) {n : Nat} (hn : S.upto n) : T.upto (n + 1) := by
  obtain ⟨h1, h2, h3, h4, h5, h6, h7⟩ := hn
  obtain ⟨g1, g2, g3, g4, g5, g6, g7⟩ := h
  exact ⟨by omega, by omega, by omega, by omega, by omega, by omega, by omega⟩
theorem St.upto.small {S : St} {n : Nat} (h : S.upto n) (hn : n ≤ 1000) : S.small := by
  obtain ⟨h1, h2, h3, h4, h5, h6, h7⟩ := h
  exact ⟨by omega, by omega, by omega, by omega, by omega, by omega, by omega⟩

end Go.Proofs.YtnbgpopjnpdmgaaGreat
