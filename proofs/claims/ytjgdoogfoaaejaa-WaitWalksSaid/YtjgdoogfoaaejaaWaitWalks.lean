/-
  WaitWalks, for every input: the law's Go function returns true, and the arguments read afterwards as they read before. No condition beside those that the given statement itself bears. (Printed by mk_wait.py.)
-/
import Derived.Test.YtjgdoogfoaaejaaRows
import Derived.Test.YtjgdoogfoaaejaaAwake7
import Derived.Test.YtjgdoogfoaaejaaOpen
import Derived.Test.YtjgdoogfoaaejaaPlainW
import Derived.Test.YtjgdoogfoaaejaaWalkC
namespace Go.Proofs.Ytjgdoogfoaaejaa
open Go Go.ChangeShapes Go.WideShapes Go.ChangeAt Go.RowKit

theorem readsI_take {w : World} {B : Nat} {A : Option Addr} {l : List Int} (k : Nat) (h : ReadsI w B A l) : ReadsI w B A (l.take k) := fun hl => by
  rw [List.length_take] at hl
  obtain ⟨b, off, e, hB, hc⟩ := h (by omega)
  refine ⟨b, off, e, hB, fun i x hi => hc i x ?_⟩
  rw [List.getElem?_take] at hi
  split at hi
  · exact hi
  · cases hi

set_option maxRecDepth 100000 in
set_option maxHeartbeats 4000000 in
theorem waitWalks_lt (c : Cfg) (a b : Int) (w : World) (ha : (Lit.int .u8 a).wf = true) (hb : (Lit.int .u8 b).wf = true) (h : a < b) :
    Calls Try.prog 7 #[c.val, .int .u8 a, .int .u8 b] w fun e w' => e = .returned (.bool true) ∧ Below w.heap.size w w' := by
  obtain ⟨x, rfl, hx⟩ := u8_nat ha
  obtain ⟨y, rfl, hy⟩ := u8_nat hb
  clear ha hb
  have D1 := fun W => walk_at (walkTo c x) c x W (walkOf_nat c (by omega))
  have D2 := fun W => walkc_at (walkTo c y) c y W (walkOf_nat c (by omega))
  have HL1 := walkTo_length c x
  have HL2 := walkTo_length c y
  have HT := walkTo_take c (a := x) (b := y) (by omega)
  obtain ⟨log, th, pol, wt, sp, yi, single⟩ := c
  generalize walkTo _ x = l1 at *
  generalize walkTo _ y = l2 at *
  have ht : (l2.take x).length = x := by rw [HT, HL1]
  have D3 := fun W A B ca cb (hA : ReadsI W W.heap.size A l1) (hB : ReadsI W W.heap.size B (l2.take x)) => ints_at_ (w := W) (A := A) (B := B) (a := l1) (b := l2.take x) (ca := ca) (cb := cb) true (by omega) (by omega) hA hB (by simp [HT])
  rw [HL1, ht] at D3
  have HL1' := Lib.hid HL1
  have HL2' := Lib.hid HL2
  clear HL1 HL2 HT ht
  go_enter Try.func7, Try.ntmps7
  go_wp2_with fail
  refine (awake_any _).mono ?_
  rintro e w1 ⟨rfl, hb⟩
  have hS := ((Boxes.nil w 23).add ⟨log, th, pol, wt, sp, yi, single⟩).on hb
  clear hb
  obtain ⟨c0, c1, c2, c3, c4, c5, c6⟩ := cells7 (hS.at_ (B := w.heap.size) (c := ⟨log, th, pol, wt, sp, yi, single⟩) (by simp))
  go_wp2_with fail
  refine (D1 _).mono ?_
  rintro e w2 ⟨A, ca, rfl, hA, hb⟩
  rw [HL1'.out]
  replace hS := hS.on hb
  clear hb c0 c1 c2 c3 c4 c5 c6
  obtain ⟨c0, c1, c2, c3, c4, c5, c6⟩ := cells7 (hS.at_ (B := w.heap.size) (c := ⟨log, th, pol, wt, sp, yi, single⟩) (by simp))
  go_wp2_with fail
  refine (D2 _).mono ?_
  rintro e w3 ⟨B, cb, rfl, hC, hb, hcap⟩
  rw [HL2'.out]
  rw [HL2'.out] at hcap
  replace hS := hS.on hb
  replace hA := hA.on hb
  clear hb c0 c1 c2 c3 c4 c5 c6 D1 D2
  have hC2 := readsI_take x hC
  clear hC
  rcases hcap with ⟨rfl, hnil, rfl⟩ | ⟨g, rfl, hcap⟩
  · have z0 : y = 0 := by rw [← HL2'.out, hnil]; rfl
    exfalso
    omega
  · go_wp2_with fail
    refine (D3 _ _ _ _ _ hA hC2).mono ?_
    rintro e w4 ⟨rfl, hb⟩
    replace hS := hS.on hb
    clear hb hA hC2 D3
    have hB := hS.2
    clear hS
    go_wp2
    go_ret
    exact ⟨rfl, hB⟩

set_option maxRecDepth 100000 in
set_option maxHeartbeats 4000000 in
theorem waitWalks_gt (c : Cfg) (a b : Int) (w : World) (ha : (Lit.int .u8 a).wf = true) (hb : (Lit.int .u8 b).wf = true) (h : b < a) :
    Calls Try.prog 7 #[c.val, .int .u8 a, .int .u8 b] w fun e w' => e = .returned (.bool true) ∧ Below w.heap.size w w' := by
  obtain ⟨x, rfl, hx⟩ := u8_nat ha
  obtain ⟨y, rfl, hy⟩ := u8_nat hb
  clear ha hb
  have D1 := fun W => walk_at (walkTo c y) c y W (walkOf_nat c (by omega))
  have D2 := fun W => walkc_at (walkTo c x) c x W (walkOf_nat c (by omega))
  have HL1 := walkTo_length c y
  have HL2 := walkTo_length c x
  have HT := walkTo_take c (a := y) (b := x) (by omega)
  obtain ⟨log, th, pol, wt, sp, yi, single⟩ := c
  generalize walkTo _ y = l1 at *
  generalize walkTo _ x = l2 at *
  have ht : (l2.take y).length = y := by rw [HT, HL1]
  have D3 := fun W A B ca cb (hA : ReadsI W W.heap.size A l1) (hB : ReadsI W W.heap.size B (l2.take y)) => ints_at_ (w := W) (A := A) (B := B) (a := l1) (b := l2.take y) (ca := ca) (cb := cb) true (by omega) (by omega) hA hB (by simp [HT])
  rw [HL1, ht] at D3
  have HL1' := Lib.hid HL1
  have HL2' := Lib.hid HL2
  clear HL1 HL2 HT ht
  go_enter Try.func7, Try.ntmps7
  go_wp2_with fail
  refine (awake_any _).mono ?_
  rintro e w1 ⟨rfl, hb⟩
  have hS := ((Boxes.nil w 23).add ⟨log, th, pol, wt, sp, yi, single⟩).on hb
  clear hb
  obtain ⟨c0, c1, c2, c3, c4, c5, c6⟩ := cells7 (hS.at_ (B := w.heap.size) (c := ⟨log, th, pol, wt, sp, yi, single⟩) (by simp))
  go_wp2_with fail
  refine (D1 _).mono ?_
  rintro e w2 ⟨A, ca, rfl, hA, hb⟩
  rw [HL1'.out]
  replace hS := hS.on hb
  clear hb c0 c1 c2 c3 c4 c5 c6
  obtain ⟨c0, c1, c2, c3, c4, c5, c6⟩ := cells7 (hS.at_ (B := w.heap.size) (c := ⟨log, th, pol, wt, sp, yi, single⟩) (by simp))
  go_wp2_with fail
  refine (D2 _).mono ?_
  rintro e w3 ⟨B, cb, rfl, hC, hb, hcap⟩
  rw [HL2'.out]
  rw [HL2'.out] at hcap
  replace hS := hS.on hb
  replace hA := hA.on hb
  clear hb c0 c1 c2 c3 c4 c5 c6 D1 D2
  have hC2 := readsI_take y hC
  clear hC
  rcases hcap with ⟨rfl, hnil, rfl⟩ | ⟨g, rfl, hcap⟩
  · have z0 : x = 0 := by rw [← HL2'.out, hnil]; rfl
    exfalso
    omega
  · go_wp2_with fail
    refine (D3 _ _ _ _ _ hA hC2).mono ?_
    rintro e w4 ⟨rfl, hb⟩
    replace hS := hS.on hb
    clear hb hA hC2 D3
    have hB := hS.2
    clear hS
    go_wp2
    go_ret
    exact ⟨rfl, hB⟩

set_option maxRecDepth 100000 in
set_option maxHeartbeats 4000000 in
theorem waitWalks_eq (c : Cfg) (a b : Int) (w : World) (ha : (Lit.int .u8 a).wf = true) (hb : (Lit.int .u8 b).wf = true) (h : a = b) :
    Calls Try.prog 7 #[c.val, .int .u8 a, .int .u8 b] w fun e w' => e = .returned (.bool true) ∧ Below w.heap.size w w' := by
  obtain ⟨x, rfl, hx⟩ := u8_nat ha
  obtain ⟨y, rfl, hy⟩ := u8_nat hb
  clear ha hb
  obtain rfl : x = y := by omega
  have D1 := fun W => walk_at (walkTo c x) c x W (walkOf_nat c (by omega))
  have D2 := fun W => walkc_at (walkTo c x) c x W (walkOf_nat c (by omega))
  have HL1 := walkTo_length c x
  have HL2 := walkTo_length c x
  have HT := walkTo_take c (a := x) (b := x) (by omega)
  obtain ⟨log, th, pol, wt, sp, yi, single⟩ := c
  generalize walkTo _ x = l1 at *
  have ht : (l1.take x).length = x := by rw [HT, HL1]
  have D3 := fun W A B ca cb (hA : ReadsI W W.heap.size A l1) (hB : ReadsI W W.heap.size B (l1.take x)) => ints_at_ (w := W) (A := A) (B := B) (a := l1) (b := l1.take x) (ca := ca) (cb := cb) true (by omega) (by omega) hA hB (by simp [HT])
  rw [HL1, ht] at D3
  have HL1' := Lib.hid HL1
  have HL2' := Lib.hid HL2
  clear HL1 HL2 HT ht
  go_enter Try.func7, Try.ntmps7
  go_wp2_with fail
  refine (awake_any _).mono ?_
  rintro e w1 ⟨rfl, hb⟩
  have hS := ((Boxes.nil w 23).add ⟨log, th, pol, wt, sp, yi, single⟩).on hb
  clear hb
  obtain ⟨c0, c1, c2, c3, c4, c5, c6⟩ := cells7 (hS.at_ (B := w.heap.size) (c := ⟨log, th, pol, wt, sp, yi, single⟩) (by simp))
  go_wp2_with fail
  refine (D1 _).mono ?_
  rintro e w2 ⟨A, ca, rfl, hA, hb⟩
  rw [HL1'.out]
  replace hS := hS.on hb
  clear hb c0 c1 c2 c3 c4 c5 c6
  obtain ⟨c0, c1, c2, c3, c4, c5, c6⟩ := cells7 (hS.at_ (B := w.heap.size) (c := ⟨log, th, pol, wt, sp, yi, single⟩) (by simp))
  go_wp2_with fail
  refine (D2 _).mono ?_
  rintro e w3 ⟨B, cb, rfl, hC, hb, hcap⟩
  rw [HL2'.out]
  rw [HL2'.out] at hcap
  replace hS := hS.on hb
  replace hA := hA.on hb
  clear hb c0 c1 c2 c3 c4 c5 c6 D1 D2
  have hC2 := readsI_take x hC
  clear hC
  rcases hcap with ⟨rfl, hnil, rfl⟩ | ⟨g, rfl, hcap⟩
  · have z0 : x = 0 := by rw [← HL2'.out, hnil]; rfl
    subst z0
    go_wp2_with fail
    refine (D3 _ _ _ _ _ hA hC2).mono ?_
    rintro e w4 ⟨rfl, hb⟩
    replace hS := hS.on hb
    clear hb hA hC2 D3
    have hB := hS.2
    clear hS
    go_wp2
    go_ret
    exact ⟨rfl, hB⟩
  · go_wp2_with fail
    refine (D3 _ _ _ _ _ hA hC2).mono ?_
    rintro e w4 ⟨rfl, hb⟩
    replace hS := hS.on hb
    clear hb hA hC2 D3
    have hB := hS.2
    clear hS
    go_wp2
    go_ret
    exact ⟨rfl, hB⟩

theorem waitWalks_walk (c : Cfg) (a b : Int) (w : World) (ha : (Lit.int .u8 a).wf = true) (hb : (Lit.int .u8 b).wf = true) : Calls Try.prog 7 #[c.val, .int .u8 a, .int .u8 b] w fun e w' => e = .returned (.bool true) ∧ Below w.heap.size w w' := by
  by_cases h : a < b
  · exact waitWalks_lt c a b w ha hb h
  · by_cases h2 : b < a
    · exact waitWalks_gt c a b w ha hb h2
    · exact waitWalks_eq c a b w ha hb (by omega)

/-! ### The row -/
set_option maxRecDepth 100000 in
theorem waitWalks_lifted (os : Os) (started : os.Started) (H : Type) (enc : TypeId × Value → H) :
    ReturnsInHanded {} Try.checked os 7 .any (Rows.waitWalksSpec.pre6 enc Try.prog Try.f7 Rows.waitWalksRow.domain false) (Rows.waitWalksSpec.post enc Try.prog Try.f7 false true false false) := by
  refine returnsInHanded_of_change (C := Try.checked) own started (by kernel_rfl) Try.func7
    (ChangeSpec.witness6 (enc := enc) (C := Try.checked) false ⟨#[], #[.agg #[.int .i64 0, .int .i64 0, .int .i64 0, .int .i64 0, .int .i64 0, .int .i64 0, .bool false], .int .u8 0, .int .u8 0], []⟩ 8 (by kernel_rfl) (by kernel_rfl) (by kernel_rfl) (by kernel_rfl)) ?_
  intro W base args ds gs before hval0 hW hcnd _
  have hval : ∀ (j : Nat) t v, Try.f7.params[j]? = some t → args[j]? = some v → Value.okWide Try.prog W .any base t v := hval0
  have hW' := hW
  obtain ⟨p, q, hA0, hV, rfl, hfz, hnd⟩ := hW
  have hA : DataW.TrodAll enc Try.prog W 0 (fun _ => true) true Try.f7.params.toList args.toList ds p := hA0
  rw [Try.params7] at hA hval
  obtain ⟨v0, vs0, d0, ds0, p0, q0, hargs, rfl, rfl, h0, r0⟩ := trodAll_cons hA
  obtain ⟨v1, vs1, d1, ds1, p1, q1, rfl, rfl, rfl, h1, r1⟩ := trodAll_cons r0
  obtain ⟨v2, vs2, d2, ds2, p2, q2, rfl, rfl, rfl, h2, r2⟩ := trodAll_cons r1
  obtain ⟨rfl, rfl, rfl⟩ := trodAll_nil r2
  obtain rfl : args = #[v0, v1, v2] := by cases args; simp_all
  obtain ⟨rfl, rfl⟩ := trodVars_none hV
  have k0 := h0
  have lt0 : ∀ x ∈ p0, x.block < W.heap.size := by obtain ⟨m, hm⟩ := k0; exact DataW.trod_lt m _ _ _ hm
  obtain ⟨c0, rfl, w0⟩ := open_cfg (hval 0 23 v0 rfl rfl) h0
  obtain ⟨a1, rfl, rfl, rfl, w1⟩ := open_int Try.underlying5 (hval 1 5 v1 rfl rfl) h1
  obtain ⟨a2, rfl, rfl, rfl, w2⟩ := open_int Try.underlying5 (hval 2 5 v2 rfl rfl) h2
  clear hA0 hval0
  refine (waitWalks_walk c0 a1 a2 W w1 w2).mono fun e W' ⟨he, bel⟩ => ?_
  subst he
  exact ⟨_, rfl, _, _, _, [], _, [], hW', trodAll_mk1 (shut_bool Try.underlying4 _), (trodAll_cons_mk (Below.trod laidOut (by kernel_rfl) (of_decide_eq_true (by kernel_rfl)) k0 bel lt0) (trodAll_cons_mk (shut_int Try.underlying5 w1) (trodAll_cons_mk (shut_int Try.underlying5 w2) trodAll_mk0))), rfl, bel.frame _, fun h => by cases h⟩

theorem waitWalks_over : Rows.waitWalksRow.holds Try.pinned (OpenSpec.ofChange Rows.waitWalksSpec) :=
  OpenClaim.holds_of_wide 7 Try.f7 rfl rfl rfl rfl rfl rfl rfl ⟨rfl, rfl, rfl, rfl, rfl⟩ rfl rfl rfl rfl rfl (by kernel_rfl) Try.func7 (by kernel_rfl)
    (of_decide_eq_true (by kernel_rfl)) (by unfold Func.isWrapper; first | (rw [if_pos (by decide +kernel)]; kernel_rfl) | (rw [if_neg (by decide +kernel)]; exact ⟨rfl, rfl⟩))
    (fun os started H enc _ => waitWalks_lifted os started H enc)

/-- The statement. -/
theorem waitWalks_holds : Rows.WaitWalksSaid := waitWalks_over
#print axioms waitWalks_holds

end Go.Proofs.Ytjgdoogfoaaejaa
