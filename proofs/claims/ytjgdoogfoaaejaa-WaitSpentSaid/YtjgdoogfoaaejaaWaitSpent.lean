/-
  WaitSpent, for every input: the law's Go function returns true, and the arguments read afterwards as they read before. No condition beside those that the given statement itself bears. (Printed by mk_wait.py.)
-/
import Derived.Test.YtjgdoogfoaaejaaRows
import Derived.Test.YtjgdoogfoaaejaaAwake7
import Derived.Test.YtjgdoogfoaaejaaOpen
import Derived.Test.YtjgdoogfoaaejaaPlainW
namespace Go.Proofs.Ytjgdoogfoaaejaa
open Go Go.ChangeShapes Go.WideShapes Go.ChangeAt Go.RowKit

set_option maxRecDepth 100000 in
set_option maxHeartbeats 4000000 in
theorem waitSpent_other (c : Cfg) (many : Int) (w : World) (hm : (Lit.int .u8 many).wf = true) (h : ¬ c.wt = 2) :
    Calls Try.prog 6 #[c.val, .int .u8 many] w fun e w' => e = .returned (.bool true) ∧ Below w.heap.size w w' := by
  obtain ⟨n, rfl, hn⟩ := u8_nat hm
  clear hm
  have D1 := fun W => walk_at (walkTo c n) c n W (walkOf_nat c (by omega))
  have HL := walkTo_length c n
  have HW := Lib.hid (walkTo_wf c n)
  have HA := walkTo_all c n
  have HR := walkTo_range c n
  have b0 := cnts_bounds (walkTo c n) 0
  have b1 := cnts_bounds (walkTo c n) 1
  have b2 := cnts_bounds (walkTo c n) 2
  rw [HL] at b0 b1 b2
  have hw : (c.wt == 2) = false := by simpa using h
  obtain ⟨log, th, pol, wt, sp, yi, single⟩ := c
  dsimp only at *
  generalize walkTo _ n = l at *
  clear HR
  go_enter Try.func6, Try.ntmps6
  go_wp2_with fail
  refine (awake_any _).mono ?_
  rintro e w1 ⟨rfl, hb⟩
  have hS := ((Boxes.nil w 23).add ⟨log, th, pol, wt, sp, yi, single⟩).on hb
  clear hb
  obtain ⟨c0, c1, c2, c3, c4, c5, c6⟩ := cells7 (hS.at_ (B := w.heap.size) (c := ⟨log, th, pol, wt, sp, yi, single⟩) (by simp))
  go_wp2_with fail
  refine (D1 _).mono ?_
  rintro e w2 ⟨A, cap, rfl, hA, hb⟩
  replace hS := hS.on hb
  clear hb c0 c1 c2 c3 c4 c5 c6 D1
  have D2 := fun W h => spent_any l A cap W (by omega) HW.out h
  have hlen : ((l.length : Nat) : Int) = n := by rw [HL]
  rw [HL]
  have HL2 := Lib.hid HL
  rw [HL] at D2
  clear HL hlen
  obtain ⟨b00, b01⟩ := b0
  obtain ⟨b10, b11⟩ := b1
  obtain ⟨b20, b21⟩ := b2
  generalize cnts l 0 = x at *
  generalize cnts l 1 = y at *
  generalize cnts l 2 = z at *
  have q0 : x + y + z = n := HA
  clear HA
  go_wp2_with fail
  refine (D2 _ hA).mono ?_
  rintro e w3 ⟨rfl, hb⟩
  replace hS := hS.on hb
  clear hb hA D2 HW
  obtain ⟨c0, c1, c2, c3, c4, c5, c6⟩ := cells7 (hS.at_ (B := w.heap.size) (c := ⟨log, th, pol, wt, sp, yi, single⟩) (by simp))
  have hB := hS.2
  clear hS
  go_wp2
  clear c0 c1 c2 c3 c4 c5 c6
  go_ret
  exact ⟨rfl, hB⟩

set_option maxRecDepth 100000 in
set_option maxHeartbeats 4000000 in
theorem waitSpent_no (c : Cfg) (many : Int) (w : World) (hm : (Lit.int .u8 many).wf = true) (h : c.wt = 2) (hc : c.ok = false) :
    Calls Try.prog 6 #[c.val, .int .u8 many] w fun e w' => e = .returned (.bool true) ∧ Below w.heap.size w w' := by
  obtain ⟨n, rfl, hn⟩ := u8_nat hm
  clear hm
  have D1 := fun W => walk_at (walkTo c n) c n W (walkOf_nat c (by omega))
  have HL := walkTo_length c n
  have HW := Lib.hid (walkTo_wf c n)
  have HA := walkTo_all c n
  have HR := walkTo_range c n
  have b0 := cnts_bounds (walkTo c n) 0
  have b1 := cnts_bounds (walkTo c n) 1
  have b2 := cnts_bounds (walkTo c n) 2
  rw [HL] at b0 b1 b2
  have D3 := fun W => check_no c W hc
  clear hc
  obtain ⟨log, th, pol, wt, sp, yi, single⟩ := c
  dsimp only at *
  subst h
  generalize walkTo _ n = l at *
  clear HR
  go_enter Try.func6, Try.ntmps6
  go_wp2_with fail
  refine (awake_any _).mono ?_
  rintro e w1 ⟨rfl, hb⟩
  have hS := ((Boxes.nil w 23).add ⟨log, th, pol, 2, sp, yi, single⟩).on hb
  clear hb
  obtain ⟨c0, c1, c2, c3, c4, c5, c6⟩ := cells7 (hS.at_ (B := w.heap.size) (c := ⟨log, th, pol, 2, sp, yi, single⟩) (by simp))
  go_wp2_with fail
  refine (D1 _).mono ?_
  rintro e w2 ⟨A, cap, rfl, hA, hb⟩
  replace hS := hS.on hb
  clear hb c0 c1 c2 c3 c4 c5 c6 D1
  have D2 := fun W h => spent_any l A cap W (by omega) HW.out h
  have hlen : ((l.length : Nat) : Int) = n := by rw [HL]
  rw [HL]
  have HL2 := Lib.hid HL
  rw [HL] at D2
  clear HL hlen
  obtain ⟨b00, b01⟩ := b0
  obtain ⟨b10, b11⟩ := b1
  obtain ⟨b20, b21⟩ := b2
  generalize cnts l 0 = x at *
  generalize cnts l 1 = y at *
  generalize cnts l 2 = z at *
  have q0 : x + y + z = n := HA
  clear HA
  go_wp2_with fail
  refine (D2 _ hA).mono ?_
  rintro e w3 ⟨rfl, hb⟩
  replace hS := hS.on hb
  clear hb hA D2 HW
  obtain ⟨c0, c1, c2, c3, c4, c5, c6⟩ := cells7 (hS.at_ (B := w.heap.size) (c := ⟨log, th, pol, 2, sp, yi, single⟩) (by simp))
  go_wp2_with fail
  refine (D3 _).mono ?_
  rintro e w4 ⟨rfl, hb⟩
  replace hS := hS.on hb
  clear hb c0 c1 c2 c3 c4 c5 c6
  obtain ⟨c0, c1, c2, c3, c4, c5, c6⟩ := cells7 (hS.at_ (B := w.heap.size) (c := ⟨log, th, pol, 2, sp, yi, single⟩) (by simp))
  have hB := hS.2
  clear hS
  go_wp2
  clear c0 c1 c2 c3 c4 c5 c6
  go_ret
  exact ⟨rfl, hB⟩

set_option maxRecDepth 100000 in
set_option maxHeartbeats 4000000 in
theorem waitSpent_yes (c : Cfg) (many : Int) (w : World) (hm : (Lit.int .u8 many).wf = true) (h : c.wt = 2) (hc : c.ok = true) :
    Calls Try.prog 6 #[c.val, .int .u8 many] w fun e w' => e = .returned (.bool true) ∧ Below w.heap.size w w' := by
  obtain ⟨n, rfl, hn⟩ := u8_nat hm
  clear hm
  have D1 := fun W => walk_at (walkTo c n) c n W (walkOf_nat c (by omega))
  have HL := walkTo_length c n
  have HW := Lib.hid (walkTo_wf c n)
  have HA := walkTo_all c n
  have HR := walkTo_range c n
  have b0 := cnts_bounds (walkTo c n) 0
  have b1 := cnts_bounds (walkTo c n) 1
  have b2 := cnts_bounds (walkTo c n) 2
  rw [HL] at b0 b1 b2
  have D3 := fun W => check_ok c W hc
  have HP := walkTo_phased c n hc h
  obtain ⟨p1, p2⟩ := HP
  have r1 := ((Cfg.ok_iff c).1 hc).2.2.2.2
  have r2 := Cfg.most_le c
  obtain ⟨⟨r3, r4⟩, r5, r6⟩ := r1
  have r7 : c.sp ≤ 8 := by omega
  have r8 : c.yi ≤ 8 := by omega
  clear hc r2 r4 r6
  obtain ⟨log, th, pol, wt, sp, yi, single⟩ := c
  dsimp only at *
  subst h
  generalize walkTo _ n = l at *
  clear HR
  go_enter Try.func6, Try.ntmps6
  go_wp2_with fail
  refine (awake_any _).mono ?_
  rintro e w1 ⟨rfl, hb⟩
  have hS := ((Boxes.nil w 23).add ⟨log, th, pol, 2, sp, yi, single⟩).on hb
  clear hb
  obtain ⟨c0, c1, c2, c3, c4, c5, c6⟩ := cells7 (hS.at_ (B := w.heap.size) (c := ⟨log, th, pol, 2, sp, yi, single⟩) (by simp))
  go_wp2_with fail
  refine (D1 _).mono ?_
  rintro e w2 ⟨A, cap, rfl, hA, hb⟩
  replace hS := hS.on hb
  clear hb c0 c1 c2 c3 c4 c5 c6 D1
  have D2 := fun W h => spent_any l A cap W (by omega) HW.out h
  have hlen : ((l.length : Nat) : Int) = n := by rw [HL]
  rw [HL]
  have HL2 := Lib.hid HL
  rw [HL] at D2
  clear HL hlen
  obtain ⟨b00, b01⟩ := b0
  obtain ⟨b10, b11⟩ := b1
  obtain ⟨b20, b21⟩ := b2
  generalize cnts l 0 = x at *
  generalize cnts l 1 = y at *
  generalize cnts l 2 = z at *
  have q0 : x + y + z = n := HA
  clear HA
  go_wp2_with fail
  refine (D2 _ hA).mono ?_
  rintro e w3 ⟨rfl, hb⟩
  replace hS := hS.on hb
  clear hb hA D2 HW
  obtain ⟨c0, c1, c2, c3, c4, c5, c6⟩ := cells7 (hS.at_ (B := w.heap.size) (c := ⟨log, th, pol, 2, sp, yi, single⟩) (by simp))
  go_wp2_with fail
  refine (D3 _).mono ?_
  rintro e w4 ⟨rfl, hb⟩
  replace hS := hS.on hb
  clear hb c0 c1 c2 c3 c4 c5 c6
  have P := Lib.hid (And.intro p1 p2)
  clear p1 p2
  obtain ⟨c0, c1, c2, c3, c4, c5, c6⟩ := cells7 (hS.at_ (B := w.heap.size) (c := ⟨log, th, pol, 2, sp, yi, single⟩) (by simp))
  have hB := hS.2
  clear hS
  go_wp2
  all_goals
    go_ret
    first
      | exact ⟨rfl, hB⟩
      | (obtain ⟨p1, p2⟩ := P.out
         refine ⟨?_, hB⟩
         simp
         omega)

theorem waitSpent_walk (c : Cfg) (many : Int) (w : World) (hm : (Lit.int .u8 many).wf = true) : Calls Try.prog 6 #[c.val, .int .u8 many] w fun e w' => e = .returned (.bool true) ∧ Below w.heap.size w w' := by
  by_cases h : c.wt = 2
  · by_cases hc : c.ok = true
    · exact waitSpent_yes c many w hm h hc
    · exact waitSpent_no c many w hm h (by simpa using hc)
  · exact waitSpent_other c many w hm h

/-! ### The row -/
set_option maxRecDepth 100000 in
theorem waitSpent_lifted (os : Os) (started : os.Started) (H : Type) (enc : TypeId × Value → H) :
    ReturnsInHanded {} Try.checked os 6 .any (Rows.waitSpentSpec.pre6 enc Try.prog Try.f6 Rows.waitSpentRow.domain false) (Rows.waitSpentSpec.post enc Try.prog Try.f6 false true false false) := by
  refine returnsInHanded_of_change (C := Try.checked) own started (by kernel_rfl) Try.func6
    (ChangeSpec.witness6 (enc := enc) (C := Try.checked) false ⟨#[], #[.agg #[.int .i64 0, .int .i64 0, .int .i64 0, .int .i64 0, .int .i64 0, .int .i64 0, .bool false], .int .u8 0], []⟩ 8 (by kernel_rfl) (by kernel_rfl) (by kernel_rfl) (by kernel_rfl)) ?_
  intro W base args ds gs before hval0 hW hcnd _
  have hval : ∀ (j : Nat) t v, Try.f6.params[j]? = some t → args[j]? = some v → Value.okWide Try.prog W .any base t v := hval0
  have hW' := hW
  obtain ⟨p, q, hA0, hV, rfl, hfz, hnd⟩ := hW
  have hA : DataW.TrodAll enc Try.prog W 0 (fun _ => true) true Try.f6.params.toList args.toList ds p := hA0
  rw [Try.params6] at hA hval
  obtain ⟨v0, vs0, d0, ds0, p0, q0, hargs, rfl, rfl, h0, r0⟩ := trodAll_cons hA
  obtain ⟨v1, vs1, d1, ds1, p1, q1, rfl, rfl, rfl, h1, r1⟩ := trodAll_cons r0
  obtain ⟨rfl, rfl, rfl⟩ := trodAll_nil r1
  obtain rfl : args = #[v0, v1] := by cases args; simp_all
  obtain ⟨rfl, rfl⟩ := trodVars_none hV
  have k0 := h0
  have lt0 : ∀ x ∈ p0, x.block < W.heap.size := by obtain ⟨m, hm⟩ := k0; exact DataW.trod_lt m _ _ _ hm
  obtain ⟨c0, rfl, w0⟩ := open_cfg (hval 0 23 v0 rfl rfl) h0
  obtain ⟨a1, rfl, rfl, rfl, w1⟩ := open_int Try.underlying5 (hval 1 5 v1 rfl rfl) h1
  clear hA0 hval0
  refine (waitSpent_walk c0 a1 W w1).mono fun e W' ⟨he, bel⟩ => ?_
  subst he
  exact ⟨_, rfl, _, _, _, [], _, [], hW', trodAll_mk1 (shut_bool Try.underlying4 _), (trodAll_cons_mk (Below.trod laidOut (by kernel_rfl) (of_decide_eq_true (by kernel_rfl)) k0 bel lt0) (trodAll_cons_mk (shut_int Try.underlying5 w1) trodAll_mk0)), rfl, bel.frame _, fun h => by cases h⟩

theorem waitSpent_over : Rows.waitSpentRow.holds Try.pinned (OpenSpec.ofChange Rows.waitSpentSpec) :=
  OpenClaim.holds_of_wide 6 Try.f6 rfl rfl rfl rfl rfl rfl rfl ⟨rfl, rfl, rfl, rfl, rfl⟩ rfl rfl rfl rfl rfl (by kernel_rfl) Try.func6 (by kernel_rfl)
    (of_decide_eq_true (by kernel_rfl)) (by unfold Func.isWrapper; first | (rw [if_pos (by decide +kernel)]; kernel_rfl) | (rw [if_neg (by decide +kernel)]; exact ⟨rfl, rfl⟩))
    (fun os started H enc _ => waitSpent_lifted os started H enc)

/-- The statement. -/
theorem waitSpent_holds : Rows.WaitSpentSaid := waitSpent_over
#print axioms waitSpent_holds

end Go.Proofs.Ytjgdoogfoaaejaa
