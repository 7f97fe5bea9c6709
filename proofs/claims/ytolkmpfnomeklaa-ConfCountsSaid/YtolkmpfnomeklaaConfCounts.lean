/-
  ConfCounts, for every two lists of configurations: the law's Go function returns true, and the arguments read afterwards as they read before. No condition beside those that the given statement itself bears.
-/
import Derived.Test.YtolkmpfnomeklaaRows
import Derived.Test.YtolkmpfnomeklaaOpen
import Derived.Test.YtolkmpfnomeklaaAppend
namespace Go.Proofs.Ytolkmpfnomeklaa
open Go Go.ChangeShapes Go.WideShapes Go.ChangeAt Go.RowKit

theorem flatC_length : ∀ (l : List Cfg), (flatC l).length = l.length * 7
  | [] => rfl
  | c :: l => by
    have h := flatC_length l
    have h2 : (flatC (c :: l)).length = (flatC l).length + 7 := rfl
    rw [h2, h, List.length_cons]
    omega
theorem flatC_append (k l : List Cfg) : flatC (k ++ l) = flatC k ++ flatC l := by simp [flatC]
theorem flatC_inv : ∀ (l : List Cfg) (j : Nat) (u : Value), (flatC l)[j]? = some u → ∃ c : Cfg, l[j / 7]? = some c ∧ c.cells[j % 7]? = some u
  | [], j, u, h => by simp [flatC] at h
  | c :: l, j, u, h => by
    have h7 : c.cells.toList.length = 7 := rfl
    rw [flatC_cons] at h
    rcases Nat.lt_or_ge j 7 with hj | hj
    · rw [List.getElem?_append_left (by omega)] at h
      refine ⟨c, ?_, ?_⟩
      · rw [Nat.div_eq_of_lt hj]; rfl
      · rw [Nat.mod_eq_of_lt hj]; simpa using h
    · rw [List.getElem?_append_right (by omega), h7] at h
      obtain ⟨d, hd, hu⟩ := flatC_inv l (j - 7) u h
      refine ⟨d, ?_, ?_⟩
      · rw [show j / 7 = (j - 7) / 7 + 1 by omega, List.getElem?_cons_succ]; exact hd
      · rw [show j % 7 = (j - 7) % 7 by omega]; exact hu
theorem flatC_one (l : List Cfg) : ∀ u ∈ flatC l, u.oneCell' = true := by
  intro u hu
  simp only [flatC, List.mem_flatMap] at hu
  obtain ⟨c, _, hc⟩ := hu
  simp only [List.mem_cons, List.not_mem_nil, or_false] at hc
  rcases hc with rfl | rfl | rfl | rfl | rfl | rfl | rfl <;> rfl

theorem reads_flat {w : World} {B : Nat} {A : Option Addr} {l : List Cfg} (h : ReadsC w B A l) : Reads w B 7 A l.length (flatC l) :=
  ⟨flatC_length l, fun hn => by
    obtain ⟨b, off, rfl, hb, hc⟩ := h hn
    refine ⟨_, rfl, hb, fun j u hu => ?_⟩
    obtain ⟨c, hc1, hc2⟩ := flatC_inv l j u hu
    have := hc _ _ hc1 _ _ hc2
    rw [Addr.add_lit]
    rwa [show j / 7 * 7 + j % 7 = j by omega] at this⟩
theorem reads_ownC {w : World} {base n : Nat} {e : TypeId} {v : Value} {l : List Cfg} (h : w.ownsRow base e 7 v n (flatC l)) : ∃ A cap, v = .slice A l.length cap ∧ ReadsC w w.heap.size A l := by
  have hn : n = l.length := by
    have := h.1
    rw [flatC_length] at this
    omega
  subst hn
  by_cases hpos : 0 < l.length
  · obtain ⟨g, cap, hv, _, hlt⟩ := h.form hpos
    refine ⟨some ⟨g, 0, none⟩, cap, hv, fun _ => ⟨g, 0, rfl, hlt, fun i c hi j x hj => ?_⟩⟩
    have := h.cells (g := g) (by rw [hv]; rfl) _ _ (flatC_get l i c j x hi hj)
    simpa [Addr.add_lit] using this
  · have hl : l = [] := List.eq_nil_of_length_eq_zero (by omega)
    subst hl
    rcases h.2 with ⟨rfl, _⟩ | ⟨g, cap, cur, rfl, _⟩
    · exact ⟨none, 0, rfl, fun h => by cases h⟩
    · exact ⟨some ⟨g, 0, none⟩, cap, rfl, fun h => by cases h⟩
theorem ReadsC.on {w w' : World} {A : Option Addr} {l : List Cfg} (h : ReadsC w w.heap.size A l) (hb : Below w.heap.size w w') : ReadsC w' w'.heap.size A l := fun hl => by
  obtain ⟨b, off, e, hB, hc⟩ := (h.below hb) hl
  exact ⟨b, off, e, by have := hb.size; omega, hc⟩
theorem own_baseC {w : World} {base : Nat} {e : TypeId} {size n : Nat} {v : Value} {xs : List Value} (h : w.ownsRow base e size v n xs) {g : Nat} (hg : v.ownBlock = some g) : base ≤ g := (h.lt g hg).1

theorem cfg_info : (Try.prog.info? 23).map (fun i => (i.zero, i.size, i.bytes)) = some (some (.agg #[.int .i64 0, .int .i64 0, .int .i64 0, .int .i64 0, .int .i64 0, .int .i64 0, .bool false]), 7, 56) := by kernel_rfl

/-! ### The plain part -/
theorem cnt_append (k l : List Cfg) : cnt (k ++ l) = cnt k + cnt l := by simp [cnt]
theorem rooms_append (k l : List Cfg) : rooms (k ++ l) = rooms k + rooms l := by simp [rooms]
theorem zero_no : Cfg.ok ⟨0, 0, 0, 0, 0, 0, false⟩ = false := by decide
theorem cnt_zero (k : List Cfg) : cnt (⟨0, 0, 0, 0, 0, 0, false⟩ :: k) = cnt k := by simp [cnt, zero_no]
theorem rooms_zero (k : List Cfg) : rooms (⟨0, 0, 0, 0, 0, 0, false⟩ :: k) = rooms k := by simp [rooms, Cfg.room, zero_no]
theorem room_range (c : Cfg) : (c.ok = true → 2 ≤ c.room ∧ c.room ≤ 64) ∧ (c.ok = false → c.room = 0) := by
  refine ⟨fun h => ?_, fun h => by simp [Cfg.room, h]⟩
  have h1 := (Cfg.ok_iff c).1 h
  simp only [Cfg.room, h, if_true]
  have hl : c.log = 1 ∨ c.log = 2 ∨ c.log = 3 ∨ c.log = 4 ∨ c.log = 5 ∨ c.log = 6 := by omega
  rcases hl with e | e | e | e | e | e <;> rw [e] <;> decide
theorem rooms_range (k : List Cfg) : 2 * cnt k ≤ rooms k ∧ rooms k ≤ 64 * cnt k := by
  induction k with
  | nil => simp [cnt, rooms]
  | cons c k ih =>
    have e1 := cnt_append [c] k
    have e2 := rooms_append [c] k
    rw [List.singleton_append] at e1 e2
    have h := room_range c
    have e3 : rooms [c] = c.room := by simp [rooms]
    by_cases hc : c.ok = true
    · have e4 : cnt [c] = 1 := by simp [cnt, hc]
      have := h.1 hc
      omega
    · have hc' : c.ok = false := by simpa using hc
      have e4 : cnt [c] = 0 := by simp [cnt, hc']
      have := h.2 hc'
      omega

/-! ### The walk -/
set_option maxRecDepth 100000 in
set_option maxHeartbeats 2000000 in
theorem confCounts_walk (k l : List Cfg) (A B : Option Addr) (ca cb : Nat) (w : World) (h1 : ¬ 100 < k.length) (h2 : ¬ 100 < l.length) (hR : ReadsC w w.heap.size A k) (hS : ReadsC w w.heap.size B l) :
    Calls Try.prog 7 #[.slice A k.length ca, .slice B l.length cb] w fun e w' => e = .returned (.bool true) ∧ Below w.heap.size w w' := by
  have hd : ¬ ((100 : Int) < (k.length : Nat)) := by omega
  have hd2 : ¬ ((100 : Int) < (l.length : Nat)) := by omega
  have hka := cnt_bounds k
  have hla := cnt_bounds l
  have hkr := rooms_range k
  have hlr := rooms_range l
  have e1 := cnt_append k l
  have e2 := rooms_append k l
  have e3 := cnt_zero k
  have e4 := rooms_zero k
  obtain ⟨a, ha⟩ : ∃ a, cnt k = a := ⟨_, rfl⟩
  obtain ⟨b, hb'⟩ : ∃ b, rooms k = b := ⟨_, rfl⟩
  obtain ⟨c, hc⟩ : ∃ c, cnt l = c := ⟨_, rfl⟩
  obtain ⟨d, hdd⟩ : ∃ d, rooms l = d := ⟨_, rfl⟩
  rw [ha, hc] at e1
  rw [hb', hdd] at e2
  rw [ha] at e3 hka hkr
  rw [hb'] at e4 hkr
  rw [hc] at hla hlr
  rw [hdd] at hlr
  obtain ⟨q1, q2⟩ := hka
  obtain ⟨q3, q4⟩ := hla
  obtain ⟨q5, q6⟩ := hkr
  obtain ⟨q7, q8⟩ := hlr
  have q9 : a ≤ 100 := by omega
  have q10 : c ≤ 100 := by omega
  have q11 : b ≤ 6400 := by omega
  have q12 : d ≤ 6400 := by omega
  clear q2 q4
  have HA := Lib.hid ha
  have HB := Lib.hid hb'
  have HC := Lib.hid hc
  have HD := Lib.hid hdd
  have E1 := Lib.hid e1
  have E2 := Lib.hid e2
  have E3 := Lib.hid e3
  have E4 := Lib.hid e4
  clear ha hb' hc hdd e1 e2 e3 e4
  go_enter Try.func7, Try.ntmps7
  go_wp2_with fail
  refine (awake_any _).mono ?_
  rintro e w1 ⟨rfl, hb⟩
  replace hR := hR.on hb
  replace hS := hS.on hb
  have hB := hb
  clear hb
  go_wp2_with fail
  refine (count_at a b k A ca _ (by omega) hR HA.out HB.out).mono ?_
  rintro e w2 ⟨rfl, hb⟩
  replace hR := hR.on hb
  replace hS := hS.on hb
  replace hB := hB.trans (hb.mono hB.size)
  clear hb
  go_wp2_with fail
  refine (count_at c d l B cb _ (by omega) hS HC.out HD.out).mono ?_
  rintro e w3 ⟨rfl, hb⟩
  replace hR := hR.on hb
  replace hS := hS.on hb
  replace hB := hB.trans (hb.mono hB.size)
  clear hb
  obtain ⟨i0, hi, hz0, hz1, hz2⟩ := info_parts cfg_info
  have hown0 := World.ownsRow_lit (base := w3.heap.size) (e := 23) (size := 7) w3 #[] 0 (Nat.le_refl _) (by decide) rfl
  have b0 : Below w3.heap.size w3 (w3.alloc (.cells #[] 23)) := (Below.refl _ w3).alloc (Nat.le_refl _) _
  have hK0 := reads_flat (hR.below b0)
  have f1 := flatC_one k
  have f2 := flatC_one l
  go_wp2_with (first
    | (at_builtin; refine wpList_append_any _ rfl (.tmp 35) (.tmp 36) _ rfl w3.heap.size 23 i0 _ 7 56 Try.underlying24 hi hz0 hz1 hz2 rfl (by decide) (.slice (some ⟨w3.heap.size, 0, none⟩) 0 0) 0 [] rfl hown0 w3.heap.size A k.length ca (flatC k) rfl hK0 f1 (by simp only [maxLen]; omega) (by omega) (by simp) ?_; intro v1 w4 hown1 hg1 hat1; have b1 := b0.grown hg1 (by simp) (fun g hg => own_baseC hown0 hg); have hL1 := reads_flat (hS.below b1); clear hown0 hg1 hat1 hK0)
    | (at_builtin; refine wpList_append_any _ rfl (.tmp 37) (.tmp 38) _ rfl w3.heap.size 23 i0 _ 7 56 Try.underlying24 hi hz0 hz1 hz2 rfl (by decide) v1 (0 + k.length) ([] ++ flatC k) rfl hown1 w3.heap.size B l.length cb (flatC l) rfl hL1 f2 (by simp only [maxLen]; omega) (by omega) b1.size ?_; intro v2 w5 hown2 hg2 hat2; have b2 := b1.grown hg2 b1.size (fun g hg => own_baseC hown1 hg); clear hown1 hg2 hat2 hL1 b1 b0))
  obtain ⟨A2, cap2, rfl, hC2⟩ := reads_ownC (l := k ++ l) (by rw [flatC_append]; simpa using hown2)
  refine (count_at (a + c) (b + d) (k ++ l) A2 cap2 _ (by rw [List.length_append]; omega) hC2 E1.out E2.out).mono ?_
  rintro e w6 ⟨rfl, hb⟩
  have b3 := b2.trans (hb.mono b2.size)
  replace hR := hR.on b3
  replace hB := hB.trans (b3.mono hB.size)
  clear hb b2 b3 hown2 hC2 hS
  have hown0 := World.ownsRow_lit (base := w6.heap.size) (e := 23) (size := 7) w6 (Cfg.cells ⟨0, 0, 0, 0, 0, 0, false⟩) 1 (Nat.le_refl _) (by decide) rfl
  have b0 : Below w6.heap.size w6 (w6.alloc (.cells (Cfg.cells ⟨0, 0, 0, 0, 0, 0, false⟩) 23)) := (Below.refl _ w6).alloc (Nat.le_refl _) _
  have hK0 := reads_flat (hR.below b0)
  go_wp2_with (at_builtin; refine wpList_append_any _ rfl (.tmp 45) (.tmp 46) _ rfl w6.heap.size 23 i0 _ 7 56 Try.underlying24 hi hz0 hz1 hz2 rfl (by decide) (.slice (some ⟨w6.heap.size, 0, none⟩) 1 1) 1 _ rfl hown0 w6.heap.size A k.length ca (flatC k) rfl hK0 f1 (by simp only [maxLen]; omega) (by omega) (by simp) ?_; intro v3 w7 hown3 hg3 hat3; have b4 := b0.grown hg3 (by simp) (fun g hg => own_baseC hown0 hg); clear hown0 hg3 hat3 hK0 b0)
  obtain ⟨A3, cap3, rfl, hC3⟩ := reads_ownC (l := ⟨0, 0, 0, 0, 0, 0, false⟩ :: k) (by rw [flatC_cons]; exact hown3)
  refine (count_at a b (⟨0, 0, 0, 0, 0, 0, false⟩ :: k) A3 cap3 _ (by rw [List.length_cons]; omega) hC3 E3.out E4.out).mono ?_
  rintro e w8 ⟨rfl, hb⟩
  have b5 := b4.trans (hb.mono b4.size)
  replace hB := hB.trans (b5.mono hB.size)
  clear hb b4 b5 hown3 hC3 hR f1 f2 hi hz0 hz1 hz2
  go_wp2
  go_ret
  exact ⟨rfl, hB⟩

set_option maxRecDepth 100000 in
set_option maxHeartbeats 2000000 in
theorem confCounts_long (k l : List Cfg) (A B : Option Addr) (ca cb : Nat) (w : World) (h1 : 100 < k.length) :
    Calls Try.prog 7 #[.slice A k.length ca, .slice B l.length cb] w fun e w' => e = .returned (.bool true) ∧ Below w.heap.size w w' := by
  have hd : ((100 : Int) < (k.length : Nat)) := by omega
  go_enter Try.func7, Try.ntmps7
  go_wp2_with fail
  refine (awake_any _).mono ?_
  rintro e w1 ⟨rfl, hB⟩
  go_wp2
  go_ret
  exact ⟨rfl, hB⟩
set_option maxRecDepth 100000 in
set_option maxHeartbeats 2000000 in
theorem confCounts_long2 (k l : List Cfg) (A B : Option Addr) (ca cb : Nat) (w : World) (h1 : ¬ 100 < k.length) (h2 : 100 < l.length) :
    Calls Try.prog 7 #[.slice A k.length ca, .slice B l.length cb] w fun e w' => e = .returned (.bool true) ∧ Below w.heap.size w w' := by
  have hd : ¬ ((100 : Int) < (k.length : Nat)) := by omega
  have hd2 : ((100 : Int) < (l.length : Nat)) := by omega
  go_enter Try.func7, Try.ntmps7
  go_wp2_with fail
  refine (awake_any _).mono ?_
  rintro e w1 ⟨rfl, hB⟩
  go_wp2
  go_ret
  exact ⟨rfl, hB⟩
theorem confCounts_all (k l : List Cfg) (A B : Option Addr) (ca cb : Nat) (w : World) (hR : ReadsC w w.heap.size A k) (hS : ReadsC w w.heap.size B l) :
    Calls Try.prog 7 #[.slice A k.length ca, .slice B l.length cb] w fun e w' => e = .returned (.bool true) ∧ Below w.heap.size w w' := by
  by_cases h1 : 100 < k.length
  · exact confCounts_long k l A B ca cb w h1
  · by_cases h2 : 100 < l.length
    · exact confCounts_long2 k l A B ca cb w h1 h2
    · exact confCounts_walk k l A B ca cb w h1 h2 hR hS

/-! ### The row -/
set_option maxRecDepth 100000 in
theorem confCounts_lifted (os : Os) (started : os.Started) (H : Type) (enc : TypeId × Value → H) :
    ReturnsInHanded {} Try.checked os 7 .any (Rows.confCountsSpec.pre6 enc Try.prog Try.f7 Rows.confCountsRow.domain false) (Rows.confCountsSpec.post enc Try.prog Try.f7 false true false false) := by
  refine returnsInHanded_of_change (C := Try.checked) own started (by kernel_rfl) Try.func7
    (ChangeSpec.witness6 (enc := enc) (C := Try.checked) false ⟨#[], #[.slice none 0 0, .slice none 0 0], []⟩ 8 (by kernel_rfl) (by kernel_rfl) (by kernel_rfl) (by kernel_rfl)) ?_
  intro W base args ds gs before hval0 hW hcnd _
  have hval : ∀ (j : Nat) t v, Try.f7.params[j]? = some t → args[j]? = some v → Value.okWide Try.prog W .any base t v := hval0
  have hW' := hW
  obtain ⟨p, q, hA0, hV, rfl, hfz, hnd⟩ := hW
  have hA : DataW.TrodAll enc Try.prog W 0 (fun _ => true) true Try.f7.params.toList args.toList ds p := hA0
  rw [Try.params7] at hA hval
  obtain ⟨v0, vs0, d0, ds0, p0, q0, hargs, rfl, rfl, h0, r0⟩ := trodAll_cons hA
  obtain ⟨v1, vs1, d1, ds1, p1, q1, rfl, rfl, rfl, h1, r1⟩ := trodAll_cons r0
  obtain ⟨rfl, rfl, rfl⟩ := trodAll_nil r1
  obtain rfl : args = #[v0, v1] := by cases args; simp_all
  obtain ⟨rfl, rfl⟩ := trodVars_none hV
  have k0 := h0
  have lt0 : ∀ x ∈ p0, x.block < W.heap.size := by obtain ⟨m, hm⟩ := k0; exact DataW.trod_lt m _ _ _ hm
  obtain ⟨A0, len0, cap0, rfl⟩ := okWide_slice Try.underlying24 (hval 0 24 v0 rfl rfl)
  obtain ⟨l0, w0⟩ : ∃ l : List Cfg, l.length = len0 ∧ ReadsC W W.heap.size A0 l := by obtain ⟨fuel, hf⟩ := h0; exact open_cfgs hf
  obtain ⟨rfl, w0⟩ := w0
  have k1 := h1
  have lt1 : ∀ x ∈ p1, x.block < W.heap.size := by obtain ⟨m, hm⟩ := k1; exact DataW.trod_lt m _ _ _ hm
  obtain ⟨A1, len1, cap1, rfl⟩ := okWide_slice Try.underlying24 (hval 1 24 v1 rfl rfl)
  obtain ⟨l1, w1⟩ : ∃ l : List Cfg, l.length = len1 ∧ ReadsC W W.heap.size A1 l := by obtain ⟨fuel, hf⟩ := h1; exact open_cfgs hf
  obtain ⟨rfl, w1⟩ := w1
  clear hA0 hval0
  refine (confCounts_all l0 l1 A0 A1 cap0 cap1 W w0 w1).mono fun e W' ⟨he, bel⟩ => ?_
  subst he
  exact ⟨_, rfl, _, _, _, [], _, [], hW', trodAll_mk1 (shut_bool Try.underlying4 _), (trodAll_cons_mk (Below.trod laidOut (by kernel_rfl) (of_decide_eq_true (by kernel_rfl)) k0 bel lt0) (trodAll_cons_mk (Below.trod laidOut (by kernel_rfl) (of_decide_eq_true (by kernel_rfl)) k1 bel lt1) trodAll_mk0)), rfl, bel.frame _, fun h => by cases h⟩

theorem confCounts_over : Rows.confCountsRow.holds Try.pinned (OpenSpec.ofChange Rows.confCountsSpec) :=
  OpenClaim.holds_of_wide 7 Try.f7 rfl rfl rfl rfl rfl rfl rfl ⟨rfl, rfl, rfl, rfl, rfl⟩ rfl rfl rfl rfl rfl (by kernel_rfl) Try.func7 (by kernel_rfl)
    (of_decide_eq_true (by kernel_rfl)) (by unfold Func.isWrapper; first | (rw [if_pos (by decide +kernel)]; kernel_rfl) | (rw [if_neg (by decide +kernel)]; exact ⟨rfl, rfl⟩))
    (fun os started H enc _ => confCounts_lifted os started H enc)

/-- The statement. -/
theorem confCounts_holds : Rows.ConfCountsSaid := confCounts_over
#print axioms confCounts_holds

end Go.Proofs.Ytolkmpfnomeklaa
