/-
  DERIVED. Put, Waits, Dues.
-/
import Derived.Test.YtnbgpopjnpdmgaaGreatPbo
import Derived.RangeFuncNested
import Derived.RangeFuncBound
import Derived.RangeFuncCalls
import Derived.RangeFuncLeaves
import Derived.Shelf.Abstract
import Derived.Shelf.RegionOpen
import Derived.WalkKit
import Derived.OwnWalkIn
import Derived.TacticsInMore
import Derived.LoopNIn
import Derived.LoopIn
import Derived.Test.YtnbgpopjnpdmgaaGreatPbj
set_option linter.unusedVariables false
set_option linter.unusedSimpArgs false

namespace Go.Proofs.YtnbgpopjnpdmgaaGreat
open Go Go.RowKit Go.Shelf

theorem MapV.weak {mb n : Nat} {V V' : Value → Prop} {W : World} (h : MapV mb n V W) (hV : ∀ v, V v → V' v) : MapV mb n V' W := by
  obtain ⟨es, clock, h1, h2, h3, h4⟩ := h
  exact ⟨es, clock, h1, h2, h3, fun x hx => ⟨(h4 x hx).1, hV _ (h4 x hx).2⟩⟩
section
variable {P : Program} {w : World} {ops : Array Oper} {rest : List Oper} {o : Oper} {a : Act} {Q : Exit → Act → World → Prop} {mb n : Nat} {V : Value → Prop} {mty kt et : TypeId}
theorem wpList_look (hg : o.guard = none) (m x : Operand) (hop : o.op = Op.lookup mty m x true) (hm : P.underlying mty = some (.map kt et)) (hd : P.underlying kt = some (.int .i64)) (h : MapV mb n V w) (hme : a.eval m = .map (some mb)) (k : Int) (hx : a.eval x = .int .i64 k) (z : Value) (hz : (zeroValue et).run P w = .ok z w) (hV : V z)
    (hK : ∀ v b, V v → wpList P ops Q rest (a.put o.dst (.tuple #[v, .bool b])) w) : wpList P ops Q (o :: rest) a w := by
  refine wpList_plain hg fun K' hK' => ?_
  obtain ⟨v, b, h1, hrun⟩ := look_run hm hd h k z hz hV true
  rw [if_pos rfl] at hrun
  unfold Oper.wp
  simp [execOp, hop, hme, hx, hrun, Result.andThen]
  exact hK' _ _ (hK v b h1)
theorem wpList_del {t kt' : TypeId} (hg : o.guard = none) (m x : Operand) (hop : o.op = Op.call { callee := Callee.builtin Builtin.delete, args := #[m, x], argTypes := #[mty, kt] }) (hm : P.underlying mty = some (.map kt et)) (hd : P.underlying kt = some (.int .i64)) (h : MapV mb n V w) (hme : a.eval m = .map (some mb)) (k : Int) (hx : a.eval x = .int .i64 k)
    (hK : ∀ w', MapV mb n V w' → One mb w w' → wpList P ops Q rest (a.put o.dst (.tuple #[])) w') : wpList P ops Q (o :: rest) a w := by
  refine wpList_plain hg fun K' hK' => ?_
  obtain ⟨w', hrun, h1, h2⟩ := del_run (ty := o.type) hm hd h k
  unfold Oper.wp
  simp [execOp, hop, resolve, invoke, builtin, hme, hx, hrun, Result.andThen]
  exact hK' _ _ (hK w' h1 h2)
theorem cells_of_dus (l : List Du) : ∀ v ∈ dus l, v.oneCell' = true := by
  intro v hv
  obtain ⟨d, -, hd⟩ := List.mem_flatMap.1 hv
  exact one_du d v hd
end

set_option maxRecDepth 100000 in
set_option maxHeartbeats 16000000 in
theorem put_any (Q : Du → Prop) (l : List Du) (A : Option Addr) (c : Nat) (d : Du) (w : World) (hl8 : l.length ≤ 800) (hA : Lies w w.heap.size A (dus l)) (hQ : ∀ d ∈ l, Q d) (hQd : Q d) :
    Calls Tryz.prog 102 #[.slice A l.length c, .agg d.cells.toArray] w fun e w' => ∃ (A' : Option Addr) (c' : Nat) (l' : List Du) (er : Int), e = .returned (.tuple #[.slice A' l'.length c', .int .i64 er]) ∧ Mine w' w.heap.size 141 2 A' c' l'.length (dus l') ∧ l'.length ≤ l.length + 1 ∧ (∀ x ∈ l', Q x) ∧ Below w.heap.size w w' := by
  have hl : l.length ≤ 900 := by omega
  have T1 := fun W => due_time d.at_ W
  have T2 := fun W => due_id d.id W
  generalize (decide (0 ≤ d.at_) && decide (d.at_ ≤ 1099511627776)) = t1 at *
  generalize (decide (0 ≤ d.id) && decide (d.id < 16)) = t2 at *
  obtain ⟨f0, f1, -, -⟩ := cells2 (World.alloc_heap_new w (.cells d.cells.toArray 141))
  have hB0 := below_one w (.cells d.cells.toArray 141)
  go_enter Tryz.func102, Tryz.ntmps102
  cases t1
  all_goals
    cases t2
    all_goals
      go_wp2_with (first
        | (go_at_call 99; (with_reducible refine (by_due Q l A c _ hl (hA.on hB0) hQ).mono ?_); rintro e w1 ⟨mb, rfl, hM, hmb, hb⟩; have hmw : w.heap.size ≤ mb := Nat.le_trans (by simp) hmb; have hB1 := hB0.trans (hb.mono (by simp)); replace f0 := keep_c f0 hb; replace f1 := keep_c f1 hb; have hMT := hM.weak (V' := DuV (fun _ => True)) (fun v ⟨x, h1, _⟩ => ⟨x, h1, trivial⟩))
        | (at_lookup; (refine wpList_look rfl (.tmp 12) (.tmp 14) rfl Tryz.underlying142 Tryz.underlying3 hMT rfl d.id rfl (.agg #[.int .i64 0, .int .i64 0]) (Tryz.zeroValue141 _) ⟨⟨0, 0⟩, rfl, trivial⟩ ?_); intro v is hv; obtain ⟨dv, rfl, -⟩ := hv; have hax := below_one w1 (.cells dv.cells.toArray 141); have hB2 := hB1.trans (hax.mono hB1.size); replace f0 := keep_c f0 hax; replace f1 := keep_c f1 hax; have hM2 := hM.on (Below.heap_alloc w1 (.cells dv.cells.toArray 141) _ hM.lt))
        | (go_at_call 97; (with_reducible refine (check_due l A c _ hl (hA.on hB2)).mono ?_); rintro e w3 ⟨⟨q, rfl⟩, hb3⟩; have hB3 := hB2.trans (hb3.mono hB2.size); replace f0 := keep_c f0 hb3; replace f1 := keep_c f1 hb3; have hM3 := hM2.on (hb3.block mb (by simp; have := hM.lt; omega)))
        | (go_at_call 129; (with_reducible refine (T1 _).mono ?_); rintro e w4 ⟨rfl, hw⟩; obtain rfl := hw.symm; clear hw)
        | (go_at_call 130; (with_reducible refine (T2 _).mono ?_); rintro e w4 ⟨rfl, hw⟩; obtain rfl := hw.symm; clear hw)
        | (go_at_call 98; (with_reducible refine (clone_dus (dus l) A l.length c _ (dus_len l) (cells_of_dus l) (hA.on hB3) (by omega)).mono ?_); rintro e w5 ⟨A5, c5, rfl, hm5, hb5⟩; have hB5 := hB3.trans (hb5.mono hB3.size); replace hm5 := hm5.mono hB3.size)
        | (at_mapUpdate; (refine wpList_upd rfl (.tmp 42) (.tmp 44) (.tmp 45) rfl Tryz.underlying142 Tryz.underlying3 hM3 rfl d.id rfl _ rfl ⟨d, rfl, hQd⟩ ?_); intro w6 hM6 hO6; have hB6 := hB3.trans (hO6.below hmw))
        | (go_at_call 100; (with_reducible refine (told_any Q mb (l.length + 1) _ hM6 (by omega)).mono ?_); rintro e w7 ⟨A5, c5, l5, rfl, hm5, hl5, hq5, hb7⟩; have hB7 := hB6.trans (hb7.mono hB6.size); replace hm5 := hm5.mono hB6.size))
      all_goals
        go_returns
        first
          | exact ⟨A5, c5, l, _, rfl, hm5, by omega, hQ, hB5⟩
          | exact ⟨A5, c5, l5, _, rfl, hm5, hl5, hq5, hB7⟩

set_option maxRecDepth 100000 in
set_option maxHeartbeats 16000000 in
theorem late_any (Q : Du → Prop) (l : List Du) (A : Option Addr) (c : Nat) (now : Int) (w : World) (hl : l.length ≤ 900) (hA : Lies w w.heap.size A (dus l)) (hQ : ∀ d ∈ l, Q d) :
    Calls Tryz.prog 78 #[.slice A l.length c, .int .i64 now] w fun e w' => ∃ (A' : Option Addr) (c' : Nat) (is : List Int) (A2 : Option Addr) (n2 c2 : Nat), e = .returned (.tuple #[.slice A' is.length c', .slice A2 n2 c2]) ∧ Mine w' w.heap.size 3 1 A' c' is.length (ints is) ∧ is.length ≤ l.length ∧ (∀ x ∈ is, ∃ d : Du, Q d ∧ x = d.id) ∧ Below w.heap.size w w' := by
  obtain ⟨i0, hi, hz0, hz1, hz2⟩ := info_parts int_inf
  go_enter Tryz.func78, Tryz.ntmps78
  go_wp2_with (first
      | (go_at_call 97; (with_reducible refine (check_due l A c _ hl hA).mono ?_); rintro e w1 ⟨⟨q, rfl⟩, hB1⟩)
      | (go_at_call 98; (with_reducible refine (clone_dus (dus l) A l.length c _ (dus_len l) (cells_of_dus l) (hA.on hB1) (by omega)).mono ?_); rintro e w5 ⟨A5, c5, rfl, hm5, hb5⟩; have hB5 := hB1.trans (hb5.mono hB1.size))
      | (go_at_call 99; (with_reducible refine (by_due Q l A c _ hl (hA.on hB1) hQ).mono ?_); rintro e w2 ⟨mb, rfl, hM, hmb, hb⟩; have hsz1 := hB1.size; have hB2 := hB1.trans (hb.mono hsz1); have hmw : w.heap.size ≤ mb := Nat.le_trans hsz1 hmb))
  · go_returns
    exact ⟨none, 0, [], A5, l.length, c5, rfl, World.ownsRow_nil _ _ _ _, by simp, by simp, hB5⟩
  · have hmlt := hM.lt
    go_loopw [4, 18] (fun v i wr => ∃ (k : Nat) (is : List Int) (A' : Option Addr) (c' : Nat), k ≤ l.length ∧ i = .int .i64 k ∧ v = .slice A' is.length c' ∧ is.length ≤ k ∧ (∀ x ∈ is, ∃ d : Du, Q d ∧ x = d.id) ∧ Mine wr (mb + 1) 3 1 A' c' is.length (ints is) ∧ MapV mb l.length (DuV Q) wr ∧ Below w.heap.size w wr) (fun _ i _ => l.length - (intOf i).toNat)
    case atStart => exact ⟨0, [], none, 0, Nat.zero_le _, rfl, rfl, Nat.le_refl _, by simp, World.ownsRow_nil _ _ _ _, hM, hB2⟩
    case round =>
      clear hM hB2 hB1 hb hmlt
      obtain ⟨k, is, A', c', hk, rfl, rfl, his, hids, hown, hM, hB⟩ := hrel
      have hsz := hB.size
      have hszm := hM.lt
      by_cases hlt : k < l.length
      · obtain ⟨b, off, rfl, hb0, hc⟩ := (hA.below hB).open_ (by rw [dus_len]; omega)
        obtain ⟨d, hd⟩ : ∃ d, l[k]? = some d := ⟨_, List.getElem?_eq_getElem hlt⟩
        have x0 := hc _ _ (flat_at (f := Du.cells) (k := 2) (fun _ => rfl) hd (j := 0) rfl)
        have x1 := hc _ _ (flat_at (f := Du.cells) (k := 2) (fun _ => rfl) hd (j := 1) rfl)
        rw [Nat.add_zero] at x0
        rw [← Nat.add_assoc] at x1

        have hQd := hQ d (List.mem_of_getElem? hd)
        by_cases hnow : d.at_ ≤ now
        · have HD := Lib.hid hd
          clear hc hA hd
          have HCE : ∀ j u, [Value.int .i64 d.id][j]? = some u → ((wr.alloc (.cells #[.int .i64 d.at_, .int .i64 d.id] 141)).alloc (.cells #[.int .i64 d.id] 3)).cell? ((⟨wr.heap.size + 1, 0, none⟩ : Addr).add j) = some u := by
            have := cell_one (wr.alloc (.cells #[.int .i64 d.at_, .int .i64 d.id] 141)) (.int .i64 d.id) 3
            rwa [World.size_alloc] at this
          go_wp2_with (first
              | (at_builtin; (refine wpList_append_own _ rfl _ _ 30 rfl (mb + 1) 3 i0 (.int .i64 0) 1 8 Tryz.underlying30 hi hz0 hz1 hz2 rfl (by decide) _ _ _ rfl (World.ownsRow.alloc (World.ownsRow.alloc hown _) _) ⟨wr.heap.size + 1, 0, none⟩ 1 1 [.int .i64 d.id] rfl rfl HCE (by simp [Value.oneCell']) (by simp only [maxLen]; omega) (by omega) (by simp; omega) ?_); intro v' wz hown' hgrow hnil; have hz : Below (mb + 1) wr wz := (((Below.refl (mb + 1) wr).alloc hszm _).alloc (by simp; omega) _).grown hgrow (by simp; omega) (by intro g hg; exact (World.ownsRow.lt (World.ownsRow.alloc (World.ownsRow.alloc hown (.cells #[.int .i64 d.at_, .int .i64 d.id] 141)) (.cells #[.int .i64 d.id] 3)) g hg).1); have hM2 := hM.on (hz.block mb (by omega)); have hbx := (hgrow.block wr.heap.size (by simp; omega) (by intro e; have := (World.ownsRow.lt hown wr.heap.size e.symm).2; omega)).trans (keep_alloc (World.alloc_heap_new wr (.cells #[.int .i64 d.at_, .int .i64 d.id] 141)) _); obtain ⟨y0, y1, -, -⟩ := cells2 hbx; obtain ⟨w8, hdel, hM8, hO8⟩ := del_run (P := Tryz.prog) (ty := 0) Tryz.underlying142 Tryz.underlying3 hM2 d.id))
          have hown2 : wz.ownsRow (mb + 1) 3 1 v' (is ++ [d.id]).length (ints (is ++ [d.id])) := by simpa using hown'
          obtain ⟨A2, c2, rfl⟩ : ∃ A2 c2, v' = .slice A2 (is ++ [d.id]).length c2 := by
            rcases hown2.2 with ⟨e1, e2⟩ | ⟨g, cap, cur, e1, _⟩
            · exact ⟨none, 0, by rw [e1, e2]⟩
            · exact ⟨_, cap, e1⟩
          have hown3 : Mine w8 (mb + 1) 3 1 A2 c2 (is ++ [d.id]).length (ints (is ++ [d.id])) := Mine.grown hown2 fun g o t e => hO8.block g (by have := (Mine.base hown2 g o t e).1; omega)
          go_roundw
          case rel =>
            refine ⟨k + 1, is ++ [d.id], A2, c2, by omega, by go_num, rfl, by simp; omega, fun x hx => ?_, hown3, hM8, (hB.trans (hz.mono (by omega))).trans (hO8.below hmw)⟩
            rcases List.mem_append.1 hx with hx | hx
            · exact hids x hx
            · rw [List.mem_singleton.1 hx]; exact ⟨d, hQd, rfl⟩
          case measure => simp [intOf]; omega
        · have HD := Lib.hid hd
          clear hc hA hd
          go_wp2
          go_roundw
          case rel => exact ⟨k + 1, is, A', c', by omega, by go_num, rfl, by omega, hids, hown.alloc _, hM.on (Below.heap_alloc wr (.cells #[.int .i64 d.at_, .int .i64 d.id] 141) _ hM.lt), hB.alloc hsz _⟩
          case measure => simp [intOf]; omega
      · obtain rfl : k = l.length := by omega
        go_wp2_with (first
            | (go_at_call 100; (with_reducible refine (told_any Q mb l.length _ hM (by omega)).mono ?_); rintro e w7 ⟨A7, c7, l7, rfl, hm7, hl7, hq7, hb7⟩; have hB7 := hB.trans (hb7.mono hB.size); have hown7 := hown.kept hb7))
        go_returns
        exact ⟨A', c', is, A7, l7.length, c7, rfl, hown7.mono (by omega), his, hids, hB7⟩

end Go.Proofs.YtnbgpopjnpdmgaaGreat

namespace Go.Proofs.YtnbgpopjnpdmgaaGreat
open Go Go.RowKit Go.Shelf
attribute [local go_sem] Oper.semAt_some

section
variable {F : Fence} {n : Nat} {P : Program} {ops : Array Oper} {Q : Exit → Act → World → Prop} {rest : List Oper} {a : Act} {w w' : World} {v : Value} {dst : Option Tmp} {ty : TypeId} {ps : String} {af : Array Edge} {t : TypeId} {x y : Operand}
theorem wpListIn_load (hrun : (execOp a.eval (Oper.mk dst (.load t x) ty ps af none)).run P w = .ok (.value v) w') (h : wpListIn F n P ops Q rest (a.put dst v) w') : wpListIn F n P ops Q (Oper.mk dst (.load t x) ty ps af none :: rest) a w := by
  refine wpListIn_plain rfl fun K hK => ?_
  unfold Oper.wpIn
  refine ⟨by simp [Oper.about], ?_⟩
  rw [Oper.semAt_plain F _ _ (by intro c hc'; cases hc'), hrun]
  exact hK _ _ h
theorem wpListIn_loadg {gd : Option (Nat × Bool)} (hw : Region.wanted (Oper.mk dst (.load t x) ty ps af gd) (yielded ops a.tmps) = true) (hrun : (execOp a.eval (Oper.mk dst (.load t x) ty ps af gd)).run P w = .ok (.value v) w') (h : wpListIn F n P ops Q rest (a.put dst v) w') : wpListIn F n P ops Q (Oper.mk dst (.load t x) ty ps af gd :: rest) a w := by
  refine wpListIn_step fun K hK => ?_
  simp only [hw, if_true]
  unfold Oper.wpIn
  refine ⟨by simp [Oper.about], ?_⟩
  rw [Oper.semAt_plain F _ _ (by intro c hc'; cases hc'), hrun]
  exact hK _ _ h
end

/-- A thread with its place. -/
abbrev Pl2 (n : Nat) := { x : Nat × Th // x.1 < n }
abbrev encW {n : Nat} (x : Pl2 n) : Array Value := #[.int .i64 x.1.1, x.1.2.value]
/-- What lay below n, and at C, lies as it lay. -/
structure KpD (n C : Nat) (W W' : World) : Prop where
  size : W.heap.size ≤ W'.heap.size
  same : ∀ i, i < n ∨ i = C → W'.heap[i]? = W.heap[i]?
theorem KpD.trans {n C : Nat} {U V W : World} (h : KpD n C U V) (k : KpD n C V W) : KpD n C U W := ⟨Nat.le_trans h.size k.size, fun i hi => (k.same i hi).trans (h.same i hi)⟩
theorem KpD.of_below {n C : Nat} {U V : World} (h : Below U.heap.size U V) (hn : n ≤ U.heap.size) (hC : C < U.heap.size) : KpD n C U V := ⟨h.size, fun i hi => h.block i (by omega)⟩
theorem Lies.kp {n C B : Nat} {A : Option Addr} {xs : List Value} {W W' : World} (h : Lies W B A xs) (hB : B ≤ n) (k : KpD n C W W') : Lies W' B A xs := by
  rcases h with h | ⟨b, off, e, hb, hc⟩
  · exact .inl h
  · exact .inr ⟨b, off, e, hb, fun i x hi => (World.cell?_of_block (a := ⟨b, off + i, none⟩) (k.same b (.inl (by omega)))).trans (hc i x hi)⟩

set_option maxRecDepth 100000 in
set_option maxHeartbeats 8000000 in
theorem waits_stops (n : Nat) (S : St) (L : Lay) (C n₀ : Nat) (w : World) (hsm : S.ths.length ≤ 1000) (hn : n₀ ≤ w.heap.size) (hC : w.heap[C]? = some (.cells (S.cells L) 36 (0, 0))) (hH : Lies w n₀ L.a6 (Go.Proofs.YtnbgpopjnpdmgaaGreat.ths S.ths)) :
    SeqStopsK Fence.wide n Tryz.prog 134 #[.pointer (some ⟨C, 0, none⟩)] (encW (n := S.ths.length)) (KpD n₀ C) (fun xs => xs.length ≤ S.ths.length) (fun _ => True) S.ths.length w := fun l J Jx W hW hJ hJx hY h0 => by
  have hCl := blk_lt hC
  have z : W.heap[C]? = some (.cells (S.cells L) 36 (0, 0)) := (hW.block C hCl).trans hC
  have z6 : Lies W n₀ L.a6 (Go.Proofs.YtnbgpopjnpdmgaaGreat.ths S.ths) := hH.below (hW.mono hn)
  have hsz := hW.size
  have hn' : n₀ ≤ W.heap.size := by omega
  have hC' : C < W.heap.size := by omega
  clear hC hH hW
  have c18 := (of_block z 18).1
  change W.cell? ⟨C, 18, none⟩ = some (.slice L.a6 S.ths.length L.c6) at c18
  refine callsIn_of_wp Tryz.func134 rfl trivial ?_ rfl
  simp only [Tryz.ntmps134, List.size_toArray, List.length_cons, List.length_nil, Nat.reduceAdd, Nat.reduceSub, Array.replicate_succ, Array.replicate_zero, List.push_toArray, List.append_toArray, List.nil_append, List.cons_append]
  gi_wp2_with fail
  gi_loopw [8] (fun i wr => ∃ (k : Nat) (pre : List (Pl2 S.ths.length)), k ≤ S.ths.length ∧ i = .int .i64 k ∧ pre.length ≤ k ∧ W.heap.size ≤ wr.heap.size ∧ Lies wr n₀ L.a6 (Go.Proofs.YtnbgpopjnpdmgaaGreat.ths S.ths) ∧ wr.heap[C]? = some (.cells (S.cells L) 36 (0, 0)) ∧ J pre wr) (fun i _ => S.ths.length - (intOf i).toNat)
  case atStart => exact ⟨0, [], Nat.zero_le _, rfl, Nat.le_refl _, Nat.le_refl _, z6, z, h0⟩
  case round =>
    clear z6 z h0 c18
    obtain ⟨k, pre, hk, rfl, hpre, hwr, z6, z, hJ0⟩ := hrel
    by_cases hlt : k < S.ths.length
    · obtain ⟨t, ht⟩ : ∃ t, S.ths[k]? = some t := ⟨_, List.getElem?_eq_getElem hlt⟩
      obtain ⟨g, off, hA, hg, hcA⟩ := z6.open_ (by rw [ths_len]; omega)
      have hcs : ∀ j v, t.list[j]? = some v → wr.cell? ⟨g, off + k * 11 + j, none⟩ = some v := fun j v hj => by rw [Nat.add_assoc]; exact hcA _ _ (flat_at (f := Th.list) (k := 11) (fun _ => rfl) ht hj)
      have kt := World.alloc_heap_new wr (.cells t.cells 51)
      have hB1 := below_one wr (.cells t.cells 51)
      have hct : ∀ j v, t.list[j]? = some v → (wr.alloc (.cells t.cells 51)).cell? ⟨wr.heap.size, 0 + j, none⟩ = some v := fun j v hj => by rw [Nat.zero_add, (of_block kt j).1]; simpa [Th.list] using hj
      have z' := kept z hB1
      have z6' : Lies (wr.alloc (.cells t.cells 51)) n₀ L.a6 (Go.Proofs.YtnbgpopjnpdmgaaGreat.ths S.ths) := z6.below (hB1.mono (by omega))
      have hJ1 : J pre (wr.alloc (.cells t.cells 51)) := hJ _ _ _ none hJ0 (World.grownBy_alloc wr _ none) (fun _ e => by cases e)
      obtain ⟨fn, tmps, assign, body, hy, hR⟩ := hY pre ⟨(k, t), hlt⟩ _ hJ1 (by omega)
      dsimp only [encW] at hy
      have TM := fun W => op_timed t.kind W
      obtain ⟨f0, f1, f2, f3, f4, f5, f6, f7, f8, f9, f10⟩ := cells11 (c := t) kt
      rw [hA]
      rw [hA] at z6'
      have hko : KpD n₀ C wr (wr.alloc (.cells t.cells 51)) := KpD.of_below hB1 (by omega) (by omega)
      clear hA hcA ht hJ0 z z6 hJ hY
      generalize timedOf t.kind = q at *
      by_cases h1 : t.status = 0
      · have h1' : (t.status != 0) = false := by simp [h1]
        clear h1
        gi_wp2_with (first
            | ((with_reducible refine wpListIn_load (loadTh hcs ?_) ?_); (focus rfl)))
        refine ⟨trivial, ?_⟩
        gi_wp2
        refine ⟨fun _ _ => trivial, ?_⟩
        gi_wp2
        go_roundw
        case rel => exact ⟨k + 1, pre, by omega, by go_num, by omega, by simp; omega, z6', z', hJ1⟩
        case measure => simp [intOf]; omega
      · have h1' : (t.status != 0) = true := by simpa using h1
        clear h1
        cases q
        · gi_wp2_with (first
              | ((with_reducible refine wpListIn_load (loadTh hcs ?_) ?_); (focus rfl))
              | (refine ⟨trivial, (fun h => by simp [Fence.wide] at h), ?_⟩; gi_at_call 53; (with_reducible refine (callsIn_wide.2 (TM _)).mono ?_); rintro e w3 ⟨rfl, hw⟩; obtain rfl := hw.symm; clear hw))
          refine ⟨fun _ _ => trivial, ?_⟩
          gi_wp2
          go_roundw
          case rel => exact ⟨k + 1, pre, by omega, by go_num, by omega, by simp; omega, z6', z', hJ1⟩
          case measure => simp [intOf]; omega
        · by_cases h3 : t.late = true
          · have h3' : (!t.late) = false := by simp [h3]
            clear h3
            gi_wp2_with (first
                | ((with_reducible refine wpListIn_load (loadTh hcs ?_) ?_); (focus rfl))
                | (refine ⟨trivial, (fun h => by simp [Fence.wide] at h), ?_⟩; gi_at_call 53; (with_reducible refine (callsIn_wide.2 (TM _)).mono ?_); rintro e w3 ⟨rfl, hw⟩; obtain rfl := hw.symm; clear hw))
            refine ⟨fun _ _ => trivial, ?_⟩
            gi_wp2
            go_roundw
            case rel => exact ⟨k + 1, pre, by omega, by go_num, by omega, by simp; omega, z6', z', hJ1⟩
            case measure => simp [intOf]; omega
          · have h3' : (!t.late) = true := by simpa using h3
            clear h3
            gi_wp2_with (first
                | ((with_reducible refine wpListIn_load (loadTh hcs ?_) ?_); (focus rfl))
                | (refine ⟨trivial, (fun h => by simp [Fence.wide] at h), ?_⟩; gi_at_call 53; (with_reducible refine (callsIn_wide.2 (TM _)).mono ?_); rintro e w3 ⟨rfl, hw⟩; obtain rfl := hw.symm; clear hw)
                | ((with_reducible refine wpListIn_loadg rfl (loadTh hct ?_) ?_); (focus rfl)))
            refine ⟨fun h => by simp [Fence.wide] at h, hR.mono ?_⟩
            rintro e W3 (⟨rfl, hJ3, hk3⟩ | ⟨rfl, hJx3⟩)
            · have z6'' := z6'.kp (Nat.le_refl _) hk3
              have z'' := (hk3.same C (.inr rfl)).trans z'
              have hk4 : W.heap.size ≤ W3.heap.size := Nat.le_trans (Nat.le_trans hwr hB1.size) hk3.size
              gi_wp2
              go_roundw
              case rel => exact ⟨k + 1, pre ++ [⟨(k, t), hlt⟩], by omega, by go_num, by simp; omega, hk4, z6'', z'', hJ3⟩
              case measure => simp [intOf]; omega
            · gi_wp2
              refine bodyPost_ret (results_none rfl _ _ _) rfl ?_
              exact ⟨⟨_, rfl⟩, .inr ⟨_, trivial, hJx3⟩⟩
    · obtain rfl : k = S.ths.length := by omega
      gi_wp2
      go_end0
      exact ⟨⟨_, rfl⟩, .inl ⟨pre, hpre, hJ0⟩⟩

end Go.Proofs.YtnbgpopjnpdmgaaGreat

namespace Go.Proofs.YtnbgpopjnpdmgaaGreat
open Go Go.RowKit Go.Shelf
attribute [local go_sem] Oper.semAt_some

theorem KeepsOthers.of_below {W W' : World} (h : Below W.heap.size W W') : KeepsOthers W W' := ⟨h.size, fun k o hk _ => (h.block k (blk_lt hk)).trans hk⟩
theorem block_own {W W' : World} {row : Option Nat} {B : Nat} {cs : Array Value} {t : TypeId} {fr : Nat × Nat} (h : W.heap[B]? = some (.cells cs t fr)) (hg : W.grownBy W' row) (hr : ∀ r, row = some r → ∃ o : Obj, W.heap[r]? = some o ∧ o.isCells = false) : W'.heap[B]? = some (.cells cs t fr) := by
  refine (hg.block B (blk_lt h) (fun e => ?_)).trans h
  obtain ⟨o, ho, hc⟩ := hr B e.symm
  rw [h] at ho
  cases ho
  cases hc
theorem Mine.own {w w' : World} {base : Nat} {e : TypeId} {k : Nat} {A : Option Addr} {c n : Nat} {xs : List Value} {row : Option Nat} (h : Mine w base e k A c n xs) (hg : w.grownBy w' row) (hr : ∀ r, row = some r → ∃ o : Obj, w.heap[r]? = some o ∧ o.isCells = false) : Mine w' base e k A c n xs :=
  h.grown fun g off t e => by
    obtain ⟨cs, T, fr, hgb⟩ := h.isCells e
    exact (block_own hgb hg hr).trans hgb.symm

set_option maxHeartbeats 1000000 in
theorem waits_c (S : St) (L : Lay) (w : World) : Calls Tryz.prog 101 #[S.val L] w fun e w' => e = .returned (.func (.func 134) #[] #[.pointer (some ⟨w.heap.size, 0, none⟩)]) ∧ w' = w.alloc (.cells (S.cells L) 36) := by
  go_enter Tryz.func101, Tryz.ntmps101
  go_wp2
  go_ret
  exact ⟨rfl, rfl⟩

def DuIn (n : Nat) (d : Du) : Prop := 0 ≤ d.id ∧ d.id < n
/-- Between two rounds. -/
def DI (w : World) (n C : Nat) (pre : List (Pl2 n)) (W : World) : Prop :=
  (∃ (A : Option Addr) (c : Nat) (l : List Du), W.heap[w.heap.size + 1]? = some (.cells #[.slice A l.length c] 127 (0, 0)) ∧ Mine W (w.heap.size + 2) 141 2 A c l.length (dus l) ∧ l.length ≤ pre.length ∧ C < W.heap.size ∧ ∀ d ∈ l, DuIn n d) ∧ Below w.heap.size w W
theorem DI.own (w : World) (n C B : Nat) (hB : w.heap.size ≤ B) : OwnFrom B (DI w n C) := by
  refine OwnFrom.and (Own.from (fun s X Y row hs hg hr => ?_) _) (ownFrom_below (Nat.le_refl _) hB)
  obtain ⟨A, c, l, h1, h2, h3, h4, h5⟩ := hs
  exact ⟨A, c, l, block_own h1 hg hr, h2.own hg hr, h3, Nat.lt_of_lt_of_le h4 hg.size, h5⟩

set_option maxRecDepth 100000 in
set_option maxHeartbeats 8000000 in
theorem dues_any (S : St) (L : Lay) (w : World) (hsm : S.small) (hH : Holds w S L) (h8 : S.ths.length ≤ 700) :
    Calls Tryz.prog 79 #[S.val L] w fun e w' => ∃ A' c' l, e = .returned (.slice A' l.length c') ∧ Mine w' w.heap.size 141 2 A' c' l.length (dus l) ∧ l.length ≤ S.ths.length ∧ (∀ d ∈ l, DuIn S.ths.length d) ∧ Below w.heap.size w w' := by
  have K := fun W (hW : Below w.heap.size w W) => check_state S L W hsm (hH.on hW)
  have k0 := World.alloc_heap_new w (.cells (S.cells L) 36)
  have k1 := World.alloc_heap_new (w.alloc (.cells (S.cells L) 36)) (.cells #[.slice none 0 0] 127)
  rw [World.size_alloc] at k1
  replace k0 := keep_alloc k0 (.cells #[.slice none 0 0] 127)
  have hB0 : Below w.heap.size w ((w.alloc (.cells (S.cells L) 36)).alloc (.cells #[.slice none 0 0] 127)) := (below_one w _).trans ((below_one _ _).mono (by simp))
  generalize S.ok = q at *
  refine (callsIn_wide (n := 3)).1 ?_
  refine callsIn_of_wp_marks Tryz.func79 rfl trivial ?_ rfl
  simp only [Tryz.ntmps79, List.size_toArray, List.length_cons, List.length_nil, Nat.reduceAdd, Nat.reduceSub, Array.replicate_succ, Array.replicate_zero, List.push_toArray, List.append_toArray, List.nil_append, List.cons_append]
  cases q
  · gi_wp2_with (first
      | ((with_reducible refine wpListIn_load (load36 k0 ?_ ?_) ?_); (focus rfl); (focus rfl))
      | (refine ⟨trivial, ?_⟩; gi_at_call 22; (with_reducible refine (callsIn_wide.2 (K _ hB0)).mono ?_); rintro e w1 ⟨rfl, hb⟩; have hB := hB0.trans (hb.mono hB0.size); replace k0 := kept k0 hb; replace k1 := kept k1 hb; obtain ⟨c1, f1⟩ := cells1 k1))
    obtain ⟨c2, f2⟩ := cells1 (put_cell (i := 0) k1 (.slice none 0 0))
    refine ⟨.slice none 0 0, ?_, none, 0, [], rfl, World.ownsRow_nil _ _ _ _, by simp, by simp, hB.setCell (p := ⟨w.heap.size + 1, 0, none⟩) (by simp) _⟩
    simp [results, Tryz.f79, go_sem, c2]
  · gi_wp2_with (first
      | ((with_reducible refine wpListIn_load (load36 k0 ?_ ?_) ?_); (focus rfl); (focus rfl))
      | (refine ⟨trivial, ?_⟩; gi_at_call 22; (with_reducible refine (callsIn_wide.2 (K _ hB0)).mono ?_); rintro e w1 ⟨rfl, hb⟩; have hB := hB0.trans (hb.mono hB0.size); replace k0 := kept k0 hb; replace k1 := kept k1 hb; obtain ⟨c1, f1⟩ := cells1 k1)
      | (refine ⟨trivial, ?_⟩; gi_at_call 101; (with_reducible refine (callsIn_wide.2 (waits_c S L _)).mono ?_); rintro e w2 ⟨rfl, rfl⟩))
    have kC := World.alloc_heap_new w1 (.cells (S.cells L) 36)
    have hsz1 := hB.size
    have hlt1 := blk_lt k1
    have hBV : Below w.heap.size w (w1.alloc (.cells (S.cells L) 36)) := hB.trans ((below_one w1 _).mono hsz1)
    replace k1 := keep_alloc k1 (.cells (S.cells L) 36)
    have hV6 : Lies (w1.alloc (.cells (S.cells L) 36)) w.heap.size L.a6 (Go.Proofs.YtnbgpopjnpdmgaaGreat.ths S.ths) := hH.h6.below hBV
    have hszV : (w1.alloc (.cells (S.cells L) 36)).heap.size = w1.heap.size + 1 := World.size_alloc _ _
    have hC : w.heap.size + 1 < w1.heap.size := hlt1
    clear k0 c1 f1 hb hB0 hlt1 hsm hH K
    generalize w1.heap.size = C at *
    generalize w1.alloc (.cells (S.cells L) 36) = V at *
    refine wpIn_rangeFunc_ownH rfl (by omega) (gf := 134) (lb := #[.pointer (some ⟨C, 0, none⟩)]) rfl trivial (enters_of Tryz.func134 (by kernel_rfl) rfl)
      (waits_stops 2 S L C w.heap.size V (by omega) hBV.size kC hV6) KpD.trans (fun W l o o' hl ho _ _ => ⟨by simp, fun i hi => World.putObj_heap_other (by omega)⟩) (Below.refl _ _) (fun _ => rfl)
      (DI w S.ths.length C) (fun _ _ _ => False) (DI.own w _ _ _ hBV.size) (fun _ _ _ _ _ hs _ _ => hs) ⟨⟨none, 0, [], k1, World.ownsRow_nil _ _ _ _, by simp, by omega, by simp⟩, hBV⟩
      (fun x a' W => ∃ Bx, w.heap.size + 1 < Bx ∧ W.heap[Bx]? = some (.cells x.1.2.cells 51 (0, 0)) ∧ a' = { tmps := #[S.val L, .pointer (some ⟨w.heap.size, 0, none⟩), .pointer (some ⟨w.heap.size + 1, 0, none⟩), .int .i64 x.1.1, .pointer (some ⟨Bx, 0, none⟩), S.val L, .bool true, .bool false, S.val L, .func (.func 134) #[] #[.pointer (some ⟨C, 0, none⟩)], .int .i64 x.1.1, x.1.2.value, undef, undef, undef, undef, undef, undef, undef, undef, undef, undef], defers := [] })
      (fun x a' _ X Y row hs hg hr => by obtain ⟨Bx, h1, h2, h3⟩ := hs; exact ⟨Bx, h1, block_own h2 hg (fun r e => (hr r e).2), h3⟩)
      ?assign ?body ?done ?stop
    case assign =>
      rintro l pre x W K ⟨⟨A, c, ds, hk1, hm, hlen, hCW, hin⟩, hB1⟩ hK
      have hsW := hB1.size
      have hax := below_one W (.cells x.1.2.cells 51)
      have hlk := blk_lt hk1
      gi_wp2
      exact hK _ _ ((KeepsOthers.alloc _ _).from _) (KpD.of_below hax hsW hCW) ⟨⟨A, c, ds, kept hk1 hax, hm.kept hax, hlen, by simp; omega, hin⟩, hB1.trans (hax.mono hsW)⟩ ⟨W.heap.size, hlk, World.alloc_heap_new W _, rfl⟩
    case body =>
      rintro l pre x a' W hl ⟨r, hr⟩ ⟨⟨A, c, ds, hk1, hm, hlen, hCW, hin⟩, hB1⟩ ⟨Bx, hBx, bX, rfl⟩ hlt
      obtain ⟨c1, f1⟩ := cells1 hk1
      have hsW := hB1.size
      have t3 := (of_block bX 3).1
      change W.cell? ⟨Bx, 3, none⟩ = some (.int .i64 x.1.2.until_) at t3
      have hx := x.2
      have PT : Calls Tryz.prog 102 #[.slice A ds.length c, .agg #[.int .i64 x.1.2.until_, .int .i64 x.1.1]] W _ := put_any (DuIn S.ths.length) ds A c ⟨x.1.2.until_, x.1.1⟩ W (by omega) hm.lies hin ⟨by simp, by show (x.1.1 : Int) < (S.ths.length : Int); omega⟩
      gi_wp2_with (first
        | (refine ⟨trivial, ?_⟩; gi_at_call 102; (with_reducible refine (CallsIn.inRound l (callsIn_wide.2 PT)).mono ?_); rintro e w4 ⟨A4, c4, l4, er, rfl, hm4, hl4, hq4, hb4⟩; obtain ⟨c1, f1⟩ := cells1 (kept hk1 hb4)))
      have hm5 : Mine w4 (w.heap.size + 2) 141 2 A4 c4 l4.length (dus l4) := hm4.mono (by omega)
      have hb5 : Below (w.heap.size + 1) W (w4.setCell ⟨w.heap.size + 1, 0, none⟩ (.slice A4 l4.length c4)) := (hb4.mono (show w.heap.size + 1 ≤ W.heap.size by omega)).setCell (p := ⟨w.heap.size + 1, 0, none⟩) (Nat.le_refl _) _
      have hsz4 := hb4.size
      refine ⟨(KeepsOthers.of_below hb4).trans (KeepsOthers.setCell _ _ _) |>.from _, ⟨hb5.size, fun i hi => ?_⟩, ⟨A4, c4, l4, put_cell (i := 0) (kept hk1 hb4) _, hm5.other _ _ _ (by omega), by simp; omega, by have := hb5.size; omega, hq4⟩, hB1.trans (hb5.mono (by omega))⟩
      exact (Below.heap_setCell w4 ⟨w.heap.size + 1, 0, none⟩ _ i (by simp; omega)).trans (hb4.block i (by omega))
    case done =>
      rintro D zs W hD hzs ⟨⟨A, c, ds, hk1, hm, hlen, hCW, hin⟩, hB1⟩ hK
      obtain ⟨c1, f1⟩ := cells1 hk1
      gi_wp2
      have hK' := (KeepsOthers.setCell W ⟨w.heap.size + 1, 0, none⟩ (.slice A ds.length c)).same D _ hK rfl
      have hkc := put_cell (i := 0) hk1 (.slice A ds.length c)
      have hown := (hm.other (w.heap.size + 1) 0 (.slice A ds.length c) (by omega)).own (grownBy_putObj' _ D (.deferred none)) (fun r e => by cases e; exact ⟨_, hK', rfl⟩)
      obtain ⟨c2, f2⟩ := cells1 (block_own hkc (grownBy_putObj' _ D (.deferred none)) (fun r e => by cases e; exact ⟨_, hK', rfl⟩))
      refine ⟨by simp, .inl ⟨_, _, rfl, run_takeDeferred hK', ?_⟩⟩
      refine ⟨.slice A ds.length c, ?_, A, c, ds, rfl, hown.mono (by omega), ?_, hin, (hB1.setCell (p := ⟨w.heap.size + 1, 0, none⟩) (by simp) _).trans (belowK_b (w := w) (Nat.le_refl _) _ D _ _ (by have := hBV.size; omega) hK' rfl rfl)⟩
      · simp [results, Tryz.f79, go_sem, c2]
      · omega
    case stop =>
      rintro D c pre W _ _ h _
      exact h.elim

end Go.Proofs.YtnbgpopjnpdmgaaGreat
