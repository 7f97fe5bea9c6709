/-
  DERIVED. Tell, Tell2, Sep, Tell3.
-/
import Derived.Test.YtnbgpopjnpdmgaaGreatPat
set_option linter.unusedVariables false
set_option linter.unusedSimpArgs false

namespace Go.Proofs.YtnbgpopjnpdmgaaGreat
open Go Go.RowKit Go.Shelf

theorem flat_set {α : Type} {f : α → List Value} {k : Nat} (hf : ∀ x, (f x).length = k) : ∀ {l : List α} {i : Nat} {x x' : α} {j : Nat} {v : Value}, l[i]? = some x → j < k → (f x).set j v = f x' → (l.flatMap f).set (i * k + j) v = (l.set i x').flatMap f := by
  intro l
  induction l with
  | nil => intro i x x' j v h; simp at h
  | cons a l ih =>
    intro i x x' j v h hj hx
    cases i with
    | zero =>
      obtain rfl : a = x := by simpa using h
      rw [List.set_cons_zero, List.flatMap_cons, List.flatMap_cons, Nat.zero_mul, Nat.zero_add, List.set_append_left _ _ (by rw [hf]; exact hj), hx]
    | succ i =>
      rw [List.set_cons_succ, List.flatMap_cons, List.flatMap_cons, List.set_append_right _ _ (by rw [hf, Nat.succ_mul]; omega), hf, show (i + 1) * k + j - k = i * k + j by rw [Nat.succ_mul]; omega, ih (by simpa using h) hj hx]
theorem append_exec {P : Program} {w w' : World} {t ty : TypeId} {v x v' : Value} (hr : (Builtin.append_ #[t, t] ty #[v, x]).run P w = .ok v' w') {a : Act} {s y : Operand} {dst : Option Tmp} {ps : String} {af : Array Edge} {gd : Option (Nat × Bool)} (hs : a.eval s = v) (hx : a.eval y = x) :
    (execOp a.eval (Oper.mk dst (.call { callee := .builtin .append, args := #[s, y], argTypes := #[t, t] }) ty ps af gd)).run P w = .ok (.value v') w' := by
  unfold execOp
  simp only [resolve, invoke, builtin, Sem.run_bind, Sem.run_pure, Result.andThen_ok, List.map_toArray, List.map_cons, List.map_nil, hs, hx, hr]
theorem en_inf : (Tryz.prog.info? 96).map (fun i => (i.zero, i.size, i.bytes)) = some (some (.agg #[.int .i64 0, .int .i64 0, .int .i64 0, .int .i64 0, .int .i64 0]), 5, 40) := by kernel_rfl
/-- What it tells in. -/
def Th.told (t : Th) (kind r g : Int) : Th := if kind = 9 then t else { t with result := r, got := g }
structure TellS (base g c n : Nat) (l : List Th) (Bt Bi Bk Br Bg : Nat) (id kind r o : Int) (V : World) : Prop where
  hm : Mine V base 51 11 (some ⟨g, 0, none⟩) c n (Go.Proofs.YtnbgpopjnpdmgaaGreat.ths l)
  c1 : V.cell? ⟨Bi, 0, none⟩ = some (.int .i64 id)
  c2 : V.cell? ⟨Bk, 0, none⟩ = some (.int .i64 kind)
  c3 : V.cell? ⟨Br, 0, none⟩ = some (.int .i64 r)
  c4 : V.cell? ⟨Bg, 0, none⟩ = some (.int .i64 o)
  ht : V.heap[Bt]? = some (.cells #[.slice none 0 0] 34 (0, 0))
theorem TellS.on {base g c n : Nat} {l : List Th} {Bt Bi Bk Br Bg : Nat} {id kind r o : Int} {W V : World} (h : TellS base g c n l Bt Bi Bk Br Bg id kind r o W) (hb : Below W.heap.size W V) : TellS base g c n l Bt Bi Bk Br Bg id kind r o V :=
  ⟨h.hm.kept hb, keep_c h.c1 hb, keep_c h.c2 hb, keep_c h.c3 hb, keep_c h.c4 hb, kept h.ht hb⟩
theorem TellS.drew {base g c n : Nat} {l : List Th} {Bt Bi Bk Br Bg : Nat} {id kind r o : Int} {W : World} (h : TellS base g c n l Bt Bi Bk Br Bg id kind r o W) : TellS base g c n l Bt Bi Bk Br Bg id kind r o W.drew := ⟨h.hm, h.c1, h.c2, h.c3, h.c4, h.ht⟩
theorem en_cells (W : World) (x : En) : ∀ j u, x.cells[j]? = some u → (W.alloc (.cells #[.int .i64 x.thread, .int .i64 x.kind, .int .i64 x.val, .int .i64 x.result, .int .i64 x.got] 96)).cell? ((⟨W.heap.size, 0, none⟩ : Addr).add j) = some u := by
  intro j u hj
  rw [Addr.add_lit, Nat.zero_add, (of_block (World.alloc_heap_new W _) j).1]
  simpa using hj

set_option maxRecDepth 100000 in
set_option maxHeartbeats 2000000 in
theorem tell1_any (t : Th) (base g c n k : Nat) (l : List Th) (Bt Bi Bk Br Bg : Nat) (id kind r o : Int) (w : World) (hS0 : TellS base g c n l Bt Bi Bk Br Bg id kind r o w) (hk : l[k]? = some t) (hne : Bt < base) (hne2 : Bg < base) (hne3 : Bk < base ∧ Br < base ∧ Bk ≠ Bt ∧ Br ≠ Bt ∧ Bg ≠ Bt) :
    Calls Tryz.prog 185 #[.pointer (some ⟨g, k * 11, none⟩), .pointer (some ⟨Bt, 0, none⟩), .pointer (some ⟨Bi, 0, none⟩), .pointer (some ⟨Bk, 0, none⟩), .pointer (some ⟨Br, 0, none⟩), .pointer (some ⟨Bg, 0, none⟩)] w fun e w' => e = .returned (.tuple #[]) ∧ Mine w' base 51 11 (some ⟨g, 0, none⟩) c n (Go.Proofs.YtnbgpopjnpdmgaaGreat.ths (l.set k (t.told kind r o))) ∧ ∃ A' c', w'.heap[Bt]? = some (.cells #[.slice A' 1 c'] 34 (0, 0)) ∧ Mine w' w.heap.size 96 5 A' c' 1 (ens [⟨id, kind, t.val, r, o⟩]) ∧ But2 w w' g Bt := by
  obtain ⟨i0, hi, hz0, hz1, hz2⟩ := info_parts en_inf
  have htold : (kind = 9 → t.told kind r o = t) ∧ (¬ kind = 9 → t.told kind r o = { t with result := r, got := o }) := ⟨fun h => if_pos h, fun h => if_neg h⟩
  generalize t.told kind r o = t2 at *
  have HT := Lib.hid htold
  clear htold
  have hkl := (List.getElem?_eq_some_iff.1 hk).1
  have hgb := hS0.hm.base g 0 none rfl
  go_enter Tryz.func185, Tryz.ntmps185
  go_wp2_with fail
  have hS := hS0.drew
  refine wp_region_ord3 (TellS base g c n l Bt Bi Bk Br Bg id kind r o) (fun _ => True) 12 (by kernel_rfl)
    [(2, 3), (2, 4), (2, 5), (1, 0), (1, 1), (1, 2), (1, 6), (1, 7), (1, 8), (2, 9), (0, 10), (0, 11), (0, 12)]
    (by kernel_rfl) (by kernel_rfl) (by decide) (by kernel_rfl) (fun _ _ d _ _ h => by cases d <;> exact h) ?_
  simp only [inOrder2, List.getElem?_cons_succ, List.getElem?_cons_zero, List.nil_append, List.cons_append]
  have hz3 : w.heap.size ≤ w.drew.heap.size ∧ w.drew.heap.size ≤ w.heap.size := ⟨Nat.le_refl _, Nat.le_refl _⟩
  have hbw : Below w.heap.size w w.drew := (Below.refl _ _).drew
  generalize w.drew = w3 at *
  iterate 3 (((with_reducible refine o3_calmF (v := ?_) (a' := ?_) hS ?_ (fun V => ?_) ?_ ?_); rotate_left 2; (rfl); (first | (go_simp; with_reducible rfl) | (go_simp; refine (if_pos ?_).trans ?_; omega; with_reducible rfl)); (simp only [Act.put, List.setIfInBounds_toArray, List.set_cons_succ, List.set_cons_zero] <;> rfl)))
  iterate 6 (((with_reducible refine o3_pre (v := ?_) (a' := ?_) hS ?_ (fun V hV => ?_) ?_ ?_); rotate_left 2; (rfl); (obtain ⟨q0, q1, q2, q3, q4, q5⟩ := hV; obtain ⟨b0, -⟩ := cells1 q5; have tv := th_cells q0 hk 2 _ rfl; first | (go_simp; with_reducible rfl) | (go_simp; refine (if_pos ?_).trans ?_; omega; with_reducible rfl)); (simp only [Act.put, List.setIfInBounds_toArray, List.set_cons_succ, List.set_cons_zero] <;> rfl)))
  ((with_reducible refine o3_calmF (v := ?_) (a' := ?_) hS ?_ (fun V => ?_) ?_ ?_); rotate_left 2; (rfl); (first | (go_simp; with_reducible rfl) | (go_simp; refine (if_pos ?_).trans ?_; omega; with_reducible rfl)); (simp only [Act.put, List.setIfInBounds_toArray, List.set_cons_succ, List.set_cons_zero] <;> rfl))
  refine o3_onlyF rfl rfl ?_
  go_simp
  refine ⟨hS.on (below_one _ _), ?_⟩
  replace hS := hS.on (below_one _ (.cells #[.int .i64 id, .int .i64 kind, .int .i64 t.val, .int .i64 r, .int .i64 o] 96))
  have hem : World.ownsRow (w3.alloc (.cells #[.int .i64 id, .int .i64 kind, .int .i64 t.val, .int .i64 r, .int .i64 o] 96)) (w.heap.size) 96 5 (.slice none 0 0) 0 [] := World.ownsRow_nil _ _ _ _
  obtain ⟨v', w4, hrun, hown, hg4, -⟩ := run_append_own (P := Tryz.prog) (w3.alloc (.cells #[.int .i64 id, .int .i64 kind, .int .i64 t.val, .int .i64 r, .int .i64 o] 96)) w.heap.size 34 34 96 i0 _ 5 40 Tryz.underlying34 hi hz0 hz1 hz2 rfl (by decide) (.slice none 0 0) 0 [] hem ⟨w3.heap.size, 0, none⟩ 1 1 (En.cells ⟨id, kind, t.val, r, o⟩) rfl (en_cells w3 ⟨id, kind, t.val, r, o⟩) (by intro u hu; simp at hu; rcases hu with rfl | rfl | rfl | rfl | rfl <;> rfl) (by simp [maxLen]) (by omega) (by simp; omega)
  rw [List.nil_append, Nat.zero_add] at hown
  obtain ⟨A2, c2, rfl⟩ : ∃ A2 c2, v' = .slice A2 1 c2 := by
    rcases hown.2 with ⟨e1, e2⟩ | ⟨g, cap, cur, e1, _⟩
    · omega
    · exact ⟨_, cap, e1⟩
  have hg4' : (w3.alloc (.cells #[.int .i64 id, .int .i64 kind, .int .i64 t.val, .int .i64 r, .int .i64 o] 96)).grownBy w4 none := hg4
  have hb4 : Below (w3.alloc (.cells #[.int .i64 id, .int .i64 kind, .int .i64 t.val, .int .i64 r, .int .i64 o] 96)).heap.size (w3.alloc (.cells #[.int .i64 id, .int .i64 kind, .int .i64 t.val, .int .i64 r, .int .i64 o] 96)) w4 := ⟨hg4'.os, hg4'.tape, hg4'.output, hg4'.size, fun j hj => hg4'.block j hj (by simp)⟩
  replace hS := hS.on hb4
  refine o3_valF rfl rfl (append_exec hrun rfl rfl) (by simp only [Act.put, List.setIfInBounds_toArray, List.set_cons_succ, List.set_cons_zero] <;> rfl) hS ?_
  obtain ⟨b0, f0⟩ := cells1 hS.ht
  refine o3_onlyS rfl rfl ?_
  go_simp
  refine o3_end _ ?_
  try simp only [Exit.then]
  clear b0 f0
  have hbw4 : Below w.heap.size w w4 := (hbw.alloc (by omega) _).trans (hb4.mono (by simp; omega))
  have hBt : Bt < w.heap.size := by omega
  have hm4 := hS.hm.other Bt 0 (.slice A2 1 c2) hne
  have ht4 := put_cell (i := 0) hS.ht (.slice A2 1 c2)
  have hown4 : Mine (w4.setCell ⟨Bt, 0, none⟩ (.slice A2 1 c2)) w.heap.size 96 5 A2 c2 1 (ens [⟨id, kind, t.val, r, o⟩]) := Mine.other hown Bt 0 (.slice A2 1 c2) hBt
  have oth : ∀ B v, B ≠ Bt → w4.cell? ⟨B, 0, none⟩ = some v → (w4.setCell ⟨Bt, 0, none⟩ (.slice A2 1 c2)).cell? ⟨B, 0, none⟩ = some v := fun B v h1 h2 => (World.cell?_of_block (Below.heap_setCell w4 ⟨Bt, 0, none⟩ _ B h1)).trans h2
  have ck := oth Bk _ hne3.2.2.1 hS.c2
  have cr := oth Br _ hne3.2.2.2.1 hS.c3
  have cg := oth Bg _ hne3.2.2.2.2 hS.c4
  have hbut : But2 w (w4.setCell ⟨Bt, 0, none⟩ (.slice A2 1 c2)) g Bt := ⟨hbw4.os, hbw4.tape, hbw4.output, by simpa using hbw4.size, fun j hj _ h2 => (Below.heap_setCell w4 ⟨Bt, 0, none⟩ _ j h2).trans (hbw4.block j hj)⟩
  generalize w4.setCell ⟨Bt, 0, none⟩ (.slice A2 1 c2) = v4 at *
  clear oth hS hown hb4 hg4' hg4 hrun hem hS0
  by_cases hk9 : kind = 9
  · subst hk9
    obtain rfl : t2 = t := HT.out.1 rfl
    go_wp2
    go_returns
    exact ⟨rfl, by simpa [set_same hk] using hm4, A2, c2, ht4, hown4, hbut⟩
  · have hk9' : (kind != 9) = true := by simpa using hk9
    have ht2 := HT.out.2 hk9
    go_wp2_with fail
    have hS : (fun V => At Br 0 (.int .i64 r) V ∧ At Bg 0 (.int .i64 o) V ∧ Mine V base 51 11 (some ⟨g, 0, none⟩) c n (Go.Proofs.YtnbgpopjnpdmgaaGreat.ths l)) v4.drew := ⟨cr, cg, hm4⟩
    replace ht4 : v4.drew.heap[Bt]? = _ := ht4
    replace hown4 := hown4.drew
    have hbut2 : But2 w v4.drew g Bt := ⟨hbut.os, hbut.tape, hbut.output, hbut.size, hbut.block⟩
    clear hbut hm4 ck cr cg
    refine wp_region_ord3 (fun V => At Br 0 (.int .i64 r) V ∧ At Bg 0 (.int .i64 o) V ∧ Mine V base 51 11 (some ⟨g, 0, none⟩) c n (Go.Proofs.YtnbgpopjnpdmgaaGreat.ths l)) (At Bg 0 (.int .i64 o)) 6 (by kernel_rfl)
      [(2, 0), (2, 1), (1, 2), (2, 4), (2, 5), (2, 3), (0, 6), (2, 7), (2, 8), (0, 9)]
      (by kernel_rfl) (by kernel_rfl) (by decide) (by kernel_rfl) (fun _ _ d _ _ h => by cases d <;> exact h) ?_
    simp only [inOrder2, List.getElem?_cons_succ, List.getElem?_cons_zero, List.nil_append, List.cons_append]
    generalize v4.drew = v5 at *
    iterate 2 (((with_reducible refine o3_calmF (v := ?_) (a' := ?_) hS ?_ (fun V => ?_) ?_ ?_); rotate_left 2; (rfl); (first | (go_simp; with_reducible rfl) | (go_simp; refine (if_pos ?_).trans ?_; omega; with_reducible rfl)); (simp only [Act.put, List.setIfInBounds_toArray, List.set_cons_succ, List.set_cons_zero] <;> rfl)))
    ((with_reducible refine o3_pre (v := ?_) (a' := ?_) hS ?_ (fun V hV => ?_) ?_ ?_); rotate_left 2; (rfl); (obtain ⟨q0, q1, -⟩ := hV; unfold At at q0 q1; first | (go_simp; with_reducible rfl) | (go_simp; refine (if_pos ?_).trans ?_; omega; with_reducible rfl)); (simp only [Act.put, List.setIfInBounds_toArray, List.set_cons_succ, List.set_cons_zero] <;> rfl))
    iterate 2 (((with_reducible refine o3_calmF (v := ?_) (a' := ?_) hS ?_ (fun V => ?_) ?_ ?_); rotate_left 2; (rfl); (first | (go_simp; with_reducible rfl) | (go_simp; refine (if_pos ?_).trans ?_; omega; with_reducible rfl)); (simp only [Act.put, List.setIfInBounds_toArray, List.set_cons_succ, List.set_cons_zero] <;> rfl)))
    ((with_reducible refine o3_both (v := ?_) (a' := ?_) hS ?_ (fun V hV => ?_) (fun V hV => ?_) ?_ ?_); rotate_left 2; (focus rfl); (focus (obtain ⟨q0, q1, -⟩ := hV; unfold At at q0 q1; first | (go_simp; with_reducible rfl) | (go_simp; refine (if_pos ?_).trans ?_; omega; with_reducible rfl))); (focus (have q1 := hV; unfold At at q1; first | (go_simp; done) | (go_simp; with_reducible rfl))); (focus (simp only [Act.put, List.setIfInBounds_toArray, List.set_cons_succ, List.set_cons_zero] <;> rfl)))
    obtain ⟨x9, y9⟩ := Mine.cellAt hS.2.2 (flat_at (f := Th.list) (k := 11) (fun _ => rfl) hk (j := 9) rfl)
    obtain ⟨x10, y10⟩ := Mine.cellAt hS.2.2 (flat_at (f := Th.list) (k := 11) (fun _ => rfl) hk (j := 10) rfl)
    refine o3_onlyS rfl rfl ?_
    go_simp
    have hT : At Bg 0 (.int .i64 o) (v5.setCell ⟨g, k * 11 + 9, none⟩ (.int .i64 r)) := (World.cell?_of_block (Below.heap_setCell v5 ⟨g, k * 11 + 9, none⟩ _ Bg (by show Bg ≠ g; omega))).trans hS.2.1
    refine ⟨hT, ?_⟩
    iterate 2 (((with_reducible refine o3_calmT (v := ?_) (a' := ?_) hT ?_ (fun V => ?_) ?_ ?_); rotate_left 2; (rfl); (first | (go_simp; with_reducible rfl) | (go_simp; refine (if_pos ?_).trans ?_; omega; with_reducible rfl)); (simp only [Act.put, List.setIfInBounds_toArray, List.set_cons_succ, List.set_cons_zero] <;> rfl)))
    refine o3_onlyT  rfl ?_
    go_simp
    have hT2 : At Bg 0 (.int .i64 o) ((v5.setCell ⟨g, k * 11 + 9, none⟩ (.int .i64 r)).setCell ⟨g, k * 11 + 10, none⟩ (.int .i64 o)) := (World.cell?_of_block (Below.heap_setCell _ ⟨g, k * 11 + 10, none⟩ _ Bg (by show Bg ≠ g; omega))).trans hT
    refine ⟨hT2, ?_⟩
    refine o3_end _ ?_
    try simp only [Exit.then]
    have hlen := ths_len l
    have s1 := (Mine.set hS.2.2 (k * 11 + 9) (.int .i64 r) (by omega)).set (k * 11 + 10) (.int .i64 o) (by rw [List.length_set]; omega)
    rw [flat_set (f := Th.list) (k := 11) (fun _ => rfl) (x' := { t with result := r }) hk (by omega) rfl, flat_set (f := Th.list) (k := 11) (fun _ => rfl) (x := { t with result := r }) (x' := { t with result := r, got := o }) (by simp [hkl]) (by omega) rfl, List.set_set] at s1
    have t1 := keep_cell (C := g) (i := k * 11 + 10) (keep_cell (C := g) (i := k * 11 + 9) ht4 (by omega) (.int .i64 r)) (by omega) (.int .i64 o)
    have o1 := (hown4.other g (k * 11 + 9) (.int .i64 r) (by omega)).other g (k * 11 + 10) (.int .i64 o) (by omega)
    clear x9 y9 x10 y10 hT hT2 hS
    go_wp2
    go_returns
    refine ⟨rfl, by rw [ht2]; exact s1, A2, c2, t1, o1, hbut2.os, hbut2.tape, hbut2.output, by simpa using hbut2.size, fun j hj h1 h2 => ?_⟩
    exact ((Below.heap_setCell _ ⟨g, k * 11 + 10, none⟩ _ j h1).trans (Below.heap_setCell _ ⟨g, k * 11 + 9, none⟩ _ j h1)).trans (hbut2.block j hj h1 h2)

end Go.Proofs.YtnbgpopjnpdmgaaGreat

namespace Go.Proofs.YtnbgpopjnpdmgaaGreat
open Go Go.RowKit Go.Shelf


set_option maxRecDepth 100000 in
set_option maxHeartbeats 8000000 in
theorem withTell_yes (S : St) (L : Lay) (k : Nat) (t : Th) (Bt Bi Bk Br Bg : Nat) (id kind r o : Int) (w : World) (hsm : S.small) (hH : Holds w S L) (hok : S.ok = true) (hk : S.ths[k]? = some t) (h1 : w.cell? ⟨Bi, 0, none⟩ = some (.int .i64 id)) (h2 : w.cell? ⟨Bk, 0, none⟩ = some (.int .i64 kind)) (h3 : w.cell? ⟨Br, 0, none⟩ = some (.int .i64 r)) (h4 : w.cell? ⟨Bg, 0, none⟩ = some (.int .i64 o)) (h5 : w.heap[Bt]? = some (.cells #[.slice none 0 0] 34 (0, 0))) (hd : Bk ≠ Bt ∧ Br ≠ Bt ∧ Bg ≠ Bt) :
    Calls Tryz.prog 25 #[S.val L, .int .i64 k, .func (.func 185) #[] #[.pointer (some ⟨Bt, 0, none⟩), .pointer (some ⟨Bi, 0, none⟩), .pointer (some ⟨Bk, 0, none⟩), .pointer (some ⟨Br, 0, none⟩), .pointer (some ⟨Bg, 0, none⟩)]] w fun e w' => ∃ L', e = .returned ((S.setTh k (t.told kind r o)).val L') ∧ Owns w' w.heap.size (S.setTh k (t.told kind r o)) L' ∧ w.grownBy w' (some Bt) ∧ ∃ A' c', w'.heap[Bt]? = some (.cells #[.slice A' 1 c'] 34 (0, 0)) ∧ Mine w' w.heap.size 96 5 A' c' 1 (ens [⟨id, kind, t.val, r, o⟩]) := by
  have O := fun W (hW : Below w.heap.size w W) => own_any S L W hsm (hH.on hW)
  have C := fun W (hW : Below w.heap.size w W) => check_state S L W hsm (hH.on hW)
  have hl6 := hsm.2.2.2.2.2.1
  obtain ⟨k0, k1, hB0⟩ := two_new w (.cells (S.cells L) 36) (.cells #[.int .i64 0, .int .i64 0, .int .i64 0, .int .i64 0, .int .i64 0, .int .i64 0, .bool false, .int .i64 0, .int .i64 0, .int .i64 0, .slice none 0 0, .slice none 0 0, .slice none 0 0, .int .i64 0, .slice none 0 0, .int .i64 0, .slice none 0 0, .int .i64 0, .slice none 0 0, .slice none 0 0] 36)
  have hkl := (List.getElem?_eq_some_iff.1 hk).1
  have hpos : 0 < S.ths.length := by omega
  have hBt := blk_lt h5
  have l1 := World.block_lt_of_cell? w _ h1
  have l2 := World.block_lt_of_cell? w _ h2
  have l3 := World.block_lt_of_cell? w _ h3
  have l4 := World.block_lt_of_cell? w _ h4
  dsimp only at l1 l2 l3 l4
  rw [hok] at C
  clear hok
  have W : ∀ g c V, Mine V ((w.alloc (.cells (S.cells L) 36)).alloc (.cells #[.int .i64 0, .int .i64 0, .int .i64 0, .int .i64 0, .int .i64 0, .int .i64 0, .bool false, .int .i64 0, .int .i64 0, .int .i64 0, .slice none 0 0, .slice none 0 0, .slice none 0 0, .int .i64 0, .slice none 0 0, .int .i64 0, .slice none 0 0, .int .i64 0, .slice none 0 0, .slice none 0 0] 36)).heap.size 51 11 (some ⟨g, 0, none⟩) c S.ths.length (Go.Proofs.YtnbgpopjnpdmgaaGreat.ths S.ths) → Below w.heap.size w V → _ := fun g c V hm hV => tell1_any t _ g c S.ths.length k S.ths Bt Bi Bk Br Bg id kind r o V ⟨hm, (hV.cell (p := ⟨Bi, 0, none⟩) l1).trans h1, (hV.cell (p := ⟨Bk, 0, none⟩) l2).trans h2, (hV.cell (p := ⟨Br, 0, none⟩) l3).trans h3, (hV.cell (p := ⟨Bg, 0, none⟩) l4).trans h4, (hV.block Bt hBt).trans h5⟩ hk (by rw [World.size_alloc, World.size_alloc]; omega) (by rw [World.size_alloc, World.size_alloc]; omega) ⟨by rw [World.size_alloc, World.size_alloc]; omega, by rw [World.size_alloc, World.size_alloc]; omega, hd⟩
  generalize t.told kind r o = r1 at *
  go_enter Tryz.func25, Tryz.ntmps25
  go_wp2_with (first | (go_at_call 24; (with_reducible refine (O _ hB0).mono ?_); rintro e w1 ⟨L1, rfl, ho, hb⟩; obtain ⟨gb, hg6, hgb1, hgb2⟩ := ho.m6.some_ hpos; simp only [World.size_alloc] at hgb1; have kz := World.alloc_heap_new w1 (.cells #[.int .i64 0, .int .i64 0, .int .i64 0, .int .i64 0, .int .i64 0, .int .i64 0, .bool false, .int .i64 0, .int .i64 0, .int .i64 0, .slice none 0 0, .slice none 0 0, .slice none 0 0, .int .i64 0, .slice none 0 0, .int .i64 0, .slice none 0 0, .int .i64 0, .slice none 0 0, .slice none 0 0] 36); obtain ⟨v1, hst1, kb, hBz, hothz⟩ := run_store_block (P := Tryz.prog) (base := w1.heap.size) (cs := (S.cells L1).toList) kz rfl (st_one S L1) (Nat.le_refl _); have hbv : Below w1.heap.size w1 v1 := (below_one w1 _).trans hBz; replace k0 := kept (kept k0 hb) hbv; replace k1 := kept (kept k1 hb) hbv; replace ho := ho.kept hbv; have hB1 := (hB0.trans (hb.mono hB0.size)).trans (hbv.mono (Nat.le_trans hB0.size hb.size)); have hzz := hb.size) | (go_at_call 22; (with_reducible refine (C _ hB1).mono ?_); rintro e w2 ⟨rfl, hb2⟩; replace k0 := kept k0 hb2; replace k1 := kept k1 hb2; replace kb := kept kb hb2; replace ho := ho.kept hb2; have hB2 := hB1.trans (hb2.mono hB1.size); have a18 := (of_block k0 18).1; have b18 := (of_block kb 18).1; simp only [St.cells, List.getElem?_toArray] at b18; rw [hg6] at b18; have hm := ho.m6; rw [hg6] at hm; have hbs := hbv.size) | ((with_reducible refine wpList_val (load36 k0 ?_ ?_) ?_); (focus rfl); (focus rfl)) | ((with_reducible refine wpList_val (load36 kb3 ?_ ?_) ?_); (focus rfl); (focus rfl)) | ((with_reducible refine wpList_skip (store36 hst1 ?_ ?_ ?_) ?_); (focus rfl); (focus rfl); (focus rfl)) | ((with_reducible refine wpList_skip (store36 hst2 ?_ ?_ ?_) ?_); (focus rfl); (focus rfl); (focus rfl)) | (go_at_call 185; (with_reducible refine (W _ _ _ hm hB2).mono ?_); rintro e w3 ⟨rfl, hm3, A3, c3, he3, ht3, hg3⟩; have kb3 := (hg3.block w1.heap.size (blk_lt kb) (by omega) (by omega)).trans kb; have k13 := (hg3.block (w.heap.size + 1) (blk_lt k1) (by omega) (by omega)).trans k1; have ho3 := ho.setTh2 hg3 (by simp; omega) hg6 (by rw [hg6]; exact hm3); obtain ⟨v2, hst2, kr, hB5, hoth⟩ := run_store_block (P := Tryz.prog) (base := w.heap.size) (cs := (S.cells L1).toList) k13 rfl (st_one S L1) (by omega)))
  have kr2 : v2.heap[w.heap.size + 1]? = some (.cells ((S.setTh k r1).cells L1) 36 (0, 0)) := by rw [setTh_cells]; exact kr
  have hs2 : w.heap.size + 1 < w2.heap.size := blk_lt k1
  refine bodyPost_ret (results36 kr2 rfl rfl rfl) rfl ⟨L1, rfl, (ho3.same (B := w.heap.size + 1) (by simp) hoth).mono (by simp; omega), ⟨hB5.os.trans (hg3.os.trans hB2.os), hB5.tape.trans (hg3.tape.trans hB2.tape), hB5.output.trans (hg3.output.trans hB2.output), Nat.le_trans hB2.size (Nat.le_trans hg3.size hB5.size), fun j hj hne => ?_⟩, A3, c3, (hoth Bt (by omega)).trans he3, (ht3.grown (fun g off u e => hoth g (by have := (ht3.base g off u e).1; omega))).mono hB2.size⟩
  exact ((hB5.block j hj).trans (hg3.block j (Nat.lt_of_lt_of_le hj hB2.size) (by omega) (by simpa using hne))).trans (hB2.block j hj)

end Go.Proofs.YtnbgpopjnpdmgaaGreat

namespace Go.Proofs.YtnbgpopjnpdmgaaGreat
open Go Go.RowKit Go.Shelf

theorem Mine.apartT {w : World} {base base' : Nat} {e e' : TypeId} {k k' : Nat} {A A' : Option Addr} {c n c' n' : Nat} {xs xs' : List Value} (h : Mine w base e k A c n xs) (h' : Mine w base' e' k' A' c' n' xs') (he : e ≠ e') : ∀ g off t, A' = some ⟨g, off, t⟩ → Apart A g := by
  intro g off t hA' b o u hA hbg
  subst hbg
  rcases h.2 with ⟨e1, _⟩ | ⟨g1, cap, cur, e1, _, hg, _⟩
  · rw [hA] at e1; cases e1
  · rcases h'.2 with ⟨e2, _⟩ | ⟨g2, cap2, cur2, e2, _, hg2, _⟩
    · rw [hA'] at e2; cases e2
    · rw [hA] at e1
      rw [hA'] at e2
      injection e1 with a1
      injection a1 with a1
      injection a1 with a1
      injection e2 with b1
      injection b1 with b1
      injection b1 with b1
      subst a1
      subst b1
      rw [hg] at hg2
      injection hg2 with hg2
      injection hg2 with _ hg2
      exact he hg2
theorem Owns.of {w : World} {base : Nat} {S : St} {L : Lay} (m1 : Mine w base 65 2 L.a1 L.c1 S.slots.length (pls S.slots)) (m2 : Mine w base 3 1 L.a2 L.c2 S.sends.length (ints S.sends)) (m3 : Mine w base 3 1 L.a3 L.c3 S.recvs.length (ints S.recvs))
    (m4 : Mine w base 3 1 L.a4 L.c4 S.fl.length (ints S.fl)) (m5 : Mine w base 3 1 L.a5 L.c5 S.el.length (ints S.el)) (m6 : Mine w base 51 11 L.a6 L.c6 S.ths.length (Go.Proofs.YtnbgpopjnpdmgaaGreat.ths S.ths)) (m7 : Mine w base 96 5 L.a7 L.c7 S.log.length (ens S.log)) : Owns w base S L :=
  ⟨m1, m2, m3, m4, m5, m6, m7, fun g off t e => ⟨m1.apartT m6 (by decide) g off t e, m2.apartT m6 (by decide) g off t e, m3.apartT m6 (by decide) g off t e, m4.apartT m6 (by decide) g off t e, m5.apartT m6 (by decide) g off t e, m7.apartT m6 (by decide) g off t e⟩,
    fun g off t e => ⟨m1.apartT m7 (by decide) g off t e, m2.apartT m7 (by decide) g off t e, m3.apartT m7 (by decide) g off t e, m4.apartT m7 (by decide) g off t e, m5.apartT m7 (by decide) g off t e, m6.apartT m7 (by decide) g off t e⟩⟩

theorem Mine.notBlock {w : World} {base : Nat} {e T : TypeId} {k : Nat} {A : Option Addr} {c n B : Nat} {xs : List Value} {cs : Array Value} {fr : Nat × Nat} (h : Mine w base e k A c n xs) (hb : w.heap[B]? = some (.cells cs T fr)) (hT : T ≠ e) : Apart A B := by
  intro b o u hA hbB
  subst hbB
  rcases h.2 with ⟨e1, _⟩ | ⟨g1, cap, cur, e1, _, hg, _⟩
  · rw [hA] at e1; cases e1
  · rw [hA] at e1
    injection e1 with a1
    injection a1 with a1
    injection a1 with a1
    subst a1
    rw [hg] at hb
    injection hb with hb
    injection hb with _ hb
    exact hT hb.symm
theorem Mine.sameBut {w w' : World} {base : Nat} {e : TypeId} {k : Nat} {A : Option Addr} {c n B : Nat} {xs : List Value} (h : Mine w base e k A c n xs) (hA : Apart A B) (hs : ∀ j, j ≠ B → w'.heap[j]? = w.heap[j]?) : Mine w' base e k A c n xs := h.grown fun g off t e => hs g (hA g off t e)
/-- A block of a state's own make is written: its rows stand. -/
theorem Owns.put {w w' : World} {base B : Nat} {T : TypeId} {S : St} {L : Lay} {cs : Array Value} {fr : Nat × Nat} (h : Owns w base S L) (hb : w.heap[B]? = some (.cells cs T fr)) (hT : T ≠ 65 ∧ T ≠ 3 ∧ T ≠ 51 ∧ T ≠ 96) (hs : ∀ j, j ≠ B → w'.heap[j]? = w.heap[j]?) : Owns w' base S L :=
  Owns.of (h.m1.sameBut (h.m1.notBlock hb hT.1) hs) (h.m2.sameBut (h.m2.notBlock hb hT.2.1) hs) (h.m3.sameBut (h.m3.notBlock hb hT.2.1) hs) (h.m4.sameBut (h.m4.notBlock hb hT.2.1) hs) (h.m5.sameBut (h.m5.notBlock hb hT.2.1) hs) (h.m6.sameBut (h.m6.notBlock hb hT.2.2.1) hs) (h.m7.sameBut (h.m7.notBlock hb hT.2.2.2) hs)

end Go.Proofs.YtnbgpopjnpdmgaaGreat

namespace Go.Proofs.YtnbgpopjnpdmgaaGreat
open Go Go.RowKit Go.Shelf

/-- What one did is told. -/
def St.tell (S : St) (id kind r o : Int) : St := if S.ok = true ∧ 0 ≤ id then (match S.ths[id.toNat]? with | some t => { S.setTh id.toNat (t.told kind r o) with log := S.log ++ [⟨id, kind, t.val, r, o⟩] } | none => S) else S
theorem append_nothing {P : Program} {w : World} {t ty e : TypeId} {A : Option Addr} {n c k base : Nat} {xs : List Value} (hu : P.underlying t = some (.slice e)) (hs : (P.info? e).map (·.size) = some k) (hm : Mine w base e k A c n xs) :
    (Builtin.append_ #[t, t] ty #[.slice A n c, .slice none 0 0]).run P w = .ok (.slice A n c) w := by
  have hc := hm.cap
  cases hq : P.info? e with
  | none => simp [hq] at hs
  | some i =>
    cases A with
    | none => simp [Builtin.append_, run_underlying hu, sizeOf, typeInfo, hq, Builtin.lenOf, Builtin.firstCells, hc, storeCells]
    | some a => simp [Builtin.append_, run_underlying hu, sizeOf, typeInfo, hq, Builtin.lenOf, Builtin.firstCells, hc, storeCells]
theorem en_sz : (Tryz.prog.info? 96).map (·.size) = some 5 := by kernel_rfl
theorem ens_len (l : List En) : (ens l).length = l.length * 5 := flat_len (k := 5) (fun _ => rfl) l

set_option maxRecDepth 100000 in
set_option maxHeartbeats 8000000 in
theorem tell_no (S : St) (L : Lay) (id kind r o : Int) (w : World) (hsm : S.small) (hH : Holds w S L) (h : S.ok = false ∨ ¬ (0 ≤ id ∧ id < S.ths.length)) :
    Calls Tryz.prog 172 #[S.val L, .int .i64 id, .int .i64 kind, .int .i64 r, .int .i64 o] w fun e w' => ∃ L', e = .returned ((S).val L') ∧ Owns w' w.heap.size (S) L' ∧ Below w.heap.size w w' := by
  have hS := (((((((Blk.nil w).add (.cells (S.cells L) 36)).add (.cells #[.int .i64 id] 3)).add (.cells #[.int .i64 kind] 3)).add (.cells #[.int .i64 r] 3)).add (.cells #[.int .i64 o] 3)).add (.cells #[.int .i64 0, .int .i64 0, .int .i64 0, .int .i64 0, .int .i64 0, .int .i64 0, .bool false, .int .i64 0, .int .i64 0, .int .i64 0, .slice none 0 0, .slice none 0 0, .slice none 0 0, .int .i64 0, .slice none 0 0, .int .i64 0, .slice none 0 0, .int .i64 0, .slice none 0 0, .slice none 0 0] 36)).add (.cells #[.slice none 0 0] 34)
  simp only [World.size_alloc] at hS
  have k0 := hS.get (B := w.heap.size) (o := (.cells (S.cells L) 36)) (by simp)
  have d1 := (cells1 (hS.get (B := w.heap.size + 1) (o := (.cells #[.int .i64 id] 3)) (by simp))).1
  have d2 := (cells1 (hS.get (B := w.heap.size + 2) (o := (.cells #[.int .i64 kind] 3)) (by simp))).1
  have d3 := (cells1 (hS.get (B := w.heap.size + 3) (o := (.cells #[.int .i64 r] 3)) (by simp))).1
  have d4 := (cells1 (hS.get (B := w.heap.size + 4) (o := (.cells #[.int .i64 o] 3)) (by simp))).1
  have d6 := hS.get (B := w.heap.size + 6) (o := (.cells #[.slice none 0 0] 34)) (by simp)
  have WN := fun V (hV : Below w.heap.size w V) => with_no S L id (.func (.func 185) #[] #[.pointer (some ⟨w.heap.size + 6, 0, none⟩), .pointer (some ⟨w.heap.size + 1, 0, none⟩), .pointer (some ⟨w.heap.size + 2, 0, none⟩), .pointer (some ⟨w.heap.size + 3, 0, none⟩), .pointer (some ⟨w.heap.size + 4, 0, none⟩)]) V hsm (hH.on hV) h
  go_enter Tryz.func172, Tryz.ntmps172
  go_wp2_with (first | ((with_reducible refine wpList_val (load36 k0 ?_ ?_) ?_); (focus rfl); (focus rfl)) | (go_at_call 25; (with_reducible refine (WN _ hS.below).mono ?_); rintro e w4 ⟨L1, rfl, ho, hb⟩; replace hS := hS.on hb; have kz := World.alloc_heap_new w4 (.cells #[.int .i64 0, .int .i64 0, .int .i64 0, .int .i64 0, .int .i64 0, .int .i64 0, .bool false, .int .i64 0, .int .i64 0, .int .i64 0, .slice none 0 0, .slice none 0 0, .slice none 0 0, .int .i64 0, .slice none 0 0, .int .i64 0, .slice none 0 0, .int .i64 0, .slice none 0 0, .slice none 0 0] 36); obtain ⟨v5, hst5, kb, hBz, hothz⟩ := run_store_block (P := Tryz.prog) (base := w4.heap.size) (cs := (S.cells L1).toList) kz rfl (st_one S L1) (Nat.le_refl _); have hbv : Below w4.heap.size w4 v5 := (below_one w4 _).trans hBz; have hz4 := hb.size; replace hS := hS.on hbv; have ho4 := ho; replace ho := ho.kept hbv; have hap := append_nothing (P := Tryz.prog) (ty := 34) Tryz.underlying34 en_sz ho.m7; have b19 := (of_block kb 19).1; have fb := frozen20 kb; have d6 := (cells1 (hS.get (B := w.heap.size + 6) (o := (.cells #[.slice none 0 0] 34)) (by simp))).1; have kb2 : (v5.setCell ⟨w4.heap.size, 19, none⟩ (.slice L1.a7 S.log.length L1.c7)).heap[w4.heap.size]? = some (.cells (S.cells L1) 36 (0, 0)) := put_cell (i := 19) kb (.slice L1.a7 S.log.length L1.c7); obtain ⟨v6, hst6, kr, hB6, hoth⟩ := run_store_block (P := Tryz.prog) (base := w.heap.size) (cs := (S.cells L1).toList) (keep_cell (C := w4.heap.size) (i := 19) (hS.get (B := w.heap.size + 5) (o := (.cells #[.int .i64 0, .int .i64 0, .int .i64 0, .int .i64 0, .int .i64 0, .int .i64 0, .bool false, .int .i64 0, .int .i64 0, .int .i64 0, .slice none 0 0, .slice none 0 0, .slice none 0 0, .int .i64 0, .slice none 0 0, .int .i64 0, .slice none 0 0, .int .i64 0, .slice none 0 0, .slice none 0 0] 36)) (by simp)) (by simp at hz4 ⊢; omega) (.slice L1.a7 S.log.length L1.c7)) rfl (st_one S L1) (by omega)) | ((with_reducible refine wpList_skip (store36 hst5 ?_ ?_ ?_) ?_); (focus rfl); (focus rfl); (focus rfl)) | ((with_reducible refine wpList_val (append_exec hap ?_ ?_) ?_); (focus rfl); (focus rfl)) | ((with_reducible refine wpList_val (load36 kb2 ?_ ?_) ?_); (focus rfl); (focus rfl)) | ((with_reducible refine wpList_skip (store36 hst6 ?_ ?_ ?_) ?_); (focus rfl); (focus rfl); (focus rfl)))
  have hbs : Below w4.heap.size w4 (v5.setCell ⟨w4.heap.size, 19, none⟩ (.slice L1.a7 S.log.length L1.c7)) := hbv.setCell (Nat.le_refl _) _
  have hsz : w.heap.size + 7 ≤ w4.heap.size := by simpa using hz4
  have hbS : Below w.heap.size w (v5.setCell ⟨w4.heap.size, 19, none⟩ (.slice L1.a7 S.log.length L1.c7)) := hS.below.setCell (show w.heap.size ≤ w4.heap.size by omega) _
  refine bodyPost_ret (results36 kr rfl rfl rfl) rfl ⟨L1, rfl, ((ho4.kept hbs).same (B := w.heap.size + 5) (by simp) hoth).mono (by simp; omega), hbS.trans hB6⟩

set_option maxRecDepth 100000 in
set_option maxHeartbeats 8000000 in
theorem tell_yes (S : St) (L : Lay) (k : Nat) (t : Th) (kind r o : Int) (w : World) (hsm : S.small) (hH : Holds w S L) (h : S.ok = true) (hk : S.ths[k]? = some t) :
    Calls Tryz.prog 172 #[S.val L, .int .i64 k, .int .i64 kind, .int .i64 r, .int .i64 o] w fun e w' => ∃ L', e = .returned (({ S.setTh k (t.told kind r o) with log := S.log ++ [En.mk k kind t.val r o] }).val L') ∧ Owns w' w.heap.size ({ S.setTh k (t.told kind r o) with log := S.log ++ [En.mk k kind t.val r o] }) L' ∧ Below w.heap.size w w' := by
  obtain ⟨i0, hi, hz0, hz1, hz2⟩ := info_parts en_inf
  have hl7 := hsm.2.2.2.2.2.2
  have hS := (((((((Blk.nil w).add (.cells (S.cells L) 36)).add (.cells #[.int .i64 k] 3)).add (.cells #[.int .i64 kind] 3)).add (.cells #[.int .i64 r] 3)).add (.cells #[.int .i64 o] 3)).add (.cells #[.int .i64 0, .int .i64 0, .int .i64 0, .int .i64 0, .int .i64 0, .int .i64 0, .bool false, .int .i64 0, .int .i64 0, .int .i64 0, .slice none 0 0, .slice none 0 0, .slice none 0 0, .int .i64 0, .slice none 0 0, .int .i64 0, .slice none 0 0, .int .i64 0, .slice none 0 0, .slice none 0 0] 36)).add (.cells #[.slice none 0 0] 34)
  simp only [World.size_alloc] at hS
  have k0 := hS.get (B := w.heap.size) (o := (.cells (S.cells L) 36)) (by simp)
  have d1 := (cells1 (hS.get (B := w.heap.size + 1) (o := (.cells #[.int .i64 k] 3)) (by simp))).1
  have d2 := (cells1 (hS.get (B := w.heap.size + 2) (o := (.cells #[.int .i64 kind] 3)) (by simp))).1
  have d3 := (cells1 (hS.get (B := w.heap.size + 3) (o := (.cells #[.int .i64 r] 3)) (by simp))).1
  have d4 := (cells1 (hS.get (B := w.heap.size + 4) (o := (.cells #[.int .i64 o] 3)) (by simp))).1
  have d6 := hS.get (B := w.heap.size + 6) (o := (.cells #[.slice none 0 0] 34)) (by simp)
  have WY := fun V (hV : Below w.heap.size w V) h1 h2 h3 h4 h5 => withTell_yes S L k t (w.heap.size + 6) (w.heap.size + 1) (w.heap.size + 2) (w.heap.size + 3) (w.heap.size + 4) k kind r o V hsm (hH.on hV) h hk h1 h2 h3 h4 h5 ⟨by omega, by omega, by omega⟩
  generalize t.told kind r o = r1 at *
  generalize hS2 : S.setTh k r1 = S2 at *
  have hlog : S2.log = S.log := by rw [← hS2]; rfl
  obtain ⟨lg3, hlg3⟩ : ∃ l, l = S.log ++ [En.mk k kind t.val r o] := ⟨_, rfl⟩
  have hlen3 : S.log.length + 1 = lg3.length := by rw [hlg3]; simp
  have hens : ens lg3 = ens S.log ++ ens [⟨k, kind, t.val, r, o⟩] := by rw [hlg3]; simp [ens]
  rw [← hlg3]
  clear hlg3
  go_enter Tryz.func172, Tryz.ntmps172
  go_wp2_with (first | ((with_reducible refine wpList_val (load36 k0 ?_ ?_) ?_); (focus rfl); (focus rfl)) | (go_at_call 25; (with_reducible refine (WY _ hS.below d1 d2 d3 d4 d6).mono ?_); rintro e w4 ⟨L1, rfl, ho, hg, A3, c3, he4, ht4⟩; have hz4 := blk_lt he4; have hB4 := hS.below.grown hg hS.size (by intro g e; injection e with e; omega); have hZ5 := (hg.block (w.heap.size + 5) (blk_lt (hS.get (B := w.heap.size + 5) (o := (.cells #[.int .i64 0, .int .i64 0, .int .i64 0, .int .i64 0, .int .i64 0, .int .i64 0, .bool false, .int .i64 0, .int .i64 0, .int .i64 0, .slice none 0 0, .slice none 0 0, .slice none 0 0, .int .i64 0, .slice none 0 0, .int .i64 0, .slice none 0 0, .int .i64 0, .slice none 0 0, .slice none 0 0] 36)) (by simp))) (by simp)).trans (hS.get (B := w.heap.size + 5) (o := (.cells #[.int .i64 0, .int .i64 0, .int .i64 0, .int .i64 0, .int .i64 0, .int .i64 0, .bool false, .int .i64 0, .int .i64 0, .int .i64 0, .slice none 0 0, .slice none 0 0, .slice none 0 0, .int .i64 0, .slice none 0 0, .int .i64 0, .slice none 0 0, .int .i64 0, .slice none 0 0, .slice none 0 0] 36)) (by simp)); have kz := World.alloc_heap_new w4 (.cells #[.int .i64 0, .int .i64 0, .int .i64 0, .int .i64 0, .int .i64 0, .int .i64 0, .bool false, .int .i64 0, .int .i64 0, .int .i64 0, .slice none 0 0, .slice none 0 0, .slice none 0 0, .int .i64 0, .slice none 0 0, .int .i64 0, .slice none 0 0, .int .i64 0, .slice none 0 0, .slice none 0 0] 36); obtain ⟨v5, hst5, kb, hBz, hothz⟩ := run_store_block (P := Tryz.prog) (base := w4.heap.size) (cs := (S2.cells L1).toList) kz rfl (st_one S2 L1) (Nat.le_refl _); have hbv : Below w4.heap.size w4 v5 := (below_one w4 _).trans hBz; have hbvs := hbv.size; have hZ6 := kept hZ5 hbv; have hE6 := kept he4 hbv; have ho5 := ho.kept hbv; have ht5 := ht4.kept hbv; obtain ⟨b3, o3, hA3, hA3l, hA3c⟩ := ht5.lies.open_ (by simp); subst hA3; have hm7 := ho5.m7; rw [hlog] at hm7; obtain ⟨v', v6, hap, hown6, hg6, -⟩ := run_append_own (P := Tryz.prog) v5 (w.heap.size + 7) 34 34 96 i0 _ 5 40 Tryz.underlying34 hi hz0 hz1 hz2 rfl (by decide) _ _ _ (hm7.mono (base' := w.heap.size + 7) (by simp)) ⟨b3, o3, none⟩ 1 c3 (ens [⟨k, kind, t.val, r, o⟩]) rfl (fun j u hj => by rw [Addr.add_lit]; exact hA3c j u hj) (one_ens _) (by simp only [maxLen]; omega) (by omega) (by omega); rw [hlen3, ← hens] at hown6; obtain ⟨A7, c7, rfl⟩ := slice_form hown6; have hm4 := ho.m7; rw [hlog] at hm4; have kb6 := (hg6.block w4.heap.size (blk_lt kb) (own_ne hm4 (.inl (Nat.le_refl _)))).trans kb; have hZ66 := (hg6.block (w.heap.size + 5) (blk_lt hZ6) (own_ne hm4 (.inr (by simp)))).trans hZ6; have hB6 := (hB4.trans (hbv.mono (by omega))).grown hg6 (by omega) (by intro g e; have := own_ne (B := g) hm4; by_cases hgg : w.heap.size ≤ g; exact hgg; exact absurd e.symm (this (.inr (by simp; omega)))); have b19 := (of_block kb6 19).1; have fb := frozen20 kb6; have e06 := (cells1 hE6).1; have b195 := (of_block kb 19).1; have ow : Owns v6 (w.heap.size + 7) { S2 with log := lg3 } { L1 with a7 := A7, c7 := c7 } := Owns.of ((ho5.m1.byRow hg6 fun g off t e => (ho5.sep7 g off t e).1).mono (by simp)) ((ho5.m2.byRow hg6 fun g off t e => (ho5.sep7 g off t e).2.1).mono (by simp)) ((ho5.m3.byRow hg6 fun g off t e => (ho5.sep7 g off t e).2.2.1).mono (by simp)) ((ho5.m4.byRow hg6 fun g off t e => (ho5.sep7 g off t e).2.2.2.1).mono (by simp)) ((ho5.m5.byRow hg6 fun g off t e => (ho5.sep7 g off t e).2.2.2.2.1).mono (by simp)) ((ho5.m6.byRow hg6 fun g off t e => (ho5.sep7 g off t e).2.2.2.2.2).mono (by simp)) hown6; have kb7 : (v6.setCell ⟨w4.heap.size, 19, none⟩ (.slice A7 lg3.length c7)).heap[w4.heap.size]? = some (.cells (St.cells { S2 with log := lg3 } { L1 with a7 := A7, c7 := c7 }) 36 (0, 0)) := put_cell (i := 19) kb6 (.slice A7 lg3.length c7); obtain ⟨v7, hst7, kr, hB7, hoth7⟩ := run_store_block (P := Tryz.prog) (base := w.heap.size) (cs := (St.cells { S2 with log := lg3 } { L1 with a7 := A7, c7 := c7 }).toList) (keep_cell (C := w4.heap.size) (i := 19) hZ66 (by omega) (.slice A7 lg3.length c7)) rfl (st_one _ _) (by omega)) | ((with_reducible refine wpList_skip (store36 hst5 ?_ ?_ ?_) ?_); (focus rfl); (focus rfl); (focus rfl)) | ((with_reducible refine wpList_val (append_exec hap ?_ ?_) ?_); (focus rfl); (focus rfl)) | ((with_reducible refine wpList_val (load36 kb7 ?_ ?_) ?_); (focus rfl); (focus rfl)) | ((with_reducible refine wpList_skip (store36 hst7 ?_ ?_ ?_) ?_); (focus rfl); (focus rfl); (focus rfl)))
  have hB8 : Below w.heap.size w (v6.setCell ⟨w4.heap.size, 19, none⟩ (.slice A7 lg3.length c7)) := hB6.setCell (show w.heap.size ≤ w4.heap.size by omega) _
  refine bodyPost_ret (results36 kr rfl rfl rfl) rfl ⟨{ L1 with a7 := A7, c7 := c7 }, rfl, ?_, hB8.trans hB7⟩
  have o1 := ow.put kb6 (by decide) (w' := v6.setCell ⟨w4.heap.size, 19, none⟩ (.slice A7 lg3.length c7)) (fun j hj => Below.heap_setCell v6 ⟨w4.heap.size, 19, none⟩ _ j hj)
  have o2 := o1.put (keep_cell (C := w4.heap.size) (i := 19) hZ66 (by omega) (.slice A7 lg3.length c7)) (by decide) hoth7
  exact o2.mono (by omega)

theorem tell_any (S : St) (L : Lay) (id kind r o : Int) (w : World) (hsm : S.small) (hH : Holds w S L) : Calls Tryz.prog 172 #[S.val L, .int .i64 id, .int .i64 kind, .int .i64 r, .int .i64 o] w fun e w' => ∃ L', e = .returned ((S.tell id kind r o).val L') ∧ Owns w' w.heap.size (S.tell id kind r o) L' ∧ Below w.heap.size w w' := by
  unfold St.tell
  by_cases h : S.ok = true ∧ 0 ≤ id
  · rw [if_pos h]
    cases ht : S.ths[id.toNat]? with
    | none =>
      have hlen := List.getElem?_eq_none_iff.1 ht
      exact tell_no S L id kind r o w hsm hH (.inr (by omega))
    | some t =>
      have := tell_yes S L id.toNat t kind r o w hsm hH h.1 ht
      rwa [show ((id.toNat : Nat) : Int) = id by omega] at this
  · rw [if_neg h]
    refine tell_no S L id kind r o w hsm hH ?_
    cases ho : S.ok with
    | false => exact .inl rfl
    | true => exact .inr (fun h2 => h ⟨ho, h2.1⟩)

end Go.Proofs.YtnbgpopjnpdmgaaGreat
