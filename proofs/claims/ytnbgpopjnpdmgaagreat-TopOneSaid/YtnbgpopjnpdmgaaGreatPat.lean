/-
  DERIVED. Inv2, Inv3.
-/
import Derived.Test.YtnbgpopjnpdmgaaGreatPas
set_option linter.unusedVariables false
set_option linter.unusedSimpArgs false

namespace Go.Proofs.YtnbgpopjnpdmgaaGreat
open Go Go.RowKit Go.Shelf

theorem Owns.setTh2 {w w' : World} {base : Nat} {S : St} {L : Lay} (h : Owns w base S L) {gb k B : Nat} {t : Th} (hg : But2 w w' gb B) (hB : B < base) (hL : L.a6 = some ⟨gb, 0, none⟩) (hm : Mine w' base 51 11 L.a6 L.c6 S.ths.length (Go.Proofs.YtnbgpopjnpdmgaaGreat.ths (S.ths.set k t))) : Owns w' base (S.setTh k t) L := by
  obtain ⟨p1, p2, p3, p4, p5, p7⟩ := h.sep gb 0 none hL
  have q : ∀ {e : TypeId} {k : Nat} {A : Option Addr} {c n : Nat} {xs : List Value}, Mine w base e k A c n xs → Apart A gb → Mine w' base e k A c n xs := fun m hA => m.grown fun g off t e => hg.block g (m.base g off t e).2 (hA g off t e) (by have := (m.base g off t e).1; omega)
  exact ⟨q h.m1 p1, q h.m2 p2, q h.m3 p3, q h.m4 p4, q h.m5 p5, by simpa [St.setTh] using hm, q h.m7 p7, h.sep, h.sep7⟩

set_option maxRecDepth 100000 in
set_option maxHeartbeats 8000000 in
theorem withInv_yes (S : St) (L : Lay) (k : Nat) (t : Th) (Bk Bv Bu Be : Nat) (kind x y e0 : Int) (w : World) (hsm : S.small) (hH : Holds w S L) (hok : S.ok = true) (hk : S.ths[k]? = some t) (h1 : w.cell? ⟨Bk, 0, none⟩ = some (.int .i64 kind)) (h2 : w.cell? ⟨Bv, 0, none⟩ = some (.int .i64 x)) (h3 : w.cell? ⟨Bu, 0, none⟩ = some (.int .i64 y)) (h4 : w.heap[Be]? = some (.cells #[.int .i64 e0] 37 (0, 0))) :
    Calls Tryz.prog 25 #[S.val L, .int .i64 k, .func (.func 26) #[] #[.pointer (some ⟨Bk, 0, none⟩), .pointer (some ⟨Bv, 0, none⟩), .pointer (some ⟨Bu, 0, none⟩), .pointer (some ⟨Be, 0, none⟩)]] w fun e w' => ∃ L', e = .returned ((S.setTh k (t.begin_ kind x y).1).val L') ∧ Owns w' w.heap.size (S.setTh k (t.begin_ kind x y).1) L' ∧ w'.heap[Be]? = some (.cells #[.int .i64 (t.begin_ kind x y).2] 37 (0, 0)) ∧ w.grownBy w' (some Be) := by
  have O := fun W (hW : Below w.heap.size w W) => own_any S L W hsm (hH.on hW)
  have C := fun W (hW : Below w.heap.size w W) => check_state S L W hsm (hH.on hW)
  have hl6 := hsm.2.2.2.2.2.1
  obtain ⟨k0, k1, hB0⟩ := two_new w (.cells (S.cells L) 36) (.cells #[.int .i64 0, .int .i64 0, .int .i64 0, .int .i64 0, .int .i64 0, .int .i64 0, .bool false, .int .i64 0, .int .i64 0, .int .i64 0, .slice none 0 0, .slice none 0 0, .slice none 0 0, .int .i64 0, .slice none 0 0, .int .i64 0, .slice none 0 0, .int .i64 0, .slice none 0 0, .slice none 0 0] 36)
  have hkl := (List.getElem?_eq_some_iff.1 hk).1
  have hpos : 0 < S.ths.length := by omega
  have hBe := blk_lt h4
  rw [hok] at C
  clear hok
  have W : ∀ g c V, Mine V ((w.alloc (.cells (S.cells L) 36)).alloc (.cells #[.int .i64 0, .int .i64 0, .int .i64 0, .int .i64 0, .int .i64 0, .int .i64 0, .bool false, .int .i64 0, .int .i64 0, .int .i64 0, .slice none 0 0, .slice none 0 0, .slice none 0 0, .int .i64 0, .slice none 0 0, .int .i64 0, .slice none 0 0, .int .i64 0, .slice none 0 0, .slice none 0 0] 36)).heap.size 51 11 (some ⟨g, 0, none⟩) c S.ths.length (Go.Proofs.YtnbgpopjnpdmgaaGreat.ths S.ths) → Below w.heap.size w V → Be ≠ g → _ := fun g c V hm hV hne => invoke1_any t _ g c S.ths.length k S.ths Bk Bv Bu Be kind x y e0 V ⟨hm, (hV.cell (p := ⟨Bk, 0, none⟩) (World.block_lt_of_cell? w _ h1)).trans h1, (hV.cell (p := ⟨Bv, 0, none⟩) (World.block_lt_of_cell? w _ h2)).trans h2, (hV.cell (p := ⟨Bu, 0, none⟩) (World.block_lt_of_cell? w _ h3)).trans h3, (hV.block Be hBe).trans h4⟩ hk hne
  generalize t.begin_ kind x y = r at *
  obtain ⟨r1, r2⟩ := r
  dsimp only at *
  go_enter Tryz.func25, Tryz.ntmps25
  go_wp2_with (first | (go_at_call 24; (with_reducible refine (O _ hB0).mono ?_); rintro e w1 ⟨L1, rfl, ho, hb⟩; obtain ⟨gb, hg6, hgb1, hgb2⟩ := ho.m6.some_ hpos; simp only [World.size_alloc] at hgb1; have hgn : Be ≠ gb := (by omega); have kz := World.alloc_heap_new w1 (.cells #[.int .i64 0, .int .i64 0, .int .i64 0, .int .i64 0, .int .i64 0, .int .i64 0, .bool false, .int .i64 0, .int .i64 0, .int .i64 0, .slice none 0 0, .slice none 0 0, .slice none 0 0, .int .i64 0, .slice none 0 0, .int .i64 0, .slice none 0 0, .int .i64 0, .slice none 0 0, .slice none 0 0] 36); obtain ⟨v1, hst1, kb, hBz, hothz⟩ := run_store_block (P := Tryz.prog) (base := w1.heap.size) (cs := (S.cells L1).toList) kz rfl (st_one S L1) (Nat.le_refl _); have hbv : Below w1.heap.size w1 v1 := (below_one w1 _).trans hBz; replace k0 := kept (kept k0 hb) hbv; replace k1 := kept (kept k1 hb) hbv; replace ho := ho.kept hbv; have hB1 := (hB0.trans (hb.mono hB0.size)).trans (hbv.mono (Nat.le_trans hB0.size hb.size)); have hzz := hb.size) | (go_at_call 22; (with_reducible refine (C _ hB1).mono ?_); rintro e w2 ⟨rfl, hb2⟩; replace k0 := kept k0 hb2; replace k1 := kept k1 hb2; replace kb := kept kb hb2; replace ho := ho.kept hb2; have hB2 := hB1.trans (hb2.mono hB1.size); have a18 := (of_block k0 18).1; have b18 := (of_block kb 18).1; simp only [St.cells, List.getElem?_toArray] at b18; rw [hg6] at b18; have hm := ho.m6; rw [hg6] at hm; have hbs := hbv.size) | ((with_reducible refine wpList_val (load36 k0 ?_ ?_) ?_); (focus rfl); (focus rfl)) | ((with_reducible refine wpList_val (load36 kb3 ?_ ?_) ?_); (focus rfl); (focus rfl)) | ((with_reducible refine wpList_skip (store36 hst1 ?_ ?_ ?_) ?_); (focus rfl); (focus rfl); (focus rfl)) | ((with_reducible refine wpList_skip (store36 hst2 ?_ ?_ ?_) ?_); (focus rfl); (focus rfl); (focus rfl)) | (go_at_call 26; (with_reducible refine (W _ _ _ hm hB2 hgn).mono ?_); rintro e w3 ⟨rfl, hm3, he3, hg3⟩; have kb3 := (hg3.block w1.heap.size (blk_lt kb) (by omega) (by omega)).trans kb; have k13 := (hg3.block (w.heap.size + 1) (blk_lt k1) (by omega) (by omega)).trans k1; have ho3 := ho.setTh2 hg3 (by simp; omega) hg6 (by rw [hg6]; exact hm3); obtain ⟨v2, hst2, kr, hB5, hoth⟩ := run_store_block (P := Tryz.prog) (base := w.heap.size) (cs := (S.cells L1).toList) k13 rfl (st_one S L1) (by omega)))
  have kr2 : v2.heap[w.heap.size + 1]? = some (.cells ((S.setTh k r1).cells L1) 36 (0, 0)) := by rw [setTh_cells]; exact kr
  refine bodyPost_ret (results36 kr2 rfl rfl rfl) rfl ⟨L1, rfl, (ho3.same (B := w.heap.size + 1) (by simp) hoth).mono (by simp; omega), (hoth Be (by omega)).trans he3, hB5.os.trans (hg3.os.trans hB2.os), hB5.tape.trans (hg3.tape.trans hB2.tape), hB5.output.trans (hg3.output.trans hB2.output), Nat.le_trans hB2.size (Nat.le_trans hg3.size hB5.size), fun j hj hne => ?_⟩
  exact ((hB5.block j hj).trans (hg3.block j (Nat.lt_of_lt_of_le hj hB2.size) (by omega) (by simpa using hne))).trans (hB2.block j hj)

end Go.Proofs.YtnbgpopjnpdmgaaGreat

namespace Go.Proofs.YtnbgpopjnpdmgaaGreat
open Go Go.RowKit Go.Shelf

/-- A thread begins something. -/
def St.invoke (S : St) (id kind x y : Int) : St × Int := if S.ok = false then (S, 20) else if mayOf S.cfg id kind ≠ 0 then (S, mayOf S.cfg id kind) else
  if 0 ≤ id then (match S.ths[id.toNat]? with | some t => (S.setTh id.toNat (t.begin_ kind x y).1, (t.begin_ kind x y).2) | none => (S, 0)) else (S, 0)

set_option maxRecDepth 100000 in
set_option maxHeartbeats 2000000 in
theorem inv_notok (S : St) (L : Lay) (id kind x y : Int) (w : World) (hsm : S.small) (hH : Holds w S L) (h : S.ok = false) :
    Calls Tryz.prog 10 #[S.val L, .int .i64 id, .int .i64 kind, .int .i64 x, .int .i64 y] w fun e w' => ∃ L', e = .returned (.tuple #[(S).val L', .int .i64 (20)]) ∧ Owns w' w.heap.size (S) L' ∧ Below w.heap.size w w' := by
  have O := fun W (hW : Below w.heap.size w W) => own_any S L W hsm (hH.on hW)
  have C := fun W (hW : Below w.heap.size w W) => check_state S L W hsm (hH.on hW)
  have M := fun W => op_may S.cfg id kind W
  rw [h] at C
  clear h
  have hS := ((((((Blk.nil w).add (.cells (S.cells L) 36)).add (.cells #[.int .i64 kind] 3)).add (.cells #[.int .i64 x] 3)).add (.cells #[.int .i64 y] 3)).add (.cells #[.int .i64 0, .int .i64 0, .int .i64 0, .int .i64 0, .int .i64 0, .int .i64 0, .bool false, .int .i64 0, .int .i64 0, .int .i64 0, .slice none 0 0, .slice none 0 0, .slice none 0 0, .int .i64 0, .slice none 0 0, .int .i64 0, .slice none 0 0, .int .i64 0, .slice none 0 0, .slice none 0 0] 36)).add (.cells #[.int .i64 20] 37)
  simp only [World.size_alloc] at hS
  have k0 := hS.get (B := w.heap.size) (o := (.cells (S.cells L) 36)) (by simp)
  go_enter Tryz.func10, Tryz.ntmps10
  go_wp2_with (first | (go_at_call 22; (with_reducible refine (C _ hS.below).mono ?_); rintro e w2 ⟨rfl, hb2⟩; replace hS := hS.on hb2; replace k0 := kept k0 hb2; have k5 := hS.get (B := w.heap.size + 5) (o := (.cells #[.int .i64 20] 37)) (by simp); obtain ⟨e0, fe⟩ := cells1 k5; obtain ⟨kn0, -⟩ := cells1 (hS.get (B := w.heap.size + 1) (o := (.cells #[.int .i64 kind] 3)) (by simp)); obtain ⟨a0, a1, a2, a3, a4, a5, a6, a7, a8, a9, a10, a11, a12, a13, a14, a15, a16, a17, a18, a19⟩ := cells20 (W := w2) (B := w.heap.size) k0) | ((with_reducible refine wpList_val (load36 k0 ?_ ?_) ?_); (focus rfl); (focus rfl)))
  have hS3 : Blk w w.heap.size [(w.heap.size, (.cells (S.cells L) 36)), (w.heap.size + 4, (.cells #[.int .i64 0, .int .i64 0, .int .i64 0, .int .i64 0, .int .i64 0, .int .i64 0, .bool false, .int .i64 0, .int .i64 0, .int .i64 0, .slice none 0 0, .slice none 0 0, .slice none 0 0, .int .i64 0, .slice none 0 0, .int .i64 0, .slice none 0 0, .int .i64 0, .slice none 0 0, .slice none 0 0] 36)), (w.heap.size + 5, (.cells #[.int .i64 20] 37))] _ := (hS.less (by simp)).drew
  clear hS
  have hS := hS3
  clear hS3 e0 fe kn0 a0 a1 a2 a3 a4 a5 a6 a7 a8 a9 a10 a11 a12 a13 a14 a15 a16 a17 a18 a19
  refine wp_region_ord3 (Blk w w.heap.size [(w.heap.size, (.cells (S.cells L) 36)), (w.heap.size + 4, (.cells #[.int .i64 0, .int .i64 0, .int .i64 0, .int .i64 0, .int .i64 0, .int .i64 0, .bool false, .int .i64 0, .int .i64 0, .int .i64 0, .slice none 0 0, .slice none 0 0, .slice none 0 0, .int .i64 0, .slice none 0 0, .int .i64 0, .slice none 0 0, .int .i64 0, .slice none 0 0, .slice none 0 0] 36)), (w.heap.size + 5, (.cells #[.int .i64 20] 37))]) (fun V => At (w.heap.size + 5) 0 (.int .i64 (20)) V) 3 (by kernel_rfl)
    [(1, 0), (2, 2), (0, 1), (0, 3), (2, 4)]
    (by kernel_rfl) (by kernel_rfl) (by decide) (by kernel_rfl) (fun _ _ d _ _ h => by cases d <;> exact h) ?_
  simp only [inOrder2, List.getElem?_cons_succ, List.getElem?_cons_zero, List.nil_append, List.cons_append]
  ((with_reducible refine o3_pre (v := .agg (S.cells L)) (a' := ?_) hS ?_ (fun V hV => ?_) ?_ ?_); rotate_left; (focus rfl); (focus (exact load36 (cs := (S.cells L).toList) (hV.get (B := w.heap.size) (o := (.cells (S.cells L) 36)) (by simp)) rfl rfl)); (focus (simp only [Act.put, List.setIfInBounds_toArray, List.set_cons_succ, List.set_cons_zero] <;> rfl)))
  ((with_reducible refine o3_both (v := ?_) (a' := ?_) hS ?_ (fun V hV => ?_) (fun V hV => ?_) ?_ ?_); rotate_left 2; (focus rfl); (focus (obtain ⟨a0, -⟩ := cells1 (hV.get (B := w.heap.size + 5) (o := (.cells #[.int .i64 20] 37)) (by simp)); first | (go_simp; with_reducible rfl) | (go_simp; refine (if_pos ?_).trans ?_; omega; with_reducible rfl))); (focus (have a0 := hV; unfold At at a0; first | (go_simp; done) | (go_simp; with_reducible rfl))); (focus (simp only [Act.put, List.setIfInBounds_toArray, List.set_cons_succ, List.set_cons_zero] <;> rfl)))
  refine o3_onlyF rfl rfl ?_
  go_simp
  refine ⟨trivial, rfl, (callsIn_wide.2 (O _ hS.below)).mono ?_⟩
  rintro e w3 ⟨L1, rfl, ho, hb⟩
  refine ⟨hS.on hb, ?_⟩
  have hz := hS.get (B := w.heap.size + 5) (o := (.cells #[.int .i64 20] 37)) (by simp)
  have hz5 := blk_lt hz
  replace hS := hS.on hb
  obtain ⟨v2, hst, kr, hB5, hoth⟩ := run_store_block (P := Tryz.prog) (base := w.heap.size) (cs := (S.cells L1).toList) (hS.get (B := w.heap.size + 4) (o := (.cells #[.int .i64 0, .int .i64 0, .int .i64 0, .int .i64 0, .int .i64 0, .int .i64 0, .bool false, .int .i64 0, .int .i64 0, .int .i64 0, .slice none 0 0, .slice none 0 0, .slice none 0 0, .int .i64 0, .slice none 0 0, .int .i64 0, .slice none 0 0, .int .i64 0, .slice none 0 0, .slice none 0 0] 36)) (by simp)) rfl (st_one S L1) (by omega)
  have hT : At (w.heap.size + 5) 0 (.int .i64 (20)) v2 := (cells1 ((hoth (w.heap.size + 5) (by omega)).trans (hS.get (B := w.heap.size + 5) (o := (.cells #[.int .i64 20] 37)) (by simp)))).1
  refine o3_skipS rfl rfl (store36 hst rfl rfl rfl) rfl hT ?_
  ((with_reducible refine o3_calmT (v := ?_) (a' := ?_) hT ?_ (fun V => ?_) ?_ ?_); rotate_left 2; (rfl); (first | (go_simp; with_reducible rfl) | (go_simp; refine (if_pos ?_).trans ?_; omega; with_reducible rfl)); (simp only [Act.put, List.setIfInBounds_toArray, List.set_cons_succ, List.set_cons_zero] <;> rfl))
  refine o3_end _ ?_
  try simp only [Exit.then]
  go_wp2
  exact bodyPost_ret (results36_2 kr rfl rfl rfl) rfl ⟨L1, rfl, (ho.same (B := w.heap.size + 4) (by omega) hoth).mono (by omega), hS.below.trans hB5⟩

set_option maxRecDepth 100000 in
set_option maxHeartbeats 2000000 in
theorem inv_may (S : St) (L : Lay) (id kind x y : Int) (w : World) (hsm : S.small) (hH : Holds w S L) (h : S.ok = true) (h2 : mayOf S.cfg id kind ≠ 0) :
    Calls Tryz.prog 10 #[S.val L, .int .i64 id, .int .i64 kind, .int .i64 x, .int .i64 y] w fun e w' => ∃ L', e = .returned (.tuple #[(S).val L', .int .i64 (mayOf S.cfg id kind)]) ∧ Owns w' w.heap.size (S) L' ∧ Below w.heap.size w w' := by
  have O := fun W (hW : Below w.heap.size w W) => own_any S L W hsm (hH.on hW)
  have C := fun W (hW : Below w.heap.size w W) => check_state S L W hsm (hH.on hW)
  have M := fun W => op_may S.cfg id kind W
  rw [h] at C
  clear h
  generalize mayOf S.cfg id kind = mv at *
  have hmv : (mv != 0) = true := by simpa using h2
  have hS := ((((((Blk.nil w).add (.cells (S.cells L) 36)).add (.cells #[.int .i64 kind] 3)).add (.cells #[.int .i64 x] 3)).add (.cells #[.int .i64 y] 3)).add (.cells #[.int .i64 0, .int .i64 0, .int .i64 0, .int .i64 0, .int .i64 0, .int .i64 0, .bool false, .int .i64 0, .int .i64 0, .int .i64 0, .slice none 0 0, .slice none 0 0, .slice none 0 0, .int .i64 0, .slice none 0 0, .int .i64 0, .slice none 0 0, .int .i64 0, .slice none 0 0, .slice none 0 0] 36)).add (.cells #[.int .i64 20] 37)
  simp only [World.size_alloc] at hS
  have k0 := hS.get (B := w.heap.size) (o := (.cells (S.cells L) 36)) (by simp)
  go_enter Tryz.func10, Tryz.ntmps10
  go_wp2_with (first | (go_at_call 22; (with_reducible refine (C _ hS.below).mono ?_); rintro e w2 ⟨rfl, hb2⟩; replace hS := hS.on hb2; replace k0 := kept k0 hb2; have k5 := hS.get (B := w.heap.size + 5) (o := (.cells #[.int .i64 20] 37)) (by simp); obtain ⟨e0, fe⟩ := cells1 k5; obtain ⟨kn0, -⟩ := cells1 (hS.get (B := w.heap.size + 1) (o := (.cells #[.int .i64 kind] 3)) (by simp)); obtain ⟨a0, a1, a2, a3, a4, a5, a6, a7, a8, a9, a10, a11, a12, a13, a14, a15, a16, a17, a18, a19⟩ := cells20 (W := w2) (B := w.heap.size) k0) | ((with_reducible refine wpList_val (load36 k0 ?_ ?_) ?_); (focus rfl); (focus rfl)) | (go_at_call 23; (with_reducible refine (M _).mono ?_); rintro e w3 ⟨rfl, hb3⟩; replace hS := hS.on hb3; replace k0 := kept k0 hb3; clear e0 fe; have k5 := hS.get (B := w.heap.size + 5) (o := (.cells #[.int .i64 20] 37)) (by simp); obtain ⟨e0, fe⟩ := cells1 k5))
  have hS3 : Blk w w.heap.size [(w.heap.size, (.cells (S.cells L) 36)), (w.heap.size + 4, (.cells #[.int .i64 0, .int .i64 0, .int .i64 0, .int .i64 0, .int .i64 0, .int .i64 0, .bool false, .int .i64 0, .int .i64 0, .int .i64 0, .slice none 0 0, .slice none 0 0, .slice none 0 0, .int .i64 0, .slice none 0 0, .int .i64 0, .slice none 0 0, .int .i64 0, .slice none 0 0, .slice none 0 0] 36)), (w.heap.size + 5, (.cells #[.int .i64 mv] 37))] (w3.setCell ⟨w.heap.size + 5, 0, none⟩ (.int .i64 (mv))) := (Blk.put (hS.less (M := [(w.heap.size + 5, (.cells #[.int .i64 20] 37)), (w.heap.size, (.cells (S.cells L) 36)), (w.heap.size + 4, (.cells #[.int .i64 0, .int .i64 0, .int .i64 0, .int .i64 0, .int .i64 0, .int .i64 0, .bool false, .int .i64 0, .int .i64 0, .int .i64 0, .slice none 0 0, .slice none 0 0, .slice none 0 0, .int .i64 0, .slice none 0 0, .int .i64 0, .slice none 0 0, .int .i64 0, .slice none 0 0, .slice none 0 0] 36))]) (by simp)) 0 (.int .i64 (mv)) (by omega) (by simp)).less (by simp)
  replace hS3 := hS3.drew
  clear hS e0 fe kn0 a0 a1 a2 a3 a4 a5 a6 a7 a8 a9 a10 a11 a12 a13 a14 a15 a16 a17 a18 a19 k0 k5
  have hS := hS3
  clear hS3
  refine wp_region_ord3 (Blk w w.heap.size [(w.heap.size, (.cells (S.cells L) 36)), (w.heap.size + 4, (.cells #[.int .i64 0, .int .i64 0, .int .i64 0, .int .i64 0, .int .i64 0, .int .i64 0, .bool false, .int .i64 0, .int .i64 0, .int .i64 0, .slice none 0 0, .slice none 0 0, .slice none 0 0, .int .i64 0, .slice none 0 0, .int .i64 0, .slice none 0 0, .int .i64 0, .slice none 0 0, .slice none 0 0] 36)), (w.heap.size + 5, (.cells #[.int .i64 mv] 37))]) (fun V => At (w.heap.size + 5) 0 (.int .i64 (mv)) V) 3 (by kernel_rfl)
    [(1, 0), (2, 2), (0, 1), (0, 3), (2, 4)]
    (by kernel_rfl) (by kernel_rfl) (by decide) (by kernel_rfl) (fun _ _ d _ _ h => by cases d <;> exact h) ?_
  simp only [inOrder2, List.getElem?_cons_succ, List.getElem?_cons_zero, List.nil_append, List.cons_append]
  generalize (World.setCell w3 ⟨w.heap.size + 5, 0, none⟩ (.int .i64 mv)).drew = w4 at *
  ((with_reducible refine o3_pre (v := .agg (S.cells L)) (a' := ?_) hS ?_ (fun V hV => ?_) ?_ ?_); rotate_left; (focus rfl); (focus (exact load36 (cs := (S.cells L).toList) (hV.get (B := w.heap.size) (o := (.cells (S.cells L) 36)) (by simp)) rfl rfl)); (focus (simp only [Act.put, List.setIfInBounds_toArray, List.set_cons_succ, List.set_cons_zero] <;> rfl)))
  ((with_reducible refine o3_both (v := ?_) (a' := ?_) hS ?_ (fun V hV => ?_) (fun V hV => ?_) ?_ ?_); rotate_left 2; (focus rfl); (focus (obtain ⟨a0, -⟩ := cells1 (hV.get (B := w.heap.size + 5) (o := (.cells #[.int .i64 mv] 37)) (by simp)); first | (go_simp; with_reducible rfl) | (go_simp; refine (if_pos ?_).trans ?_; omega; with_reducible rfl))); (focus (have a0 := hV; unfold At at a0; first | (go_simp; done) | (go_simp; with_reducible rfl))); (focus (simp only [Act.put, List.setIfInBounds_toArray, List.set_cons_succ, List.set_cons_zero] <;> rfl)))
  refine o3_onlyF rfl rfl ?_
  go_simp
  refine ⟨trivial, rfl, (callsIn_wide.2 (O _ hS.below)).mono ?_⟩
  rintro e w3 ⟨L1, rfl, ho, hb⟩
  refine ⟨hS.on hb, ?_⟩
  have hz := hS.get (B := w.heap.size + 5) (o := (.cells #[.int .i64 mv] 37)) (by simp)
  have hz5 := blk_lt hz
  replace hS := hS.on hb
  obtain ⟨v2, hst, kr, hB5, hoth⟩ := run_store_block (P := Tryz.prog) (base := w.heap.size) (cs := (S.cells L1).toList) (hS.get (B := w.heap.size + 4) (o := (.cells #[.int .i64 0, .int .i64 0, .int .i64 0, .int .i64 0, .int .i64 0, .int .i64 0, .bool false, .int .i64 0, .int .i64 0, .int .i64 0, .slice none 0 0, .slice none 0 0, .slice none 0 0, .int .i64 0, .slice none 0 0, .int .i64 0, .slice none 0 0, .int .i64 0, .slice none 0 0, .slice none 0 0] 36)) (by simp)) rfl (st_one S L1) (by omega)
  have hT : At (w.heap.size + 5) 0 (.int .i64 (mv)) v2 := (cells1 ((hoth (w.heap.size + 5) (by omega)).trans (hS.get (B := w.heap.size + 5) (o := (.cells #[.int .i64 mv] 37)) (by simp)))).1
  refine o3_skipS rfl rfl (store36 hst rfl rfl rfl) rfl hT ?_
  ((with_reducible refine o3_calmT (v := ?_) (a' := ?_) hT ?_ (fun V => ?_) ?_ ?_); rotate_left 2; (rfl); (first | (go_simp; with_reducible rfl) | (go_simp; refine (if_pos ?_).trans ?_; omega; with_reducible rfl)); (simp only [Act.put, List.setIfInBounds_toArray, List.set_cons_succ, List.set_cons_zero] <;> rfl))
  refine o3_end _ ?_
  try simp only [Exit.then]
  go_wp2
  exact bodyPost_ret (results36_2 kr rfl rfl rfl) rfl ⟨L1, rfl, (ho.same (B := w.heap.size + 4) (by omega) hoth).mono (by omega), hS.below.trans hB5⟩

set_option maxRecDepth 100000 in
set_option maxHeartbeats 2000000 in
theorem inv_go (S : St) (L : Lay) (k : Nat) (t : Th) (kind x y : Int) (w : World) (hsm : S.small) (hH : Holds w S L) (h : S.ok = true) (h2 : mayOf S.cfg k kind = 0) (hk : S.ths[k]? = some t) :
    Calls Tryz.prog 10 #[S.val L, .int .i64 k, .int .i64 kind, .int .i64 x, .int .i64 y] w fun e w' => ∃ L', e = .returned (.tuple #[(S.setTh k (t.begin_ kind x y).1).val L', .int .i64 ((t.begin_ kind x y).2)]) ∧ Owns w' w.heap.size (S.setTh k (t.begin_ kind x y).1) L' ∧ Below w.heap.size w w' := by
  have O := fun W (hW : Below w.heap.size w W) => own_any S L W hsm (hH.on hW)
  have C := fun W (hW : Below w.heap.size w W) => check_state S L W hsm (hH.on hW)
  have M := fun W => op_may S.cfg k kind W
  rw [h] at C
  rw [h2] at M
  have WI := fun V (hV : Below w.heap.size w V) h1 h2 h3 h4 => withInv_yes S L k t (w.heap.size + 1) (w.heap.size + 2) (w.heap.size + 3) (w.heap.size + 5) kind x y 0 V hsm (hH.on hV) h hk h1 h2 h3 h4
  clear h h2
  generalize t.begin_ kind x y = r at *
  obtain ⟨r1, er⟩ := r
  dsimp only at *
  generalize hS2 : S.setTh k r1 = S2 at *
  have hS := ((((((Blk.nil w).add (.cells (S.cells L) 36)).add (.cells #[.int .i64 kind] 3)).add (.cells #[.int .i64 x] 3)).add (.cells #[.int .i64 y] 3)).add (.cells #[.int .i64 0, .int .i64 0, .int .i64 0, .int .i64 0, .int .i64 0, .int .i64 0, .bool false, .int .i64 0, .int .i64 0, .int .i64 0, .slice none 0 0, .slice none 0 0, .slice none 0 0, .int .i64 0, .slice none 0 0, .int .i64 0, .slice none 0 0, .int .i64 0, .slice none 0 0, .slice none 0 0] 36)).add (.cells #[.int .i64 20] 37)
  simp only [World.size_alloc] at hS
  have k0 := hS.get (B := w.heap.size) (o := (.cells (S.cells L) 36)) (by simp)
  go_enter Tryz.func10, Tryz.ntmps10
  go_wp2_with (first | (go_at_call 22; (with_reducible refine (C _ hS.below).mono ?_); rintro e w2 ⟨rfl, hb2⟩; replace hS := hS.on hb2; replace k0 := kept k0 hb2; have k5 := hS.get (B := w.heap.size + 5) (o := (.cells #[.int .i64 20] 37)) (by simp); obtain ⟨e0, fe⟩ := cells1 k5; obtain ⟨kn0, -⟩ := cells1 (hS.get (B := w.heap.size + 1) (o := (.cells #[.int .i64 kind] 3)) (by simp)); obtain ⟨a0, a1, a2, a3, a4, a5, a6, a7, a8, a9, a10, a11, a12, a13, a14, a15, a16, a17, a18, a19⟩ := cells20 (W := w2) (B := w.heap.size) k0) | ((with_reducible refine wpList_val (load36 k0 ?_ ?_) ?_); (focus rfl); (focus rfl)) | ((with_reducible refine wpList_val (load36 k03 ?_ ?_) ?_); (focus rfl); (focus rfl)) | ((with_reducible refine wpList_skip (store36 hst5 ?_ ?_ ?_) ?_); (focus rfl); (focus rfl); (focus rfl)) | (go_at_call 23; (with_reducible refine (M _).mono ?_); rintro e w3 ⟨rfl, hb3⟩; replace hS := hS.on hb3; replace k0 := kept k0 hb3; clear e0 fe; have k5 := hS.get (B := w.heap.size + 5) (o := (.cells #[.int .i64 20] 37)) (by simp); obtain ⟨e0, fe⟩ := cells1 k5; have hS3 : Blk w w.heap.size [(w.heap.size + 5, (.cells #[.int .i64 0] 37)), (w.heap.size, (.cells (S.cells L) 36)), (w.heap.size + 4, (.cells #[.int .i64 0, .int .i64 0, .int .i64 0, .int .i64 0, .int .i64 0, .int .i64 0, .bool false, .int .i64 0, .int .i64 0, .int .i64 0, .slice none 0 0, .slice none 0 0, .slice none 0 0, .int .i64 0, .slice none 0 0, .int .i64 0, .slice none 0 0, .int .i64 0, .slice none 0 0, .slice none 0 0] 36)), (w.heap.size + 1, (.cells #[.int .i64 kind] 3)), (w.heap.size + 2, (.cells #[.int .i64 x] 3)), (w.heap.size + 3, (.cells #[.int .i64 y] 3))] (w3.setCell ⟨w.heap.size + 5, 0, none⟩ (.int .i64 0)) := (Blk.put (hS.less (M := [(w.heap.size + 5, (.cells #[.int .i64 20] 37)), (w.heap.size, (.cells (S.cells L) 36)), (w.heap.size + 4, (.cells #[.int .i64 0, .int .i64 0, .int .i64 0, .int .i64 0, .int .i64 0, .int .i64 0, .bool false, .int .i64 0, .int .i64 0, .int .i64 0, .slice none 0 0, .slice none 0 0, .slice none 0 0, .int .i64 0, .slice none 0 0, .int .i64 0, .slice none 0 0, .int .i64 0, .slice none 0 0, .slice none 0 0] 36)), (w.heap.size + 1, (.cells #[.int .i64 kind] 3)), (w.heap.size + 2, (.cells #[.int .i64 x] 3)), (w.heap.size + 3, (.cells #[.int .i64 y] 3))]) (by simp)) 0 (.int .i64 0) (by omega) (by simp)); have k03 := hS3.get (B := w.heap.size) (o := (.cells (S.cells L) 36)) (by simp); have h1 := (cells1 (hS3.get (B := w.heap.size + 1) (o := (.cells #[.int .i64 kind] 3)) (by simp))).1; have h2 := (cells1 (hS3.get (B := w.heap.size + 2) (o := (.cells #[.int .i64 x] 3)) (by simp))).1; have h3 := (cells1 (hS3.get (B := w.heap.size + 3) (o := (.cells #[.int .i64 y] 3)) (by simp))).1; have h4 := hS3.get (B := w.heap.size + 5) (o := (.cells #[.int .i64 0] 37)) (by simp)) | (go_at_call 25; (with_reducible refine (WI _ hS3.below h1 h2 h3 h4).mono ?_); rintro e w4 ⟨L1, rfl, ho, he4, hg⟩; have kz := World.alloc_heap_new w4 (.cells #[.int .i64 0, .int .i64 0, .int .i64 0, .int .i64 0, .int .i64 0, .int .i64 0, .bool false, .int .i64 0, .int .i64 0, .int .i64 0, .slice none 0 0, .slice none 0 0, .slice none 0 0, .int .i64 0, .slice none 0 0, .int .i64 0, .slice none 0 0, .int .i64 0, .slice none 0 0, .slice none 0 0] 36); obtain ⟨v5, hst5, kb, hBz, hothz⟩ := run_store_block (P := Tryz.prog) (base := w4.heap.size) (cs := (S2.cells L1).toList) kz rfl (st_one S2 L1) (Nat.le_refl _); have hbv : Below w4.heap.size w4 v5 := (below_one w4 _).trans hBz))
  have hz := hS3.below.size
  have hz5 : w.heap.size + 5 < w4.heap.size := blk_lt he4
  have hB4 : Below w.heap.size w w4 := hS3.below.grown hg hS3.size (by intro g e; injection e with e; omega)
  have hZ4 : w4.heap[w.heap.size + 4]? = some _ := (hg.block (w.heap.size + 4) (blk_lt (hS3.get (B := w.heap.size + 4) (o := (.cells #[.int .i64 0, .int .i64 0, .int .i64 0, .int .i64 0, .int .i64 0, .int .i64 0, .bool false, .int .i64 0, .int .i64 0, .int .i64 0, .slice none 0 0, .slice none 0 0, .slice none 0 0, .int .i64 0, .slice none 0 0, .int .i64 0, .slice none 0 0, .int .i64 0, .slice none 0 0, .slice none 0 0] 36)) (by simp))) (by simp)).trans (hS3.get (B := w.heap.size + 4) (o := (.cells #[.int .i64 0, .int .i64 0, .int .i64 0, .int .i64 0, .int .i64 0, .int .i64 0, .bool false, .int .i64 0, .int .i64 0, .int .i64 0, .slice none 0 0, .slice none 0 0, .slice none 0 0, .int .i64 0, .slice none 0 0, .int .i64 0, .slice none 0 0, .int .i64 0, .slice none 0 0, .slice none 0 0] 36)) (by simp))
  have hS5 : Blk w w.heap.size [(w4.heap.size, (.cells (S2.cells L1) 36)), (w.heap.size + 4, (.cells #[.int .i64 0, .int .i64 0, .int .i64 0, .int .i64 0, .int .i64 0, .int .i64 0, .bool false, .int .i64 0, .int .i64 0, .int .i64 0, .slice none 0 0, .slice none 0 0, .slice none 0 0, .int .i64 0, .slice none 0 0, .int .i64 0, .slice none 0 0, .int .i64 0, .slice none 0 0, .slice none 0 0] 36)), (w.heap.size + 5, (.cells #[.int .i64 er] 37))] v5 := ⟨hB4.trans (hbv.mono (by omega)), by
    intro p hp
    simp only [List.mem_cons, List.not_mem_nil, or_false] at hp
    rcases hp with rfl | rfl | rfl
    · exact kb
    · exact kept hZ4 hbv
    · exact kept he4 hbv, Nat.le_refl _⟩
  replace ho := (ho.kept hbv).drew
  replace hS5 := hS5.drew
  have hwo : w.heap.size + 5 < (w3.setCell ⟨w.heap.size + 5, 0, none⟩ (.int .i64 0)).heap.size := blk_lt h4
  clear hS e0 fe kn0 a0 a1 a2 a3 a4 a5 a6 a7 a8 a9 a10 a11 a12 a13 a14 a15 a16 a17 a18 a19 k0 k5 hS3 k03 h1 h2 h3 h4 kb kz hBz hothz hbv hst5 hZ4 he4
  have hS := hS5
  clear hS5
  refine wp_region_ord3 (Blk w w.heap.size [(w4.heap.size, (.cells (S2.cells L1) 36)), (w.heap.size + 4, (.cells #[.int .i64 0, .int .i64 0, .int .i64 0, .int .i64 0, .int .i64 0, .int .i64 0, .bool false, .int .i64 0, .int .i64 0, .int .i64 0, .slice none 0 0, .slice none 0 0, .slice none 0 0, .int .i64 0, .slice none 0 0, .int .i64 0, .slice none 0 0, .int .i64 0, .slice none 0 0, .slice none 0 0] 36)), (w.heap.size + 5, (.cells #[.int .i64 er] 37))]) (fun V => At (w.heap.size + 5) 0 (.int .i64 er) V) 2 (by kernel_rfl)
    [(1, 0), (2, 1), (0, 2), (2, 3)]
    (by kernel_rfl) (by kernel_rfl) (by decide) (by kernel_rfl) (fun _ _ d _ _ h => by cases d <;> exact h) ?_
  simp only [inOrder2, List.getElem?_cons_succ, List.getElem?_cons_zero, List.nil_append, List.cons_append]
  generalize v5.drew = v5' at *
  ((with_reducible refine o3_pre (v := .agg (S2.cells L1)) (a' := ?_) hS ?_ (fun V hV => ?_) ?_ ?_); rotate_left; (focus rfl); (focus (exact load36 (cs := (S2.cells L1).toList) (hV.get (B := w4.heap.size) (o := (.cells (S2.cells L1) 36)) (by simp)) rfl rfl)); (focus (simp only [Act.put, List.setIfInBounds_toArray, List.set_cons_succ, List.set_cons_zero] <;> rfl)))
  ((with_reducible refine o3_both (v := ?_) (a' := ?_) hS ?_ (fun V hV => ?_) (fun V hV => ?_) ?_ ?_); rotate_left 2; (focus rfl); (focus (obtain ⟨a0, -⟩ := cells1 (hV.get (B := w.heap.size + 5) (o := (.cells #[.int .i64 er] 37)) (by simp)); first | (go_simp; with_reducible rfl) | (go_simp; refine (if_pos ?_).trans ?_; omega; with_reducible rfl))); (focus (have a0 := hV; unfold At at a0; first | (go_simp; done) | (go_simp; with_reducible rfl))); (focus (simp only [Act.put, List.setIfInBounds_toArray, List.set_cons_succ, List.set_cons_zero] <;> rfl)))
  obtain ⟨v6, hst6, kr, hB6, hoth⟩ := run_store_block (P := Tryz.prog) (base := w.heap.size) (cs := (S2.cells L1).toList) (hS.get (B := w.heap.size + 4) (o := (.cells #[.int .i64 0, .int .i64 0, .int .i64 0, .int .i64 0, .int .i64 0, .int .i64 0, .bool false, .int .i64 0, .int .i64 0, .int .i64 0, .slice none 0 0, .slice none 0 0, .slice none 0 0, .int .i64 0, .slice none 0 0, .int .i64 0, .slice none 0 0, .int .i64 0, .slice none 0 0, .slice none 0 0] 36)) (by simp)) rfl (st_one S2 L1) (by omega)
  have hT : At (w.heap.size + 5) 0 (.int .i64 er) v6 := (cells1 ((hoth (w.heap.size + 5) (by omega)).trans (hS.get (B := w.heap.size + 5) (o := (.cells #[.int .i64 er] 37)) (by simp)))).1
  refine o3_skipS rfl rfl (store36 hst6 rfl rfl rfl) rfl hT ?_
  ((with_reducible refine o3_calmT (v := ?_) (a' := ?_) hT ?_ (fun V => ?_) ?_ ?_); rotate_left 2; (rfl); (first | (go_simp; with_reducible rfl) | (go_simp; refine (if_pos ?_).trans ?_; omega; with_reducible rfl)); (simp only [Act.put, List.setIfInBounds_toArray, List.set_cons_succ, List.set_cons_zero] <;> rfl))
  refine o3_end _ ?_
  try simp only [Exit.then]
  go_wp2
  exact bodyPost_ret (results36_2 kr rfl rfl rfl) rfl ⟨L1, rfl, (ho.same (B := w.heap.size + 4) (by omega) hoth).mono (by omega), hS.below.trans hB6⟩

theorem invoke_any (S : St) (L : Lay) (id kind x y : Int) (w : World) (hsm : S.small) (hH : Holds w S L) : Calls Tryz.prog 10 #[S.val L, .int .i64 id, .int .i64 kind, .int .i64 x, .int .i64 y] w fun e w' => ∃ L', e = .returned (.tuple #[((S.invoke id kind x y).1).val L', .int .i64 ((S.invoke id kind x y).2)]) ∧ Owns w' w.heap.size ((S.invoke id kind x y).1) L' ∧ Below w.heap.size w w' := by
  unfold St.invoke
  by_cases h : S.ok = false
  · rw [if_pos h]
    exact inv_notok S L id kind x y w hsm hH h
  · rw [if_neg h]
    have hok : S.ok = true := by simpa using h
    by_cases h2 : mayOf S.cfg id kind ≠ 0
    · rw [if_pos h2]
      exact inv_may S L id kind x y w hsm hH hok h2
    · rw [if_neg h2]
      have h3 : mayOf S.cfg id kind = 0 := Classical.byContradiction fun h => h2 h
      have h4 : 0 ≤ id ∧ id < S.cfg.th := by
        unfold mayOf at h3
        split at h3
        · simp at h3
        · omega
      have h5 : (S.ths.length : Int) = S.cfg.th := by
        unfold St.ok at hok
        simp only [Bool.and_eq_true, Bool.not_eq_true', bne_eq_false_iff_eq] at hok
        exact hok.2.2.2.2.2.2.2.2.2.1
      rw [if_pos h4.1]
      obtain ⟨t, ht⟩ : ∃ t, S.ths[id.toNat]? = some t := ⟨_, List.getElem?_eq_getElem (by omega)⟩
      rw [ht]
      have e : ((id.toNat : Nat) : Int) = id := by omega
      have := inv_go S L id.toNat t kind x y w hsm hH hok (by rw [e]; exact h3) ht
      rwa [e] at this

end Go.Proofs.YtnbgpopjnpdmgaaGreat
