/-
  DERIVED. conf.Count, at every list of configurations: how many may be, and the room of all these.
-/
import Derived.Test.YtolkmpfnomeklaaConf
import Derived.Deep.LoopGhost
namespace Go.Proofs.Ytolkmpfnomeklaa
open Go Go.RowKit Go.Shelf

/-- A slice of configurations in memory that lay below block B. -/
def ReadsC (w : World) (B : Nat) (A : Option Addr) (l : List Cfg) : Prop :=
  0 < l.length → ∃ b off, A = some ⟨b, off, none⟩ ∧ b < B ∧ ∀ (i : Nat) (c : Cfg), l[i]? = some c → ∀ (j : Nat) (v : Value), c.cells[j]? = some v → w.cell? ⟨b, off + (i * 7 + j), none⟩ = some v

theorem ReadsC.below {w w' : World} {B : Nat} {A : Option Addr} {l : List Cfg} (h : ReadsC w B A l) (hb : Below B w w') : ReadsC w' B A l := fun hl => by
  obtain ⟨b, off, e, hB, hc⟩ := h hl
  exact ⟨b, off, e, hB, fun i c hi j v hj => (hb.cell (p := ⟨b, off + (i * 7 + j), none⟩) hB).trans (hc i c hi j v hj)⟩

/-- How many may be. -/
def cnt (l : List Cfg) : Int := ((l.filter Cfg.ok).length : Nat)
/-- Their room. -/
def rooms (l : List Cfg) : Int := (l.map Cfg.room).sum

theorem Cfg.room_bounds (c : Cfg) : 0 ≤ c.room ∧ c.room ≤ 64 := by
  by_cases h : c.ok = true
  · have h1 := (Cfg.ok_iff c).1 h
    simp only [Cfg.room, h, if_true]
    have hl : c.log = 1 ∨ c.log = 2 ∨ c.log = 3 ∨ c.log = 4 ∨ c.log = 5 ∨ c.log = 6 := by omega
    rcases hl with e | e | e | e | e | e <;> rw [e] <;> decide
  · simp [Cfg.room, h]

theorem cnt_snoc (l : List Cfg) (c : Cfg) : cnt (l ++ [c]) = cnt l + if c.ok then 1 else 0 := by
  by_cases h : c.ok = true <;> simp [cnt, List.filter_append, h]
theorem rooms_snoc (l : List Cfg) (c : Cfg) : rooms (l ++ [c]) = rooms l + c.room := by simp [rooms]
theorem cnt_bounds (l : List Cfg) : 0 ≤ cnt l ∧ cnt l ≤ l.length := by
  have := List.length_filter_le Cfg.ok l
  unfold cnt
  omega
theorem rooms_bounds (l : List Cfg) : 0 ≤ rooms l ∧ rooms l ≤ 64 * l.length := by
  induction l with
  | nil => simp [rooms]
  | cons c l ih =>
    have h := Cfg.room_bounds c
    simp only [rooms, List.map_cons, List.sum_cons, List.length_cons] at ih ⊢
    omega

set_option maxRecDepth 100000 in
set_option maxHeartbeats 1000000 in
theorem count_any (l : List Cfg) (A : Option Addr) (cap : Nat) (w : World) (hl : l.length ≤ 1000) (hR : ReadsC w w.heap.size A l) :
    Calls Try.prog 10 #[.slice A l.length cap] w fun e w' => e = .returned (.tuple #[.int .i64 (cnt l), .int .i64 (rooms l)]) ∧ Below w.heap.size w w' := by
  go_enter Try.func10, Try.ntmps10
  go_wp2
  go_loopw [2, 3, 8] (fun n r i wr => ∃ k : Nat, k ≤ l.length ∧ i = .int .i64 k ∧ n = .int .i64 (cnt (l.take k)) ∧ r = .int .i64 (rooms (l.take k)) ∧ Below w.heap.size w wr) (fun _ _ i _ => l.length - (intOf i).toNat)
  case atStart => exact ⟨0, Nat.zero_le _, rfl, rfl, rfl, Below.refl _ _⟩
  case round =>
    obtain ⟨k, hk, rfl, rfl, rfl, hB⟩ := hrel
    by_cases hlt : k < l.length
    · obtain ⟨b, off, rfl, hb, hc⟩ := (hR.below hB) (by omega)
      obtain ⟨c, hci⟩ : ∃ c, l[k]? = some c := ⟨_, List.getElem?_eq_getElem hlt⟩
      have hcc := hc k c hci
      clear hc hR
      obtain ⟨log, th, pol, wt, sp, yi, single⟩ := c
      have c0 : wr.cell? ⟨b, off + k * 7, none⟩ = some (.int .i64 log) := hcc 0 _ rfl
      have c1 : wr.cell? ⟨b, off + k * 7 + 1, none⟩ = some (.int .i64 th) := hcc 1 _ rfl
      have c2 : wr.cell? ⟨b, off + k * 7 + 2, none⟩ = some (.int .i64 pol) := hcc 2 _ rfl
      have c3 : wr.cell? ⟨b, off + k * 7 + 3, none⟩ = some (.int .i64 wt) := hcc 3 _ rfl
      have c4 : wr.cell? ⟨b, off + k * 7 + 4, none⟩ = some (.int .i64 sp) := hcc 4 _ rfl
      have c5 : wr.cell? ⟨b, off + k * 7 + 5, none⟩ = some (.int .i64 yi) := hcc 5 _ rfl
      have c6 : wr.cell? ⟨b, off + k * 7 + 6, none⟩ = some (.bool single) := hcc 6 _ rfl
      clear hcc
      have hsn : l.take (k + 1) = l.take k ++ [⟨log, th, pol, wt, sp, yi, single⟩] := by
        rw [List.take_add_one, hci]; rfl
      have hcn := cnt_snoc (l.take k) ⟨log, th, pol, wt, sp, yi, single⟩
      have hrn := rooms_snoc (l.take k) ⟨log, th, pol, wt, sp, yi, single⟩
      rw [← hsn] at hcn hrn
      have hr0 := Cfg.room_bounds ⟨log, th, pol, wt, sp, yi, single⟩
      have hcb := cnt_bounds (l.take k)
      have hrb := rooms_bounds (l.take k)
      have hlk : (l.take k).length ≤ 1000 := by rw [List.length_take]; omega
      obtain ⟨b1, b2⟩ := hr0
      obtain ⟨b3, b4⟩ := hcb
      obtain ⟨b5, b6⟩ := hrb
      have b4' : cnt (l.take k) ≤ 1000 := by omega
      have b6' : rooms (l.take k) ≤ 64000 := by omega
      clear b4 b6 hlk hsn
      by_cases hok : Cfg.ok ⟨log, th, pol, wt, sp, yi, single⟩ = true
      · have HC : cnt (l.take (k + 1)) = cnt (l.take k) + 1 := by rw [hcn, hok]; rfl
        have HCN := Lib.hid HC
        have HRN := Lib.hid hrn
        have C := fun W => check_ok _ W hok
        have R := fun W => room_any ⟨log, th, pol, wt, sp, yi, single⟩ W
        clear HC hcn hrn hok hci
        generalize Cfg.room ⟨log, th, pol, wt, sp, yi, single⟩ = rm at *
        go_wp2_with fail
        refine (C _).mono ?_
        rintro e w1 ⟨rfl, hb1⟩
        rw [World.size_alloc] at hb1
        have hk1 := box_kept ⟨log, th, pol, wt, sp, yi, single⟩ hb1
        have d0 := (of_block hk1 0).1
        have d1 := (of_block hk1 1).1
        have d2 := (of_block hk1 2).1
        have d3 := (of_block hk1 3).1
        have d4 := (of_block hk1 4).1
        have d5 := (of_block hk1 5).1
        have d6 := (of_block hk1 6).1
        simp at d0 d1 d2 d3 d4 d5 d6
        have hB1 := hB.trans ((below_box hb1).mono hB.size)
        clear C hk1 hb1 c0 c1 c2 c3 c4 c5 c6
        go_wp2_with fail
        refine (R _).mono ?_
        rintro e w2 ⟨rfl, hb2⟩
        have hB2 := hB1.trans (hb2.mono hB1.size)
        clear R hb2 d0 d1 d2 d3 d4 d5 d6
        go_wp2
        go_roundw
        case rel => exact ⟨k + 1, by omega, by go_num, by rw [HCN.out], by rw [HRN.out], hB2⟩
        case measure => simp [intOf]; omega
      · have hno : Cfg.ok ⟨log, th, pol, wt, sp, yi, single⟩ = false := by simpa using hok
        have HC : cnt (l.take (k + 1)) = cnt (l.take k) := by rw [hcn, hno]; simp
        have HR : rooms (l.take (k + 1)) = rooms (l.take k) := by rw [hrn]; simp [Cfg.room, hno]
        have HCN := Lib.hid HC
        have HRN := Lib.hid HR
        have C := fun W => check_no _ W hno
        clear HC HR hcn hrn hok hci hno
        go_wp2_with fail
        refine (C _).mono ?_
        rintro e w1 ⟨rfl, hb1⟩
        rw [World.size_alloc] at hb1
        have hB1 := hB.trans ((below_box hb1).mono hB.size)
        clear C hb1 c0 c1 c2 c3 c4 c5 c6
        go_wp2
        go_roundw
        case rel => exact ⟨k + 1, by omega, by go_num, by rw [HCN.out], by rw [HRN.out], hB1⟩
        case measure => simp [intOf]; omega
    · obtain rfl : k = l.length := by omega
      have ht : l.take l.length = l := List.take_length
      go_wp2
      go_ret2
      exact ⟨by rw [ht]; rfl, hB⟩

end Go.Proofs.Ytolkmpfnomeklaa
