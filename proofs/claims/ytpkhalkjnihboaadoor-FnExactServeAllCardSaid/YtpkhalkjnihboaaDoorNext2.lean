/-
  CONTRACTS of math/bits.TrailingZeros at small numbers, of NextLine and ServeLine.
  Conditions: the table of math/bits lies as its text lays it.
-/
import Derived.Test.YtpkhalkjnihboaaDoorNext
namespace Go.Proofs.YtpkhalkjnihboaaDoor
open Go.ChangeShapes Go.WideShapes Go.ChangeAt Go.RowKit Go.Joins
set_option linter.unusedVariables false

/-- the table of the library's own -/
def Tab (w : World) : Prop := 1 < w.heap.size ∧ ∀ j, j < Lib.deBruijn64tab.length → w.cell? ⟨1, j, none⟩ = some (.int .u8 (Lib.deBruijn64tab.getD j 0))
theorem Tab.below {w w' : World} (h : Tab w) {B : Nat} (hB : w.heap.size ≤ B) (hb : Below B w w') : Tab w' :=
  ⟨Nat.lt_of_lt_of_le h.1 hb.size, fun j hj => (hb.cell (p := ⟨1, j, none⟩) (by have := h.1; show 1 < B; omega)).trans (h.2 j hj)⟩
theorem Tab.alloc {w : World} (h : Tab w) (o : Obj) : Tab (w.alloc o) := h.below (Nat.le_refl _) ((Below.refl _ _).alloc (Nat.le_refl _) o)
set_option maxRecDepth 100000 in
set_option maxHeartbeats 1000000 in
theorem tz64_any (x : Nat) (w : World) (h1 : x ≠ 0) (h2 : x < 256) (hT : Tab w) :
    Calls Tryd.prog 24 #[.int .u64 x] w fun e w' => e = .returned (.int .i64 (Lib.ctz 64 x)) ∧ w = w' := by
  obtain ⟨hlow, hk⟩ := Lib.lowest_bit 64 x h1 (by omega)
  obtain ⟨hi, htab⟩ := Lib.deBruijn64_at _ hk
  have hcell := hT.2 _ hi
  rw [htab] at hcell
  have key := tz64_key x _ (by omega) h1 hlow
  obtain ⟨k, hkk⟩ : ∃ k, k = Lib.ctz 64 x := ⟨_, rfl⟩
  rw [← hkk] at hcell hk key hi ⊢
  obtain ⟨idx, hidx⟩ : ∃ i : Nat, i = 2 ^ k * 285870213051353865 % 18446744073709551616 / 288230376151711744 := ⟨_, rfl⟩
  rw [← hidx] at hcell key hi
  have hx0 : ((x : Int) == 0) = false := by simp; omega
  clear hlow htab hkk hidx hT
  go_enter Tryd.func24, Tryd.ntmps24
  go_wp2_with (simp only [key])
  go_ret
  exact ⟨rfl, rfl⟩
set_option maxRecDepth 100000 in
set_option maxHeartbeats 400000 in
theorem tz_any (x : Nat) (w : World) (h1 : x ≠ 0) (h2 : x < 256) (hT : Tab w) :
    Calls Tryd.prog 19 #[.int .u64 x] w fun e w' => e = .returned (.int .i64 (Lib.ctz 64 x)) ∧ w = w' := by
  have HC := Lib.hid (tz64_any x w h1 h2 hT)
  clear hT
  go_enter Tryd.func19, Tryd.ntmps19
  go_wp2_with (go_at_call 24; refine HC.out.mono ?_; rintro e w1 ⟨rfl, rfl⟩)
  go_ret
  exact ⟨rfl, rfl⟩
set_option maxRecDepth 100000 in
set_option maxHeartbeats 2000000 in
theorem sNextLine_any (r m : Int) (w : World) : Calls Tryd.prog 6 #[.agg #[.int .i64 r, .int .i64 m]] w fun e w' => e = .returned (.int .i64 (nlV r m)) ∧ Below w.heap.size w w' := by
  cases h : linesValid r m
  · rw [nlV_no h]
    go_enter Tryd.func6, Tryd.ntmps6
    go_wp2_with fail
    refine wp_loop_rounds 1 ?_
    rw [rounds_succ]
    go_wp2_with (go_at_call 17; refine (sLinesValid_any r m _).mono ?_; rw [h]; rintro e w1 ⟨rfl, hb1⟩; have HB1 : Hid (Below w.heap.size w w1) := Below.andThen (by go_grown) hb1; clear hb1)
    go_ret
    exact ⟨rfl, HB1.out⟩
  · obtain ⟨o, ho⟩ : ∃ o, o = opn r m := ⟨_, rfl⟩
    have hol : o < 256 := by rw [ho]; exact opn_lt h
    have HBit : Hid (∀ k : Nat, k < 8 → ((r / 2 ^ k).tmod 2 = 1 ∧ ((m / 2 ^ k).tmod 2 == 0) = true ∧ o.testBit k = true) ∨ ((r / 2 ^ k).tmod 2 = 1 ∧ ((m / 2 ^ k).tmod 2 == 0) = false ∧ o.testBit k = false) ∨ (¬ (r / 2 ^ k).tmod 2 = 1 ∧ o.testBit k = false)) := by
      intro k hk
      obtain ⟨a, b, rfl, rfl, ha, hb⟩ := valid_nat h
      rw [ho, opn_nat, an_bit, bitF, bitT, decide_eq_true (show k < 64 by omega)]
      cases a.testBit k <;> cases b.testBit k <;> simp
    have HV1 : Hid (∀ k : Nat, k < 8 → o.testBit k = true → (∀ i < k, o.testBit i = false) → nlV r m = k) := fun k hk h1 h2 => by
      obtain ⟨h3, h4⟩ := ctz_hit hol hk h1 h2
      rw [nlV_some h (by rw [← ho]; exact h3), ← ho, h4]
    have HV2 : Hid ((∀ i < 8, o.testBit i = false) → nlV r m = -1) := fun h2 => nlV_zero (by rw [← ho]; exact none_hit hol h2)
    have HH := Lib.hid h
    clear ho hol h
    go_enter Tryd.func6, Tryd.ntmps6
    go_wp2_with fail
    go_loopw [3] (fun i wr => ∃ k : Nat, k ≤ 8 ∧ i = .int .i64 k ∧ Hid (∀ j < k, o.testBit j = false) ∧ Hid (Blk wr w.heap.size 25 #[.int .i64 r, .int .i64 m]) ∧ Hid (Below w.heap.size w wr)) (fun i _ => 8 - (intOf i).toNat)
    case atStart => exact ⟨0, by omega, rfl, (fun j hj => by omega), Blk.at_ _ _ _ rfl, by show Below _ _ _; go_grown⟩
    case round =>
      obtain ⟨k, hk, rfl, HK, qb, HB⟩ := hrel
      obtain ⟨wo, rfl⟩ : ∃ wo : World, wo = wr := ⟨_, rfl⟩
      have kb_0 : wo.cell? ⟨w.heap.size, 0, none⟩ = some (.int .i64 r) := qb.out.cell 0 rfl
      have kb_1 : wo.cell? ⟨w.heap.size, 1, none⟩ = some (.int .i64 m) := qb.out.cell 1 rfl
      have lb := qb.out.lt
      by_cases hlt : k < 8
      · have hk7 : (k : Int) ≤ 7 := by omega
        rcases HBit.out k hlt with ⟨h1, h2, h3⟩ | ⟨h1, h2, h3⟩ | ⟨h1, h3⟩
        · have H3 := Lib.hid h3
          clear h3
          go_wp2_with (go_at_call 17; refine (sLinesValid_any r m _).mono ?_; rw [HH.out]; rintro e w1 ⟨rfl, hb1⟩; have qb1 := Lib.hid (qb.out.below (Nat.le_refl _) hb1); have HB1 := Lib.hid (Below.andThen HB.out hb1); clear kb_0 kb_1 lb hb1; have kb_0 : w1.cell? ⟨w.heap.size, 0, none⟩ = some (.int .i64 r) := qb1.out.cell 0 rfl; have kb_1 : w1.cell? ⟨w.heap.size, 1, none⟩ = some (.int .i64 m) := qb1.out.cell 1 rfl)
          go_ret
          exact ⟨ret_int (HV1.out k hlt H3.out HK.out).symm, HB1.out⟩
        · have H3 := Lib.hid h3
          clear h3
          go_wp2_with (go_at_call 17; refine (sLinesValid_any r m _).mono ?_; rw [HH.out]; rintro e w1 ⟨rfl, hb1⟩; have qb1 := Lib.hid (qb.out.below (Nat.le_refl _) hb1); have HB1 := Lib.hid (Below.andThen HB.out hb1); clear kb_0 kb_1 lb hb1; have kb_0 : w1.cell? ⟨w.heap.size, 0, none⟩ = some (.int .i64 r) := qb1.out.cell 0 rfl; have kb_1 : w1.cell? ⟨w.heap.size, 1, none⟩ = some (.int .i64 m) := qb1.out.cell 1 rfl)
          go_roundw
          case rel => exact ⟨k + 1, by omega, by go_num, (fun j hj => by rcases Nat.lt_or_eq_of_le (Nat.le_of_lt_succ hj) with h9 | h9; (exact HK.out j h9); (rw [h9]; exact H3.out)), qb1, HB1⟩
          case measure => simp [intOf]; omega
        · have H3 := Lib.hid h3
          clear h3
          go_wp2_with (go_at_call 17; refine (sLinesValid_any r m _).mono ?_; rw [HH.out]; rintro e w1 ⟨rfl, hb1⟩; have qb1 := Lib.hid (qb.out.below (Nat.le_refl _) hb1); have HB1 := Lib.hid (Below.andThen HB.out hb1); clear kb_0 kb_1 lb hb1; have kb_0 : w1.cell? ⟨w.heap.size, 0, none⟩ = some (.int .i64 r) := qb1.out.cell 0 rfl; have kb_1 : w1.cell? ⟨w.heap.size, 1, none⟩ = some (.int .i64 m) := qb1.out.cell 1 rfl)
          go_roundw
          case rel => exact ⟨k + 1, by omega, by go_num, (fun j hj => by rcases Nat.lt_or_eq_of_le (Nat.le_of_lt_succ hj) with h9 | h9; (exact HK.out j h9); (rw [h9]; exact H3.out)), qb1, HB1⟩
          case measure => simp [intOf]; omega
      · have hk8 : k = 8 := by omega
        have HV := Lib.hid (HV2.out (by rw [← hk8]; exact HK.out))
        go_wp2
        go_ret
        exact ⟨ret_int HV.out.symm, HB.out⟩
set_option maxRecDepth 100000 in
set_option maxHeartbeats 2000000 in
theorem iNextLine_any (r m : Int) (w : World) (hT : Tab w) : Calls Tryd.prog 8 #[.agg #[.int .i64 r, .int .i64 m]] w fun e w' => e = .returned (.int .i64 (nlV r m)) ∧ Below w.heap.size w w' := by
  have HTab := Lib.hid hT
  clear hT
  cases h : linesValid r m
  · rw [nlV_no h]
    go_enter Tryd.func8, Tryd.ntmps8
    go_wp2_with (go_at_call 18; refine (iLinesValid_any r m _).mono ?_; rw [h]; rintro e w1 ⟨rfl, hb1⟩; have HB1 : Hid (Below w.heap.size w w1) := Below.andThen (by go_grown) hb1; clear hb1)
    go_ret
    exact ⟨rfl, HB1.out⟩
  · obtain ⟨o, ho⟩ : ∃ o, o = opn r m := ⟨_, rfl⟩
    have hol : o < 256 := by rw [ho]; exact opn_lt h
    have hO : bits BinOp.andNot IntKind.i64 r m = (o : Int) := by
      obtain ⟨a, b, rfl, rfl, ha, hb⟩ := valid_nat h
      rw [ho, opn_nat]
      exact bits_an (by omega) (by omega)
    by_cases hz : o = 0
    · rw [nlV_zero (by rw [← ho]; exact hz)]
      have hz0 : ((o : Int) == 0) = true := by simp [hz]
      clear hz ho hol
      go_enter Tryd.func8, Tryd.ntmps8
      go_wp2_with (go_at_call 18; refine (iLinesValid_any r m _).mono ?_; rw [h]; rintro e w1 ⟨rfl, hb1⟩; have HB1 : Hid (Below w.heap.size w w1) := Below.andThen (by go_grown) hb1; clear hb1)
      go_ret
      exact ⟨rfl, HB1.out⟩
    · rw [nlV_some h (by rw [← ho]; exact hz), ← ho]
      have hz0 : ((o : Int) == 0) = false := by simp; omega
      have hw : IntKind.u64.wrap (o : Int) = (o : Int) := by rw [IntKind.wrap_u64]; omega
      have HZ := Lib.hid hz
      clear ho hz
      go_enter Tryd.func8, Tryd.ntmps8
      go_wp2_with (first
        | (go_at_call 18; refine (iLinesValid_any r m _).mono ?_; rw [h]; rintro e w1 ⟨rfl, hb1⟩; have HT1 := Lib.hid ((HTab.out.alloc _).below (Nat.le_refl _) hb1); have HB1 : Hid (Below w.heap.size w w1) := Below.andThen (by go_grown) hb1; clear hb1)
        | (go_at_call 19; refine (tz_any o _ HZ.out hol HT1.out).mono ?_; rintro e w2 ⟨rfl, rfl⟩))
      go_ret
      exact ⟨rfl, HB1.out⟩
end Go.Proofs.YtpkhalkjnihboaaDoor
