/-
  CONTRACTS of ServeLine.
  Conditions: the table of math/bits lies as its text lays it.
-/
import Derived.Test.YtpkhalkjnihboaaDoorNext2
namespace Go.Proofs.YtpkhalkjnihboaaDoor
open Go.ChangeShapes Go.WideShapes Go.ChangeAt Go.RowKit Go.Joins
set_option linter.unusedVariables false

set_option maxRecDepth 100000 in
set_option maxHeartbeats 4000000 in
theorem sServeLine_any (r m : Int) (w : World) : Calls Tryd.prog 9 #[.agg #[.int .i64 r, .int .i64 m]] w fun e w' => e = .returned (.tuple #[.agg #[.int .i64 (svR r m), .int .i64 (svM r m)], .int .i64 (nlV r m)]) ∧ Below w.heap.size w w' := by
  cases hv : linesValid r m
  · rw [show svR r m = 0 by unfold svR; rw [if_neg (by rw [hv]; simp)], show svM r m = 0 by unfold svM; rw [if_neg (by rw [hv]; simp)], nlV_no hv]
    go_enter Tryd.func9, Tryd.ntmps9
    go_wp2_with (first
      | (go_at_call 17; refine (sLinesValid_any r m _).mono ?_; rw [hv]; rintro e w1 ⟨rfl, hb1⟩; have HB1 : Hid (Below w.heap.size w w1) := Below.andThen (by go_grown) hb1; have q0 : Hid (Blk w1 w.heap.size 25 #[.int .i64 r, .int .i64 m]) := ((Blk.new _ _ _).alloc _).below (Nat.le_refl _) hb1; have q1 : Hid (Blk w1 (w.heap.size + 1) 25 #[.int .i64 0, .int .i64 0]) := (Blk.at_ _ _ _ (by simp)).below (Nat.le_refl _) hb1; clear hb1; have k0 : w1.cell? ⟨w.heap.size, 0, none⟩ = some (.int .i64 r) := q0.out.cell 0 rfl; have f0 := q0.out.frozen 0; have k1 : w1.cell? ⟨w.heap.size, 1, none⟩ = some (.int .i64 m) := q0.out.cell 1 rfl; have f1 := q0.out.frozen 1; have k2 : w1.cell? ⟨w.heap.size + 1, 0, none⟩ = some (.int .i64 0) := q1.out.cell 0 rfl; have f2 := q1.out.frozen 0; have k3 : w1.cell? ⟨w.heap.size + 1, 1, none⟩ = some (.int .i64 0) := q1.out.cell 1 rfl; have f3 := q1.out.frozen 1; have l0 := q0.out.lt; have l1 := q1.out.lt))
    refine bodyPost_ret (v := .tuple #[.agg #[.int .i64 0, .int .i64 0], .int .i64 (-1)]) (by simp [results, Tryd.results9, go_sem, *]) rfl ⟨rfl, ?_⟩
    have h := HB1.out
    repeat (refine Below.setCell ?_ (by first | (simp; done) | (simp; omega)) _)
    exact h
  · obtain ⟨n, hn⟩ : ∃ n, n = nlV r m := ⟨_, rfl⟩
    have hbd := nlV_bd (r := r) (m := m)
    rw [← hn] at hbd
    obtain ⟨hn0, hn7⟩ := hbd
    have HN := Lib.hid hn
    rw [show svM r m = m by unfold svM; rw [if_pos hv], ← hn]
    by_cases h0 : 0 ≤ n
    · rw [show svR r m = bits BinOp.andNot IntKind.i64 r (wrap64 (2 ^ n.toNat)) by unfold svR; rw [if_pos hv, ← hn, if_pos h0]]
      clear hn
      go_enter Tryd.func9, Tryd.ntmps9
      go_wp2_with (first
        | (go_at_call 17; refine (sLinesValid_any r m _).mono ?_; rw [hv]; rintro e w1 ⟨rfl, hb1⟩; have HB1 : Hid (Below w.heap.size w w1) := Below.andThen (by go_grown) hb1; have q0 : Hid (Blk w1 w.heap.size 25 #[.int .i64 r, .int .i64 m]) := ((Blk.new _ _ _).alloc _).below (Nat.le_refl _) hb1; have q1 : Hid (Blk w1 (w.heap.size + 1) 25 #[.int .i64 0, .int .i64 0]) := (Blk.at_ _ _ _ (by simp)).below (Nat.le_refl _) hb1; clear hb1; have k0 : w1.cell? ⟨w.heap.size, 0, none⟩ = some (.int .i64 r) := q0.out.cell 0 rfl; have f0 := q0.out.frozen 0; have k1 : w1.cell? ⟨w.heap.size, 1, none⟩ = some (.int .i64 m) := q0.out.cell 1 rfl; have f1 := q0.out.frozen 1; have k2 : w1.cell? ⟨w.heap.size + 1, 0, none⟩ = some (.int .i64 0) := q1.out.cell 0 rfl; have f2 := q1.out.frozen 0; have k3 : w1.cell? ⟨w.heap.size + 1, 1, none⟩ = some (.int .i64 0) := q1.out.cell 1 rfl; have f3 := q1.out.frozen 1; have l0 := q0.out.lt; have l1 := q1.out.lt)
        | (go_at_call 6; refine (sNextLine_any r m _).mono ?_; rw [← HN.out]; rintro e w2 ⟨rfl, hb2⟩; have HB2 := Lib.hid (Below.andThen HB1.out hb2); have q0 := Lib.hid (q0.out.below (Nat.le_refl _) hb2); have q1 := Lib.hid (q1.out.below (Nat.le_refl _) hb2); clear hb2 k0 f0 k1 f1 k2 f2 k3 f3 l0 l1; have k0 : w2.cell? ⟨w.heap.size, 0, none⟩ = some (.int .i64 r) := q0.out.cell 0 rfl; have f0 := q0.out.frozen 0; have k1 : w2.cell? ⟨w.heap.size, 1, none⟩ = some (.int .i64 m) := q0.out.cell 1 rfl; have f1 := q0.out.frozen 1; have k2 : w2.cell? ⟨w.heap.size + 1, 0, none⟩ = some (.int .i64 0) := q1.out.cell 0 rfl; have f2 := q1.out.frozen 0; have k3 : w2.cell? ⟨w.heap.size + 1, 1, none⟩ = some (.int .i64 0) := q1.out.cell 1 rfl; have f3 := q1.out.frozen 1; have l0 := q0.out.lt; have l1 := q1.out.lt))
      go_region
      go_wp2
      refine bodyPost_ret (v := .tuple #[.agg #[.int .i64 (bits BinOp.andNot IntKind.i64 r (wrap64 (2 ^ n.toNat))), .int .i64 m], .int .i64 n]) (by simp [results, Tryd.results9, go_sem, *]) rfl ⟨rfl, ?_⟩
      first
        | (go_grown; done)
        | (go_grown; exact HB2.out)
        | (have h := HB2.out; (repeat (first | refine Below.setCell ?_ (by first | (simp; done) | (simp; omega)) _ | refine Below.drew ?_)); exact h)
    · rw [show svR r m = r by unfold svR; rw [if_pos hv, ← hn, if_neg h0]]
      clear hn
      go_enter Tryd.func9, Tryd.ntmps9
      go_wp2_with (first
        | (go_at_call 17; refine (sLinesValid_any r m _).mono ?_; rw [hv]; rintro e w1 ⟨rfl, hb1⟩; have HB1 : Hid (Below w.heap.size w w1) := Below.andThen (by go_grown) hb1; have q0 : Hid (Blk w1 w.heap.size 25 #[.int .i64 r, .int .i64 m]) := ((Blk.new _ _ _).alloc _).below (Nat.le_refl _) hb1; have q1 : Hid (Blk w1 (w.heap.size + 1) 25 #[.int .i64 0, .int .i64 0]) := (Blk.at_ _ _ _ (by simp)).below (Nat.le_refl _) hb1; clear hb1; have k0 : w1.cell? ⟨w.heap.size, 0, none⟩ = some (.int .i64 r) := q0.out.cell 0 rfl; have f0 := q0.out.frozen 0; have k1 : w1.cell? ⟨w.heap.size, 1, none⟩ = some (.int .i64 m) := q0.out.cell 1 rfl; have f1 := q0.out.frozen 1; have k2 : w1.cell? ⟨w.heap.size + 1, 0, none⟩ = some (.int .i64 0) := q1.out.cell 0 rfl; have f2 := q1.out.frozen 0; have k3 : w1.cell? ⟨w.heap.size + 1, 1, none⟩ = some (.int .i64 0) := q1.out.cell 1 rfl; have f3 := q1.out.frozen 1; have l0 := q0.out.lt; have l1 := q1.out.lt)
        | (go_at_call 6; refine (sNextLine_any r m _).mono ?_; rw [← HN.out]; rintro e w2 ⟨rfl, hb2⟩; have HB2 := Lib.hid (Below.andThen HB1.out hb2); have q0 := Lib.hid (q0.out.below (Nat.le_refl _) hb2); have q1 := Lib.hid (q1.out.below (Nat.le_refl _) hb2); clear hb2 k0 f0 k1 f1 k2 f2 k3 f3 l0 l1; have k0 : w2.cell? ⟨w.heap.size, 0, none⟩ = some (.int .i64 r) := q0.out.cell 0 rfl; have f0 := q0.out.frozen 0; have k1 : w2.cell? ⟨w.heap.size, 1, none⟩ = some (.int .i64 m) := q0.out.cell 1 rfl; have f1 := q0.out.frozen 1; have k2 : w2.cell? ⟨w.heap.size + 1, 0, none⟩ = some (.int .i64 0) := q1.out.cell 0 rfl; have f2 := q1.out.frozen 0; have k3 : w2.cell? ⟨w.heap.size + 1, 1, none⟩ = some (.int .i64 0) := q1.out.cell 1 rfl; have f3 := q1.out.frozen 1; have l0 := q0.out.lt; have l1 := q1.out.lt))
      refine bodyPost_ret (v := .tuple #[.agg #[.int .i64 r, .int .i64 m], .int .i64 n]) (by simp [results, Tryd.results9, go_sem, *]) rfl ⟨rfl, ?_⟩
      have h := HB2.out
      repeat (refine Below.setCell ?_ (by first | (simp; done) | (simp; omega)) _)
      exact h
set_option maxRecDepth 100000 in
set_option maxHeartbeats 4000000 in
theorem iServeLine_any (r m : Int) (w : World) (hT : Tab w) : Calls Tryd.prog 10 #[.agg #[.int .i64 r, .int .i64 m]] w fun e w' => e = .returned (.tuple #[.agg #[.int .i64 (svR r m), .int .i64 (svM r m)], .int .i64 (nlV r m)]) ∧ Below w.heap.size w w' := by
  have HTab := Lib.hid hT
  clear hT
  cases hv : linesValid r m
  · rw [show svR r m = 0 by unfold svR; rw [if_neg (by rw [hv]; simp)], show svM r m = 0 by unfold svM; rw [if_neg (by rw [hv]; simp)], nlV_no hv]
    go_enter Tryd.func10, Tryd.ntmps10
    go_wp2_with (first
      | (go_at_call 18; refine (iLinesValid_any r m _).mono ?_; rw [hv]; rintro e w1 ⟨rfl, hb1⟩; have HB1 : Hid (Below w.heap.size w w1) := Below.andThen (by go_grown) hb1; have q0 : Hid (Blk w1 w.heap.size 25 #[.int .i64 r, .int .i64 m]) := ((Blk.new _ _ _).alloc _).below (Nat.le_refl _) hb1; have q1 : Hid (Blk w1 (w.heap.size + 1) 25 #[.int .i64 0, .int .i64 0]) := (Blk.at_ _ _ _ (by simp)).below (Nat.le_refl _) hb1; have HT1 := Lib.hid (((HTab.out.alloc _).alloc _).below (Nat.le_refl _) hb1); clear hb1; have k0 : w1.cell? ⟨w.heap.size, 0, none⟩ = some (.int .i64 r) := q0.out.cell 0 rfl; have f0 := q0.out.frozen 0; have k1 : w1.cell? ⟨w.heap.size, 1, none⟩ = some (.int .i64 m) := q0.out.cell 1 rfl; have f1 := q0.out.frozen 1; have k2 : w1.cell? ⟨w.heap.size + 1, 0, none⟩ = some (.int .i64 0) := q1.out.cell 0 rfl; have f2 := q1.out.frozen 0; have k3 : w1.cell? ⟨w.heap.size + 1, 1, none⟩ = some (.int .i64 0) := q1.out.cell 1 rfl; have f3 := q1.out.frozen 1; have l0 := q0.out.lt; have l1 := q1.out.lt))
    refine bodyPost_ret (v := .tuple #[.agg #[.int .i64 0, .int .i64 0], .int .i64 (-1)]) (by simp [results, Tryd.results10, go_sem, *]) rfl ⟨rfl, ?_⟩
    have h := HB1.out
    repeat (refine Below.setCell ?_ (by first | (simp; done) | (simp; omega)) _)
    exact h
  · obtain ⟨n, hn⟩ : ∃ n, n = nlV r m := ⟨_, rfl⟩
    have hbd := nlV_bd (r := r) (m := m)
    rw [← hn] at hbd
    obtain ⟨hn0, hn7⟩ := hbd
    have HN := Lib.hid hn
    rw [show svM r m = m by unfold svM; rw [if_pos hv], ← hn]
    by_cases h0 : 0 ≤ n
    · rw [show svR r m = bits BinOp.andNot IntKind.i64 r (wrap64 (2 ^ n.toNat)) by unfold svR; rw [if_pos hv, ← hn, if_pos h0]]
      clear hn
      go_enter Tryd.func10, Tryd.ntmps10
      go_wp2_with (first
        | (go_at_call 18; refine (iLinesValid_any r m _).mono ?_; rw [hv]; rintro e w1 ⟨rfl, hb1⟩; have HB1 : Hid (Below w.heap.size w w1) := Below.andThen (by go_grown) hb1; have q0 : Hid (Blk w1 w.heap.size 25 #[.int .i64 r, .int .i64 m]) := ((Blk.new _ _ _).alloc _).below (Nat.le_refl _) hb1; have q1 : Hid (Blk w1 (w.heap.size + 1) 25 #[.int .i64 0, .int .i64 0]) := (Blk.at_ _ _ _ (by simp)).below (Nat.le_refl _) hb1; have HT1 := Lib.hid (((HTab.out.alloc _).alloc _).below (Nat.le_refl _) hb1); clear hb1; have k0 : w1.cell? ⟨w.heap.size, 0, none⟩ = some (.int .i64 r) := q0.out.cell 0 rfl; have f0 := q0.out.frozen 0; have k1 : w1.cell? ⟨w.heap.size, 1, none⟩ = some (.int .i64 m) := q0.out.cell 1 rfl; have f1 := q0.out.frozen 1; have k2 : w1.cell? ⟨w.heap.size + 1, 0, none⟩ = some (.int .i64 0) := q1.out.cell 0 rfl; have f2 := q1.out.frozen 0; have k3 : w1.cell? ⟨w.heap.size + 1, 1, none⟩ = some (.int .i64 0) := q1.out.cell 1 rfl; have f3 := q1.out.frozen 1; have l0 := q0.out.lt; have l1 := q1.out.lt)
        | (go_at_call 8; refine (iNextLine_any r m _ HT1.out).mono ?_; rw [← HN.out]; rintro e w2 ⟨rfl, hb2⟩; have HB2 := Lib.hid (Below.andThen HB1.out hb2); have q0 := Lib.hid (q0.out.below (Nat.le_refl _) hb2); have q1 := Lib.hid (q1.out.below (Nat.le_refl _) hb2); clear hb2 k0 f0 k1 f1 k2 f2 k3 f3 l0 l1; have k0 : w2.cell? ⟨w.heap.size, 0, none⟩ = some (.int .i64 r) := q0.out.cell 0 rfl; have f0 := q0.out.frozen 0; have k1 : w2.cell? ⟨w.heap.size, 1, none⟩ = some (.int .i64 m) := q0.out.cell 1 rfl; have f1 := q0.out.frozen 1; have k2 : w2.cell? ⟨w.heap.size + 1, 0, none⟩ = some (.int .i64 0) := q1.out.cell 0 rfl; have f2 := q1.out.frozen 0; have k3 : w2.cell? ⟨w.heap.size + 1, 1, none⟩ = some (.int .i64 0) := q1.out.cell 1 rfl; have f3 := q1.out.frozen 1; have l0 := q0.out.lt; have l1 := q1.out.lt))
      go_region
      go_wp2
      refine bodyPost_ret (v := .tuple #[.agg #[.int .i64 (bits BinOp.andNot IntKind.i64 r (wrap64 (2 ^ n.toNat))), .int .i64 m], .int .i64 n]) (by simp [results, Tryd.results10, go_sem, *]) rfl ⟨rfl, ?_⟩
      first
        | (go_grown; done)
        | (go_grown; exact HB2.out)
        | (have h := HB2.out; (repeat (first | refine Below.setCell ?_ (by first | (simp; done) | (simp; omega)) _ | refine Below.drew ?_)); exact h)
    · rw [show svR r m = r by unfold svR; rw [if_pos hv, ← hn, if_neg h0]]
      clear hn
      go_enter Tryd.func10, Tryd.ntmps10
      go_wp2_with (first
        | (go_at_call 18; refine (iLinesValid_any r m _).mono ?_; rw [hv]; rintro e w1 ⟨rfl, hb1⟩; have HB1 : Hid (Below w.heap.size w w1) := Below.andThen (by go_grown) hb1; have q0 : Hid (Blk w1 w.heap.size 25 #[.int .i64 r, .int .i64 m]) := ((Blk.new _ _ _).alloc _).below (Nat.le_refl _) hb1; have q1 : Hid (Blk w1 (w.heap.size + 1) 25 #[.int .i64 0, .int .i64 0]) := (Blk.at_ _ _ _ (by simp)).below (Nat.le_refl _) hb1; have HT1 := Lib.hid (((HTab.out.alloc _).alloc _).below (Nat.le_refl _) hb1); clear hb1; have k0 : w1.cell? ⟨w.heap.size, 0, none⟩ = some (.int .i64 r) := q0.out.cell 0 rfl; have f0 := q0.out.frozen 0; have k1 : w1.cell? ⟨w.heap.size, 1, none⟩ = some (.int .i64 m) := q0.out.cell 1 rfl; have f1 := q0.out.frozen 1; have k2 : w1.cell? ⟨w.heap.size + 1, 0, none⟩ = some (.int .i64 0) := q1.out.cell 0 rfl; have f2 := q1.out.frozen 0; have k3 : w1.cell? ⟨w.heap.size + 1, 1, none⟩ = some (.int .i64 0) := q1.out.cell 1 rfl; have f3 := q1.out.frozen 1; have l0 := q0.out.lt; have l1 := q1.out.lt)
        | (go_at_call 8; refine (iNextLine_any r m _ HT1.out).mono ?_; rw [← HN.out]; rintro e w2 ⟨rfl, hb2⟩; have HB2 := Lib.hid (Below.andThen HB1.out hb2); have q0 := Lib.hid (q0.out.below (Nat.le_refl _) hb2); have q1 := Lib.hid (q1.out.below (Nat.le_refl _) hb2); clear hb2 k0 f0 k1 f1 k2 f2 k3 f3 l0 l1; have k0 : w2.cell? ⟨w.heap.size, 0, none⟩ = some (.int .i64 r) := q0.out.cell 0 rfl; have f0 := q0.out.frozen 0; have k1 : w2.cell? ⟨w.heap.size, 1, none⟩ = some (.int .i64 m) := q0.out.cell 1 rfl; have f1 := q0.out.frozen 1; have k2 : w2.cell? ⟨w.heap.size + 1, 0, none⟩ = some (.int .i64 0) := q1.out.cell 0 rfl; have f2 := q1.out.frozen 0; have k3 : w2.cell? ⟨w.heap.size + 1, 1, none⟩ = some (.int .i64 0) := q1.out.cell 1 rfl; have f3 := q1.out.frozen 1; have l0 := q0.out.lt; have l1 := q1.out.lt))
      refine bodyPost_ret (v := .tuple #[.agg #[.int .i64 r, .int .i64 m], .int .i64 n]) (by simp [results, Tryd.results10, go_sem, *]) rfl ⟨rfl, ?_⟩
      have h := HB2.out
      repeat (refine Below.setCell ?_ (by first | (simp; done) | (simp; omega)) _)
      exact h
end Go.Proofs.YtpkhalkjnihboaaDoor
