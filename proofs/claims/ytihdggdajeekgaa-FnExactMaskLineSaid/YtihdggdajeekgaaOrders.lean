/-
  CONTRACTS of OrderFrom, RaiseLine, MaskLine.
  Conditions: none beyond those that each states.
-/
import Derived.Test.YtihdggdajeekgaaLines
namespace Go.Proofs.Ytihdggdajeekgaa
open Go.ChangeShapes Go.WideShapes Go.ChangeAt Go.RowKit Go.Joins

def ordV (n : Int) : Value := .tuple #[.agg #[.int .i64 (n % 16), .int .i64 (n / 16 % 256), .int .i64 (n / 4096)], .bool true]
def ordZ : Value := .tuple #[.agg #[.int .i64 0, .int .i64 0, .int .i64 0], .bool false]

set_option maxHeartbeats 400000 in
theorem sOrderFrom_yes (n : Int) (w : World) (h : inB n 0 1048575 = true) : Calls Try.prog 24 #[.int .i64 n] w fun e w' => e = .returned (.tuple #[.agg #[.int .i64 (n % 16), .int .i64 (n / 16 % 256), .int .i64 (n / 4096)], .bool true]) ∧ Below w.heap.size w w' := by
  obtain ⟨h1, h2⟩ := inB_true.1 h
  go_enter Try.func24, Try.ntmps24
  go_wp2_with (go_at_call 36; refine (l1In_any _ _ _ _).mono ?_; rintro e w1 ⟨rfl, rfl⟩)
  go_returns
  exact ⟨rfl, by go_grown⟩
set_option maxHeartbeats 400000 in
theorem sOrderFrom_no (n : Int) (w : World) (h : inB n 0 1048575 = false) : Calls Try.prog 24 #[.int .i64 n] w fun e w' => e = .returned (.tuple #[.agg #[.int .i64 0, .int .i64 0, .int .i64 0], .bool false]) ∧ Below w.heap.size w w' := by
  go_enter Try.func24, Try.ntmps24
  go_wp2_with (go_at_call 36; refine (l1In_any _ _ _ _).mono ?_; rintro e w1 ⟨rfl, rfl⟩)
  go_returns
  exact ⟨rfl, by go_grown⟩
set_option maxHeartbeats 400000 in
theorem iOrderFrom_yes (n : Int) (w : World) (h : inB n 0 1048575 = true) : Calls Try.prog 25 #[.int .i64 n] w fun e w' => e = .returned (.tuple #[.agg #[.int .i64 (n % 16), .int .i64 (n / 16 % 256), .int .i64 (n / 4096)], .bool true]) ∧ Below w.heap.size w w' := by
  obtain ⟨h1, h2⟩ := inB_true.1 h
  go_enter Try.func25, Try.ntmps25
  go_wp2_with (go_at_call 37; refine (in_any _ _ _ _).mono ?_; rintro e w1 ⟨rfl, rfl⟩)
  go_returns
  exact ⟨rfl, by go_grown⟩
set_option maxHeartbeats 400000 in
theorem iOrderFrom_no (n : Int) (w : World) (h : inB n 0 1048575 = false) : Calls Try.prog 25 #[.int .i64 n] w fun e w' => e = .returned (.tuple #[.agg #[.int .i64 0, .int .i64 0, .int .i64 0], .bool false]) ∧ Below w.heap.size w w' := by
  go_enter Try.func25, Try.ntmps25
  go_wp2_with (go_at_call 37; refine (in_any _ _ _ _).mono ?_; rintro e w1 ⟨rfl, rfl⟩)
  go_returns
  exact ⟨rfl, by go_grown⟩
set_option maxHeartbeats 400000 in
theorem l9Ok_any (r m n : Int) (w : World) : Calls Try.prog 38 #[.agg #[.int .i64 r, .int .i64 m], .int .i64 n] w fun e w' => e = .returned (.bool (linesValid r m && inB n 0 7)) ∧ Below w.heap.size w w' := by
  cases hl : linesValid r m
  all_goals
    go_enter Try.func38, Try.ntmps38
    go_wp2_with (first
      | (go_at_call 15; refine (sLinesValid_any _ _ _).mono ?_; rintro e w1 ⟨rfl, hb1⟩; have hB1 : Below w.heap.size w w1 := Below.andThen (by go_grown) hb1; clear hb1)
      | (go_at_call 36; refine (l1In_any _ _ _ _).mono ?_; rintro e w1 ⟨rfl, rfl⟩))
    go_returns
    exact ⟨by simp, by go_grown⟩
set_option maxHeartbeats 1000000 in
theorem sRaiseLine_yes (r m n : Int) (w : World) (hl : linesValid r m = true) (h : inB n 0 7 = true) : Calls Try.prog 27 #[.agg #[.int .i64 r, .int .i64 m], .int .i64 n] w fun e w' => e = .returned (.agg #[.int .i64 (bits BinOp.or IntKind.i64 r (wrap64 (2 ^ n.toNat))), .int .i64 m]) ∧ Below w.heap.size w w' := by
  obtain ⟨h1, h2⟩ := inB_true.1 h
  go_enter Try.func27, Try.ntmps27
  go_wp2_with (go_at_call 38; refine (l9Ok_any _ _ _ _).mono ?_; rintro e w1 ⟨rfl, hb1⟩; obtain ⟨hc1, hf1⟩ := bcell hb1; have hB1 : Below w.heap.size w w1 := Below.andThen (by go_grown) hb1; have hS1 := hb1.size; have q0 : Blk w1 w.heap.size 32 #[.int .i64 r, .int .i64 m] := ((Blk.new _ _ _).alloc _).below (Nat.le_refl _) hb1; have q1 : Blk w1 (w.heap.size + 1) 32 #[.int .i64 0, .int .i64 0] := (Blk.at_ _ _ _ (by simp)).below (Nat.le_refl _) hb1; have k0 := q0.cell 0 rfl; have f0 := q0.frozen 0; have k1 := q0.cell 1 rfl; have f1 := q0.frozen 1; have k2 := q1.cell 0 rfl; have f2 := q1.frozen 0; have k3 := q1.cell 1 rfl; have f3 := q1.frozen 1; have hz0 := q0.lt; have hz1 := q1.lt; clear q0 q1 hb1 hc1 hf1)
  go_region
  go_wp2
  exact bodyPost_ret (v := .agg #[.int .i64 (bits BinOp.or IntKind.i64 r (wrap64 (2 ^ n.toNat))), .int .i64 m]) (by simp [results, Try.results27, go_sem, *]) rfl ⟨rfl, by go_grown⟩
set_option maxHeartbeats 1000000 in
theorem sRaiseLine_no (r m n : Int) (w : World) (h : (linesValid r m && inB n 0 7) = false) : Calls Try.prog 27 #[.agg #[.int .i64 r, .int .i64 m], .int .i64 n] w fun e w' => e = .returned (.agg #[.int .i64 0, .int .i64 0]) ∧ Below w.heap.size w w' := by
  go_enter Try.func27, Try.ntmps27
  go_wp2_with (go_at_call 38; refine (l9Ok_any _ _ _ _).mono ?_; rintro e w1 ⟨rfl, hb1⟩; obtain ⟨hc1, hf1⟩ := bcell hb1; have hB1 : Below w.heap.size w w1 := Below.andThen (by go_grown) hb1; have hS1 := hb1.size; have q0 : Blk w1 w.heap.size 32 #[.int .i64 r, .int .i64 m] := ((Blk.new _ _ _).alloc _).below (Nat.le_refl _) hb1; have q1 : Blk w1 (w.heap.size + 1) 32 #[.int .i64 0, .int .i64 0] := (Blk.at_ _ _ _ (by simp)).below (Nat.le_refl _) hb1; have k0 := q0.cell 0 rfl; have f0 := q0.frozen 0; have k1 := q0.cell 1 rfl; have f1 := q0.frozen 1; have k2 := q1.cell 0 rfl; have f2 := q1.frozen 0; have k3 := q1.cell 1 rfl; have f3 := q1.frozen 1; have hz0 := q0.lt; have hz1 := q1.lt; clear q0 q1 hb1 hc1 hf1)
  exact bodyPost_ret (v := .agg #[.int .i64 0, .int .i64 0]) (by simp [results, Try.results27, go_sem, *]) rfl ⟨rfl, by go_grown⟩
set_option maxHeartbeats 1000000 in
theorem iRaiseLine_yes (r m n : Int) (w : World) (hl : linesValid r m = true) (h : inB n 0 7 = true) : Calls Try.prog 28 #[.agg #[.int .i64 r, .int .i64 m], .int .i64 n] w fun e w' => e = .returned (.agg #[.int .i64 (bits BinOp.or IntKind.i64 r (wrap64 (2 ^ n.toNat))), .int .i64 m]) ∧ Below w.heap.size w w' := by
  obtain ⟨h1, h2⟩ := inB_true.1 h
  go_enter Try.func28, Try.ntmps28
  go_wp2_with (first | (go_at_call 17; refine (iLinesValid_any _ _ _).mono ?_; rintro e w1 ⟨rfl, hb1⟩; obtain ⟨hc1, hf1⟩ := bcell hb1; have hB1 : Below w.heap.size w w1 := Below.andThen (by go_grown) hb1; have hS1 := hb1.size; have q0 : Blk w1 w.heap.size 32 #[.int .i64 r, .int .i64 m] := ((Blk.new _ _ _).alloc _).below (Nat.le_refl _) hb1; have q1 : Blk w1 (w.heap.size + 1) 32 #[.int .i64 0, .int .i64 0] := (Blk.at_ _ _ _ (by simp)).below (Nat.le_refl _) hb1; have k0 := q0.cell 0 rfl; have f0 := q0.frozen 0; have k1 := q0.cell 1 rfl; have f1 := q0.frozen 1; have k2 := q1.cell 0 rfl; have f2 := q1.frozen 0; have k3 := q1.cell 1 rfl; have f3 := q1.frozen 1; have hz0 := q0.lt; have hz1 := q1.lt; clear q0 q1 hb1 hc1 hf1) | (go_at_call 37; refine (in_any _ _ _ _).mono ?_; rintro e w2 ⟨rfl, rfl⟩))
  go_region
  go_wp2
  exact bodyPost_ret (v := .agg #[.int .i64 (bits BinOp.or IntKind.i64 r (wrap64 (2 ^ n.toNat))), .int .i64 m]) (by simp [results, Try.results28, go_sem, *]) rfl ⟨rfl, by go_grown⟩
set_option maxHeartbeats 1000000 in
theorem iRaiseLine_no (r m n : Int) (w : World) (h : (linesValid r m && inB n 0 7) = false) : Calls Try.prog 28 #[.agg #[.int .i64 r, .int .i64 m], .int .i64 n] w fun e w' => e = .returned (.agg #[.int .i64 0, .int .i64 0]) ∧ Below w.heap.size w w' := by
  cases hl : linesValid r m
  · go_enter Try.func28, Try.ntmps28
    go_wp2_with (first | (go_at_call 17; refine (iLinesValid_any _ _ _).mono ?_; rintro e w1 ⟨rfl, hb1⟩; obtain ⟨hc1, hf1⟩ := bcell hb1; have hB1 : Below w.heap.size w w1 := Below.andThen (by go_grown) hb1; have hS1 := hb1.size; have q0 : Blk w1 w.heap.size 32 #[.int .i64 r, .int .i64 m] := ((Blk.new _ _ _).alloc _).below (Nat.le_refl _) hb1; have q1 : Blk w1 (w.heap.size + 1) 32 #[.int .i64 0, .int .i64 0] := (Blk.at_ _ _ _ (by simp)).below (Nat.le_refl _) hb1; have k0 := q0.cell 0 rfl; have f0 := q0.frozen 0; have k1 := q0.cell 1 rfl; have f1 := q0.frozen 1; have k2 := q1.cell 0 rfl; have f2 := q1.frozen 0; have k3 := q1.cell 1 rfl; have f3 := q1.frozen 1; have hz0 := q0.lt; have hz1 := q1.lt; clear q0 q1 hb1 hc1 hf1) | (go_at_call 37; refine (in_any _ _ _ _).mono ?_; rintro e w2 ⟨rfl, rfl⟩))
    exact bodyPost_ret (v := .agg #[.int .i64 0, .int .i64 0]) (by simp [results, Try.results28, go_sem, *]) rfl ⟨rfl, by go_grown⟩
  · have h0 : inB n 0 7 = false := by simpa [hl] using h
    clear h
    go_enter Try.func28, Try.ntmps28
    go_wp2_with (first | (go_at_call 17; refine (iLinesValid_any _ _ _).mono ?_; rintro e w1 ⟨rfl, hb1⟩; obtain ⟨hc1, hf1⟩ := bcell hb1; have hB1 : Below w.heap.size w w1 := Below.andThen (by go_grown) hb1; have hS1 := hb1.size; have q0 : Blk w1 w.heap.size 32 #[.int .i64 r, .int .i64 m] := ((Blk.new _ _ _).alloc _).below (Nat.le_refl _) hb1; have q1 : Blk w1 (w.heap.size + 1) 32 #[.int .i64 0, .int .i64 0] := (Blk.at_ _ _ _ (by simp)).below (Nat.le_refl _) hb1; have k0 := q0.cell 0 rfl; have f0 := q0.frozen 0; have k1 := q0.cell 1 rfl; have f1 := q0.frozen 1; have k2 := q1.cell 0 rfl; have f2 := q1.frozen 0; have k3 := q1.cell 1 rfl; have f3 := q1.frozen 1; have hz0 := q0.lt; have hz1 := q1.lt; clear q0 q1 hb1 hc1 hf1) | (go_at_call 37; refine (in_any _ _ _ _).mono ?_; rintro e w2 ⟨rfl, rfl⟩))
    exact bodyPost_ret (v := .agg #[.int .i64 0, .int .i64 0]) (by simp [results, Try.results28, go_sem, *]) rfl ⟨rfl, by go_grown⟩
set_option maxHeartbeats 1000000 in
theorem sMaskLine_on (r m n : Int) (w : World) (hl : linesValid r m = true) (h : inB n 0 7 = true) : Calls Try.prog 34 #[.agg #[.int .i64 r, .int .i64 m], .int .i64 n, .bool true] w fun e w' => e = .returned (.agg #[.int .i64 r, .int .i64 (bits BinOp.or IntKind.i64 m (wrap64 (2 ^ n.toNat)))]) ∧ Below w.heap.size w w' := by
  obtain ⟨h1, h2⟩ := inB_true.1 h
  go_enter Try.func34, Try.ntmps34
  go_wp2_with (go_at_call 38; refine (l9Ok_any _ _ _ _).mono ?_; rintro e w1 ⟨rfl, hb1⟩; obtain ⟨hc1, hf1⟩ := bcell hb1; have hB1 : Below w.heap.size w w1 := Below.andThen (by go_grown) hb1; have hS1 := hb1.size; have q0 : Blk w1 w.heap.size 32 #[.int .i64 r, .int .i64 m] := ((Blk.new _ _ _).alloc _).below (Nat.le_refl _) hb1; have q1 : Blk w1 (w.heap.size + 1) 32 #[.int .i64 0, .int .i64 0] := (Blk.at_ _ _ _ (by simp)).below (Nat.le_refl _) hb1; have k0 := q0.cell 0 rfl; have f0 := q0.frozen 0; have k1 := q0.cell 1 rfl; have f1 := q0.frozen 1; have k2 := q1.cell 0 rfl; have f2 := q1.frozen 0; have k3 := q1.cell 1 rfl; have f3 := q1.frozen 1; have hz0 := q0.lt; have hz1 := q1.lt; clear q0 q1 hb1 hc1 hf1)
  go_region
  go_wp2
  go_region
  go_wp2
  refine bodyPost_ret (v := .agg #[.int .i64 r, .int .i64 (bits BinOp.or IntKind.i64 (bits BinOp.andNot IntKind.i64 m (wrap64 (2 ^ n.toNat))) (wrap64 (2 ^ n.toNat)))]) (by simp [results, Try.results34, go_sem, *]) rfl ⟨by rw [or_andNot], by go_grown⟩
set_option maxHeartbeats 1000000 in
theorem sMaskLine_off (r m n : Int) (w : World) (hl : linesValid r m = true) (h : inB n 0 7 = true) : Calls Try.prog 34 #[.agg #[.int .i64 r, .int .i64 m], .int .i64 n, .bool false] w fun e w' => e = .returned (.agg #[.int .i64 r, .int .i64 (bits BinOp.andNot IntKind.i64 m (wrap64 (2 ^ n.toNat)))]) ∧ Below w.heap.size w w' := by
  obtain ⟨h1, h2⟩ := inB_true.1 h
  go_enter Try.func34, Try.ntmps34
  go_wp2_with (go_at_call 38; refine (l9Ok_any _ _ _ _).mono ?_; rintro e w1 ⟨rfl, hb1⟩; obtain ⟨hc1, hf1⟩ := bcell hb1; have hB1 : Below w.heap.size w w1 := Below.andThen (by go_grown) hb1; have hS1 := hb1.size; have q0 : Blk w1 w.heap.size 32 #[.int .i64 r, .int .i64 m] := ((Blk.new _ _ _).alloc _).below (Nat.le_refl _) hb1; have q1 : Blk w1 (w.heap.size + 1) 32 #[.int .i64 0, .int .i64 0] := (Blk.at_ _ _ _ (by simp)).below (Nat.le_refl _) hb1; have k0 := q0.cell 0 rfl; have f0 := q0.frozen 0; have k1 := q0.cell 1 rfl; have f1 := q0.frozen 1; have k2 := q1.cell 0 rfl; have f2 := q1.frozen 0; have k3 := q1.cell 1 rfl; have f3 := q1.frozen 1; have hz0 := q0.lt; have hz1 := q1.lt; clear q0 q1 hb1 hc1 hf1)
  go_region
  go_wp2
  exact bodyPost_ret (v := .agg #[.int .i64 r, .int .i64 (bits BinOp.andNot IntKind.i64 m (wrap64 (2 ^ n.toNat)))]) (by simp [results, Try.results34, go_sem, *]) rfl ⟨rfl, by go_grown⟩
set_option maxHeartbeats 1000000 in
theorem sMaskLine_no (r m n : Int) (on : Bool) (w : World) (h : (linesValid r m && inB n 0 7) = false) : Calls Try.prog 34 #[.agg #[.int .i64 r, .int .i64 m], .int .i64 n, .bool on] w fun e w' => e = .returned (.agg #[.int .i64 0, .int .i64 0]) ∧ Below w.heap.size w w' := by
  go_enter Try.func34, Try.ntmps34
  go_wp2_with (go_at_call 38; refine (l9Ok_any _ _ _ _).mono ?_; rintro e w1 ⟨rfl, hb1⟩; obtain ⟨hc1, hf1⟩ := bcell hb1; have hB1 : Below w.heap.size w w1 := Below.andThen (by go_grown) hb1; have hS1 := hb1.size; have q0 : Blk w1 w.heap.size 32 #[.int .i64 r, .int .i64 m] := ((Blk.new _ _ _).alloc _).below (Nat.le_refl _) hb1; have q1 : Blk w1 (w.heap.size + 1) 32 #[.int .i64 0, .int .i64 0] := (Blk.at_ _ _ _ (by simp)).below (Nat.le_refl _) hb1; have k0 := q0.cell 0 rfl; have f0 := q0.frozen 0; have k1 := q0.cell 1 rfl; have f1 := q0.frozen 1; have k2 := q1.cell 0 rfl; have f2 := q1.frozen 0; have k3 := q1.cell 1 rfl; have f3 := q1.frozen 1; have hz0 := q0.lt; have hz1 := q1.lt; clear q0 q1 hb1 hc1 hf1)
  exact bodyPost_ret (v := .agg #[.int .i64 0, .int .i64 0]) (by simp [results, Try.results34, go_sem, *]) rfl ⟨rfl, by go_grown⟩
set_option maxHeartbeats 1000000 in
theorem iMaskLine_on (r m n : Int) (w : World) (hl : linesValid r m = true) (h : inB n 0 7 = true) : Calls Try.prog 35 #[.agg #[.int .i64 r, .int .i64 m], .int .i64 n, .bool true] w fun e w' => e = .returned (.agg #[.int .i64 r, .int .i64 (bits BinOp.or IntKind.i64 m (wrap64 (2 ^ n.toNat)))]) ∧ Below w.heap.size w w' := by
  obtain ⟨h1, h2⟩ := inB_true.1 h
  go_enter Try.func35, Try.ntmps35
  go_wp2_with (first | (go_at_call 17; refine (iLinesValid_any _ _ _).mono ?_; rintro e w1 ⟨rfl, hb1⟩; obtain ⟨hc1, hf1⟩ := bcell hb1; have hB1 : Below w.heap.size w w1 := Below.andThen (by go_grown) hb1; have hS1 := hb1.size; have q0 : Blk w1 w.heap.size 32 #[.int .i64 r, .int .i64 m] := ((Blk.new _ _ _).alloc _).below (Nat.le_refl _) hb1; have q1 : Blk w1 (w.heap.size + 1) 32 #[.int .i64 0, .int .i64 0] := (Blk.at_ _ _ _ (by simp)).below (Nat.le_refl _) hb1; have k0 := q0.cell 0 rfl; have f0 := q0.frozen 0; have k1 := q0.cell 1 rfl; have f1 := q0.frozen 1; have k2 := q1.cell 0 rfl; have f2 := q1.frozen 0; have k3 := q1.cell 1 rfl; have f3 := q1.frozen 1; have hz0 := q0.lt; have hz1 := q1.lt; clear q0 q1 hb1 hc1 hf1) | (go_at_call 37; refine (in_any _ _ _ _).mono ?_; rintro e w2 ⟨rfl, rfl⟩))
  go_region
  go_wp2
  exact bodyPost_ret (v := .agg #[.int .i64 r, .int .i64 (bits BinOp.or IntKind.i64 m (wrap64 (2 ^ n.toNat)))]) (by simp [results, Try.results35, go_sem, *]) rfl ⟨rfl, by go_grown⟩
set_option maxHeartbeats 1000000 in
theorem iMaskLine_off (r m n : Int) (w : World) (hl : linesValid r m = true) (h : inB n 0 7 = true) : Calls Try.prog 35 #[.agg #[.int .i64 r, .int .i64 m], .int .i64 n, .bool false] w fun e w' => e = .returned (.agg #[.int .i64 r, .int .i64 (bits BinOp.andNot IntKind.i64 m (wrap64 (2 ^ n.toNat)))]) ∧ Below w.heap.size w w' := by
  obtain ⟨h1, h2⟩ := inB_true.1 h
  go_enter Try.func35, Try.ntmps35
  go_wp2_with (first | (go_at_call 17; refine (iLinesValid_any _ _ _).mono ?_; rintro e w1 ⟨rfl, hb1⟩; obtain ⟨hc1, hf1⟩ := bcell hb1; have hB1 : Below w.heap.size w w1 := Below.andThen (by go_grown) hb1; have hS1 := hb1.size; have q0 : Blk w1 w.heap.size 32 #[.int .i64 r, .int .i64 m] := ((Blk.new _ _ _).alloc _).below (Nat.le_refl _) hb1; have q1 : Blk w1 (w.heap.size + 1) 32 #[.int .i64 0, .int .i64 0] := (Blk.at_ _ _ _ (by simp)).below (Nat.le_refl _) hb1; have k0 := q0.cell 0 rfl; have f0 := q0.frozen 0; have k1 := q0.cell 1 rfl; have f1 := q0.frozen 1; have k2 := q1.cell 0 rfl; have f2 := q1.frozen 0; have k3 := q1.cell 1 rfl; have f3 := q1.frozen 1; have hz0 := q0.lt; have hz1 := q1.lt; clear q0 q1 hb1 hc1 hf1) | (go_at_call 37; refine (in_any _ _ _ _).mono ?_; rintro e w2 ⟨rfl, rfl⟩))
  go_region
  go_wp2
  exact bodyPost_ret (v := .agg #[.int .i64 r, .int .i64 (bits BinOp.andNot IntKind.i64 m (wrap64 (2 ^ n.toNat)))]) (by simp [results, Try.results35, go_sem, *]) rfl ⟨rfl, by go_grown⟩
set_option maxHeartbeats 1000000 in
theorem iMaskLine_no (r m n : Int) (on : Bool) (w : World) (h : (linesValid r m && inB n 0 7) = false) : Calls Try.prog 35 #[.agg #[.int .i64 r, .int .i64 m], .int .i64 n, .bool on] w fun e w' => e = .returned (.agg #[.int .i64 0, .int .i64 0]) ∧ Below w.heap.size w w' := by
  cases hl : linesValid r m
  · go_enter Try.func35, Try.ntmps35
    go_wp2_with (first | (go_at_call 17; refine (iLinesValid_any _ _ _).mono ?_; rintro e w1 ⟨rfl, hb1⟩; obtain ⟨hc1, hf1⟩ := bcell hb1; have hB1 : Below w.heap.size w w1 := Below.andThen (by go_grown) hb1; have hS1 := hb1.size; have q0 : Blk w1 w.heap.size 32 #[.int .i64 r, .int .i64 m] := ((Blk.new _ _ _).alloc _).below (Nat.le_refl _) hb1; have q1 : Blk w1 (w.heap.size + 1) 32 #[.int .i64 0, .int .i64 0] := (Blk.at_ _ _ _ (by simp)).below (Nat.le_refl _) hb1; have k0 := q0.cell 0 rfl; have f0 := q0.frozen 0; have k1 := q0.cell 1 rfl; have f1 := q0.frozen 1; have k2 := q1.cell 0 rfl; have f2 := q1.frozen 0; have k3 := q1.cell 1 rfl; have f3 := q1.frozen 1; have hz0 := q0.lt; have hz1 := q1.lt; clear q0 q1 hb1 hc1 hf1) | (go_at_call 37; refine (in_any _ _ _ _).mono ?_; rintro e w2 ⟨rfl, rfl⟩))
    exact bodyPost_ret (v := .agg #[.int .i64 0, .int .i64 0]) (by simp [results, Try.results35, go_sem, *]) rfl ⟨rfl, by go_grown⟩
  · have h0 : inB n 0 7 = false := by simpa [hl] using h
    clear h
    go_enter Try.func35, Try.ntmps35
    go_wp2_with (first | (go_at_call 17; refine (iLinesValid_any _ _ _).mono ?_; rintro e w1 ⟨rfl, hb1⟩; obtain ⟨hc1, hf1⟩ := bcell hb1; have hB1 : Below w.heap.size w w1 := Below.andThen (by go_grown) hb1; have hS1 := hb1.size; have q0 : Blk w1 w.heap.size 32 #[.int .i64 r, .int .i64 m] := ((Blk.new _ _ _).alloc _).below (Nat.le_refl _) hb1; have q1 : Blk w1 (w.heap.size + 1) 32 #[.int .i64 0, .int .i64 0] := (Blk.at_ _ _ _ (by simp)).below (Nat.le_refl _) hb1; have k0 := q0.cell 0 rfl; have f0 := q0.frozen 0; have k1 := q0.cell 1 rfl; have f1 := q0.frozen 1; have k2 := q1.cell 0 rfl; have f2 := q1.frozen 0; have k3 := q1.cell 1 rfl; have f3 := q1.frozen 1; have hz0 := q0.lt; have hz1 := q1.lt; clear q0 q1 hb1 hc1 hf1) | (go_at_call 37; refine (in_any _ _ _ _).mono ?_; rintro e w2 ⟨rfl, rfl⟩))
    exact bodyPost_ret (v := .agg #[.int .i64 0, .int .i64 0]) (by simp [results, Try.results35, go_sem, *]) rfl ⟨rfl, by go_grown⟩
end Go.Proofs.Ytihdggdajeekgaa
