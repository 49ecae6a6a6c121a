/-
  CONTRACTS of the functions on interrupt lines, transfers, orders.
  Conditions: none beyond those that each states.
-/
import Derived.Test.YtihdggdajeekgaaMarks
import Derived.Laws.BitsLemmas
namespace Go.Proofs.Ytihdggdajeekgaa
open Go.ChangeShapes Go.WideShapes Go.ChangeAt Go.RowKit Go.Joins

def linesValid (r m : Int) : Bool := inB r 0 255 && inB m 0 255
def transferValid (p c : Int) : Bool := inB c 1 64 && inB p 0 (4096 - c)
def orderNumber (o a b : Int) : Int := if inB o 0 15 && inB a 0 255 && inB b 0 255 then o + 16 * (a + 256 * b) else -1

theorem ofInt_wrap64 (x : BitVec 64) : BitVec.ofInt 64 (IntKind.i64.wrap (x.toNat : Int)) = x := by
  apply BitVec.eq_of_toNat_eq
  rw [IntKind.wrap_i64, BitVec.toNat_ofInt]
  have := x.isLt
  omega
theorem or_andNot (m s : Int) : bits .or .i64 (bits .andNot .i64 m s) s = bits .or .i64 m s := by
  show IntKind.i64.wrap ((BitVec.ofInt 64 (IntKind.i64.wrap ((BitVec.ofInt 64 m &&& ~~~BitVec.ofInt 64 s).toNat : Int)) ||| BitVec.ofInt 64 s).toNat : Int) = IntKind.i64.wrap ((BitVec.ofInt 64 m ||| BitVec.ofInt 64 s).toNat : Int)
  rw [ofInt_wrap64]
  congr 3
  ext i hi
  simp only [BitVec.getElem_or, BitVec.getElem_and, BitVec.getElem_not]
  cases (BitVec.ofInt 64 m)[i] <;> cases (BitVec.ofInt 64 s)[i] <;> rfl

set_option maxHeartbeats 400000 in
theorem sLinesValid_any (r m : Int) (w : World) : Calls Try.prog 15 #[.agg #[.int .i64 r, .int .i64 m]] w fun e w' => e = .returned (.bool (linesValid r m)) ∧ Below w.heap.size w w' := by
  unfold linesValid
  cases hi : inB r 0 255
  all_goals
    go_enter Try.func15, Try.ntmps15
    go_wp2_with (go_at_call 36; refine (l1In_any _ _ _ _).mono ?_; rintro e w1 ⟨rfl, rfl⟩)
    go_returns
    exact ⟨by simp, by go_grown⟩
set_option maxHeartbeats 400000 in
theorem iLinesValid_any (r m : Int) (w : World) : Calls Try.prog 17 #[.agg #[.int .i64 r, .int .i64 m]] w fun e w' => e = .returned (.bool (linesValid r m)) ∧ Below w.heap.size w w' := by
  unfold linesValid
  cases hi : inB r 0 255
  all_goals
    go_enter Try.func17, Try.ntmps17
    go_wp2_with (go_at_call 37; refine (in_any _ _ _ _).mono ?_; rintro e w1 ⟨rfl, rfl⟩)
    go_returns
    exact ⟨by simp, by go_grown⟩
set_option maxHeartbeats 400000 in
theorem eqLines_same (r m : Int) (w : World) : Calls Try.prog 29 #[.agg #[.int .i64 r, .int .i64 m], .agg #[.int .i64 r, .int .i64 m]] w fun e w' => e = .returned (.bool true) ∧ Below w.heap.size w w' := by
  go_enter Try.func29, Try.ntmps29
  go_wp2
  go_returns
  exact ⟨rfl, by go_grown⟩
set_option maxHeartbeats 400000 in
theorem sTransferValid_any (p c : Int) (b : Bool) (w : World) : Calls Try.prog 18 #[.agg #[.int .i64 p, .int .i64 c, .bool b]] w fun e w' => e = .returned (.bool (transferValid p c)) ∧ Below w.heap.size w w' := by
  unfold transferValid
  cases hi : inB c 1 64
  · go_enter Try.func18, Try.ntmps18
    go_wp2_with (go_at_call 36; refine (l1In_any _ _ _ _).mono ?_; rintro e w1 ⟨rfl, rfl⟩)
    go_returns
    exact ⟨by simp, by go_grown⟩
  · obtain ⟨h1, h2⟩ := inB_true.1 hi
    go_enter Try.func18, Try.ntmps18
    go_wp2_with (go_at_call 36; refine (l1In_any _ _ _ _).mono ?_; rintro e w1 ⟨rfl, rfl⟩)
    go_returns
    exact ⟨by simp, by go_grown⟩
set_option maxHeartbeats 400000 in
theorem iTransferValid_any (p c : Int) (b : Bool) (w : World) : Calls Try.prog 20 #[.agg #[.int .i64 p, .int .i64 c, .bool b]] w fun e w' => e = .returned (.bool (transferValid p c)) ∧ Below w.heap.size w w' := by
  unfold transferValid
  cases hi : inB c 1 64
  · go_enter Try.func20, Try.ntmps20
    go_wp2_with (go_at_call 37; refine (in_any _ _ _ _).mono ?_; rintro e w1 ⟨rfl, rfl⟩)
    go_returns
    exact ⟨by simp, by go_grown⟩
  · obtain ⟨h1, h2⟩ := inB_true.1 hi
    go_enter Try.func20, Try.ntmps20
    go_wp2_with (go_at_call 37; refine (in_any _ _ _ _).mono ?_; rintro e w1 ⟨rfl, rfl⟩)
    go_returns
    exact ⟨by simp, by go_grown⟩
set_option maxHeartbeats 1000000 in
theorem sOrderNumber_any (o a b : Int) (w : World) : Calls Try.prog 21 #[.agg #[.int .i64 o, .int .i64 a, .int .i64 b]] w fun e w' => e = .returned (.int .i64 (orderNumber o a b)) ∧ Below w.heap.size w w' := by
  unfold orderNumber
  cases ho : inB o 0 15 <;> cases ha : inB a 0 255 <;> cases hb : inB b 0 255
  case true.true.true =>
    obtain ⟨h1, h2⟩ := inB_true.1 ho
    obtain ⟨h3, h4⟩ := inB_true.1 ha
    obtain ⟨h5, h6⟩ := inB_true.1 hb
    go_enter Try.func21, Try.ntmps21
    go_wp2_with (go_at_call 36; refine (l1In_any _ _ _ _).mono ?_; rintro e w1 ⟨rfl, rfl⟩)
    all_goals first | (go_returns; exact ⟨by simp, by go_grown⟩) | (go_quiet (fail); go_wp2; go_returns; exact ⟨by simp, below_drewN (by go_grown) _⟩)
  all_goals
    go_enter Try.func21, Try.ntmps21
    go_wp2_with (go_at_call 36; refine (l1In_any _ _ _ _).mono ?_; rintro e w1 ⟨rfl, rfl⟩)
    all_goals first | (go_returns; exact ⟨by simp, by go_grown⟩) | (go_quiet (fail); go_wp2; go_returns; exact ⟨by simp, below_drewN (by go_grown) _⟩)
set_option maxHeartbeats 1000000 in
theorem iOrderNumber_any (o a b : Int) (w : World) : Calls Try.prog 23 #[.agg #[.int .i64 o, .int .i64 a, .int .i64 b]] w fun e w' => e = .returned (.int .i64 (orderNumber o a b)) ∧ Below w.heap.size w w' := by
  unfold orderNumber
  cases ho : inB o 0 15 <;> cases ha : inB a 0 255 <;> cases hb : inB b 0 255
  case true.true.true =>
    obtain ⟨h1, h2⟩ := inB_true.1 ho
    obtain ⟨h3, h4⟩ := inB_true.1 ha
    obtain ⟨h5, h6⟩ := inB_true.1 hb
    go_enter Try.func23, Try.ntmps23
    go_wp2_with (go_at_call 37; refine (in_any _ _ _ _).mono ?_; rintro e w1 ⟨rfl, rfl⟩)
    all_goals first | (go_returns; exact ⟨by simp, by go_grown⟩) | (go_quiet (fail); go_wp2; go_returns; exact ⟨by simp, below_drewN (by go_grown) _⟩)
  all_goals
    go_enter Try.func23, Try.ntmps23
    go_wp2_with (go_at_call 37; refine (in_any _ _ _ _).mono ?_; rintro e w1 ⟨rfl, rfl⟩)
    all_goals first | (go_returns; exact ⟨by simp, by go_grown⟩) | (go_quiet (fail); go_wp2; go_returns; exact ⟨by simp, below_drewN (by go_grown) _⟩)
set_option maxHeartbeats 400000 in
theorem eqOrder_same (o a b : Int) (w : World) : Calls Try.prog 26 #[.agg #[.int .i64 o, .int .i64 a, .int .i64 b], .agg #[.int .i64 o, .int .i64 a, .int .i64 b]] w fun e w' => e = .returned (.bool true) ∧ Below w.heap.size w w' := by
  go_enter Try.func26, Try.ntmps26
  go_wp2
  go_returns
  exact ⟨rfl, by go_grown⟩
end Go.Proofs.Ytihdggdajeekgaa
