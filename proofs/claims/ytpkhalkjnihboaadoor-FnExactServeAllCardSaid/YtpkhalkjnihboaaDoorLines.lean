/-
  CONTRACTS of the functions on interrupt lines, transfers, orders.
  Conditions: none beyond those that each states.
-/
import Derived.Test.YtpkhalkjnihboaaDoorMarks
import Derived.Laws.BitsLemmas
namespace Go.Proofs.YtpkhalkjnihboaaDoor
open Go.ChangeShapes Go.WideShapes Go.ChangeAt Go.RowKit Go.Joins
set_option linter.unusedVariables false

def linesValid (r m : Int) : Bool := inB r 0 255 && inB m 0 255
def transferValid (p c : Int) : Bool := inB c 1 64 && inB p 0 (4096 - c)
def orderNumber (o a b : Int) : Int := if inB o 0 15 && inB a 0 255 && inB b 0 255 then o + 16 * (a + 256 * b) else -1

theorem ofInt_wrap64 (x : BitVec 64) : BitVec.ofInt 64 (IntKind.i64.wrap (x.toNat : Int)) = x := by
  apply BitVec.eq_of_toNat_eq
  rw [IntKind.wrap_i64, BitVec.toNat_ofInt]
  have := x.isLt
  omega
theorem or_andNot (m s : Int) : bits .or .i64 (bits .andNot .i64 m s) s = bits .or .i64 m s := by
  show IntKind.i64.wrap ((BitVec.ofInt 64 (IntKind.i64.wrap ((BitVec.ofInt 64 m &&& ~~~BitVec.ofInt 64 s).toNat : Int)) ||| BitVec.ofInt 64 s).toNat : Int) = IntKind.i64.wrap ((BitVec.ofInt 64 m ||| BitVec.ofInt 64 s).toNat : Int)
  rw [ofInt_wrap64]
  congr 3
  ext i hi
  simp only [BitVec.getElem_or, BitVec.getElem_and, BitVec.getElem_not]
  cases (BitVec.ofInt 64 m)[i] <;> cases (BitVec.ofInt 64 s)[i] <;> rfl

set_option maxRecDepth 100000 in
set_option maxHeartbeats 400000 in
theorem sLinesValid_any (r m : Int) (w : World) : Calls Tryd.prog 17 #[.agg #[.int .i64 r, .int .i64 m]] w fun e w' => e = .returned (.bool (linesValid r m)) ∧ Below w.heap.size w w' := by
  unfold linesValid
  cases hi : inB r 0 255
  all_goals
    go_enter Tryd.func17, Tryd.ntmps17
    go_wp2_with (go_at_call 21; refine (l1In_any _ _ _ _).mono ?_; rintro e w1 ⟨rfl, rfl⟩)
    go_returns
    exact ⟨by simp, by go_grown⟩
set_option maxRecDepth 100000 in
set_option maxHeartbeats 400000 in
theorem iLinesValid_any (r m : Int) (w : World) : Calls Tryd.prog 18 #[.agg #[.int .i64 r, .int .i64 m]] w fun e w' => e = .returned (.bool (linesValid r m)) ∧ Below w.heap.size w w' := by
  unfold linesValid
  cases hi : inB r 0 255
  all_goals
    go_enter Tryd.func18, Tryd.ntmps18
    go_wp2_with (go_at_call 22; refine (in_any _ _ _ _).mono ?_; rintro e w1 ⟨rfl, rfl⟩)
    go_returns
    exact ⟨by simp, by go_grown⟩
set_option maxRecDepth 100000 in
set_option maxHeartbeats 400000 in
theorem eqLines_same (r m : Int) (w : World) : Calls Tryd.prog 11 #[.agg #[.int .i64 r, .int .i64 m], .agg #[.int .i64 r, .int .i64 m]] w fun e w' => e = .returned (.bool true) ∧ Below w.heap.size w w' := by
  go_enter Tryd.func11, Tryd.ntmps11
  go_wp2
  go_returns
  exact ⟨rfl, by go_grown⟩
end Go.Proofs.YtpkhalkjnihboaaDoor
