/-
  The walk of FnExactLinesValid: the law returns true.
  Conditions: none.
-/
import Derived.Test.YtihdggdajeekgaaLines
namespace Go.Proofs.Ytihdggdajeekgaa
open Go.ChangeShapes Go.WideShapes Go.ChangeAt Go.RowKit Go.Joins
set_option maxHeartbeats 1000000 in
theorem lawLinesValid_walk (W : World) (r m : Int) : Calls Try.prog 5 #[.agg #[.int .i64 r, .int .i64 m]] W fun e w' => e = .returned (.bool true) ∧ Below W.heap.size W w' := by
  go_enter Try.func5, Try.ntmps5
  go_wp2_with (first
    | (go_at_call 15; refine (sLinesValid_any _ _ _).mono ?_; rintro e w1 ⟨rfl, hb1⟩; have hB1 : Below W.heap.size W w1 := Below.andThen (by go_grown) hb1; have hS1 := hB1.size; obtain ⟨hc1, hf1⟩ := bcell hb1; clear hb1)
    | (go_at_call 17; refine (iLinesValid_any _ _ _).mono ?_; rintro e w2 ⟨rfl, hb2⟩; have hB2 : Below W.heap.size W w2 := Below.andThen (by go_grown) hb2; have hS2 := hB2.size; obtain ⟨hc2, hf2⟩ := bcell hb2; clear hb2)
    | go_in)
  go_returns
  exact ⟨rfl, by go_grown⟩
end Go.Proofs.Ytihdggdajeekgaa
