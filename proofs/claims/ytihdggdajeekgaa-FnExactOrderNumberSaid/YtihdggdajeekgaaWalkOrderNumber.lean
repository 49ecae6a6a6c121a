/-
  The walk of FnExactOrderNumber: the law returns true.
  Conditions: none.
-/
import Derived.Test.YtihdggdajeekgaaLines
namespace Go.Proofs.Ytihdggdajeekgaa
open Go.ChangeShapes Go.WideShapes Go.ChangeAt Go.RowKit Go.Joins
set_option maxHeartbeats 1000000 in
theorem lawOrderNumber_walk (W : World) (o a b : Int) : Calls Try.prog 7 #[.agg #[.int .i64 o, .int .i64 a, .int .i64 b]] W fun e w' => e = .returned (.bool true) ∧ Below W.heap.size W w' := by
  go_enter Try.func7, Try.ntmps7
  go_wp2_with (first
    | (go_at_call 21; refine (sOrderNumber_any _ _ _ _).mono ?_; rintro e w1 ⟨rfl, hb1⟩; have hB1 : Below W.heap.size W w1 := Below.andThen (by go_grown) hb1; have hS1 := hB1.size; obtain ⟨hc1, hf1⟩ := bcell hb1; clear hb1)
    | (go_at_call 23; refine (iOrderNumber_any _ _ _ _).mono ?_; rintro e w2 ⟨rfl, hb2⟩; have hB2 : Below W.heap.size W w2 := Below.andThen (by go_grown) hb2; have hS2 := hB2.size; obtain ⟨hc2, hf2⟩ := bcell hb2; clear hb2)
    | go_in)
  go_returns
  exact ⟨rfl, by go_grown⟩
end Go.Proofs.Ytihdggdajeekgaa
