/-
  The walk of FnExactTransferValid: the law returns true.
  Conditions: none.
-/
import Derived.Test.YtihdggdajeekgaaLines
namespace Go.Proofs.Ytihdggdajeekgaa
open Go.ChangeShapes Go.WideShapes Go.ChangeAt Go.RowKit Go.Joins
set_option maxHeartbeats 1000000 in
theorem lawTransferValid_walk (W : World) (p c : Int) (b : Bool) : Calls Try.prog 6 #[.agg #[.int .i64 p, .int .i64 c, .bool b]] W fun e w' => e = .returned (.bool true) ∧ Below W.heap.size W w' := by
  go_enter Try.func6, Try.ntmps6
  go_wp2_with (first
    | (go_at_call 18; refine (sTransferValid_any _ _ _ _).mono ?_; rintro e w1 ⟨rfl, hb1⟩; have hB1 : Below W.heap.size W w1 := Below.andThen (by go_grown) hb1; have hS1 := hB1.size; obtain ⟨hc1, hf1⟩ := bcell hb1; clear hb1)
    | (go_at_call 20; refine (iTransferValid_any _ _ _ _).mono ?_; rintro e w2 ⟨rfl, hb2⟩; have hB2 : Below W.heap.size W w2 := Below.andThen (by go_grown) hb2; have hS2 := hB2.size; obtain ⟨hc2, hf2⟩ := bcell hb2; clear hb2)
    | go_in)
  go_returns
  exact ⟨rfl, by go_grown⟩
end Go.Proofs.Ytihdggdajeekgaa
