/-
  CONTRACTS of NewAudit.
  Conditions: none.
-/
import Derived.Test.YtfdcneijcckolaaAudit
namespace Go.Proofs.Ytfdcneijcckolaa
open Go.ChangeShapes Go.WideShapes Go.ChangeAt Go.RowKit Go.Joins
set_option linter.unusedVariables false
set_option maxHeartbeats 1000000 in
theorem sNewAudit_any (key : Int) (w : World) : Calls Try.prog 23 #[.int .i64 key] w (fun e w' => RetAudit w (if inB key 0 1048572 = true then key else 0) (if inB key 0 1048572 = true then key else 0) [] e w') := by
  cases hk : inB key 0 1048572
  · rw [if_neg (by simp)]
    go_enter Try.func23, Try.ntmps23
    go_wp2_with (go_at_call 53; refine (l1In_is hk _).mono ?_; rintro e w1 ⟨rfl, rfl⟩)
    go_returns
    exact ⟨none, 0, rfl, Fr.nil_, fun _ => ⟨rfl, rfl⟩, by go_grown⟩
  · rw [if_pos rfl]
    go_enter Try.func23, Try.ntmps23
    go_wp2_with (go_at_call 53; refine (l1In_is hk _).mono ?_; rintro e w1 ⟨rfl, rfl⟩)
    go_returns
    exact ⟨none, 0, rfl, Fr.nil_, fun _ => ⟨rfl, rfl⟩, by go_grown⟩
set_option maxHeartbeats 1000000 in
theorem iNewAudit_any (key : Int) (w : World) : Calls Try.prog 24 #[.int .i64 key] w (fun e w' => RetAudit w (if inB key 0 1048572 = true then key else 0) (if inB key 0 1048572 = true then key else 0) [] e w') := by
  cases hk : inB key 0 1048572
  · rw [if_neg (by simp)]
    go_enter Try.func24, Try.ntmps24
    go_wp2_with (go_at_call 54; refine (isKey_is hk _).mono ?_; rintro e w1 ⟨rfl, rfl⟩)
    go_returns
    exact ⟨none, 0, rfl, Fr.nil_, fun _ => ⟨rfl, rfl⟩, by go_grown⟩
  · rw [if_pos rfl]
    go_enter Try.func24, Try.ntmps24
    go_wp2_with (go_at_call 54; refine (isKey_is hk _).mono ?_; rintro e w1 ⟨rfl, rfl⟩)
    go_returns
    exact ⟨none, 0, rfl, Fr.nil_, fun _ => ⟨rfl, rfl⟩, by go_grown⟩
end Go.Proofs.Ytfdcneijcckolaa
