/-
  CONTRACTS of slices.Equal, Clip, Clone and the program's own clone at []int.
  Conditions: none beyond those that each states.
-/
import Derived.Test.YtpaknpjdamoibaaAppend
namespace Go.Proofs.Ytpaknpjdamoibaa
open Go.ChangeShapes Go.WideShapes Go.ChangeAt Go.RowKit Go.Joins
set_option linter.unusedVariables false

theorem below_of_grown {w w' : World} (h : w.grownBy w' none) : Below w.heap.size w w' := (Below.refl _ _).grown h (Nat.le_refl _) (fun k e => by cases e)
/-- what Clone gives back -/
def RetC (w : World) (n : Nat) (zs : List Int) (e : Ending) (w' : World) : Prop := ∃ v, e = .returned v ∧ w'.ownsRow w.heap.size 3 1 v n (ints zs) ∧ Below w.heap.size w w'
theorem ints_one (zs : List Int) : ∀ u ∈ ints zs, u.oneCell' = true := ints_oneCell _ _

set_option maxRecDepth 100000 in
set_option maxHeartbeats 400000 in
theorem ClipI_any (A : Option Addr) (n c : Nat) (w : World) (hn : n ≤ 1048577) (hc : n ≤ c) (hc2 : c ≤ maxLen) (hA : A = none → n = 0 ∧ c = 0) :
    Calls Try.prog 17 #[.slice A n c] w fun e w' => e = .returned (.slice A n n) ∧ w = w' := by
  unfold maxLen at hc2
  cases A with
  | none =>
    obtain ⟨rfl, rfl⟩ := hA rfl
    go_enter Try.func17, Try.ntmps17
    go_wp2
    go_ret
    exact ⟨rfl, rfl⟩
  | some a =>
    clear hA
    go_enter Try.func17, Try.ntmps17
    go_wp2
    go_ret
    exact ⟨rfl, rfl⟩
end Go.Proofs.Ytpaknpjdamoibaa
