/-
  The walk of FnExactFlowDirect: the law returns true.
  Conditions: none.
-/
import Derived.Test.YtelfabidehhfoaaFlow
import Derived.Deep.RegionHeld3
namespace Go.Proofs.Ytelfabidehhfoaa
open Go.ChangeShapes Go.WideShapes Go.ChangeAt Go.RowKit Go.Joins
set_option linter.unusedVariables false
set_option maxRecDepth 100000 in
set_option maxHeartbeats 4000000 in
theorem lawFlowDirect_walk (W : World) (A : Option Addr) (n c : Nat) (zs : List (Int × Int × Int × Int)) (hn : zs.length = n) (hm : n ≤ maxLen) (hr : Rd W 4 A n (chans zs)) (parts : Int) (p : Int) (q : Int)  :
    Calls Try.prog 10 #[.slice A n c, .int .i64 parts, .int .i64 p, .int .i64 q] W fun e w' => e = .returned (.bool true) ∧ Below W.heap.size W w' := by
  unfold maxLen at hm
  subst hn
  by_cases hz0 : 1048576 < zs.length
  · skip
    go_enter Try.func10, Try.ntmps10
    have hB0 : Below W.heap.size W W := Below.refl _ _
    go_wp2_with fail
    refine (szChannelS_any _ _ _ (1048576) _ (by omega) (by omega) (by omega)).mono ?_
    rw [if_neg (by omega)]
    rintro e w1 ⟨rfl, hb1⟩
    have hT1 : Below W.heap.size W w1 := Below.andThen (by go_grown) hb1
    have hS1 := hT1.size
    have hB1 : Below W.heap.size W w1 := Below.andThen hB0 hT1
    have hSb1 := hb1.size
    try simp only [World.size_alloc] at hSb1
    clear hb1
    go_wp2_with fail
    go_returns
    exact ⟨rfl, by first | exact hB1 | go_grown⟩
  go_enter Try.func10, Try.ntmps10
  have hB0 : Below W.heap.size W W := Below.refl _ _
  go_wp2_with fail
  refine (szChannelS_any _ _ _ (1048576) _ (by omega) (by omega) (by omega)).mono ?_
  rw [if_pos (by omega)]
  rintro e w1 ⟨rfl, hb1⟩
  have hT1 : Below W.heap.size W w1 := Below.andThen (by go_grown) hb1
  have hS1 := hT1.size
  have hB1 : Below W.heap.size W w1 := Below.andThen hB0 hT1
  have hSb1 := hb1.size
  try simp only [World.size_alloc] at hSb1
  clear hb1
  go_wp2_with fail
  refine (toChannelS_any A zs.length c zs _ (by omega) (hr.below (Nat.le_refl _) (by first | exact hB1 | go_grown))).mono ?_
  rintro e w2 ⟨rfl, ha0, hb2⟩
  have hT2 : Below w1.heap.size w1 w2 := Below.andThen (by go_grown) hb2
  have hS2 := hT2.size
  have hB2 : Below W.heap.size W w2 := Below.andThen hB1 hT2
  have hSb2 := hb2.size
  try simp only [World.size_alloc] at hSb2
  clear hb2
  have ha0 := Fr.of_own ha0
  try simp only [World.size_alloc] at ha0
  go_wp2_with fail
  refine (sFlowDirect_any _ _ _ zs parts p q _ (by omega) (by first | exact ha0.rd | exact (ha0.rd).alloc _ | exact ((ha0.rd).alloc _).alloc _ | exact (((ha0.rd).alloc _).alloc _).alloc _)).mono ?_
  rintro e w3 ⟨rfl, hb3⟩
  have hT3 : Below w2.heap.size w2 w3 := Below.andThen (by go_grown) hb3
  have hS3 := hT3.size
  have hB3 : Below W.heap.size W w3 := Below.andThen hB2 hT3
  have ha0 := ha0.below (Nat.le_refl _) hT3
  have hSb3 := hb3.size
  try simp only [World.size_alloc] at hSb3
  clear hb3
  clear ha0
  go_wp2_with fail
  refine (toChannelS_any A zs.length c zs _ (by omega) (hr.below (Nat.le_refl _) (by first | exact hB3 | go_grown))).mono ?_
  rintro e w4 ⟨rfl, hx0, hb4⟩
  have hT4 : Below w3.heap.size w3 w4 := Below.andThen (by go_grown) hb4
  have hS4 := hT4.size
  have hB4 : Below W.heap.size W w4 := Below.andThen hB3 hT4
  have hSb4 := hb4.size
  try simp only [World.size_alloc] at hSb4
  clear hb4
  have hx0 := Fr.of_own hx0
  try simp only [World.size_alloc] at hx0
  go_wp2_with fail
  refine (iFlowDirect_any _ _ _ zs parts p q _ (by omega) (by first | exact hx0.rd | exact (hx0.rd).alloc _ | exact ((hx0.rd).alloc _).alloc _ | exact (((hx0.rd).alloc _).alloc _).alloc _)).mono ?_
  rintro e w5 ⟨rfl, hb5⟩
  have hT5 : Below w4.heap.size w4 w5 := Below.andThen (by go_grown) hb5
  have hS5 := hT5.size
  have hB5 : Below W.heap.size W w5 := Below.andThen hB4 hT5
  have hx0 := hx0.below (Nat.le_refl _) hT5
  have hSb5 := hb5.size
  try simp only [World.size_alloc] at hSb5
  clear hb5
  go_wp2_with fail
  refine (toChannelS_any A zs.length c zs _ (by omega) (hr.below (Nat.le_refl _) (by first | exact hB5 | go_grown))).mono ?_
  rintro e w6 ⟨rfl, hy0, hb6⟩
  have hT6 : Below w5.heap.size w5 w6 := Below.andThen (by go_grown) hb6
  have hS6 := hT6.size
  have hB6 : Below W.heap.size W w6 := Below.andThen hB5 hT6
  have hx0 := hx0.below (Nat.le_refl _) hT6
  have hSb6 := hb6.size
  try simp only [World.size_alloc] at hSb6
  clear hb6
  have hy0 := Fr.of_own hy0
  try simp only [World.size_alloc] at hy0
  go_wp2_with fail
  refine (eqChannelS_same _ _ _ _ _ zs _ (by omega) (by first | exact hx0.rd | exact (hx0.rd).alloc _ | exact ((hx0.rd).alloc _).alloc _ | exact (((hx0.rd).alloc _).alloc _).alloc _) (by first | exact hy0.rd | exact (hy0.rd).alloc _ | exact ((hy0.rd).alloc _).alloc _ | exact (((hy0.rd).alloc _).alloc _).alloc _)).mono ?_
  rintro e w7 ⟨rfl, hb7⟩
  have hT7 : Below w6.heap.size w6 w7 := Below.andThen (by go_grown) hb7
  have hS7 := hT7.size
  have hB7 : Below W.heap.size W w7 := Below.andThen hB6 hT7
  have hx0 := hx0.below (Nat.le_refl _) hT7
  have hy0 := hy0.below (Nat.le_refl _) hT7
  have hSb7 := hb7.size
  try simp only [World.size_alloc] at hSb7
  clear hb7
  clear hy0
  go_wp2_with fail
  go_returns
  exact ⟨rfl, by first | exact hB7 | go_grown⟩
end Go.Proofs.Ytelfabidehhfoaa
