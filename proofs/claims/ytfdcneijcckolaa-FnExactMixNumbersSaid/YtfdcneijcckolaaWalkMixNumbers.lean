/-
  The walk of FnExactMixNumbers: the law returns true.
  Conditions: none.
-/
import Derived.Test.YtfdcneijcckolaaMix
namespace Go.Proofs.Ytfdcneijcckolaa
open Go.ChangeShapes Go.WideShapes Go.ChangeAt Go.RowKit Go.Joins
set_option linter.unusedVariables false
set_option maxHeartbeats 2000000 in
theorem lawMixNumbers_walk (W : World) (key : Int) (A : Option Addr) (n c : Nat) (zs : List Int) (hn : zs.length = n) (hm : n ≤ maxLen) (hr : Rd W 1 A n (ints zs))  :
    Calls Try.prog 3 #[.int .i64 key, .slice A n c] W fun e w' => e = .returned (.bool true) ∧ Below W.heap.size W w' := by
  unfold maxLen at hm
  have HN := Lib.hid hn
  clear hn
  by_cases hbig0 : 1048576 < n
  · go_enter Try.func3, Try.ntmps3
    go_wp2
    go_returns
    exact ⟨rfl, by go_grown⟩
  cases hk : inB key 0 1048572
  · skip
    go_enter Try.func3, Try.ntmps3
    have hB0 : Below W.heap.size W W := Below.refl _ _
    go_wp2_with fail
    refine (toIntS_any A n _ zs _ (by omega) (hr.below (Nat.le_refl _) (by first | exact hB0 | go_grown))).mono ?_
    rintro e w1 ⟨rfl, hf0, hb1⟩
    have hT1 : Below W.heap.size W w1 := Below.andThen (by go_grown) hb1
    have hS1 := hT1.size
    have hB1 : Below W.heap.size W w1 := Below.andThen hB0 hT1
    have hSb1 := hb1.size
    try simp only [World.size_alloc] at hSb1
    clear hb1
    have hf0 := Fr.of_own hf0
    go_wp2_with fail
    refine (sMix_no key _ _ _ _ hk).mono ?_
    rintro e w2 ⟨rfl, hb2⟩
    have hT2 : Below w1.heap.size w1 w2 := Below.andThen (by go_grown) hb2
    have hS2 := hT2.size
    have hB2 : Below W.heap.size W w2 := Below.andThen hB1 hT2
    have hf0 := hf0.below (Nat.le_refl _) hT2
    have hSb2 := hb2.size
    try simp only [World.size_alloc] at hSb2
    clear hb2
    go_wp2_with fail
    refine (toIntS_any A n _ zs _ (by omega) (hr.below (Nat.le_refl _) (by first | exact hB2 | go_grown))).mono ?_
    rintro e w3 ⟨rfl, hf1, hb3⟩
    have hT3 : Below w2.heap.size w2 w3 := Below.andThen (by go_grown) hb3
    have hS3 := hT3.size
    have hB3 : Below W.heap.size W w3 := Below.andThen hB2 hT3
    have hf0 := hf0.below (Nat.le_refl _) hT3
    have hSb3 := hb3.size
    try simp only [World.size_alloc] at hSb3
    clear hb3
    have hf1 := Fr.of_own hf1
    go_wp2_with fail
    refine (iMix_no key _ _ _ _ hk).mono ?_
    rintro e w4 ⟨rfl, hb4⟩
    have hT4 : Below w3.heap.size w3 w4 := Below.andThen (by go_grown) hb4
    have hS4 := hT4.size
    have hB4 : Below W.heap.size W w4 := Below.andThen hB3 hT4
    have hf0 := hf0.below (Nat.le_refl _) hT4
    have hf1 := hf1.below (Nat.le_refl _) hT4
    have hSb4 := hb4.size
    try simp only [World.size_alloc] at hSb4
    clear hb4
    go_wp2_with fail
    refine (toIntS_any A n _ zs _ (by omega) (hr.below (Nat.le_refl _) (by first | exact hB4 | go_grown))).mono ?_
    rintro e w5 ⟨rfl, hf2, hb5⟩
    have hT5 : Below w4.heap.size w4 w5 := Below.andThen (by go_grown) hb5
    have hS5 := hT5.size
    have hB5 : Below W.heap.size W w5 := Below.andThen hB4 hT5
    have hf0 := hf0.below (Nat.le_refl _) hT5
    have hf1 := hf1.below (Nat.le_refl _) hT5
    have hSb5 := hb5.size
    try simp only [World.size_alloc] at hSb5
    clear hb5
    have hf2 := Fr.of_own hf2
    go_wp2_with fail
    refine (eqIntS_any _ _ _ _ _ _ (zs) (zs) _ (by omega) hf1.rd hf2.rd).mono ?_
    simp only [decide_true]
    rintro e w6 ⟨rfl, hb6⟩
    have hT6 : Below w5.heap.size w5 w6 := Below.andThen (by go_grown) hb6
    have hS6 := hT6.size
    have hB6 : Below W.heap.size W w6 := Below.andThen hB5 hT6
    have hf0 := hf0.below (Nat.le_refl _) hT6
    have hf1 := hf1.below (Nat.le_refl _) hT6
    have hf2 := hf2.below (Nat.le_refl _) hT6
    have hSb6 := hb6.size
    try simp only [World.size_alloc] at hSb6
    clear hb6
    go_wp2_with fail
    go_returns
    exact ⟨rfl, by first | exact hB6 | go_grown⟩
  · skip
    go_enter Try.func3, Try.ntmps3
    have hB0 : Below W.heap.size W W := Below.refl _ _
    go_wp2_with fail
    refine (toIntS_any A n _ zs _ (by omega) (hr.below (Nat.le_refl _) (by first | exact hB0 | go_grown))).mono ?_
    rintro e w1 ⟨rfl, hf0, hb1⟩
    have hT1 : Below W.heap.size W w1 := Below.andThen (by go_grown) hb1
    have hS1 := hT1.size
    have hB1 : Below W.heap.size W w1 := Below.andThen hB0 hT1
    have hSb1 := hb1.size
    try simp only [World.size_alloc] at hSb1
    clear hb1
    have hf0 := Fr.of_own hf0
    go_wp2_with fail
    refine (sMix_yes key _ _ _ zs _ (by omega) hk hf0.rd).mono ?_
    rintro e w2 ⟨rfl, hb2⟩
    have hT2 : Below w1.heap.size w1 w2 := Below.andThen (by go_grown) hb2
    have hS2 := hT2.size
    have hB2 : Below W.heap.size W w2 := Below.andThen hB1 hT2
    have hf0 := hf0.below (Nat.le_refl _) hT2
    have hSb2 := hb2.size
    try simp only [World.size_alloc] at hSb2
    clear hb2
    go_wp2_with fail
    refine (toIntS_any A n _ zs _ (by omega) (hr.below (Nat.le_refl _) (by first | exact hB2 | go_grown))).mono ?_
    rintro e w3 ⟨rfl, hf1, hb3⟩
    have hT3 : Below w2.heap.size w2 w3 := Below.andThen (by go_grown) hb3
    have hS3 := hT3.size
    have hB3 : Below W.heap.size W w3 := Below.andThen hB2 hT3
    have hf0 := hf0.below (Nat.le_refl _) hT3
    have hSb3 := hb3.size
    try simp only [World.size_alloc] at hSb3
    clear hb3
    have hf1 := Fr.of_own hf1
    go_wp2_with fail
    refine (iMix_yes key _ _ _ zs _ (by omega) hk hf1.rd).mono ?_
    rintro e w4 ⟨rfl, hb4⟩
    have hT4 : Below w3.heap.size w3 w4 := Below.andThen (by go_grown) hb4
    have hS4 := hT4.size
    have hB4 : Below W.heap.size W w4 := Below.andThen hB3 hT4
    have hf0 := hf0.below (Nat.le_refl _) hT4
    have hf1 := hf1.below (Nat.le_refl _) hT4
    have hSb4 := hb4.size
    try simp only [World.size_alloc] at hSb4
    clear hb4
    go_wp2_with fail
    refine (toIntS_any A n _ zs _ (by omega) (hr.below (Nat.le_refl _) (by first | exact hB4 | go_grown))).mono ?_
    rintro e w5 ⟨rfl, hf2, hb5⟩
    have hT5 : Below w4.heap.size w4 w5 := Below.andThen (by go_grown) hb5
    have hS5 := hT5.size
    have hB5 : Below W.heap.size W w5 := Below.andThen hB4 hT5
    have hf0 := hf0.below (Nat.le_refl _) hT5
    have hf1 := hf1.below (Nat.le_refl _) hT5
    have hSb5 := hb5.size
    try simp only [World.size_alloc] at hSb5
    clear hb5
    have hf2 := Fr.of_own hf2
    go_wp2_with fail
    refine (eqIntS_any _ _ _ _ _ _ (zs) (zs) _ (by omega) hf1.rd hf2.rd).mono ?_
    simp only [decide_true]
    rintro e w6 ⟨rfl, hb6⟩
    have hT6 : Below w5.heap.size w5 w6 := Below.andThen (by go_grown) hb6
    have hS6 := hT6.size
    have hB6 : Below W.heap.size W w6 := Below.andThen hB5 hT6
    have hf0 := hf0.below (Nat.le_refl _) hT6
    have hf1 := hf1.below (Nat.le_refl _) hT6
    have hf2 := hf2.below (Nat.le_refl _) hT6
    have hSb6 := hb6.size
    try simp only [World.size_alloc] at hSb6
    clear hb6
    go_wp2_with fail
    go_returns
    exact ⟨rfl, by first | exact hB6 | go_grown⟩
end Go.Proofs.Ytfdcneijcckolaa
