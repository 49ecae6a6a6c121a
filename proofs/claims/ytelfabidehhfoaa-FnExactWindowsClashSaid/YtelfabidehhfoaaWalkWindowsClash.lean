/-
  The walk of FnExactWindowsClash: the law returns true.
  Conditions: none.
-/
import Derived.Test.YtelfabidehhfoaaClash
import Derived.Deep.RegionHeld3
namespace Go.Proofs.Ytelfabidehhfoaa
open Go.ChangeShapes Go.WideShapes Go.ChangeAt Go.RowKit Go.Joins
set_option linter.unusedVariables false
set_option maxRecDepth 100000 in
set_option maxHeartbeats 4000000 in
theorem lawWindowsClash_walk (W : World) (Aa : Option Addr) (na ca : Nat) (zsa : List (Int × Int × Bool)) (hna : zsa.length = na) (hma : na ≤ maxLen) (hra : Rd W 3 Aa na (wins zsa)) (Ab : Option Addr) (nb cb : Nat) (zsb : List (Int × Int × Bool)) (hnb : zsb.length = nb) (hmb : nb ≤ maxLen) (hrb : Rd W 3 Ab nb (wins zsb))  :
    Calls Try.prog 5 #[.slice Aa na ca, .slice Ab nb cb] W fun e w' => e = .returned (.bool true) ∧ Below W.heap.size W w' := by
  unfold maxLen at hma
  subst hna
  unfold maxLen at hmb
  subst hnb
  by_cases hz0 : 1048576 < zsa.length
  · skip
    go_enter Try.func5, Try.ntmps5
    have hB0 : Below W.heap.size W W := Below.refl _ _
    go_wp2_with fail
    refine (szWindowS_any _ _ _ (1048576) _ (by omega) (by omega) (by omega)).mono ?_
    rw [if_neg (by omega)]
    rintro e w1 ⟨rfl, hb1⟩
    have hT1 : Below W.heap.size W w1 := Below.andThen (by go_grown) hb1
    have hS1 := hT1.size
    have hB1 : Below W.heap.size W w1 := Below.andThen hB0 hT1
    have hSb1 := hb1.size
    try simp only [World.size_alloc] at hSb1
    clear hb1
    go_wp2_with fail
    go_returns
    exact ⟨rfl, by first | exact hB1 | go_grown⟩
  by_cases hz1 : 1048576 < zsa.length + zsb.length
  · skip
    go_enter Try.func5, Try.ntmps5
    have hB0 : Below W.heap.size W W := Below.refl _ _
    go_wp2_with fail
    refine (szWindowS_any _ _ _ (1048576) _ (by omega) (by omega) (by omega)).mono ?_
    rw [if_pos (by omega)]
    rintro e w1 ⟨rfl, hb1⟩
    have hT1 : Below W.heap.size W w1 := Below.andThen (by go_grown) hb1
    have hS1 := hT1.size
    have hB1 : Below W.heap.size W w1 := Below.andThen hB0 hT1
    have hSb1 := hb1.size
    try simp only [World.size_alloc] at hSb1
    clear hb1
    go_wp2_with fail
    refine (szWindowS_any _ _ _ (1048576 - ((zsa.length : Nat) : Int)) _ (by omega) (by omega) (by omega)).mono ?_
    rw [if_neg (by omega)]
    rintro e w2 ⟨rfl, hb2⟩
    have hT2 : Below w1.heap.size w1 w2 := Below.andThen (by go_grown) hb2
    have hS2 := hT2.size
    have hB2 : Below W.heap.size W w2 := Below.andThen hB1 hT2
    have hSb2 := hb2.size
    try simp only [World.size_alloc] at hSb2
    clear hb2
    go_wp2_with fail
    go_returns
    exact ⟨rfl, by first | exact hB2 | go_grown⟩
  go_enter Try.func5, Try.ntmps5
  have hB0 : Below W.heap.size W W := Below.refl _ _
  go_wp2_with fail
  refine (szWindowS_any _ _ _ (1048576) _ (by omega) (by omega) (by omega)).mono ?_
  rw [if_pos (by omega)]
  rintro e w1 ⟨rfl, hb1⟩
  have hT1 : Below W.heap.size W w1 := Below.andThen (by go_grown) hb1
  have hS1 := hT1.size
  have hB1 : Below W.heap.size W w1 := Below.andThen hB0 hT1
  have hSb1 := hb1.size
  try simp only [World.size_alloc] at hSb1
  clear hb1
  go_wp2_with fail
  refine (szWindowS_any _ _ _ (1048576 - ((zsa.length : Nat) : Int)) _ (by omega) (by omega) (by omega)).mono ?_
  rw [if_pos (by omega)]
  rintro e w2 ⟨rfl, hb2⟩
  have hT2 : Below w1.heap.size w1 w2 := Below.andThen (by go_grown) hb2
  have hS2 := hT2.size
  have hB2 : Below W.heap.size W w2 := Below.andThen hB1 hT2
  have hSb2 := hb2.size
  try simp only [World.size_alloc] at hSb2
  clear hb2
  go_wp2_with fail
  refine (toWindowS_any Aa zsa.length ca zsa _ (by omega) (hra.below (Nat.le_refl _) (by first | exact hB2 | go_grown))).mono ?_
  rintro e w3 ⟨rfl, ha0, hb3⟩
  have hT3 : Below w2.heap.size w2 w3 := Below.andThen (by go_grown) hb3
  have hS3 := hT3.size
  have hB3 : Below W.heap.size W w3 := Below.andThen hB2 hT3
  have hSb3 := hb3.size
  try simp only [World.size_alloc] at hSb3
  clear hb3
  have ha0 := Fr.of_own ha0
  try simp only [World.size_alloc] at ha0
  go_wp2_with fail
  refine (toWindowS_any Ab zsb.length cb zsb _ (by omega) (hrb.below (Nat.le_refl _) (by first | exact hB3 | go_grown))).mono ?_
  rintro e w4 ⟨rfl, ha1, hb4⟩
  have hT4 : Below w3.heap.size w3 w4 := Below.andThen (by go_grown) hb4
  have hS4 := hT4.size
  have hB4 : Below W.heap.size W w4 := Below.andThen hB3 hT4
  have ha0 := ha0.below (Nat.le_refl _) hT4
  have hSb4 := hb4.size
  try simp only [World.size_alloc] at hSb4
  clear hb4
  have ha1 := Fr.of_own ha1
  try simp only [World.size_alloc] at ha1
  go_wp2_with fail
  refine (sWindowsClash_any _ _ _ zsa _ _ _ zsb _ (by omega) (by omega) (by first | exact ha0.rd | exact (ha0.rd).alloc _ | exact ((ha0.rd).alloc _).alloc _ | exact (((ha0.rd).alloc _).alloc _).alloc _) (by first | exact ha1.rd | exact (ha1.rd).alloc _ | exact ((ha1.rd).alloc _).alloc _ | exact (((ha1.rd).alloc _).alloc _).alloc _)).mono ?_
  rintro e w5 ⟨rfl, hb5⟩
  have hT5 : Below w4.heap.size w4 w5 := Below.andThen (by go_grown) hb5
  have hS5 := hT5.size
  have hB5 : Below W.heap.size W w5 := Below.andThen hB4 hT5
  have ha0 := ha0.below (Nat.le_refl _) hT5
  have ha1 := ha1.below (Nat.le_refl _) hT5
  have hSb5 := hb5.size
  try simp only [World.size_alloc] at hSb5
  clear hb5
  clear ha0
  clear ha1
  go_wp2_with fail
  refine (toWindowS_any Aa zsa.length ca zsa _ (by omega) (hra.below (Nat.le_refl _) (by first | exact hB5 | go_grown))).mono ?_
  rintro e w6 ⟨rfl, hx0, hb6⟩
  have hT6 : Below w5.heap.size w5 w6 := Below.andThen (by go_grown) hb6
  have hS6 := hT6.size
  have hB6 : Below W.heap.size W w6 := Below.andThen hB5 hT6
  have hSb6 := hb6.size
  try simp only [World.size_alloc] at hSb6
  clear hb6
  have hx0 := Fr.of_own hx0
  try simp only [World.size_alloc] at hx0
  go_wp2_with fail
  refine (toWindowS_any Ab zsb.length cb zsb _ (by omega) (hrb.below (Nat.le_refl _) (by first | exact hB6 | go_grown))).mono ?_
  rintro e w7 ⟨rfl, hx1, hb7⟩
  have hT7 : Below w6.heap.size w6 w7 := Below.andThen (by go_grown) hb7
  have hS7 := hT7.size
  have hB7 : Below W.heap.size W w7 := Below.andThen hB6 hT7
  have hx0 := hx0.below (Nat.le_refl _) hT7
  have hSb7 := hb7.size
  try simp only [World.size_alloc] at hSb7
  clear hb7
  have hx1 := Fr.of_own hx1
  try simp only [World.size_alloc] at hx1
  go_wp2_with fail
  refine (iWindowsClash_any _ _ _ zsa _ _ _ zsb _ (by omega) (by omega) (by first | exact hx0.rd | exact (hx0.rd).alloc _ | exact ((hx0.rd).alloc _).alloc _ | exact (((hx0.rd).alloc _).alloc _).alloc _) (by first | exact hx1.rd | exact (hx1.rd).alloc _ | exact ((hx1.rd).alloc _).alloc _ | exact (((hx1.rd).alloc _).alloc _).alloc _)).mono ?_
  rintro e w8 ⟨rfl, hb8⟩
  have hT8 : Below w7.heap.size w7 w8 := Below.andThen (by go_grown) hb8
  have hS8 := hT8.size
  have hB8 : Below W.heap.size W w8 := Below.andThen hB7 hT8
  have hx0 := hx0.below (Nat.le_refl _) hT8
  have hx1 := hx1.below (Nat.le_refl _) hT8
  have hSb8 := hb8.size
  try simp only [World.size_alloc] at hSb8
  clear hb8
  go_wp2_with fail
  refine (toWindowS_any Aa zsa.length ca zsa _ (by omega) (hra.below (Nat.le_refl _) (by first | exact hB8 | go_grown))).mono ?_
  rintro e w9 ⟨rfl, hy0, hb9⟩
  have hT9 : Below w8.heap.size w8 w9 := Below.andThen (by go_grown) hb9
  have hS9 := hT9.size
  have hB9 : Below W.heap.size W w9 := Below.andThen hB8 hT9
  have hx0 := hx0.below (Nat.le_refl _) hT9
  have hx1 := hx1.below (Nat.le_refl _) hT9
  have hSb9 := hb9.size
  try simp only [World.size_alloc] at hSb9
  clear hb9
  have hy0 := Fr.of_own hy0
  try simp only [World.size_alloc] at hy0
  go_wp2_with fail
  refine (eqWindowS_same _ _ _ _ _ zsa _ (by omega) (by first | exact hx0.rd | exact (hx0.rd).alloc _ | exact ((hx0.rd).alloc _).alloc _ | exact (((hx0.rd).alloc _).alloc _).alloc _) (by first | exact hy0.rd | exact (hy0.rd).alloc _ | exact ((hy0.rd).alloc _).alloc _ | exact (((hy0.rd).alloc _).alloc _).alloc _)).mono ?_
  rintro e w10 ⟨rfl, hb10⟩
  have hT10 : Below w9.heap.size w9 w10 := Below.andThen (by go_grown) hb10
  have hS10 := hT10.size
  have hB10 : Below W.heap.size W w10 := Below.andThen hB9 hT10
  have hx0 := hx0.below (Nat.le_refl _) hT10
  have hx1 := hx1.below (Nat.le_refl _) hT10
  have hy0 := hy0.below (Nat.le_refl _) hT10
  have hSb10 := hb10.size
  try simp only [World.size_alloc] at hSb10
  clear hb10
  clear hy0
  go_wp2_with fail
  refine (toWindowS_any Ab zsb.length cb zsb _ (by omega) (hrb.below (Nat.le_refl _) (by first | exact hB10 | go_grown))).mono ?_
  rintro e w11 ⟨rfl, hy1, hb11⟩
  have hT11 : Below w10.heap.size w10 w11 := Below.andThen (by go_grown) hb11
  have hS11 := hT11.size
  have hB11 : Below W.heap.size W w11 := Below.andThen hB10 hT11
  have hx0 := hx0.below (Nat.le_refl _) hT11
  have hx1 := hx1.below (Nat.le_refl _) hT11
  have hSb11 := hb11.size
  try simp only [World.size_alloc] at hSb11
  clear hb11
  have hy1 := Fr.of_own hy1
  try simp only [World.size_alloc] at hy1
  go_wp2_with fail
  refine (eqWindowS_same _ _ _ _ _ zsb _ (by omega) (by first | exact hx1.rd | exact (hx1.rd).alloc _ | exact ((hx1.rd).alloc _).alloc _ | exact (((hx1.rd).alloc _).alloc _).alloc _) (by first | exact hy1.rd | exact (hy1.rd).alloc _ | exact ((hy1.rd).alloc _).alloc _ | exact (((hy1.rd).alloc _).alloc _).alloc _)).mono ?_
  rintro e w12 ⟨rfl, hb12⟩
  have hT12 : Below w11.heap.size w11 w12 := Below.andThen (by go_grown) hb12
  have hS12 := hT12.size
  have hB12 : Below W.heap.size W w12 := Below.andThen hB11 hT12
  have hx0 := hx0.below (Nat.le_refl _) hT12
  have hx1 := hx1.below (Nat.le_refl _) hT12
  have hy1 := hy1.below (Nat.le_refl _) hT12
  have hSb12 := hb12.size
  try simp only [World.size_alloc] at hSb12
  clear hb12
  clear hy1
  go_wp2_with fail
  go_returns
  exact ⟨rfl, by first | exact hB12 | go_grown⟩
end Go.Proofs.Ytelfabidehhfoaa
