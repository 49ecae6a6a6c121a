/-
  The walk of FnExactProgramChannels: the law returns true.
  Conditions: none.
-/
import Derived.Test.YtpaknpjdamoibaaChI
import Derived.Test.YtpaknpjdamoibaaMOrder
import Derived.Deep.RegionHeld3
namespace Go.Proofs.Ytpaknpjdamoibaa
open Go.ChangeShapes Go.WideShapes Go.ChangeAt Go.RowKit Go.Joins
set_option linter.unusedVariables false
set_option maxRecDepth 100000 in
set_option maxHeartbeats 4000000 in
theorem lawProgramChannels_walk (W : World) (A : Option Addr) (n c : Nat) (zs : List (Int × Int × Int)) (hn : zs.length = n) (hm : n ≤ maxLen) (hr : Rd W 3 A n (ords zs)) (cells : Int) (sends : Bool)  :
    Calls Try.prog 3 #[.slice A n c, .int .i64 cells, .bool sends] W fun e w' => e = .returned (.bool true) ∧ Below W.heap.size W w' := by
  unfold maxLen at hm
  subst hn
  by_cases hz0 : 1048576 < zs.length
  · skip
    go_enter Try.func3, Try.ntmps3
    have hB0 : Below W.heap.size W W := Below.refl _ _
    go_wp2_with fail
    refine (szOrderS_any _ _ _ (1048576) _ (by omega) (by omega) (by omega)).mono ?_
    rw [if_neg (by omega)]
    rintro e w1 ⟨rfl, hb1⟩
    have hT1 : Below W.heap.size W w1 := Below.andThen (by go_grown) hb1
    have hS1 := hT1.size
    have hB1 : Below W.heap.size W w1 := Below.andThen hB0 hT1
    have hSb1 := hb1.size
    try simp only [World.size_alloc] at hSb1
    clear hb1
    go_wp2_with fail
    go_returns
    exact ⟨rfl, by first | exact hB1 | go_grown⟩
  obtain ⟨R, hR⟩ : ∃ R : List Int, R = chRes zs cells sends := ⟨_, rfl⟩
  have HR := Lib.hid hR
  have hRl : R.length ≤ 1048576 := by rw [hR]; have := chRes_len zs cells sends; omega
  clear hR
  go_enter Try.func3, Try.ntmps3
  have hB0 : Below W.heap.size W W := Below.refl _ _
  go_wp2_with fail
  refine (szOrderS_any _ _ _ (1048576) _ (by omega) (by omega) (by omega)).mono ?_
  rw [if_pos (by omega)]
  rintro e w1 ⟨rfl, hb1⟩
  have hT1 : Below W.heap.size W w1 := Below.andThen (by go_grown) hb1
  have hS1 := hT1.size
  have hB1 : Below W.heap.size W w1 := Below.andThen hB0 hT1
  have hSb1 := hb1.size
  try simp only [World.size_alloc] at hSb1
  clear hb1
  go_wp2_with fail
  refine (toOrderS_any A zs.length c zs _ (by omega) (hr.below (Nat.le_refl _) (by first | exact hB1 | go_grown))).mono ?_
  rintro e w2 ⟨rfl, ha0, hb2⟩
  have hT2 : Below w1.heap.size w1 w2 := Below.andThen (by go_grown) hb2
  have hS2 := hT2.size
  have hB2 : Below W.heap.size W w2 := Below.andThen hB1 hT2
  have hSb2 := hb2.size
  try simp only [World.size_alloc] at hSb2
  clear hb2
  have ha0 := Fr.of_own ha0
  try simp only [World.size_alloc] at ha0
  go_wp2_with fail
  refine (sProgramChannels_any _ _ _ zs cells sends _ (by omega) (by first | exact ha0.rd | exact (ha0.rd).alloc _ | exact ((ha0.rd).alloc _).alloc _ | exact (((ha0.rd).alloc _).alloc _).alloc _)).mono ?_
  rw [← HR.out]
  rintro e w3 ⟨Ahw0, chw0, rfl, hw0, hb3⟩
  have hT3 : Below w2.heap.size w2 w3 := Below.andThen (by go_grown) hb3
  have hS3 := hT3.size
  have hB3 : Below W.heap.size W w3 := Below.andThen hB2 hT3
  have ha0 := ha0.below (Nat.le_refl _) hT3
  have hSb3 := hb3.size
  try simp only [World.size_alloc] at hSb3
  clear hb3
  try simp only [World.size_alloc] at hw0
  clear ha0
  go_wp2_with fail
  refine (toOrderS_any A zs.length c zs _ (by omega) (hr.below (Nat.le_refl _) (by first | exact hB3 | go_grown))).mono ?_
  rintro e w4 ⟨rfl, hx0, hb4⟩
  have hT4 : Below w3.heap.size w3 w4 := Below.andThen (by go_grown) hb4
  have hS4 := hT4.size
  have hB4 : Below W.heap.size W w4 := Below.andThen hB3 hT4
  have hw0 := hw0.below (Nat.le_refl _) hT4
  have hSb4 := hb4.size
  try simp only [World.size_alloc] at hSb4
  clear hb4
  have hx0 := Fr.of_own hx0
  try simp only [World.size_alloc] at hx0
  go_wp2_with fail
  refine (iProgramChannels_any _ _ _ zs cells sends _ (by omega) (by first | exact hx0.rd | exact (hx0.rd).alloc _ | exact ((hx0.rd).alloc _).alloc _ | exact (((hx0.rd).alloc _).alloc _).alloc _)).mono ?_
  rw [← HR.out]
  rintro e w5 ⟨Ahg0, chg0, rfl, hg0, hb5⟩
  have hT5 : Below w4.heap.size w4 w5 := Below.andThen (by go_grown) hb5
  have hS5 := hT5.size
  have hB5 : Below W.heap.size W w5 := Below.andThen hB4 hT5
  have hw0 := hw0.below (Nat.le_refl _) hT5
  have hx0 := hx0.below (Nat.le_refl _) hT5
  have hSb5 := hb5.size
  try simp only [World.size_alloc] at hSb5
  clear hb5
  try simp only [World.size_alloc] at hg0
  go_wp2_with fail
  refine (eqIntS_any _ _ _ _ _ _ (R) (R) _ (by omega) (by first | exact hg0.rd | exact (hg0.rd).alloc _ | exact ((hg0.rd).alloc _).alloc _ | exact (((hg0.rd).alloc _).alloc _).alloc _) (by first | exact hw0.rd | exact (hw0.rd).alloc _ | exact ((hw0.rd).alloc _).alloc _ | exact (((hw0.rd).alloc _).alloc _).alloc _)).mono ?_
  simp only [decide_true]
  rintro e w6 ⟨rfl, hb6⟩
  have hT6 : Below w5.heap.size w5 w6 := Below.andThen (by go_grown) hb6
  have hS6 := hT6.size
  have hB6 : Below W.heap.size W w6 := Below.andThen hB5 hT6
  have hw0 := hw0.below (Nat.le_refl _) hT6
  have hx0 := hx0.below (Nat.le_refl _) hT6
  have hg0 := hg0.below (Nat.le_refl _) hT6
  have hSb6 := hb6.size
  try simp only [World.size_alloc] at hSb6
  clear hb6
  go_wp2_with fail
  refine (toOrderS_any A zs.length c zs _ (by omega) (hr.below (Nat.le_refl _) (by first | exact hB6 | go_grown))).mono ?_
  rintro e w7 ⟨rfl, hy0, hb7⟩
  have hT7 : Below w6.heap.size w6 w7 := Below.andThen (by go_grown) hb7
  have hS7 := hT7.size
  have hB7 : Below W.heap.size W w7 := Below.andThen hB6 hT7
  have hw0 := hw0.below (Nat.le_refl _) hT7
  have hx0 := hx0.below (Nat.le_refl _) hT7
  have hg0 := hg0.below (Nat.le_refl _) hT7
  have hSb7 := hb7.size
  try simp only [World.size_alloc] at hSb7
  clear hb7
  have hy0 := Fr.of_own hy0
  try simp only [World.size_alloc] at hy0
  go_wp2_with fail
  refine (eqOrderS_same _ _ _ _ _ zs _ (by omega) (by first | exact hx0.rd | exact (hx0.rd).alloc _ | exact ((hx0.rd).alloc _).alloc _ | exact (((hx0.rd).alloc _).alloc _).alloc _) (by first | exact hy0.rd | exact (hy0.rd).alloc _ | exact ((hy0.rd).alloc _).alloc _ | exact (((hy0.rd).alloc _).alloc _).alloc _)).mono ?_
  rintro e w8 ⟨rfl, hb8⟩
  have hT8 : Below w7.heap.size w7 w8 := Below.andThen (by go_grown) hb8
  have hS8 := hT8.size
  have hB8 : Below W.heap.size W w8 := Below.andThen hB7 hT8
  have hw0 := hw0.below (Nat.le_refl _) hT8
  have hx0 := hx0.below (Nat.le_refl _) hT8
  have hg0 := hg0.below (Nat.le_refl _) hT8
  have hy0 := hy0.below (Nat.le_refl _) hT8
  have hSb8 := hb8.size
  try simp only [World.size_alloc] at hSb8
  clear hb8
  clear hy0
  go_wp2_with fail
  refine (markOrderS_any _ _ _ _ 1 _ _ _ (by omega) (by omega) (by omega) (by first | exact hx0 | exact (hx0).alloc _ | exact ((hx0).alloc _).alloc _)).mono ?_
  rintro e w9 ⟨rfl, hx0, hb9⟩
  have hT9 := Touch.trans (Touch.of_below (w := w8) (B := w8.heap.size) (by go_grown) (Nat.le_refl _)) hb9
  have hS9 := hT9.size
  have hB9 : Below W.heap.size W w9 := hB8.trans (hT9.below (by first | omega | (have := hB8.size; omega)) hB8.size)
  have hw0 := hw0.touch hT9 (by omega)
  have hg0 := hg0.touch hT9 (by omega)
  clear hb9
  go_wp2_with fail
  refine (eqIntS_any _ _ _ _ _ _ (R) (R) _ (by omega) (by first | exact hg0.rd | exact (hg0.rd).alloc _ | exact ((hg0.rd).alloc _).alloc _ | exact (((hg0.rd).alloc _).alloc _).alloc _) (by first | exact hw0.rd | exact (hw0.rd).alloc _ | exact ((hw0.rd).alloc _).alloc _ | exact (((hw0.rd).alloc _).alloc _).alloc _)).mono ?_
  simp only [decide_true]
  rintro e w10 ⟨rfl, hb10⟩
  have hT10 : Below w9.heap.size w9 w10 := Below.andThen (by go_grown) hb10
  have hS10 := hT10.size
  have hB10 : Below W.heap.size W w10 := Below.andThen hB9 hT10
  have hw0 := hw0.below (Nat.le_refl _) hT10
  have hg0 := hg0.below (Nat.le_refl _) hT10
  have hx0 := hx0.below (Nat.le_refl _) hT10
  have hSb10 := hb10.size
  try simp only [World.size_alloc] at hSb10
  clear hb10
  clear hx0
  go_wp2_with fail
  refine (markIntS_any _ _ _ _ 1 _ _ _ (by omega) (by omega) (by omega) (by first | exact hg0 | exact (hg0).alloc _ | exact ((hg0).alloc _).alloc _)).mono ?_
  rintro e w11 ⟨rfl, hg0, hb11⟩
  have hT11 := Touch.trans (Touch.of_below (w := w10) (B := w10.heap.size) (by go_grown) (Nat.le_refl _)) hb11
  have hS11 := hT11.size
  have hB11 : Below W.heap.size W w11 := hB10.trans (hT11.below (by first | omega | (have := hB10.size; omega)) hB10.size)
  have hw0 := hw0.touch hT11 (by omega)
  clear hb11
  go_wp2_with fail
  refine (heldIntS_any _ _ _ 1 _ (by omega) (by omega) (by omega) (by first | exact hg0.rd | exact (hg0.rd).alloc _ | exact ((hg0.rd).alloc _).alloc _ | exact (((hg0.rd).alloc _).alloc _).alloc _)).mono ?_
  rintro e w12 ⟨rfl, hb12⟩
  have hT12 : Below w11.heap.size w11 w12 := Below.andThen (by go_grown) hb12
  have hS12 := hT12.size
  have hB12 : Below W.heap.size W w12 := Below.andThen hB11 hT12
  have hw0 := hw0.below (Nat.le_refl _) hT12
  have hg0 := hg0.below (Nat.le_refl _) hT12
  have hSb12 := hb12.size
  try simp only [World.size_alloc] at hSb12
  clear hb12
  go_wp2_with fail
  refine (toOrderS_any A zs.length c zs _ (by omega) (hr.below (Nat.le_refl _) (by first | exact hB12 | go_grown))).mono ?_
  rintro e w13 ⟨rfl, hz0, hb13⟩
  have hT13 : Below w12.heap.size w12 w13 := Below.andThen (by go_grown) hb13
  have hS13 := hT13.size
  have hB13 : Below W.heap.size W w13 := Below.andThen hB12 hT13
  have hw0 := hw0.below (Nat.le_refl _) hT13
  have hg0 := hg0.below (Nat.le_refl _) hT13
  have hSb13 := hb13.size
  try simp only [World.size_alloc] at hSb13
  clear hb13
  have hz0 := Fr.of_own hz0
  try simp only [World.size_alloc] at hz0
  go_wp2_with fail
  refine (iProgramChannels_any _ _ _ zs cells sends _ (by omega) (by first | exact hz0.rd | exact (hz0.rd).alloc _ | exact ((hz0.rd).alloc _).alloc _ | exact (((hz0.rd).alloc _).alloc _).alloc _)).mono ?_
  rw [← HR.out]
  rintro e w14 ⟨Ahh0, chh0, rfl, hh0, hb14⟩
  have hT14 : Below w13.heap.size w13 w14 := Below.andThen (by go_grown) hb14
  have hS14 := hT14.size
  have hB14 : Below W.heap.size W w14 := Below.andThen hB13 hT14
  have hw0 := hw0.below (Nat.le_refl _) hT14
  have hg0 := hg0.below (Nat.le_refl _) hT14
  have hz0 := hz0.below (Nat.le_refl _) hT14
  have hSb14 := hb14.size
  try simp only [World.size_alloc] at hSb14
  clear hb14
  try simp only [World.size_alloc] at hh0
  clear hz0
  go_wp2_with fail
  refine (eqIntS_any _ _ _ _ _ _ (R) (R) _ (by omega) (by first | exact hh0.rd | exact (hh0.rd).alloc _ | exact ((hh0.rd).alloc _).alloc _ | exact (((hh0.rd).alloc _).alloc _).alloc _) (by first | exact hw0.rd | exact (hw0.rd).alloc _ | exact ((hw0.rd).alloc _).alloc _ | exact (((hw0.rd).alloc _).alloc _).alloc _)).mono ?_
  simp only [decide_true]
  rintro e w15 ⟨rfl, hb15⟩
  have hT15 : Below w14.heap.size w14 w15 := Below.andThen (by go_grown) hb15
  have hS15 := hT15.size
  have hB15 : Below W.heap.size W w15 := Below.andThen hB14 hT15
  have hw0 := hw0.below (Nat.le_refl _) hT15
  have hg0 := hg0.below (Nat.le_refl _) hT15
  have hh0 := hh0.below (Nat.le_refl _) hT15
  have hSb15 := hb15.size
  try simp only [World.size_alloc] at hSb15
  clear hb15
  go_wp2_with fail
  refine (heldIntS_any _ _ _ 1 _ (by omega) (by omega) (by omega) (by first | exact hg0.rd | exact (hg0.rd).alloc _ | exact ((hg0.rd).alloc _).alloc _ | exact (((hg0.rd).alloc _).alloc _).alloc _)).mono ?_
  rintro e w16 ⟨rfl, hb16⟩
  have hT16 : Below w15.heap.size w15 w16 := Below.andThen (by go_grown) hb16
  have hS16 := hT16.size
  have hB16 : Below W.heap.size W w16 := Below.andThen hB15 hT16
  have hw0 := hw0.below (Nat.le_refl _) hT16
  have hg0 := hg0.below (Nat.le_refl _) hT16
  have hh0 := hh0.below (Nat.le_refl _) hT16
  have hSb16 := hb16.size
  try simp only [World.size_alloc] at hSb16
  clear hb16
  go_wp2_with fail
  go_returns
  exact ⟨rfl, by first | exact hB16 | go_grown⟩
end Go.Proofs.Ytpaknpjdamoibaa
