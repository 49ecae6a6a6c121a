/-
  The walk of FnExactPlainStarts: the law returns true.
  Conditions: none.
-/
import Derived.Test.YtjdhfehffgccmaaPad3
import Derived.Deep.RegionHeld3
namespace Go.Proofs.Ytjdhfehffgccmaa
open Go.ChangeShapes Go.WideShapes Go.ChangeAt Go.RowKit Go.Joins
set_option linter.unusedVariables false
set_option maxRecDepth 100000 in
set_option maxHeartbeats 4000000 in
theorem lawPlainStarts_walk (W : World) (Aa : Option Addr) (na ca : Nat) (zsa : List Int) (hna : zsa.length = na) (hma : na ≤ maxLen) (hra : Rd W 1 Aa na (ints zsa)) (Ab : Option Addr) (nb cb : Nat) (zsb : List Int) (hnb : zsb.length = nb) (hmb : nb ≤ maxLen) (hrb : Rd W 1 Ab nb (ints zsb))  :
    Calls Try.prog 9 #[.slice Aa na ca, .slice Ab nb cb] W fun e w' => e = .returned (.bool true) ∧ Below W.heap.size W w' := by
  unfold maxLen at hma
  subst hna
  unfold maxLen at hmb
  subst hnb
  by_cases hbig0 : 1048576 < zsa.length
  · go_enter Try.func9, Try.ntmps9
    go_wp2
    go_returns
    exact ⟨rfl, by go_grown⟩
  by_cases hbig1 : 1048576 < zsb.length
  · go_enter Try.func9, Try.ntmps9
    go_wp2
    go_returns
    exact ⟨rfl, by go_grown⟩
  obtain ⟨R, hR⟩ : ∃ R : List Int, R = plainStarts zsa zsb := ⟨_, rfl⟩
  have HR := Lib.hid hR
  have hRl : R.length ≤ 1048576 := by rw [hR]; rw [plainStarts, startsOf_len]; have := padRuns_len zsa zsb; omega
  clear hR
  go_enter Try.func9, Try.ntmps9
  have hB0 : Below W.heap.size W W := Below.refl _ _
  go_wp2_with fail
  refine (toIntS_any Aa zsa.length _ zsa _ (by omega) (hra.below (Nat.le_refl _) (by first | exact hB0 | go_grown))).mono ?_
  rintro e w1 ⟨rfl, ha0, hb1⟩
  have hT1 : Below W.heap.size W w1 := Below.andThen (by go_grown) hb1
  have hS1 := hT1.size
  have hB1 : Below W.heap.size W w1 := Below.andThen hB0 hT1
  have hSb1 := hb1.size
  try simp only [World.size_alloc] at hSb1
  clear hb1
  have ha0 := Fr.of_own ha0
  try simp only [World.size_alloc] at ha0
  go_wp2_with fail
  refine (toIntS_any Ab zsb.length _ zsb _ (by omega) (hrb.below (Nat.le_refl _) (by first | exact hB1 | go_grown))).mono ?_
  rintro e w2 ⟨rfl, ha1, hb2⟩
  have hT2 : Below w1.heap.size w1 w2 := Below.andThen (by go_grown) hb2
  have hS2 := hT2.size
  have hB2 : Below W.heap.size W w2 := Below.andThen hB1 hT2
  have ha0 := ha0.below (Nat.le_refl _) hT2
  have hSb2 := hb2.size
  try simp only [World.size_alloc] at hSb2
  clear hb2
  have ha1 := Fr.of_own ha1
  try simp only [World.size_alloc] at ha1
  go_wp2_with fail
  refine (sPlainStarts_any _ _ _ zsa _ _ _ zsb _ (by omega) (by omega) (by first | exact ha0.rd | exact (ha0.rd).alloc _ | exact ((ha0.rd).alloc _).alloc _ | exact (((ha0.rd).alloc _).alloc _).alloc _) (by first | exact ha1.rd | exact (ha1.rd).alloc _ | exact ((ha1.rd).alloc _).alloc _ | exact (((ha1.rd).alloc _).alloc _).alloc _)).mono ?_
  rw [← HR.out]
  rintro e w3 ⟨Ahw0, chw0, rfl, hw0, hb3⟩
  have hT3 : Below w2.heap.size w2 w3 := Below.andThen (by go_grown) hb3
  have hS3 := hT3.size
  have hB3 : Below W.heap.size W w3 := Below.andThen hB2 hT3
  have ha0 := ha0.below (Nat.le_refl _) hT3
  have ha1 := ha1.below (Nat.le_refl _) hT3
  have hSb3 := hb3.size
  try simp only [World.size_alloc] at hSb3
  clear hb3
  try simp only [World.size_alloc] at hw0
  clear ha0
  clear ha1
  go_wp2_with fail
  refine (toIntS_any Aa zsa.length _ zsa _ (by omega) (hra.below (Nat.le_refl _) (by first | exact hB3 | go_grown))).mono ?_
  rintro e w4 ⟨rfl, hx0, hb4⟩
  have hT4 : Below w3.heap.size w3 w4 := Below.andThen (by go_grown) hb4
  have hS4 := hT4.size
  have hB4 : Below W.heap.size W w4 := Below.andThen hB3 hT4
  have hw0 := hw0.below (Nat.le_refl _) hT4
  have hSb4 := hb4.size
  try simp only [World.size_alloc] at hSb4
  clear hb4
  have hx0 := Fr.of_own hx0
  try simp only [World.size_alloc] at hx0
  go_wp2_with fail
  refine (toIntS_any Ab zsb.length _ zsb _ (by omega) (hrb.below (Nat.le_refl _) (by first | exact hB4 | go_grown))).mono ?_
  rintro e w5 ⟨rfl, hx1, hb5⟩
  have hT5 : Below w4.heap.size w4 w5 := Below.andThen (by go_grown) hb5
  have hS5 := hT5.size
  have hB5 : Below W.heap.size W w5 := Below.andThen hB4 hT5
  have hw0 := hw0.below (Nat.le_refl _) hT5
  have hx0 := hx0.below (Nat.le_refl _) hT5
  have hSb5 := hb5.size
  try simp only [World.size_alloc] at hSb5
  clear hb5
  have hx1 := Fr.of_own hx1
  try simp only [World.size_alloc] at hx1
  go_wp2_with fail
  refine (iPlainStarts_any _ _ _ zsa _ _ _ zsb _ (by omega) (by omega) (by first | exact hx0.rd | exact (hx0.rd).alloc _ | exact ((hx0.rd).alloc _).alloc _ | exact (((hx0.rd).alloc _).alloc _).alloc _) (by first | exact hx1.rd | exact (hx1.rd).alloc _ | exact ((hx1.rd).alloc _).alloc _ | exact (((hx1.rd).alloc _).alloc _).alloc _)).mono ?_
  rw [← HR.out]
  rintro e w6 ⟨Ahg0, chg0, rfl, hg0, hb6⟩
  have hT6 : Below w5.heap.size w5 w6 := Below.andThen (by go_grown) hb6
  have hS6 := hT6.size
  have hB6 : Below W.heap.size W w6 := Below.andThen hB5 hT6
  have hw0 := hw0.below (Nat.le_refl _) hT6
  have hx0 := hx0.below (Nat.le_refl _) hT6
  have hx1 := hx1.below (Nat.le_refl _) hT6
  have hSb6 := hb6.size
  try simp only [World.size_alloc] at hSb6
  clear hb6
  try simp only [World.size_alloc] at hg0
  go_wp2_with fail
  refine (eqIntS_any _ _ _ _ _ _ (R) (R) _ (by omega) (by first | exact hg0.rd | exact (hg0.rd).alloc _ | exact ((hg0.rd).alloc _).alloc _ | exact (((hg0.rd).alloc _).alloc _).alloc _) (by first | exact hw0.rd | exact (hw0.rd).alloc _ | exact ((hw0.rd).alloc _).alloc _ | exact (((hw0.rd).alloc _).alloc _).alloc _)).mono ?_
  simp only [decide_true]
  rintro e w7 ⟨rfl, hb7⟩
  have hT7 : Below w6.heap.size w6 w7 := Below.andThen (by go_grown) hb7
  have hS7 := hT7.size
  have hB7 : Below W.heap.size W w7 := Below.andThen hB6 hT7
  have hw0 := hw0.below (Nat.le_refl _) hT7
  have hx0 := hx0.below (Nat.le_refl _) hT7
  have hx1 := hx1.below (Nat.le_refl _) hT7
  have hg0 := hg0.below (Nat.le_refl _) hT7
  have hSb7 := hb7.size
  try simp only [World.size_alloc] at hSb7
  clear hb7
  go_wp2_with fail
  refine (toIntS_any Aa zsa.length _ zsa _ (by omega) (hra.below (Nat.le_refl _) (by first | exact hB7 | go_grown))).mono ?_
  rintro e w8 ⟨rfl, hy0, hb8⟩
  have hT8 : Below w7.heap.size w7 w8 := Below.andThen (by go_grown) hb8
  have hS8 := hT8.size
  have hB8 : Below W.heap.size W w8 := Below.andThen hB7 hT8
  have hw0 := hw0.below (Nat.le_refl _) hT8
  have hx0 := hx0.below (Nat.le_refl _) hT8
  have hx1 := hx1.below (Nat.le_refl _) hT8
  have hg0 := hg0.below (Nat.le_refl _) hT8
  have hSb8 := hb8.size
  try simp only [World.size_alloc] at hSb8
  clear hb8
  have hy0 := Fr.of_own hy0
  try simp only [World.size_alloc] at hy0
  go_wp2_with fail
  refine (eqIntS_any _ _ _ _ _ _ (zsa) (zsa) _ (by omega) (by first | exact hx0.rd | exact (hx0.rd).alloc _ | exact ((hx0.rd).alloc _).alloc _ | exact (((hx0.rd).alloc _).alloc _).alloc _) (by first | exact hy0.rd | exact (hy0.rd).alloc _ | exact ((hy0.rd).alloc _).alloc _ | exact (((hy0.rd).alloc _).alloc _).alloc _)).mono ?_
  simp only [decide_true]
  rintro e w9 ⟨rfl, hb9⟩
  have hT9 : Below w8.heap.size w8 w9 := Below.andThen (by go_grown) hb9
  have hS9 := hT9.size
  have hB9 : Below W.heap.size W w9 := Below.andThen hB8 hT9
  have hw0 := hw0.below (Nat.le_refl _) hT9
  have hx0 := hx0.below (Nat.le_refl _) hT9
  have hx1 := hx1.below (Nat.le_refl _) hT9
  have hg0 := hg0.below (Nat.le_refl _) hT9
  have hy0 := hy0.below (Nat.le_refl _) hT9
  have hSb9 := hb9.size
  try simp only [World.size_alloc] at hSb9
  clear hb9
  clear hy0
  go_wp2_with fail
  refine (toIntS_any Ab zsb.length _ zsb _ (by omega) (hrb.below (Nat.le_refl _) (by first | exact hB9 | go_grown))).mono ?_
  rintro e w10 ⟨rfl, hy1, hb10⟩
  have hT10 : Below w9.heap.size w9 w10 := Below.andThen (by go_grown) hb10
  have hS10 := hT10.size
  have hB10 : Below W.heap.size W w10 := Below.andThen hB9 hT10
  have hw0 := hw0.below (Nat.le_refl _) hT10
  have hx0 := hx0.below (Nat.le_refl _) hT10
  have hx1 := hx1.below (Nat.le_refl _) hT10
  have hg0 := hg0.below (Nat.le_refl _) hT10
  have hSb10 := hb10.size
  try simp only [World.size_alloc] at hSb10
  clear hb10
  have hy1 := Fr.of_own hy1
  try simp only [World.size_alloc] at hy1
  go_wp2_with fail
  refine (eqIntS_any _ _ _ _ _ _ (zsb) (zsb) _ (by omega) (by first | exact hx1.rd | exact (hx1.rd).alloc _ | exact ((hx1.rd).alloc _).alloc _ | exact (((hx1.rd).alloc _).alloc _).alloc _) (by first | exact hy1.rd | exact (hy1.rd).alloc _ | exact ((hy1.rd).alloc _).alloc _ | exact (((hy1.rd).alloc _).alloc _).alloc _)).mono ?_
  simp only [decide_true]
  rintro e w11 ⟨rfl, hb11⟩
  have hT11 : Below w10.heap.size w10 w11 := Below.andThen (by go_grown) hb11
  have hS11 := hT11.size
  have hB11 : Below W.heap.size W w11 := Below.andThen hB10 hT11
  have hw0 := hw0.below (Nat.le_refl _) hT11
  have hx0 := hx0.below (Nat.le_refl _) hT11
  have hx1 := hx1.below (Nat.le_refl _) hT11
  have hg0 := hg0.below (Nat.le_refl _) hT11
  have hy1 := hy1.below (Nat.le_refl _) hT11
  have hSb11 := hb11.size
  try simp only [World.size_alloc] at hSb11
  clear hb11
  clear hy1
  go_wp2_with fail
  refine (markIntS_any _ _ _ _ 1 _ _ _ (by omega) (by omega) (by omega) (by first | exact hx0 | exact (hx0).alloc _ | exact ((hx0).alloc _).alloc _)).mono ?_
  rintro e w12 ⟨rfl, hx0, hb12⟩
  have hT12 := Touch.trans (Touch.of_below (w := w11) (B := w11.heap.size) (by go_grown) (Nat.le_refl _)) hb12
  have hS12 := hT12.size
  have hB12 : Below W.heap.size W w12 := hB11.trans (hT12.below (by first | omega | (have := hB11.size; omega)) hB11.size)
  have hw0 := hw0.touch hT12 (by omega)
  have hx1 := hx1.touch hT12 (by omega)
  have hg0 := hg0.touch hT12 (by omega)
  clear hb12
  go_wp2_with fail
  refine (markIntS_any _ _ _ _ (1 + ((zsa.length : Nat) : Int)) _ _ _ (by omega) (by omega) (by omega) (by first | exact hx1 | exact (hx1).alloc _ | exact ((hx1).alloc _).alloc _)).mono ?_
  rintro e w13 ⟨rfl, hx1, hb13⟩
  have hT13 := Touch.trans (Touch.of_below (w := w12) (B := w12.heap.size) (by go_grown) (Nat.le_refl _)) hb13
  have hS13 := hT13.size
  have hB13 : Below W.heap.size W w13 := hB12.trans (hT13.below (by first | omega | (have := hB12.size; omega)) hB12.size)
  have hw0 := hw0.touch hT13 (by omega)
  have hg0 := hg0.touch hT13 (by omega)
  have hx0 := hx0.touch hT13 (by omega)
  clear hb13
  go_wp2_with fail
  refine (eqIntS_any _ _ _ _ _ _ (R) (R) _ (by omega) (by first | exact hg0.rd | exact (hg0.rd).alloc _ | exact ((hg0.rd).alloc _).alloc _ | exact (((hg0.rd).alloc _).alloc _).alloc _) (by first | exact hw0.rd | exact (hw0.rd).alloc _ | exact ((hw0.rd).alloc _).alloc _ | exact (((hw0.rd).alloc _).alloc _).alloc _)).mono ?_
  simp only [decide_true]
  rintro e w14 ⟨rfl, hb14⟩
  have hT14 : Below w13.heap.size w13 w14 := Below.andThen (by go_grown) hb14
  have hS14 := hT14.size
  have hB14 : Below W.heap.size W w14 := Below.andThen hB13 hT14
  have hw0 := hw0.below (Nat.le_refl _) hT14
  have hg0 := hg0.below (Nat.le_refl _) hT14
  have hx0 := hx0.below (Nat.le_refl _) hT14
  have hx1 := hx1.below (Nat.le_refl _) hT14
  have hSb14 := hb14.size
  try simp only [World.size_alloc] at hSb14
  clear hb14
  clear hx0
  clear hx1
  go_wp2_with fail
  refine (markIntS_any _ _ _ _ 1 _ _ _ (by omega) (by omega) (by omega) (by first | exact hg0 | exact (hg0).alloc _ | exact ((hg0).alloc _).alloc _)).mono ?_
  rintro e w15 ⟨rfl, hg0, hb15⟩
  have hT15 := Touch.trans (Touch.of_below (w := w14) (B := w14.heap.size) (by go_grown) (Nat.le_refl _)) hb15
  have hS15 := hT15.size
  have hB15 : Below W.heap.size W w15 := hB14.trans (hT15.below (by first | omega | (have := hB14.size; omega)) hB14.size)
  have hw0 := hw0.touch hT15 (by omega)
  clear hb15
  go_wp2_with fail
  refine (heldIntS_any _ _ _ 1 _ (by omega) (by omega) (by omega) (by first | exact hg0.rd | exact (hg0.rd).alloc _ | exact ((hg0.rd).alloc _).alloc _ | exact (((hg0.rd).alloc _).alloc _).alloc _)).mono ?_
  rintro e w16 ⟨rfl, hb16⟩
  have hT16 : Below w15.heap.size w15 w16 := Below.andThen (by go_grown) hb16
  have hS16 := hT16.size
  have hB16 : Below W.heap.size W w16 := Below.andThen hB15 hT16
  have hw0 := hw0.below (Nat.le_refl _) hT16
  have hg0 := hg0.below (Nat.le_refl _) hT16
  have hSb16 := hb16.size
  try simp only [World.size_alloc] at hSb16
  clear hb16
  go_wp2_with fail
  refine (toIntS_any Aa zsa.length _ zsa _ (by omega) (hra.below (Nat.le_refl _) (by first | exact hB16 | go_grown))).mono ?_
  rintro e w17 ⟨rfl, hz0, hb17⟩
  have hT17 : Below w16.heap.size w16 w17 := Below.andThen (by go_grown) hb17
  have hS17 := hT17.size
  have hB17 : Below W.heap.size W w17 := Below.andThen hB16 hT17
  have hw0 := hw0.below (Nat.le_refl _) hT17
  have hg0 := hg0.below (Nat.le_refl _) hT17
  have hSb17 := hb17.size
  try simp only [World.size_alloc] at hSb17
  clear hb17
  have hz0 := Fr.of_own hz0
  try simp only [World.size_alloc] at hz0
  go_wp2_with fail
  refine (toIntS_any Ab zsb.length _ zsb _ (by omega) (hrb.below (Nat.le_refl _) (by first | exact hB17 | go_grown))).mono ?_
  rintro e w18 ⟨rfl, hz1, hb18⟩
  have hT18 : Below w17.heap.size w17 w18 := Below.andThen (by go_grown) hb18
  have hS18 := hT18.size
  have hB18 : Below W.heap.size W w18 := Below.andThen hB17 hT18
  have hw0 := hw0.below (Nat.le_refl _) hT18
  have hg0 := hg0.below (Nat.le_refl _) hT18
  have hz0 := hz0.below (Nat.le_refl _) hT18
  have hSb18 := hb18.size
  try simp only [World.size_alloc] at hSb18
  clear hb18
  have hz1 := Fr.of_own hz1
  try simp only [World.size_alloc] at hz1
  go_wp2_with fail
  refine (iPlainStarts_any _ _ _ zsa _ _ _ zsb _ (by omega) (by omega) (by first | exact hz0.rd | exact (hz0.rd).alloc _ | exact ((hz0.rd).alloc _).alloc _ | exact (((hz0.rd).alloc _).alloc _).alloc _) (by first | exact hz1.rd | exact (hz1.rd).alloc _ | exact ((hz1.rd).alloc _).alloc _ | exact (((hz1.rd).alloc _).alloc _).alloc _)).mono ?_
  rw [← HR.out]
  rintro e w19 ⟨Ahh0, chh0, rfl, hh0, hb19⟩
  have hT19 : Below w18.heap.size w18 w19 := Below.andThen (by go_grown) hb19
  have hS19 := hT19.size
  have hB19 : Below W.heap.size W w19 := Below.andThen hB18 hT19
  have hw0 := hw0.below (Nat.le_refl _) hT19
  have hg0 := hg0.below (Nat.le_refl _) hT19
  have hz0 := hz0.below (Nat.le_refl _) hT19
  have hz1 := hz1.below (Nat.le_refl _) hT19
  have hSb19 := hb19.size
  try simp only [World.size_alloc] at hSb19
  clear hb19
  try simp only [World.size_alloc] at hh0
  clear hz0
  clear hz1
  go_wp2_with fail
  refine (eqIntS_any _ _ _ _ _ _ (R) (R) _ (by omega) (by first | exact hh0.rd | exact (hh0.rd).alloc _ | exact ((hh0.rd).alloc _).alloc _ | exact (((hh0.rd).alloc _).alloc _).alloc _) (by first | exact hw0.rd | exact (hw0.rd).alloc _ | exact ((hw0.rd).alloc _).alloc _ | exact (((hw0.rd).alloc _).alloc _).alloc _)).mono ?_
  simp only [decide_true]
  rintro e w20 ⟨rfl, hb20⟩
  have hT20 : Below w19.heap.size w19 w20 := Below.andThen (by go_grown) hb20
  have hS20 := hT20.size
  have hB20 : Below W.heap.size W w20 := Below.andThen hB19 hT20
  have hw0 := hw0.below (Nat.le_refl _) hT20
  have hg0 := hg0.below (Nat.le_refl _) hT20
  have hh0 := hh0.below (Nat.le_refl _) hT20
  have hSb20 := hb20.size
  try simp only [World.size_alloc] at hSb20
  clear hb20
  go_wp2_with fail
  refine (heldIntS_any _ _ _ 1 _ (by omega) (by omega) (by omega) (by first | exact hg0.rd | exact (hg0.rd).alloc _ | exact ((hg0.rd).alloc _).alloc _ | exact (((hg0.rd).alloc _).alloc _).alloc _)).mono ?_
  rintro e w21 ⟨rfl, hb21⟩
  have hT21 : Below w20.heap.size w20 w21 := Below.andThen (by go_grown) hb21
  have hS21 := hT21.size
  have hB21 : Below W.heap.size W w21 := Below.andThen hB20 hT21
  have hw0 := hw0.below (Nat.le_refl _) hT21
  have hg0 := hg0.below (Nat.le_refl _) hT21
  have hh0 := hh0.below (Nat.le_refl _) hT21
  have hSb21 := hb21.size
  try simp only [World.size_alloc] at hSb21
  clear hb21
  go_wp2_with fail
  go_returns
  exact ⟨rfl, by first | exact hB21 | go_grown⟩
end Go.Proofs.Ytjdhfehffgccmaa
