/-
  The walk of FnExactHealthRun: the law returns true.
  Conditions: none.
-/
import Derived.Test.YtjdhfehffgccmaaHRun
import Derived.Deep.RegionHeld3
namespace Go.Proofs.Ytjdhfehffgccmaa
open Go.ChangeShapes Go.WideShapes Go.ChangeAt Go.RowKit Go.Joins
set_option linter.unusedVariables false
set_option maxRecDepth 100000 in
set_option maxHeartbeats 4000000 in
theorem lawHealthRun_walk (W : World) (f : Bool) (r : Int) (Aa : Option Addr) (na ca : Nat) (zsa : List Int) (hna : zsa.length = na) (hma : na ≤ maxLen) (hra : Rd W 1 Aa na (ints zsa)) (Ab : Option Addr) (nb cb : Nat) (zsb : List Int) (hnb : zsb.length = nb) (hmb : nb ≤ maxLen) (hrb : Rd W 1 Ab nb (ints zsb))  :
    Calls Try.prog 5 #[.agg #[.bool f, .int .i64 r], .slice Aa na ca, .slice Ab nb cb] W fun e w' => e = .returned (.bool true) ∧ Below W.heap.size W w' := by
  unfold maxLen at hma
  subst hna
  unfold maxLen at hmb
  subst hnb
  by_cases hbig0 : 1048576 < zsa.length
  · go_enter Try.func5, Try.ntmps5
    go_wp2
    go_returns
    exact ⟨rfl, by go_grown⟩
  by_cases hbig1 : 1048576 < zsb.length
  · go_enter Try.func5, Try.ntmps5
    go_wp2
    go_returns
    exact ⟨rfl, by go_grown⟩
  obtain ⟨⟨VF, VR⟩, hV⟩ : ∃ V, V = hrV f r zsa zsb := ⟨_, rfl⟩
  have HVV := Lib.hid hV
  clear hV
  go_enter Try.func5, Try.ntmps5
  have hB0 : Below W.heap.size W W := Below.refl _ _
  go_wp2_with fail
  refine (toHealth_any _ _ _).mono ?_
  rintro e w1 ⟨rfl, hb1⟩
  have hT1 : Below W.heap.size W w1 := Below.andThen (by go_grown) hb1
  have hS1 := hT1.size
  have hB1 : Below W.heap.size W w1 := Below.andThen hB0 hT1
  have qp : Hid (Blk w1 (W.heap.size) 23 #[.bool f, .int .i64 r]) := Blk.below (w' := w1) (by repeat' (first | (refine Blk.at_ _ _ _ ?_; first | rfl | (simp; done)) | refine Blk.alloc ?_ _ | refine Blk.drewN ?_ _ | assumption)) (Nat.le_refl _) hb1
  have hSb1 := hb1.size
  try simp only [World.size_alloc] at hSb1
  have kp_0 := (qp.out).cell 0 rfl
  have kp_1 := (qp.out).cell 1 rfl
  have lp := (qp.out).lt
  clear hb1
  go_wp2_with fail
  refine (toIntS_any Aa zsa.length _ zsa _ (by omega) (hra.below (Nat.le_refl _) (by first | exact hB1 | go_grown))).mono ?_
  rintro e w2 ⟨rfl, hf0, hb2⟩
  clear lp kp_0 kp_1
  have hT2 : Below w1.heap.size w1 w2 := Below.andThen (by go_grown) hb2
  have hS2 := hT2.size
  have hB2 : Below W.heap.size W w2 := Below.andThen hB1 hT2
  have qp := Lib.hid ((qp.out).below (Nat.le_refl _) hT2)
  have hSb2 := hb2.size
  try simp only [World.size_alloc] at hSb2
  have kp_0 := (qp.out).cell 0 rfl
  have kp_1 := (qp.out).cell 1 rfl
  have lp := (qp.out).lt
  clear hb2
  have hf0 := Fr.of_own hf0
  try simp only [World.size_alloc] at hf0
  go_wp2_with fail
  refine (toIntS_any Ab zsb.length _ zsb _ (by omega) (hrb.below (Nat.le_refl _) (by first | exact hB2 | go_grown))).mono ?_
  rintro e w3 ⟨rfl, hg0, hb3⟩
  clear lp kp_0 kp_1
  have hT3 : Below w2.heap.size w2 w3 := Below.andThen (by go_grown) hb3
  have hS3 := hT3.size
  have hB3 : Below W.heap.size W w3 := Below.andThen hB2 hT3
  have hf0 := hf0.below (Nat.le_refl _) hT3
  have qp := Lib.hid ((qp.out).below (Nat.le_refl _) hT3)
  have hSb3 := hb3.size
  try simp only [World.size_alloc] at hSb3
  have kp_0 := (qp.out).cell 0 rfl
  have kp_1 := (qp.out).cell 1 rfl
  have lp := (qp.out).lt
  clear hb3
  have hg0 := Fr.of_own hg0
  try simp only [World.size_alloc] at hg0
  go_wp2_with fail
  refine (sHealthRun_any f r _ _ _ zsa _ _ _ zsb _ (by omega) (by first | exact hf0.rd | exact (hf0.rd).alloc _ | exact ((hf0.rd).alloc _).alloc _ | exact (((hf0.rd).alloc _).alloc _).alloc _) (by omega) (by first | exact hg0.rd | exact (hg0.rd).alloc _ | exact ((hg0.rd).alloc _).alloc _ | exact (((hg0.rd).alloc _).alloc _).alloc _)).mono ?_
  rw [← HVV.out]
  rintro e w4 ⟨rfl, hb4⟩
  clear lp kp_0 kp_1
  have hT4 : Below w3.heap.size w3 w4 := Below.andThen (by go_grown) hb4
  have hS4 := hT4.size
  have hB4 : Below W.heap.size W w4 := Below.andThen hB3 hT4
  have hf0 := hf0.below (Nat.le_refl _) hT4
  have hg0 := hg0.below (Nat.le_refl _) hT4
  have qp := Lib.hid ((qp.out).below (Nat.le_refl _) hT4)
  have hSb4 := hb4.size
  try simp only [World.size_alloc] at hSb4
  have kp_0 := (qp.out).cell 0 rfl
  have kp_1 := (qp.out).cell 1 rfl
  have lp := (qp.out).lt
  clear hb4
  clear hf0
  clear hg0
  go_wp2_with fail
  refine (toIntS_any Aa zsa.length _ zsa _ (by omega) (hra.below (Nat.le_refl _) (by first | exact hB4 | go_grown))).mono ?_
  rintro e w5 ⟨rfl, hf1, hb5⟩
  clear lp kp_0 kp_1
  have hT5 : Below w4.heap.size w4 w5 := Below.andThen (by go_grown) hb5
  have hS5 := hT5.size
  have hB5 : Below W.heap.size W w5 := Below.andThen hB4 hT5
  have qp := Lib.hid ((qp.out).below (Nat.le_refl _) hT5)
  have qw : Hid (Blk w5 (w4.heap.size) 26 #[.bool VF, .int .i64 VR]) := Blk.below (w' := w5) (by repeat' (first | (refine Blk.at_ _ _ _ ?_; first | rfl | (simp; done)) | refine Blk.alloc ?_ _ | refine Blk.drewN ?_ _ | assumption)) (Nat.le_refl _) hb5
  have hSb5 := hb5.size
  try simp only [World.size_alloc] at hSb5
  have kp_0 := (qp.out).cell 0 rfl
  have kp_1 := (qp.out).cell 1 rfl
  have lp := (qp.out).lt
  have kw_0 := (qw.out).cell 0 rfl
  have kw_1 := (qw.out).cell 1 rfl
  have lw := (qw.out).lt
  clear hb5
  have hf1 := Fr.of_own hf1
  try simp only [World.size_alloc] at hf1
  go_wp2_with fail
  refine (toIntS_any Ab zsb.length _ zsb _ (by omega) (hrb.below (Nat.le_refl _) (by first | exact hB5 | go_grown))).mono ?_
  rintro e w6 ⟨rfl, hg1, hb6⟩
  clear lp kp_0 kp_1
  clear lw kw_0 kw_1
  have hT6 : Below w5.heap.size w5 w6 := Below.andThen (by go_grown) hb6
  have hS6 := hT6.size
  have hB6 : Below W.heap.size W w6 := Below.andThen hB5 hT6
  have hf1 := hf1.below (Nat.le_refl _) hT6
  have qp := Lib.hid ((qp.out).below (Nat.le_refl _) hT6)
  have qw := Lib.hid ((qw.out).below (Nat.le_refl _) hT6)
  have hSb6 := hb6.size
  try simp only [World.size_alloc] at hSb6
  have kp_0 := (qp.out).cell 0 rfl
  have kp_1 := (qp.out).cell 1 rfl
  have lp := (qp.out).lt
  have kw_0 := (qw.out).cell 0 rfl
  have kw_1 := (qw.out).cell 1 rfl
  have lw := (qw.out).lt
  clear hb6
  have hg1 := Fr.of_own hg1
  try simp only [World.size_alloc] at hg1
  go_wp2_with fail
  refine (toHealth_any _ _ _).mono ?_
  rintro e w7 ⟨rfl, hb7⟩
  clear lp kp_0 kp_1
  clear lw kw_0 kw_1
  have hT7 : Below w6.heap.size w6 w7 := Below.andThen (by go_grown) hb7
  have hS7 := hT7.size
  have hB7 : Below W.heap.size W w7 := Below.andThen hB6 hT7
  have hf1 := hf1.below (Nat.le_refl _) hT7
  have hg1 := hg1.below (Nat.le_refl _) hT7
  have qp := Lib.hid ((qp.out).below (Nat.le_refl _) hT7)
  have qw := Lib.hid ((qw.out).below (Nat.le_refl _) hT7)
  have hSb7 := hb7.size
  try simp only [World.size_alloc] at hSb7
  have kp_0 := (qp.out).cell 0 rfl
  have kp_1 := (qp.out).cell 1 rfl
  have lp := (qp.out).lt
  have kw_0 := (qw.out).cell 0 rfl
  have kw_1 := (qw.out).cell 1 rfl
  have lw := (qw.out).lt
  clear hb7
  go_wp2_with fail
  refine (iHealthRun_any f r _ _ _ zsa _ _ _ zsb _ (by omega) (by first | exact hf1.rd | exact (hf1.rd).alloc _ | exact ((hf1.rd).alloc _).alloc _ | exact (((hf1.rd).alloc _).alloc _).alloc _) (by omega) (by first | exact hg1.rd | exact (hg1.rd).alloc _ | exact ((hg1.rd).alloc _).alloc _ | exact (((hg1.rd).alloc _).alloc _).alloc _)).mono ?_
  rw [← HVV.out]
  rintro e w8 ⟨rfl, hb8⟩
  clear lp kp_0 kp_1
  clear lw kw_0 kw_1
  have hT8 : Below w7.heap.size w7 w8 := Below.andThen (by go_grown) hb8
  have hS8 := hT8.size
  have hB8 : Below W.heap.size W w8 := Below.andThen hB7 hT8
  have hf1 := hf1.below (Nat.le_refl _) hT8
  have hg1 := hg1.below (Nat.le_refl _) hT8
  have qp := Lib.hid ((qp.out).below (Nat.le_refl _) hT8)
  have qw := Lib.hid ((qw.out).below (Nat.le_refl _) hT8)
  have hSb8 := hb8.size
  try simp only [World.size_alloc] at hSb8
  have kp_0 := (qp.out).cell 0 rfl
  have kp_1 := (qp.out).cell 1 rfl
  have lp := (qp.out).lt
  have kw_0 := (qw.out).cell 0 rfl
  have kw_1 := (qw.out).cell 1 rfl
  have lw := (qw.out).lt
  clear hb8
  go_wp2_with fail
  refine (eqHealth_same _ _ _).mono ?_
  rintro e w9 ⟨rfl, hb9⟩
  clear lp kp_0 kp_1
  clear lw kw_0 kw_1
  have hT9 : Below w8.heap.size w8 w9 := Below.andThen (by go_grown) hb9
  have hS9 := hT9.size
  have hB9 : Below W.heap.size W w9 := Below.andThen hB8 hT9
  have hf1 := hf1.below (Nat.le_refl _) hT9
  have hg1 := hg1.below (Nat.le_refl _) hT9
  have qp := Lib.hid ((qp.out).below (Nat.le_refl _) hT9)
  have qw := Lib.hid ((qw.out).below (Nat.le_refl _) hT9)
  have qg : Hid (Blk w9 (w8.heap.size) 26 #[.bool VF, .int .i64 VR]) := Blk.below (w' := w9) (by repeat' (first | (refine Blk.at_ _ _ _ ?_; first | rfl | (simp; done)) | refine Blk.alloc ?_ _ | refine Blk.drewN ?_ _ | assumption)) (Nat.le_refl _) hb9
  have hSb9 := hb9.size
  try simp only [World.size_alloc] at hSb9
  have kp_0 := (qp.out).cell 0 rfl
  have kp_1 := (qp.out).cell 1 rfl
  have lp := (qp.out).lt
  have kw_0 := (qw.out).cell 0 rfl
  have kw_1 := (qw.out).cell 1 rfl
  have lw := (qw.out).lt
  have kg_0 := (qg.out).cell 0 rfl
  have kg_1 := (qg.out).cell 1 rfl
  have lg := (qg.out).lt
  clear hb9
  go_wp2_with fail
  refine (toIntS_any Aa zsa.length _ zsa _ (by omega) (hra.below (Nat.le_refl _) (by first | exact hB9 | go_grown))).mono ?_
  rintro e w10 ⟨rfl, hf2, hb10⟩
  clear lp kp_0 kp_1
  clear lw kw_0 kw_1
  clear lg kg_0 kg_1
  have hT10 : Below w9.heap.size w9 w10 := Below.andThen (by go_grown) hb10
  have hS10 := hT10.size
  have hB10 : Below W.heap.size W w10 := Below.andThen hB9 hT10
  have hf1 := hf1.below (Nat.le_refl _) hT10
  have hg1 := hg1.below (Nat.le_refl _) hT10
  have qp := Lib.hid ((qp.out).below (Nat.le_refl _) hT10)
  have qw := Lib.hid ((qw.out).below (Nat.le_refl _) hT10)
  have qg := Lib.hid ((qg.out).below (Nat.le_refl _) hT10)
  have hSb10 := hb10.size
  try simp only [World.size_alloc] at hSb10
  have kp_0 := (qp.out).cell 0 rfl
  have kp_1 := (qp.out).cell 1 rfl
  have lp := (qp.out).lt
  have kw_0 := (qw.out).cell 0 rfl
  have kw_1 := (qw.out).cell 1 rfl
  have lw := (qw.out).lt
  have kg_0 := (qg.out).cell 0 rfl
  have kg_1 := (qg.out).cell 1 rfl
  have lg := (qg.out).lt
  clear hb10
  have hf2 := Fr.of_own hf2
  try simp only [World.size_alloc] at hf2
  go_wp2_with fail
  refine (eqIntS_any _ _ _ _ _ _ (zsa) (zsa) _ (by omega) (by first | exact hf1.rd | exact (hf1.rd).alloc _ | exact ((hf1.rd).alloc _).alloc _ | exact (((hf1.rd).alloc _).alloc _).alloc _) (by first | exact hf2.rd | exact (hf2.rd).alloc _ | exact ((hf2.rd).alloc _).alloc _ | exact (((hf2.rd).alloc _).alloc _).alloc _)).mono ?_
  simp only [decide_true]
  rintro e w11 ⟨rfl, hb11⟩
  clear lp kp_0 kp_1
  clear lw kw_0 kw_1
  clear lg kg_0 kg_1
  have hT11 : Below w10.heap.size w10 w11 := Below.andThen (by go_grown) hb11
  have hS11 := hT11.size
  have hB11 : Below W.heap.size W w11 := Below.andThen hB10 hT11
  have hf1 := hf1.below (Nat.le_refl _) hT11
  have hg1 := hg1.below (Nat.le_refl _) hT11
  have hf2 := hf2.below (Nat.le_refl _) hT11
  have qp := Lib.hid ((qp.out).below (Nat.le_refl _) hT11)
  have qw := Lib.hid ((qw.out).below (Nat.le_refl _) hT11)
  have qg := Lib.hid ((qg.out).below (Nat.le_refl _) hT11)
  have hSb11 := hb11.size
  try simp only [World.size_alloc] at hSb11
  have kp_0 := (qp.out).cell 0 rfl
  have kp_1 := (qp.out).cell 1 rfl
  have lp := (qp.out).lt
  have kw_0 := (qw.out).cell 0 rfl
  have kw_1 := (qw.out).cell 1 rfl
  have lw := (qw.out).lt
  have kg_0 := (qg.out).cell 0 rfl
  have kg_1 := (qg.out).cell 1 rfl
  have lg := (qg.out).lt
  clear hb11
  clear hf2
  go_wp2_with fail
  refine (toIntS_any Ab zsb.length _ zsb _ (by omega) (hrb.below (Nat.le_refl _) (by first | exact hB11 | go_grown))).mono ?_
  rintro e w12 ⟨rfl, hg2, hb12⟩
  clear lp kp_0 kp_1
  clear lw kw_0 kw_1
  clear lg kg_0 kg_1
  have hT12 : Below w11.heap.size w11 w12 := Below.andThen (by go_grown) hb12
  have hS12 := hT12.size
  have hB12 : Below W.heap.size W w12 := Below.andThen hB11 hT12
  have hf1 := hf1.below (Nat.le_refl _) hT12
  have hg1 := hg1.below (Nat.le_refl _) hT12
  have qp := Lib.hid ((qp.out).below (Nat.le_refl _) hT12)
  have qw := Lib.hid ((qw.out).below (Nat.le_refl _) hT12)
  have qg := Lib.hid ((qg.out).below (Nat.le_refl _) hT12)
  have hSb12 := hb12.size
  try simp only [World.size_alloc] at hSb12
  have kp_0 := (qp.out).cell 0 rfl
  have kp_1 := (qp.out).cell 1 rfl
  have lp := (qp.out).lt
  have kw_0 := (qw.out).cell 0 rfl
  have kw_1 := (qw.out).cell 1 rfl
  have lw := (qw.out).lt
  have kg_0 := (qg.out).cell 0 rfl
  have kg_1 := (qg.out).cell 1 rfl
  have lg := (qg.out).lt
  clear hb12
  have hg2 := Fr.of_own hg2
  try simp only [World.size_alloc] at hg2
  go_wp2_with fail
  refine (eqIntS_any _ _ _ _ _ _ (zsb) (zsb) _ (by omega) (by first | exact hg1.rd | exact (hg1.rd).alloc _ | exact ((hg1.rd).alloc _).alloc _ | exact (((hg1.rd).alloc _).alloc _).alloc _) (by first | exact hg2.rd | exact (hg2.rd).alloc _ | exact ((hg2.rd).alloc _).alloc _ | exact (((hg2.rd).alloc _).alloc _).alloc _)).mono ?_
  simp only [decide_true]
  rintro e w13 ⟨rfl, hb13⟩
  clear lp kp_0 kp_1
  clear lw kw_0 kw_1
  clear lg kg_0 kg_1
  have hT13 : Below w12.heap.size w12 w13 := Below.andThen (by go_grown) hb13
  have hS13 := hT13.size
  have hB13 : Below W.heap.size W w13 := Below.andThen hB12 hT13
  have hf1 := hf1.below (Nat.le_refl _) hT13
  have hg1 := hg1.below (Nat.le_refl _) hT13
  have hg2 := hg2.below (Nat.le_refl _) hT13
  have qp := Lib.hid ((qp.out).below (Nat.le_refl _) hT13)
  have qw := Lib.hid ((qw.out).below (Nat.le_refl _) hT13)
  have qg := Lib.hid ((qg.out).below (Nat.le_refl _) hT13)
  have hSb13 := hb13.size
  try simp only [World.size_alloc] at hSb13
  have kp_0 := (qp.out).cell 0 rfl
  have kp_1 := (qp.out).cell 1 rfl
  have lp := (qp.out).lt
  have kw_0 := (qw.out).cell 0 rfl
  have kw_1 := (qw.out).cell 1 rfl
  have lw := (qw.out).lt
  have kg_0 := (qg.out).cell 0 rfl
  have kg_1 := (qg.out).cell 1 rfl
  have lg := (qg.out).lt
  clear hb13
  go_wp2_with fail
  go_returns
  exact ⟨rfl, by first | exact hB13 | go_grown⟩
end Go.Proofs.Ytjdhfehffgccmaa
