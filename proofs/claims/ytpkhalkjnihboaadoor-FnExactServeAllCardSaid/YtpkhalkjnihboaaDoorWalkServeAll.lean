/-
  The walk of FnExactServeAll: the law returns true.
  Conditions: none.
-/
import Derived.Test.YtpkhalkjnihboaaDoorServe2
import Derived.Deep.RegionHeld3
namespace Go.Proofs.YtpkhalkjnihboaaDoor
open Go.ChangeShapes Go.WideShapes Go.ChangeAt Go.RowKit Go.Joins
set_option linter.unusedVariables false
set_option maxRecDepth 100000 in
set_option maxHeartbeats 4000000 in
theorem lawServeAll_walk (W : World) (r m : Int) (hT : Tab W)  :
    Calls Tryd.prog 5 #[.agg #[.int .i64 r, .int .i64 m]] W fun e w' => e = .returned (.bool true) ∧ Below W.heap.size W w' := by
  obtain ⟨R, hR⟩ : ∃ R : List Int, R = serveL r m := ⟨_, rfl⟩
  have HR := Lib.hid hR
  have hRl : R.length ≤ 1048576 := by rw [hR]; have := serveL_len r m; omega
  clear hR
  go_enter Tryd.func5, Tryd.ntmps5
  have hB0 : Below W.heap.size W W := Below.refl _ _
  go_wp2_with fail
  refine (toLines_any _ _ _).mono ?_
  rintro e w1 ⟨rfl, hb1⟩
  have hT1 : Below W.heap.size W w1 := Below.andThen (by go_grown) hb1
  have hS1 := hT1.size
  have hB1 : Below W.heap.size W w1 := Below.andThen hB0 hT1
  have qp : Hid (Blk w1 (W.heap.size) 23 #[.int .i64 r, .int .i64 m]) := Blk.below (w' := w1) (by repeat' (first | (refine Blk.at_ _ _ _ ?_; first | rfl | (simp; done)) | refine Blk.alloc ?_ _ | refine Blk.drewN ?_ _ | assumption)) (Nat.le_refl _) hb1
  have hSb1 := hb1.size
  try simp only [World.size_alloc] at hSb1
  have kp_0 := (qp.out).cell 0 rfl
  have kp_1 := (qp.out).cell 1 rfl
  have lp := (qp.out).lt
  clear hb1
  go_wp2_with fail
  refine (sServeAll_any r m _).mono ?_
  rw [← HR.out]
  rintro e w2 ⟨Ahw0, chw0, rfl, hw0, hb2⟩
  clear lp kp_0 kp_1
  have hT2 : Below w1.heap.size w1 w2 := Below.andThen (by go_grown) hb2
  have hS2 := hT2.size
  have hB2 : Below W.heap.size W w2 := Below.andThen hB1 hT2
  have qp := Lib.hid ((qp.out).below (Nat.le_refl _) hT2)
  have hSb2 := hb2.size
  try simp only [World.size_alloc] at hSb2
  have kp_0 := (qp.out).cell 0 rfl
  have kp_1 := (qp.out).cell 1 rfl
  have lp := (qp.out).lt
  clear hb2
  try simp only [World.size_alloc] at hw0
  go_wp2_with fail
  refine (toLines_any _ _ _).mono ?_
  rintro e w3 ⟨rfl, hb3⟩
  clear lp kp_0 kp_1
  have hT3 : Below w2.heap.size w2 w3 := Below.andThen (by go_grown) hb3
  have hS3 := hT3.size
  have hB3 : Below W.heap.size W w3 := Below.andThen hB2 hT3
  have hw0 := hw0.below (Nat.le_refl _) hT3
  have qp := Lib.hid ((qp.out).below (Nat.le_refl _) hT3)
  have hSb3 := hb3.size
  try simp only [World.size_alloc] at hSb3
  have kp_0 := (qp.out).cell 0 rfl
  have kp_1 := (qp.out).cell 1 rfl
  have lp := (qp.out).lt
  clear hb3
  go_wp2_with fail
  refine (iServeAll_any r m _ (hT.below (Nat.le_refl _) (by first | exact hB3 | go_grown))).mono ?_
  rw [← HR.out]
  rintro e w4 ⟨Ahg0, chg0, rfl, hg0, hb4⟩
  clear lp kp_0 kp_1
  have hT4 : Below w3.heap.size w3 w4 := Below.andThen (by go_grown) hb4
  have hS4 := hT4.size
  have hB4 : Below W.heap.size W w4 := Below.andThen hB3 hT4
  have hw0 := hw0.below (Nat.le_refl _) hT4
  have qp := Lib.hid ((qp.out).below (Nat.le_refl _) hT4)
  have hSb4 := hb4.size
  try simp only [World.size_alloc] at hSb4
  have kp_0 := (qp.out).cell 0 rfl
  have kp_1 := (qp.out).cell 1 rfl
  have lp := (qp.out).lt
  clear hb4
  try simp only [World.size_alloc] at hg0
  go_wp2_with fail
  refine (eqIntS_any _ _ _ _ _ _ (R) (R) _ (by omega) (by first | exact hg0.rd | exact (hg0.rd).alloc _ | exact ((hg0.rd).alloc _).alloc _ | exact (((hg0.rd).alloc _).alloc _).alloc _) (by first | exact hw0.rd | exact (hw0.rd).alloc _ | exact ((hw0.rd).alloc _).alloc _ | exact (((hw0.rd).alloc _).alloc _).alloc _)).mono ?_
  simp only [decide_true]
  rintro e w5 ⟨rfl, hb5⟩
  clear lp kp_0 kp_1
  have hT5 : Below w4.heap.size w4 w5 := Below.andThen (by go_grown) hb5
  have hS5 := hT5.size
  have hB5 : Below W.heap.size W w5 := Below.andThen hB4 hT5
  have hw0 := hw0.below (Nat.le_refl _) hT5
  have hg0 := hg0.below (Nat.le_refl _) hT5
  have qp := Lib.hid ((qp.out).below (Nat.le_refl _) hT5)
  have hSb5 := hb5.size
  try simp only [World.size_alloc] at hSb5
  have kp_0 := (qp.out).cell 0 rfl
  have kp_1 := (qp.out).cell 1 rfl
  have lp := (qp.out).lt
  clear hb5
  go_wp2_with fail
  refine (markIntS_any _ _ _ _ 1 _ _ _ (by omega) (by omega) (by omega) (by first | exact hg0 | exact (hg0).alloc _ | exact ((hg0).alloc _).alloc _)).mono ?_
  rintro e w6 ⟨rfl, hg0, hb6⟩
  clear lp kp_0 kp_1
  have hT6 := Touch.trans (Touch.of_below (w := w5) (B := w5.heap.size) (by go_grown) (Nat.le_refl _)) hb6
  have hS6 := hT6.size
  have hB6 : Below W.heap.size W w6 := hB5.trans (hT6.below (by first | omega | (have := hB5.size; omega)) hB5.size)
  have hw0 := hw0.touch hT6 (by omega)
  have qp := Lib.hid ((qp.out).touch hT6 (by omega))
  have kp_0 := (qp.out).cell 0 rfl
  have kp_1 := (qp.out).cell 1 rfl
  have lp := (qp.out).lt
  clear hb6
  go_wp2_with fail
  refine (heldIntS_any _ _ _ 1 _ (by omega) (by omega) (by omega) (by first | exact hg0.rd | exact (hg0.rd).alloc _ | exact ((hg0.rd).alloc _).alloc _ | exact (((hg0.rd).alloc _).alloc _).alloc _)).mono ?_
  rintro e w7 ⟨rfl, hb7⟩
  clear lp kp_0 kp_1
  have hT7 : Below w6.heap.size w6 w7 := Below.andThen (by go_grown) hb7
  have hS7 := hT7.size
  have hB7 : Below W.heap.size W w7 := Below.andThen hB6 hT7
  have hw0 := hw0.below (Nat.le_refl _) hT7
  have hg0 := hg0.below (Nat.le_refl _) hT7
  have qp := Lib.hid ((qp.out).below (Nat.le_refl _) hT7)
  have hSb7 := hb7.size
  try simp only [World.size_alloc] at hSb7
  have kp_0 := (qp.out).cell 0 rfl
  have kp_1 := (qp.out).cell 1 rfl
  have lp := (qp.out).lt
  clear hb7
  go_wp2_with fail
  refine (toLines_any _ _ _).mono ?_
  rintro e w8 ⟨rfl, hb8⟩
  clear lp kp_0 kp_1
  have hT8 : Below w7.heap.size w7 w8 := Below.andThen (by go_grown) hb8
  have hS8 := hT8.size
  have hB8 : Below W.heap.size W w8 := Below.andThen hB7 hT8
  have hw0 := hw0.below (Nat.le_refl _) hT8
  have hg0 := hg0.below (Nat.le_refl _) hT8
  have qp := Lib.hid ((qp.out).below (Nat.le_refl _) hT8)
  have hSb8 := hb8.size
  try simp only [World.size_alloc] at hSb8
  have kp_0 := (qp.out).cell 0 rfl
  have kp_1 := (qp.out).cell 1 rfl
  have lp := (qp.out).lt
  clear hb8
  go_wp2_with fail
  refine (iServeAll_any r m _ (hT.below (Nat.le_refl _) (by first | exact hB8 | go_grown))).mono ?_
  rw [← HR.out]
  rintro e w9 ⟨Ahh0, chh0, rfl, hh0, hb9⟩
  clear lp kp_0 kp_1
  have hT9 : Below w8.heap.size w8 w9 := Below.andThen (by go_grown) hb9
  have hS9 := hT9.size
  have hB9 : Below W.heap.size W w9 := Below.andThen hB8 hT9
  have hw0 := hw0.below (Nat.le_refl _) hT9
  have hg0 := hg0.below (Nat.le_refl _) hT9
  have qp := Lib.hid ((qp.out).below (Nat.le_refl _) hT9)
  have hSb9 := hb9.size
  try simp only [World.size_alloc] at hSb9
  have kp_0 := (qp.out).cell 0 rfl
  have kp_1 := (qp.out).cell 1 rfl
  have lp := (qp.out).lt
  clear hb9
  try simp only [World.size_alloc] at hh0
  go_wp2_with fail
  refine (eqIntS_any _ _ _ _ _ _ (R) (R) _ (by omega) (by first | exact hh0.rd | exact (hh0.rd).alloc _ | exact ((hh0.rd).alloc _).alloc _ | exact (((hh0.rd).alloc _).alloc _).alloc _) (by first | exact hw0.rd | exact (hw0.rd).alloc _ | exact ((hw0.rd).alloc _).alloc _ | exact (((hw0.rd).alloc _).alloc _).alloc _)).mono ?_
  simp only [decide_true]
  rintro e w10 ⟨rfl, hb10⟩
  clear lp kp_0 kp_1
  have hT10 : Below w9.heap.size w9 w10 := Below.andThen (by go_grown) hb10
  have hS10 := hT10.size
  have hB10 : Below W.heap.size W w10 := Below.andThen hB9 hT10
  have hw0 := hw0.below (Nat.le_refl _) hT10
  have hg0 := hg0.below (Nat.le_refl _) hT10
  have hh0 := hh0.below (Nat.le_refl _) hT10
  have qp := Lib.hid ((qp.out).below (Nat.le_refl _) hT10)
  have hSb10 := hb10.size
  try simp only [World.size_alloc] at hSb10
  have kp_0 := (qp.out).cell 0 rfl
  have kp_1 := (qp.out).cell 1 rfl
  have lp := (qp.out).lt
  clear hb10
  go_wp2_with fail
  refine (heldIntS_any _ _ _ 1 _ (by omega) (by omega) (by omega) (by first | exact hg0.rd | exact (hg0.rd).alloc _ | exact ((hg0.rd).alloc _).alloc _ | exact (((hg0.rd).alloc _).alloc _).alloc _)).mono ?_
  rintro e w11 ⟨rfl, hb11⟩
  clear lp kp_0 kp_1
  have hT11 : Below w10.heap.size w10 w11 := Below.andThen (by go_grown) hb11
  have hS11 := hT11.size
  have hB11 : Below W.heap.size W w11 := Below.andThen hB10 hT11
  have hw0 := hw0.below (Nat.le_refl _) hT11
  have hg0 := hg0.below (Nat.le_refl _) hT11
  have hh0 := hh0.below (Nat.le_refl _) hT11
  have qp := Lib.hid ((qp.out).below (Nat.le_refl _) hT11)
  have hSb11 := hb11.size
  try simp only [World.size_alloc] at hSb11
  have kp_0 := (qp.out).cell 0 rfl
  have kp_1 := (qp.out).cell 1 rfl
  have lp := (qp.out).lt
  clear hb11
  go_wp2_with fail
  go_returns
  exact ⟨rfl, by first | exact hB11 | go_grown⟩
end Go.Proofs.YtpkhalkjnihboaaDoor
