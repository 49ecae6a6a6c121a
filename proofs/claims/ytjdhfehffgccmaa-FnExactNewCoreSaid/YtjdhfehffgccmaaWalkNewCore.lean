/-
  The walk of FnExactNewCore: the law returns true.
  Conditions: none.
-/
import Derived.Test.YtjdhfehffgccmaaNewCore
import Derived.Deep.RegionHeld3
namespace Go.Proofs.Ytjdhfehffgccmaa
open Go.ChangeShapes Go.WideShapes Go.ChangeAt Go.RowKit Go.Joins
set_option linter.unusedVariables false
set_option maxRecDepth 100000 in
set_option maxHeartbeats 4000000 in
theorem lawNewCore_walk (W : World) (m : Int)  :
    Calls Try.prog 14 #[.int .i64 m] W fun e w' => e = .returned (.bool true) ∧ Below W.heap.size W w' := by
  obtain ⟨R, hR⟩ : ∃ R : List Int, R = newC m := ⟨_, rfl⟩
  have HR := Lib.hid hR
  have hRl : R.length ≤ 1048576 := by rw [hR]; unfold newC; split <;> simp; rename_i h; have := inB_true.1 h; omega
  clear hR
  go_enter Try.func14, Try.ntmps14
  have hB0 : Below W.heap.size W W := Below.refl _ _
  go_wp2_with fail
  refine (sNewCore_any m _).mono ?_
  rw [← HR.out]
  rintro e w1 ⟨Ahw0, chw0, rfl, hw0, hw0n, hb1⟩
  have hT1 : Below W.heap.size W w1 := Below.andThen (by go_grown) hb1
  have hS1 := hT1.size
  have hB1 : Below W.heap.size W w1 := Below.andThen hB0 hT1
  have hSb1 := hb1.size
  try simp only [World.size_alloc] at hSb1
  clear hb1
  clear hw0n
  try simp only [World.size_alloc] at hw0
  go_wp2_with fail
  refine (iNewCore_any m _).mono ?_
  rw [← HR.out]
  rintro e w2 ⟨Ahg0, chg0, rfl, hg0, hg0n, hb2⟩
  have hT2 : Below w1.heap.size w1 w2 := Below.andThen (by go_grown) hb2
  have hS2 := hT2.size
  have hB2 : Below W.heap.size W w2 := Below.andThen hB1 hT2
  have hw0 := hw0.below (Nat.le_refl _) hT2
  have qbw : Hid (Blk w2 (w1.heap.size) 68 #[.slice Ahw0 R.length chw0, .int .i64 (0), .bool (false)]) := Blk.below (w' := w2) (by repeat' (first | (refine Blk.at_ _ _ _ ?_; first | rfl | (simp; done)) | refine Blk.alloc ?_ _ | refine Blk.drewN ?_ _ | assumption)) (Nat.le_refl _) hb2
  have hSb2 := hb2.size
  try simp only [World.size_alloc] at hSb2
  have kbw_0 := (qbw.out).cell 0 rfl
  have kbw_1 := (qbw.out).cell 1 rfl
  have kbw_2 := (qbw.out).cell 2 rfl
  have lbw := (qbw.out).lt
  clear hb2
  clear hg0n
  try simp only [World.size_alloc] at hg0
  go_wp2_with fail
  refine (eqCore_same _ _ _ _ _ R _ _ _ (by omega) (by first | exact hg0.rd | exact (hg0.rd).alloc _ | exact ((hg0.rd).alloc _).alloc _ | exact (((hg0.rd).alloc _).alloc _).alloc _) (by first | exact hw0.rd | exact (hw0.rd).alloc _ | exact ((hw0.rd).alloc _).alloc _ | exact (((hw0.rd).alloc _).alloc _).alloc _)).mono ?_
  rintro e w3 ⟨rfl, hb3⟩
  clear lbw kbw_0 kbw_1 kbw_2
  have hT3 : Below w2.heap.size w2 w3 := Below.andThen (by go_grown) hb3
  have hS3 := hT3.size
  have hB3 : Below W.heap.size W w3 := Below.andThen hB2 hT3
  have hw0 := hw0.below (Nat.le_refl _) hT3
  have hg0 := hg0.below (Nat.le_refl _) hT3
  have qbw := Lib.hid ((qbw.out).below (Nat.le_refl _) hT3)
  have qbg : Hid (Blk w3 (w2.heap.size) 68 #[.slice Ahg0 R.length chg0, .int .i64 (0), .bool (false)]) := Blk.below (w' := w3) (by repeat' (first | (refine Blk.at_ _ _ _ ?_; first | rfl | (simp; done)) | refine Blk.alloc ?_ _ | refine Blk.drewN ?_ _ | assumption)) (Nat.le_refl _) hb3
  have hSb3 := hb3.size
  try simp only [World.size_alloc] at hSb3
  have kbw_0 := (qbw.out).cell 0 rfl
  have kbw_1 := (qbw.out).cell 1 rfl
  have kbw_2 := (qbw.out).cell 2 rfl
  have lbw := (qbw.out).lt
  have kbg_0 := (qbg.out).cell 0 rfl
  have kbg_1 := (qbg.out).cell 1 rfl
  have kbg_2 := (qbg.out).cell 2 rfl
  have lbg := (qbg.out).lt
  clear hb3
  go_wp2_with fail
  refine (markCore_any _ _ _ _ _ _ 1 _ _ _ (by omega) (by omega) (by omega) (by first | exact hg0 | exact (hg0).alloc _ | exact ((hg0).alloc _).alloc _) (by first | omega | (simp only [World.size_alloc]; omega))).mono ?_
  rintro e w4 ⟨rfl, hg0, hb4⟩
  clear lbw kbw_0 kbw_1 kbw_2
  clear lbg kbg_0 kbg_1 kbg_2
  have hT4 := Touch.trans (Touch.of_below (w := w3) (B := w3.heap.size) (by go_grown) (Nat.le_refl _)) hb4
  have hS4 := hT4.size
  have hB4 : Below W.heap.size W w4 := hB3.trans (hT4.below (by first | omega | (have := hB3.size; omega)) hB3.size)
  have hw0 := hw0.touch hT4 (by omega)
  have qbw := Lib.hid ((qbw.out).touch hT4 (by omega))
  have qbg := Lib.hid ((qbg.out).touch hT4 (by omega))
  have kbw_0 := (qbw.out).cell 0 rfl
  have kbw_1 := (qbw.out).cell 1 rfl
  have kbw_2 := (qbw.out).cell 2 rfl
  have lbw := (qbw.out).lt
  have kbg_0 := (qbg.out).cell 0 rfl
  have kbg_1 := (qbg.out).cell 1 rfl
  have kbg_2 := (qbg.out).cell 2 rfl
  have lbg := (qbg.out).lt
  clear hb4
  go_wp2_with fail
  refine (heldCore_any _ _ _ _ _ 1 _ (by omega) (by omega) (by omega) (by first | exact hg0.rd | exact (hg0.rd).alloc _ | exact ((hg0.rd).alloc _).alloc _ | exact (((hg0.rd).alloc _).alloc _).alloc _)).mono ?_
  rintro e w5 ⟨rfl, hb5⟩
  clear lbw kbw_0 kbw_1 kbw_2
  clear lbg kbg_0 kbg_1 kbg_2
  have hT5 : Below w4.heap.size w4 w5 := Below.andThen (by go_grown) hb5
  have hS5 := hT5.size
  have hB5 : Below W.heap.size W w5 := Below.andThen hB4 hT5
  have hw0 := hw0.below (Nat.le_refl _) hT5
  have hg0 := hg0.below (Nat.le_refl _) hT5
  have qbw := Lib.hid ((qbw.out).below (Nat.le_refl _) hT5)
  have qbg := Lib.hid ((qbg.out).below (Nat.le_refl _) hT5)
  have hSb5 := hb5.size
  try simp only [World.size_alloc] at hSb5
  have kbw_0 := (qbw.out).cell 0 rfl
  have kbw_1 := (qbw.out).cell 1 rfl
  have kbw_2 := (qbw.out).cell 2 rfl
  have lbw := (qbw.out).lt
  have kbg_0 := (qbg.out).cell 0 rfl
  have kbg_1 := (qbg.out).cell 1 rfl
  have kbg_2 := (qbg.out).cell 2 rfl
  have lbg := (qbg.out).lt
  clear hb5
  go_wp2_with fail
  refine (iNewCore_any m _).mono ?_
  rw [← HR.out]
  rintro e w6 ⟨Ahh0, chh0, rfl, hh0, hh0n, hb6⟩
  clear lbw kbw_0 kbw_1 kbw_2
  clear lbg kbg_0 kbg_1 kbg_2
  have hT6 : Below w5.heap.size w5 w6 := Below.andThen (by go_grown) hb6
  have hS6 := hT6.size
  have hB6 : Below W.heap.size W w6 := Below.andThen hB5 hT6
  have hw0 := hw0.below (Nat.le_refl _) hT6
  have hg0 := hg0.below (Nat.le_refl _) hT6
  have qbw := Lib.hid ((qbw.out).below (Nat.le_refl _) hT6)
  have qbg := Lib.hid ((qbg.out).below (Nat.le_refl _) hT6)
  have hSb6 := hb6.size
  try simp only [World.size_alloc] at hSb6
  have kbw_0 := (qbw.out).cell 0 rfl
  have kbw_1 := (qbw.out).cell 1 rfl
  have kbw_2 := (qbw.out).cell 2 rfl
  have lbw := (qbw.out).lt
  have kbg_0 := (qbg.out).cell 0 rfl
  have kbg_1 := (qbg.out).cell 1 rfl
  have kbg_2 := (qbg.out).cell 2 rfl
  have lbg := (qbg.out).lt
  clear hb6
  clear hh0n
  try simp only [World.size_alloc] at hh0
  go_wp2_with fail
  refine (eqCore_same _ _ _ _ _ R _ _ _ (by omega) (by first | exact hh0.rd | exact (hh0.rd).alloc _ | exact ((hh0.rd).alloc _).alloc _ | exact (((hh0.rd).alloc _).alloc _).alloc _) (by first | exact hw0.rd | exact (hw0.rd).alloc _ | exact ((hw0.rd).alloc _).alloc _ | exact (((hw0.rd).alloc _).alloc _).alloc _)).mono ?_
  rintro e w7 ⟨rfl, hb7⟩
  clear lbw kbw_0 kbw_1 kbw_2
  clear lbg kbg_0 kbg_1 kbg_2
  have hT7 : Below w6.heap.size w6 w7 := Below.andThen (by go_grown) hb7
  have hS7 := hT7.size
  have hB7 : Below W.heap.size W w7 := Below.andThen hB6 hT7
  have hw0 := hw0.below (Nat.le_refl _) hT7
  have hg0 := hg0.below (Nat.le_refl _) hT7
  have hh0 := hh0.below (Nat.le_refl _) hT7
  have qbw := Lib.hid ((qbw.out).below (Nat.le_refl _) hT7)
  have qbg := Lib.hid ((qbg.out).below (Nat.le_refl _) hT7)
  have qbh : Hid (Blk w7 (w6.heap.size) 68 #[.slice Ahh0 R.length chh0, .int .i64 (0), .bool (false)]) := Blk.below (w' := w7) (by repeat' (first | (refine Blk.at_ _ _ _ ?_; first | rfl | (simp; done)) | refine Blk.alloc ?_ _ | refine Blk.drewN ?_ _ | assumption)) (Nat.le_refl _) hb7
  have hSb7 := hb7.size
  try simp only [World.size_alloc] at hSb7
  have kbw_0 := (qbw.out).cell 0 rfl
  have kbw_1 := (qbw.out).cell 1 rfl
  have kbw_2 := (qbw.out).cell 2 rfl
  have lbw := (qbw.out).lt
  have kbg_0 := (qbg.out).cell 0 rfl
  have kbg_1 := (qbg.out).cell 1 rfl
  have kbg_2 := (qbg.out).cell 2 rfl
  have lbg := (qbg.out).lt
  have kbh_0 := (qbh.out).cell 0 rfl
  have kbh_1 := (qbh.out).cell 1 rfl
  have kbh_2 := (qbh.out).cell 2 rfl
  have lbh := (qbh.out).lt
  clear hb7
  go_wp2_with fail
  refine (heldCore_any _ _ _ _ _ 1 _ (by omega) (by omega) (by omega) (by first | exact hg0.rd | exact (hg0.rd).alloc _ | exact ((hg0.rd).alloc _).alloc _ | exact (((hg0.rd).alloc _).alloc _).alloc _)).mono ?_
  rintro e w8 ⟨rfl, hb8⟩
  clear lbw kbw_0 kbw_1 kbw_2
  clear lbg kbg_0 kbg_1 kbg_2
  clear lbh kbh_0 kbh_1 kbh_2
  have hT8 : Below w7.heap.size w7 w8 := Below.andThen (by go_grown) hb8
  have hS8 := hT8.size
  have hB8 : Below W.heap.size W w8 := Below.andThen hB7 hT8
  have hw0 := hw0.below (Nat.le_refl _) hT8
  have hg0 := hg0.below (Nat.le_refl _) hT8
  have hh0 := hh0.below (Nat.le_refl _) hT8
  have qbw := Lib.hid ((qbw.out).below (Nat.le_refl _) hT8)
  have qbg := Lib.hid ((qbg.out).below (Nat.le_refl _) hT8)
  have qbh := Lib.hid ((qbh.out).below (Nat.le_refl _) hT8)
  have hSb8 := hb8.size
  try simp only [World.size_alloc] at hSb8
  have kbw_0 := (qbw.out).cell 0 rfl
  have kbw_1 := (qbw.out).cell 1 rfl
  have kbw_2 := (qbw.out).cell 2 rfl
  have lbw := (qbw.out).lt
  have kbg_0 := (qbg.out).cell 0 rfl
  have kbg_1 := (qbg.out).cell 1 rfl
  have kbg_2 := (qbg.out).cell 2 rfl
  have lbg := (qbg.out).lt
  have kbh_0 := (qbh.out).cell 0 rfl
  have kbh_1 := (qbh.out).cell 1 rfl
  have kbh_2 := (qbh.out).cell 2 rfl
  have lbh := (qbh.out).lt
  clear hb8
  go_wp2_with fail
  go_returns
  exact ⟨rfl, by first | exact hB8 | go_grown⟩
end Go.Proofs.Ytjdhfehffgccmaa
