/-
  The walk of FnExactHealthStep: the law returns true.
  Conditions: none.
-/
import Derived.Test.YtjdhfehffgccmaaHealth3
namespace Go.Proofs.Ytjdhfehffgccmaa
open Go.ChangeShapes Go.WideShapes Go.ChangeAt Go.RowKit Go.Joins
set_option linter.unusedVariables false
set_option maxHeartbeats 4000000 in
theorem lawHealthStep_walk (W : World) (f : Bool) (r : Int) (A : Option Addr) (n c : Nat) (zs : List Int) (hn : zs.length = n) (hm : n ≤ maxLen) (hr : Rd W 1 A n (ints zs)) (fault : Int)  :
    Calls Try.prog 4 #[.agg #[.bool f, .int .i64 r], .slice A n c, .int .i64 fault] W fun e w' => e = .returned (.bool true) ∧ Below W.heap.size W w' := by
  unfold maxLen at hm
  have HN := Lib.hid hn
  clear hn
  by_cases hbig0 : 1048576 < n
  · go_enter Try.func4, Try.ntmps4
    go_wp2
    go_returns
    exact ⟨rfl, by go_grown⟩
  cases hno : (healthValid f r && (tableOk zs && inB fault 0 3))
  · skip
    go_enter Try.func4, Try.ntmps4
    have hB0 : Below W.heap.size W W := Below.refl _ _
    go_wp2_with fail
    refine (toHealth_any _ _ _).mono ?_
    rintro e w1 ⟨rfl, hb1⟩
    have hT1 : Below W.heap.size W w1 := Below.andThen (by go_grown) hb1
    have hS1 := hT1.size
    have hB1 : Below W.heap.size W w1 := Below.andThen hB0 hT1
    have qp : Hid (Blk w1 (W.heap.size) 23 #[.bool f, .int .i64 r]) := Blk.below (w' := w1) (by repeat' (first | (refine Blk.at_ _ _ _ ?_; first | rfl | (simp; done)) | refine Blk.alloc ?_ _ | refine Blk.drewN ?_ _ | assumption)) (Nat.le_refl _) hb1
    have hSb1 := hb1.size
    try simp only [World.size_alloc] at hSb1
    have kp_0 := (qp.out).cell 0 rfl
    have kp_1 := (qp.out).cell 1 rfl
    have lp := (qp.out).lt
    clear hb1
    go_wp2_with fail
    refine (toIntS_any A n _ zs _ (by omega) (hr.below (Nat.le_refl _) (by first | exact hB1 | go_grown))).mono ?_
    rintro e w2 ⟨rfl, hf0, hb2⟩
    clear lp kp_0 kp_1
    have hT2 : Below w1.heap.size w1 w2 := Below.andThen (by go_grown) hb2
    have hS2 := hT2.size
    have hB2 : Below W.heap.size W w2 := Below.andThen hB1 hT2
    have qp := Lib.hid ((qp.out).below (Nat.le_refl _) hT2)
    have hSb2 := hb2.size
    try simp only [World.size_alloc] at hSb2
    have kp_0 := (qp.out).cell 0 rfl
    have kp_1 := (qp.out).cell 1 rfl
    have lp := (qp.out).lt
    clear hb2
    have hf0 := Fr.of_own hf0
    try simp only [World.size_alloc] at hf0
    go_wp2_with fail
    refine (sHealthStep_no f r _ _ _ zs fault _ (by omega) hf0.rd hno).mono ?_
    rintro e w3 ⟨rfl, hb3⟩
    clear lp kp_0 kp_1
    have hT3 : Below w2.heap.size w2 w3 := Below.andThen (by go_grown) hb3
    have hS3 := hT3.size
    have hB3 : Below W.heap.size W w3 := Below.andThen hB2 hT3
    have hf0 := hf0.below (Nat.le_refl _) hT3
    have qp := Lib.hid ((qp.out).below (Nat.le_refl _) hT3)
    have hSb3 := hb3.size
    try simp only [World.size_alloc] at hSb3
    have kp_0 := (qp.out).cell 0 rfl
    have kp_1 := (qp.out).cell 1 rfl
    have lp := (qp.out).lt
    clear hb3
    go_wp2_with fail
    refine (toIntS_any A n _ zs _ (by omega) (hr.below (Nat.le_refl _) (by first | exact hB3 | go_grown))).mono ?_
    rintro e w4 ⟨rfl, hf1, hb4⟩
    clear lp kp_0 kp_1
    have hT4 : Below w3.heap.size w3 w4 := Below.andThen (by go_grown) hb4
    have hS4 := hT4.size
    have hB4 : Below W.heap.size W w4 := Below.andThen hB3 hT4
    have hf0 := hf0.below (Nat.le_refl _) hT4
    have qp := Lib.hid ((qp.out).below (Nat.le_refl _) hT4)
    have qw : Hid (Blk w4 (w3.heap.size) 26 #[.bool false, .int .i64 0]) := Blk.below (w' := w4) (by repeat' (first | (refine Blk.at_ _ _ _ ?_; first | rfl | (simp; done)) | refine Blk.alloc ?_ _ | refine Blk.drewN ?_ _ | assumption)) (Nat.le_refl _) hb4
    have hSb4 := hb4.size
    try simp only [World.size_alloc] at hSb4
    have kp_0 := (qp.out).cell 0 rfl
    have kp_1 := (qp.out).cell 1 rfl
    have lp := (qp.out).lt
    have kw_0 := (qw.out).cell 0 rfl
    have kw_1 := (qw.out).cell 1 rfl
    have lw := (qw.out).lt
    clear hb4
    have hf1 := Fr.of_own hf1
    try simp only [World.size_alloc] at hf1
    go_wp2_with fail
    refine (toHealth_any _ _ _).mono ?_
    rintro e w5 ⟨rfl, hb5⟩
    clear lp kp_0 kp_1
    clear lw kw_0 kw_1
    have hT5 : Below w4.heap.size w4 w5 := Below.andThen (by go_grown) hb5
    have hS5 := hT5.size
    have hB5 : Below W.heap.size W w5 := Below.andThen hB4 hT5
    have hf0 := hf0.below (Nat.le_refl _) hT5
    have hf1 := hf1.below (Nat.le_refl _) hT5
    have qp := Lib.hid ((qp.out).below (Nat.le_refl _) hT5)
    have qw := Lib.hid ((qw.out).below (Nat.le_refl _) hT5)
    have hSb5 := hb5.size
    try simp only [World.size_alloc] at hSb5
    have kp_0 := (qp.out).cell 0 rfl
    have kp_1 := (qp.out).cell 1 rfl
    have lp := (qp.out).lt
    have kw_0 := (qw.out).cell 0 rfl
    have kw_1 := (qw.out).cell 1 rfl
    have lw := (qw.out).lt
    clear hb5
    go_wp2_with fail
    refine (iHealthStep_no f r _ _ _ zs fault _ (by omega) hf1.rd hno).mono ?_
    rintro e w6 ⟨rfl, hb6⟩
    clear lp kp_0 kp_1
    clear lw kw_0 kw_1
    have hT6 : Below w5.heap.size w5 w6 := Below.andThen (by go_grown) hb6
    have hS6 := hT6.size
    have hB6 : Below W.heap.size W w6 := Below.andThen hB5 hT6
    have hf0 := hf0.below (Nat.le_refl _) hT6
    have hf1 := hf1.below (Nat.le_refl _) hT6
    have qp := Lib.hid ((qp.out).below (Nat.le_refl _) hT6)
    have qw := Lib.hid ((qw.out).below (Nat.le_refl _) hT6)
    have hSb6 := hb6.size
    try simp only [World.size_alloc] at hSb6
    have kp_0 := (qp.out).cell 0 rfl
    have kp_1 := (qp.out).cell 1 rfl
    have lp := (qp.out).lt
    have kw_0 := (qw.out).cell 0 rfl
    have kw_1 := (qw.out).cell 1 rfl
    have lw := (qw.out).lt
    clear hb6
    go_wp2_with fail
    refine (eqHealth_same _ _ _).mono ?_
    rintro e w7 ⟨rfl, hb7⟩
    clear lp kp_0 kp_1
    clear lw kw_0 kw_1
    have hT7 : Below w6.heap.size w6 w7 := Below.andThen (by go_grown) hb7
    have hS7 := hT7.size
    have hB7 : Below W.heap.size W w7 := Below.andThen hB6 hT7
    have hf0 := hf0.below (Nat.le_refl _) hT7
    have hf1 := hf1.below (Nat.le_refl _) hT7
    have qp := Lib.hid ((qp.out).below (Nat.le_refl _) hT7)
    have qw := Lib.hid ((qw.out).below (Nat.le_refl _) hT7)
    have qg : Hid (Blk w7 (w6.heap.size) 26 #[.bool false, .int .i64 0]) := Blk.below (w' := w7) (by repeat' (first | (refine Blk.at_ _ _ _ ?_; first | rfl | (simp; done)) | refine Blk.alloc ?_ _ | refine Blk.drewN ?_ _ | assumption)) (Nat.le_refl _) hb7
    have hSb7 := hb7.size
    try simp only [World.size_alloc] at hSb7
    have kp_0 := (qp.out).cell 0 rfl
    have kp_1 := (qp.out).cell 1 rfl
    have lp := (qp.out).lt
    have kw_0 := (qw.out).cell 0 rfl
    have kw_1 := (qw.out).cell 1 rfl
    have lw := (qw.out).lt
    have kg_0 := (qg.out).cell 0 rfl
    have kg_1 := (qg.out).cell 1 rfl
    have lg := (qg.out).lt
    clear hb7
    go_wp2_with fail
    refine (toIntS_any A n _ zs _ (by omega) (hr.below (Nat.le_refl _) (by first | exact hB7 | go_grown))).mono ?_
    rintro e w8 ⟨rfl, hf2, hb8⟩
    clear lp kp_0 kp_1
    clear lw kw_0 kw_1
    clear lg kg_0 kg_1
    have hT8 : Below w7.heap.size w7 w8 := Below.andThen (by go_grown) hb8
    have hS8 := hT8.size
    have hB8 : Below W.heap.size W w8 := Below.andThen hB7 hT8
    have hf0 := hf0.below (Nat.le_refl _) hT8
    have hf1 := hf1.below (Nat.le_refl _) hT8
    have qp := Lib.hid ((qp.out).below (Nat.le_refl _) hT8)
    have qw := Lib.hid ((qw.out).below (Nat.le_refl _) hT8)
    have qg := Lib.hid ((qg.out).below (Nat.le_refl _) hT8)
    have hSb8 := hb8.size
    try simp only [World.size_alloc] at hSb8
    have kp_0 := (qp.out).cell 0 rfl
    have kp_1 := (qp.out).cell 1 rfl
    have lp := (qp.out).lt
    have kw_0 := (qw.out).cell 0 rfl
    have kw_1 := (qw.out).cell 1 rfl
    have lw := (qw.out).lt
    have kg_0 := (qg.out).cell 0 rfl
    have kg_1 := (qg.out).cell 1 rfl
    have lg := (qg.out).lt
    clear hb8
    have hf2 := Fr.of_own hf2
    try simp only [World.size_alloc] at hf2
    go_wp2_with fail
    refine (eqIntS_any _ _ _ _ _ _ (zs) (zs) _ (by omega) hf1.rd hf2.rd).mono ?_
    simp only [decide_true]
    rintro e w9 ⟨rfl, hb9⟩
    clear lp kp_0 kp_1
    clear lw kw_0 kw_1
    clear lg kg_0 kg_1
    have hT9 : Below w8.heap.size w8 w9 := Below.andThen (by go_grown) hb9
    have hS9 := hT9.size
    have hB9 : Below W.heap.size W w9 := Below.andThen hB8 hT9
    have hf0 := hf0.below (Nat.le_refl _) hT9
    have hf1 := hf1.below (Nat.le_refl _) hT9
    have hf2 := hf2.below (Nat.le_refl _) hT9
    have qp := Lib.hid ((qp.out).below (Nat.le_refl _) hT9)
    have qw := Lib.hid ((qw.out).below (Nat.le_refl _) hT9)
    have qg := Lib.hid ((qg.out).below (Nat.le_refl _) hT9)
    have hSb9 := hb9.size
    try simp only [World.size_alloc] at hSb9
    have kp_0 := (qp.out).cell 0 rfl
    have kp_1 := (qp.out).cell 1 rfl
    have lp := (qp.out).lt
    have kw_0 := (qw.out).cell 0 rfl
    have kw_1 := (qw.out).cell 1 rfl
    have lw := (qw.out).lt
    have kg_0 := (qg.out).cell 0 rfl
    have kg_1 := (qg.out).cell 1 rfl
    have lg := (qg.out).lt
    clear hb9
    go_wp2_with fail
    go_returns
    exact ⟨rfl, by first | exact hB9 | go_grown⟩
  · skip
    obtain ⟨hv, hno2⟩ := Bool.and_eq_true_iff.1 hno
    obtain ⟨ht, hf⟩ := Bool.and_eq_true_iff.1 hno2
    go_enter Try.func4, Try.ntmps4
    have hB0 : Below W.heap.size W W := Below.refl _ _
    go_wp2_with fail
    refine (toHealth_any _ _ _).mono ?_
    rintro e w1 ⟨rfl, hb1⟩
    have hT1 : Below W.heap.size W w1 := Below.andThen (by go_grown) hb1
    have hS1 := hT1.size
    have hB1 : Below W.heap.size W w1 := Below.andThen hB0 hT1
    have qp : Hid (Blk w1 (W.heap.size) 23 #[.bool f, .int .i64 r]) := Blk.below (w' := w1) (by repeat' (first | (refine Blk.at_ _ _ _ ?_; first | rfl | (simp; done)) | refine Blk.alloc ?_ _ | refine Blk.drewN ?_ _ | assumption)) (Nat.le_refl _) hb1
    have hSb1 := hb1.size
    try simp only [World.size_alloc] at hSb1
    have kp_0 := (qp.out).cell 0 rfl
    have kp_1 := (qp.out).cell 1 rfl
    have lp := (qp.out).lt
    clear hb1
    go_wp2_with fail
    refine (toIntS_any A n _ zs _ (by omega) (hr.below (Nat.le_refl _) (by first | exact hB1 | go_grown))).mono ?_
    rintro e w2 ⟨rfl, hf0, hb2⟩
    clear lp kp_0 kp_1
    have hT2 : Below w1.heap.size w1 w2 := Below.andThen (by go_grown) hb2
    have hS2 := hT2.size
    have hB2 : Below W.heap.size W w2 := Below.andThen hB1 hT2
    have qp := Lib.hid ((qp.out).below (Nat.le_refl _) hT2)
    have hSb2 := hb2.size
    try simp only [World.size_alloc] at hSb2
    have kp_0 := (qp.out).cell 0 rfl
    have kp_1 := (qp.out).cell 1 rfl
    have lp := (qp.out).lt
    clear hb2
    have hf0 := Fr.of_own hf0
    try simp only [World.size_alloc] at hf0
    go_wp2_with fail
    refine (sHealthStep_yes f r _ _ _ zs fault _ (by omega) hf0.rd hv ht hf).mono ?_
    rintro e w3 ⟨rfl, hb3⟩
    clear lp kp_0 kp_1
    have hT3 : Below w2.heap.size w2 w3 := Below.andThen (by go_grown) hb3
    have hS3 := hT3.size
    have hB3 : Below W.heap.size W w3 := Below.andThen hB2 hT3
    have hf0 := hf0.below (Nat.le_refl _) hT3
    have qp := Lib.hid ((qp.out).below (Nat.le_refl _) hT3)
    have hSb3 := hb3.size
    try simp only [World.size_alloc] at hSb3
    have kp_0 := (qp.out).cell 0 rfl
    have kp_1 := (qp.out).cell 1 rfl
    have lp := (qp.out).lt
    clear hb3
    go_wp2_with fail
    refine (toIntS_any A n _ zs _ (by omega) (hr.below (Nat.le_refl _) (by first | exact hB3 | go_grown))).mono ?_
    rintro e w4 ⟨rfl, hf1, hb4⟩
    clear lp kp_0 kp_1
    have hT4 : Below w3.heap.size w3 w4 := Below.andThen (by go_grown) hb4
    have hS4 := hT4.size
    have hB4 : Below W.heap.size W w4 := Below.andThen hB3 hT4
    have hf0 := hf0.below (Nat.le_refl _) hT4
    have qp := Lib.hid ((qp.out).below (Nat.le_refl _) hT4)
    have qw : Hid (Blk w4 (w3.heap.size) 26 #[.bool (stepF f (actOf zs fault) fault r), .int .i64 (stepR f (actOf zs fault) fault r)]) := Blk.below (w' := w4) (by repeat' (first | (refine Blk.at_ _ _ _ ?_; first | rfl | (simp; done)) | refine Blk.alloc ?_ _ | refine Blk.drewN ?_ _ | assumption)) (Nat.le_refl _) hb4
    have hSb4 := hb4.size
    try simp only [World.size_alloc] at hSb4
    have kp_0 := (qp.out).cell 0 rfl
    have kp_1 := (qp.out).cell 1 rfl
    have lp := (qp.out).lt
    have kw_0 := (qw.out).cell 0 rfl
    have kw_1 := (qw.out).cell 1 rfl
    have lw := (qw.out).lt
    clear hb4
    have hf1 := Fr.of_own hf1
    try simp only [World.size_alloc] at hf1
    go_wp2_with fail
    refine (toHealth_any _ _ _).mono ?_
    rintro e w5 ⟨rfl, hb5⟩
    clear lp kp_0 kp_1
    clear lw kw_0 kw_1
    have hT5 : Below w4.heap.size w4 w5 := Below.andThen (by go_grown) hb5
    have hS5 := hT5.size
    have hB5 : Below W.heap.size W w5 := Below.andThen hB4 hT5
    have hf0 := hf0.below (Nat.le_refl _) hT5
    have hf1 := hf1.below (Nat.le_refl _) hT5
    have qp := Lib.hid ((qp.out).below (Nat.le_refl _) hT5)
    have qw := Lib.hid ((qw.out).below (Nat.le_refl _) hT5)
    have hSb5 := hb5.size
    try simp only [World.size_alloc] at hSb5
    have kp_0 := (qp.out).cell 0 rfl
    have kp_1 := (qp.out).cell 1 rfl
    have lp := (qp.out).lt
    have kw_0 := (qw.out).cell 0 rfl
    have kw_1 := (qw.out).cell 1 rfl
    have lw := (qw.out).lt
    clear hb5
    go_wp2_with fail
    refine (iHealthStep_yes f r _ _ _ zs fault _ (by omega) hf1.rd hv ht hf).mono ?_
    rintro e w6 ⟨rfl, hb6⟩
    clear lp kp_0 kp_1
    clear lw kw_0 kw_1
    have hT6 : Below w5.heap.size w5 w6 := Below.andThen (by go_grown) hb6
    have hS6 := hT6.size
    have hB6 : Below W.heap.size W w6 := Below.andThen hB5 hT6
    have hf0 := hf0.below (Nat.le_refl _) hT6
    have hf1 := hf1.below (Nat.le_refl _) hT6
    have qp := Lib.hid ((qp.out).below (Nat.le_refl _) hT6)
    have qw := Lib.hid ((qw.out).below (Nat.le_refl _) hT6)
    have hSb6 := hb6.size
    try simp only [World.size_alloc] at hSb6
    have kp_0 := (qp.out).cell 0 rfl
    have kp_1 := (qp.out).cell 1 rfl
    have lp := (qp.out).lt
    have kw_0 := (qw.out).cell 0 rfl
    have kw_1 := (qw.out).cell 1 rfl
    have lw := (qw.out).lt
    clear hb6
    go_wp2_with fail
    refine (eqHealth_same _ _ _).mono ?_
    rintro e w7 ⟨rfl, hb7⟩
    clear lp kp_0 kp_1
    clear lw kw_0 kw_1
    have hT7 : Below w6.heap.size w6 w7 := Below.andThen (by go_grown) hb7
    have hS7 := hT7.size
    have hB7 : Below W.heap.size W w7 := Below.andThen hB6 hT7
    have hf0 := hf0.below (Nat.le_refl _) hT7
    have hf1 := hf1.below (Nat.le_refl _) hT7
    have qp := Lib.hid ((qp.out).below (Nat.le_refl _) hT7)
    have qw := Lib.hid ((qw.out).below (Nat.le_refl _) hT7)
    have qg : Hid (Blk w7 (w6.heap.size) 26 #[.bool (stepF f (actOf zs fault) fault r), .int .i64 (stepR f (actOf zs fault) fault r)]) := Blk.below (w' := w7) (by repeat' (first | (refine Blk.at_ _ _ _ ?_; first | rfl | (simp; done)) | refine Blk.alloc ?_ _ | refine Blk.drewN ?_ _ | assumption)) (Nat.le_refl _) hb7
    have hSb7 := hb7.size
    try simp only [World.size_alloc] at hSb7
    have kp_0 := (qp.out).cell 0 rfl
    have kp_1 := (qp.out).cell 1 rfl
    have lp := (qp.out).lt
    have kw_0 := (qw.out).cell 0 rfl
    have kw_1 := (qw.out).cell 1 rfl
    have lw := (qw.out).lt
    have kg_0 := (qg.out).cell 0 rfl
    have kg_1 := (qg.out).cell 1 rfl
    have lg := (qg.out).lt
    clear hb7
    go_wp2_with fail
    refine (toIntS_any A n _ zs _ (by omega) (hr.below (Nat.le_refl _) (by first | exact hB7 | go_grown))).mono ?_
    rintro e w8 ⟨rfl, hf2, hb8⟩
    clear lp kp_0 kp_1
    clear lw kw_0 kw_1
    clear lg kg_0 kg_1
    have hT8 : Below w7.heap.size w7 w8 := Below.andThen (by go_grown) hb8
    have hS8 := hT8.size
    have hB8 : Below W.heap.size W w8 := Below.andThen hB7 hT8
    have hf0 := hf0.below (Nat.le_refl _) hT8
    have hf1 := hf1.below (Nat.le_refl _) hT8
    have qp := Lib.hid ((qp.out).below (Nat.le_refl _) hT8)
    have qw := Lib.hid ((qw.out).below (Nat.le_refl _) hT8)
    have qg := Lib.hid ((qg.out).below (Nat.le_refl _) hT8)
    have hSb8 := hb8.size
    try simp only [World.size_alloc] at hSb8
    have kp_0 := (qp.out).cell 0 rfl
    have kp_1 := (qp.out).cell 1 rfl
    have lp := (qp.out).lt
    have kw_0 := (qw.out).cell 0 rfl
    have kw_1 := (qw.out).cell 1 rfl
    have lw := (qw.out).lt
    have kg_0 := (qg.out).cell 0 rfl
    have kg_1 := (qg.out).cell 1 rfl
    have lg := (qg.out).lt
    clear hb8
    have hf2 := Fr.of_own hf2
    try simp only [World.size_alloc] at hf2
    go_wp2_with fail
    refine (eqIntS_any _ _ _ _ _ _ (zs) (zs) _ (by omega) hf1.rd hf2.rd).mono ?_
    simp only [decide_true]
    rintro e w9 ⟨rfl, hb9⟩
    clear lp kp_0 kp_1
    clear lw kw_0 kw_1
    clear lg kg_0 kg_1
    have hT9 : Below w8.heap.size w8 w9 := Below.andThen (by go_grown) hb9
    have hS9 := hT9.size
    have hB9 : Below W.heap.size W w9 := Below.andThen hB8 hT9
    have hf0 := hf0.below (Nat.le_refl _) hT9
    have hf1 := hf1.below (Nat.le_refl _) hT9
    have hf2 := hf2.below (Nat.le_refl _) hT9
    have qp := Lib.hid ((qp.out).below (Nat.le_refl _) hT9)
    have qw := Lib.hid ((qw.out).below (Nat.le_refl _) hT9)
    have qg := Lib.hid ((qg.out).below (Nat.le_refl _) hT9)
    have hSb9 := hb9.size
    try simp only [World.size_alloc] at hSb9
    have kp_0 := (qp.out).cell 0 rfl
    have kp_1 := (qp.out).cell 1 rfl
    have lp := (qp.out).lt
    have kw_0 := (qw.out).cell 0 rfl
    have kw_1 := (qw.out).cell 1 rfl
    have lw := (qw.out).lt
    have kg_0 := (qg.out).cell 0 rfl
    have kg_1 := (qg.out).cell 1 rfl
    have lg := (qg.out).lt
    clear hb9
    go_wp2_with fail
    go_returns
    exact ⟨rfl, by first | exact hB9 | go_grown⟩
end Go.Proofs.Ytjdhfehffgccmaa
