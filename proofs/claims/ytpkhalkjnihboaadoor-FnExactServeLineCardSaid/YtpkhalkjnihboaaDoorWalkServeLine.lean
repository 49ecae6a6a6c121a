/-
  The walk of FnExactServeLine: the law returns true.
  Conditions: none.
-/
import Derived.Test.YtpkhalkjnihboaaDoorServe2
import Derived.Deep.RegionHeld3
namespace Go.Proofs.YtpkhalkjnihboaaDoor
open Go.ChangeShapes Go.WideShapes Go.ChangeAt Go.RowKit Go.Joins
set_option linter.unusedVariables false
set_option maxRecDepth 100000 in
set_option maxHeartbeats 2000000 in
theorem lawServeLine_walk (W : World) (r m : Int) (hT : Tab W)  :
    Calls Tryd.prog 4 #[.agg #[.int .i64 r, .int .i64 m]] W fun e w' => e = .returned (.bool true) ∧ Below W.heap.size W w' := by
  obtain ⟨V, hV⟩ : ∃ V, V = nlV r m := ⟨_, rfl⟩
  have HV := Lib.hid hV
  clear hV
  obtain ⟨R1, hR1⟩ : ∃ V, V = svR r m := ⟨_, rfl⟩
  have HR1 := Lib.hid hR1
  clear hR1
  obtain ⟨M1, hM1⟩ : ∃ V, V = svM r m := ⟨_, rfl⟩
  have HM1 := Lib.hid hM1
  clear hM1
  go_enter Tryd.func4, Tryd.ntmps4
  have hB0 : Below W.heap.size W W := Below.refl _ _
  go_wp2_with fail
  refine (toLines_any _ _ _).mono ?_
  rintro e w1 ⟨rfl, hb1⟩
  have hT1 : Below W.heap.size W w1 := Below.andThen (by go_grown) hb1
  have hS1 := hT1.size
  have hB1 : Below W.heap.size W w1 := Below.andThen hB0 hT1
  have qp : Hid (Blk w1 (W.heap.size) 23 #[.int .i64 r, .int .i64 m]) := Blk.below (w' := w1) (by repeat' (first | (refine Blk.at_ _ _ _ ?_; first | rfl | (simp; done)) | refine Blk.alloc ?_ _ | refine Blk.drewN ?_ _ | assumption)) (Nat.le_refl _) hb1
  have hSb1 := hb1.size
  try simp only [World.size_alloc] at hSb1
  have kp_0 := (qp.out).cell 0 rfl
  have kp_1 := (qp.out).cell 1 rfl
  have lp := (qp.out).lt
  clear hb1
  go_wp2_with fail
  refine (sServeLine_any r m _).mono ?_
  rw [← HV.out, ← HR1.out, ← HM1.out]
  rintro e w2 ⟨rfl, hb2⟩
  clear lp kp_0 kp_1
  have hT2 : Below w1.heap.size w1 w2 := Below.andThen (by go_grown) hb2
  have hS2 := hT2.size
  have hB2 : Below W.heap.size W w2 := Below.andThen hB1 hT2
  have qp := Lib.hid ((qp.out).below (Nat.le_refl _) hT2)
  have hSb2 := hb2.size
  try simp only [World.size_alloc] at hSb2
  have kp_0 := (qp.out).cell 0 rfl
  have kp_1 := (qp.out).cell 1 rfl
  have lp := (qp.out).lt
  clear hb2
  go_wp2_with fail
  refine (toLines_any _ _ _).mono ?_
  rintro e w3 ⟨rfl, hb3⟩
  clear lp kp_0 kp_1
  have hT3 : Below w2.heap.size w2 w3 := Below.andThen (by go_grown) hb3
  have hS3 := hT3.size
  have hB3 : Below W.heap.size W w3 := Below.andThen hB2 hT3
  have qp := Lib.hid ((qp.out).below (Nat.le_refl _) hT3)
  have qw : Hid (Blk w3 (w2.heap.size) 25 #[.int .i64 R1, .int .i64 M1]) := Blk.below (w' := w3) (by repeat' (first | (refine Blk.at_ _ _ _ ?_; first | rfl | (simp; done)) | refine Blk.alloc ?_ _ | refine Blk.drewN ?_ _ | assumption)) (Nat.le_refl _) hb3
  have hSb3 := hb3.size
  try simp only [World.size_alloc] at hSb3
  have kp_0 := (qp.out).cell 0 rfl
  have kp_1 := (qp.out).cell 1 rfl
  have lp := (qp.out).lt
  have kw_0 := (qw.out).cell 0 rfl
  have kw_1 := (qw.out).cell 1 rfl
  have lw := (qw.out).lt
  clear hb3
  go_wp2_with fail
  refine (iServeLine_any r m _ (hT.below (Nat.le_refl _) (by first | exact hB3 | go_grown))).mono ?_
  rw [← HV.out, ← HR1.out, ← HM1.out]
  rintro e w4 ⟨rfl, hb4⟩
  clear lp kp_0 kp_1
  clear lw kw_0 kw_1
  have hT4 : Below w3.heap.size w3 w4 := Below.andThen (by go_grown) hb4
  have hS4 := hT4.size
  have hB4 : Below W.heap.size W w4 := Below.andThen hB3 hT4
  have qp := Lib.hid ((qp.out).below (Nat.le_refl _) hT4)
  have qw := Lib.hid ((qw.out).below (Nat.le_refl _) hT4)
  have hSb4 := hb4.size
  try simp only [World.size_alloc] at hSb4
  have kp_0 := (qp.out).cell 0 rfl
  have kp_1 := (qp.out).cell 1 rfl
  have lp := (qp.out).lt
  have kw_0 := (qw.out).cell 0 rfl
  have kw_1 := (qw.out).cell 1 rfl
  have lw := (qw.out).lt
  clear hb4
  go_wp2_with fail
  refine (eqLines_same _ _ _).mono ?_
  rintro e w5 ⟨rfl, hb5⟩
  clear lp kp_0 kp_1
  clear lw kw_0 kw_1
  have hT5 : Below w4.heap.size w4 w5 := Below.andThen (by go_grown) hb5
  have hS5 := hT5.size
  have hB5 : Below W.heap.size W w5 := Below.andThen hB4 hT5
  have qp := Lib.hid ((qp.out).below (Nat.le_refl _) hT5)
  have qw := Lib.hid ((qw.out).below (Nat.le_refl _) hT5)
  have qg : Hid (Blk w5 (w4.heap.size) 25 #[.int .i64 R1, .int .i64 M1]) := Blk.below (w' := w5) (by repeat' (first | (refine Blk.at_ _ _ _ ?_; first | rfl | (simp; done)) | refine Blk.alloc ?_ _ | refine Blk.drewN ?_ _ | assumption)) (Nat.le_refl _) hb5
  have hSb5 := hb5.size
  try simp only [World.size_alloc] at hSb5
  have kp_0 := (qp.out).cell 0 rfl
  have kp_1 := (qp.out).cell 1 rfl
  have lp := (qp.out).lt
  have kw_0 := (qw.out).cell 0 rfl
  have kw_1 := (qw.out).cell 1 rfl
  have lw := (qw.out).lt
  have kg_0 := (qg.out).cell 0 rfl
  have kg_1 := (qg.out).cell 1 rfl
  have lg := (qg.out).lt
  clear hb5
  go_wp2_with fail
  go_returns
  exact ⟨rfl, by first | exact hB5 | go_grown⟩
end Go.Proofs.YtpkhalkjnihboaaDoor
