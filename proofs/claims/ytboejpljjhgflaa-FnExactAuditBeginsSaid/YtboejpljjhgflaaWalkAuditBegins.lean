/-
  The walk of FnExactAuditBegins: the law returns true.
  Conditions: none.
-/
import Derived.Test.YtboejpljjhgflaaBegins2
import Derived.Test.YtboejpljjhgflaaSAuditC
import Derived.Deep.RegionHeld3
namespace Go.Proofs.Ytboejpljjhgflaa
open Go.ChangeShapes Go.WideShapes Go.ChangeAt Go.RowKit Go.Joins
set_option linter.unusedVariables false
set_option maxRecDepth 100000 in
set_option maxHeartbeats 4000000 in
theorem lawAuditBegins_walk (W : World) (xa_0 : Int) (Aa : Option Addr) (na ca : Nat) (zsa : List Int) (hna : zsa.length = na) (hma : na ≤ maxLen) (hra : Rd W 1 Aa na (ints zsa)) (xa_2 : Int) (xb_0 : Int) (Ab : Option Addr) (nb cb : Nat) (zsb : List Int) (hnb : zsb.length = nb) (hmb : nb ≤ maxLen) (hrb : Rd W 1 Ab nb (ints zsb)) (xb_2 : Int)  :
    Calls Try.prog 3 #[.agg #[.int .i64 xa_0, .slice Aa na ca, .int .i64 xa_2], .agg #[.int .i64 xb_0, .slice Ab nb cb, .int .i64 xb_2]] W fun e w' => e = .returned (.bool true) ∧ Below W.heap.size W w' := by
  unfold maxLen at hma
  subst hna
  unfold maxLen at hmb
  subst hnb
  by_cases hz0 : 1048576 < zsa.length
  · skip
    go_enter Try.func3, Try.ntmps3
    have hB0 : Below W.heap.size W W := Below.refl _ _
    go_wp2_with fail
    refine (szAudit_any _ _ _ _ zsa _ (1048576) _ (by omega) (by omega) (by omega)).mono ?_
    rw [if_neg (by omega)]
    rintro e w1 ⟨rfl, hb1⟩
    have hT1 : Below W.heap.size W w1 := Below.andThen (by go_grown) hb1
    have hS1 := hT1.size
    have hB1 : Below W.heap.size W w1 := Below.andThen hB0 hT1
    have qp0 : Hid (Blk w1 (W.heap.size) 24 #[.int .i64 xa_0, .slice Aa zsa.length ca, .int .i64 xa_2]) := Blk.below (w' := w1) (by repeat' (first | (refine Blk.at_ _ _ _ ?_; first | rfl | (simp; done)) | refine Blk.alloc ?_ _ | refine Blk.drewN ?_ _ | assumption)) (Nat.le_refl _) hb1
    have qp1 : Hid (Blk w1 (W.heap.size + 1) 24 #[.int .i64 xb_0, .slice Ab zsb.length cb, .int .i64 xb_2]) := Blk.below (w' := w1) (by repeat' (first | (refine Blk.at_ _ _ _ ?_; first | rfl | (simp; done)) | refine Blk.alloc ?_ _ | refine Blk.drewN ?_ _ | assumption)) (Nat.le_refl _) hb1
    have hSb1 := hb1.size
    try simp only [World.size_alloc] at hSb1
    have kp0_0 := (qp0.out).cell 0 rfl
    have kp0_1 := (qp0.out).cell 1 rfl
    have kp0_2 := (qp0.out).cell 2 rfl
    have lp0 := (qp0.out).lt
    have kp1_0 := (qp1.out).cell 0 rfl
    have kp1_1 := (qp1.out).cell 1 rfl
    have kp1_2 := (qp1.out).cell 2 rfl
    have lp1 := (qp1.out).lt
    clear hb1
    go_wp2_with fail
    go_returns
    exact ⟨rfl, by first | exact hB1 | go_grown⟩
  by_cases hz1 : 1048576 < zsa.length + zsb.length
  · skip
    go_enter Try.func3, Try.ntmps3
    have hB0 : Below W.heap.size W W := Below.refl _ _
    go_wp2_with fail
    refine (szAudit_any _ _ _ _ zsa _ (1048576) _ (by omega) (by omega) (by omega)).mono ?_
    rw [if_pos (by omega)]
    rintro e w1 ⟨rfl, hb1⟩
    have hT1 : Below W.heap.size W w1 := Below.andThen (by go_grown) hb1
    have hS1 := hT1.size
    have hB1 : Below W.heap.size W w1 := Below.andThen hB0 hT1
    have qp0 : Hid (Blk w1 (W.heap.size) 24 #[.int .i64 xa_0, .slice Aa zsa.length ca, .int .i64 xa_2]) := Blk.below (w' := w1) (by repeat' (first | (refine Blk.at_ _ _ _ ?_; first | rfl | (simp; done)) | refine Blk.alloc ?_ _ | refine Blk.drewN ?_ _ | assumption)) (Nat.le_refl _) hb1
    have qp1 : Hid (Blk w1 (W.heap.size + 1) 24 #[.int .i64 xb_0, .slice Ab zsb.length cb, .int .i64 xb_2]) := Blk.below (w' := w1) (by repeat' (first | (refine Blk.at_ _ _ _ ?_; first | rfl | (simp; done)) | refine Blk.alloc ?_ _ | refine Blk.drewN ?_ _ | assumption)) (Nat.le_refl _) hb1
    have hSb1 := hb1.size
    try simp only [World.size_alloc] at hSb1
    have kp0_0 := (qp0.out).cell 0 rfl
    have kp0_1 := (qp0.out).cell 1 rfl
    have kp0_2 := (qp0.out).cell 2 rfl
    have lp0 := (qp0.out).lt
    have kp1_0 := (qp1.out).cell 0 rfl
    have kp1_1 := (qp1.out).cell 1 rfl
    have kp1_2 := (qp1.out).cell 2 rfl
    have lp1 := (qp1.out).lt
    clear hb1
    go_wp2_with fail
    refine (szAudit_any _ _ _ _ zsb _ (1048576 - ((zsa.length : Nat) : Int)) _ (by omega) (by omega) (by omega)).mono ?_
    rw [if_neg (by omega)]
    rintro e w2 ⟨rfl, hb2⟩
    clear lp0 kp0_0 kp0_1 kp0_2
    clear lp1 kp1_0 kp1_1 kp1_2
    have hT2 : Below w1.heap.size w1 w2 := Below.andThen (by go_grown) hb2
    have hS2 := hT2.size
    have hB2 : Below W.heap.size W w2 := Below.andThen hB1 hT2
    have qp0 := Lib.hid ((qp0.out).below (Nat.le_refl _) hT2)
    have qp1 := Lib.hid ((qp1.out).below (Nat.le_refl _) hT2)
    have hSb2 := hb2.size
    try simp only [World.size_alloc] at hSb2
    have kp0_0 := (qp0.out).cell 0 rfl
    have kp0_1 := (qp0.out).cell 1 rfl
    have kp0_2 := (qp0.out).cell 2 rfl
    have lp0 := (qp0.out).lt
    have kp1_0 := (qp1.out).cell 0 rfl
    have kp1_1 := (qp1.out).cell 1 rfl
    have kp1_2 := (qp1.out).cell 2 rfl
    have lp1 := (qp1.out).lt
    clear hb2
    go_wp2_with fail
    go_returns
    exact ⟨rfl, by first | exact hB2 | go_grown⟩
  go_enter Try.func3, Try.ntmps3
  have hB0 : Below W.heap.size W W := Below.refl _ _
  go_wp2_with fail
  refine (szAudit_any _ _ _ _ zsa _ (1048576) _ (by omega) (by omega) (by omega)).mono ?_
  rw [if_pos (by omega)]
  rintro e w1 ⟨rfl, hb1⟩
  have hT1 : Below W.heap.size W w1 := Below.andThen (by go_grown) hb1
  have hS1 := hT1.size
  have hB1 : Below W.heap.size W w1 := Below.andThen hB0 hT1
  have qp0 : Hid (Blk w1 (W.heap.size) 24 #[.int .i64 xa_0, .slice Aa zsa.length ca, .int .i64 xa_2]) := Blk.below (w' := w1) (by repeat' (first | (refine Blk.at_ _ _ _ ?_; first | rfl | (simp; done)) | refine Blk.alloc ?_ _ | refine Blk.drewN ?_ _ | assumption)) (Nat.le_refl _) hb1
  have qp1 : Hid (Blk w1 (W.heap.size + 1) 24 #[.int .i64 xb_0, .slice Ab zsb.length cb, .int .i64 xb_2]) := Blk.below (w' := w1) (by repeat' (first | (refine Blk.at_ _ _ _ ?_; first | rfl | (simp; done)) | refine Blk.alloc ?_ _ | refine Blk.drewN ?_ _ | assumption)) (Nat.le_refl _) hb1
  have hSb1 := hb1.size
  try simp only [World.size_alloc] at hSb1
  have kp0_0 := (qp0.out).cell 0 rfl
  have kp0_1 := (qp0.out).cell 1 rfl
  have kp0_2 := (qp0.out).cell 2 rfl
  have lp0 := (qp0.out).lt
  have kp1_0 := (qp1.out).cell 0 rfl
  have kp1_1 := (qp1.out).cell 1 rfl
  have kp1_2 := (qp1.out).cell 2 rfl
  have lp1 := (qp1.out).lt
  clear hb1
  go_wp2_with fail
  refine (szAudit_any _ _ _ _ zsb _ (1048576 - ((zsa.length : Nat) : Int)) _ (by omega) (by omega) (by omega)).mono ?_
  rw [if_pos (by omega)]
  rintro e w2 ⟨rfl, hb2⟩
  clear lp0 kp0_0 kp0_1 kp0_2
  clear lp1 kp1_0 kp1_1 kp1_2
  have hT2 : Below w1.heap.size w1 w2 := Below.andThen (by go_grown) hb2
  have hS2 := hT2.size
  have hB2 : Below W.heap.size W w2 := Below.andThen hB1 hT2
  have qp0 := Lib.hid ((qp0.out).below (Nat.le_refl _) hT2)
  have qp1 := Lib.hid ((qp1.out).below (Nat.le_refl _) hT2)
  have hSb2 := hb2.size
  try simp only [World.size_alloc] at hSb2
  have kp0_0 := (qp0.out).cell 0 rfl
  have kp0_1 := (qp0.out).cell 1 rfl
  have kp0_2 := (qp0.out).cell 2 rfl
  have lp0 := (qp0.out).lt
  have kp1_0 := (qp1.out).cell 0 rfl
  have kp1_1 := (qp1.out).cell 1 rfl
  have kp1_2 := (qp1.out).cell 2 rfl
  have lp1 := (qp1.out).lt
  clear hb2
  go_wp2
  go_region_held3 (fun w' => w'.cell? ⟨W.heap.size, 0, none⟩ = some (.int .i64 xa_0) ∧ w'.cell? ⟨W.heap.size, 1, none⟩ = some (.slice Aa zsa.length ca) ∧ w'.cell? ⟨W.heap.size, 2, none⟩ = some (.int .i64 xa_2) ∧ w'.cell? ⟨W.heap.size + 1, 0, none⟩ = some (.int .i64 xb_0) ∧ w'.cell? ⟨W.heap.size + 1, 1, none⟩ = some (.slice Ab zsb.length cb) ∧ w'.cell? ⟨W.heap.size + 1, 2, none⟩ = some (.int .i64 xb_2)) (first | exact ⟨kp0_0, kp0_1, kp0_2, kp1_0, kp1_1, kp1_2⟩ | exact ⟨by first | exact kp0_0 | (simp [go_sem]; done) | (simp [go_sem, *]; done), by first | exact kp0_1 | (simp [go_sem]; done) | (simp [go_sem, *]; done), by first | exact kp0_2 | (simp [go_sem]; done) | (simp [go_sem, *]; done), by first | exact kp1_0 | (simp [go_sem]; done) | (simp [go_sem, *]; done), by first | exact kp1_1 | (simp [go_sem]; done) | (simp [go_sem, *]; done), by first | exact kp1_2 | (simp [go_sem]; done) | (simp [go_sem, *]; done)⟩ | assumption) (first | (go_at_call_of 8 (Value.int .i64 xa_0); refine (toAuditC_any xa_0 _ _ _ zsa xa_2 _ (by omega) (hra.below (Nat.le_refl _) (by first | exact hB2 | go_grown))).mono ?_; rintro e w3 ⟨gha0, rfl, ha0, hb3⟩; clear lp0 kp0_0 kp0_1 kp0_2; clear lp1 kp1_0 kp1_1 kp1_2; have hT3 : Below w2.heap.size w2 w3 := Below.andThen (by go_grown) hb3; have hS3 := hT3.size; have hB3 : Below W.heap.size W w3 := Below.andThen hB2 hT3; have qp0 := Lib.hid ((qp0.out).below (Nat.le_refl _) hT3); have qp1 := Lib.hid ((qp1.out).below (Nat.le_refl _) hT3); have hSb3 := hb3.size; (try simp only [World.size_alloc] at hSb3); have kp0_0 := (qp0.out).cell 0 rfl; have kp0_1 := (qp0.out).cell 1 rfl; have kp0_2 := (qp0.out).cell 2 rfl; have lp0 := (qp0.out).lt; have kp1_0 := (qp1.out).cell 0 rfl; have kp1_1 := (qp1.out).cell 1 rfl; have kp1_2 := (qp1.out).cell 2 rfl; have lp1 := (qp1.out).lt; clear hb3; (try simp only [World.size_alloc] at ha0)) | (go_at_call_of 8 (Value.int .i64 xb_0); refine (toAuditC_any xb_0 _ _ _ zsb xb_2 _ (by omega) (hrb.below (Nat.le_refl _) (by first | exact hB3 | go_grown))).mono ?_; rintro e w4 ⟨gha1, rfl, ha1, hb4⟩; clear lp0 kp0_0 kp0_1 kp0_2; clear lp1 kp1_0 kp1_1 kp1_2; have hT4 : Below w3.heap.size w3 w4 := Below.andThen (by go_grown) hb4; have hS4 := hT4.size; have hB4 : Below W.heap.size W w4 := Below.andThen hB3 hT4; have ha0 := ha0.below (Nat.le_refl _) hT4; have qp0 := Lib.hid ((qp0.out).below (Nat.le_refl _) hT4); have qp1 := Lib.hid ((qp1.out).below (Nat.le_refl _) hT4); have hSb4 := hb4.size; (try simp only [World.size_alloc] at hSb4); have kp0_0 := (qp0.out).cell 0 rfl; have kp0_1 := (qp0.out).cell 1 rfl; have kp0_2 := (qp0.out).cell 2 rfl; have lp0 := (qp0.out).lt; have kp1_0 := (qp1.out).cell 0 rfl; have kp1_1 := (qp1.out).cell 1 rfl; have kp1_2 := (qp1.out).cell 2 rfl; have lp1 := (qp1.out).lt; clear hb4; (try simp only [World.size_alloc] at ha1)) | (go_at_call 7; refine (sAuditBegins_any _ _ _ _ zsa _ _ _ _ _ zsb _ _ (by omega) (by first | exact ha0.rd | exact (ha0.rd).alloc _ | exact ((ha0.rd).alloc _).alloc _ | exact (((ha0.rd).alloc _).alloc _).alloc _) (by omega) (by first | exact ha1.rd | exact (ha1.rd).alloc _ | exact ((ha1.rd).alloc _).alloc _ | exact (((ha1.rd).alloc _).alloc _).alloc _)).mono ?_; rintro e w5 ⟨rfl, hb5⟩; clear lp0 kp0_0 kp0_1 kp0_2; clear lp1 kp1_0 kp1_1 kp1_2; have hT5 : Below w4.heap.size w4 w5 := Below.andThen (by go_grown) hb5; have hS5 := hT5.size; have hB5 : Below W.heap.size W w5 := Below.andThen hB4 hT5; have ha0 := ha0.below (Nat.le_refl _) hT5; have ha1 := ha1.below (Nat.le_refl _) hT5; have qp0 := Lib.hid ((qp0.out).below (Nat.le_refl _) hT5); have qp1 := Lib.hid ((qp1.out).below (Nat.le_refl _) hT5); have hSb5 := hb5.size; (try simp only [World.size_alloc] at hSb5); have kp0_0 := (qp0.out).cell 0 rfl; have kp0_1 := (qp0.out).cell 1 rfl; have kp0_2 := (qp0.out).cell 2 rfl; have lp0 := (qp0.out).lt; have kp1_0 := (qp1.out).cell 0 rfl; have kp1_1 := (qp1.out).cell 1 rfl; have kp1_2 := (qp1.out).cell 2 rfl; have lp1 := (qp1.out).lt; clear hb5))
  clear ha0
  clear ha1
  go_wp2_with fail
  refine (toAuditC_any xa_0 _ _ _ zsa xa_2 _ (by omega) (hra.below (Nat.le_refl _) (by first | exact hB5 | go_grown))).mono ?_
  rintro e w6 ⟨ghx0, rfl, hx0, hb6⟩
  clear lp0 kp0_0 kp0_1 kp0_2
  clear lp1 kp1_0 kp1_1 kp1_2
  have hT6 : Below w5.heap.size w5 w6 := Below.andThen (by go_grown) hb6
  have hS6 := hT6.size
  have hB6 : Below W.heap.size W w6 := Below.andThen hB5 hT6
  have qp0 := Lib.hid ((qp0.out).below (Nat.le_refl _) hT6)
  have qp1 := Lib.hid ((qp1.out).below (Nat.le_refl _) hT6)
  have hSb6 := hb6.size
  try simp only [World.size_alloc] at hSb6
  have kp0_0 := (qp0.out).cell 0 rfl
  have kp0_1 := (qp0.out).cell 1 rfl
  have kp0_2 := (qp0.out).cell 2 rfl
  have lp0 := (qp0.out).lt
  have kp1_0 := (qp1.out).cell 0 rfl
  have kp1_1 := (qp1.out).cell 1 rfl
  have kp1_2 := (qp1.out).cell 2 rfl
  have lp1 := (qp1.out).lt
  clear hb6
  try simp only [World.size_alloc] at hx0
  go_wp2_with fail
  refine (toAuditC_any xb_0 _ _ _ zsb xb_2 _ (by omega) (hrb.below (Nat.le_refl _) (by first | exact hB6 | go_grown))).mono ?_
  rintro e w7 ⟨ghx1, rfl, hx1, hb7⟩
  clear lp0 kp0_0 kp0_1 kp0_2
  clear lp1 kp1_0 kp1_1 kp1_2
  have hT7 : Below w6.heap.size w6 w7 := Below.andThen (by go_grown) hb7
  have hS7 := hT7.size
  have hB7 : Below W.heap.size W w7 := Below.andThen hB6 hT7
  have hx0 := hx0.below (Nat.le_refl _) hT7
  have qp0 := Lib.hid ((qp0.out).below (Nat.le_refl _) hT7)
  have qp1 := Lib.hid ((qp1.out).below (Nat.le_refl _) hT7)
  have qbx0 : Hid (Blk w7 (w6.heap.size) 27 #[.int .i64 xa_0, .slice (some ⟨ghx0, 0, none⟩) zsa.length zsa.length, .int .i64 xa_2]) := Blk.below (w' := w7) (by repeat' (first | (refine Blk.at_ _ _ _ ?_; first | rfl | (simp; done)) | refine Blk.alloc ?_ _ | refine Blk.drewN ?_ _ | assumption)) (Nat.le_refl _) hb7
  have hSb7 := hb7.size
  try simp only [World.size_alloc] at hSb7
  have kp0_0 := (qp0.out).cell 0 rfl
  have kp0_1 := (qp0.out).cell 1 rfl
  have kp0_2 := (qp0.out).cell 2 rfl
  have lp0 := (qp0.out).lt
  have kp1_0 := (qp1.out).cell 0 rfl
  have kp1_1 := (qp1.out).cell 1 rfl
  have kp1_2 := (qp1.out).cell 2 rfl
  have lp1 := (qp1.out).lt
  have kbx0_0 := (qbx0.out).cell 0 rfl
  have kbx0_1 := (qbx0.out).cell 1 rfl
  have kbx0_2 := (qbx0.out).cell 2 rfl
  have lbx0 := (qbx0.out).lt
  clear hb7
  try simp only [World.size_alloc] at hx1
  go_wp2_with fail
  refine (iAuditBegins_any _ _ _ _ zsa _ _ _ _ _ zsb _ _ (by omega) (by first | exact hx0.rd | exact (hx0.rd).alloc _ | exact ((hx0.rd).alloc _).alloc _ | exact (((hx0.rd).alloc _).alloc _).alloc _) (by omega) (by first | exact hx1.rd | exact (hx1.rd).alloc _ | exact ((hx1.rd).alloc _).alloc _ | exact (((hx1.rd).alloc _).alloc _).alloc _) (Nat.le_refl _)).mono ?_
  rintro e w8 ⟨rfl, hb8⟩
  clear lp0 kp0_0 kp0_1 kp0_2
  clear lp1 kp1_0 kp1_1 kp1_2
  clear lbx0 kbx0_0 kbx0_1 kbx0_2
  have hT8 : Below w7.heap.size w7 w8 := Below.andThen (by go_grown) hb8
  have hS8 := hT8.size
  have hB8 : Below W.heap.size W w8 := Below.andThen hB7 hT8
  have hx0 := hx0.below (Nat.le_refl _) hT8
  have hx1 := hx1.below (Nat.le_refl _) hT8
  have qp0 := Lib.hid ((qp0.out).below (Nat.le_refl _) hT8)
  have qp1 := Lib.hid ((qp1.out).below (Nat.le_refl _) hT8)
  have qbx0 := Lib.hid ((qbx0.out).below (Nat.le_refl _) hT8)
  have qbx1 : Hid (Blk w8 (w7.heap.size) 27 #[.int .i64 xb_0, .slice (some ⟨ghx1, 0, none⟩) zsb.length zsb.length, .int .i64 xb_2]) := Blk.below (w' := w8) (by repeat' (first | (refine Blk.at_ _ _ _ ?_; first | rfl | (simp; done)) | refine Blk.alloc ?_ _ | refine Blk.drewN ?_ _ | assumption)) (Nat.le_refl _) hb8
  have hSb8 := hb8.size
  try simp only [World.size_alloc] at hSb8
  have kp0_0 := (qp0.out).cell 0 rfl
  have kp0_1 := (qp0.out).cell 1 rfl
  have kp0_2 := (qp0.out).cell 2 rfl
  have lp0 := (qp0.out).lt
  have kp1_0 := (qp1.out).cell 0 rfl
  have kp1_1 := (qp1.out).cell 1 rfl
  have kp1_2 := (qp1.out).cell 2 rfl
  have lp1 := (qp1.out).lt
  have kbx0_0 := (qbx0.out).cell 0 rfl
  have kbx0_1 := (qbx0.out).cell 1 rfl
  have kbx0_2 := (qbx0.out).cell 2 rfl
  have lbx0 := (qbx0.out).lt
  have kbx1_0 := (qbx1.out).cell 0 rfl
  have kbx1_1 := (qbx1.out).cell 1 rfl
  have kbx1_2 := (qbx1.out).cell 2 rfl
  have lbx1 := (qbx1.out).lt
  clear hb8
  go_wp2
  go_region_held3 (fun w' => w'.cell? ⟨W.heap.size, 0, none⟩ = some (.int .i64 xa_0) ∧ w'.cell? ⟨W.heap.size, 1, none⟩ = some (.slice Aa zsa.length ca) ∧ w'.cell? ⟨W.heap.size, 2, none⟩ = some (.int .i64 xa_2) ∧ w'.cell? ⟨W.heap.size + 1, 0, none⟩ = some (.int .i64 xb_0) ∧ w'.cell? ⟨W.heap.size + 1, 1, none⟩ = some (.slice Ab zsb.length cb) ∧ w'.cell? ⟨W.heap.size + 1, 2, none⟩ = some (.int .i64 xb_2) ∧ w'.cell? ⟨w6.heap.size, 0, none⟩ = some (.int .i64 xa_0) ∧ w'.cell? ⟨w6.heap.size, 1, none⟩ = some (.slice (some ⟨ghx0, 0, none⟩) zsa.length zsa.length) ∧ w'.cell? ⟨w6.heap.size, 2, none⟩ = some (.int .i64 xa_2) ∧ w'.cell? ⟨w7.heap.size, 0, none⟩ = some (.int .i64 xb_0) ∧ w'.cell? ⟨w7.heap.size, 1, none⟩ = some (.slice (some ⟨ghx1, 0, none⟩) zsb.length zsb.length) ∧ w'.cell? ⟨w7.heap.size, 2, none⟩ = some (.int .i64 xb_2)) (first | exact ⟨kp0_0, kp0_1, kp0_2, kp1_0, kp1_1, kp1_2, kbx0_0, kbx0_1, kbx0_2, kbx1_0, kbx1_1, kbx1_2⟩ | exact ⟨by first | exact kp0_0 | (simp [go_sem]; done) | (simp [go_sem, *]; done), by first | exact kp0_1 | (simp [go_sem]; done) | (simp [go_sem, *]; done), by first | exact kp0_2 | (simp [go_sem]; done) | (simp [go_sem, *]; done), by first | exact kp1_0 | (simp [go_sem]; done) | (simp [go_sem, *]; done), by first | exact kp1_1 | (simp [go_sem]; done) | (simp [go_sem, *]; done), by first | exact kp1_2 | (simp [go_sem]; done) | (simp [go_sem, *]; done), by first | exact kbx0_0 | (simp [go_sem]; done) | (simp [go_sem, *]; done), by first | exact kbx0_1 | (simp [go_sem]; done) | (simp [go_sem, *]; done), by first | exact kbx0_2 | (simp [go_sem]; done) | (simp [go_sem, *]; done), by first | exact kbx1_0 | (simp [go_sem]; done) | (simp [go_sem, *]; done), by first | exact kbx1_1 | (simp [go_sem]; done) | (simp [go_sem, *]; done), by first | exact kbx1_2 | (simp [go_sem]; done) | (simp [go_sem, *]; done)⟩ | assumption) (first | (go_at_call 8; refine (toAuditC_any xa_0 _ _ _ zsa xa_2 _ (by omega) (hra.below (Nat.le_refl _) (by first | exact hB8 | go_grown))).mono ?_; rintro e w9 ⟨ghy0, rfl, hy0, hb9⟩; clear lp0 kp0_0 kp0_1 kp0_2; clear lp1 kp1_0 kp1_1 kp1_2; clear lbx0 kbx0_0 kbx0_1 kbx0_2; clear lbx1 kbx1_0 kbx1_1 kbx1_2; have hT9 : Below w8.heap.size w8 w9 := Below.andThen (by go_grown) hb9; have hS9 := hT9.size; have hB9 : Below W.heap.size W w9 := Below.andThen hB8 hT9; have hx0 := hx0.below (Nat.le_refl _) hT9; have hx1 := hx1.below (Nat.le_refl _) hT9; have qp0 := Lib.hid ((qp0.out).below (Nat.le_refl _) hT9); have qp1 := Lib.hid ((qp1.out).below (Nat.le_refl _) hT9); have qbx0 := Lib.hid ((qbx0.out).below (Nat.le_refl _) hT9); have qbx1 := Lib.hid ((qbx1.out).below (Nat.le_refl _) hT9); have hSb9 := hb9.size; (try simp only [World.size_alloc] at hSb9); have kp0_0 := (qp0.out).cell 0 rfl; have kp0_1 := (qp0.out).cell 1 rfl; have kp0_2 := (qp0.out).cell 2 rfl; have lp0 := (qp0.out).lt; have kp1_0 := (qp1.out).cell 0 rfl; have kp1_1 := (qp1.out).cell 1 rfl; have kp1_2 := (qp1.out).cell 2 rfl; have lp1 := (qp1.out).lt; have kbx0_0 := (qbx0.out).cell 0 rfl; have kbx0_1 := (qbx0.out).cell 1 rfl; have kbx0_2 := (qbx0.out).cell 2 rfl; have lbx0 := (qbx0.out).lt; have kbx1_0 := (qbx1.out).cell 0 rfl; have kbx1_1 := (qbx1.out).cell 1 rfl; have kbx1_2 := (qbx1.out).cell 2 rfl; have lbx1 := (qbx1.out).lt; clear hb9; (try simp only [World.size_alloc] at hy0)) | (go_at_call 10; refine (eqAudit_same _ _ _ _ _ _ zsa _ _ (by omega) (by first | exact hx0.rd | exact (hx0.rd).alloc _ | exact ((hx0.rd).alloc _).alloc _ | exact (((hx0.rd).alloc _).alloc _).alloc _) (by first | exact hy0.rd | exact (hy0.rd).alloc _ | exact ((hy0.rd).alloc _).alloc _ | exact (((hy0.rd).alloc _).alloc _).alloc _)).mono ?_; rintro e w10 ⟨rfl, hb10⟩; clear lp0 kp0_0 kp0_1 kp0_2; clear lp1 kp1_0 kp1_1 kp1_2; clear lbx0 kbx0_0 kbx0_1 kbx0_2; clear lbx1 kbx1_0 kbx1_1 kbx1_2; have hT10 : Below w9.heap.size w9 w10 := Below.andThen (by go_grown) hb10; have hS10 := hT10.size; have hB10 : Below W.heap.size W w10 := Below.andThen hB9 hT10; have hx0 := hx0.below (Nat.le_refl _) hT10; have hx1 := hx1.below (Nat.le_refl _) hT10; have hy0 := hy0.below (Nat.le_refl _) hT10; have qp0 := Lib.hid ((qp0.out).below (Nat.le_refl _) hT10); have qp1 := Lib.hid ((qp1.out).below (Nat.le_refl _) hT10); have qbx0 := Lib.hid ((qbx0.out).below (Nat.le_refl _) hT10); have qbx1 := Lib.hid ((qbx1.out).below (Nat.le_refl _) hT10); have hSb10 := hb10.size; (try simp only [World.size_alloc] at hSb10); have kp0_0 := (qp0.out).cell 0 rfl; have kp0_1 := (qp0.out).cell 1 rfl; have kp0_2 := (qp0.out).cell 2 rfl; have lp0 := (qp0.out).lt; have kp1_0 := (qp1.out).cell 0 rfl; have kp1_1 := (qp1.out).cell 1 rfl; have kp1_2 := (qp1.out).cell 2 rfl; have lp1 := (qp1.out).lt; have kbx0_0 := (qbx0.out).cell 0 rfl; have kbx0_1 := (qbx0.out).cell 1 rfl; have kbx0_2 := (qbx0.out).cell 2 rfl; have lbx0 := (qbx0.out).lt; have kbx1_0 := (qbx1.out).cell 0 rfl; have kbx1_1 := (qbx1.out).cell 1 rfl; have kbx1_2 := (qbx1.out).cell 2 rfl; have lbx1 := (qbx1.out).lt; clear hb10))
  clear hy0
  go_wp2
  go_region_held3 (fun w' => w'.cell? ⟨W.heap.size, 0, none⟩ = some (.int .i64 xa_0) ∧ w'.cell? ⟨W.heap.size, 1, none⟩ = some (.slice Aa zsa.length ca) ∧ w'.cell? ⟨W.heap.size, 2, none⟩ = some (.int .i64 xa_2) ∧ w'.cell? ⟨W.heap.size + 1, 0, none⟩ = some (.int .i64 xb_0) ∧ w'.cell? ⟨W.heap.size + 1, 1, none⟩ = some (.slice Ab zsb.length cb) ∧ w'.cell? ⟨W.heap.size + 1, 2, none⟩ = some (.int .i64 xb_2) ∧ w'.cell? ⟨w6.heap.size, 0, none⟩ = some (.int .i64 xa_0) ∧ w'.cell? ⟨w6.heap.size, 1, none⟩ = some (.slice (some ⟨ghx0, 0, none⟩) zsa.length zsa.length) ∧ w'.cell? ⟨w6.heap.size, 2, none⟩ = some (.int .i64 xa_2) ∧ w'.cell? ⟨w7.heap.size, 0, none⟩ = some (.int .i64 xb_0) ∧ w'.cell? ⟨w7.heap.size, 1, none⟩ = some (.slice (some ⟨ghx1, 0, none⟩) zsb.length zsb.length) ∧ w'.cell? ⟨w7.heap.size, 2, none⟩ = some (.int .i64 xb_2)) (first | exact ⟨kp0_0, kp0_1, kp0_2, kp1_0, kp1_1, kp1_2, kbx0_0, kbx0_1, kbx0_2, kbx1_0, kbx1_1, kbx1_2⟩ | exact ⟨by first | exact kp0_0 | (simp [go_sem]; done) | (simp [go_sem, *]; done), by first | exact kp0_1 | (simp [go_sem]; done) | (simp [go_sem, *]; done), by first | exact kp0_2 | (simp [go_sem]; done) | (simp [go_sem, *]; done), by first | exact kp1_0 | (simp [go_sem]; done) | (simp [go_sem, *]; done), by first | exact kp1_1 | (simp [go_sem]; done) | (simp [go_sem, *]; done), by first | exact kp1_2 | (simp [go_sem]; done) | (simp [go_sem, *]; done), by first | exact kbx0_0 | (simp [go_sem]; done) | (simp [go_sem, *]; done), by first | exact kbx0_1 | (simp [go_sem]; done) | (simp [go_sem, *]; done), by first | exact kbx0_2 | (simp [go_sem]; done) | (simp [go_sem, *]; done), by first | exact kbx1_0 | (simp [go_sem]; done) | (simp [go_sem, *]; done), by first | exact kbx1_1 | (simp [go_sem]; done) | (simp [go_sem, *]; done), by first | exact kbx1_2 | (simp [go_sem]; done) | (simp [go_sem, *]; done)⟩ | assumption) (first | (go_at_call 8; refine (toAuditC_any xb_0 _ _ _ zsb xb_2 _ (by omega) (hrb.below (Nat.le_refl _) (by first | exact hB10 | go_grown))).mono ?_; rintro e w11 ⟨ghy1, rfl, hy1, hb11⟩; clear lp0 kp0_0 kp0_1 kp0_2; clear lp1 kp1_0 kp1_1 kp1_2; clear lbx0 kbx0_0 kbx0_1 kbx0_2; clear lbx1 kbx1_0 kbx1_1 kbx1_2; have hT11 : Below w10.heap.size w10 w11 := Below.andThen (by go_grown) hb11; have hS11 := hT11.size; have hB11 : Below W.heap.size W w11 := Below.andThen hB10 hT11; have hx0 := hx0.below (Nat.le_refl _) hT11; have hx1 := hx1.below (Nat.le_refl _) hT11; have qp0 := Lib.hid ((qp0.out).below (Nat.le_refl _) hT11); have qp1 := Lib.hid ((qp1.out).below (Nat.le_refl _) hT11); have qbx0 := Lib.hid ((qbx0.out).below (Nat.le_refl _) hT11); have qbx1 := Lib.hid ((qbx1.out).below (Nat.le_refl _) hT11); have hSb11 := hb11.size; (try simp only [World.size_alloc] at hSb11); have kp0_0 := (qp0.out).cell 0 rfl; have kp0_1 := (qp0.out).cell 1 rfl; have kp0_2 := (qp0.out).cell 2 rfl; have lp0 := (qp0.out).lt; have kp1_0 := (qp1.out).cell 0 rfl; have kp1_1 := (qp1.out).cell 1 rfl; have kp1_2 := (qp1.out).cell 2 rfl; have lp1 := (qp1.out).lt; have kbx0_0 := (qbx0.out).cell 0 rfl; have kbx0_1 := (qbx0.out).cell 1 rfl; have kbx0_2 := (qbx0.out).cell 2 rfl; have lbx0 := (qbx0.out).lt; have kbx1_0 := (qbx1.out).cell 0 rfl; have kbx1_1 := (qbx1.out).cell 1 rfl; have kbx1_2 := (qbx1.out).cell 2 rfl; have lbx1 := (qbx1.out).lt; clear hb11; (try simp only [World.size_alloc] at hy1)) | (go_at_call 10; refine (eqAudit_same _ _ _ _ _ _ zsb _ _ (by omega) (by first | exact hx1.rd | exact (hx1.rd).alloc _ | exact ((hx1.rd).alloc _).alloc _ | exact (((hx1.rd).alloc _).alloc _).alloc _) (by first | exact hy1.rd | exact (hy1.rd).alloc _ | exact ((hy1.rd).alloc _).alloc _ | exact (((hy1.rd).alloc _).alloc _).alloc _)).mono ?_; rintro e w12 ⟨rfl, hb12⟩; clear lp0 kp0_0 kp0_1 kp0_2; clear lp1 kp1_0 kp1_1 kp1_2; clear lbx0 kbx0_0 kbx0_1 kbx0_2; clear lbx1 kbx1_0 kbx1_1 kbx1_2; have hT12 : Below w11.heap.size w11 w12 := Below.andThen (by go_grown) hb12; have hS12 := hT12.size; have hB12 : Below W.heap.size W w12 := Below.andThen hB11 hT12; have hx0 := hx0.below (Nat.le_refl _) hT12; have hx1 := hx1.below (Nat.le_refl _) hT12; have hy1 := hy1.below (Nat.le_refl _) hT12; have qp0 := Lib.hid ((qp0.out).below (Nat.le_refl _) hT12); have qp1 := Lib.hid ((qp1.out).below (Nat.le_refl _) hT12); have qbx0 := Lib.hid ((qbx0.out).below (Nat.le_refl _) hT12); have qbx1 := Lib.hid ((qbx1.out).below (Nat.le_refl _) hT12); have hSb12 := hb12.size; (try simp only [World.size_alloc] at hSb12); have kp0_0 := (qp0.out).cell 0 rfl; have kp0_1 := (qp0.out).cell 1 rfl; have kp0_2 := (qp0.out).cell 2 rfl; have lp0 := (qp0.out).lt; have kp1_0 := (qp1.out).cell 0 rfl; have kp1_1 := (qp1.out).cell 1 rfl; have kp1_2 := (qp1.out).cell 2 rfl; have lp1 := (qp1.out).lt; have kbx0_0 := (qbx0.out).cell 0 rfl; have kbx0_1 := (qbx0.out).cell 1 rfl; have kbx0_2 := (qbx0.out).cell 2 rfl; have lbx0 := (qbx0.out).lt; have kbx1_0 := (qbx1.out).cell 0 rfl; have kbx1_1 := (qbx1.out).cell 1 rfl; have kbx1_2 := (qbx1.out).cell 2 rfl; have lbx1 := (qbx1.out).lt; clear hb12))
  clear hy1
  go_wp2_with fail
  go_returns
  exact ⟨rfl, by first | exact hB12 | go_grown⟩
end Go.Proofs.Ytboejpljjhgflaa
