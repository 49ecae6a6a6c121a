/-
  The walk of FnExactRunModes: the law returns true.
  Conditions: none.
-/
import Derived.Test.YtdccgflkhgnflaaRunM2
import Derived.Deep.RegionHeld3
namespace Go.Proofs.Ytdccgflkhgnflaa
open Go.ChangeShapes Go.WideShapes Go.ChangeAt Go.RowKit Go.Joins
set_option linter.unusedVariables false
set_option maxRecDepth 100000 in
set_option maxHeartbeats 4000000 in
theorem lawRunModes_walk (W : World) (A : Option Addr) (n c : Nat) (ts : List Slots) (now asked : Int) (hn : ts.length = n) (hm : n ≤ maxLen) (hr : Rd_tab W A n ts) (parts : Int) (Ab : Option Addr) (nb cb : Nat) (zsb : List Int) (hnb : zsb.length = nb) (hmb : nb ≤ maxLen) (hrb : Rd W 1 Ab nb (ints zsb))  :
    Calls Try.prog 3 #[.agg #[.slice A n c, .int .i64 now, .int .i64 asked], .int .i64 parts, .slice Ab nb cb] W fun e w' => e = .returned (.bool true) ∧ Below W.heap.size W w' := by
  subst hn
  unfold maxLen at hmb
  subst hnb
  by_cases hbig0 : 1048576 < zsb.length
  · go_enter Try.func3, Try.ntmps3
    go_wp2
    go_returns
    exact ⟨rfl, by go_grown⟩
  by_cases hz0 : 1048576 < (ts.length + tabN ts)
  · skip
    go_enter Try.func3, Try.ntmps3
    have hB0 : Below W.heap.size W W := Below.refl _ _
    go_wp2_with fail
    refine (szModes_any A _ c ts now asked (1048576) _ hm (by omega) (by omega) (by first | exact hr | exact hr.alloc _ | exact hr.below (Nat.le_refl _) (by go_grown))).mono ?_
    rw [if_neg (by omega)]
    rintro e w1 ⟨rfl, hb1⟩
    have hT1 : Below W.heap.size W w1 := Below.andThen (by go_grown) hb1
    have hS1 := hT1.size
    have hB1 : Below W.heap.size W w1 := Below.andThen hB0 hT1
    have qp0 : Hid (Blk w1 (W.heap.size) 24 #[.slice A ts.length c, .int .i64 now, .int .i64 asked]) := Blk.below (w' := w1) (by repeat' (first | (refine Blk.at_ _ _ _ ?_; first | rfl | (simp; done)) | refine Blk.alloc ?_ _ | refine Blk.drewN ?_ _ | assumption)) (Nat.le_refl _) hb1
    have hSb1 := hb1.size
    try simp only [World.size_alloc] at hSb1
    have kp0_0 := (qp0.out).cell 0 rfl
    have kp0_1 := (qp0.out).cell 1 rfl
    have kp0_2 := (qp0.out).cell 2 rfl
    have lp0 := (qp0.out).lt
    clear hb1
    go_wp2_with fail
    go_returns
    exact ⟨rfl, by first | exact hB1 | go_grown⟩
  have ht : ∀ x ∈ ts, (tabI x).length ≤ 1048576 := by
    intro x hx
    obtain ⟨k, hk⟩ := List.getElem?_of_mem hx
    have h9 := totN_at (inn := tabI) hk
    unfold tabN at hz0
    omega
  have HTs := Lib.hid ht
  clear ht
  obtain ⟨R, hR⟩ : ∃ R : List Int, R = runL parts ts now asked zsb := ⟨_, rfl⟩
  have HR := Lib.hid hR
  have hRl : R.length ≤ 1048576 := by rw [hR]; have := runL_len parts ts now asked zsb; omega
  clear hR
  go_enter Try.func3, Try.ntmps3
  have hB0 : Below W.heap.size W W := Below.refl _ _
  go_wp2_with fail
  refine (szModes_any A _ c ts now asked (1048576) _ hm (by omega) (by omega) (by first | exact hr | exact hr.alloc _ | exact hr.below (Nat.le_refl _) (by go_grown))).mono ?_
  rw [if_pos (by omega)]
  rintro e w1 ⟨rfl, hb1⟩
  have hT1 : Below W.heap.size W w1 := Below.andThen (by go_grown) hb1
  have hS1 := hT1.size
  have hB1 : Below W.heap.size W w1 := Below.andThen hB0 hT1
  have qp0 : Hid (Blk w1 (W.heap.size) 24 #[.slice A ts.length c, .int .i64 now, .int .i64 asked]) := Blk.below (w' := w1) (by repeat' (first | (refine Blk.at_ _ _ _ ?_; first | rfl | (simp; done)) | refine Blk.alloc ?_ _ | refine Blk.drewN ?_ _ | assumption)) (Nat.le_refl _) hb1
  have hSb1 := hb1.size
  try simp only [World.size_alloc] at hSb1
  have kp0_0 := (qp0.out).cell 0 rfl
  have kp0_1 := (qp0.out).cell 1 rfl
  have kp0_2 := (qp0.out).cell 2 rfl
  have lp0 := (qp0.out).lt
  clear hb1
  go_wp2_with fail
  refine (toModes_any A _ _ ts now asked _ (by omega) HTs.out (hr.below (Nat.le_refl _) (by first | exact hB1 | go_grown))).mono ?_
  rintro e w2 ⟨gha0, rfl, gha01, gha02, ha0, hb2⟩
  clear lp0 kp0_0 kp0_1 kp0_2
  have hT2 : Below w1.heap.size w1 w2 := Below.andThen (by go_grown) hb2
  have hS2 := hT2.size
  have hB2 : Below W.heap.size W w2 := Below.andThen hB1 hT2
  have qp0 := Lib.hid ((qp0.out).below (Nat.le_refl _) hT2)
  have hSb2 := hb2.size
  try simp only [World.size_alloc] at hSb2
  have kp0_0 := (qp0.out).cell 0 rfl
  have kp0_1 := (qp0.out).cell 1 rfl
  have kp0_2 := (qp0.out).cell 2 rfl
  have lp0 := (qp0.out).lt
  clear hb2
  try simp only [World.size_alloc] at ha0
  go_wp2_with fail
  refine (toIntS_any Ab zsb.length _ zsb _ (by omega) (hrb.below (Nat.le_refl _) (by first | exact hB2 | go_grown))).mono ?_
  rintro e w3 ⟨rfl, ha1, hb3⟩
  clear lp0 kp0_0 kp0_1 kp0_2
  have hT3 : Below w2.heap.size w2 w3 := Below.andThen (by go_grown) hb3
  have hS3 := hT3.size
  have hB3 : Below W.heap.size W w3 := Below.andThen hB2 hT3
  have ha0 := ha0.below (Nat.le_refl _) hT3
  have qp0 := Lib.hid ((qp0.out).below (Nat.le_refl _) hT3)
  have hSb3 := hb3.size
  try simp only [World.size_alloc] at hSb3
  have kp0_0 := (qp0.out).cell 0 rfl
  have kp0_1 := (qp0.out).cell 1 rfl
  have kp0_2 := (qp0.out).cell 2 rfl
  have lp0 := (qp0.out).lt
  clear hb3
  have ha1 := Fr.of_own ha1
  try simp only [World.size_alloc] at ha1
  go_wp2_with fail
  refine (sRunModes_any _ _ _ ts now asked parts _ _ _ zsb _ (by omega) HTs.out (by first | exact ha0.rd | exact (ha0.rd).alloc _ | exact ((ha0.rd).alloc _).alloc _ | exact (((ha0.rd).alloc _).alloc _).alloc _) (by omega) (by first | exact ha1.rd | exact (ha1.rd).alloc _ | exact ((ha1.rd).alloc _).alloc _ | exact (((ha1.rd).alloc _).alloc _).alloc _)).mono ?_
  rw [← HR.out]
  rintro e w4 ⟨Ahw0, chw0, rfl, hw0, hb4⟩
  clear lp0 kp0_0 kp0_1 kp0_2
  have hT4 : Below w3.heap.size w3 w4 := Below.andThen (by go_grown) hb4
  have hS4 := hT4.size
  have hB4 : Below W.heap.size W w4 := Below.andThen hB3 hT4
  have ha0 := ha0.below (Nat.le_refl _) hT4
  have ha1 := ha1.below (Nat.le_refl _) hT4
  have qp0 := Lib.hid ((qp0.out).below (Nat.le_refl _) hT4)
  have hSb4 := hb4.size
  try simp only [World.size_alloc] at hSb4
  have kp0_0 := (qp0.out).cell 0 rfl
  have kp0_1 := (qp0.out).cell 1 rfl
  have kp0_2 := (qp0.out).cell 2 rfl
  have lp0 := (qp0.out).lt
  clear hb4
  try simp only [World.size_alloc] at hw0
  clear ha0
  clear ha1
  go_wp2_with fail
  refine (toModes_any A _ _ ts now asked _ (by omega) HTs.out (hr.below (Nat.le_refl _) (by first | exact hB4 | go_grown))).mono ?_
  rintro e w5 ⟨ghx0, rfl, ghx01, ghx02, hx0, hb5⟩
  clear lp0 kp0_0 kp0_1 kp0_2
  have hT5 : Below w4.heap.size w4 w5 := Below.andThen (by go_grown) hb5
  have hS5 := hT5.size
  have hB5 : Below W.heap.size W w5 := Below.andThen hB4 hT5
  have hw0 := hw0.below (Nat.le_refl _) hT5
  have qp0 := Lib.hid ((qp0.out).below (Nat.le_refl _) hT5)
  have hSb5 := hb5.size
  try simp only [World.size_alloc] at hSb5
  have kp0_0 := (qp0.out).cell 0 rfl
  have kp0_1 := (qp0.out).cell 1 rfl
  have kp0_2 := (qp0.out).cell 2 rfl
  have lp0 := (qp0.out).lt
  clear hb5
  try simp only [World.size_alloc] at hx0
  go_wp2_with fail
  refine (toIntS_any Ab zsb.length _ zsb _ (by omega) (hrb.below (Nat.le_refl _) (by first | exact hB5 | go_grown))).mono ?_
  rintro e w6 ⟨rfl, hx1, hb6⟩
  clear lp0 kp0_0 kp0_1 kp0_2
  have hT6 : Below w5.heap.size w5 w6 := Below.andThen (by go_grown) hb6
  have hS6 := hT6.size
  have hB6 : Below W.heap.size W w6 := Below.andThen hB5 hT6
  have hw0 := hw0.below (Nat.le_refl _) hT6
  have hx0 := hx0.below (Nat.le_refl _) hT6
  have qp0 := Lib.hid ((qp0.out).below (Nat.le_refl _) hT6)
  have qbx0 : Hid (Blk w6 (w5.heap.size) 30 #[.slice (some ⟨ghx0, 0, none⟩) ts.length ts.length, .int .i64 now, .int .i64 asked]) := Blk.below (w' := w6) (by repeat' (first | (refine Blk.at_ _ _ _ ?_; first | rfl | (simp; done)) | refine Blk.alloc ?_ _ | refine Blk.drewN ?_ _ | assumption)) (Nat.le_refl _) hb6
  have hSb6 := hb6.size
  try simp only [World.size_alloc] at hSb6
  have kp0_0 := (qp0.out).cell 0 rfl
  have kp0_1 := (qp0.out).cell 1 rfl
  have kp0_2 := (qp0.out).cell 2 rfl
  have lp0 := (qp0.out).lt
  have kbx0_0 := (qbx0.out).cell 0 rfl
  have kbx0_1 := (qbx0.out).cell 1 rfl
  have kbx0_2 := (qbx0.out).cell 2 rfl
  have lbx0 := (qbx0.out).lt
  clear hb6
  have hx1 := Fr.of_own hx1
  try simp only [World.size_alloc] at hx1
  go_wp2_with fail
  refine (iRunModes_any _ _ _ ts now asked parts _ _ _ zsb _ (by omega) HTs.out (by first | exact hx0.rd | exact (hx0.rd).alloc _ | exact ((hx0.rd).alloc _).alloc _ | exact (((hx0.rd).alloc _).alloc _).alloc _) (by omega) (by first | exact hx1.rd | exact (hx1.rd).alloc _ | exact ((hx1.rd).alloc _).alloc _ | exact (((hx1.rd).alloc _).alloc _).alloc _)).mono ?_
  rw [← HR.out]
  rintro e w7 ⟨Ahg0, chg0, rfl, hg0, hb7⟩
  clear lp0 kp0_0 kp0_1 kp0_2
  clear lbx0 kbx0_0 kbx0_1 kbx0_2
  have hT7 : Below w6.heap.size w6 w7 := Below.andThen (by go_grown) hb7
  have hS7 := hT7.size
  have hB7 : Below W.heap.size W w7 := Below.andThen hB6 hT7
  have hw0 := hw0.below (Nat.le_refl _) hT7
  have hx0 := hx0.below (Nat.le_refl _) hT7
  have hx1 := hx1.below (Nat.le_refl _) hT7
  have qp0 := Lib.hid ((qp0.out).below (Nat.le_refl _) hT7)
  have qbx0 := Lib.hid ((qbx0.out).below (Nat.le_refl _) hT7)
  have hSb7 := hb7.size
  try simp only [World.size_alloc] at hSb7
  have kp0_0 := (qp0.out).cell 0 rfl
  have kp0_1 := (qp0.out).cell 1 rfl
  have kp0_2 := (qp0.out).cell 2 rfl
  have lp0 := (qp0.out).lt
  have kbx0_0 := (qbx0.out).cell 0 rfl
  have kbx0_1 := (qbx0.out).cell 1 rfl
  have kbx0_2 := (qbx0.out).cell 2 rfl
  have lbx0 := (qbx0.out).lt
  clear hb7
  try simp only [World.size_alloc] at hg0
  go_wp2_with fail
  refine (eqIntS_any _ _ _ _ _ _ (R) (R) _ (by omega) (by first | exact hg0.rd | exact (hg0.rd).alloc _ | exact ((hg0.rd).alloc _).alloc _ | exact (((hg0.rd).alloc _).alloc _).alloc _) (by first | exact hw0.rd | exact (hw0.rd).alloc _ | exact ((hw0.rd).alloc _).alloc _ | exact (((hw0.rd).alloc _).alloc _).alloc _)).mono ?_
  simp only [decide_true]
  rintro e w8 ⟨rfl, hb8⟩
  clear lp0 kp0_0 kp0_1 kp0_2
  clear lbx0 kbx0_0 kbx0_1 kbx0_2
  have hT8 : Below w7.heap.size w7 w8 := Below.andThen (by go_grown) hb8
  have hS8 := hT8.size
  have hB8 : Below W.heap.size W w8 := Below.andThen hB7 hT8
  have hw0 := hw0.below (Nat.le_refl _) hT8
  have hx0 := hx0.below (Nat.le_refl _) hT8
  have hx1 := hx1.below (Nat.le_refl _) hT8
  have hg0 := hg0.below (Nat.le_refl _) hT8
  have qp0 := Lib.hid ((qp0.out).below (Nat.le_refl _) hT8)
  have qbx0 := Lib.hid ((qbx0.out).below (Nat.le_refl _) hT8)
  have hSb8 := hb8.size
  try simp only [World.size_alloc] at hSb8
  have kp0_0 := (qp0.out).cell 0 rfl
  have kp0_1 := (qp0.out).cell 1 rfl
  have kp0_2 := (qp0.out).cell 2 rfl
  have lp0 := (qp0.out).lt
  have kbx0_0 := (qbx0.out).cell 0 rfl
  have kbx0_1 := (qbx0.out).cell 1 rfl
  have kbx0_2 := (qbx0.out).cell 2 rfl
  have lbx0 := (qbx0.out).lt
  clear hb8
  go_wp2
  go_region_held3 (fun w' => w'.cell? ⟨W.heap.size, 0, none⟩ = some (.slice A ts.length c) ∧ w'.cell? ⟨W.heap.size, 1, none⟩ = some (.int .i64 now) ∧ w'.cell? ⟨W.heap.size, 2, none⟩ = some (.int .i64 asked) ∧ w'.cell? ⟨w5.heap.size, 0, none⟩ = some (.slice (some ⟨ghx0, 0, none⟩) ts.length ts.length) ∧ w'.cell? ⟨w5.heap.size, 1, none⟩ = some (.int .i64 now) ∧ w'.cell? ⟨w5.heap.size, 2, none⟩ = some (.int .i64 asked)) (first | exact ⟨kp0_0, kp0_1, kp0_2, kbx0_0, kbx0_1, kbx0_2⟩ | exact ⟨by first | exact kp0_0 | (simp [go_sem]; done) | (simp [go_sem, *]; done), by first | exact kp0_1 | (simp [go_sem]; done) | (simp [go_sem, *]; done), by first | exact kp0_2 | (simp [go_sem]; done) | (simp [go_sem, *]; done), by first | exact kbx0_0 | (simp [go_sem]; done) | (simp [go_sem, *]; done), by first | exact kbx0_1 | (simp [go_sem]; done) | (simp [go_sem, *]; done), by first | exact kbx0_2 | (simp [go_sem]; done) | (simp [go_sem, *]; done)⟩ | assumption) (first | (go_at_call 6; refine (toModes_any A _ _ ts now asked _ (by omega) HTs.out (hr.below (Nat.le_refl _) (by first | exact hB8 | go_grown))).mono ?_; rintro e w9 ⟨ghy0, rfl, ghy01, ghy02, hy0, hb9⟩; clear lp0 kp0_0 kp0_1 kp0_2; clear lbx0 kbx0_0 kbx0_1 kbx0_2; have hT9 : Below w8.heap.size w8 w9 := Below.andThen (by go_grown) hb9; have hS9 := hT9.size; have hB9 : Below W.heap.size W w9 := Below.andThen hB8 hT9; have hw0 := hw0.below (Nat.le_refl _) hT9; have hx0 := hx0.below (Nat.le_refl _) hT9; have hx1 := hx1.below (Nat.le_refl _) hT9; have hg0 := hg0.below (Nat.le_refl _) hT9; have qp0 := Lib.hid ((qp0.out).below (Nat.le_refl _) hT9); have qbx0 := Lib.hid ((qbx0.out).below (Nat.le_refl _) hT9); have hSb9 := hb9.size; (try simp only [World.size_alloc] at hSb9); have kp0_0 := (qp0.out).cell 0 rfl; have kp0_1 := (qp0.out).cell 1 rfl; have kp0_2 := (qp0.out).cell 2 rfl; have lp0 := (qp0.out).lt; have kbx0_0 := (qbx0.out).cell 0 rfl; have kbx0_1 := (qbx0.out).cell 1 rfl; have kbx0_2 := (qbx0.out).cell 2 rfl; have lbx0 := (qbx0.out).lt; clear hb9; (try simp only [World.size_alloc] at hy0)) | (go_at_call 10; refine (eqModes_same _ _ _ _ _ ts now asked _ (by omega) HTs.out (by first | exact hx0.rd | exact (hx0.rd).alloc _ | exact ((hx0.rd).alloc _).alloc _ | exact (((hx0.rd).alloc _).alloc _).alloc _) (by first | exact hy0.rd | exact (hy0.rd).alloc _ | exact ((hy0.rd).alloc _).alloc _ | exact (((hy0.rd).alloc _).alloc _).alloc _)).mono ?_; rintro e w10 ⟨rfl, hb10⟩; clear lp0 kp0_0 kp0_1 kp0_2; clear lbx0 kbx0_0 kbx0_1 kbx0_2; have hT10 : Below w9.heap.size w9 w10 := Below.andThen (by go_grown) hb10; have hS10 := hT10.size; have hB10 : Below W.heap.size W w10 := Below.andThen hB9 hT10; have hw0 := hw0.below (Nat.le_refl _) hT10; have hx0 := hx0.below (Nat.le_refl _) hT10; have hx1 := hx1.below (Nat.le_refl _) hT10; have hg0 := hg0.below (Nat.le_refl _) hT10; have hy0 := hy0.below (Nat.le_refl _) hT10; have qp0 := Lib.hid ((qp0.out).below (Nat.le_refl _) hT10); have qbx0 := Lib.hid ((qbx0.out).below (Nat.le_refl _) hT10); have hSb10 := hb10.size; (try simp only [World.size_alloc] at hSb10); have kp0_0 := (qp0.out).cell 0 rfl; have kp0_1 := (qp0.out).cell 1 rfl; have kp0_2 := (qp0.out).cell 2 rfl; have lp0 := (qp0.out).lt; have kbx0_0 := (qbx0.out).cell 0 rfl; have kbx0_1 := (qbx0.out).cell 1 rfl; have kbx0_2 := (qbx0.out).cell 2 rfl; have lbx0 := (qbx0.out).lt; clear hb10))
  clear hy0
  go_wp2_with fail
  refine (toIntS_any Ab zsb.length _ zsb _ (by omega) (hrb.below (Nat.le_refl _) (by first | exact hB10 | go_grown))).mono ?_
  rintro e w11 ⟨rfl, hy1, hb11⟩
  clear lp0 kp0_0 kp0_1 kp0_2
  clear lbx0 kbx0_0 kbx0_1 kbx0_2
  have hT11 : Below w10.heap.size w10 w11 := Below.andThen (by go_grown) hb11
  have hS11 := hT11.size
  have hB11 : Below W.heap.size W w11 := Below.andThen hB10 hT11
  have hw0 := hw0.below (Nat.le_refl _) hT11
  have hx0 := hx0.below (Nat.le_refl _) hT11
  have hx1 := hx1.below (Nat.le_refl _) hT11
  have hg0 := hg0.below (Nat.le_refl _) hT11
  have qp0 := Lib.hid ((qp0.out).below (Nat.le_refl _) hT11)
  have qbx0 := Lib.hid ((qbx0.out).below (Nat.le_refl _) hT11)
  have hSb11 := hb11.size
  try simp only [World.size_alloc] at hSb11
  have kp0_0 := (qp0.out).cell 0 rfl
  have kp0_1 := (qp0.out).cell 1 rfl
  have kp0_2 := (qp0.out).cell 2 rfl
  have lp0 := (qp0.out).lt
  have kbx0_0 := (qbx0.out).cell 0 rfl
  have kbx0_1 := (qbx0.out).cell 1 rfl
  have kbx0_2 := (qbx0.out).cell 2 rfl
  have lbx0 := (qbx0.out).lt
  clear hb11
  have hy1 := Fr.of_own hy1
  try simp only [World.size_alloc] at hy1
  go_wp2_with fail
  refine (eqIntS_any _ _ _ _ _ _ (zsb) (zsb) _ (by omega) (by first | exact hx1.rd | exact (hx1.rd).alloc _ | exact ((hx1.rd).alloc _).alloc _ | exact (((hx1.rd).alloc _).alloc _).alloc _) (by first | exact hy1.rd | exact (hy1.rd).alloc _ | exact ((hy1.rd).alloc _).alloc _ | exact (((hy1.rd).alloc _).alloc _).alloc _)).mono ?_
  simp only [decide_true]
  rintro e w12 ⟨rfl, hb12⟩
  clear lp0 kp0_0 kp0_1 kp0_2
  clear lbx0 kbx0_0 kbx0_1 kbx0_2
  have hT12 : Below w11.heap.size w11 w12 := Below.andThen (by go_grown) hb12
  have hS12 := hT12.size
  have hB12 : Below W.heap.size W w12 := Below.andThen hB11 hT12
  have hw0 := hw0.below (Nat.le_refl _) hT12
  have hx0 := hx0.below (Nat.le_refl _) hT12
  have hx1 := hx1.below (Nat.le_refl _) hT12
  have hg0 := hg0.below (Nat.le_refl _) hT12
  have hy1 := hy1.below (Nat.le_refl _) hT12
  have qp0 := Lib.hid ((qp0.out).below (Nat.le_refl _) hT12)
  have qbx0 := Lib.hid ((qbx0.out).below (Nat.le_refl _) hT12)
  have hSb12 := hb12.size
  try simp only [World.size_alloc] at hSb12
  have kp0_0 := (qp0.out).cell 0 rfl
  have kp0_1 := (qp0.out).cell 1 rfl
  have kp0_2 := (qp0.out).cell 2 rfl
  have lp0 := (qp0.out).lt
  have kbx0_0 := (qbx0.out).cell 0 rfl
  have kbx0_1 := (qbx0.out).cell 1 rfl
  have kbx0_2 := (qbx0.out).cell 2 rfl
  have lbx0 := (qbx0.out).lt
  clear hb12
  clear hy1
  go_wp2_with fail
  refine (markModes_any _ _ _ _ ts now asked 1 _ (by omega) (by omega) (by omega) (by omega) (by first | exact hx0 | exact (hx0).alloc _ | exact ((hx0).alloc _).alloc _) (by first | omega | (simp only [World.size_alloc]; omega))).mono ?_
  rintro e w13 ⟨rfl, hb13⟩
  clear lp0 kp0_0 kp0_1 kp0_2
  clear lbx0 kbx0_0 kbx0_1 kbx0_2
  have hT13 := Touch.trans (Touch.of_below (w := w12) (B := w12.heap.size) (by go_grown) (Nat.le_refl _)) hb13
  have hS13 := hT13.size
  have hB13 : Below W.heap.size W w13 := hB12.trans (hT13.below (by first | omega | (have := hB12.size; omega)) hB12.size)
  have hw0 := hw0.touch hT13 (by omega)
  have hx1 := hx1.touch hT13 (by omega)
  have hg0 := hg0.touch hT13 (by omega)
  have qp0 := Lib.hid ((qp0.out).touch hT13 (by omega))
  have qbx0 := Lib.hid ((qbx0.out).touch hT13 (by omega))
  have kp0_0 := (qp0.out).cell 0 rfl
  have kp0_1 := (qp0.out).cell 1 rfl
  have kp0_2 := (qp0.out).cell 2 rfl
  have lp0 := (qp0.out).lt
  have kbx0_0 := (qbx0.out).cell 0 rfl
  have kbx0_1 := (qbx0.out).cell 1 rfl
  have kbx0_2 := (qbx0.out).cell 2 rfl
  have lbx0 := (qbx0.out).lt
  clear hb13
  go_wp2_with fail
  refine (markIntS_any _ _ _ _ (1 + (((tabN ts * 2) : Nat) : Int)) _ _ _ (by omega) (by omega) (by omega) (by first | exact hx1 | exact (hx1).alloc _ | exact ((hx1).alloc _).alloc _)).mono ?_
  rintro e w14 ⟨rfl, hx1, hb14⟩
  clear lp0 kp0_0 kp0_1 kp0_2
  clear lbx0 kbx0_0 kbx0_1 kbx0_2
  have hT14 := Touch.trans (Touch.of_below (w := w13) (B := w13.heap.size) (by go_grown) (Nat.le_refl _)) hb14
  have hS14 := hT14.size
  have hB14 : Below W.heap.size W w14 := hB13.trans (hT14.below (by first | omega | (have := hB13.size; omega)) hB13.size)
  have hw0 := hw0.touch hT14 (by omega)
  have hg0 := hg0.touch hT14 (by omega)
  have qp0 := Lib.hid ((qp0.out).touch hT14 (by omega))
  have qbx0 := Lib.hid ((qbx0.out).touch hT14 (by omega))
  have kp0_0 := (qp0.out).cell 0 rfl
  have kp0_1 := (qp0.out).cell 1 rfl
  have kp0_2 := (qp0.out).cell 2 rfl
  have lp0 := (qp0.out).lt
  have kbx0_0 := (qbx0.out).cell 0 rfl
  have kbx0_1 := (qbx0.out).cell 1 rfl
  have kbx0_2 := (qbx0.out).cell 2 rfl
  have lbx0 := (qbx0.out).lt
  clear hb14
  go_wp2_with fail
  refine (eqIntS_any _ _ _ _ _ _ (R) (R) _ (by omega) (by first | exact hg0.rd | exact (hg0.rd).alloc _ | exact ((hg0.rd).alloc _).alloc _ | exact (((hg0.rd).alloc _).alloc _).alloc _) (by first | exact hw0.rd | exact (hw0.rd).alloc _ | exact ((hw0.rd).alloc _).alloc _ | exact (((hw0.rd).alloc _).alloc _).alloc _)).mono ?_
  simp only [decide_true]
  rintro e w15 ⟨rfl, hb15⟩
  clear lp0 kp0_0 kp0_1 kp0_2
  clear lbx0 kbx0_0 kbx0_1 kbx0_2
  have hT15 : Below w14.heap.size w14 w15 := Below.andThen (by go_grown) hb15
  have hS15 := hT15.size
  have hB15 : Below W.heap.size W w15 := Below.andThen hB14 hT15
  have hw0 := hw0.below (Nat.le_refl _) hT15
  have hg0 := hg0.below (Nat.le_refl _) hT15
  have hx1 := hx1.below (Nat.le_refl _) hT15
  have qp0 := Lib.hid ((qp0.out).below (Nat.le_refl _) hT15)
  have qbx0 := Lib.hid ((qbx0.out).below (Nat.le_refl _) hT15)
  have hSb15 := hb15.size
  try simp only [World.size_alloc] at hSb15
  have kp0_0 := (qp0.out).cell 0 rfl
  have kp0_1 := (qp0.out).cell 1 rfl
  have kp0_2 := (qp0.out).cell 2 rfl
  have lp0 := (qp0.out).lt
  have kbx0_0 := (qbx0.out).cell 0 rfl
  have kbx0_1 := (qbx0.out).cell 1 rfl
  have kbx0_2 := (qbx0.out).cell 2 rfl
  have lbx0 := (qbx0.out).lt
  clear hb15
  clear hx0
  clear hx1
  go_wp2_with fail
  refine (markIntS_any _ _ _ _ 1 _ _ _ (by omega) (by omega) (by omega) (by first | exact hg0 | exact (hg0).alloc _ | exact ((hg0).alloc _).alloc _)).mono ?_
  rintro e w16 ⟨rfl, hg0, hb16⟩
  clear lp0 kp0_0 kp0_1 kp0_2
  clear lbx0 kbx0_0 kbx0_1 kbx0_2
  have hT16 := Touch.trans (Touch.of_below (w := w15) (B := w15.heap.size) (by go_grown) (Nat.le_refl _)) hb16
  have hS16 := hT16.size
  have hB16 : Below W.heap.size W w16 := hB15.trans (hT16.below (by first | omega | (have := hB15.size; omega)) hB15.size)
  have hw0 := hw0.touch hT16 (by omega)
  have qp0 := Lib.hid ((qp0.out).touch hT16 (by omega))
  have qbx0 := Lib.hid ((qbx0.out).touch hT16 (by omega))
  have kp0_0 := (qp0.out).cell 0 rfl
  have kp0_1 := (qp0.out).cell 1 rfl
  have kp0_2 := (qp0.out).cell 2 rfl
  have lp0 := (qp0.out).lt
  have kbx0_0 := (qbx0.out).cell 0 rfl
  have kbx0_1 := (qbx0.out).cell 1 rfl
  have kbx0_2 := (qbx0.out).cell 2 rfl
  have lbx0 := (qbx0.out).lt
  clear hb16
  go_wp2_with fail
  refine (heldIntS_any _ _ _ 1 _ (by omega) (by omega) (by omega) (by first | exact hg0.rd | exact (hg0.rd).alloc _ | exact ((hg0.rd).alloc _).alloc _ | exact (((hg0.rd).alloc _).alloc _).alloc _)).mono ?_
  rintro e w17 ⟨rfl, hb17⟩
  clear lp0 kp0_0 kp0_1 kp0_2
  clear lbx0 kbx0_0 kbx0_1 kbx0_2
  have hT17 : Below w16.heap.size w16 w17 := Below.andThen (by go_grown) hb17
  have hS17 := hT17.size
  have hB17 : Below W.heap.size W w17 := Below.andThen hB16 hT17
  have hw0 := hw0.below (Nat.le_refl _) hT17
  have hg0 := hg0.below (Nat.le_refl _) hT17
  have qp0 := Lib.hid ((qp0.out).below (Nat.le_refl _) hT17)
  have qbx0 := Lib.hid ((qbx0.out).below (Nat.le_refl _) hT17)
  have hSb17 := hb17.size
  try simp only [World.size_alloc] at hSb17
  have kp0_0 := (qp0.out).cell 0 rfl
  have kp0_1 := (qp0.out).cell 1 rfl
  have kp0_2 := (qp0.out).cell 2 rfl
  have lp0 := (qp0.out).lt
  have kbx0_0 := (qbx0.out).cell 0 rfl
  have kbx0_1 := (qbx0.out).cell 1 rfl
  have kbx0_2 := (qbx0.out).cell 2 rfl
  have lbx0 := (qbx0.out).lt
  clear hb17
  go_wp2_with fail
  refine (toModes_any A _ _ ts now asked _ (by omega) HTs.out (hr.below (Nat.le_refl _) (by first | exact hB17 | go_grown))).mono ?_
  rintro e w18 ⟨ghz0, rfl, ghz01, ghz02, hz0, hb18⟩
  clear lp0 kp0_0 kp0_1 kp0_2
  clear lbx0 kbx0_0 kbx0_1 kbx0_2
  have hT18 : Below w17.heap.size w17 w18 := Below.andThen (by go_grown) hb18
  have hS18 := hT18.size
  have hB18 : Below W.heap.size W w18 := Below.andThen hB17 hT18
  have hw0 := hw0.below (Nat.le_refl _) hT18
  have hg0 := hg0.below (Nat.le_refl _) hT18
  have qp0 := Lib.hid ((qp0.out).below (Nat.le_refl _) hT18)
  have qbx0 := Lib.hid ((qbx0.out).below (Nat.le_refl _) hT18)
  have hSb18 := hb18.size
  try simp only [World.size_alloc] at hSb18
  have kp0_0 := (qp0.out).cell 0 rfl
  have kp0_1 := (qp0.out).cell 1 rfl
  have kp0_2 := (qp0.out).cell 2 rfl
  have lp0 := (qp0.out).lt
  have kbx0_0 := (qbx0.out).cell 0 rfl
  have kbx0_1 := (qbx0.out).cell 1 rfl
  have kbx0_2 := (qbx0.out).cell 2 rfl
  have lbx0 := (qbx0.out).lt
  clear hb18
  try simp only [World.size_alloc] at hz0
  go_wp2_with fail
  refine (toIntS_any Ab zsb.length _ zsb _ (by omega) (hrb.below (Nat.le_refl _) (by first | exact hB18 | go_grown))).mono ?_
  rintro e w19 ⟨rfl, hz1, hb19⟩
  clear lp0 kp0_0 kp0_1 kp0_2
  clear lbx0 kbx0_0 kbx0_1 kbx0_2
  have hT19 : Below w18.heap.size w18 w19 := Below.andThen (by go_grown) hb19
  have hS19 := hT19.size
  have hB19 : Below W.heap.size W w19 := Below.andThen hB18 hT19
  have hw0 := hw0.below (Nat.le_refl _) hT19
  have hg0 := hg0.below (Nat.le_refl _) hT19
  have hz0 := hz0.below (Nat.le_refl _) hT19
  have qp0 := Lib.hid ((qp0.out).below (Nat.le_refl _) hT19)
  have qbx0 := Lib.hid ((qbx0.out).below (Nat.le_refl _) hT19)
  have hSb19 := hb19.size
  try simp only [World.size_alloc] at hSb19
  have kp0_0 := (qp0.out).cell 0 rfl
  have kp0_1 := (qp0.out).cell 1 rfl
  have kp0_2 := (qp0.out).cell 2 rfl
  have lp0 := (qp0.out).lt
  have kbx0_0 := (qbx0.out).cell 0 rfl
  have kbx0_1 := (qbx0.out).cell 1 rfl
  have kbx0_2 := (qbx0.out).cell 2 rfl
  have lbx0 := (qbx0.out).lt
  clear hb19
  have hz1 := Fr.of_own hz1
  try simp only [World.size_alloc] at hz1
  go_wp2_with fail
  refine (iRunModes_any _ _ _ ts now asked parts _ _ _ zsb _ (by omega) HTs.out (by first | exact hz0.rd | exact (hz0.rd).alloc _ | exact ((hz0.rd).alloc _).alloc _ | exact (((hz0.rd).alloc _).alloc _).alloc _) (by omega) (by first | exact hz1.rd | exact (hz1.rd).alloc _ | exact ((hz1.rd).alloc _).alloc _ | exact (((hz1.rd).alloc _).alloc _).alloc _)).mono ?_
  rw [← HR.out]
  rintro e w20 ⟨Ahh0, chh0, rfl, hh0, hb20⟩
  clear lp0 kp0_0 kp0_1 kp0_2
  clear lbx0 kbx0_0 kbx0_1 kbx0_2
  have hT20 : Below w19.heap.size w19 w20 := Below.andThen (by go_grown) hb20
  have hS20 := hT20.size
  have hB20 : Below W.heap.size W w20 := Below.andThen hB19 hT20
  have hw0 := hw0.below (Nat.le_refl _) hT20
  have hg0 := hg0.below (Nat.le_refl _) hT20
  have hz0 := hz0.below (Nat.le_refl _) hT20
  have hz1 := hz1.below (Nat.le_refl _) hT20
  have qp0 := Lib.hid ((qp0.out).below (Nat.le_refl _) hT20)
  have qbx0 := Lib.hid ((qbx0.out).below (Nat.le_refl _) hT20)
  have hSb20 := hb20.size
  try simp only [World.size_alloc] at hSb20
  have kp0_0 := (qp0.out).cell 0 rfl
  have kp0_1 := (qp0.out).cell 1 rfl
  have kp0_2 := (qp0.out).cell 2 rfl
  have lp0 := (qp0.out).lt
  have kbx0_0 := (qbx0.out).cell 0 rfl
  have kbx0_1 := (qbx0.out).cell 1 rfl
  have kbx0_2 := (qbx0.out).cell 2 rfl
  have lbx0 := (qbx0.out).lt
  clear hb20
  try simp only [World.size_alloc] at hh0
  clear hz0
  clear hz1
  go_wp2_with fail
  refine (eqIntS_any _ _ _ _ _ _ (R) (R) _ (by omega) (by first | exact hh0.rd | exact (hh0.rd).alloc _ | exact ((hh0.rd).alloc _).alloc _ | exact (((hh0.rd).alloc _).alloc _).alloc _) (by first | exact hw0.rd | exact (hw0.rd).alloc _ | exact ((hw0.rd).alloc _).alloc _ | exact (((hw0.rd).alloc _).alloc _).alloc _)).mono ?_
  simp only [decide_true]
  rintro e w21 ⟨rfl, hb21⟩
  clear lp0 kp0_0 kp0_1 kp0_2
  clear lbx0 kbx0_0 kbx0_1 kbx0_2
  have hT21 : Below w20.heap.size w20 w21 := Below.andThen (by go_grown) hb21
  have hS21 := hT21.size
  have hB21 : Below W.heap.size W w21 := Below.andThen hB20 hT21
  have hw0 := hw0.below (Nat.le_refl _) hT21
  have hg0 := hg0.below (Nat.le_refl _) hT21
  have hh0 := hh0.below (Nat.le_refl _) hT21
  have qp0 := Lib.hid ((qp0.out).below (Nat.le_refl _) hT21)
  have qbx0 := Lib.hid ((qbx0.out).below (Nat.le_refl _) hT21)
  have hSb21 := hb21.size
  try simp only [World.size_alloc] at hSb21
  have kp0_0 := (qp0.out).cell 0 rfl
  have kp0_1 := (qp0.out).cell 1 rfl
  have kp0_2 := (qp0.out).cell 2 rfl
  have lp0 := (qp0.out).lt
  have kbx0_0 := (qbx0.out).cell 0 rfl
  have kbx0_1 := (qbx0.out).cell 1 rfl
  have kbx0_2 := (qbx0.out).cell 2 rfl
  have lbx0 := (qbx0.out).lt
  clear hb21
  go_wp2_with fail
  refine (heldIntS_any _ _ _ 1 _ (by omega) (by omega) (by omega) (by first | exact hg0.rd | exact (hg0.rd).alloc _ | exact ((hg0.rd).alloc _).alloc _ | exact (((hg0.rd).alloc _).alloc _).alloc _)).mono ?_
  rintro e w22 ⟨rfl, hb22⟩
  clear lp0 kp0_0 kp0_1 kp0_2
  clear lbx0 kbx0_0 kbx0_1 kbx0_2
  have hT22 : Below w21.heap.size w21 w22 := Below.andThen (by go_grown) hb22
  have hS22 := hT22.size
  have hB22 : Below W.heap.size W w22 := Below.andThen hB21 hT22
  have hw0 := hw0.below (Nat.le_refl _) hT22
  have hg0 := hg0.below (Nat.le_refl _) hT22
  have hh0 := hh0.below (Nat.le_refl _) hT22
  have qp0 := Lib.hid ((qp0.out).below (Nat.le_refl _) hT22)
  have qbx0 := Lib.hid ((qbx0.out).below (Nat.le_refl _) hT22)
  have hSb22 := hb22.size
  try simp only [World.size_alloc] at hSb22
  have kp0_0 := (qp0.out).cell 0 rfl
  have kp0_1 := (qp0.out).cell 1 rfl
  have kp0_2 := (qp0.out).cell 2 rfl
  have lp0 := (qp0.out).lt
  have kbx0_0 := (qbx0.out).cell 0 rfl
  have kbx0_1 := (qbx0.out).cell 1 rfl
  have kbx0_2 := (qbx0.out).cell 2 rfl
  have lbx0 := (qbx0.out).lt
  clear hb22
  go_wp2_with fail
  go_returns
  exact ⟨rfl, by first | exact hB22 | go_grown⟩
end Go.Proofs.Ytdccgflkhgnflaa
