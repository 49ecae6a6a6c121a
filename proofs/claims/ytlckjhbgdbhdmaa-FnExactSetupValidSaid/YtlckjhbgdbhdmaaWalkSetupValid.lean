/-
  The walk of FnExactSetupValid: the law returns true.
  Conditions: none.
-/
import Derived.Test.YtlckjhbgdbhdmaaSetup
import Derived.Deep.RegionHeld3
namespace Go.Proofs.Ytlckjhbgdbhdmaa
open Go.ChangeShapes Go.WideShapes Go.ChangeAt Go.RowKit Go.Joins
set_option linter.unusedVariables false
set_option maxRecDepth 100000 in
set_option maxHeartbeats 4000000 in
theorem lawSetupValid_walk (W : World) (A : Option Addr) (n c : Nat) (ps : List PartL) (B : Option Addr) (m d : Nat) (cs : List Chan) (C : Option Addr) (q e0 : Nat) (ss : List Slot2) (hl : ps.length = n ∧ cs.length = m ∧ ss.length = q) (hm : n ≤ maxLen ∧ m ≤ maxLen ∧ q ≤ maxLen) (hr : Rd_set W A n ps B m cs C q ss)  :
    Calls Try.prog 3 #[.agg #[.slice A n c, .slice B m d, .slice C q e0]] W fun e w' => e = .returned (.bool true) ∧ Below W.heap.size W w' := by
  obtain ⟨rfl, rfl, rfl⟩ := hl
  obtain ⟨hm1, hm2, hm3⟩ := hm
  unfold maxLen at hm1 hm2 hm3
  by_cases hz0 : 1048576 < setN ps cs ss
  · skip
    go_enter Try.func3, Try.ntmps3
    have hB0 : Below W.heap.size W W := Below.refl _ _
    go_wp2_with fail
    refine (szSetup_any A _ c ps B _ d cs C _ e0 ss (1048576) _ (by omega) (by omega) (by omega) (by omega) (by omega) (by first | exact hr | exact hr.alloc _ | exact hr.below (Nat.le_refl _) (by go_grown))).mono ?_
    rw [if_neg (by omega)]
    rintro e w1 ⟨rfl, hb1⟩
    have hT1 : Below W.heap.size W w1 := Below.andThen (by go_grown) hb1
    have hS1 := hT1.size
    have hB1 : Below W.heap.size W w1 := Below.andThen hB0 hT1
    have qp0 : Hid (Blk w1 (W.heap.size) 26 #[.slice A ps.length c, .slice B cs.length d, .slice C ss.length e0]) := Blk.below (w' := w1) (by repeat' (first | (refine Blk.at_ _ _ _ ?_; first | rfl | (simp; done)) | refine Blk.alloc ?_ _ | refine Blk.drewN ?_ _ | assumption)) (Nat.le_refl _) hb1
    have hSb1 := hb1.size
    try simp only [World.size_alloc] at hSb1
    have kp0_0 := (qp0.out).cell 0 rfl
    have kp0_1 := (qp0.out).cell 1 rfl
    have kp0_2 := (qp0.out).cell 2 rfl
    have lp0 := (qp0.out).lt
    clear hb1
    go_wp2_with fail
    go_returns
    exact ⟨rfl, by first | exact hB1 | go_grown⟩
  have hN : ps.length + partN ps + cs.length + ss.length ≤ 1048576 := by unfold setN at hz0; omega
  have ht : ∀ x ∈ ps, (partI x).length ≤ 1048576 := by
    intro x hx
    obtain ⟨k, hk⟩ := List.getElem?_of_mem hx
    have h9 := totN_at (inn := partI) hk
    unfold partN at hN
    omega
  have HTs := Lib.hid ht
  have HTs2 : Hid (∀ x ∈ ps, (partI x).length ≤ 1048577) := fun x hx => Nat.le_succ_of_le (HTs.out x hx)
  clear ht
  go_enter Try.func3, Try.ntmps3
  have hB0 : Below W.heap.size W W := Below.refl _ _
  go_wp2_with fail
  refine (szSetup_any A _ c ps B _ d cs C _ e0 ss (1048576) _ (by omega) (by omega) (by omega) (by omega) (by omega) (by first | exact hr | exact hr.alloc _ | exact hr.below (Nat.le_refl _) (by go_grown))).mono ?_
  rw [if_pos (by omega)]
  rintro e w1 ⟨rfl, hb1⟩
  have hT1 : Below W.heap.size W w1 := Below.andThen (by go_grown) hb1
  have hS1 := hT1.size
  have hB1 : Below W.heap.size W w1 := Below.andThen hB0 hT1
  have qp0 : Hid (Blk w1 (W.heap.size) 26 #[.slice A ps.length c, .slice B cs.length d, .slice C ss.length e0]) := Blk.below (w' := w1) (by repeat' (first | (refine Blk.at_ _ _ _ ?_; first | rfl | (simp; done)) | refine Blk.alloc ?_ _ | refine Blk.drewN ?_ _ | assumption)) (Nat.le_refl _) hb1
  have hSb1 := hb1.size
  try simp only [World.size_alloc] at hSb1
  have kp0_0 := (qp0.out).cell 0 rfl
  have kp0_1 := (qp0.out).cell 1 rfl
  have kp0_2 := (qp0.out).cell 2 rfl
  have lp0 := (qp0.out).lt
  clear hb1
  go_wp2_with fail
  refine (toSetup_any A _ _ ps B _ _ cs C _ _ ss _ (by omega) (by omega) (by omega) HTs.out (hr.below (Nat.le_refl _) (by first | exact hB1 | go_grown))).mono ?_
  rintro e w2 ⟨gaha0, gbha0, gcha0, rfl, ha0, hb2⟩
  clear lp0 kp0_0 kp0_1 kp0_2
  have hT2 : Below w1.heap.size w1 w2 := Below.andThen (by go_grown) hb2
  have hS2 := hT2.size
  have hB2 : Below W.heap.size W w2 := Below.andThen hB1 hT2
  have qp0 := Lib.hid ((qp0.out).below (Nat.le_refl _) hT2)
  have hSb2 := hb2.size
  try simp only [World.size_alloc] at hSb2
  have kp0_0 := (qp0.out).cell 0 rfl
  have kp0_1 := (qp0.out).cell 1 rfl
  have kp0_2 := (qp0.out).cell 2 rfl
  have lp0 := (qp0.out).lt
  clear hb2
  try simp only [World.size_alloc] at ha0
  go_wp2_with fail
  refine (sSetupValid_any _ _ _ ps _ _ _ cs _ _ _ ss _ (by omega) (by omega) (by omega) HTs2.out (by first | exact ha0.rd | exact (ha0.rd).alloc _ | exact ((ha0.rd).alloc _).alloc _ | exact (((ha0.rd).alloc _).alloc _).alloc _)).mono ?_
  rintro e w3 ⟨rfl, hb3⟩
  clear lp0 kp0_0 kp0_1 kp0_2
  have hT3 : Below w2.heap.size w2 w3 := Below.andThen (by go_grown) hb3
  have hS3 := hT3.size
  have hB3 : Below W.heap.size W w3 := Below.andThen hB2 hT3
  have ha0 := ha0.below (Nat.le_refl _) hT3
  have qp0 := Lib.hid ((qp0.out).below (Nat.le_refl _) hT3)
  have hSb3 := hb3.size
  try simp only [World.size_alloc] at hSb3
  have kp0_0 := (qp0.out).cell 0 rfl
  have kp0_1 := (qp0.out).cell 1 rfl
  have kp0_2 := (qp0.out).cell 2 rfl
  have lp0 := (qp0.out).lt
  clear hb3
  clear ha0
  go_wp2_with fail
  refine (toSetup_any A _ _ ps B _ _ cs C _ _ ss _ (by omega) (by omega) (by omega) HTs.out (hr.below (Nat.le_refl _) (by first | exact hB3 | go_grown))).mono ?_
  rintro e w4 ⟨gahx0, gbhx0, gchx0, rfl, hx0, hb4⟩
  clear lp0 kp0_0 kp0_1 kp0_2
  have hT4 : Below w3.heap.size w3 w4 := Below.andThen (by go_grown) hb4
  have hS4 := hT4.size
  have hB4 : Below W.heap.size W w4 := Below.andThen hB3 hT4
  have qp0 := Lib.hid ((qp0.out).below (Nat.le_refl _) hT4)
  have hSb4 := hb4.size
  try simp only [World.size_alloc] at hSb4
  have kp0_0 := (qp0.out).cell 0 rfl
  have kp0_1 := (qp0.out).cell 1 rfl
  have kp0_2 := (qp0.out).cell 2 rfl
  have lp0 := (qp0.out).lt
  clear hb4
  try simp only [World.size_alloc] at hx0
  go_wp2_with fail
  refine (iSetupValid_any _ _ _ ps _ _ _ cs _ _ _ ss _ (by omega) (by omega) (by omega) HTs2.out (by first | exact hx0.rd | exact (hx0.rd).alloc _ | exact ((hx0.rd).alloc _).alloc _ | exact (((hx0.rd).alloc _).alloc _).alloc _)).mono ?_
  rintro e w5 ⟨rfl, hb5⟩
  clear lp0 kp0_0 kp0_1 kp0_2
  have hT5 : Below w4.heap.size w4 w5 := Below.andThen (by go_grown) hb5
  have hS5 := hT5.size
  have hB5 : Below W.heap.size W w5 := Below.andThen hB4 hT5
  have hx0 := hx0.below (Nat.le_refl _) hT5
  have qp0 := Lib.hid ((qp0.out).below (Nat.le_refl _) hT5)
  have qbx0 : Hid (Blk w5 (w4.heap.size) 33 #[.slice (some ⟨gahx0, 0, none⟩) ps.length ps.length, .slice (some ⟨gbhx0, 0, none⟩) cs.length cs.length, .slice (some ⟨gchx0, 0, none⟩) ss.length ss.length]) := Blk.below (w' := w5) (by repeat' (first | (refine Blk.at_ _ _ _ ?_; first | rfl | (simp; done)) | refine Blk.alloc ?_ _ | refine Blk.drewN ?_ _ | assumption)) (Nat.le_refl _) hb5
  have hSb5 := hb5.size
  try simp only [World.size_alloc] at hSb5
  have kp0_0 := (qp0.out).cell 0 rfl
  have kp0_1 := (qp0.out).cell 1 rfl
  have kp0_2 := (qp0.out).cell 2 rfl
  have lp0 := (qp0.out).lt
  have kbx0_0 := (qbx0.out).cell 0 rfl
  have kbx0_1 := (qbx0.out).cell 1 rfl
  have kbx0_2 := (qbx0.out).cell 2 rfl
  have lbx0 := (qbx0.out).lt
  clear hb5
  go_wp2
  go_region_held3 (fun w' => w'.cell? ⟨W.heap.size, 0, none⟩ = some (.slice A ps.length c) ∧ w'.cell? ⟨W.heap.size, 1, none⟩ = some (.slice B cs.length d) ∧ w'.cell? ⟨W.heap.size, 2, none⟩ = some (.slice C ss.length e0) ∧ w'.cell? ⟨w4.heap.size, 0, none⟩ = some (.slice (some ⟨gahx0, 0, none⟩) ps.length ps.length) ∧ w'.cell? ⟨w4.heap.size, 1, none⟩ = some (.slice (some ⟨gbhx0, 0, none⟩) cs.length cs.length) ∧ w'.cell? ⟨w4.heap.size, 2, none⟩ = some (.slice (some ⟨gchx0, 0, none⟩) ss.length ss.length)) (first | exact ⟨kp0_0, kp0_1, kp0_2, kbx0_0, kbx0_1, kbx0_2⟩ | exact ⟨by first | exact kp0_0 | (simp [go_sem]; done) | (simp [go_sem, *]; done), by first | exact kp0_1 | (simp [go_sem]; done) | (simp [go_sem, *]; done), by first | exact kp0_2 | (simp [go_sem]; done) | (simp [go_sem, *]; done), by first | exact kbx0_0 | (simp [go_sem]; done) | (simp [go_sem, *]; done), by first | exact kbx0_1 | (simp [go_sem]; done) | (simp [go_sem, *]; done), by first | exact kbx0_2 | (simp [go_sem]; done) | (simp [go_sem, *]; done)⟩ | assumption) (first | (go_at_call 9; refine (toSetup_any A _ _ ps B _ _ cs C _ _ ss _ (by omega) (by omega) (by omega) HTs.out (hr.below (Nat.le_refl _) (by first | exact hB5 | go_grown))).mono ?_; rintro e w6 ⟨gahy0, gbhy0, gchy0, rfl, hy0, hb6⟩; clear lp0 kp0_0 kp0_1 kp0_2; clear lbx0 kbx0_0 kbx0_1 kbx0_2; have hT6 : Below w5.heap.size w5 w6 := Below.andThen (by go_grown) hb6; have hS6 := hT6.size; have hB6 : Below W.heap.size W w6 := Below.andThen hB5 hT6; have hx0 := hx0.below (Nat.le_refl _) hT6; have qp0 := Lib.hid ((qp0.out).below (Nat.le_refl _) hT6); have qbx0 := Lib.hid ((qbx0.out).below (Nat.le_refl _) hT6); have hSb6 := hb6.size; (try simp only [World.size_alloc] at hSb6); have kp0_0 := (qp0.out).cell 0 rfl; have kp0_1 := (qp0.out).cell 1 rfl; have kp0_2 := (qp0.out).cell 2 rfl; have lp0 := (qp0.out).lt; have kbx0_0 := (qbx0.out).cell 0 rfl; have kbx0_1 := (qbx0.out).cell 1 rfl; have kbx0_2 := (qbx0.out).cell 2 rfl; have lbx0 := (qbx0.out).lt; clear hb6; (try simp only [World.size_alloc] at hy0)) | (go_at_call 11; refine (eqSetup_same _ _ _ _ _ ps _ _ _ _ _ cs _ _ _ _ _ ss _ (by omega) (by omega) (by omega) HTs2.out (by first | exact hx0.rd | exact (hx0.rd).alloc _ | exact ((hx0.rd).alloc _).alloc _ | exact (((hx0.rd).alloc _).alloc _).alloc _) (by first | exact hy0.rd | exact (hy0.rd).alloc _ | exact ((hy0.rd).alloc _).alloc _ | exact (((hy0.rd).alloc _).alloc _).alloc _)).mono ?_; rintro e w7 ⟨rfl, hb7⟩; clear lp0 kp0_0 kp0_1 kp0_2; clear lbx0 kbx0_0 kbx0_1 kbx0_2; have hT7 : Below w6.heap.size w6 w7 := Below.andThen (by go_grown) hb7; have hS7 := hT7.size; have hB7 : Below W.heap.size W w7 := Below.andThen hB6 hT7; have hx0 := hx0.below (Nat.le_refl _) hT7; have hy0 := hy0.below (Nat.le_refl _) hT7; have qp0 := Lib.hid ((qp0.out).below (Nat.le_refl _) hT7); have qbx0 := Lib.hid ((qbx0.out).below (Nat.le_refl _) hT7); have hSb7 := hb7.size; (try simp only [World.size_alloc] at hSb7); have kp0_0 := (qp0.out).cell 0 rfl; have kp0_1 := (qp0.out).cell 1 rfl; have kp0_2 := (qp0.out).cell 2 rfl; have lp0 := (qp0.out).lt; have kbx0_0 := (qbx0.out).cell 0 rfl; have kbx0_1 := (qbx0.out).cell 1 rfl; have kbx0_2 := (qbx0.out).cell 2 rfl; have lbx0 := (qbx0.out).lt; clear hb7))
  clear hy0
  go_wp2_with fail
  go_returns
  exact ⟨rfl, by first | exact hB7 | go_grown⟩
end Go.Proofs.Ytlckjhbgdbhdmaa
