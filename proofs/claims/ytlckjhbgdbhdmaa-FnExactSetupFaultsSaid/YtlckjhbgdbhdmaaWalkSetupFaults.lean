/-
  The walk of FnExactSetupFaults: the law returns true.
  Conditions: none.
-/
import Derived.Test.YtlckjhbgdbhdmaaFaults3
import Derived.Deep.RegionHeld3
namespace Go.Proofs.Ytlckjhbgdbhdmaa
open Go.ChangeShapes Go.WideShapes Go.ChangeAt Go.RowKit Go.Joins
set_option linter.unusedVariables false
set_option maxRecDepth 100000 in
set_option maxHeartbeats 4000000 in
theorem lawSetupFaults_walk (W : World) (A : Option Addr) (n c : Nat) (ps : List PartL) (B : Option Addr) (m d : Nat) (cs : List Chan) (C : Option Addr) (q e0 : Nat) (ss : List Slot2) (hl : ps.length = n ∧ cs.length = m ∧ ss.length = q) (hm : n ≤ maxLen ∧ m ≤ maxLen ∧ q ≤ maxLen) (hr : Rd_set W A n ps B m cs C q ss)  :
    Calls Try.prog 4 #[.agg #[.slice A n c, .slice B m d, .slice C q e0]] W fun e w' => e = .returned (.bool true) ∧ Below W.heap.size W w' := by
  obtain ⟨rfl, rfl, rfl⟩ := hl
  obtain ⟨hm1, hm2, hm3⟩ := hm
  unfold maxLen at hm1 hm2 hm3
  by_cases hz0 : 1048576 < setN ps cs ss
  · skip
    go_enter Try.func4, Try.ntmps4
    have hB0 : Below W.heap.size W W := Below.refl _ _
    go_wp2_with fail
    refine (szSetup_any A _ c ps B _ d cs C _ e0 ss (1048576) _ (by omega) (by omega) (by omega) (by omega) (by omega) (by first | exact hr | exact hr.alloc _ | exact hr.below (Nat.le_refl _) (by go_grown))).mono ?_
    rw [if_neg (by omega)]
    rintro e w1 ⟨rfl, hb1⟩
    have hT1 : Below W.heap.size W w1 := Below.andThen (by go_grown) hb1
    have hS1 := hT1.size
    have hB1 : Below W.heap.size W w1 := Below.andThen hB0 hT1
    have qp0 : Hid (Blk w1 (W.heap.size) 26 #[.slice A ps.length c, .slice B cs.length d, .slice C ss.length e0]) := Blk.below (w' := w1) (by repeat' (first | (refine Blk.at_ _ _ _ ?_; first | rfl | (simp; done)) | refine Blk.alloc ?_ _ | refine Blk.drewN ?_ _ | assumption)) (Nat.le_refl _) hb1
    have hSb1 := hb1.size
    try simp only [World.size_alloc] at hSb1
    have kp0_0 := (qp0.out).cell 0 rfl
    have kp0_1 := (qp0.out).cell 1 rfl
    have kp0_2 := (qp0.out).cell 2 rfl
    have lp0 := (qp0.out).lt
    clear hb1
    go_wp2_with fail
    go_returns
    exact ⟨rfl, by first | exact hB1 | go_grown⟩
  have hN : ps.length + partN ps + cs.length + ss.length ≤ 1048576 := by unfold setN at hz0; omega
  have ht : ∀ x ∈ ps, (partI x).length ≤ 1048576 := by
    intro x hx
    obtain ⟨k, hk⟩ := List.getElem?_of_mem hx
    have h9 := totN_at (inn := partI) hk
    unfold partN at hN
    omega
  have HTs := Lib.hid ht
  have HTs2 : Hid (∀ x ∈ ps, (partI x).length ≤ 1048577) := fun x hx => Nat.le_succ_of_le (HTs.out x hx)
  clear ht
  have HMK : Hid (markPN ps ≤ 3145728) := by show _ ≤ _; rw [markPN_of]; omega
  obtain ⟨R, hR⟩ : ∃ R : List Int, R = faultsL ps cs ss := ⟨_, rfl⟩
  have HR := Lib.hid hR
  have hRl : R.length ≤ 1048576 := by rw [hR]; have := faultsL_len ps cs ss; omega
  clear hR
  go_enter Try.func4, Try.ntmps4
  have hB0 : Below W.heap.size W W := Below.refl _ _
  go_wp2_with fail
  refine (szSetup_any A _ c ps B _ d cs C _ e0 ss (1048576) _ (by omega) (by omega) (by omega) (by omega) (by omega) (by first | exact hr | exact hr.alloc _ | exact hr.below (Nat.le_refl _) (by go_grown))).mono ?_
  rw [if_pos (by omega)]
  rintro e w1 ⟨rfl, hb1⟩
  have hT1 : Below W.heap.size W w1 := Below.andThen (by go_grown) hb1
  have hS1 := hT1.size
  have hB1 : Below W.heap.size W w1 := Below.andThen hB0 hT1
  have qp0 : Hid (Blk w1 (W.heap.size) 26 #[.slice A ps.length c, .slice B cs.length d, .slice C ss.length e0]) := Blk.below (w' := w1) (by repeat' (first | (refine Blk.at_ _ _ _ ?_; first | rfl | (simp; done)) | refine Blk.alloc ?_ _ | refine Blk.drewN ?_ _ | assumption)) (Nat.le_refl _) hb1
  have hSb1 := hb1.size
  try simp only [World.size_alloc] at hSb1
  have kp0_0 := (qp0.out).cell 0 rfl
  have kp0_1 := (qp0.out).cell 1 rfl
  have kp0_2 := (qp0.out).cell 2 rfl
  have lp0 := (qp0.out).lt
  clear hb1
  go_wp2_with fail
  refine (toSetup_any A _ _ ps B _ _ cs C _ _ ss _ (by omega) (by omega) (by omega) HTs.out (hr.below (Nat.le_refl _) (by first | exact hB1 | go_grown))).mono ?_
  rintro e w2 ⟨gaha0, gbha0, gcha0, rfl, ha0, hb2⟩
  clear lp0 kp0_0 kp0_1 kp0_2
  have hT2 : Below w1.heap.size w1 w2 := Below.andThen (by go_grown) hb2
  have hS2 := hT2.size
  have hB2 : Below W.heap.size W w2 := Below.andThen hB1 hT2
  have qp0 := Lib.hid ((qp0.out).below (Nat.le_refl _) hT2)
  have hSb2 := hb2.size
  try simp only [World.size_alloc] at hSb2
  have kp0_0 := (qp0.out).cell 0 rfl
  have kp0_1 := (qp0.out).cell 1 rfl
  have kp0_2 := (qp0.out).cell 2 rfl
  have lp0 := (qp0.out).lt
  clear hb2
  try simp only [World.size_alloc] at ha0
  go_wp2_with fail
  refine (sSetupFaults_any _ _ _ ps _ _ _ cs _ _ _ ss _ (by omega) (by omega) (by omega) HTs2.out (by first | exact ha0.rd | exact (ha0.rd).alloc _ | exact ((ha0.rd).alloc _).alloc _ | exact (((ha0.rd).alloc _).alloc _).alloc _)).mono ?_
  rw [← HR.out]
  rintro e w3 ⟨Ahw0, chw0, rfl, hw0, hb3⟩
  clear lp0 kp0_0 kp0_1 kp0_2
  have hT3 : Below w2.heap.size w2 w3 := Below.andThen (by go_grown) hb3
  have hS3 := hT3.size
  have hB3 : Below W.heap.size W w3 := Below.andThen hB2 hT3
  have ha0 := ha0.below (Nat.le_refl _) hT3
  have qp0 := Lib.hid ((qp0.out).below (Nat.le_refl _) hT3)
  have hSb3 := hb3.size
  try simp only [World.size_alloc] at hSb3
  have kp0_0 := (qp0.out).cell 0 rfl
  have kp0_1 := (qp0.out).cell 1 rfl
  have kp0_2 := (qp0.out).cell 2 rfl
  have lp0 := (qp0.out).lt
  clear hb3
  try simp only [World.size_alloc] at hw0
  clear ha0
  go_wp2_with fail
  refine (toSetup_any A _ _ ps B _ _ cs C _ _ ss _ (by omega) (by omega) (by omega) HTs.out (hr.below (Nat.le_refl _) (by first | exact hB3 | go_grown))).mono ?_
  rintro e w4 ⟨gahx0, gbhx0, gchx0, rfl, hx0, hb4⟩
  clear lp0 kp0_0 kp0_1 kp0_2
  have hT4 : Below w3.heap.size w3 w4 := Below.andThen (by go_grown) hb4
  have hS4 := hT4.size
  have hB4 : Below W.heap.size W w4 := Below.andThen hB3 hT4
  have hw0 := hw0.below (Nat.le_refl _) hT4
  have qp0 := Lib.hid ((qp0.out).below (Nat.le_refl _) hT4)
  have hSb4 := hb4.size
  try simp only [World.size_alloc] at hSb4
  have kp0_0 := (qp0.out).cell 0 rfl
  have kp0_1 := (qp0.out).cell 1 rfl
  have kp0_2 := (qp0.out).cell 2 rfl
  have lp0 := (qp0.out).lt
  clear hb4
  try simp only [World.size_alloc] at hx0
  go_wp2_with fail
  refine (iSetupFaults_any _ _ _ ps _ _ _ cs _ _ _ ss _ (by omega) (by omega) (by omega) HTs2.out (by first | exact hx0.rd | exact (hx0.rd).alloc _ | exact ((hx0.rd).alloc _).alloc _ | exact (((hx0.rd).alloc _).alloc _).alloc _) (Nat.le_refl _) (Nat.le_refl _)).mono ?_
  rw [← HR.out]
  rintro e w5 ⟨Ahg0, chg0, rfl, hg0, hb5⟩
  clear lp0 kp0_0 kp0_1 kp0_2
  have hT5 : Below w4.heap.size w4 w5 := Below.andThen (by go_grown) hb5
  have hS5 := hT5.size
  have hB5 : Below W.heap.size W w5 := Below.andThen hB4 hT5
  have hw0 := hw0.below (Nat.le_refl _) hT5
  have hx0 := hx0.below (Nat.le_refl _) hT5
  have qp0 := Lib.hid ((qp0.out).below (Nat.le_refl _) hT5)
  have qbx0 : Hid (Blk w5 (w4.heap.size) 33 #[.slice (some ⟨gahx0, 0, none⟩) ps.length ps.length, .slice (some ⟨gbhx0, 0, none⟩) cs.length cs.length, .slice (some ⟨gchx0, 0, none⟩) ss.length ss.length]) := Blk.below (w' := w5) (by repeat' (first | (refine Blk.at_ _ _ _ ?_; first | rfl | (simp; done)) | refine Blk.alloc ?_ _ | refine Blk.drewN ?_ _ | assumption)) (Nat.le_refl _) hb5
  have hSb5 := hb5.size
  try simp only [World.size_alloc] at hSb5
  have kp0_0 := (qp0.out).cell 0 rfl
  have kp0_1 := (qp0.out).cell 1 rfl
  have kp0_2 := (qp0.out).cell 2 rfl
  have lp0 := (qp0.out).lt
  have kbx0_0 := (qbx0.out).cell 0 rfl
  have kbx0_1 := (qbx0.out).cell 1 rfl
  have kbx0_2 := (qbx0.out).cell 2 rfl
  have lbx0 := (qbx0.out).lt
  clear hb5
  try simp only [World.size_alloc] at hg0
  go_wp2_with fail
  refine (eqIntS_any _ _ _ _ _ _ (R) (R) _ (by omega) (by first | exact hg0.rd | exact (hg0.rd).alloc _ | exact ((hg0.rd).alloc _).alloc _ | exact (((hg0.rd).alloc _).alloc _).alloc _) (by first | exact hw0.rd | exact (hw0.rd).alloc _ | exact ((hw0.rd).alloc _).alloc _ | exact (((hw0.rd).alloc _).alloc _).alloc _)).mono ?_
  simp only [decide_true]
  rintro e w6 ⟨rfl, hb6⟩
  clear lp0 kp0_0 kp0_1 kp0_2
  clear lbx0 kbx0_0 kbx0_1 kbx0_2
  have hT6 : Below w5.heap.size w5 w6 := Below.andThen (by go_grown) hb6
  have hS6 := hT6.size
  have hB6 : Below W.heap.size W w6 := Below.andThen hB5 hT6
  have hw0 := hw0.below (Nat.le_refl _) hT6
  have hx0 := hx0.below (Nat.le_refl _) hT6
  have hg0 := hg0.below (Nat.le_refl _) hT6
  have qp0 := Lib.hid ((qp0.out).below (Nat.le_refl _) hT6)
  have qbx0 := Lib.hid ((qbx0.out).below (Nat.le_refl _) hT6)
  have hSb6 := hb6.size
  try simp only [World.size_alloc] at hSb6
  have kp0_0 := (qp0.out).cell 0 rfl
  have kp0_1 := (qp0.out).cell 1 rfl
  have kp0_2 := (qp0.out).cell 2 rfl
  have lp0 := (qp0.out).lt
  have kbx0_0 := (qbx0.out).cell 0 rfl
  have kbx0_1 := (qbx0.out).cell 1 rfl
  have kbx0_2 := (qbx0.out).cell 2 rfl
  have lbx0 := (qbx0.out).lt
  clear hb6
  go_wp2
  go_region_held3 (fun w' => w'.cell? ⟨W.heap.size, 0, none⟩ = some (.slice A ps.length c) ∧ w'.cell? ⟨W.heap.size, 1, none⟩ = some (.slice B cs.length d) ∧ w'.cell? ⟨W.heap.size, 2, none⟩ = some (.slice C ss.length e0) ∧ w'.cell? ⟨w4.heap.size, 0, none⟩ = some (.slice (some ⟨gahx0, 0, none⟩) ps.length ps.length) ∧ w'.cell? ⟨w4.heap.size, 1, none⟩ = some (.slice (some ⟨gbhx0, 0, none⟩) cs.length cs.length) ∧ w'.cell? ⟨w4.heap.size, 2, none⟩ = some (.slice (some ⟨gchx0, 0, none⟩) ss.length ss.length)) (first | exact ⟨kp0_0, kp0_1, kp0_2, kbx0_0, kbx0_1, kbx0_2⟩ | exact ⟨by first | exact kp0_0 | (simp [go_sem]; done) | (simp [go_sem, *]; done), by first | exact kp0_1 | (simp [go_sem]; done) | (simp [go_sem, *]; done), by first | exact kp0_2 | (simp [go_sem]; done) | (simp [go_sem, *]; done), by first | exact kbx0_0 | (simp [go_sem]; done) | (simp [go_sem, *]; done), by first | exact kbx0_1 | (simp [go_sem]; done) | (simp [go_sem, *]; done), by first | exact kbx0_2 | (simp [go_sem]; done) | (simp [go_sem, *]; done)⟩ | assumption) (first | (go_at_call 9; refine (toSetup_any A _ _ ps B _ _ cs C _ _ ss _ (by omega) (by omega) (by omega) HTs.out (hr.below (Nat.le_refl _) (by first | exact hB6 | go_grown))).mono ?_; rintro e w7 ⟨gahy0, gbhy0, gchy0, rfl, hy0, hb7⟩; clear lp0 kp0_0 kp0_1 kp0_2; clear lbx0 kbx0_0 kbx0_1 kbx0_2; have hT7 : Below w6.heap.size w6 w7 := Below.andThen (by go_grown) hb7; have hS7 := hT7.size; have hB7 : Below W.heap.size W w7 := Below.andThen hB6 hT7; have hw0 := hw0.below (Nat.le_refl _) hT7; have hx0 := hx0.below (Nat.le_refl _) hT7; have hg0 := hg0.below (Nat.le_refl _) hT7; have qp0 := Lib.hid ((qp0.out).below (Nat.le_refl _) hT7); have qbx0 := Lib.hid ((qbx0.out).below (Nat.le_refl _) hT7); have hSb7 := hb7.size; (try simp only [World.size_alloc] at hSb7); have kp0_0 := (qp0.out).cell 0 rfl; have kp0_1 := (qp0.out).cell 1 rfl; have kp0_2 := (qp0.out).cell 2 rfl; have lp0 := (qp0.out).lt; have kbx0_0 := (qbx0.out).cell 0 rfl; have kbx0_1 := (qbx0.out).cell 1 rfl; have kbx0_2 := (qbx0.out).cell 2 rfl; have lbx0 := (qbx0.out).lt; clear hb7; (try simp only [World.size_alloc] at hy0)) | (go_at_call 11; refine (eqSetup_same _ _ _ _ _ ps _ _ _ _ _ cs _ _ _ _ _ ss _ (by omega) (by omega) (by omega) HTs2.out (by first | exact hx0.rd | exact (hx0.rd).alloc _ | exact ((hx0.rd).alloc _).alloc _ | exact (((hx0.rd).alloc _).alloc _).alloc _) (by first | exact hy0.rd | exact (hy0.rd).alloc _ | exact ((hy0.rd).alloc _).alloc _ | exact (((hy0.rd).alloc _).alloc _).alloc _)).mono ?_; rintro e w8 ⟨rfl, hb8⟩; clear lp0 kp0_0 kp0_1 kp0_2; clear lbx0 kbx0_0 kbx0_1 kbx0_2; have hT8 : Below w7.heap.size w7 w8 := Below.andThen (by go_grown) hb8; have hS8 := hT8.size; have hB8 : Below W.heap.size W w8 := Below.andThen hB7 hT8; have hw0 := hw0.below (Nat.le_refl _) hT8; have hx0 := hx0.below (Nat.le_refl _) hT8; have hg0 := hg0.below (Nat.le_refl _) hT8; have hy0 := hy0.below (Nat.le_refl _) hT8; have qp0 := Lib.hid ((qp0.out).below (Nat.le_refl _) hT8); have qbx0 := Lib.hid ((qbx0.out).below (Nat.le_refl _) hT8); have hSb8 := hb8.size; (try simp only [World.size_alloc] at hSb8); have kp0_0 := (qp0.out).cell 0 rfl; have kp0_1 := (qp0.out).cell 1 rfl; have kp0_2 := (qp0.out).cell 2 rfl; have lp0 := (qp0.out).lt; have kbx0_0 := (qbx0.out).cell 0 rfl; have kbx0_1 := (qbx0.out).cell 1 rfl; have kbx0_2 := (qbx0.out).cell 2 rfl; have lbx0 := (qbx0.out).lt; clear hb8))
  clear hy0
  go_wp2_with fail
  refine (markSetup_any2 _ _ _ _ _ _ _ _ ps cs ss 1 _ (by omega) (by omega) (by omega) HMK.out (by omega) (by omega) (by first | exact hx0 | exact (hx0).alloc _ | exact ((hx0).alloc _).alloc _) (by first | omega | (simp only [World.size_alloc]; omega))).mono ?_
  rintro e w9 ⟨rfl, hb9⟩
  clear lp0 kp0_0 kp0_1 kp0_2
  clear lbx0 kbx0_0 kbx0_1 kbx0_2
  have hT9 := Touch.trans (Touch.of_below (w := w8) (B := w8.heap.size) (by go_grown) (Nat.le_refl _)) hb9
  have hS9 := hT9.size
  have hB9 : Below W.heap.size W w9 := hB8.trans (hT9.below (by first | omega | (have := hB8.size; omega)) hB8.size)
  have hw0 := hw0.touch hT9 (by omega)
  have hg0 := hg0.touch hT9 (by omega)
  have qp0 := Lib.hid ((qp0.out).touch hT9 (by omega))
  have qbx0 := Lib.hid ((qbx0.out).touch hT9 (by omega))
  have kp0_0 := (qp0.out).cell 0 rfl
  have kp0_1 := (qp0.out).cell 1 rfl
  have kp0_2 := (qp0.out).cell 2 rfl
  have lp0 := (qp0.out).lt
  have kbx0_0 := (qbx0.out).cell 0 rfl
  have kbx0_1 := (qbx0.out).cell 1 rfl
  have kbx0_2 := (qbx0.out).cell 2 rfl
  have lbx0 := (qbx0.out).lt
  clear hb9
  go_wp2_with fail
  refine (eqIntS_any _ _ _ _ _ _ (R) (R) _ (by omega) (by first | exact hg0.rd | exact (hg0.rd).alloc _ | exact ((hg0.rd).alloc _).alloc _ | exact (((hg0.rd).alloc _).alloc _).alloc _) (by first | exact hw0.rd | exact (hw0.rd).alloc _ | exact ((hw0.rd).alloc _).alloc _ | exact (((hw0.rd).alloc _).alloc _).alloc _)).mono ?_
  simp only [decide_true]
  rintro e w10 ⟨rfl, hb10⟩
  clear lp0 kp0_0 kp0_1 kp0_2
  clear lbx0 kbx0_0 kbx0_1 kbx0_2
  have hT10 : Below w9.heap.size w9 w10 := Below.andThen (by go_grown) hb10
  have hS10 := hT10.size
  have hB10 : Below W.heap.size W w10 := Below.andThen hB9 hT10
  have hw0 := hw0.below (Nat.le_refl _) hT10
  have hg0 := hg0.below (Nat.le_refl _) hT10
  have qp0 := Lib.hid ((qp0.out).below (Nat.le_refl _) hT10)
  have qbx0 := Lib.hid ((qbx0.out).below (Nat.le_refl _) hT10)
  have hSb10 := hb10.size
  try simp only [World.size_alloc] at hSb10
  have kp0_0 := (qp0.out).cell 0 rfl
  have kp0_1 := (qp0.out).cell 1 rfl
  have kp0_2 := (qp0.out).cell 2 rfl
  have lp0 := (qp0.out).lt
  have kbx0_0 := (qbx0.out).cell 0 rfl
  have kbx0_1 := (qbx0.out).cell 1 rfl
  have kbx0_2 := (qbx0.out).cell 2 rfl
  have lbx0 := (qbx0.out).lt
  clear hb10
  clear hx0
  go_wp2_with fail
  refine (markIntS_any _ _ _ _ 1 _ _ _ (by omega) (by omega) (by omega) (by first | exact hg0 | exact (hg0).alloc _ | exact ((hg0).alloc _).alloc _)).mono ?_
  rintro e w11 ⟨rfl, hg0, hb11⟩
  clear lp0 kp0_0 kp0_1 kp0_2
  clear lbx0 kbx0_0 kbx0_1 kbx0_2
  have hT11 := Touch.trans (Touch.of_below (w := w10) (B := w10.heap.size) (by go_grown) (Nat.le_refl _)) hb11
  have hS11 := hT11.size
  have hB11 : Below W.heap.size W w11 := hB10.trans (hT11.below (by first | omega | (have := hB10.size; omega)) hB10.size)
  have hw0 := hw0.touch hT11 (by omega)
  have qp0 := Lib.hid ((qp0.out).touch hT11 (by omega))
  have qbx0 := Lib.hid ((qbx0.out).touch hT11 (by omega))
  have kp0_0 := (qp0.out).cell 0 rfl
  have kp0_1 := (qp0.out).cell 1 rfl
  have kp0_2 := (qp0.out).cell 2 rfl
  have lp0 := (qp0.out).lt
  have kbx0_0 := (qbx0.out).cell 0 rfl
  have kbx0_1 := (qbx0.out).cell 1 rfl
  have kbx0_2 := (qbx0.out).cell 2 rfl
  have lbx0 := (qbx0.out).lt
  clear hb11
  go_wp2_with fail
  refine (heldIntS_any _ _ _ 1 _ (by omega) (by omega) (by omega) (by first | exact hg0.rd | exact (hg0.rd).alloc _ | exact ((hg0.rd).alloc _).alloc _ | exact (((hg0.rd).alloc _).alloc _).alloc _)).mono ?_
  rintro e w12 ⟨rfl, hb12⟩
  clear lp0 kp0_0 kp0_1 kp0_2
  clear lbx0 kbx0_0 kbx0_1 kbx0_2
  have hT12 : Below w11.heap.size w11 w12 := Below.andThen (by go_grown) hb12
  have hS12 := hT12.size
  have hB12 : Below W.heap.size W w12 := Below.andThen hB11 hT12
  have hw0 := hw0.below (Nat.le_refl _) hT12
  have hg0 := hg0.below (Nat.le_refl _) hT12
  have qp0 := Lib.hid ((qp0.out).below (Nat.le_refl _) hT12)
  have qbx0 := Lib.hid ((qbx0.out).below (Nat.le_refl _) hT12)
  have hSb12 := hb12.size
  try simp only [World.size_alloc] at hSb12
  have kp0_0 := (qp0.out).cell 0 rfl
  have kp0_1 := (qp0.out).cell 1 rfl
  have kp0_2 := (qp0.out).cell 2 rfl
  have lp0 := (qp0.out).lt
  have kbx0_0 := (qbx0.out).cell 0 rfl
  have kbx0_1 := (qbx0.out).cell 1 rfl
  have kbx0_2 := (qbx0.out).cell 2 rfl
  have lbx0 := (qbx0.out).lt
  clear hb12
  go_wp2_with fail
  refine (toSetup_any A _ _ ps B _ _ cs C _ _ ss _ (by omega) (by omega) (by omega) HTs.out (hr.below (Nat.le_refl _) (by first | exact hB12 | go_grown))).mono ?_
  rintro e w13 ⟨gahz0, gbhz0, gchz0, rfl, hz0, hb13⟩
  clear lp0 kp0_0 kp0_1 kp0_2
  clear lbx0 kbx0_0 kbx0_1 kbx0_2
  have hT13 : Below w12.heap.size w12 w13 := Below.andThen (by go_grown) hb13
  have hS13 := hT13.size
  have hB13 : Below W.heap.size W w13 := Below.andThen hB12 hT13
  have hw0 := hw0.below (Nat.le_refl _) hT13
  have hg0 := hg0.below (Nat.le_refl _) hT13
  have qp0 := Lib.hid ((qp0.out).below (Nat.le_refl _) hT13)
  have qbx0 := Lib.hid ((qbx0.out).below (Nat.le_refl _) hT13)
  have hSb13 := hb13.size
  try simp only [World.size_alloc] at hSb13
  have kp0_0 := (qp0.out).cell 0 rfl
  have kp0_1 := (qp0.out).cell 1 rfl
  have kp0_2 := (qp0.out).cell 2 rfl
  have lp0 := (qp0.out).lt
  have kbx0_0 := (qbx0.out).cell 0 rfl
  have kbx0_1 := (qbx0.out).cell 1 rfl
  have kbx0_2 := (qbx0.out).cell 2 rfl
  have lbx0 := (qbx0.out).lt
  clear hb13
  try simp only [World.size_alloc] at hz0
  go_wp2_with fail
  refine (iSetupFaults_any _ _ _ ps _ _ _ cs _ _ _ ss _ (by omega) (by omega) (by omega) HTs2.out (by first | exact hz0.rd | exact (hz0.rd).alloc _ | exact ((hz0.rd).alloc _).alloc _ | exact (((hz0.rd).alloc _).alloc _).alloc _) (Nat.le_refl _) (Nat.le_refl _)).mono ?_
  rw [← HR.out]
  rintro e w14 ⟨Ahh0, chh0, rfl, hh0, hb14⟩
  clear lp0 kp0_0 kp0_1 kp0_2
  clear lbx0 kbx0_0 kbx0_1 kbx0_2
  have hT14 : Below w13.heap.size w13 w14 := Below.andThen (by go_grown) hb14
  have hS14 := hT14.size
  have hB14 : Below W.heap.size W w14 := Below.andThen hB13 hT14
  have hw0 := hw0.below (Nat.le_refl _) hT14
  have hg0 := hg0.below (Nat.le_refl _) hT14
  have hz0 := hz0.below (Nat.le_refl _) hT14
  have qp0 := Lib.hid ((qp0.out).below (Nat.le_refl _) hT14)
  have qbx0 := Lib.hid ((qbx0.out).below (Nat.le_refl _) hT14)
  have hSb14 := hb14.size
  try simp only [World.size_alloc] at hSb14
  have kp0_0 := (qp0.out).cell 0 rfl
  have kp0_1 := (qp0.out).cell 1 rfl
  have kp0_2 := (qp0.out).cell 2 rfl
  have lp0 := (qp0.out).lt
  have kbx0_0 := (qbx0.out).cell 0 rfl
  have kbx0_1 := (qbx0.out).cell 1 rfl
  have kbx0_2 := (qbx0.out).cell 2 rfl
  have lbx0 := (qbx0.out).lt
  clear hb14
  try simp only [World.size_alloc] at hh0
  clear hz0
  go_wp2_with fail
  refine (eqIntS_any _ _ _ _ _ _ (R) (R) _ (by omega) (by first | exact hh0.rd | exact (hh0.rd).alloc _ | exact ((hh0.rd).alloc _).alloc _ | exact (((hh0.rd).alloc _).alloc _).alloc _) (by first | exact hw0.rd | exact (hw0.rd).alloc _ | exact ((hw0.rd).alloc _).alloc _ | exact (((hw0.rd).alloc _).alloc _).alloc _)).mono ?_
  simp only [decide_true]
  rintro e w15 ⟨rfl, hb15⟩
  clear lp0 kp0_0 kp0_1 kp0_2
  clear lbx0 kbx0_0 kbx0_1 kbx0_2
  have hT15 : Below w14.heap.size w14 w15 := Below.andThen (by go_grown) hb15
  have hS15 := hT15.size
  have hB15 : Below W.heap.size W w15 := Below.andThen hB14 hT15
  have hw0 := hw0.below (Nat.le_refl _) hT15
  have hg0 := hg0.below (Nat.le_refl _) hT15
  have hh0 := hh0.below (Nat.le_refl _) hT15
  have qp0 := Lib.hid ((qp0.out).below (Nat.le_refl _) hT15)
  have qbx0 := Lib.hid ((qbx0.out).below (Nat.le_refl _) hT15)
  have hSb15 := hb15.size
  try simp only [World.size_alloc] at hSb15
  have kp0_0 := (qp0.out).cell 0 rfl
  have kp0_1 := (qp0.out).cell 1 rfl
  have kp0_2 := (qp0.out).cell 2 rfl
  have lp0 := (qp0.out).lt
  have kbx0_0 := (qbx0.out).cell 0 rfl
  have kbx0_1 := (qbx0.out).cell 1 rfl
  have kbx0_2 := (qbx0.out).cell 2 rfl
  have lbx0 := (qbx0.out).lt
  clear hb15
  go_wp2_with fail
  refine (heldIntS_any _ _ _ 1 _ (by omega) (by omega) (by omega) (by first | exact hg0.rd | exact (hg0.rd).alloc _ | exact ((hg0.rd).alloc _).alloc _ | exact (((hg0.rd).alloc _).alloc _).alloc _)).mono ?_
  rintro e w16 ⟨rfl, hb16⟩
  clear lp0 kp0_0 kp0_1 kp0_2
  clear lbx0 kbx0_0 kbx0_1 kbx0_2
  have hT16 : Below w15.heap.size w15 w16 := Below.andThen (by go_grown) hb16
  have hS16 := hT16.size
  have hB16 : Below W.heap.size W w16 := Below.andThen hB15 hT16
  have hw0 := hw0.below (Nat.le_refl _) hT16
  have hg0 := hg0.below (Nat.le_refl _) hT16
  have hh0 := hh0.below (Nat.le_refl _) hT16
  have qp0 := Lib.hid ((qp0.out).below (Nat.le_refl _) hT16)
  have qbx0 := Lib.hid ((qbx0.out).below (Nat.le_refl _) hT16)
  have hSb16 := hb16.size
  try simp only [World.size_alloc] at hSb16
  have kp0_0 := (qp0.out).cell 0 rfl
  have kp0_1 := (qp0.out).cell 1 rfl
  have kp0_2 := (qp0.out).cell 2 rfl
  have lp0 := (qp0.out).lt
  have kbx0_0 := (qbx0.out).cell 0 rfl
  have kbx0_1 := (qbx0.out).cell 1 rfl
  have kbx0_2 := (qbx0.out).cell 2 rfl
  have lbx0 := (qbx0.out).lt
  clear hb16
  go_wp2_with fail
  go_returns
  exact ⟨rfl, by first | exact hB16 | go_grown⟩
end Go.Proofs.Ytlckjhbgdbhdmaa
