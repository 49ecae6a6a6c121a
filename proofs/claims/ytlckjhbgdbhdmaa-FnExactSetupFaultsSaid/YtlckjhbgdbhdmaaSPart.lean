/-
  CONTRACTS of the laws' helpers over one Part.
  Conditions: none beyond those that each states.
-/
import Derived.Test.YtlckjhbgdbhdmaaRWindow
import Derived.Test.YtlckjhbgdbhdmaaNest2
namespace Go.Proofs.Ytlckjhbgdbhdmaa
open Go.ChangeShapes Go.WideShapes Go.ChangeAt Go.RowKit Go.Joins
set_option linter.unusedVariables false

set_option maxRecDepth 100000 in
set_option maxHeartbeats 1000000 in
theorem toPart_any (A : Option Addr) (n c : Nat) (x : List (Int × Int × Bool) × Int) (w : World) (hm : n ≤ 1048576) (hr : Rd w 3 A n (wins x.1)) :
    Calls Try.prog 55 #[.agg #[.slice A n c, .int .i64 x.2]] w fun e w' => ∃ g, e = .returned (.agg #[.slice (some ⟨g, 0, none⟩) n n, .int .i64 x.2]) ∧ w.heap.size ≤ g ∧ g < w'.heap.size ∧ Fr w' g (g + 1) 71 3 (some ⟨g, 0, none⟩) n (wins x.1) ∧ Below w.heap.size w w' := by
  obtain ⟨zs, cl⟩ := x
  show Calls Try.prog 55 #[.agg #[.slice A n c, .int .i64 cl]] w fun e w' => ∃ g, e = .returned (.agg #[.slice (some ⟨g, 0, none⟩) n n, .int .i64 cl]) ∧ w.heap.size ≤ g ∧ g < w'.heap.size ∧ Fr w' g (g + 1) 71 3 (some ⟨g, 0, none⟩) n (wins zs) ∧ Below w.heap.size w w'
  replace hr : Rd w 3 A n (wins zs) := hr
  go_enter Try.func55, Try.ntmps55
  go_wp2_with fail
  refine (toWindowS_any A n c zs _ (by omega) (hr.below (Nat.le_refl _) (by go_grown))).mono ?_
  rintro e w1 ⟨rfl, ho1, hb1⟩
  have hs1 := hb1.size
  simp only [World.size_alloc] at hs1
  have qa : Blk w1 (w.heap.size) 79 #[.slice A n c, .int .i64 cl] := Blk.below (w' := w1) (by repeat' (first | (refine Blk.at_ _ _ _ ?_; first | rfl | (simp; done)) | refine Blk.alloc ?_ _ | assumption)) (Nat.le_refl _) hb1
  have ka_0 : w1.cell? ⟨w.heap.size, 0, none⟩ = some (.slice A n c) := qa.cell 0 rfl
  have ka_1 : w1.cell? ⟨w.heap.size, 1, none⟩ = some (.int .i64 cl) := qa.cell 1 rfl
  have fa_0 := qa.frozen 0
  have fa_1 := qa.frozen 1
  have la := qa.lt
  clear qa
  have qb : Blk w1 (w.heap.size + 1) 69 #[.slice none 0 0, .int .i64 0] := Blk.below (w' := w1) (by repeat' (first | (refine Blk.at_ _ _ _ ?_; first | rfl | (simp; done)) | refine Blk.alloc ?_ _ | assumption)) (Nat.le_refl _) hb1
  have kb_0 : w1.cell? ⟨w.heap.size + 1, 0, none⟩ = some (.slice none 0 0) := qb.cell 0 rfl
  have kb_1 : w1.cell? ⟨w.heap.size + 1, 1, none⟩ = some (.int .i64 0) := qb.cell 1 rfl
  have fb_0 := qb.frozen 0
  have fb_1 := qb.frozen 1
  have lb := qb.lt
  clear qb
  have qd : Blk w1 (w.heap.size + 1 + 1) 69 #[.slice none 0 0, .int .i64 0] := Blk.below (w' := w1) (by repeat' (first | (refine Blk.at_ _ _ _ ?_; first | rfl | (simp; done)) | refine Blk.alloc ?_ _ | assumption)) (Nat.le_refl _) hb1
  have kd_0 : w1.cell? ⟨w.heap.size + 1 + 1, 0, none⟩ = some (.slice none 0 0) := qd.cell 0 rfl
  have kd_1 : w1.cell? ⟨w.heap.size + 1 + 1, 1, none⟩ = some (.int .i64 0) := qd.cell 1 rfl
  have fd_0 := qd.frozen 0
  have fd_1 := qd.frozen 1
  have ld := qd.lt
  clear qd
  have hg9 := (own_one ho1).2.1
  simp only [World.size_alloc] at hg9
  have HO := Lib.hid (own_one ho1).1
  have HB := Lib.hid (Below.andThen (w := w) (by go_grown) hb1)
  clear ho1 hb1 hr
  go_wp2
  refine bodyPost_ret (v := .agg #[.slice (some ⟨w.heap.size + 1 + 1 + 1, 0, none⟩) n n, .int .i64 cl]) (by simp [results, Try.results55, go_sem, *]) rfl ?_
  refine ⟨w.heap.size + 1 + 1 + 1, rfl, by omega, by simp; omega, ?_, ?_⟩
  · have h := HO.out
    simp only [World.size_alloc] at h
    repeat (refine Fr.setFar ?_ (by first | (left; simp; omega) | (left; simp; done)) _)
    exact h
  · have h := HB.out
    repeat (refine Below.setCell ?_ (by first | (simp; done) | (simp; omega)) _)
    exact h
set_option maxRecDepth 100000 in
set_option maxHeartbeats 1000000 in
theorem szPart_any (A : Option Addr) (n c : Nat) (x : List (Int × Int × Bool) × Int) (left : Int) (w : World) (hn : n ≤ 9223372036854775807) (h0 : 0 ≤ left) (h1 : left ≤ 1048576) :
    Calls Try.prog 53 #[.agg #[.slice A n c, .int .i64 x.2], .int .i64 left] w fun e w' => e = .returned (.int .i64 (if (n : Int) ≤ left then left - n else -1)) ∧ Below w.heap.size w w' := by
  by_cases h : (n : Int) ≤ left
  · have HZ := Lib.hid (show (if (n : Int) ≤ left then left - n else -1) = left - n from if_pos h)
    have h2 : ¬ left - (n : Int) < 0 := by omega
    rw [HZ.out]
    go_enter Try.func53, Try.ntmps53
    go_wp2_with fail
    refine (szWindowS_any _ _ _ _ _ hn h0 h1).mono ?_
    rw [HZ.out]
    rintro e w1 ⟨rfl, hb1⟩
    have HB1 := Lib.hid (Below.andThen (w := w) (by go_grown) hb1)
    clear hb1
    go_wp2
    go_ret
    exact ⟨rfl, HB1.out⟩
  · have HZ := Lib.hid (show (if (n : Int) ≤ left then left - n else -1) = -1 from if_neg h)
    rw [HZ.out]
    go_enter Try.func53, Try.ntmps53
    go_wp2_with fail
    refine (szWindowS_any _ _ _ _ _ hn h0 h1).mono ?_
    rw [HZ.out]
    rintro e w1 ⟨rfl, hb1⟩
    have HB1 := Lib.hid (Below.andThen (w := w) (by go_grown) hb1)
    clear hb1
    go_wp2
    go_ret
    exact ⟨rfl, HB1.out⟩
set_option maxRecDepth 100000 in
set_option maxHeartbeats 1000000 in
theorem eqPart_same (A B : Option Addr) (n c d : Nat) (x : List (Int × Int × Bool) × Int) (w : World) (hn : n ≤ 1048577) (hra : Rd w 3 A n (wins x.1)) (hrb : Rd w 3 B n (wins x.1)) :
    Calls Try.prog 67 #[.agg #[.slice A n c, .int .i64 x.2], .agg #[.slice B n d, .int .i64 x.2]] w fun e w' => e = .returned (.bool true) ∧ Below w.heap.size w w' := by
  obtain ⟨zs, cl⟩ := x
  show Calls Try.prog 67 #[.agg #[.slice A n c, .int .i64 cl], .agg #[.slice B n d, .int .i64 cl]] w fun e w' => e = .returned (.bool true) ∧ Below w.heap.size w w'
  replace hra : Rd w 3 A n (wins zs) := hra
  replace hrb : Rd w 3 B n (wins zs) := hrb
  go_enter Try.func67, Try.ntmps67
  go_wp2_with fail
  refine (eqWindowS_same A B n c d zs _ (by omega) (hra.below (Nat.le_refl _) (by go_grown)) (hrb.below (Nat.le_refl _) (by go_grown))).mono ?_
  rintro e w1 ⟨rfl, hb1⟩
  have qa : Blk w1 (w.heap.size) 69 #[.slice A n c, .int .i64 cl] := Blk.below (w' := w1) (by repeat' (first | (refine Blk.at_ _ _ _ ?_; first | rfl | (simp; done)) | refine Blk.alloc ?_ _ | assumption)) (Nat.le_refl _) hb1
  have ka_0 : w1.cell? ⟨w.heap.size, 0, none⟩ = some (.slice A n c) := qa.cell 0 rfl
  have ka_1 : w1.cell? ⟨w.heap.size, 1, none⟩ = some (.int .i64 cl) := qa.cell 1 rfl
  have la := qa.lt
  clear qa
  have qb : Blk w1 (w.heap.size + 1) 69 #[.slice B n d, .int .i64 cl] := Blk.below (w' := w1) (by repeat' (first | (refine Blk.at_ _ _ _ ?_; first | rfl | (simp; done)) | refine Blk.alloc ?_ _ | assumption)) (Nat.le_refl _) hb1
  have kb_0 : w1.cell? ⟨w.heap.size + 1, 0, none⟩ = some (.slice B n d) := qb.cell 0 rfl
  have kb_1 : w1.cell? ⟨w.heap.size + 1, 1, none⟩ = some (.int .i64 cl) := qb.cell 1 rfl
  have lb := qb.lt
  clear qb
  have HB := Lib.hid (Below.andThen (w := w) (by go_grown) hb1)
  clear hb1 hra hrb
  go_wp2
  go_ret
  exact ⟨rfl, HB.out⟩
end Go.Proofs.Ytlckjhbgdbhdmaa
