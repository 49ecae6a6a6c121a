/-
  CONTRACTS of the laws' helpers over Hold.
  Conditions: none beyond those that each states.
-/
import Derived.Test.YtjdhfehffgccmaaMarks
import Derived.Test.YtjdhfehffgccmaaAppend
namespace Go.Proofs.Ytjdhfehffgccmaa
open Go.ChangeShapes Go.WideShapes Go.ChangeAt Go.RowKit Go.Joins
set_option linter.unusedVariables false

/-- a Hold whose slice is new memory -/
def RetHold (w : World)  (zs : List Int) (e : Ending) (w' : World) : Prop :=
  ∃ A c, e = .returned (.agg #[.slice A zs.length c]) ∧ Fr w' w.heap.size w'.heap.size 3 1 A zs.length (ints zs) ∧ (A = none → zs.length = 0 ∧ c = 0) ∧ Below w.heap.size w w'

set_option maxRecDepth 100000 in
set_option maxHeartbeats 1000000 in
theorem toHold_any (A : Option Addr) (n c : Nat) (zs : List Int) (w : World) (hm : n ≤ 1048576) (hr : Rd w 1 A n (ints zs)) :
    Calls Try.prog 43 #[.agg #[.slice A n c]] w (fun e w' => RetHold w  zs e w') := by
  have hl := hr.len
  subst hl
  go_enter Try.func43, Try.ntmps43
  go_wp2_with fail
  refine (toIntS_any A zs.length c zs _ (by omega) (hr.below (Nat.le_refl _) (by go_grown))).mono ?_
  rintro e w1 ⟨rfl, ho1, hb1⟩
  have hs1 := hb1.size
  simp only [World.size_alloc] at hs1
  have qa : Blk w1 (w.heap.size) 50 #[.slice A zs.length c] := Blk.below (w' := w1) (by repeat' (first | (refine Blk.at_ _ _ _ ?_; first | rfl | (simp; done)) | refine Blk.alloc ?_ _ | assumption)) (Nat.le_refl _) hb1
  have ka_0 := qa.cell 0 rfl
  have fa_0 := qa.frozen 0
  have la := qa.lt
  clear qa
  have qb : Blk w1 (w.heap.size + 1) 53 #[.slice none 0 0] := Blk.below (w' := w1) (by repeat' (first | (refine Blk.at_ _ _ _ ?_; first | rfl | (simp; done)) | refine Blk.alloc ?_ _ | assumption)) (Nat.le_refl _) hb1
  have kb_0 := qb.cell 0 rfl
  have fb_0 := qb.frozen 0
  have lb := qb.lt
  clear qb
  have qd : Blk w1 (w.heap.size + 1 + 1) 53 #[.slice none 0 0] := Blk.below (w' := w1) (by repeat' (first | (refine Blk.at_ _ _ _ ?_; first | rfl | (simp; done)) | refine Blk.alloc ?_ _ | assumption)) (Nat.le_refl _) hb1
  have kd_0 := qd.cell 0 rfl
  have fd_0 := qd.frozen 0
  have ld := qd.lt
  clear qd
  have HO := Lib.hid (Fr.of_own ho1)
  have HB := Lib.hid (Below.andThen (w := w) (by go_grown) hb1)
  clear ho1 hb1 hr
  go_wp2
  refine bodyPost_ret (v := .agg #[.slice (some ⟨w.heap.size + 1 + 1 + 1, 0, none⟩) zs.length zs.length]) (by simp [results, Try.results43, go_sem, *]) rfl ?_
  refine ⟨_, _, rfl, Fr.wide (lo := w.heap.size + 1 + 1 + 1) (hi := w1.heap.size) ?_ (by omega) (by simp), (fun h => by cases h), ?_⟩
  · have h := HO.out
    simp only [World.size_alloc] at h
    repeat (refine Fr.setFar ?_ (by first | (left; simp; omega) | (left; simp; done)) _)
    exact h
  · have h := HB.out
    repeat (refine Below.setCell ?_ (by first | (simp; done) | (simp; omega)) _)
    exact h
set_option maxRecDepth 100000 in
set_option maxHeartbeats 1000000 in
theorem szHold_any (A : Option Addr) (n c : Nat) (zs : List Int) (left : Int) (w : World) (hn : n ≤ 9223372036854775807) (h0 : 0 ≤ left) (h1 : left ≤ 1048576) :
    Calls Try.prog 41 #[.agg #[.slice A n c], .int .i64 left] w fun e w' => e = .returned (.int .i64 (if (n : Int) ≤ left then left - n else -1)) ∧ Below w.heap.size w w' := by
  by_cases h : (n : Int) ≤ left
  · have e1 : (if (n : Int) ≤ left then left - n else -1) = left - n := if_pos h
    have HZ := Lib.hid e1
    clear e1
    have h2 : ¬ left - (n : Int) < 0 := by omega
    go_enter Try.func41, Try.ntmps41
    go_wp2_with fail
    refine (szIntS_any _ _ _ _ _ hn h0 h1).mono ?_
    rw [HZ.out]
    rintro e _ ⟨rfl, rfl⟩
    go_wp2
    go_ret
    exact ⟨rfl, by go_grown⟩
  · have e1 : (if (n : Int) ≤ left then left - n else -1) = -1 := if_neg h
    have HZ := Lib.hid e1
    clear e1
    go_enter Try.func41, Try.ntmps41
    go_wp2_with fail
    refine (szIntS_any _ _ _ _ _ hn h0 h1).mono ?_
    rw [HZ.out]
    rintro e _ ⟨rfl, rfl⟩
    go_wp2
    go_ret
    exact ⟨rfl, by go_grown⟩
set_option maxRecDepth 100000 in
set_option maxHeartbeats 1000000 in
theorem eqHold_same (A B : Option Addr) (n c d : Nat) (zs : List Int) (w : World) (hn : n ≤ 1048577) (hra : Rd w 1 A n (ints zs)) (hrb : Rd w 1 B n (ints zs)) :
    Calls Try.prog 45 #[.agg #[.slice A n c], .agg #[.slice B n d]] w fun e w' => e = .returned (.bool true) ∧ Below w.heap.size w w' := by
  go_enter Try.func45, Try.ntmps45
  go_wp2_with fail
  refine (eqIntS_any A B n n c d zs zs _ (by omega) (hra.below (Nat.le_refl _) (by go_grown)) (hrb.below (Nat.le_refl _) (by go_grown))).mono ?_
  rintro e w1 ⟨rfl, hb1⟩
  have qa : Blk w1 (w.heap.size) 53 #[.slice A n c] := Blk.below (w' := w1) (by repeat' (first | (refine Blk.at_ _ _ _ ?_; first | rfl | (simp; done)) | refine Blk.alloc ?_ _ | assumption)) (Nat.le_refl _) hb1
  have ka_0 := qa.cell 0 rfl
  have fa_0 := qa.frozen 0
  have la := qa.lt
  clear qa
  have qb : Blk w1 (w.heap.size + 1) 53 #[.slice B n d] := Blk.below (w' := w1) (by repeat' (first | (refine Blk.at_ _ _ _ ?_; first | rfl | (simp; done)) | refine Blk.alloc ?_ _ | assumption)) (Nat.le_refl _) hb1
  have kb_0 := qb.cell 0 rfl
  have fb_0 := qb.frozen 0
  have lb := qb.lt
  clear qb
  have HB := Lib.hid (Below.andThen (w := w) (by go_grown) hb1)
  clear hb1
  go_wp2
  go_ret
  exact ⟨rfl, HB.out⟩
end Go.Proofs.Ytjdhfehffgccmaa
