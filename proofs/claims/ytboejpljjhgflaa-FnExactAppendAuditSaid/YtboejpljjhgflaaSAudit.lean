/-
  CONTRACTS of the laws' helpers over Audit.
  Conditions: none beyond those that each states.
-/
import Derived.Test.YtboejpljjhgflaaMarks
import Derived.Test.YtboejpljjhgflaaAppend
namespace Go.Proofs.Ytboejpljjhgflaa
open Go.ChangeShapes Go.WideShapes Go.ChangeAt Go.RowKit Go.Joins
set_option linter.unusedVariables false

/-- a Audit whose slice is new memory -/
def RetAudit (w : World) (x0 : Int) (x2 : Int) (zs : List Int) (e : Ending) (w' : World) : Prop :=
  ∃ A c, e = .returned (.agg #[.int .i64 x0, .slice A zs.length c, .int .i64 x2]) ∧ Fr w' w.heap.size w'.heap.size 3 1 A zs.length (ints zs) ∧ (A = none → zs.length = 0 ∧ c = 0) ∧ Below w.heap.size w w'

set_option maxRecDepth 100000 in
set_option maxHeartbeats 1000000 in
theorem toAudit_any (x0 : Int) (A : Option Addr) (n c : Nat) (zs : List Int) (x2 : Int) (w : World) (hm : n ≤ 1048576) (hr : Rd w 1 A n (ints zs)) :
    Calls Try.prog 8 #[.agg #[.int .i64 x0, .slice A n c, .int .i64 x2]] w (fun e w' => RetAudit w x0 x2 zs e w') := by
  have hl := hr.len
  subst hl
  go_enter Try.func8, Try.ntmps8
  go_wp2_with fail
  refine (toIntS_any A zs.length c zs _ (by omega) (hr.below (Nat.le_refl _) (by go_grown))).mono ?_
  rintro e w1 ⟨rfl, ho1, hb1⟩
  have hs1 := hb1.size
  simp only [World.size_alloc] at hs1
  have qa : Blk w1 (w.heap.size) 24 #[.int .i64 x0, .slice A zs.length c, .int .i64 x2] := Blk.below (w' := w1) (by repeat' (first | (refine Blk.at_ _ _ _ ?_; first | rfl | (simp; done)) | refine Blk.alloc ?_ _ | assumption)) (Nat.le_refl _) hb1
  have ka_0 := qa.cell 0 rfl
  have ka_1 := qa.cell 1 rfl
  have ka_2 := qa.cell 2 rfl
  have fa_0 := qa.frozen 0
  have fa_1 := qa.frozen 1
  have fa_2 := qa.frozen 2
  have la := qa.lt
  clear qa
  have qb : Blk w1 (w.heap.size + 1) 27 #[.int .i64 0, .slice none 0 0, .int .i64 0] := Blk.below (w' := w1) (by repeat' (first | (refine Blk.at_ _ _ _ ?_; first | rfl | (simp; done)) | refine Blk.alloc ?_ _ | assumption)) (Nat.le_refl _) hb1
  have kb_0 := qb.cell 0 rfl
  have kb_1 := qb.cell 1 rfl
  have kb_2 := qb.cell 2 rfl
  have fb_0 := qb.frozen 0
  have fb_1 := qb.frozen 1
  have fb_2 := qb.frozen 2
  have lb := qb.lt
  clear qb
  have qd : Blk w1 (w.heap.size + 1 + 1) 27 #[.int .i64 x0, .slice none 0 0, .int .i64 0] := Blk.below (w' := w1) (by repeat' (first | (refine Blk.at_ _ _ _ ?_; first | rfl | (simp; done)) | refine Blk.alloc ?_ _ | assumption)) (Nat.le_refl _) hb1
  have kd_0 := qd.cell 0 rfl
  have kd_1 := qd.cell 1 rfl
  have kd_2 := qd.cell 2 rfl
  have fd_0 := qd.frozen 0
  have fd_1 := qd.frozen 1
  have fd_2 := qd.frozen 2
  have ld := qd.lt
  clear qd
  have HO := Lib.hid (Fr.of_own ho1)
  have HB := Lib.hid (Below.andThen (w := w) (by go_grown) hb1)
  clear ho1 hb1 hr
  go_wp2
  refine bodyPost_ret (v := .agg #[.int .i64 x0, .slice (some ⟨w.heap.size + 1 + 1 + 1, 0, none⟩) zs.length zs.length, .int .i64 x2]) (by simp [results, Try.results8, go_sem, *]) rfl ?_
  refine ⟨_, _, rfl, Fr.wide (lo := w.heap.size + 1 + 1 + 1) (hi := w1.heap.size) ?_ (by omega) (by simp), (fun h => by cases h), ?_⟩
  · have h := HO.out
    simp only [World.size_alloc] at h
    repeat (refine Fr.setFar ?_ (by first | (left; simp; omega) | (left; simp; done)) _)
    exact h
  · have h := HB.out
    repeat (refine Below.setCell ?_ (by first | (simp; done) | (simp; omega)) _)
    exact h
set_option maxRecDepth 100000 in
set_option maxHeartbeats 1000000 in
theorem szAudit_any (x0 : Int) (A : Option Addr) (n c : Nat) (zs : List Int) (x2 : Int) (left : Int) (w : World) (hn : n ≤ 9223372036854775807) (h0 : 0 ≤ left) (h1 : left ≤ 1048576) :
    Calls Try.prog 6 #[.agg #[.int .i64 x0, .slice A n c, .int .i64 x2], .int .i64 left] w fun e w' => e = .returned (.int .i64 (if (n : Int) ≤ left then left - n else -1)) ∧ Below w.heap.size w w' := by
  by_cases h : (n : Int) ≤ left
  · have e1 : (if (n : Int) ≤ left then left - n else -1) = left - n := if_pos h
    have HZ := Lib.hid e1
    clear e1
    have h2 : ¬ left - (n : Int) < 0 := by omega
    go_enter Try.func6, Try.ntmps6
    go_wp2_with fail
    refine (szIntS_any _ _ _ _ _ hn h0 h1).mono ?_
    rw [HZ.out]
    rintro e _ ⟨rfl, rfl⟩
    go_wp2
    go_ret
    exact ⟨rfl, by go_grown⟩
  · have e1 : (if (n : Int) ≤ left then left - n else -1) = -1 := if_neg h
    have HZ := Lib.hid e1
    clear e1
    go_enter Try.func6, Try.ntmps6
    go_wp2_with fail
    refine (szIntS_any _ _ _ _ _ hn h0 h1).mono ?_
    rw [HZ.out]
    rintro e _ ⟨rfl, rfl⟩
    go_wp2
    go_ret
    exact ⟨rfl, by go_grown⟩
set_option maxRecDepth 100000 in
set_option maxHeartbeats 1000000 in
theorem eqAudit_same (x0 : Int) (A B : Option Addr) (n c d : Nat) (zs : List Int) (x2 : Int) (w : World) (hn : n ≤ 1048577) (hra : Rd w 1 A n (ints zs)) (hrb : Rd w 1 B n (ints zs)) :
    Calls Try.prog 10 #[.agg #[.int .i64 x0, .slice A n c, .int .i64 x2], .agg #[.int .i64 x0, .slice B n d, .int .i64 x2]] w fun e w' => e = .returned (.bool true) ∧ Below w.heap.size w w' := by
  go_enter Try.func10, Try.ntmps10
  go_wp2_with fail
  refine (eqIntS_any A B n n c d zs zs _ (by omega) (hra.below (Nat.le_refl _) (by go_grown)) (hrb.below (Nat.le_refl _) (by go_grown))).mono ?_
  rintro e w1 ⟨rfl, hb1⟩
  have qa : Blk w1 (w.heap.size) 27 #[.int .i64 x0, .slice A n c, .int .i64 x2] := Blk.below (w' := w1) (by repeat' (first | (refine Blk.at_ _ _ _ ?_; first | rfl | (simp; done)) | refine Blk.alloc ?_ _ | assumption)) (Nat.le_refl _) hb1
  have ka_0 := qa.cell 0 rfl
  have ka_1 := qa.cell 1 rfl
  have ka_2 := qa.cell 2 rfl
  have fa_0 := qa.frozen 0
  have fa_1 := qa.frozen 1
  have fa_2 := qa.frozen 2
  have la := qa.lt
  clear qa
  have qb : Blk w1 (w.heap.size + 1) 27 #[.int .i64 x0, .slice B n d, .int .i64 x2] := Blk.below (w' := w1) (by repeat' (first | (refine Blk.at_ _ _ _ ?_; first | rfl | (simp; done)) | refine Blk.alloc ?_ _ | assumption)) (Nat.le_refl _) hb1
  have kb_0 := qb.cell 0 rfl
  have kb_1 := qb.cell 1 rfl
  have kb_2 := qb.cell 2 rfl
  have fb_0 := qb.frozen 0
  have fb_1 := qb.frozen 1
  have fb_2 := qb.frozen 2
  have lb := qb.lt
  clear qb
  have HB := Lib.hid (Below.andThen (w := w) (by go_grown) hb1)
  clear hb1
  go_wp2
  go_ret
  exact ⟨rfl, HB.out⟩
set_option maxRecDepth 100000 in
set_option maxHeartbeats 1000000 in
theorem markAudit_any (x0 : Int) (A : Option Addr) (n c : Nat) (zs : List Int) (x2 : Int) (k : Int) (lo hi : Nat) (w : World) (hm : n ≤ 1048577) (h0 : 0 ≤ k) (h1 : k ≤ 1099511627776) (hf : Fr w lo hi 3 1 A n (ints zs)) (hhi : hi ≤ w.heap.size) :
    Calls Try.prog 14 #[.agg #[.int .i64 x0, .slice A n c, .int .i64 x2], .int .i64 k] w fun e w' => e = .returned (.int .i64 (k + n)) ∧ Fr w' lo hi 3 1 A n (ints (marks k n)) ∧ Touch lo hi w w' := by
  go_enter Try.func14, Try.ntmps14
  go_wp2_with fail
  refine (markIntS_any A n c zs k lo hi _ (by omega) h0 h1 (hf.alloc _)).mono ?_
  rintro e w1 ⟨rfl, hf1, hb1⟩
  have HF := Lib.hid hf1
  have HB := Lib.hid (Touch.trans (Touch.of_below (lo := lo) (hi := hi) ((Below.refl _ _).alloc (Nat.le_refl _) _) (Nat.le_refl _)) hb1)
  clear hf1 hb1 hf
  go_wp2
  go_ret
  exact ⟨rfl, HF.out, HB.out⟩
set_option maxRecDepth 100000 in
set_option maxHeartbeats 1000000 in
theorem heldAudit_any (x0 : Int) (A : Option Addr) (n c : Nat) (x2 : Int) (k : Int) (w : World) (hm : n ≤ 1048577) (h0 : 0 ≤ k) (h1 : k ≤ 1099511627776) (hr : Rd w 1 A n (ints (marks k n))) :
    Calls Try.prog 19 #[.agg #[.int .i64 x0, .slice A n c, .int .i64 x2], .int .i64 k] w fun e w' => e = .returned (.int .i64 (k + n)) ∧ Below w.heap.size w w' := by
  have h2 : ¬ k + (n : Int) < 0 := by omega
  go_enter Try.func19, Try.ntmps19
  go_wp2_with fail
  refine (heldIntS_any A n c k _ (by omega) h0 h1 (hr.alloc _)).mono ?_
  rintro e w1 ⟨rfl, hb1⟩
  have HB := Lib.hid (Below.andThen (w := w) (by go_grown) hb1)
  clear hb1 hr
  go_wp2
  go_ret
  exact ⟨rfl, HB.out⟩
end Go.Proofs.Ytboejpljjhgflaa
