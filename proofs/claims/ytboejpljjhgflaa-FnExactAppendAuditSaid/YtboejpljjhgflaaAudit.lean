/-
  CONTRACTS of AuditValid, NewAudit.
  Conditions: none beyond those that each states.
-/
import Derived.Test.YtboejpljjhgflaaChain
import Derived.Test.YtboejpljjhgflaaSAudit
import Derived.Deep.RegionHeld3
namespace Go.Proofs.Ytboejpljjhgflaa
open Go.ChangeShapes Go.WideShapes Go.ChangeAt Go.RowKit Go.Joins
set_option linter.unusedVariables false

def auditOk (key : Int) (zs : List Int) (sum : Int) : Bool := decide (zs.length ≤ 60) && (inB key 0 1048572 && decide (sum = mixAll key zs))

theorem l1In_is {n lo hi : Int} {b : Bool} (h : inB n lo hi = b) (w : World) : Calls Try.prog 25 #[.int .i64 n, .int .i64 lo, .int .i64 hi] w fun e w' => e = .returned (.bool b) ∧ w = w' := h ▸ l1In_any n lo hi w
theorem isKey_is {n : Int} {b : Bool} (h : inB n 0 1048572 = b) (w : World) : Calls Try.prog 33 #[.int .i64 n] w fun e w' => e = .returned (.bool b) ∧ w = w' := h ▸ isKey_any n w
set_option maxRecDepth 100000 in
set_option maxHeartbeats 2000000 in
theorem sAuditValid_any (key : Int) (A : Option Addr) (n c : Nat) (zs : List Int) (sum : Int) (w : World) (hm : n ≤ 1048577) (hr : Rd w 1 A n (ints zs)) :
    Calls Try.prog 21 #[.agg #[.int .i64 key, .slice A n c, .int .i64 sum]] w fun e w' => e = .returned (.bool (auditOk key zs sum)) ∧ Below w.heap.size w w' := by
  unfold auditOk
  have hlz := Lib.hid hr.len
  rw [hlz.out]
  by_cases h60 : n ≤ 60
  · have hI : (n : Int) ≤ 60 := by omega
    cases hk : inB key 0 1048572
    · go_enter Try.func21, Try.ntmps21
      go_wp2
      go_quiet ((go_at_call 25; exact quiet_left (l1In_is hk _)))
      go_wp2
      go_ret
      exact ⟨by simp, below_drewN (by go_grown) _⟩
    · have HR := Lib.hid hr
      clear hr
      go_enter Try.func21, Try.ntmps21
      go_wp2
      go_region_held3 (fun w' => w'.cell? ⟨w.heap.size, 0, none⟩ = some (.int .i64 key) ∧ w'.cell? ⟨w.heap.size, 1, none⟩ = some (.slice A n c) ∧ w'.cell? ⟨w.heap.size, 2, none⟩ = some (.int .i64 sum) ∧ Below w.heap.size w w') (first | exact ⟨k0, k1, k2, hB1⟩ | exact ⟨by simp [go_sem], by simp [go_sem], by simp [go_sem], by go_grown⟩ | assumption) (first | (go_at_call 25; refine (l1In_is hk _).mono ?_; rintro e w' ⟨rfl, rfl⟩) | (go_at_call 26; refine (l12Sum_any key A n c zs _ (by omega) hk (HR.out.below (Nat.le_refl _) (by first | assumption | go_grown))).mono ?_; rintro e w1 ⟨rfl, hb1⟩; have q0 : Blk w1 w.heap.size 27 #[.int .i64 key, .slice A n c, .int .i64 sum] := Blk.below (w' := w1) (Blk.drew (Blk.at_ _ _ _ rfl)) (Nat.le_refl _) hb1; have k0 := q0.cell 0 rfl; have k1 := q0.cell 1 rfl; have k2 := q0.cell 2 rfl; have hB1 : Below w.heap.size w w1 := Below.andThen (by go_grown) hb1; clear q0 hb1))
      go_wp2
      go_ret
      exact ⟨by simp [h60]; rfl, by go_grown⟩
  · have hd : decide ((n : Int) ≤ 60) = false := by simp; omega
    go_enter Try.func21, Try.ntmps21
    go_wp2
    go_quiet (fail)
    go_wp2
    go_ret
    exact ⟨by simp [h60], below_drewN (by go_grown) _⟩
set_option maxRecDepth 100000 in
set_option maxHeartbeats 2000000 in
theorem iAuditValid_any (key : Int) (A : Option Addr) (n c : Nat) (zs : List Int) (sum : Int) (w : World) (hm : n ≤ 1048577) (hr : Rd w 1 A n (ints zs)) :
    Calls Try.prog 23 #[.agg #[.int .i64 key, .slice A n c, .int .i64 sum]] w fun e w' => e = .returned (.bool (auditOk key zs sum)) ∧ Below w.heap.size w w' := by
  unfold auditOk
  have hlz := Lib.hid hr.len
  rw [hlz.out]
  by_cases h60 : n ≤ 60
  · have hI : (n : Int) ≤ 60 := by omega
    cases hk : inB key 0 1048572
    · go_enter Try.func23, Try.ntmps23
      go_wp2
      go_quiet ((go_at_call 33; exact quiet_left (isKey_is hk _)))
      go_wp2
      go_ret
      exact ⟨by simp, below_drewN (by go_grown) _⟩
    · have HR := Lib.hid hr
      clear hr
      go_enter Try.func23, Try.ntmps23
      go_wp2
      go_region_held3 (fun w' => w'.cell? ⟨w.heap.size, 0, none⟩ = some (.int .i64 key) ∧ w'.cell? ⟨w.heap.size, 1, none⟩ = some (.slice A n c) ∧ w'.cell? ⟨w.heap.size, 2, none⟩ = some (.int .i64 sum) ∧ Below w.heap.size w w') (first | exact ⟨k0, k1, k2, hB1⟩ | exact ⟨by simp [go_sem], by simp [go_sem], by simp [go_sem], by go_grown⟩ | assumption) (first | (go_at_call 33; refine (isKey_is hk _).mono ?_; rintro e w' ⟨rfl, rfl⟩) | (go_at_call 29; refine (iChain_any key A n c zs _ (by omega) hk (HR.out.below (Nat.le_refl _) (by first | assumption | go_grown))).mono ?_; rintro e w1 ⟨rfl, hb1⟩; have q0 : Blk w1 w.heap.size 27 #[.int .i64 key, .slice A n c, .int .i64 sum] := Blk.below (w' := w1) (Blk.drew (Blk.at_ _ _ _ rfl)) (Nat.le_refl _) hb1; have k0 := q0.cell 0 rfl; have k1 := q0.cell 1 rfl; have k2 := q0.cell 2 rfl; have hB1 : Below w.heap.size w w1 := Below.andThen (by go_grown) hb1; clear q0 hb1))
      go_wp2
      go_ret
      exact ⟨by simp [h60]; rfl, by go_grown⟩
  · have hd : decide ((n : Int) ≤ 60) = false := by simp; omega
    go_enter Try.func23, Try.ntmps23
    go_wp2
    go_quiet (fail)
    go_wp2
    go_ret
    exact ⟨by simp [h60], below_drewN (by go_grown) _⟩
end Go.Proofs.Ytboejpljjhgflaa
