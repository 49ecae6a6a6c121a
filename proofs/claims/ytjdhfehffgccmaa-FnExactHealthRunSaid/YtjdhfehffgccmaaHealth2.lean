/-
  CONTRACTS of HealthStep, FaultsLeft and their parts.
  Conditions: a valid state and table and a known fault, as each states.
-/
import Derived.Test.YtjdhfehffgccmaaHealth
namespace Go.Proofs.Ytjdhfehffgccmaa
open Go.ChangeShapes Go.WideShapes Go.ChangeAt Go.RowKit Go.Joins
set_option linter.unusedVariables false

/-- the action that a table tells for a fault -/
def actOf (zs : List Int) (fault : Int) : Int := zs.getD (fault - 1).toNat 0
/-- the state after a fault: frozen, restarts, what is done -/
def stepF (f : Bool) (a fault : Int) (r : Int) : Bool := if fault = 0 ∨ f = true then f else decide (a = 2) || (decide (a = 1) && decide (r = 2))
def stepR (f : Bool) (a fault : Int) (r : Int) : Int := if fault = 0 ∨ f = true then r else if a = 1 then r + 1 else r
def stepA (f : Bool) (a fault : Int) (r : Int) : Int := if fault = 0 ∨ f = true then 0 else if a = 1 then (if r = 2 then 2 else 1) else a

theorem act_rng {zs : List Int} (ht : tableOk zs = true) (fault : Int) : actOf zs fault = 0 ∨ actOf zs fault = 1 ∨ actOf zs fault = 2 := by
  unfold tableOk at ht
  rw [Bool.and_eq_true] at ht
  unfold actOf
  rw [List.getD_eq_getElem?_getD]
  cases h : zs[(fault - 1).toNat]? with
  | none => simp
  | some x =>
    have := List.all_eq_true.1 ht.2 x (List.mem_of_getElem? h)
    have := inB_true.1 this
    simp; omega
theorem act_at {zs : List Int} (ht : tableOk zs = true) {fault : Int} (h1 : 1 ≤ fault) (h3 : fault ≤ 3) : zs[(fault - 1).toNat]? = some (actOf zs fault) := by
  unfold tableOk at ht
  rw [Bool.and_eq_true] at ht
  have hl : zs.length = 3 := of_decide_eq_true ht.1
  have hlt : (fault - 1).toNat < zs.length := by omega
  rw [actOf, List.getD_eq_getElem?_getD, List.getElem?_eq_getElem hlt]; rfl
theorem table_len {zs : List Int} (ht : tableOk zs = true) : zs.length = 3 := by
  unfold tableOk at ht
  rw [Bool.and_eq_true] at ht
  exact of_decide_eq_true ht.1

set_option maxRecDepth 100000 in
set_option maxHeartbeats 400000 in
theorem isFault_any (n : Int) (w : World) : Calls Try.prog 65 #[.int .i64 n] w fun e w' => e = .returned (.bool (inB n 0 3)) ∧ w = w' := by
  go_enter Try.func65, Try.ntmps65
  go_wp2_with (go_at_call 75; refine (in_any _ _ _ _).mono ?_; rintro e w1 ⟨rfl, rfl⟩)
  go_ret
  exact ⟨rfl, rfl⟩
set_option maxRecDepth 100000 in
set_option maxHeartbeats 4000000 in
theorem after_any (f : Bool) (r : Int) (A : Option Addr) (n c : Nat) (zs : List Int) (fault : Int) (w : World) (hr : Rd w 1 A n (ints zs)) (hv : healthValid f r = true) (ht : tableOk zs = true) (hf : inB fault 0 3 = true) :
    Calls Try.prog 66 #[.agg #[.bool f, .int .i64 r], .slice A n c, .int .i64 fault] w fun e w' =>
      e = .returned (.tuple #[.agg #[.bool (stepF f (actOf zs fault) fault r), .int .i64 (stepR f (actOf zs fault) fault r)], .int .i64 (stepA f (actOf zs fault) fault r)]) ∧ Below w.heap.size w w' := by
  obtain ⟨f0, f3⟩ := inB_true.1 hf
  by_cases h0 : fault = 0
  · subst h0
    have e1 : stepF f (actOf zs 0) 0 r = f := by simp [stepF]
    have e2 : stepR f (actOf zs 0) 0 r = r := by simp [stepR]
    have e3 : stepA f (actOf zs 0) 0 r = 0 := by simp [stepA]
    rw [e1, e2, e3]
    clear e1 e2 e3
    go_enter Try.func66, Try.ntmps66
    go_wp2
    go_returns
    exact ⟨rfl, by go_grown⟩
  · cases f
    · have hra := act_rng ht fault
      have hat := act_at ht (fault := fault) (by omega) f3
      have hln : n = 3 := hr.len.symm.trans (table_len ht)
      have hrr : 0 ≤ r ∧ r < 3 := by
        unfold healthValid at hv; simp [inB] at hv; omega
      obtain ⟨r0, r3⟩ := hrr
      obtain ⟨b, o, x, rfl, hbl, hx, hc⟩ := hr.int_ (k := (fault - 1).toNat) (by omega)
      rw [hat] at hx
      injection hx with hx
      subst hx
      generalize actOf zs fault = a at *
      subst hln
      clear hr ht hat hv hf
      obtain ⟨m, rfl⟩ : ∃ m : Nat, fault = (m : Int) + 1 := ⟨(fault - 1).toNat, by omega⟩
      have hm3 : m < 3 := by omega
      rw [show ((m : Int) + 1 - 1).toNat = m by omega] at hc
      have hf4 : ((m : Int) + 1 == 0) = false := by simp; omega
      rcases hra with rfl | rfl | rfl
      · have e1 : stepF false 0 ((m : Int) + 1) r = false := by simp [stepF, h0]
        have e2 : stepR false 0 ((m : Int) + 1) r = r := by simp [stepR, h0]
        have e3 : stepA false 0 ((m : Int) + 1) r = 0 := by simp [stepA, h0]
        rw [e1, e2, e3]
        clear e1 e2 e3 h0
        go_enter Try.func66, Try.ntmps66
        go_wp2
        go_returns
        exact ⟨rfl, by go_grown⟩
      · by_cases h2 : r = 2
        · subst h2
          have e1 : stepF false 1 ((m : Int) + 1) 2 = true := by simp [stepF, h0]
          have e2 : stepR false 1 ((m : Int) + 1) 2 = 3 := by simp [stepR, h0]
          have e3 : stepA false 1 ((m : Int) + 1) 2 = 2 := by simp [stepA, h0]
          rw [e1, e2, e3]
          clear e1 e2 e3 h0
          go_enter Try.func66, Try.ntmps66
          go_wp2
          go_returns
          exact ⟨rfl, by go_grown⟩
        · have e1 : stepF false 1 ((m : Int) + 1) r = false := by simp [stepF, h0, h2]
          have e2 : stepR false 1 ((m : Int) + 1) r = r + 1 := by simp [stepR, h0]
          have e3 : stepA false 1 ((m : Int) + 1) r = 1 := by simp [stepA, h0, h2]
          rw [e1, e2, e3]
          have hr3 : (r + 1 == 3) = false := by simp; omega
          clear e1 e2 e3 h0 h2
          go_enter Try.func66, Try.ntmps66
          go_wp2
          go_returns
          exact ⟨rfl, by go_grown⟩
      · have e1 : stepF false 2 ((m : Int) + 1) r = true := by simp [stepF, h0]
        have e2 : stepR false 2 ((m : Int) + 1) r = r := by simp [stepR, h0]
        have e3 : stepA false 2 ((m : Int) + 1) r = 2 := by simp [stepA, h0]
        rw [e1, e2, e3]
        clear e1 e2 e3 h0
        go_enter Try.func66, Try.ntmps66
        go_wp2
        go_returns
        exact ⟨rfl, by go_grown⟩
    · have e1 : stepF true (actOf zs fault) fault r = true := by simp [stepF]
      have e2 : stepR true (actOf zs fault) fault r = r := by simp [stepR]
      have e3 : stepA true (actOf zs fault) fault r = 0 := by simp [stepA]
      rw [e1, e2, e3]
      have hf4 : (fault == 0) = false := by simp; omega
      clear e1 e2 e3 h0
      go_enter Try.func66, Try.ntmps66
      go_wp2
      go_returns
      exact ⟨rfl, by go_grown⟩
set_option maxRecDepth 100000 in
set_option maxHeartbeats 400000 in
theorem eqHealth_same (f : Bool) (r : Int) (w : World) : Calls Try.prog 22 #[.agg #[.bool f, .int .i64 r], .agg #[.bool f, .int .i64 r]] w fun e w' => e = .returned (.bool true) ∧ Below w.heap.size w w' := by
  cases f
  all_goals
    go_enter Try.func22, Try.ntmps22
    go_wp2
    go_returns
    exact ⟨rfl, by go_grown⟩
set_option maxRecDepth 100000 in
set_option maxHeartbeats 400000 in
theorem toHealth_any (f : Bool) (r : Int) (w : World) : Calls Try.prog 16 #[.agg #[.bool f, .int .i64 r]] w fun e w' => e = .returned (.agg #[.bool f, .int .i64 r]) ∧ Below w.heap.size w w' := by
  go_enter Try.func16, Try.ntmps16
  go_wp2
  go_returns
  exact ⟨rfl, by go_grown⟩
end Go.Proofs.Ytjdhfehffgccmaa
