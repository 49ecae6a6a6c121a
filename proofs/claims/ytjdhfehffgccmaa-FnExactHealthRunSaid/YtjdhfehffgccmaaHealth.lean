/-
  CONTRACTS of the functions on the monitor's states and tables.
  Conditions: none beyond those that each states.
-/
import Derived.Test.YtjdhfehffgccmaaMarks
namespace Go.Proofs.Ytjdhfehffgccmaa
open Go.ChangeShapes Go.WideShapes Go.ChangeAt Go.RowKit Go.Joins
set_option linter.unusedVariables false

def healthValid (f : Bool) (r : Int) : Bool := inB r 0 3 && (f || decide (r < 3))
def tableOk (zs : List Int) : Bool := decide (zs.length = 3) && zs.all (fun z => inB z 0 2)

set_option maxRecDepth 100000 in
set_option maxHeartbeats 400000 in
theorem sHealthValid_any (f : Bool) (r : Int) (w : World) : Calls Try.prog 60 #[.agg #[.bool f, .int .i64 r]] w fun e w' => e = .returned (.bool (healthValid f r)) ∧ Below w.heap.size w w' := by
  unfold healthValid
  cases hi : inB r 0 3 <;> cases f <;> by_cases h3 : r < 3
  all_goals
    go_enter Try.func60, Try.ntmps60
    go_wp2_with (go_at_call 62; refine (l1In_any _ _ _ _).mono ?_; rintro e w1 ⟨rfl, rfl⟩)
    go_returns
    exact ⟨by simp [h3], by go_grown⟩
set_option maxRecDepth 100000 in
set_option maxHeartbeats 400000 in
theorem iHealthValid_any (f : Bool) (r : Int) (w : World) : Calls Try.prog 63 #[.agg #[.bool f, .int .i64 r]] w fun e w' => e = .returned (.bool (healthValid f r)) ∧ Below w.heap.size w w' := by
  unfold healthValid
  cases hi : inB r 0 3 <;> cases f <;> by_cases h3 : r < 3
  all_goals
    go_enter Try.func63, Try.ntmps63
    go_wp2_with (go_at_call 75; refine (in_any _ _ _ _).mono ?_; rintro e w1 ⟨rfl, rfl⟩)
    go_returns
    exact ⟨by simp [h3], by go_grown⟩
theorem all_snoc {zs : List Int} {p : Int → Bool} {k : Nat} {x : Int} (hx : zs[k]? = some x) (hk : (zs.take k).all p = true) (hp : p x = true) : (zs.take (k + 1)).all p = true := by
  rw [take_snoc hx, List.all_append, hk]; simp [hp]
theorem all_miss {α : Type} {zs : List α} {p : α → Bool} {k : Nat} {x : α} (hx : zs[k]? = some x) (hp : p x = false) : zs.all p = false := by
  rw [List.all_eq_false]
  exact ⟨x, List.mem_of_getElem? hx, by simp [hp]⟩
set_option maxRecDepth 100000 in
set_option maxHeartbeats 400000 in
theorem sHealthTable_any (A : Option Addr) (n c : Nat) (zs : List Int) (w : World) (hm : n ≤ 1048577) (hr : Rd w 1 A n (ints zs)) :
    Calls Try.prog 61 #[.slice A n c] w fun e w' => e = .returned (.bool (tableOk zs)) ∧ Below w.heap.size w w' := by
  have hlz := Lib.hid hr.len
  go_enter Try.func61, Try.ntmps61
  go_wp2
  go_loopw [3] (fun i wr => ∃ (k : Nat), k ≤ n ∧ i = .int .i64 k ∧ (zs.take k).all (fun z => inB z 0 2) = true ∧ Below w.heap.size w wr) (fun i _ => n - (intOf i).toNat)
  case atStart => exact ⟨0, Nat.zero_le _, rfl, by simp, Below.refl _ _⟩
  case round =>
    obtain ⟨k, hk, rfl, hxy, hb⟩ := hrel
    have HT := Lib.hid hxy
    clear hxy
    by_cases hlt : k < n
    · obtain ⟨b, o, x, rfl, hbl, hx, hc⟩ := hr.int_ hlt
      have hc1 := (hb.cell (p := ⟨b, o + k, none⟩) hbl).trans hc
      have HX := Lib.hid hx
      clear hx hc
      cases hv : inB x 0 2
      · go_wp2_with (go_at_call 62; refine (l1In_any _ _ _ _).mono ?_; rintro e w1 ⟨rfl, rfl⟩)
        go_ret
        exact ⟨by rw [tableOk, all_miss HX.out hv]; simp, hb⟩
      · go_wp2_with (go_at_call 62; refine (l1In_any _ _ _ _).mono ?_; rintro e w1 ⟨rfl, rfl⟩)
        go_roundw
        case rel => exact ⟨k + 1, by omega, by go_num, all_snoc HX.out HT.out hv, hb⟩
        case measure => simp [intOf]; omega
    · have hkn : k = n := by omega
      go_wp2
      go_ret
      refine ⟨?_, hb⟩
      have h1 := HT.out
      rw [hkn, ← hlz.out, List.take_length] at h1
      rw [tableOk, h1, hlz.out]
      by_cases h3 : n = 3
      · simp [h3]
      · simp [h3]; omega
set_option maxRecDepth 100000 in
set_option maxHeartbeats 400000 in
theorem iHealthTable1_any (w : World) : Pred Try.prog 88 #[] (Value.int .i64) (fun z => !inB z 0 2) w := by
  intro x W hb
  go_enter Try.func88, Try.ntmps88
  go_wp2_with (go_at_call 75; refine (in_any _ _ _ _).mono ?_; rintro e w1 ⟨rfl, rfl⟩)
  go_ret
  exact ⟨rfl, by go_grown⟩
set_option maxRecDepth 100000 in
set_option maxHeartbeats 400000 in
theorem iHealthTable_any (A : Option Addr) (n c : Nat) (zs : List Int) (w : World) (hm : n ≤ 1048577) (hr : Rd w 1 A n (ints zs)) :
    Calls Try.prog 64 #[.slice A n c] w fun e w' => e = .returned (.bool (tableOk zs)) ∧ Below w.heap.size w w' := by
  have hlz := Lib.hid hr.len
  have HC := Lib.hid (ContainsFuncI_any 88 #[] (fun z => !inB z 0 2) A n c zs w hm hr (iHealthTable1_any w) (enters_of Try.func88 (by kernel_rfl) rfl))
  have HE : Hid (tableOk zs = (decide (n = 3) && !zs.any (fun z => !inB z 0 2))) := by
    show tableOk zs = _
    rw [tableOk, hlz.out, List.all_eq_not_any_not]
  by_cases h3 : n = 3
  · subst h3
    go_enter Try.func64, Try.ntmps64
    go_wp2_with (go_at_call 67; refine HC.out.mono ?_; rintro e w1 ⟨rfl, hb1⟩)
    go_ret
    exact ⟨by rw [HE.out]; simp, hb1⟩
  · have h3' : ((n : Int) == 3) = false := by simp; omega
    go_enter Try.func64, Try.ntmps64
    go_wp2
    go_ret
    exact ⟨by rw [HE.out]; simp [h3], Below.refl _ _⟩
end Go.Proofs.Ytjdhfehffgccmaa
