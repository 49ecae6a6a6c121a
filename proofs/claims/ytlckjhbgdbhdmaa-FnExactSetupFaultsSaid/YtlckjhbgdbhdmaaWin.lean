/-
  CONTRACTS of the windows: valid, WindowsValid.
  Conditions: none beyond those that each states.
-/
import Derived.Test.YtlckjhbgdbhdmaaRWindow
namespace Go.Proofs.Ytlckjhbgdbhdmaa
open Go.ChangeShapes Go.WideShapes Go.ChangeAt Go.RowKit Go.Joins
set_option linter.unusedVariables false

abbrev Win := Int × Int × Bool
def winOk (x : Win) : Bool := inB x.1 0 4095 && inB x.2.1 1 (4096 - x.1)
def winsOk (ws : List Win) : Bool := decide (ws.length ≤ 12) && ws.all winOk
theorem winOk_use {b s : Int} {u : Bool} (h : winOk (b, s, u) = true) : 0 ≤ b ∧ b ≤ 4095 ∧ 1 ≤ s ∧ s ≤ 4096 - b := by
  unfold winOk at h
  rw [Bool.and_eq_true] at h
  have := inB_true.1 h.1
  have := inB_true.1 h.2
  simp only at *
  omega
theorem l1In_is {n lo hi : Int} {b : Bool} (h : inB n lo hi = b) (w : World) : Calls Try.prog 48 #[.int .i64 n, .int .i64 lo, .int .i64 hi] w fun e w' => e = .returned (.bool b) ∧ w = w' := h ▸ l1In_any n lo hi w
theorem in_is {n lo hi : Int} {b : Bool} (h : inB n lo hi = b) (w : World) : Calls Try.prog 61 #[.int .i64 n, .int .i64 lo, .int .i64 hi] w fun e w' => e = .returned (.bool b) ∧ w = w' := h ▸ in_any n lo hi w
theorem all_snocB {α : Type} {zs : List α} {p : α → Bool} {k : Nat} {x : α} (hx : zs[k]? = some x) (hk : (zs.take k).all p = true) (hp : p x = true) : (zs.take (k + 1)).all p = true := by
  rw [take_snoc hx, List.all_append, hk]; simp [hp]
theorem all_missB {α : Type} {zs : List α} {p : α → Bool} {k : Nat} {x : α} (hx : zs[k]? = some x) (hp : p x = false) : zs.all p = false := by
  rw [List.all_eq_false]
  exact ⟨x, List.mem_of_getElem? hx, by simp [hp]⟩
set_option maxRecDepth 100000 in
set_option maxHeartbeats 1000000 in
theorem l1Window_any (p0 p1 : Int) (p2 : Bool) (w : World) : Calls Try.prog 79 #[.agg #[.int .i64 p0, .int .i64 p1, .bool p2]] w fun e w' => e = .returned (.bool (winOk (p0, p1, p2))) ∧ Below w.heap.size w w' := by
  cases h0 : inB p0 0 4095
  · rw [show winOk (p0, p1, p2) = false by unfold winOk; simp only; rw [h0]; rfl]
    go_enter Try.func79, Try.ntmps79
    go_wp2_with fail
    refine (l1In_is h0 _).mono ?_
    rintro e _ ⟨rfl, rfl⟩
    go_wp2
    go_ret
    exact ⟨rfl, by go_grown⟩
  · obtain ⟨hb0, hb1⟩ := inB_true.1 h0
    cases h1 : inB p1 1 (4096 - p0)
    all_goals
      rw [show winOk (p0, p1, p2) = inB p1 1 (4096 - p0) by unfold winOk; simp only; rw [h0]; rfl, h1]
      go_enter Try.func79, Try.ntmps79
      go_wp2_with fail
      refine (l1In_is h0 _).mono ?_
      rintro e _ ⟨rfl, rfl⟩
      go_wp2_with fail
      refine (l1In_is h1 _).mono ?_
      rintro e _ ⟨rfl, rfl⟩
      go_wp2
      go_ret
      exact ⟨rfl, by go_grown⟩
theorem l1Window_is {p0 p1 : Int} {p2 b : Bool} (h : winOk (p0, p1, p2) = b) (w : World) : Calls Try.prog 79 #[.agg #[.int .i64 p0, .int .i64 p1, .bool p2]] w fun e w' => e = .returned (.bool b) ∧ Below w.heap.size w w' := h ▸ l1Window_any p0 p1 p2 w
set_option maxRecDepth 100000 in
set_option maxHeartbeats 1000000 in
theorem valid_any (p0 p1 : Int) (p2 : Bool) (w : World) : Calls Try.prog 84 #[.agg #[.int .i64 p0, .int .i64 p1, .bool p2]] w fun e w' => e = .returned (.bool (winOk (p0, p1, p2))) ∧ Below w.heap.size w w' := by
  cases h0 : inB p0 0 4095
  · rw [show winOk (p0, p1, p2) = false by unfold winOk; simp only; rw [h0]; rfl]
    go_enter Try.func84, Try.ntmps84
    go_wp2_with fail
    refine (in_is h0 _).mono ?_
    rintro e _ ⟨rfl, rfl⟩
    go_wp2
    go_ret
    exact ⟨rfl, by go_grown⟩
  · obtain ⟨hb0, hb1⟩ := inB_true.1 h0
    cases h1 : inB p1 1 (4096 - p0)
    all_goals
      rw [show winOk (p0, p1, p2) = inB p1 1 (4096 - p0) by unfold winOk; simp only; rw [h0]; rfl, h1]
      go_enter Try.func84, Try.ntmps84
      go_wp2_with fail
      refine (in_is h0 _).mono ?_
      rintro e _ ⟨rfl, rfl⟩
      go_wp2_with fail
      refine (in_is h1 _).mono ?_
      rintro e _ ⟨rfl, rfl⟩
      go_wp2
      go_ret
      exact ⟨rfl, by go_grown⟩
theorem valid_is {p0 p1 : Int} {p2 b : Bool} (h : winOk (p0, p1, p2) = b) (w : World) : Calls Try.prog 84 #[.agg #[.int .i64 p0, .int .i64 p1, .bool p2]] w fun e w' => e = .returned (.bool b) ∧ Below w.heap.size w w' := h ▸ valid_any p0 p1 p2 w
set_option maxRecDepth 100000 in
set_option maxHeartbeats 1000000 in
theorem sWindowsValid_any (A : Option Addr) (n c : Nat) (zs : List Win) (w : World) (hm : n ≤ 1048577) (hr : Rd w 3 A n (wins zs)) :
    Calls Try.prog 54 #[.slice A n c] w fun e w' => e = .returned (.bool (winsOk zs)) ∧ Below w.heap.size w w' := by
  have hlz := Lib.hid hr.winsLen
  have HV : Hid (winsOk zs = (decide (n ≤ 12) && zs.all winOk)) := by show _ = _; unfold winsOk; rw [hlz.out]
  go_enter Try.func54, Try.ntmps54
  go_wp2
  go_loopw [3] (fun i wr => ∃ (k : Nat), k ≤ n ∧ i = .int .i64 k ∧ Hid ((zs.take k).all winOk = true) ∧ Below w.heap.size w wr) (fun i _ => n - (intOf i).toNat)
  case atStart => exact ⟨0, Nat.zero_le _, rfl, by show _ = true; simp, Below.refl _ _⟩
  case round =>
    obtain ⟨k, hk, rfl, HA, hb⟩ := hrel
    by_cases hlt : k < n
    · obtain ⟨b, o, p0, p1, p2, rfl, hbl, hx, h0, h1, h2⟩ := hr.win hlt
      have j0 := (hb.cell (p := ⟨b, o + k * 3, none⟩) hbl).trans h0
      have j1 := (hb.cell (p := ⟨b, o + k * 3 + 1, none⟩) hbl).trans h1
      have j2 := (hb.cell (p := ⟨b, o + k * 3 + 2, none⟩) hbl).trans h2
      have HX := Lib.hid hx
      clear h0 h1 h2 hx
      cases hv : winOk (p0, p1, p2)
      · go_wp2_with fail
        refine (l1Window_is hv _).mono ?_
        rintro e w1 ⟨rfl, hb1⟩
        have hb2 := Below.andThen hb hb1
        clear hb1
        go_wp2
        go_ret
        exact ⟨by rw [HV.out, all_missB HX.out hv]; simp, hb2⟩
      · have HVV := Lib.hid hv
        go_wp2_with fail
        refine (l1Window_is hv _).mono ?_
        rintro e w1 ⟨rfl, hb1⟩
        have hb2 := Below.andThen hb hb1
        clear hb1
        go_wp2
        go_roundw
        case rel => exact ⟨k + 1, by omega, by go_num, all_snocB HX.out HA.out HVV.out, hb2⟩
        case measure => simp [intOf]; omega
    · have hkn : k = n := by omega
      have h9 := HA.out
      rw [hkn, ← hlz.out, List.take_length] at h9
      have H9 := Lib.hid h9
      clear h9
      by_cases h12 : n ≤ 12
      · have hI : (n : Int) ≤ 12 := by omega
        go_wp2
        go_ret
        exact ⟨by rw [HV.out, H9.out, decide_eq_true h12]; first | rfl | (simp; omega), hb⟩
      · have hI : decide ((n : Int) ≤ 12) = false := by simp; omega
        go_wp2
        go_ret
        exact ⟨by rw [HV.out, decide_eq_false h12]; first | rfl | (simp; omega), hb⟩
theorem sWindowsValid_is {A : Option Addr} {n c : Nat} {zs : List Win} {b : Bool} (h : winsOk zs = b) (w : World) (hm : n ≤ 1048577) (hr : Rd w 3 A n (wins zs)) :
    Calls Try.prog 54 #[.slice A n c] w fun e w' => e = .returned (.bool b) ∧ Below w.heap.size w w' := h ▸ sWindowsValid_any A n c zs w hm hr
set_option maxRecDepth 100000 in
set_option maxHeartbeats 400000 in
theorem windowsValid1_any (w : World) : Pred Try.prog 83 #[] winV (fun x => !winOk x) w := by
  intro x W hb
  obtain ⟨p0, p1, p2⟩ := x
  show Calls Try.prog 83 #[.agg #[.int .i64 p0, .int .i64 p1, .bool p2]] W fun e W' => e = .returned (.bool (!winOk (p0, p1, p2))) ∧ Below W.heap.size W W'
  go_enter Try.func83, Try.ntmps83
  go_wp2_with fail
  refine (valid_any p0 p1 p2 _).mono ?_
  rintro e w1 ⟨rfl, hb1⟩
  have HB1 := Lib.hid (Below.andThen (w := W) (by go_grown) hb1)
  clear hb1
  go_wp2
  go_ret
  exact ⟨rfl, HB1.out⟩
set_option maxRecDepth 100000 in
set_option maxHeartbeats 1000000 in
theorem iWindowsValid_any (A : Option Addr) (n c : Nat) (zs : List Win) (w : World) (hm : n ≤ 1048577) (hr : Rd w 3 A n (wins zs)) :
    Calls Try.prog 60 #[.slice A n c] w fun e w' => e = .returned (.bool (winsOk zs)) ∧ Below w.heap.size w w' := by
  have hlz := Lib.hid hr.winsLen
  have HC := Lib.hid (ContainsFuncWindow_any 83 #[] (fun x => !winOk x) A n c zs w hm hr (windowsValid1_any w) (enters_of Try.func83 (by kernel_rfl) rfl))
  have HV : Hid (winsOk zs = (decide (n ≤ 12) && !zs.any fun x => !winOk x)) := by show _ = _; unfold winsOk; rw [hlz.out, List.all_eq_not_any_not]
  by_cases h12 : n ≤ 12
  · have hI : (n : Int) ≤ 12 := by omega
    go_enter Try.func60, Try.ntmps60
    go_wp2_with fail
    refine HC.out.mono ?_
    rintro e w1 ⟨rfl, hb1⟩
    go_wp2
    go_ret
    exact ⟨by rw [HV.out, decide_eq_true h12]; rfl, hb1⟩
  · have hI : decide ((n : Int) ≤ 12) = false := by simp; omega
    go_enter Try.func60, Try.ntmps60
    go_wp2
    go_ret
    exact ⟨by rw [HV.out, decide_eq_false h12]; rfl, Below.refl _ _⟩
theorem iWindowsValid_is {A : Option Addr} {n c : Nat} {zs : List Win} {b : Bool} (h : winsOk zs = b) (w : World) (hm : n ≤ 1048577) (hr : Rd w 3 A n (wins zs)) :
    Calls Try.prog 60 #[.slice A n c] w fun e w' => e = .returned (.bool b) ∧ Below w.heap.size w w' := h ▸ iWindowsValid_any A n c zs w hm hr
end Go.Proofs.Ytlckjhbgdbhdmaa
