/-
  CONTRACTS of the laws' own helpers over []bool: eqBoolS, markBoolS, heldBoolS.
  Conditions: none beyond those that each states.
-/
import Derived.Test.YtelfabidehhfoaaRowsM
import Derived.Test.YtelfabidehhfoaaAppend
namespace Go.Proofs.Ytelfabidehhfoaa
open Go.ChangeShapes Go.WideShapes Go.ChangeAt Go.RowKit Go.Joins
set_option linter.unusedVariables false

def boolC (x : Bool) : List Value := [.bool x]
theorem boolC_len (x : Bool) : (boolC x).length = 1 := rfl
def bools (zs : List Bool) : List Value := zs.flatMap boolC
theorem bools_len (zs : List Bool) : (bools zs).length = zs.length := by have := rows_len boolC_len zs; rw [Nat.mul_one] at this; exact this
theorem bools_at (zs : List Bool) (k : Nat) : (bools zs)[k]? = (zs[k]?).map Value.bool := by
  have h := rows_at boolC_len zs k 0 (by omega)
  rw [Nat.mul_one, Nat.add_zero] at h
  rw [show (bools zs)[k]? = _ from h]
  cases zs[k]? <;> rfl
theorem bools_set (zs : List Bool) (k : Nat) (x : Bool) (hk : k < zs.length) : (bools zs).set k (.bool x) = bools (zs.set k x) := by
  have h := put_row (f := boolC) boolC_len (by omega) zs k x hk
  rw [Nat.mul_one] at h
  exact h
theorem Rd.bool_ {w : World} {A : Option Addr} {n k : Nat} {zs : List Bool} (h : Rd w 1 A n (bools zs)) (hk : k < n) :
    ∃ b o x, A = some ⟨b, o, none⟩ ∧ b < w.heap.size ∧ zs[k]? = some x ∧ w.cell? ⟨b, o + k, none⟩ = some (.bool x) := by
  obtain ⟨b, o, u, hA, hb, hu, hc⟩ := h.at_ hk
  rw [bools_at] at hu
  obtain ⟨x, hx, rfl⟩ := Option.map_eq_some_iff.1 hu
  exact ⟨b, o, x, hA, hb, hx, hc⟩
theorem Rd.boolsLen {w : World} {A : Option Addr} {n : Nat} {zs : List Bool} (h : Rd w 1 A n (bools zs)) : zs.length = n := by have := h.1; rw [bools_len] at this; omega
def bMr (k : Int) : Bool := k3 k
theorem Try.infoBool : (Try.prog.info? 4).map (fun i => (i.zero, i.size, i.bytes)) = some (some (.bool false), 1, 1) := by kernel_rfl
/-- what a function gives back that makes a slice of truth values -/
def RetB (w : World) (zs : List Bool) (e : Ending) (w' : World) : Prop := ∃ A c, e = .returned (.slice A zs.length c) ∧ Fr w' w.heap.size w'.heap.size 4 1 A zs.length (bools zs) ∧ Below w.heap.size w w'
set_option maxRecDepth 100000 in
set_option maxHeartbeats 1000000 in
theorem eqBoolS_same (A B : Option Addr) (n c d : Nat) (xs : List Bool) (w : World) (hn : n ≤ 1048577) (hrx : Rd w 1 A n (bools xs)) (hry : Rd w 1 B n (bools xs)) :
    Calls Try.prog 45 #[.slice A n c, .slice B n d] w fun e w' => e = .returned (.bool true) ∧ Below w.heap.size w w' := by
  go_enter Try.func45, Try.ntmps45
  go_wp2
  go_loopw [5] (fun i wr => ∃ (k : Nat), k ≤ n ∧ i = .int .i64 k ∧ Below w.heap.size w wr) (fun i _ => n - (intOf i).toNat)
  case atStart => exact ⟨0, Nat.zero_le _, rfl, Below.refl _ _⟩
  case round =>
    obtain ⟨k, hk, rfl, hb⟩ := hrel
    by_cases hlt : k < n
    · obtain ⟨b, o, x, rfl, hbl, hx, hc⟩ := hrx.bool_ hlt
      obtain ⟨b', o', y, rfl, hbl', hy, hc'⟩ := hry.bool_ hlt
      obtain rfl : x = y := by rw [hx] at hy; injection hy
      have hc1 := (hb.cell (p := ⟨b, o + k, none⟩) hbl).trans hc
      have hc2 := (hb.cell (p := ⟨b', o' + k, none⟩) hbl').trans hc'
      clear hx hy hc hc'
      go_wp2
      go_quiet (fail)
      go_wp2
      go_roundw
      case rel => exact ⟨k + 1, by omega, by go_num, below_drewN hb _⟩
      case measure => simp [intOf]; omega
    · have hkn : k = n := by omega
      go_wp2
      go_ret
      exact ⟨rfl, hb⟩
set_option maxRecDepth 100000 in
set_option maxHeartbeats 1000000 in
theorem markBoolS_any (A : Option Addr) (n c : Nat) (zs : List Bool) (k : Int) (lo hi : Nat) (w : World) (hm : n ≤ 1048577) (h0 : 0 ≤ k) (h1 : k ≤ 1099511627776) (hf : Fr w lo hi 4 1 A n (bools zs)) :
    Calls Try.prog 46 #[.slice A n c, .int .i64 k] w fun e w' => e = .returned (.int .i64 (k + (n : Int))) ∧ Fr w' lo hi 4 1 A n (bools (rowsM bMr 1 k n)) ∧ Touch lo hi w w' := by
  have hlz := Lib.hid hf.rd.boolsLen
  go_enter Try.func46, Try.ntmps46
  go_wp2
  go_loopw [1, 5] (fun kk i wr => ∃ (j : Nat) (ys : List Bool), j ≤ n ∧ i = .int .i64 j ∧ kk = .int .i64 (k + (j : Int)) ∧ Hid (ys.length = n) ∧ Hid (ys.take j = (rowsM bMr 1 k n).take j) ∧ Fr wr lo hi 4 1 A n (bools ys) ∧ Touch lo hi w wr)
    (fun _ i _ => n - (intOf i).toNat)
  case atStart => exact ⟨0, zs, Nat.zero_le _, rfl, by simp, hlz.out, by show _ = _; simp, hf, Touch.refl _ _ _⟩
  case round =>
    obtain ⟨j, ys, hj, rfl, rfl, HY, HT, hown, hb⟩ := hrel
    by_cases hlt : j < n
    · have HYL : Hid ((bools ys).length = n) := by show _ = _; rw [bools_len, HY.out]
      obtain ⟨g, rfl, hlo, hhi, hcells, hfroz, hst⟩ := hown.use (by omega)
      have hK0 : 0 ≤ k + (j : Int) := by omega
      have hK1 : k + (j : Int) ≤ 1099599999999 := by omega
      have t0 : ∃ u, wr.cell? ⟨g, j, none⟩ = some u := ⟨_, hcells j _ (List.getElem?_eq_getElem (by rw [HYL.out]; omega))⟩
      obtain ⟨u0, t0⟩ := t0
      have g0 := hfroz j
      have HO := Lib.hid hown
      have HG := Lib.hid hb
      clear hb hst hcells hfroz hown
      go_wp2
      go_roundw
      case rel =>
        refine ⟨j + 1, ys.set j (bMr (k + (j : Int))), by omega, by go_num, congrArg (Value.int .i64) (by omega), by show _ = n; rw [List.length_set]; exact HY.out, by show _ = _; exact set_take (by have := rowsM_at bMr 1 n k j hlt; rwa [Int.mul_one] at this) (by rw [HY.out]; exact hlt) HT.out, ?_, HG.out.setCell hlo hhi _⟩
        rw [← bools_set ys j (bMr (k + (j : Int))) (by rw [HY.out]; exact hlt)]
        exact HO.out.set j (.bool (k3 (k + (j : Int))))
      case measure => simp [intOf]; omega
    · have hjn : j = n := by omega
      have e : ys = rowsM bMr 1 k n := take_all HY.out (rowsM_len _ _ n k) (by have ht := HT.out; rw [hjn] at ht; exact ht)
      subst e
      go_wp2
      go_ret
      exact ⟨ret_int (by omega), hown, hb⟩
set_option maxRecDepth 100000 in
set_option maxHeartbeats 1000000 in
theorem heldBoolS_any (A : Option Addr) (n c : Nat) (k : Int) (w : World) (hm : n ≤ 1048577) (h0 : 0 ≤ k) (h1 : k ≤ 1099511627776) (hr : Rd w 1 A n (bools (rowsM bMr 1 k n))) :
    Calls Try.prog 47 #[.slice A n c, .int .i64 k] w fun e w' => e = .returned (.int .i64 (k + (n : Int))) ∧ Below w.heap.size w w' := by
  have HR := Lib.hid hr
  clear hr
  go_enter Try.func47, Try.ntmps47
  go_wp2
  go_loopw [1, 5] (fun kk i wr => ∃ (j : Nat), j ≤ n ∧ i = .int .i64 j ∧ kk = .int .i64 (k + (j : Int)) ∧ Below w.heap.size w wr) (fun _ i _ => n - (intOf i).toNat)
  case atStart => exact ⟨0, Nat.zero_le _, rfl, by simp, Below.refl _ _⟩
  case round =>
    obtain ⟨j, hj, rfl, rfl, hb⟩ := hrel
    by_cases hlt : j < n
    · obtain ⟨b, o, x, rfl, hbl, hx, hc⟩ := HR.out.bool_ hlt
      rw [rowsM_at _ _ n k j hlt, Int.mul_one] at hx
      injection hx with hx
      subst hx
      have hK0 : 0 ≤ k + (j : Int) := by omega
      have hK1 : k + (j : Int) ≤ 1099599999999 := by omega
      have j0 : wr.cell? ⟨b, o + j, none⟩ = some (.bool ((k + (j : Int)) % 3 == 0)) := (hb.cell (p := ⟨b, o + j, none⟩) hbl).trans hc
      clear hc
      go_wp2
      go_roundw
      case rel => exact ⟨j + 1, by omega, by go_num, congrArg (Value.int .i64) (by omega), hb⟩
      case measure => simp [intOf]; omega
    · have hjn : j = n := by omega
      go_wp2
      go_ret
      exact ⟨ret_int (by omega), hb⟩
end Go.Proofs.Ytelfabidehhfoaa
