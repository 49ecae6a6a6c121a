/-
  MARKS in rows of Transfer.
  Conditions: none beyond those that each states.
-/
import Derived.Test.YtlfegalmiloihaaRTransfer
import Derived.Test.YtlfegalmiloihaaRowsM
namespace Go.Proofs.Ytlfegalmiloihaa
open Go.ChangeShapes Go.WideShapes Go.ChangeAt Go.RowKit Go.Joins
set_option linter.unusedVariables false

def tranMr (k : Int) : Int × Int × Bool := (k, k + 1, k3 (k + 1 + 1))
set_option maxRecDepth 100000 in
set_option maxHeartbeats 2000000 in
theorem markTransferS_any (A : Option Addr) (n c : Nat) (zs : List (Int × Int × Bool)) (k : Int) (lo hi : Nat) (w : World) (hm : n ≤ 1048577) (h0 : 0 ≤ k) (h1 : k ≤ 1099511627776) (hf : Fr w lo hi 26 3 A n (trans zs)) :
    Calls Try.prog 10 #[.slice A n c, .int .i64 k] w fun e w' => e = .returned (.int .i64 (k + ((n * 3 : Nat) : Int))) ∧ Fr w' lo hi 26 3 A n (trans (rowsM tranMr 3 k n)) ∧ Touch lo hi w w' := by
  have hlz := Lib.hid hf.rd.transLen
  go_enter Try.func10, Try.ntmps10
  go_wp2
  go_loopw [1, 5] (fun kk i wr => ∃ (j : Nat) (ys : List (Int × Int × Bool)), j ≤ n ∧ i = .int .i64 j ∧ kk = .int .i64 (k + (j : Int) * 3) ∧ Hid (ys.length = n) ∧ Hid (ys.take j = (rowsM tranMr 3 k n).take j) ∧ Fr wr lo hi 26 3 A n (trans ys) ∧ Touch lo hi w wr)
    (fun _ i _ => n - (intOf i).toNat)
  case atStart => exact ⟨0, zs, Nat.zero_le _, rfl, by simp, hlz.out, by show _ = _; simp, hf, Touch.refl _ _ _⟩
  case round =>
    obtain ⟨j, ys, hj, rfl, rfl, HY, HT, hown, hb⟩ := hrel
    by_cases hlt : j < n
    · have HYL : Hid ((trans ys).length = n * 3) := by show _ = _; rw [trans_len, HY.out]
      obtain ⟨g, rfl, hlo, hhi, hcells, hfroz, hst⟩ := hown.use (by omega)
      have hK0 : 0 ≤ k + (j : Int) * 3 := by omega
      have hK1 : k + (j : Int) * 3 ≤ 1099599999999 := by omega
      have t0 : ∃ u, wr.cell? ⟨g, j * 3, none⟩ = some u := ⟨_, hcells (j * 3) _ (List.getElem?_eq_getElem (by rw [HYL.out]; omega))⟩
      obtain ⟨u0, t0⟩ := t0
      have g0 := hfroz (j * 3)
      have t1 : ∃ u, wr.cell? ⟨g, j * 3 + 1, none⟩ = some u := ⟨_, hcells (j * 3 + 1) _ (List.getElem?_eq_getElem (by rw [HYL.out]; omega))⟩
      obtain ⟨u1, t1⟩ := t1
      have g1 := hfroz (j * 3 + 1)
      have t2 : ∃ u, wr.cell? ⟨g, j * 3 + 2, none⟩ = some u := ⟨_, hcells (j * 3 + 2) _ (List.getElem?_eq_getElem (by rw [HYL.out]; omega))⟩
      obtain ⟨u2, t2⟩ := t2
      have g2 := hfroz (j * 3 + 2)
      have HO := Lib.hid hown
      have HG := Lib.hid hb
      clear hb hst hcells hfroz hown
      go_wp2
      go_roundw
      case rel =>
        refine ⟨j + 1, ys.set j (tranMr (k + (j : Int) * 3)), by omega, by go_num, congrArg (Value.int .i64) (by omega), by show _ = n; rw [List.length_set]; exact HY.out, by show _ = _; exact set_take (rowsM_at tranMr 3 n k j hlt) (by rw [HY.out]; exact hlt) HT.out, ?_, (((HG.out.setCell hlo hhi _).setCell hlo hhi _).setCell hlo hhi _)⟩
        rw [show trans (ys.set j (tranMr (k + (j : Int) * 3))) = _ from (put_row (f := tranC) tranC_len (by omega) ys j (tranMr (k + (j : Int) * 3)) (by rw [HY.out]; exact hlt)).symm]
        exact (((HO.out.set (j * 3) (.int .i64 (k + (j : Int) * 3))).set (j * 3 + 1) (.int .i64 (k + (j : Int) * 3 + 1))).set (j * 3 + 2) (.bool (k3 (k + (j : Int) * 3 + 1 + 1))))
      case measure => simp [intOf]; omega
    · have hjn : j = n := by omega
      have e : ys = rowsM tranMr 3 k n := take_all HY.out (rowsM_len _ _ n k) (by have ht := HT.out; rw [hjn] at ht; exact ht)
      subst e
      go_wp2
      go_ret
      exact ⟨ret_int (by omega), hown, hb⟩
set_option maxRecDepth 100000 in
set_option maxHeartbeats 2000000 in
theorem heldTransferS_any (A : Option Addr) (n c : Nat) (k : Int) (w : World) (hm : n ≤ 1048577) (h0 : 0 ≤ k) (h1 : k ≤ 1099511627776) (hr : Rd w 3 A n (trans (rowsM tranMr 3 k n))) :
    Calls Try.prog 11 #[.slice A n c, .int .i64 k] w fun e w' => e = .returned (.int .i64 (k + ((n * 3 : Nat) : Int))) ∧ Below w.heap.size w w' := by
  have HR := Lib.hid hr
  clear hr
  go_enter Try.func11, Try.ntmps11
  go_wp2
  go_loopw [1, 5] (fun kk i wr => ∃ (j : Nat), j ≤ n ∧ i = .int .i64 j ∧ kk = .int .i64 (k + (j : Int) * 3) ∧ Below w.heap.size w wr) (fun _ i _ => n - (intOf i).toNat)
  case atStart => exact ⟨0, Nat.zero_le _, rfl, by simp, Below.refl _ _⟩
  case round =>
    obtain ⟨j, hj, rfl, rfl, hb⟩ := hrel
    by_cases hlt : j < n
    · obtain ⟨b, o, p0, p1, p2, rfl, hbl, hx, h0, h1, h2⟩ := HR.out.tran hlt
      rw [rowsM_at _ _ n k j hlt] at hx
      injection hx with hx
      have hK0 : 0 ≤ k + (j : Int) * 3 := by omega
      have hK1 : k + (j : Int) * 3 ≤ 1099599999999 := by omega
      simp only [tranMr, Prod.mk.injEq] at hx
      obtain ⟨rfl, rfl, rfl⟩ := hx
      have j0 : wr.cell? ⟨b, o + j * 3, none⟩ = some (.int .i64 (k + (j : Int) * 3)) := (hb.cell (p := ⟨b, o + j * 3, none⟩) hbl).trans h0
      have j1 : wr.cell? ⟨b, o + j * 3 + 1, none⟩ = some (.int .i64 (k + (j : Int) * 3 + 1)) := (hb.cell (p := ⟨b, o + j * 3 + 1, none⟩) hbl).trans h1
      have j2 : wr.cell? ⟨b, o + j * 3 + 2, none⟩ = some (.bool ((k + (j : Int) * 3 + 1 + 1) % 3 == 0)) := (hb.cell (p := ⟨b, o + j * 3 + 2, none⟩) hbl).trans h2
      clear h0 h1 h2
      go_wp2
      go_roundw
      case rel => exact ⟨j + 1, by omega, by go_num, congrArg (Value.int .i64) (by omega), hb⟩
      case measure => simp [intOf]; omega
    · have hjn : j = n := by omega
      go_wp2
      go_ret
      exact ⟨ret_int (by omega), hb⟩
end Go.Proofs.Ytlfegalmiloihaa
