/-
  MARKS in rows of Order.
  Conditions: none beyond those that each states.
-/
import Derived.Test.YtpaknpjdamoibaaROrder
import Derived.Test.YtpaknpjdamoibaaRowsM
namespace Go.Proofs.Ytpaknpjdamoibaa
open Go.ChangeShapes Go.WideShapes Go.ChangeAt Go.RowKit Go.Joins
set_option linter.unusedVariables false

def ordMr (k : Int) : Int × Int × Int := (k, k + 1, k + 1 + 1)
set_option maxRecDepth 100000 in
set_option maxHeartbeats 2000000 in
theorem markOrderS_any (A : Option Addr) (n c : Nat) (zs : List (Int × Int × Int)) (k : Int) (lo hi : Nat) (w : World) (hm : n ≤ 1048577) (h0 : 0 ≤ k) (h1 : k ≤ 1099511627776) (hf : Fr w lo hi 35 3 A n (ords zs)) :
    Calls Try.prog 10 #[.slice A n c, .int .i64 k] w fun e w' => e = .returned (.int .i64 (k + ((n * 3 : Nat) : Int))) ∧ Fr w' lo hi 35 3 A n (ords (rowsM ordMr 3 k n)) ∧ Touch lo hi w w' := by
  have hlz := Lib.hid hf.rd.ordsLen
  go_enter Try.func10, Try.ntmps10
  go_wp2
  go_loopw [1, 5] (fun kk i wr => ∃ (j : Nat) (ys : List (Int × Int × Int)), j ≤ n ∧ i = .int .i64 j ∧ kk = .int .i64 (k + (j : Int) * 3) ∧ Hid (ys.length = n) ∧ Hid (ys.take j = (rowsM ordMr 3 k n).take j) ∧ Fr wr lo hi 35 3 A n (ords ys) ∧ Touch lo hi w wr)
    (fun _ i _ => n - (intOf i).toNat)
  case atStart => exact ⟨0, zs, Nat.zero_le _, rfl, by simp, hlz.out, by show _ = _; simp, hf, Touch.refl _ _ _⟩
  case round =>
    obtain ⟨j, ys, hj, rfl, rfl, HY, HT, hown, hb⟩ := hrel
    by_cases hlt : j < n
    · have HYL : Hid ((ords ys).length = n * 3) := by show _ = _; rw [ords_len, HY.out]
      obtain ⟨g, rfl, hlo, hhi, hcells, hfroz, hst⟩ := hown.use (by omega)
      have hK0 : 0 ≤ k + (j : Int) * 3 := by omega
      have hK1 : k + (j : Int) * 3 ≤ 1099599999999 := by omega
      have t0 : ∃ u, wr.cell? ⟨g, j * 3, none⟩ = some u := ⟨_, hcells (j * 3) _ (List.getElem?_eq_getElem (by rw [HYL.out]; omega))⟩
      obtain ⟨u0, t0⟩ := t0
      have g0 := hfroz (j * 3)
      have t1 : ∃ u, wr.cell? ⟨g, j * 3 + 1, none⟩ = some u := ⟨_, hcells (j * 3 + 1) _ (List.getElem?_eq_getElem (by rw [HYL.out]; omega))⟩
      obtain ⟨u1, t1⟩ := t1
      have g1 := hfroz (j * 3 + 1)
      have t2 : ∃ u, wr.cell? ⟨g, j * 3 + 2, none⟩ = some u := ⟨_, hcells (j * 3 + 2) _ (List.getElem?_eq_getElem (by rw [HYL.out]; omega))⟩
      obtain ⟨u2, t2⟩ := t2
      have g2 := hfroz (j * 3 + 2)
      have HO := Lib.hid hown
      have HG := Lib.hid hb
      clear hb hst hcells hfroz hown
      go_wp2
      go_roundw
      case rel =>
        refine ⟨j + 1, ys.set j (ordMr (k + (j : Int) * 3)), by omega, by go_num, congrArg (Value.int .i64) (by omega), by show _ = n; rw [List.length_set]; exact HY.out, by show _ = _; exact set_take (rowsM_at ordMr 3 n k j hlt) (by rw [HY.out]; exact hlt) HT.out, ?_, (((HG.out.setCell hlo hhi _).setCell hlo hhi _).setCell hlo hhi _)⟩
        rw [show ords (ys.set j (ordMr (k + (j : Int) * 3))) = _ from (put_row (f := ordC) ordC_len (by omega) ys j (ordMr (k + (j : Int) * 3)) (by rw [HY.out]; exact hlt)).symm]
        exact (((HO.out.set (j * 3) (.int .i64 (k + (j : Int) * 3))).set (j * 3 + 1) (.int .i64 (k + (j : Int) * 3 + 1))).set (j * 3 + 2) (.int .i64 (k + (j : Int) * 3 + 1 + 1)))
      case measure => simp [intOf]; omega
    · have hjn : j = n := by omega
      have e : ys = rowsM ordMr 3 k n := take_all HY.out (rowsM_len _ _ n k) (by have ht := HT.out; rw [hjn] at ht; exact ht)
      subst e
      go_wp2
      go_ret
      exact ⟨ret_int (by omega), hown, hb⟩
end Go.Proofs.Ytpaknpjdamoibaa
