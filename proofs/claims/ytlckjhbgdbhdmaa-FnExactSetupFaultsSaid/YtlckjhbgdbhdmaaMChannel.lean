/-
  MARKS in rows of Channel.
  Conditions: none beyond those that each states.
-/
import Derived.Test.YtlckjhbgdbhdmaaRChannel
import Derived.Test.YtlckjhbgdbhdmaaRowsM
namespace Go.Proofs.Ytlckjhbgdbhdmaa
open Go.ChangeShapes Go.WideShapes Go.ChangeAt Go.RowKit Go.Joins
set_option linter.unusedVariables false

def chanMr (k : Int) : Int × Int × Int × Int := (k, k + 1, k + 1 + 1, k + 1 + 1 + 1)
set_option maxRecDepth 100000 in
set_option maxHeartbeats 2000000 in
theorem markChannelS_any (A : Option Addr) (n c : Nat) (zs : List (Int × Int × Int × Int)) (k : Int) (lo hi : Nat) (w : World) (hm : n ≤ 1048577) (h0 : 0 ≤ k) (h1 : k ≤ 1099511627776) (hf : Fr w lo hi 60 4 A n (chans zs)) :
    Calls Try.prog 45 #[.slice A n c, .int .i64 k] w fun e w' => e = .returned (.int .i64 (k + ((n * 4 : Nat) : Int))) ∧ Fr w' lo hi 60 4 A n (chans (rowsM chanMr 4 k n)) ∧ Touch lo hi w w' := by
  have hlz := Lib.hid hf.rd.chansLen
  go_enter Try.func45, Try.ntmps45
  go_wp2
  go_loopw [1, 5] (fun kk i wr => ∃ (j : Nat) (ys : List (Int × Int × Int × Int)), j ≤ n ∧ i = .int .i64 j ∧ kk = .int .i64 (k + (j : Int) * 4) ∧ Hid (ys.length = n) ∧ Hid (ys.take j = (rowsM chanMr 4 k n).take j) ∧ Fr wr lo hi 60 4 A n (chans ys) ∧ Touch lo hi w wr)
    (fun _ i _ => n - (intOf i).toNat)
  case atStart => exact ⟨0, zs, Nat.zero_le _, rfl, by simp, hlz.out, by show _ = _; simp, hf, Touch.refl _ _ _⟩
  case round =>
    obtain ⟨j, ys, hj, rfl, rfl, HY, HT, hown, hb⟩ := hrel
    by_cases hlt : j < n
    · have HYL : Hid ((chans ys).length = n * 4) := by show _ = _; rw [chans_len, HY.out]
      obtain ⟨g, rfl, hlo, hhi, hcells, hfroz, hst⟩ := hown.use (by omega)
      have hK0 : 0 ≤ k + (j : Int) * 4 := by omega
      have hK1 : k + (j : Int) * 4 ≤ 1099599999999 := by omega
      have t0 : ∃ u, wr.cell? ⟨g, j * 4, none⟩ = some u := ⟨_, hcells (j * 4) _ (List.getElem?_eq_getElem (by rw [HYL.out]; omega))⟩
      obtain ⟨u0, t0⟩ := t0
      have g0 := hfroz (j * 4)
      have t1 : ∃ u, wr.cell? ⟨g, j * 4 + 1, none⟩ = some u := ⟨_, hcells (j * 4 + 1) _ (List.getElem?_eq_getElem (by rw [HYL.out]; omega))⟩
      obtain ⟨u1, t1⟩ := t1
      have g1 := hfroz (j * 4 + 1)
      have t2 : ∃ u, wr.cell? ⟨g, j * 4 + 2, none⟩ = some u := ⟨_, hcells (j * 4 + 2) _ (List.getElem?_eq_getElem (by rw [HYL.out]; omega))⟩
      obtain ⟨u2, t2⟩ := t2
      have g2 := hfroz (j * 4 + 2)
      have t3 : ∃ u, wr.cell? ⟨g, j * 4 + 3, none⟩ = some u := ⟨_, hcells (j * 4 + 3) _ (List.getElem?_eq_getElem (by rw [HYL.out]; omega))⟩
      obtain ⟨u3, t3⟩ := t3
      have g3 := hfroz (j * 4 + 3)
      have HO := Lib.hid hown
      have HG := Lib.hid hb
      clear hb hst hcells hfroz hown
      go_wp2
      go_roundw
      case rel =>
        refine ⟨j + 1, ys.set j (chanMr (k + (j : Int) * 4)), by omega, by go_num, congrArg (Value.int .i64) (by omega), by show _ = n; rw [List.length_set]; exact HY.out, by show _ = _; exact set_take (rowsM_at chanMr 4 n k j hlt) (by rw [HY.out]; exact hlt) HT.out, ?_, ((((HG.out.setCell hlo hhi _).setCell hlo hhi _).setCell hlo hhi _).setCell hlo hhi _)⟩
        rw [show chans (ys.set j (chanMr (k + (j : Int) * 4))) = _ from (put_row (f := chanC) chanC_len (by omega) ys j (chanMr (k + (j : Int) * 4)) (by rw [HY.out]; exact hlt)).symm]
        exact ((((HO.out.set (j * 4) (.int .i64 (k + (j : Int) * 4))).set (j * 4 + 1) (.int .i64 (k + (j : Int) * 4 + 1))).set (j * 4 + 2) (.int .i64 (k + (j : Int) * 4 + 1 + 1))).set (j * 4 + 3) (.int .i64 (k + (j : Int) * 4 + 1 + 1 + 1)))
      case measure => simp [intOf]; omega
    · have hjn : j = n := by omega
      have e : ys = rowsM chanMr 4 k n := take_all HY.out (rowsM_len _ _ n k) (by have ht := HT.out; rw [hjn] at ht; exact ht)
      subst e
      go_wp2
      go_ret
      exact ⟨ret_int (by omega), hown, hb⟩
end Go.Proofs.Ytlckjhbgdbhdmaa
