/-
  MARKS in rows of Slot.
  Conditions: none beyond those that each states.
-/
import Derived.Test.YtdccgflkhgnflaaRSlot
import Derived.Test.YtdccgflkhgnflaaRowsM
namespace Go.Proofs.Ytdccgflkhgnflaa
open Go.ChangeShapes Go.WideShapes Go.ChangeAt Go.RowKit Go.Joins
set_option linter.unusedVariables false

def slotMr (k : Int) : Int × Int := (k, k + 1)
set_option maxRecDepth 100000 in
set_option maxHeartbeats 2000000 in
theorem markSlotS_any (A : Option Addr) (n c : Nat) (zs : List (Int × Int)) (k : Int) (lo hi : Nat) (w : World) (hm : n ≤ 1048577) (h0 : 0 ≤ k) (h1 : k ≤ 1099511627776) (hf : Fr w lo hi 58 2 A n (slots zs)) :
    Calls Try.prog 40 #[.slice A n c, .int .i64 k] w fun e w' => e = .returned (.int .i64 (k + ((n * 2 : Nat) : Int))) ∧ Fr w' lo hi 58 2 A n (slots (rowsM slotMr 2 k n)) ∧ Touch lo hi w w' := by
  have hlz := Lib.hid hf.rd.slotsLen
  go_enter Try.func40, Try.ntmps40
  go_wp2
  go_loopw [1, 5] (fun kk i wr => ∃ (j : Nat) (ys : List (Int × Int)), j ≤ n ∧ i = .int .i64 j ∧ kk = .int .i64 (k + (j : Int) * 2) ∧ Hid (ys.length = n) ∧ Hid (ys.take j = (rowsM slotMr 2 k n).take j) ∧ Fr wr lo hi 58 2 A n (slots ys) ∧ Touch lo hi w wr)
    (fun _ i _ => n - (intOf i).toNat)
  case atStart => exact ⟨0, zs, Nat.zero_le _, rfl, by simp, hlz.out, by show _ = _; simp, hf, Touch.refl _ _ _⟩
  case round =>
    obtain ⟨j, ys, hj, rfl, rfl, HY, HT, hown, hb⟩ := hrel
    by_cases hlt : j < n
    · have HYL : Hid ((slots ys).length = n * 2) := by show _ = _; rw [slots_len, HY.out]
      obtain ⟨g, rfl, hlo, hhi, hcells, hfroz, hst⟩ := hown.use (by omega)
      have hK0 : 0 ≤ k + (j : Int) * 2 := by omega
      have hK1 : k + (j : Int) * 2 ≤ 1099599999999 := by omega
      have t0 : ∃ u, wr.cell? ⟨g, j * 2, none⟩ = some u := ⟨_, hcells (j * 2) _ (List.getElem?_eq_getElem (by rw [HYL.out]; omega))⟩
      obtain ⟨u0, t0⟩ := t0
      have g0 := hfroz (j * 2)
      have t1 : ∃ u, wr.cell? ⟨g, j * 2 + 1, none⟩ = some u := ⟨_, hcells (j * 2 + 1) _ (List.getElem?_eq_getElem (by rw [HYL.out]; omega))⟩
      obtain ⟨u1, t1⟩ := t1
      have g1 := hfroz (j * 2 + 1)
      have HO := Lib.hid hown
      have HG := Lib.hid hb
      clear hb hst hcells hfroz hown
      go_wp2
      go_roundw
      case rel =>
        refine ⟨j + 1, ys.set j (slotMr (k + (j : Int) * 2)), by omega, by go_num, congrArg (Value.int .i64) (by omega), by show _ = n; rw [List.length_set]; exact HY.out, by show _ = _; exact set_take (rowsM_at slotMr 2 n k j hlt) (by rw [HY.out]; exact hlt) HT.out, ?_, ((HG.out.setCell hlo hhi _).setCell hlo hhi _)⟩
        rw [show slots (ys.set j (slotMr (k + (j : Int) * 2))) = _ from (put_row (f := slotC) slotC_len (by omega) ys j (slotMr (k + (j : Int) * 2)) (by rw [HY.out]; exact hlt)).symm]
        exact ((HO.out.set (j * 2) (.int .i64 (k + (j : Int) * 2))).set (j * 2 + 1) (.int .i64 (k + (j : Int) * 2 + 1)))
      case measure => simp [intOf]; omega
    · have hjn : j = n := by omega
      have e : ys = rowsM slotMr 2 k n := take_all HY.out (rowsM_len _ _ n k) (by have ht := HT.out; rw [hjn] at ht; exact ht)
      subst e
      go_wp2
      go_ret
      exact ⟨ret_int (by omega), hown, hb⟩
end Go.Proofs.Ytdccgflkhgnflaa
