/-
  CONTRACTS of the laws' own helpers over []int: toIntS, eqIntS, szIntS, markIntS, heldIntS.
  Conditions: none beyond those that each states.
-/
import Derived.Test.YtpaknpjdamoibaaOpen
namespace Go.Proofs.Ytpaknpjdamoibaa
open Go.ChangeShapes Go.WideShapes Go.ChangeAt Go.RowKit Go.Joins
set_option linter.unusedVariables false

/-- a list of numbers as cells -/
def ints (zs : List Int) : List Value := zs.map (Value.int .i64)
theorem ints_len (zs : List Int) : (ints zs).length = zs.length := by simp [ints]
theorem ints_at (zs : List Int) (k : Nat) : (ints zs)[k]? = (zs[k]?).map (Value.int .i64) := by simp [ints]
theorem ints_set (zs : List Int) (k : Nat) (x : Int) : (ints zs).set k (.int .i64 x) = ints (zs.set k x) := by simp [ints, List.map_set]
theorem Rd.int_ {w : World} {A : Option Addr} {n k : Nat} {zs : List Int} (h : Rd w 1 A n (ints zs)) (hk : k < n) :
    ∃ b o x, A = some ⟨b, o, none⟩ ∧ b < w.heap.size ∧ zs[k]? = some x ∧ w.cell? ⟨b, o + k, none⟩ = some (.int .i64 x) := by
  obtain ⟨b, o, u, hA, hb, hu, hc⟩ := h.at_ hk
  rw [ints_at] at hu
  obtain ⟨x, hx, rfl⟩ := Option.map_eq_some_iff.1 hu
  exact ⟨b, o, x, hA, hb, hx, hc⟩
theorem Rd.len {w : World} {A : Option Addr} {n : Nat} {zs : List Int} (h : Rd w 1 A n (ints zs)) : zs.length = n := by have := h.1; simpa [ints] using this
theorem take_snoc {α : Type} {zs : List α} {k : Nat} {x : α} (h : zs[k]? = some x) : zs.take (k + 1) = zs.take k ++ [x] := by
  rw [List.take_add_one, h]; rfl
theorem set_take {α : Type} {ys zs : List α} {k : Nat} {x : α} (hx : zs[k]? = some x) (hl : k < ys.length) (h : ys.take k = zs.take k) : (ys.set k x).take (k + 1) = zs.take (k + 1) := by
  rw [take_snoc hx, take_snoc (x := x) (by simp [hl]), List.take_set_of_le (Nat.le_refl _), h]
theorem take_all {α : Type} {ys zs : List α} {n : Nat} (hy : ys.length = n) (hz : zs.length = n) (h : ys.take n = zs.take n) : ys = zs := by
  rw [List.take_of_length_le (by omega), List.take_of_length_le (by omega)] at h; exact h

theorem Try.infoInt : (Try.prog.info? 3).map (fun i => (i.zero, i.size, i.bytes)) = some (some (.int .i64 0), 1, 8) := by kernel_rfl

set_option maxRecDepth 100000 in
set_option maxHeartbeats 400000 in
theorem eqIntS_any (A B : Option Addr) (n m c d : Nat) (xs ys : List Int) (w : World) (hn : n ≤ 1048577) (hrx : Rd w 1 A n (ints xs)) (hry : Rd w 1 B m (ints ys)) :
    Calls Try.prog 8 #[.slice A n c, .slice B m d] w fun e w' => e = .returned (.bool (decide (xs = ys))) ∧ Below w.heap.size w w' := by
  by_cases hne : n = m
  · subst hne
    have hlx := Lib.hid hrx.len
    have hly := Lib.hid hry.len
    go_enter Try.func8, Try.ntmps8
    go_wp2
    go_loopw [5] (fun i wr => ∃ (k : Nat), k ≤ n ∧ i = .int .i64 k ∧ xs.take k = ys.take k ∧ Below w.heap.size w wr) (fun i _ => n - (intOf i).toNat)
    case atStart => exact ⟨0, Nat.zero_le _, rfl, by simp, Below.refl _ _⟩
    case round =>
      obtain ⟨k, hk, rfl, hxy, hb⟩ := hrel
      have HT := Lib.hid hxy
      clear hxy
      by_cases hlt : k < n
      · obtain ⟨b, o, x, rfl, hbl, hx, hc⟩ := hrx.int_ hlt
        obtain ⟨b', o', y, rfl, hbl', hy, hc'⟩ := hry.int_ hlt
        have hc1 := (hb.cell (p := ⟨b, o + k, none⟩) hbl).trans hc
        have hc2 := (hb.cell (p := ⟨b', o' + k, none⟩) hbl').trans hc'
        have HX := Lib.hid hx
        have HY := Lib.hid hy
        clear hx hy hc hc'
        by_cases hv : x = y
        · subst hv
          go_wp2
          go_quiet (fail)
          go_wp2
          go_roundw
          case rel => exact ⟨k + 1, by omega, by go_num, by rw [take_snoc HX.out, take_snoc HY.out, HT.out], below_drewN hb _⟩
          case measure => simp [intOf]; omega
        · go_wp2
          go_quiet (fail)
          go_wp2
          go_ret
          refine ⟨?_, below_drewN hb _⟩
          have : xs ≠ ys := by
            rintro rfl
            rw [HX.out] at HY
            exact hv (by simpa using HY.out)
          simp [this]
      · have hkn : k = n := by omega
        have e : xs = ys := take_all hlx.out hly.out (by rw [← hkn]; exact HT.out)
        go_wp2
        go_ret
        exact ⟨by simp [e], hb⟩
  · have hd : xs ≠ ys := by
      rintro rfl
      have h1 := hrx.len
      have h2 := hry.len
      omega
    go_enter Try.func8, Try.ntmps8
    go_wp2
    go_ret
    exact ⟨by simp [hd], Below.refl _ _⟩
end Go.Proofs.Ytpaknpjdamoibaa
