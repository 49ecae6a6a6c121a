/-
  ROWS of Transfer: how a list of them lies in memory, and the laws' helpers over them.
  Conditions: none beyond those that each states.
-/
import Derived.Test.YtlfegalmiloihaaRows2
import Derived.Test.YtlfegalmiloihaaRows3
import Derived.Deep.RegionHeld3
namespace Go.Proofs.Ytlfegalmiloihaa
open Go.ChangeShapes Go.WideShapes Go.ChangeAt Go.RowKit Go.Joins
set_option linter.unusedVariables false

def tranC (x : Int × Int × Bool) : List Value := [.int .i64 x.1, .int .i64 x.2.1, .bool x.2.2]
theorem tranC_len (x : Int × Int × Bool) : (tranC x).length = 3 := rfl
def trans (zs : List (Int × Int × Bool)) : List Value := zs.flatMap tranC
theorem trans_len (zs : List (Int × Int × Bool)) : (trans zs).length = zs.length * 3 := rows_len tranC_len zs
section
variable {w : World} {A : Option Addr} {n k : Nat} {zs : List (Int × Int × Bool)}
theorem Rd.transLen (h : Rd w 3 A n (trans zs)) : zs.length = n := Rd.rowsLen (f := tranC) h tranC_len (by omega)
theorem Rd.tran (h : Rd w 3 A n (trans zs)) (hk : k < n) : ∃ b o p0 p1 p2, A = some ⟨b, o, none⟩ ∧ b < w.heap.size ∧ zs[k]? = some (p0, p1, p2) ∧ w.cell? ⟨b, o + k * 3, none⟩ = some (.int .i64 p0) ∧ w.cell? ⟨b, o + k * 3 + 1, none⟩ = some (.int .i64 p1) ∧ w.cell? ⟨b, o + k * 3 + 2, none⟩ = some (.bool p2) := by
  obtain ⟨b, o, x, hA, hb, hx, hc⟩ := Rd.row (f := tranC) h tranC_len (by omega) hk
  obtain ⟨p0, p1, p2⟩ := x
  refine ⟨b, o, p0, p1, p2, hA, hb, hx, ?_, ?_, ?_⟩
  · have := hc 0 _ rfl; simpa using this
  · have := hc 1 _ rfl; rwa [← Nat.add_assoc] at this
  · have := hc 2 _ rfl; rwa [← Nat.add_assoc] at this
end
theorem Try.infoTransfer : (Try.prog.info? 26).map (fun i => (i.zero, i.size, i.bytes)) = some (some (.agg #[.int .i64 0, .int .i64 0, .bool false]), 3, 24) := by kernel_rfl

set_option maxRecDepth 100000 in
set_option maxHeartbeats 400000 in
theorem toTransfer_any (p0 : Int) (p1 : Int) (p2 : Bool) (w : World) : Calls Try.prog 7 #[.agg #[.int .i64 p0, .int .i64 p1, .bool p2]] w fun e w' => e = .returned (.agg #[.int .i64 p0, .int .i64 p1, .bool p2]) ∧ Below w.heap.size w w' := by
  go_enter Try.func7, Try.ntmps7
  go_wp2
  go_returns
  exact ⟨rfl, by go_grown⟩
set_option maxRecDepth 100000 in
set_option maxHeartbeats 400000 in
theorem eqTransfer_same (p0 : Int) (p1 : Int) (p2 : Bool) (w : World) : Calls Try.prog 27 #[.agg #[.int .i64 p0, .int .i64 p1, .bool p2], .agg #[.int .i64 p0, .int .i64 p1, .bool p2]] w fun e w' => e = .returned (.bool true) ∧ Below w.heap.size w w' := by
  go_enter Try.func27, Try.ntmps27
  go_wp2
  go_ret
  exact ⟨rfl, by go_grown⟩
set_option maxRecDepth 100000 in
set_option maxHeartbeats 2000000 in
theorem eqTransferS_same (A B : Option Addr) (n c d : Nat) (zs : List (Int × Int × Bool)) (w : World) (hn : n ≤ 1048577) (hrx : Rd w 3 A n (trans zs)) (hry : Rd w 3 B n (trans zs)) :
    Calls Try.prog 9 #[.slice A n c, .slice B n d] w fun e w' => e = .returned (.bool true) ∧ Below w.heap.size w w' := by
  go_enter Try.func9, Try.ntmps9
  go_wp2
  go_loopw [5] (fun i wr => ∃ (k : Nat), k ≤ n ∧ i = .int .i64 k ∧ Below w.heap.size w wr) (fun i _ => n - (intOf i).toNat)
  case atStart => exact ⟨0, Nat.zero_le _, rfl, Below.refl _ _⟩
  case round =>
    obtain ⟨k, hk, rfl, hb⟩ := hrel
    by_cases hlt : k < n
    · obtain ⟨b, o, p0, p1, p2, rfl, hbl, hx, h0, h1, h2⟩ := hrx.tran hlt
      obtain ⟨b', o', q0, q1, q2, rfl, hbl', hy, h'0, h'1, h'2⟩ := hry.tran hlt
      have HX := Lib.hid hx
      have HY := Lib.hid hy
      clear hx hy
      obtain ⟨rfl, rfl, rfl⟩ : p0 = q0 ∧ p1 = q1 ∧ p2 = q2 := by simpa using HX.out.symm.trans HY.out
      have a0 := (hb.cell (p := ⟨b, o + k * 3, none⟩) hbl).trans h0
      have a1 := (hb.cell (p := ⟨b, o + k * 3 + 1, none⟩) hbl).trans h1
      have a2 := (hb.cell (p := ⟨b, o + k * 3 + 2, none⟩) hbl).trans h2
      have c0 := (hb.cell (p := ⟨b', o' + k * 3, none⟩) hbl').trans h'0
      have c1 := (hb.cell (p := ⟨b', o' + k * 3 + 1, none⟩) hbl').trans h'1
      have c2 := (hb.cell (p := ⟨b', o' + k * 3 + 2, none⟩) hbl').trans h'2
      have hs := hb.size
      have hk0 : (0 : Int) ≤ (k : Int) := by omega
      have hk1 : (k : Int) < (n : Int) := by omega
      have H0 := Lib.hid h0
      have H1 := Lib.hid h1
      have H2 := Lib.hid h2
      have H'0 := Lib.hid h'0
      have H'1 := Lib.hid h'1
      have H'2 := Lib.hid h'2
      clear h0 h'0 h1 h'1 h2 h'2
      go_wp2
      go_region_held3 (fun w' => w'.cell? ⟨b, o + k * 3, none⟩ = some (.int .i64 p0) ∧ w'.cell? ⟨b, o + k * 3 + 1, none⟩ = some (.int .i64 p1) ∧ w'.cell? ⟨b, o + k * 3 + 2, none⟩ = some (.bool p2) ∧ w'.cell? ⟨b', o' + k * 3, none⟩ = some (.int .i64 p0) ∧ w'.cell? ⟨b', o' + k * 3 + 1, none⟩ = some (.int .i64 p1) ∧ w'.cell? ⟨b', o' + k * 3 + 2, none⟩ = some (.bool p2)) (refine ⟨?_, ?_, ?_, ?_, ?_, ?_⟩ <;> (first | exact A0 | exact A1 | exact A2 | exact C0 | exact C1 | exact C2 | exact a0 | exact a1 | exact a2 | exact c0 | exact c1 | exact c2)) ((go_at_call 27; refine (eqTransfer_same p0 p1 p2 _).mono ?_; rintro e w1 ⟨rfl, hb1⟩; have HB1 : Hid (Below w.heap.size w w1) := Below.andThen hb (Below.andThen (w := wr) (by go_grown) hb1); have A0 := (HB1.out.cell (p := ⟨b, o + k * 3, none⟩) hbl).trans H0.out; have A1 := (HB1.out.cell (p := ⟨b, o + k * 3 + 1, none⟩) hbl).trans H1.out; have A2 := (HB1.out.cell (p := ⟨b, o + k * 3 + 2, none⟩) hbl).trans H2.out; have C0 := (HB1.out.cell (p := ⟨b', o' + k * 3, none⟩) hbl').trans H'0.out; have C1 := (HB1.out.cell (p := ⟨b', o' + k * 3 + 1, none⟩) hbl').trans H'1.out; have C2 := (HB1.out.cell (p := ⟨b', o' + k * 3 + 2, none⟩) hbl').trans H'2.out))
      go_wp2
      go_roundw
      case rel => exact ⟨k + 1, by omega, by go_num, HB1.out⟩
      case measure => simp [intOf]; omega
    · have hkn : k = n := by omega
      go_wp2
      go_ret
      exact ⟨rfl, hb⟩
end Go.Proofs.Ytlfegalmiloihaa
