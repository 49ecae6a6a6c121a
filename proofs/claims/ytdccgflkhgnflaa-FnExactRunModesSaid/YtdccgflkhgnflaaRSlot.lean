/-
  ROWS of Slot: how a list of them lies in memory, and the laws' helpers over them.
  Conditions: none beyond those that each states.
-/
import Derived.Test.YtdccgflkhgnflaaRows2
import Derived.Test.YtdccgflkhgnflaaRows3
import Derived.Deep.RegionHeld3
namespace Go.Proofs.Ytdccgflkhgnflaa
open Go.ChangeShapes Go.WideShapes Go.ChangeAt Go.RowKit Go.Joins
set_option linter.unusedVariables false

def slotC (x : Int × Int) : List Value := [.int .i64 x.1, .int .i64 x.2]
theorem slotC_len (x : Int × Int) : (slotC x).length = 2 := rfl
def slots (zs : List (Int × Int)) : List Value := zs.flatMap slotC
theorem slots_len (zs : List (Int × Int)) : (slots zs).length = zs.length * 2 := rows_len slotC_len zs
section
variable {w : World} {A : Option Addr} {n k : Nat} {zs : List (Int × Int)}
theorem Rd.slotsLen (h : Rd w 2 A n (slots zs)) : zs.length = n := Rd.rowsLen (f := slotC) h slotC_len (by omega)
theorem Rd.slot (h : Rd w 2 A n (slots zs)) (hk : k < n) : ∃ b o p0 p1, A = some ⟨b, o, none⟩ ∧ b < w.heap.size ∧ zs[k]? = some (p0, p1) ∧ w.cell? ⟨b, o + k * 2, none⟩ = some (.int .i64 p0) ∧ w.cell? ⟨b, o + k * 2 + 1, none⟩ = some (.int .i64 p1) := by
  obtain ⟨b, o, x, hA, hb, hx, hc⟩ := Rd.row (f := slotC) h slotC_len (by omega) hk
  obtain ⟨p0, p1⟩ := x
  refine ⟨b, o, p0, p1, hA, hb, hx, ?_, ?_⟩
  · have := hc 0 _ rfl; simpa using this
  · have := hc 1 _ rfl; rwa [← Nat.add_assoc] at this
end
theorem Try.infoSlot : (Try.prog.info? 58).map (fun i => (i.zero, i.size, i.bytes)) = some (some (.agg #[.int .i64 0, .int .i64 0]), 2, 16) := by kernel_rfl

set_option maxRecDepth 100000 in
set_option maxHeartbeats 400000 in
theorem toSlot_any (p0 : Int) (p1 : Int) (w : World) : Calls Try.prog 41 #[.agg #[.int .i64 p0, .int .i64 p1]] w fun e w' => e = .returned (.agg #[.int .i64 p0, .int .i64 p1]) ∧ Below w.heap.size w w' := by
  go_enter Try.func41, Try.ntmps41
  go_wp2
  go_returns
  exact ⟨rfl, by go_grown⟩
set_option maxRecDepth 100000 in
set_option maxHeartbeats 1000000 in
theorem toSlotS_any (A : Option Addr) (n c : Nat) (zs : List (Int × Int)) (w : World) (hm : n ≤ 1048576) (hr : Rd w 2 A n (slots zs)) :
    Calls Try.prog 33 #[.slice A n c] w fun e w' => e = .returned (.slice (some ⟨w.heap.size, 0, none⟩) n n) ∧
      w'.ownsRow w.heap.size 58 2 (.slice (some ⟨w.heap.size, 0, none⟩) n n) n (slots zs) ∧ Below w.heap.size w w' := by
  obtain ⟨i0, hi, hz0, hz1, hz2⟩ := info_parts Try.infoSlot
  have hlz := Lib.hid hr.slotsLen
  go_enter Try.func33, Try.ntmps33
  go_wp2_with (at_make; refine wpList_make_full _ rfl _ _ 43 rfl w.heap.size 58 i0 (.agg #[.int .i64 0, .int .i64 0]) 2 Try.underlying43 hi hz0 hz1 _ _ _ _ n rfl rfl rfl rfl ?b2 ?b3 (Nat.le_refl _) ?_)
  case b2 => rw [hz2]; omega
  case b3 => unfold maxLen; omega
  intro w0 hown0 hgrow0
  have hown1 : w0.ownsRow w.heap.size 58 2 (.slice (some ⟨w.heap.size, 0, none⟩) n n) n (slots (List.replicate n (0, 0))) := by
    have e : (madeCells (Value.cells (.agg #[.int .i64 0, .int .i64 0])) (n * 2)).toList = slots (List.replicate n (0, 0)) := made_rows (f := slotC) slotC_len (by omega) (0, 0) (Value.cells (.agg #[.int .i64 0, .int .i64 0])) rfl n
    rw [← e]; exact hown0
  clear hown0
  have hb0 : Below w.heap.size w w0 := (Below.refl _ _).grown hgrow0 (Nat.le_refl _) (fun k h => by cases h)
  clear hgrow0
  go_wp2
  go_loopw [4] (fun i wr => ∃ (k : Nat) (ys : List (Int × Int)), k ≤ n ∧ i = .int .i64 k ∧ Hid (ys.length = n) ∧ Hid (ys.take k = zs.take k) ∧ wr.ownsRow w.heap.size 58 2 (.slice (some ⟨w.heap.size, 0, none⟩) n n) n (slots ys) ∧ Below w.heap.size w wr)
    (fun i _ => n - (intOf i).toNat)
  case atStart => exact ⟨0, _, Nat.zero_le _, rfl, by show _ = n; simp, by show _ = _; simp, hown1, hb0⟩
  case round =>
    obtain ⟨k, ys, hk, rfl, HY, HT, hown, hb⟩ := hrel
    by_cases hlt : k < n
    · obtain ⟨b, o, p0, p1, rfl, hbl, hx, h0, h1⟩ := hr.slot hlt
      have HX := Lib.hid hx
      have j0 := (hb.cell (p := ⟨b, o + k * 2, none⟩) hbl).trans h0
      have j1 := (hb.cell (p := ⟨b, o + k * 2 + 1, none⟩) hbl).trans h1
      clear hx h0 h1 hown1 hb0
      have HYL : Hid ((slots ys).length = n * 2) := by show _ = _; rw [slots_len, HY.out]
      have hs := hb.size
      go_wp2_with fail
      refine (toSlot_any p0 p1 _).mono ?_
      rintro e w1 ⟨rfl, hbc⟩
      have ho1 := own_below hbc (Nat.le_refl _) hown
      have hb1 := Below.andThen hb hbc
      have hs1 := hb1.size
      clear hown hbc j0 j1
      have t0 : ∃ u, w1.cell? ⟨w.heap.size, k * 2, none⟩ = some u := ⟨_, (ho1.cellAt (k * 2) (by omega)).trans (List.getElem?_eq_getElem (by rw [HYL.out]; omega))⟩
      obtain ⟨u0, t0⟩ := t0
      have g0 := ho1.frozenAt (k * 2)
      have t1 : ∃ u, w1.cell? ⟨w.heap.size, k * 2 + 1, none⟩ = some u := ⟨_, (ho1.cellAt (k * 2 + 1) (by omega)).trans (List.getElem?_eq_getElem (by rw [HYL.out]; omega))⟩
      obtain ⟨u1, t1⟩ := t1
      have g1 := ho1.frozenAt (k * 2 + 1)
      go_wp2
      go_roundw
      case rel =>
        refine ⟨k + 1, ys.set k (p0, p1), by omega, by go_num, by show _ = n; rw [List.length_set]; exact HY.out, by show _ = _; exact set_take HX.out (by rw [HY.out]; exact hlt) HT.out, ?_, ?_⟩
        · have h9 := ((ho1.stored (k * 2) (.int .i64 p0)).1.stored (k * 2 + 1) (.int .i64 p1)).1
          rw [show slots (ys.set k (p0, p1)) = _ from (put_row (f := slotC) slotC_len (by omega) ys k (p0, p1) (by rw [HY.out]; exact hlt)).symm]
          exact h9
        · exact ((hb1.setCell (Nat.le_refl _) _).setCell (Nat.le_refl _) _)
      case measure => simp [intOf]; omega
    · have hkn : k = n := by omega
      have e : ys = zs := take_all HY.out hlz.out (by rw [← hkn]; exact HT.out)
      subst e
      go_wp2
      go_ret
      exact ⟨rfl, hown, hb⟩
set_option maxRecDepth 100000 in
set_option maxHeartbeats 400000 in
theorem eqSlot_same (p0 : Int) (p1 : Int) (w : World) : Calls Try.prog 46 #[.agg #[.int .i64 p0, .int .i64 p1], .agg #[.int .i64 p0, .int .i64 p1]] w fun e w' => e = .returned (.bool true) ∧ Below w.heap.size w w' := by
  go_enter Try.func46, Try.ntmps46
  go_wp2
  go_ret
  exact ⟨rfl, by go_grown⟩
set_option maxRecDepth 100000 in
set_option maxHeartbeats 2000000 in
theorem eqSlotS_same (A B : Option Addr) (n c d : Nat) (zs : List (Int × Int)) (w : World) (hn : n ≤ 1048577) (hrx : Rd w 2 A n (slots zs)) (hry : Rd w 2 B n (slots zs)) :
    Calls Try.prog 39 #[.slice A n c, .slice B n d] w fun e w' => e = .returned (.bool true) ∧ Below w.heap.size w w' := by
  go_enter Try.func39, Try.ntmps39
  go_wp2
  go_loopw [5] (fun i wr => ∃ (k : Nat), k ≤ n ∧ i = .int .i64 k ∧ Below w.heap.size w wr) (fun i _ => n - (intOf i).toNat)
  case atStart => exact ⟨0, Nat.zero_le _, rfl, Below.refl _ _⟩
  case round =>
    obtain ⟨k, hk, rfl, hb⟩ := hrel
    by_cases hlt : k < n
    · obtain ⟨b, o, p0, p1, rfl, hbl, hx, h0, h1⟩ := hrx.slot hlt
      obtain ⟨b', o', q0, q1, rfl, hbl', hy, h'0, h'1⟩ := hry.slot hlt
      have HX := Lib.hid hx
      have HY := Lib.hid hy
      clear hx hy
      obtain ⟨rfl, rfl⟩ : p0 = q0 ∧ p1 = q1 := by simpa using HX.out.symm.trans HY.out
      have a0 := (hb.cell (p := ⟨b, o + k * 2, none⟩) hbl).trans h0
      have a1 := (hb.cell (p := ⟨b, o + k * 2 + 1, none⟩) hbl).trans h1
      have c0 := (hb.cell (p := ⟨b', o' + k * 2, none⟩) hbl').trans h'0
      have c1 := (hb.cell (p := ⟨b', o' + k * 2 + 1, none⟩) hbl').trans h'1
      have hs := hb.size
      have hk0 : (0 : Int) ≤ (k : Int) := by omega
      have hk1 : (k : Int) < (n : Int) := by omega
      have H0 := Lib.hid h0
      have H1 := Lib.hid h1
      have H'0 := Lib.hid h'0
      have H'1 := Lib.hid h'1
      clear h0 h'0 h1 h'1
      go_wp2
      go_region_held3 (fun w' => w'.cell? ⟨b, o + k * 2, none⟩ = some (.int .i64 p0) ∧ w'.cell? ⟨b, o + k * 2 + 1, none⟩ = some (.int .i64 p1) ∧ w'.cell? ⟨b', o' + k * 2, none⟩ = some (.int .i64 p0) ∧ w'.cell? ⟨b', o' + k * 2 + 1, none⟩ = some (.int .i64 p1)) (refine ⟨?_, ?_, ?_, ?_⟩ <;> (first | exact A0 | exact A1 | exact C0 | exact C1 | exact a0 | exact a1 | exact c0 | exact c1)) ((go_at_call 46; refine (eqSlot_same p0 p1 _).mono ?_; rintro e w1 ⟨rfl, hb1⟩; have HB1 : Hid (Below w.heap.size w w1) := Below.andThen hb (Below.andThen (w := wr) (by go_grown) hb1); have A0 := (HB1.out.cell (p := ⟨b, o + k * 2, none⟩) hbl).trans H0.out; have A1 := (HB1.out.cell (p := ⟨b, o + k * 2 + 1, none⟩) hbl).trans H1.out; have C0 := (HB1.out.cell (p := ⟨b', o' + k * 2, none⟩) hbl').trans H'0.out; have C1 := (HB1.out.cell (p := ⟨b', o' + k * 2 + 1, none⟩) hbl').trans H'1.out))
      go_wp2
      go_roundw
      case rel => exact ⟨k + 1, by omega, by go_num, HB1.out⟩
      case measure => simp [intOf]; omega
    · have hkn : k = n := by omega
      go_wp2
      go_ret
      exact ⟨rfl, hb⟩
set_option maxRecDepth 100000 in
set_option maxHeartbeats 400000 in
theorem szSlotS_any (A : Option Addr) (n c : Nat) (left : Int) (w : World) (hn : n ≤ 9223372036854775807) (h0 : 0 ≤ left) (h1 : left ≤ 1048576) :
    Calls Try.prog 28 #[.slice A n c, .int .i64 left] w fun e w' => e = .returned (.int .i64 (if (n : Int) ≤ left then left - n else -1)) ∧ Below w.heap.size w w' := by
  by_cases h : (n : Int) ≤ left
  · rw [if_pos h]
    have h2 : ¬ left - (n : Int) < 0 := by omega
    go_enter Try.func28, Try.ntmps28
    go_wp2
    go_ret
    exact ⟨rfl, Below.refl _ _⟩
  · rw [if_neg h]
    have h2 : left - (n : Int) < 0 := by omega
    go_enter Try.func28, Try.ntmps28
    go_wp2
    go_ret
    exact ⟨rfl, Below.refl _ _⟩
def slotV (x : Int × Int) : Value := .agg (slotC x).toArray
set_option maxRecDepth 100000 in
set_option maxHeartbeats 1000000 in
theorem IndexFuncSlot_any (g : FuncId) (lb : Array Value) (p : Int × Int → Bool) (A : Option Addr) (n c : Nat) (zs : List (Int × Int)) (w : World) (hm : n ≤ 1048577) (hr : Rd w 2 A n (slots zs)) (hp : Pred Try.prog g lb slotV p w)
    (eg : ∀ args w, (callFunc g args).run Try.prog w = .ok (.enter g args) w) :
    Calls Try.prog 47 #[.slice A n c, .func (.func g) #[] lb] w fun e w' => e = .returned (.int .i64 (idxP p zs)) ∧ Below w.heap.size w w' := by
  have hlz := Lib.hid hr.slotsLen
  have HP := Lib.hid hp
  clear hp
  go_enter Try.func47, Try.ntmps47
  go_wp2
  go_loopw [5, 8] (fun j i wr => ∃ (k : Nat), k ≤ n ∧ i = .int .i64 k ∧ Hid (∀ y ∈ zs.take k, p y = false) ∧ Below w.heap.size w wr) (fun _ i _ => n - (intOf i).toNat)
  case atStart => exact ⟨0, Nat.zero_le _, rfl, by show ∀ y ∈ zs.take 0, p y = false; simp, Below.refl _ _⟩
  case round =>
    obtain ⟨k, hk, rfl, HT, hb⟩ := hrel
    by_cases hlt : k < n
    · obtain ⟨b, o, p0, p1, rfl, hbl, hx, h0, h1⟩ := hr.slot hlt
      have HX := Lib.hid hx
      have j0 := (hb.cell (p := ⟨b, o + k * 2, none⟩) hbl).trans h0
      have j1 := (hb.cell (p := ⟨b, o + k * 2 + 1, none⟩) hbl).trans h1
      clear hx h0 h1
      cases hv : p (p0, p1)
      · have hv' := Lib.hid hv
        clear hv
        go_wp2_with (go_at_fn g; refine (HP.out (p0, p1) _ hb).mono ?_; rw [hv'.out]; rintro e w1 ⟨rfl, hb1⟩)
        go_roundw
        case rel => exact ⟨k + 1, by omega, by go_num, miss_snoc HX.out HT.out hv'.out, Below.andThen hb hb1⟩
        case measure => simp [intOf]; omega
      · have hv' := Lib.hid hv
        clear hv
        go_wp2_with (go_at_fn g; refine (HP.out (p0, p1) _ hb).mono ?_; rw [hv'.out]; rintro e w1 ⟨rfl, hb1⟩)
        go_ret
        exact ⟨ret_int (idxP_hit HX.out HT.out hv'.out).symm, Below.andThen hb hb1⟩
    · have hkn : k = n := by omega
      go_wp2
      go_ret
      refine ⟨ret_int (idxP_miss ?_).symm, hb⟩
      have := HT.out
      rw [hkn, ← hlz.out, List.take_length] at this
      exact this
set_option maxRecDepth 100000 in
set_option maxHeartbeats 400000 in
theorem ContainsFuncSlot_any (g : FuncId) (lb : Array Value) (p : Int × Int → Bool) (A : Option Addr) (n c : Nat) (zs : List (Int × Int)) (w : World) (hm : n ≤ 1048577) (hr : Rd w 2 A n (slots zs)) (hp : Pred Try.prog g lb slotV p w)
    (eg : ∀ args w, (callFunc g args).run Try.prog w = .ok (.enter g args) w) :
    Calls Try.prog 43 #[.slice A n c, .func (.func g) #[] lb] w fun e w' => e = .returned (.bool (zs.any p)) ∧ Below w.heap.size w w' := by
  have HP := Lib.hid hp
  clear hp
  rw [← idxP_any]
  have HI := Lib.hid (IndexFuncSlot_any g lb p A n c zs w hm hr HP.out eg)
  clear eg hr
  go_enter Try.func43, Try.ntmps43
  go_wp2_with (go_at_call 47; refine HI.out.mono ?_; rintro e w1 ⟨rfl, hb1⟩)
  go_ret
  exact ⟨rfl, hb1⟩
set_option maxRecDepth 100000 in
set_option maxHeartbeats 400000 in
theorem open_rdSlot {H : Type} {enc : TypeId × Value → H} {w : World} {base : Nat} {spare : Nat → Bool} {held : Bool} {r : Reach} {b0 : Nat} {v : Value} {d : DataW H} {ps : List MemPlace} (ht : Try.prog.underlying 53 = some (.slice 66))
    (hv : Value.okWide Try.prog w r b0 53 v) (h : DataW.Trod enc Try.prog w base spare held 53 v d ps) :
    ∃ (A : Option Addr) (n c : Nat) (zs : List (Int × Int)), v = .slice A n c ∧ zs.length = n ∧ n ≤ maxLen ∧ Rd w 2 A n (slots zs) := by
  obtain ⟨a0, len, cap, rfl⟩ := okWide_slice ht hv
  obtain ⟨fuel, hf⟩ := h
  have hel : ∀ (q : Nat) (r : List Value) (d : DataW H × List MemPlace), DataW.trod enc Try.prog w base spare held q 66 r = some d → ∃ x, r = slotC x := by
    intro q r d hd
    obtain ⟨c0, c1, y0, y1, q2, rfl, t0, t1⟩ := trod_row2 Try.underlying66 (by kernel_rfl) (by kernel_rfl) hd
    obtain ⟨z0, e0, _⟩ := DataW.trod_int Try.underlying3 t0
    obtain ⟨z1, e1, _⟩ := DataW.trod_int Try.underlying3 t1
    simp only [List.cons.injEq, and_true] at e0 e1
    exact ⟨(z0, z1), by rw [e0, e1]; rfl⟩
  obtain ⟨A, n, c, zs, hv', hn, hm, hr⟩ := rd_enc slotC ht (show Try.prog.cellsOf 66 = 2 by kernel_rfl) (by omega) hel (by simpa [Value.cells] using hf)
  exact ⟨A, n, c, zs, hv', hn, hm, hr⟩
end Go.Proofs.Ytdccgflkhgnflaa
