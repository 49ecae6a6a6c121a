/-
  ROWS of Order: how a list of them lies in memory, and the laws' helpers over them.
  Conditions: none beyond those that each states.
-/
import Derived.Test.YtpaknpjdamoibaaRows2
import Derived.Test.YtpaknpjdamoibaaRows3
import Derived.Deep.RegionHeld3
namespace Go.Proofs.Ytpaknpjdamoibaa
open Go.ChangeShapes Go.WideShapes Go.ChangeAt Go.RowKit Go.Joins
set_option linter.unusedVariables false

def ordC (x : Int × Int × Int) : List Value := [.int .i64 x.1, .int .i64 x.2.1, .int .i64 x.2.2]
theorem ordC_len (x : Int × Int × Int) : (ordC x).length = 3 := rfl
def ords (zs : List (Int × Int × Int)) : List Value := zs.flatMap ordC
theorem ords_len (zs : List (Int × Int × Int)) : (ords zs).length = zs.length * 3 := rows_len ordC_len zs
section
variable {w : World} {A : Option Addr} {n k : Nat} {zs : List (Int × Int × Int)}
theorem Rd.ordsLen (h : Rd w 3 A n (ords zs)) : zs.length = n := Rd.rowsLen (f := ordC) h ordC_len (by omega)
theorem Rd.ord (h : Rd w 3 A n (ords zs)) (hk : k < n) : ∃ b o p0 p1 p2, A = some ⟨b, o, none⟩ ∧ b < w.heap.size ∧ zs[k]? = some (p0, p1, p2) ∧ w.cell? ⟨b, o + k * 3, none⟩ = some (.int .i64 p0) ∧ w.cell? ⟨b, o + k * 3 + 1, none⟩ = some (.int .i64 p1) ∧ w.cell? ⟨b, o + k * 3 + 2, none⟩ = some (.int .i64 p2) := by
  obtain ⟨b, o, x, hA, hb, hx, hc⟩ := Rd.row (f := ordC) h ordC_len (by omega) hk
  obtain ⟨p0, p1, p2⟩ := x
  refine ⟨b, o, p0, p1, p2, hA, hb, hx, ?_, ?_, ?_⟩
  · have := hc 0 _ rfl; simpa using this
  · have := hc 1 _ rfl; rwa [← Nat.add_assoc] at this
  · have := hc 2 _ rfl; rwa [← Nat.add_assoc] at this
end
theorem Try.infoOrder : (Try.prog.info? 35).map (fun i => (i.zero, i.size, i.bytes)) = some (some (.agg #[.int .i64 0, .int .i64 0, .int .i64 0]), 3, 24) := by kernel_rfl

set_option maxRecDepth 100000 in
set_option maxHeartbeats 400000 in
theorem toOrder_any (p0 : Int) (p1 : Int) (p2 : Int) (w : World) : Calls Try.prog 14 #[.agg #[.int .i64 p0, .int .i64 p1, .int .i64 p2]] w fun e w' => e = .returned (.agg #[.int .i64 p0, .int .i64 p1, .int .i64 p2]) ∧ Below w.heap.size w w' := by
  go_enter Try.func14, Try.ntmps14
  go_wp2
  go_returns
  exact ⟨rfl, by go_grown⟩
set_option maxRecDepth 100000 in
set_option maxHeartbeats 1000000 in
theorem toOrderS_any (A : Option Addr) (n c : Nat) (zs : List (Int × Int × Int)) (w : World) (hm : n ≤ 1048576) (hr : Rd w 3 A n (ords zs)) :
    Calls Try.prog 6 #[.slice A n c] w fun e w' => e = .returned (.slice (some ⟨w.heap.size, 0, none⟩) n n) ∧
      w'.ownsRow w.heap.size 35 3 (.slice (some ⟨w.heap.size, 0, none⟩) n n) n (ords zs) ∧ Below w.heap.size w w' := by
  obtain ⟨i0, hi, hz0, hz1, hz2⟩ := info_parts Try.infoOrder
  have hlz := Lib.hid hr.ordsLen
  go_enter Try.func6, Try.ntmps6
  go_wp2_with (at_make; refine wpList_make_full _ rfl _ _ 26 rfl w.heap.size 35 i0 (.agg #[.int .i64 0, .int .i64 0, .int .i64 0]) 3 Try.underlying26 hi hz0 hz1 _ _ _ _ n rfl rfl rfl rfl ?b2 ?b3 (Nat.le_refl _) ?_)
  case b2 => rw [hz2]; omega
  case b3 => unfold maxLen; omega
  intro w0 hown0 hgrow0
  have hown1 : w0.ownsRow w.heap.size 35 3 (.slice (some ⟨w.heap.size, 0, none⟩) n n) n (ords (List.replicate n (0, 0, 0))) := by
    have e : (madeCells (Value.cells (.agg #[.int .i64 0, .int .i64 0, .int .i64 0])) (n * 3)).toList = ords (List.replicate n (0, 0, 0)) := made_rows (f := ordC) ordC_len (by omega) (0, 0, 0) (Value.cells (.agg #[.int .i64 0, .int .i64 0, .int .i64 0])) rfl n
    rw [← e]; exact hown0
  clear hown0
  have hb0 : Below w.heap.size w w0 := (Below.refl _ _).grown hgrow0 (Nat.le_refl _) (fun k h => by cases h)
  clear hgrow0
  go_wp2
  go_loopw [4] (fun i wr => ∃ (k : Nat) (ys : List (Int × Int × Int)), k ≤ n ∧ i = .int .i64 k ∧ Hid (ys.length = n) ∧ Hid (ys.take k = zs.take k) ∧ wr.ownsRow w.heap.size 35 3 (.slice (some ⟨w.heap.size, 0, none⟩) n n) n (ords ys) ∧ Below w.heap.size w wr)
    (fun i _ => n - (intOf i).toNat)
  case atStart => exact ⟨0, _, Nat.zero_le _, rfl, by show _ = n; simp, by show _ = _; simp, hown1, hb0⟩
  case round =>
    obtain ⟨k, ys, hk, rfl, HY, HT, hown, hb⟩ := hrel
    by_cases hlt : k < n
    · obtain ⟨b, o, p0, p1, p2, rfl, hbl, hx, h0, h1, h2⟩ := hr.ord hlt
      have HX := Lib.hid hx
      have j0 := (hb.cell (p := ⟨b, o + k * 3, none⟩) hbl).trans h0
      have j1 := (hb.cell (p := ⟨b, o + k * 3 + 1, none⟩) hbl).trans h1
      have j2 := (hb.cell (p := ⟨b, o + k * 3 + 2, none⟩) hbl).trans h2
      clear hx h0 h1 h2 hown1 hb0
      have HYL : Hid ((ords ys).length = n * 3) := by show _ = _; rw [ords_len, HY.out]
      have hs := hb.size
      go_wp2_with fail
      refine (toOrder_any p0 p1 p2 _).mono ?_
      rintro e w1 ⟨rfl, hbc⟩
      have ho1 := own_below hbc (Nat.le_refl _) hown
      have hb1 := Below.andThen hb hbc
      have hs1 := hb1.size
      clear hown hbc j0 j1 j2
      have t0 : ∃ u, w1.cell? ⟨w.heap.size, k * 3, none⟩ = some u := ⟨_, (ho1.cellAt (k * 3) (by omega)).trans (List.getElem?_eq_getElem (by rw [HYL.out]; omega))⟩
      obtain ⟨u0, t0⟩ := t0
      have g0 := ho1.frozenAt (k * 3)
      have t1 : ∃ u, w1.cell? ⟨w.heap.size, k * 3 + 1, none⟩ = some u := ⟨_, (ho1.cellAt (k * 3 + 1) (by omega)).trans (List.getElem?_eq_getElem (by rw [HYL.out]; omega))⟩
      obtain ⟨u1, t1⟩ := t1
      have g1 := ho1.frozenAt (k * 3 + 1)
      have t2 : ∃ u, w1.cell? ⟨w.heap.size, k * 3 + 2, none⟩ = some u := ⟨_, (ho1.cellAt (k * 3 + 2) (by omega)).trans (List.getElem?_eq_getElem (by rw [HYL.out]; omega))⟩
      obtain ⟨u2, t2⟩ := t2
      have g2 := ho1.frozenAt (k * 3 + 2)
      go_wp2
      go_roundw
      case rel =>
        refine ⟨k + 1, ys.set k (p0, p1, p2), by omega, by go_num, by show _ = n; rw [List.length_set]; exact HY.out, by show _ = _; exact set_take HX.out (by rw [HY.out]; exact hlt) HT.out, ?_, ?_⟩
        · have h9 := (((ho1.stored (k * 3) (.int .i64 p0)).1.stored (k * 3 + 1) (.int .i64 p1)).1.stored (k * 3 + 2) (.int .i64 p2)).1
          rw [show ords (ys.set k (p0, p1, p2)) = _ from (put_row (f := ordC) ordC_len (by omega) ys k (p0, p1, p2) (by rw [HY.out]; exact hlt)).symm]
          exact h9
        · exact (((hb1.setCell (Nat.le_refl _) _).setCell (Nat.le_refl _) _).setCell (Nat.le_refl _) _)
      case measure => simp [intOf]; omega
    · have hkn : k = n := by omega
      have e : ys = zs := take_all HY.out hlz.out (by rw [← hkn]; exact HT.out)
      subst e
      go_wp2
      go_ret
      exact ⟨rfl, hown, hb⟩
set_option maxRecDepth 100000 in
set_option maxHeartbeats 400000 in
theorem eqOrder_same (p0 : Int) (p1 : Int) (p2 : Int) (w : World) : Calls Try.prog 19 #[.agg #[.int .i64 p0, .int .i64 p1, .int .i64 p2], .agg #[.int .i64 p0, .int .i64 p1, .int .i64 p2]] w fun e w' => e = .returned (.bool true) ∧ Below w.heap.size w w' := by
  go_enter Try.func19, Try.ntmps19
  go_wp2
  go_ret
  exact ⟨rfl, by go_grown⟩
set_option maxRecDepth 100000 in
set_option maxHeartbeats 2000000 in
theorem eqOrderS_same (A B : Option Addr) (n c d : Nat) (zs : List (Int × Int × Int)) (w : World) (hn : n ≤ 1048577) (hrx : Rd w 3 A n (ords zs)) (hry : Rd w 3 B n (ords zs)) :
    Calls Try.prog 9 #[.slice A n c, .slice B n d] w fun e w' => e = .returned (.bool true) ∧ Below w.heap.size w w' := by
  go_enter Try.func9, Try.ntmps9
  go_wp2
  go_loopw [5] (fun i wr => ∃ (k : Nat), k ≤ n ∧ i = .int .i64 k ∧ Below w.heap.size w wr) (fun i _ => n - (intOf i).toNat)
  case atStart => exact ⟨0, Nat.zero_le _, rfl, Below.refl _ _⟩
  case round =>
    obtain ⟨k, hk, rfl, hb⟩ := hrel
    by_cases hlt : k < n
    · obtain ⟨b, o, p0, p1, p2, rfl, hbl, hx, h0, h1, h2⟩ := hrx.ord hlt
      obtain ⟨b', o', q0, q1, q2, rfl, hbl', hy, h'0, h'1, h'2⟩ := hry.ord hlt
      have HX := Lib.hid hx
      have HY := Lib.hid hy
      clear hx hy
      obtain ⟨rfl, rfl, rfl⟩ : p0 = q0 ∧ p1 = q1 ∧ p2 = q2 := by simpa using HX.out.symm.trans HY.out
      have a0 := (hb.cell (p := ⟨b, o + k * 3, none⟩) hbl).trans h0
      have a1 := (hb.cell (p := ⟨b, o + k * 3 + 1, none⟩) hbl).trans h1
      have a2 := (hb.cell (p := ⟨b, o + k * 3 + 2, none⟩) hbl).trans h2
      have c0 := (hb.cell (p := ⟨b', o' + k * 3, none⟩) hbl').trans h'0
      have c1 := (hb.cell (p := ⟨b', o' + k * 3 + 1, none⟩) hbl').trans h'1
      have c2 := (hb.cell (p := ⟨b', o' + k * 3 + 2, none⟩) hbl').trans h'2
      have hs := hb.size
      have hk0 : (0 : Int) ≤ (k : Int) := by omega
      have hk1 : (k : Int) < (n : Int) := by omega
      have H0 := Lib.hid h0
      have H1 := Lib.hid h1
      have H2 := Lib.hid h2
      have H'0 := Lib.hid h'0
      have H'1 := Lib.hid h'1
      have H'2 := Lib.hid h'2
      clear h0 h'0 h1 h'1 h2 h'2
      go_wp2
      go_region_held3 (fun w' => w'.cell? ⟨b, o + k * 3, none⟩ = some (.int .i64 p0) ∧ w'.cell? ⟨b, o + k * 3 + 1, none⟩ = some (.int .i64 p1) ∧ w'.cell? ⟨b, o + k * 3 + 2, none⟩ = some (.int .i64 p2) ∧ w'.cell? ⟨b', o' + k * 3, none⟩ = some (.int .i64 p0) ∧ w'.cell? ⟨b', o' + k * 3 + 1, none⟩ = some (.int .i64 p1) ∧ w'.cell? ⟨b', o' + k * 3 + 2, none⟩ = some (.int .i64 p2)) (refine ⟨?_, ?_, ?_, ?_, ?_, ?_⟩ <;> (first | exact A0 | exact A1 | exact A2 | exact C0 | exact C1 | exact C2 | exact a0 | exact a1 | exact a2 | exact c0 | exact c1 | exact c2)) ((go_at_call 19; refine (eqOrder_same p0 p1 p2 _).mono ?_; rintro e w1 ⟨rfl, hb1⟩; have HB1 : Hid (Below w.heap.size w w1) := Below.andThen hb (Below.andThen (w := wr) (by go_grown) hb1); have A0 := (HB1.out.cell (p := ⟨b, o + k * 3, none⟩) hbl).trans H0.out; have A1 := (HB1.out.cell (p := ⟨b, o + k * 3 + 1, none⟩) hbl).trans H1.out; have A2 := (HB1.out.cell (p := ⟨b, o + k * 3 + 2, none⟩) hbl).trans H2.out; have C0 := (HB1.out.cell (p := ⟨b', o' + k * 3, none⟩) hbl').trans H'0.out; have C1 := (HB1.out.cell (p := ⟨b', o' + k * 3 + 1, none⟩) hbl').trans H'1.out; have C2 := (HB1.out.cell (p := ⟨b', o' + k * 3 + 2, none⟩) hbl').trans H'2.out))
      go_wp2
      go_roundw
      case rel => exact ⟨k + 1, by omega, by go_num, HB1.out⟩
      case measure => simp [intOf]; omega
    · have hkn : k = n := by omega
      go_wp2
      go_ret
      exact ⟨rfl, hb⟩
set_option maxRecDepth 100000 in
set_option maxHeartbeats 400000 in
theorem szOrderS_any (A : Option Addr) (n c : Nat) (left : Int) (w : World) (hn : n ≤ 9223372036854775807) (h0 : 0 ≤ left) (h1 : left ≤ 1048576) :
    Calls Try.prog 4 #[.slice A n c, .int .i64 left] w fun e w' => e = .returned (.int .i64 (if (n : Int) ≤ left then left - n else -1)) ∧ Below w.heap.size w w' := by
  by_cases h : (n : Int) ≤ left
  · rw [if_pos h]
    have h2 : ¬ left - (n : Int) < 0 := by omega
    go_enter Try.func4, Try.ntmps4
    go_wp2
    go_ret
    exact ⟨rfl, Below.refl _ _⟩
  · rw [if_neg h]
    have h2 : left - (n : Int) < 0 := by omega
    go_enter Try.func4, Try.ntmps4
    go_wp2
    go_ret
    exact ⟨rfl, Below.refl _ _⟩
def ordV (x : Int × Int × Int) : Value := .agg (ordC x).toArray
set_option maxRecDepth 100000 in
set_option maxHeartbeats 1000000 in
theorem IndexFuncOrder_any (g : FuncId) (lb : Array Value) (p : Int × Int × Int → Bool) (A : Option Addr) (n c : Nat) (zs : List (Int × Int × Int)) (w : World) (hm : n ≤ 1048577) (hr : Rd w 3 A n (ords zs)) (hp : Pred Try.prog g lb ordV p w)
    (eg : ∀ args w, (callFunc g args).run Try.prog w = .ok (.enter g args) w) :
    Calls Try.prog 27 #[.slice A n c, .func (.func g) #[] lb] w fun e w' => e = .returned (.int .i64 (idxP p zs)) ∧ Below w.heap.size w w' := by
  have hlz := Lib.hid hr.ordsLen
  have HP := Lib.hid hp
  clear hp
  go_enter Try.func27, Try.ntmps27
  go_wp2
  go_loopw [5, 8] (fun j i wr => ∃ (k : Nat), k ≤ n ∧ i = .int .i64 k ∧ Hid (∀ y ∈ zs.take k, p y = false) ∧ Below w.heap.size w wr) (fun _ i _ => n - (intOf i).toNat)
  case atStart => exact ⟨0, Nat.zero_le _, rfl, by show ∀ y ∈ zs.take 0, p y = false; simp, Below.refl _ _⟩
  case round =>
    obtain ⟨k, hk, rfl, HT, hb⟩ := hrel
    by_cases hlt : k < n
    · obtain ⟨b, o, p0, p1, p2, rfl, hbl, hx, h0, h1, h2⟩ := hr.ord hlt
      have HX := Lib.hid hx
      have j0 := (hb.cell (p := ⟨b, o + k * 3, none⟩) hbl).trans h0
      have j1 := (hb.cell (p := ⟨b, o + k * 3 + 1, none⟩) hbl).trans h1
      have j2 := (hb.cell (p := ⟨b, o + k * 3 + 2, none⟩) hbl).trans h2
      clear hx h0 h1 h2
      cases hv : p (p0, p1, p2)
      · have hv' := Lib.hid hv
        clear hv
        go_wp2_with (go_at_fn g; refine (HP.out (p0, p1, p2) _ hb).mono ?_; rw [hv'.out]; rintro e w1 ⟨rfl, hb1⟩)
        go_roundw
        case rel => exact ⟨k + 1, by omega, by go_num, miss_snoc HX.out HT.out hv'.out, Below.andThen hb hb1⟩
        case measure => simp [intOf]; omega
      · have hv' := Lib.hid hv
        clear hv
        go_wp2_with (go_at_fn g; refine (HP.out (p0, p1, p2) _ hb).mono ?_; rw [hv'.out]; rintro e w1 ⟨rfl, hb1⟩)
        go_ret
        exact ⟨ret_int (idxP_hit HX.out HT.out hv'.out).symm, Below.andThen hb hb1⟩
    · have hkn : k = n := by omega
      go_wp2
      go_ret
      refine ⟨ret_int (idxP_miss ?_).symm, hb⟩
      have := HT.out
      rw [hkn, ← hlz.out, List.take_length] at this
      exact this
set_option maxRecDepth 100000 in
set_option maxHeartbeats 400000 in
theorem ContainsFuncOrder_any (g : FuncId) (lb : Array Value) (p : Int × Int × Int → Bool) (A : Option Addr) (n c : Nat) (zs : List (Int × Int × Int)) (w : World) (hm : n ≤ 1048577) (hr : Rd w 3 A n (ords zs)) (hp : Pred Try.prog g lb ordV p w)
    (eg : ∀ args w, (callFunc g args).run Try.prog w = .ok (.enter g args) w) :
    Calls Try.prog 22 #[.slice A n c, .func (.func g) #[] lb] w fun e w' => e = .returned (.bool (zs.any p)) ∧ Below w.heap.size w w' := by
  have HP := Lib.hid hp
  clear hp
  rw [← idxP_any]
  have HI := Lib.hid (IndexFuncOrder_any g lb p A n c zs w hm hr HP.out eg)
  clear eg hr
  go_enter Try.func22, Try.ntmps22
  go_wp2_with (go_at_call 27; refine HI.out.mono ?_; rintro e w1 ⟨rfl, hb1⟩)
  go_ret
  exact ⟨rfl, hb1⟩
set_option maxRecDepth 100000 in
set_option maxHeartbeats 400000 in
theorem open_rdOrder {H : Type} {enc : TypeId × Value → H} {w : World} {base : Nat} {spare : Nat → Bool} {held : Bool} {r : Reach} {b0 : Nat} {v : Value} {d : DataW H} {ps : List MemPlace} (ht : Try.prog.underlying 22 = some (.slice 37))
    (hv : Value.okWide Try.prog w r b0 22 v) (h : DataW.Trod enc Try.prog w base spare held 22 v d ps) :
    ∃ (A : Option Addr) (n c : Nat) (zs : List (Int × Int × Int)), v = .slice A n c ∧ zs.length = n ∧ n ≤ maxLen ∧ Rd w 3 A n (ords zs) := by
  obtain ⟨a0, len, cap, rfl⟩ := okWide_slice ht hv
  obtain ⟨fuel, hf⟩ := h
  have hel : ∀ (q : Nat) (r : List Value) (d : DataW H × List MemPlace), DataW.trod enc Try.prog w base spare held q 37 r = some d → ∃ x, r = ordC x := by
    intro q r d hd
    obtain ⟨c0, c1, c2, y0, y1, y2, q2, rfl, t0, t1, t2⟩ := trod_row3 Try.underlying37 (by kernel_rfl) (by kernel_rfl) hd
    obtain ⟨z0, e0, _⟩ := DataW.trod_int Try.underlying3 t0
    obtain ⟨z1, e1, _⟩ := DataW.trod_int Try.underlying3 t1
    obtain ⟨z2, e2, _⟩ := DataW.trod_int Try.underlying3 t2
    simp only [List.cons.injEq, and_true] at e0 e1 e2
    exact ⟨(z0, z1, z2), by rw [e0, e1, e2]; rfl⟩
  obtain ⟨A, n, c, zs, hv', hn, hm, hr⟩ := rd_enc ordC ht (show Try.prog.cellsOf 37 = 3 by kernel_rfl) (by omega) hel (by simpa [Value.cells] using hf)
  exact ⟨A, n, c, zs, hv', hn, hm, hr⟩
end Go.Proofs.Ytpaknpjdamoibaa
