/-
  CONTRACTS of SlotsValid.
  Conditions: none beyond those that each states.
-/
import Derived.Test.YtdccgflkhgnflaaRSlot
namespace Go.Proofs.Ytdccgflkhgnflaa
open Go.ChangeShapes Go.WideShapes Go.ChangeAt Go.RowKit Go.Joins
set_option linter.unusedVariables false

def slotOk (parts : Int) (x : Int × Int) : Bool := inB x.2 1 20 && inB x.1 (-1) (parts - 1)
def slotsOk (parts : Int) (zs : List (Int × Int)) : Bool := inB parts 0 5 && (inB (zs.length : Int) 1 12 && zs.all (slotOk parts))
theorem l1In_is {n lo hi : Int} {b : Bool} (h : inB n lo hi = b) (w : World) : Calls Try.prog 30 #[.int .i64 n, .int .i64 lo, .int .i64 hi] w fun e w' => e = .returned (.bool b) ∧ w = w' := h ▸ l1In_any n lo hi w
theorem in_is {n lo hi : Int} {b : Bool} (h : inB n lo hi = b) (w : World) : Calls Try.prog 34 #[.int .i64 n, .int .i64 lo, .int .i64 hi] w fun e w' => e = .returned (.bool b) ∧ w = w' := h ▸ in_any n lo hi w
theorem all_snocB {α : Type} {zs : List α} {p : α → Bool} {k : Nat} {x : α} (hx : zs[k]? = some x) (hk : (zs.take k).all p = true) (hp : p x = true) : (zs.take (k + 1)).all p = true := by
  rw [take_snoc hx, List.all_append, hk]; simp [hp]
theorem all_missB {α : Type} {zs : List α} {p : α → Bool} {k : Nat} {x : α} (hx : zs[k]? = some x) (hp : p x = false) : zs.all p = false := by
  rw [List.all_eq_false]
  exact ⟨x, List.mem_of_getElem? hx, by simp [hp]⟩
set_option maxRecDepth 100000 in
set_option maxHeartbeats 2000000 in
theorem sSlotsValid_any (A : Option Addr) (n c : Nat) (zs : List (Int × Int)) (parts : Int) (w : World) (hm : n ≤ 1048577) (hr : Rd w 2 A n (slots zs)) :
    Calls Try.prog 29 #[.slice A n c, .int .i64 parts] w fun e w' => e = .returned (.bool (slotsOk parts zs)) ∧ Below w.heap.size w w' := by
  have hlz := Lib.hid hr.slotsLen
  cases hp : inB parts 0 5
  · have e1 : slotsOk parts zs = false := by unfold slotsOk; rw [hp]; rfl
    rw [e1]; clear e1
    go_enter Try.func29, Try.ntmps29
    go_wp2
    go_loopw [5] (fun i wr => ∃ (k : Nat), k ≤ n ∧ i = .int .i64 k ∧ Below w.heap.size w wr) (fun i _ => n - (intOf i).toNat)
    case atStart => exact ⟨0, Nat.zero_le _, rfl, Below.refl _ _⟩
    case round =>
      obtain ⟨k, hk, rfl, hb⟩ := hrel
      by_cases hlt : k < n
      · obtain ⟨b, o, p0, p1, rfl, hbl, hx, h0, h1⟩ := hr.slot hlt
        have j0 := (hb.cell (p := ⟨b, o + k * 2, none⟩) hbl).trans h0
        have j1 := (hb.cell (p := ⟨b, o + k * 2 + 1, none⟩) hbl).trans h1
        clear h0 h1 hx
        cases hv : inB p1 1 20
        · go_wp2_with fail
          refine (l1In_is hv _).mono ?_
          rintro e w1 ⟨rfl, rfl⟩
          go_wp2
          go_ret
          exact ⟨rfl, hb⟩
        · go_wp2_with fail
          refine (l1In_is hv _).mono ?_
          rintro e w1 ⟨rfl, rfl⟩
          go_wp2_with fail
          refine (l1In_any _ _ _ _).mono ?_
          rintro e w1 ⟨rfl, rfl⟩
          generalize inB p0 _ _ = bb
          cases bb
          · go_wp2
            go_ret
            exact ⟨rfl, hb⟩
          · go_wp2
            go_roundw
            case rel => exact ⟨k + 1, by omega, by go_num, hb⟩
            case measure => simp [intOf]; omega
      · have hkn : k = n := by omega
        cases hv : inB (n : Int) 1 12
        · go_wp2_with fail
          refine (l1In_is hv _).mono ?_
          rintro e w1 ⟨rfl, rfl⟩
          go_wp2
          go_ret
          exact ⟨rfl, hb⟩
        · go_wp2_with fail
          refine (l1In_is hv _).mono ?_
          rintro e w1 ⟨rfl, rfl⟩
          go_wp2_with fail
          refine (l1In_is hp _).mono ?_
          rintro e w1 ⟨rfl, rfl⟩
          go_wp2
          go_ret
          exact ⟨rfl, hb⟩
  · obtain ⟨hp0, hp1⟩ := inB_true.1 hp
    have HV : Hid (slotsOk parts zs = (inB (n : Int) 1 12 && zs.all (slotOk parts))) := by show _ = _; unfold slotsOk; rw [hp, hlz.out]; rfl
    go_enter Try.func29, Try.ntmps29
    go_wp2
    go_loopw [5] (fun i wr => ∃ (k : Nat), k ≤ n ∧ i = .int .i64 k ∧ Hid ((zs.take k).all (slotOk parts) = true) ∧ Below w.heap.size w wr) (fun i _ => n - (intOf i).toNat)
    case atStart => exact ⟨0, Nat.zero_le _, rfl, by show _ = true; simp, Below.refl _ _⟩
    case round =>
      obtain ⟨k, hk, rfl, HA, hb⟩ := hrel
      by_cases hlt : k < n
      · obtain ⟨b, o, p0, p1, rfl, hbl, hx, h0, h1⟩ := hr.slot hlt
        have j0 := (hb.cell (p := ⟨b, o + k * 2, none⟩) hbl).trans h0
        have j1 := (hb.cell (p := ⟨b, o + k * 2 + 1, none⟩) hbl).trans h1
        have HX := Lib.hid hx
        clear h0 h1 hx
        cases hv : inB p1 1 20
        · go_wp2_with fail
          refine (l1In_is hv _).mono ?_
          rintro e w1 ⟨rfl, rfl⟩
          go_wp2
          go_ret
          exact ⟨by rw [HV.out, all_missB HX.out (by unfold slotOk; rw [hv]; rfl)]; simp, hb⟩
        · cases hv2 : inB p0 (-1) (parts - 1)
          · go_wp2_with fail
            refine (l1In_is hv _).mono ?_
            rintro e w1 ⟨rfl, rfl⟩
            go_wp2_with fail
            refine (l1In_is hv2 _).mono ?_
            rintro e w1 ⟨rfl, rfl⟩
            go_wp2
            go_ret
            exact ⟨by rw [HV.out, all_missB HX.out (by unfold slotOk; rw [hv2]; simp)]; simp, hb⟩
          · go_wp2_with fail
            refine (l1In_is hv _).mono ?_
            rintro e w1 ⟨rfl, rfl⟩
            go_wp2_with fail
            refine (l1In_is hv2 _).mono ?_
            rintro e w1 ⟨rfl, rfl⟩
            go_wp2
            go_roundw
            case rel => exact ⟨k + 1, by omega, by go_num, all_snocB HX.out HA.out (by unfold slotOk; rw [hv, hv2]; rfl), hb⟩
            case measure => simp [intOf]; omega
      · have hkn : k = n := by omega
        have h9 := HA.out
        rw [hkn, ← hlz.out, List.take_length] at h9
        have H9 := Lib.hid h9
        clear h9
        cases hv : inB (n : Int) 1 12
        · go_wp2_with fail
          refine (l1In_is hv _).mono ?_
          rintro e w1 ⟨rfl, rfl⟩
          go_wp2
          go_ret
          exact ⟨by rw [HV.out, hv]; rfl, hb⟩
        · go_wp2_with fail
          refine (l1In_is hv _).mono ?_
          rintro e w1 ⟨rfl, rfl⟩
          go_wp2_with fail
          refine (l1In_is hp _).mono ?_
          rintro e w1 ⟨rfl, rfl⟩
          go_wp2
          go_ret
          exact ⟨by rw [HV.out, hv, H9.out]; rfl, hb⟩
set_option maxRecDepth 100000 in
set_option maxHeartbeats 1000000 in
theorem slotsValid1_any (a : Addr) (parts : Int) (w : World) (h0 : 0 ≤ parts) (h5 : parts ≤ 5) (hc : w.cell? a = some (.int .i64 parts)) : Pred Try.prog 44 #[.pointer (some a)] slotV (fun x => !slotOk parts x) w := by
  intro x W hb
  have ha : a.block < w.heap.size := World.block_lt_of_cell? w a hc
  obtain ⟨p0, p1⟩ := x
  have hcW : W.cell? a = some (.int .i64 parts) := (hb.cell ha).trans hc
  have hz := hb.size
  have hk := fun (o : Obj) => keepA hcW o
  show Calls Try.prog 44 #[.agg #[.int .i64 p0, .int .i64 p1], .pointer (some a)] W fun e W' => e = .returned (.bool (!slotOk parts (p0, p1))) ∧ Below W.heap.size W W'
  cases hv : inB p1 1 20
  · have e1 : (!slotOk parts (p0, p1)) = true := by unfold slotOk; rw [hv]; rfl
    rw [e1]; clear e1
    go_enter Try.func44, Try.ntmps44
    go_wp2_with fail
    refine (in_is hv _).mono ?_
    rintro e w1 ⟨rfl, rfl⟩
    go_wp2
    go_ret
    exact ⟨rfl, by go_grown⟩
  · cases hv2 : inB p0 (-1) (parts - 1)
    all_goals
      have e1 : (!slotOk parts (p0, p1)) = !inB p0 (-1) (parts - 1) := by unfold slotOk; rw [hv]; rfl
      rw [e1, hv2]; clear e1
      go_enter Try.func44, Try.ntmps44
      go_wp2_with fail
      refine (in_is hv _).mono ?_
      rintro e w1 ⟨rfl, rfl⟩
      go_wp2_with fail
      refine (in_is hv2 _).mono ?_
      rintro e w1 ⟨rfl, rfl⟩
      go_wp2
      go_ret
      exact ⟨rfl, by go_grown⟩
set_option maxRecDepth 100000 in
set_option maxHeartbeats 2000000 in
theorem iSlotsValid_any (A : Option Addr) (n c : Nat) (zs : List (Int × Int)) (parts : Int) (w : World) (hm : n ≤ 1048577) (hr : Rd w 2 A n (slots zs)) :
    Calls Try.prog 37 #[.slice A n c, .int .i64 parts] w fun e w' => e = .returned (.bool (slotsOk parts zs)) ∧ Below w.heap.size w w' := by
  have hlz := Lib.hid hr.slotsLen
  have HV : Hid (slotsOk parts zs = (inB parts 0 5 && (inB (n : Int) 1 12 && zs.all (slotOk parts)))) := by show _ = _; unfold slotsOk; rw [hlz.out]
  have HR := Lib.hid hr
  clear hr
  cases hp : inB parts 0 5
  · rw [show slotsOk parts zs = false by rw [HV.out, hp]; rfl]
    go_enter Try.func37, Try.ntmps37
    go_wp2_with fail
    refine (in_is hp _).mono ?_
    rintro e w1 ⟨rfl, rfl⟩
    go_wp2
    go_ret
    exact ⟨rfl, by go_grown⟩
  · obtain ⟨hp0, hp1⟩ := inB_true.1 hp
    cases hv : inB (n : Int) 1 12
    · rw [show slotsOk parts zs = false by rw [HV.out, hp, hv]; rfl]
      go_enter Try.func37, Try.ntmps37
      go_wp2_with fail
      refine (in_is hp _).mono ?_
      rintro e w1 ⟨rfl, rfl⟩
      go_wp2_with fail
      refine (in_is hv _).mono ?_
      rintro e w1 ⟨rfl, rfl⟩
      go_wp2
      go_ret
      exact ⟨rfl, by go_grown⟩
    · rw [show slotsOk parts zs = !(zs.any fun x => !slotOk parts x) by rw [HV.out, hp, hv, List.all_eq_not_any_not]; rfl]
      go_enter Try.func37, Try.ntmps37
      go_wp2_with fail
      refine (in_is hp _).mono ?_
      rintro e w1 ⟨rfl, rfl⟩
      go_wp2_with fail
      refine (in_is hv _).mono ?_
      rintro e w1 ⟨rfl, rfl⟩
      go_wp2_with fail
      refine (ContainsFuncSlot_any 44 _ (fun x => !slotOk parts x) A n c zs _ hm (HR.out.alloc _) (slotsValid1_any _ parts _ hp0 hp1 (by simp [go_sem])) (enters_of Try.func44 (by kernel_rfl) rfl)).mono ?_
      rintro e w1 ⟨rfl, hb1⟩
      have HB1 : Hid (Below w.heap.size w w1) := Below.andThen (by go_grown) hb1
      clear hb1
      go_wp2
      go_ret
      exact ⟨rfl, HB1.out⟩
end Go.Proofs.Ytdccgflkhgnflaa
