/-
  CONTRACTS of CoreValid.
  Conditions: none beyond those that each states.
-/
import Derived.Test.YtlfegalmiloihaaOrdV
import Derived.Test.YtlfegalmiloihaaSCore
namespace Go.Proofs.Ytlfegalmiloihaa
open Go.ChangeShapes Go.WideShapes Go.ChangeAt Go.RowKit Go.Joins
set_option linter.unusedVariables false

def coreOk (zs : List Int) (pc : Int) (os : List Ord3) (cells : Int) : Bool := progOk os cells && (((zs.length : Int) == cells) && (inB pc 0 ((os.length : Int) - 1) && zs.all (fun z => inB z 0 255)))
set_option maxRecDepth 100000 in
set_option maxHeartbeats 4000000 in
theorem sCoreValid_any (A : Option Addr) (n c : Nat) (zs : List Int) (pc : Int) (st : Bool) (B : Option Addr) (m d : Nat) (os : List Ord3) (cells : Int) (w : World) (hm : n ≤ 1048577) (hm2 : m ≤ 1048577) (hr : Rd w 1 A n (ints zs)) (hs : Rd w 3 B m (ords os)) :
    Calls Try.prog 18 #[.agg #[.slice A n c, .int .i64 pc, .bool st], .slice B m d, .int .i64 cells] w fun e w' => e = .returned (.bool (coreOk zs pc os cells)) ∧ Below w.heap.size w w' := by
  have hlz := Lib.hid hr.len
  have hlo := Lib.hid hs.ordsLen
  have HV : Hid (coreOk zs pc os cells = (progOk os cells && (((n : Int) == cells) && (inB pc 0 ((m : Int) - 1) && zs.all (fun z => inB z 0 255))))) := by show _ = _; unfold coreOk; rw [hlz.out, hlo.out]
  have HS := Lib.hid hs
  have HR := Lib.hid hr
  clear hs hr
  go_enter Try.func18, Try.ntmps18
  go_wp2
  go_loopw [7] (fun i wr => ∃ (k : Nat), k ≤ n ∧ i = .int .i64 k ∧ Hid ((zs.take k).all (fun z => inB z 0 255) = true) ∧ Hid (Blk wr w.heap.size 43 #[.slice A n c, .int .i64 pc, .bool st]) ∧ Below w.heap.size w wr) (fun i _ => n - (intOf i).toNat)
  case atStart => exact ⟨0, Nat.zero_le _, rfl, by show _ = true; simp, Blk.at_ _ _ _ rfl, by go_grown⟩
  case round =>
    obtain ⟨k, hk, rfl, HA, HQ, hb⟩ := hrel
    have k0 : wr.cell? ⟨w.heap.size, 0, none⟩ = some (.slice A n c) := HQ.out.cell 0 rfl
    have k1 : wr.cell? ⟨w.heap.size, 1, none⟩ = some (.int .i64 pc) := HQ.out.cell 1 rfl
    have k2 : wr.cell? ⟨w.heap.size, 2, none⟩ = some (.bool st) := HQ.out.cell 2 rfl
    have l0 := HQ.out.lt
    by_cases hlt : k < n
    · obtain ⟨b, o, x, rfl, hbl, hx, hc⟩ := HR.out.int_ hlt
      have hc1 := (hb.cell (p := ⟨b, o + k, none⟩) hbl).trans hc
      have HX := Lib.hid hx
      clear hx hc
      cases hv : inB x 0 255
      · go_wp2_with fail
        refine (l1In_is hv _).mono ?_
        rintro e _ ⟨rfl, rfl⟩
        go_wp2
        go_ret
        exact ⟨by rw [HV.out, all_missB (p := fun z => inB z 0 255) HX.out hv]; simp, hb⟩
      · have HVV := Lib.hid hv
        go_wp2_with fail
        refine (l1In_is hv _).mono ?_
        rintro e _ ⟨rfl, rfl⟩
        go_wp2
        go_roundw
        case rel => exact ⟨k + 1, by omega, by go_num, all_snocB (p := fun z => inB z 0 255) HX.out HA.out HVV.out, HQ, hb⟩
        case measure => simp [intOf]; omega
    · have hkn : k = n := by omega
      have h9 := HA.out
      rw [hkn, ← hlz.out, List.take_length] at h9
      have H9 := Lib.hid h9
      have HB := Lib.hid hb
      clear h9 hb
      cases hp : progOk os cells
      · go_wp2_with fail
        refine (sProgramValid_is hp _ (by omega) (HS.out.below (Nat.le_refl _) HB.out)).mono ?_
        rintro e w1 ⟨rfl, hb1⟩
        have HB1 := Lib.hid (Below.andThen HB.out hb1)
        clear hb1
        go_wp2
        go_ret
        exact ⟨by rw [HV.out, hp]; rfl, HB1.out⟩
      · have hm20 : m ≤ 20 ∧ 1 ≤ m := by
          unfold progOk at hp
          rw [Bool.and_eq_true] at hp
          have := inB_true.1 hp.1
          have := hlo.out
          omega
        go_wp2_with fail
        refine (sProgramValid_is hp _ (by omega) (HS.out.below (Nat.le_refl _) HB.out)).mono ?_
        rintro e w1 ⟨rfl, hb1⟩
        have HB1 := Lib.hid (Below.andThen HB.out hb1)
        have HQ1 := Lib.hid (HQ.out.below (Nat.le_refl _) hb1)
        clear hb1 k0 k1 k2 l0
        have k0 : w1.cell? ⟨w.heap.size, 0, none⟩ = some (.slice A n c) := HQ1.out.cell 0 rfl
        have k1 : w1.cell? ⟨w.heap.size, 1, none⟩ = some (.int .i64 pc) := HQ1.out.cell 1 rfl
        have k2 : w1.cell? ⟨w.heap.size, 2, none⟩ = some (.bool st) := HQ1.out.cell 2 rfl
        have l0 := HQ1.out.lt
        cases hq : ((n : Int) == cells)
        · go_wp2
          go_ret
          exact ⟨by rw [HV.out, hq]; simp, HB1.out⟩
        · go_wp2_with fail
          refine (l1In_any _ _ _ _).mono ?_
          rintro e _ ⟨rfl, rfl⟩
          go_wp2
          go_ret
          exact ⟨by rw [HV.out, hp, hq, H9.out]; simp, HB1.out⟩
set_option maxRecDepth 100000 in
set_option maxHeartbeats 1000000 in
theorem fits1_any (w : World) : Pred Try.prog 39 #[] (Value.int .i64) (fun z => !inB z 0 255) w := by
  intro x W hb
  show Calls Try.prog 39 #[.int .i64 x] W fun e W' => e = .returned (.bool (!inB x 0 255)) ∧ Below W.heap.size W W'
  have hv : ∀ w0, Calls Try.prog 40 #[.int .i64 x] w0 fun e w' => e = .returned (.bool (inB x 0 255)) ∧ w0 = w' := by
    intro w0
    go_enter Try.func40, Try.ntmps40
    go_wp2_with fail
    refine (in_any _ _ _ _).mono ?_
    rintro e _ ⟨rfl, rfl⟩
    go_wp2
    go_ret
    exact ⟨rfl, rfl⟩
  have HV := Lib.hid hv
  clear hv
  go_enter Try.func39, Try.ntmps39
  go_wp2_with fail
  refine (HV.out _).mono ?_
  rintro e _ ⟨rfl, rfl⟩
  go_wp2
  go_ret
  exact ⟨rfl, Below.refl _ _⟩
set_option maxRecDepth 100000 in
set_option maxHeartbeats 4000000 in
theorem fits_any (A : Option Addr) (n c : Nat) (zs : List Int) (pc : Int) (st : Bool) (B : Option Addr) (m d : Nat) (cells : Int) (w : World) (hm : n ≤ 1048577) (hm2 : m ≤ 20) (hm3 : 1 ≤ m) (hr : Rd w 1 A n (ints zs)) :
    Calls Try.prog 35 #[.agg #[.slice A n c, .int .i64 pc, .bool st], .slice B m d, .int .i64 cells] w fun e w' => e = .returned (.bool (((n : Int) == cells) && (inB pc 0 ((m : Int) - 1) && zs.all (fun z => inB z 0 255)))) ∧ Below w.heap.size w w' := by
  have HR := Lib.hid hr
  clear hr
  cases hq : ((n : Int) == cells)
  · go_enter Try.func35, Try.ntmps35
    go_wp2
    go_ret
    exact ⟨rfl, by go_grown⟩
  · cases hv : inB pc 0 ((m : Int) - 1)
    · go_enter Try.func35, Try.ntmps35
      go_wp2_with fail
      refine (in_is hv _).mono ?_
      rintro e _ ⟨rfl, rfl⟩
      go_wp2
      go_ret
      exact ⟨rfl, by go_grown⟩
    · rw [List.all_eq_not_any_not]
      go_enter Try.func35, Try.ntmps35
      go_wp2_with fail
      refine (in_is hv _).mono ?_
      rintro e _ ⟨rfl, rfl⟩
      go_wp2_with fail
      refine (ContainsFuncI_any 39 #[] (fun z => !inB z 0 255) A n c zs _ hm (HR.out.alloc _) (fits1_any _) (enters_of Try.func39 (by kernel_rfl) rfl)).mono ?_
      rintro e w1 ⟨rfl, hb1⟩
      have HB1 : Hid (Below w.heap.size w w1) := Below.andThen (by go_grown) hb1
      clear hb1
      go_wp2
      go_ret
      exact ⟨rfl, HB1.out⟩
set_option maxRecDepth 100000 in
set_option maxHeartbeats 4000000 in
theorem iCoreValid_any (A : Option Addr) (n c : Nat) (zs : List Int) (pc : Int) (st : Bool) (B : Option Addr) (m d : Nat) (os : List Ord3) (cells : Int) (w : World) (hm : n ≤ 1048577) (hm2 : m ≤ 1048577) (hr : Rd w 1 A n (ints zs)) (hs : Rd w 3 B m (ords os)) :
    Calls Try.prog 20 #[.agg #[.slice A n c, .int .i64 pc, .bool st], .slice B m d, .int .i64 cells] w fun e w' => e = .returned (.bool (coreOk zs pc os cells)) ∧ Below w.heap.size w w' := by
  have hlz := Lib.hid hr.len
  have hlo := Lib.hid hs.ordsLen
  have HV : Hid (coreOk zs pc os cells = (progOk os cells && (((n : Int) == cells) && (inB pc 0 ((m : Int) - 1) && zs.all (fun z => inB z 0 255))))) := by show _ = _; unfold coreOk; rw [hlz.out, hlo.out]
  have HS := Lib.hid hs
  have HR := Lib.hid hr
  clear hs hr
  cases hp : progOk os cells
  · rw [show coreOk zs pc os cells = false by rw [HV.out, hp]; rfl]
    go_enter Try.func20, Try.ntmps20
    go_wp2_with fail
    refine (iProgramValid_is hp _ (by omega) (HS.out.alloc _)).mono ?_
    rintro e w1 ⟨rfl, hb1⟩
    have HB1 : Hid (Below w.heap.size w w1) := Below.andThen (by go_grown) hb1
    clear hb1
    go_wp2
    go_ret
    exact ⟨rfl, HB1.out⟩
  · have hm20 : m ≤ 20 ∧ 1 ≤ m := by
      unfold progOk at hp
      rw [Bool.and_eq_true] at hp
      have := inB_true.1 hp.1
      have := hlo.out
      omega
    obtain ⟨V, hV⟩ : ∃ V, V = (((n : Int) == cells) && (inB pc 0 ((m : Int) - 1) && zs.all (fun z => inB z 0 255))) := ⟨_, rfl⟩
    rw [show coreOk zs pc os cells = V by rw [HV.out, hp, hV]; rfl]
    have HVV := Lib.hid hV
    clear hV
    go_enter Try.func20, Try.ntmps20
    go_wp2_with fail
    refine (iProgramValid_is hp _ (by omega) (HS.out.alloc _)).mono ?_
    rintro e w1 ⟨rfl, hb1⟩
    have HB1 : Hid (Below w.heap.size w w1) := Below.andThen (by go_grown) hb1
    have HQ1 : Hid (Blk w1 w.heap.size 43 #[.slice A n c, .int .i64 pc, .bool st]) := Blk.below (w' := w1) (Blk.at_ _ _ _ rfl) (Nat.le_refl _) hb1
    clear hb1
    have k0 : w1.cell? ⟨w.heap.size, 0, none⟩ = some (.slice A n c) := HQ1.out.cell 0 rfl
    have k1 : w1.cell? ⟨w.heap.size, 1, none⟩ = some (.int .i64 pc) := HQ1.out.cell 1 rfl
    have k2 : w1.cell? ⟨w.heap.size, 2, none⟩ = some (.bool st) := HQ1.out.cell 2 rfl
    have l0 := HQ1.out.lt
    go_wp2_with fail
    refine (fits_any A n c zs pc st B m d cells _ hm hm20.1 hm20.2 (HR.out.below (Nat.le_refl _) HB1.out)).mono ?_
    rw [← HVV.out]
    rintro e w2 ⟨rfl, hb2⟩
    have HB2 := Lib.hid (Below.andThen HB1.out hb2)
    clear hb2
    go_wp2
    go_ret
    exact ⟨rfl, HB2.out⟩
end Go.Proofs.Ytlfegalmiloihaa
