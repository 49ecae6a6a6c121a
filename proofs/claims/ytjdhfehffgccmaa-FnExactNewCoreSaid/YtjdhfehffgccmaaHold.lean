/-
  CONTRACTS of sized and HoldValid.
  Conditions: none beyond those that each states.
-/
import Derived.Test.YtjdhfehffgccmaaSHold
import Derived.Test.YtjdhfehffgccmaaAgg1
import Derived.Test.YtjdhfehffgccmaaKeep
namespace Go.Proofs.Ytjdhfehffgccmaa
open Go.ChangeShapes Go.WideShapes Go.ChangeAt Go.RowKit Go.Joins
set_option linter.unusedVariables false

def sizedB (kind size : Int) : Bool := inB kind 1 3 && (inB size 1 4 && (decide (¬ kind = 1) || decide (size = 1)))
def holdOk (zs : List Int) (kind size : Int) : Bool := sizedB kind size && (decide ((zs.length : Int) ≤ size) && zs.all (fun x => inB x 0 255))
theorem l1In_is3 {n lo hi : Int} {b : Bool} (h : inB n lo hi = b) (w : World) : Calls Try.prog 62 #[.int .i64 n, .int .i64 lo, .int .i64 hi] w fun e w' => e = .returned (.bool b) ∧ w = w' := h ▸ l1In_any n lo hi w
theorem in_is3 {n lo hi : Int} {b : Bool} (h : inB n lo hi = b) (w : World) : Calls Try.prog 75 #[.int .i64 n, .int .i64 lo, .int .i64 hi] w fun e w' => e = .returned (.bool b) ∧ w = w' := h ▸ in_any n lo hi w
theorem all_snocH {α : Type} {zs : List α} {p : α → Bool} {k : Nat} {x : α} (hx : zs[k]? = some x) (hk : (zs.take k).all p = true) (hp : p x = true) : (zs.take (k + 1)).all p = true := by
  rw [take_snoc hx, List.all_append, hk]; simp [hp]
theorem all_missH {α : Type} {zs : List α} {p : α → Bool} {k : Nat} {x : α} (hx : zs[k]? = some x) (hp : p x = false) : zs.all p = false := by
  rw [List.all_eq_false]
  exact ⟨x, List.mem_of_getElem? hx, by simp [hp]⟩
set_option maxRecDepth 100000 in
set_option maxHeartbeats 2000000 in
theorem sized_any (kind size : Int) (w : World) : Calls Try.prog 79 #[.int .i64 kind, .int .i64 size] w fun e w' => e = .returned (.bool (sizedB kind size)) ∧ w = w' := by
  cases h2 : inB size 1 4
  · have e : sizedB kind size = false := by unfold sizedB; rw [h2]; simp
    have hs1 : (size == 1) = false := by rw [inB_false] at h2; simp; omega
    rw [e]; clear e
    by_cases k1 : kind = 1
    · subst k1
      go_enter Try.func79, Try.ntmps79
      go_wp2
      go_ret
      exact ⟨rfl, rfl⟩
    · have d1 : (kind == 1) = false := by simpa using k1
      by_cases k2 : kind = 2
      · subst k2
        go_enter Try.func79, Try.ntmps79
        go_wp2_with (go_at_call 75; refine (in_is3 h2 _).mono ?_; rintro e _ ⟨rfl, rfl⟩)
        go_ret
        exact ⟨rfl, rfl⟩
      · have d2 : (kind == 2) = false := by simpa using k2
        by_cases k3 : kind = 3
        · subst k3
          go_enter Try.func79, Try.ntmps79
          go_wp2_with (go_at_call 75; refine (in_is3 h2 _).mono ?_; rintro e _ ⟨rfl, rfl⟩)
          go_ret
          exact ⟨rfl, rfl⟩
        · have d3 : (kind == 3) = false := by simpa using k3
          go_enter Try.func79, Try.ntmps79
          go_wp2
          go_ret
          exact ⟨rfl, rfl⟩
  · by_cases k1 : kind = 1
    · subst k1
      by_cases s1 : size = 1
      · subst s1
        rw [show sizedB 1 1 = true by decide]
        go_enter Try.func79, Try.ntmps79
        go_wp2
        go_ret
        exact ⟨rfl, rfl⟩
      · have ds : (size == 1) = false := by simpa using s1
        rw [show sizedB 1 size = false by unfold sizedB; simp [s1]]
        go_enter Try.func79, Try.ntmps79
        go_wp2
        go_ret
        exact ⟨rfl, rfl⟩
    · have d1 : (kind == 1) = false := by simpa using k1
      by_cases k2 : kind = 2
      · subst k2
        rw [show sizedB 2 size = true by unfold sizedB; rw [h2]; rfl]
        go_enter Try.func79, Try.ntmps79
        go_wp2_with (go_at_call 75; refine (in_is3 h2 _).mono ?_; rintro e _ ⟨rfl, rfl⟩)
        go_ret
        exact ⟨rfl, rfl⟩
      · have d2 : (kind == 2) = false := by simpa using k2
        by_cases k3 : kind = 3
        · subst k3
          rw [show sizedB 3 size = true by unfold sizedB; rw [h2]; rfl]
          go_enter Try.func79, Try.ntmps79
          go_wp2_with (go_at_call 75; refine (in_is3 h2 _).mono ?_; rintro e _ ⟨rfl, rfl⟩)
          go_ret
          exact ⟨rfl, rfl⟩
        · have d3 : (kind == 3) = false := by simpa using k3
          rw [show sizedB kind size = false by unfold sizedB; rw [show inB kind 1 3 = false by rw [inB_false]; omega]; rfl]
          go_enter Try.func79, Try.ntmps79
          go_wp2
          go_ret
          exact ⟨rfl, rfl⟩
theorem sized_is {kind size : Int} {b : Bool} (h : sizedB kind size = b) (w : World) : Calls Try.prog 79 #[.int .i64 kind, .int .i64 size] w fun e w' => e = .returned (.bool b) ∧ w = w' := h ▸ sized_any kind size w
set_option maxRecDepth 100000 in
set_option maxHeartbeats 400000 in
theorem holdValid1_any (w : World) : Pred Try.prog 80 #[] (Value.int .i64) (fun z => !inB z 0 255) w := by
  intro x W hb
  go_enter Try.func80, Try.ntmps80
  go_wp2_with (first | (go_at_call 81; go_in) | (go_at_call 75; refine (in_any _ _ _ _).mono ?_; rintro e w1 ⟨rfl, rfl⟩))
  go_ret
  exact ⟨rfl, by go_grown⟩
theorem values_is {A : Option Addr} {n c : Nat} {zs : List Int} {b : Bool} (h : (zs.any fun z => !inB z 0 255) = b) (w : World) (hm : n ≤ 1048577) (hr : Rd w 1 A n (ints zs)) :
    Calls Try.prog 67 #[.slice A n c, .func (.func 80) #[] #[]] w fun e w' => e = .returned (.bool b) ∧ Below w.heap.size w w' :=
  h ▸ ContainsFuncI_any 80 #[] (fun z => !inB z 0 255) A n c zs w hm hr (holdValid1_any w) (enters_of Try.func80 (by kernel_rfl) rfl)
set_option maxRecDepth 100000 in
set_option maxHeartbeats 2000000 in
theorem iHoldValid_any (A : Option Addr) (n c : Nat) (zs : List Int) (kind size : Int) (w : World) (hm : n ≤ 1048577) (hr : Rd w 1 A n (ints zs)) :
    Calls Try.prog 44 #[.agg #[.slice A n c], .int .i64 kind, .int .i64 size] w fun e w' => e = .returned (.bool (holdOk zs kind size)) ∧ Below w.heap.size w w' := by
  have hlz := Lib.hid hr.len
  have HR := Lib.hid hr
  clear hr
  have HV : Hid (holdOk zs kind size = (sizedB kind size && (decide ((n : Int) ≤ size) && !(zs.any fun z => !inB z 0 255)))) := by show _ = _; unfold holdOk; rw [hlz.out, List.all_eq_not_any_not]
  cases h1 : sizedB kind size
  · rw [show holdOk zs kind size = false by rw [HV.out, h1]; rfl]
    go_enter Try.func44, Try.ntmps44
    go_wp2_with fail
    refine (sized_is h1 _).mono ?_
    rintro e _ ⟨rfl, rfl⟩
    go_wp2
    go_ret
    exact ⟨rfl, by go_grown⟩
  · by_cases hns : (n : Int) ≤ size
    · cases h3 : (zs.any fun z => !inB z 0 255)
      all_goals
        rw [HV.out, h1, decide_eq_true hns, h3]
        go_enter Try.func44, Try.ntmps44
        go_wp2_with fail
        refine (sized_is h1 _).mono ?_
        rintro e _ ⟨rfl, rfl⟩
        go_wp2_with fail
        refine (values_is h3 _ hm (HR.out.below (Nat.le_refl _) (by go_grown))).mono ?_
        rintro e w1 ⟨rfl, hb1⟩
        have HB1 : Hid (Below w.heap.size w w1) := Below.andThen (by go_grown) hb1
        clear hb1
        go_wp2
        go_ret
        exact ⟨rfl, HB1.out⟩
    · have hd : decide ((n : Int) ≤ size) = false := by simpa using hns
      rw [show holdOk zs kind size = false by rw [HV.out, h1, hd]; rfl]
      go_enter Try.func44, Try.ntmps44
      go_wp2_with fail
      refine (sized_is h1 _).mono ?_
      rintro e _ ⟨rfl, rfl⟩
      go_wp2
      go_ret
      exact ⟨rfl, by go_grown⟩

set_option maxRecDepth 100000 in
set_option maxHeartbeats 4000000 in
theorem sHoldValid_any (A : Option Addr) (n c : Nat) (zs : List Int) (kind size : Int) (w : World) (hm : n ≤ 1048577) (hr : Rd w 1 A n (ints zs)) :
    Calls Try.prog 42 #[.agg #[.slice A n c], .int .i64 kind, .int .i64 size] w fun e w' => e = .returned (.bool (holdOk zs kind size)) ∧ Below w.heap.size w w' := by
  have hlz := Lib.hid hr.len
  have HR := Lib.hid hr
  clear hr
  have HV : Hid (holdOk zs kind size = ((inB kind 1 3 && (inB size 1 4 && (decide (¬ kind = 1) || decide (size = 1)))) && (decide ((n : Int) ≤ size) && zs.all (fun x => inB x 0 255)))) := by show _ = _; unfold holdOk sizedB; rw [hlz.out]
  go_enter Try.func42, Try.ntmps42
  go_wp2
  go_loopw [7] (fun i wr => ∃ (k : Nat), k ≤ n ∧ i = .int .i64 k ∧ Hid ((zs.take k).all (fun x => inB x 0 255) = true) ∧ Hid (Blk wr w.heap.size 53 #[.slice A n c]) ∧ Hid (Below w.heap.size w wr)) (fun i _ => n - (intOf i).toNat)
  case atStart => exact ⟨0, Nat.zero_le _, rfl, by show _ = true; simp, Blk.at_ _ _ _ rfl, by show Below _ _ _; go_grown⟩
  case round =>
    obtain ⟨k, hk, rfl, HA, HQ, HB⟩ := hrel
    have ka_0 := HQ.out.cell 0 rfl
    by_cases hlt : k < n
    · obtain ⟨b, o, x, rfl, hbl, hx, hc⟩ := HR.out.int_ hlt
      have hc1 := (HB.out.cell (p := ⟨b, o + k, none⟩) hbl).trans hc
      have HX := Lib.hid hx
      clear hx hc
      cases hv : inB x 0 255
      · go_wp2_with fail
        refine (l1In_is3 hv _).mono ?_
        rintro e _ ⟨rfl, rfl⟩
        go_wp2
        go_ret
        exact ⟨by rw [HV.out, all_missH HX.out hv]; simp, HB.out⟩
      · have HVV := Lib.hid hv
        go_wp2_with fail
        refine (l1In_is3 hv _).mono ?_
        rintro e _ ⟨rfl, rfl⟩
        go_wp2
        go_roundw
        case rel => exact ⟨k + 1, by omega, by go_num, all_snocH HX.out HA.out HVV.out, HQ, HB⟩
        case measure => simp [intOf]; omega
    · have hkn : k = n := by omega
      have h7 := HA.out
      rw [hkn, ← hlz.out, List.take_length] at h7
      have H7 := Lib.hid h7
      clear h7
      cases h1 : inB kind 1 3
      · skip
        go_wp2_with fail
        refine (l1In_is3 h1 _).mono ?_
        rintro e _ ⟨rfl, rfl⟩
        go_wp2
        go_ret
        exact ⟨by rw [HV.out, h1]; first | rfl | simp | (simp; omega), HB.out⟩
      · cases h2 : inB size 1 4
        · skip
          go_wp2_with fail
          refine (l1In_is3 h1 _).mono ?_
          rintro e _ ⟨rfl, rfl⟩
          go_wp2_with fail
          refine (l1In_is3 h2 _).mono ?_
          rintro e _ ⟨rfl, rfl⟩
          go_wp2
          go_ret
          exact ⟨by rw [HV.out, h2]; first | rfl | simp | (simp; omega), HB.out⟩
        · by_cases k1 : kind = 1
          · have d1 : (kind != 1) = false := by simpa using k1
            have K1 := Lib.hid k1
            clear k1
            by_cases s1 : size = 1
            · have ds : (size == 1) = true := by simpa using s1
              have S1 := Lib.hid s1
              clear s1
              by_cases hns : (n : Int) ≤ size
              · skip
                go_wp2_with fail
                refine (l1In_is3 h1 _).mono ?_
                rintro e _ ⟨rfl, rfl⟩
                go_wp2_with fail
                refine (l1In_is3 h2 _).mono ?_
                rintro e _ ⟨rfl, rfl⟩
                go_wp2
                go_ret
                exact ⟨by rw [HV.out, h1, h2, decide_eq_true S1.out, decide_eq_true hns, H7.out]; first | rfl | simp | (simp; omega), HB.out⟩
              · have hd : decide ((n : Int) ≤ size) = false := by simpa using hns
                go_wp2_with fail
                refine (l1In_is3 h1 _).mono ?_
                rintro e _ ⟨rfl, rfl⟩
                go_wp2_with fail
                refine (l1In_is3 h2 _).mono ?_
                rintro e _ ⟨rfl, rfl⟩
                go_wp2
                go_ret
                exact ⟨by rw [HV.out, hd]; first | rfl | simp | (simp; omega), HB.out⟩
            · have ds : (size == 1) = false := by simpa using s1
              have S1 := Lib.hid s1
              clear s1
              go_wp2_with fail
              refine (l1In_is3 h1 _).mono ?_
              rintro e _ ⟨rfl, rfl⟩
              go_wp2_with fail
              refine (l1In_is3 h2 _).mono ?_
              rintro e _ ⟨rfl, rfl⟩
              go_wp2
              go_ret
              exact ⟨by rw [HV.out, decide_eq_false S1.out, decide_eq_false (fun h => h K1.out)]; first | rfl | simp | (simp; omega), HB.out⟩
          · have d1 : (kind != 1) = true := by simpa using k1
            have K1 := Lib.hid k1
            clear k1
            by_cases hns : (n : Int) ≤ size
            · skip
              go_wp2_with fail
              refine (l1In_is3 h1 _).mono ?_
              rintro e _ ⟨rfl, rfl⟩
              go_wp2_with fail
              refine (l1In_is3 h2 _).mono ?_
              rintro e _ ⟨rfl, rfl⟩
              go_wp2
              go_ret
              exact ⟨by rw [HV.out, h1, h2, decide_eq_true K1.out, decide_eq_true hns, H7.out]; first | rfl | simp | (simp; omega), HB.out⟩
            · have hd : decide ((n : Int) ≤ size) = false := by simpa using hns
              go_wp2_with fail
              refine (l1In_is3 h1 _).mono ?_
              rintro e _ ⟨rfl, rfl⟩
              go_wp2_with fail
              refine (l1In_is3 h2 _).mono ?_
              rintro e _ ⟨rfl, rfl⟩
              go_wp2
              go_ret
              exact ⟨by rw [HV.out, hd]; first | rfl | simp | (simp; omega), HB.out⟩
end Go.Proofs.Ytjdhfehffgccmaa
