/-
  CONTRACTS of NextOwn and LongestGap.
  Conditions: none beyond those that each states.
-/
import Derived.Test.YtlckjhbgdbhdmaaTicks
namespace Go.Proofs.Ytlckjhbgdbhdmaa
open Go.ChangeShapes Go.WideShapes Go.ChangeAt Go.RowKit Go.Joins
set_option linter.unusedVariables false

theorem sWhoRuns_at {A : Option Addr} {n c N r : Nat} {zs : Slots} {parts : Int} (tick : Int) (h0 : slotsOk parts zs = true) (h : N = (frameL zs).length) (ht0 : 0 ≤ tick) (ht1 : tick ≤ 1000000) (hr' : tick % (N : Int) = (r : Int)) (w : World) (hm : n ≤ 1048576) (hr : Rd w 2 A n (slots zs)) :
    Calls Try.prog 72 #[.slice A n c, .int .i64 parts, .int .i64 tick] w fun e w' => e = .returned (.int .i64 (frameAt zs r)) ∧ Below w.heap.size w w' := by
  have := sWhoRuns_any A n c zs parts tick w hm hr
  unfold whoV whoB at this
  rwa [h0, inB_true.2 ⟨ht0, ht1⟩, Bool.and_true, if_pos rfl, ← h, hr', Int.toNat_natCast] at this
theorem miss_all {zs : Slots} {p tick : Int} {N : Nat} (hN : N = (frameL zs).length) (h : ∀ y ∈ (turnL zs tick).take N, (y == p) = false) : nextV zs p tick = -1 := by
  have hl := turnL_len zs tick
  rw [List.take_of_length_le (by omega)] at h
  unfold nextV
  rw [idxP_miss h, if_pos (by omega)]
theorem hit_at {zs : Slots} {p tick : Int} {j : Nat} {x : Int} (hx : (turnL zs tick)[j]? = some x) (h : ∀ y ∈ (turnL zs tick).take j, (y == p) = false) (he : (x == p) = true) : nextV zs p tick = tick + j := by
  unfold nextV
  rw [idxP_hit hx h he, if_neg (by omega)]

set_option maxRecDepth 100000 in
set_option maxHeartbeats 4000000 in
theorem sNextOwn_any (A : Option Addr) (n c : Nat) (zs : Slots) (parts : Int) (p : Int) (tick : Int) (w : World) (hm : n ≤ 1048576) (hr : Rd w 2 A n (slots zs)) :
    Calls Try.prog 38 #[.slice A n c, .int .i64 parts, .int .i64 p, .int .i64 tick] w fun e w' => e = .returned (.int .i64 (noV parts zs p tick)) ∧ Below w.heap.size w w' := by
  have hlz := Lib.hid hr.slotsLen
  have HR := Lib.hid hr
  clear hr
  cases h0 : slotsOk parts zs
  · rw [show noV parts zs p tick = -1 by unfold noV ownB; rw [h0]; rfl]
    go_enter Try.func38, Try.ntmps38
    go_wp2_with fail
    refine (sSlotsValid_is h0 _ (by omega) (HR.out.below (Nat.le_refl _) (by go_grown))).mono ?_
    rintro e w1 ⟨rfl, hb1⟩
    have HB1 := Lib.hid hb1
    have hs1 := hb1.size
    clear hb1
    go_wp2
    go_ret
    exact ⟨rfl, HB1.out⟩
  · skip
    obtain ⟨hp0, hp5, _⟩ := slotsOk_use h0
    cases h1 : inB p 0 (parts - 1)
    · rw [show noV parts zs p tick = -1 by unfold noV ownB; rw [h0, h1]; rfl]
      go_enter Try.func38, Try.ntmps38
      go_wp2_with fail
      refine (sSlotsValid_is h0 _ (by omega) (HR.out.below (Nat.le_refl _) (by go_grown))).mono ?_
      rintro e w1 ⟨rfl, hb1⟩
      have HB1 := Lib.hid hb1
      have hs1 := hb1.size
      clear hb1
      go_wp2_with fail
      refine (l1In_is h1 _).mono ?_
      rintro e _ ⟨rfl, rfl⟩
      go_wp2
      go_ret
      exact ⟨rfl, HB1.out⟩
    · skip
      cases h2 : inB tick 0 1000000
      · rw [show noV parts zs p tick = -1 by unfold noV ownB; rw [h0, h1, h2]; rfl]
        go_enter Try.func38, Try.ntmps38
        go_wp2_with fail
        refine (sSlotsValid_is h0 _ (by omega) (HR.out.below (Nat.le_refl _) (by go_grown))).mono ?_
        rintro e w1 ⟨rfl, hb1⟩
        have HB1 := Lib.hid hb1
        have hs1 := hb1.size
        clear hb1
        go_wp2_with fail
        refine (l1In_is h1 _).mono ?_
        rintro e _ ⟨rfl, rfl⟩
        go_wp2_with fail
        refine (l1In_is h2 _).mono ?_
        rintro e _ ⟨rfl, rfl⟩
        go_wp2
        go_ret
        exact ⟨rfl, HB1.out⟩
      · skip
        rw [show noV parts zs p tick = nextV zs p tick by unfold noV ownB; rw [h0, h1, h2]; rfl]
        obtain ⟨hp0, hp5, hl1, hl12, htk⟩ := slotsOk_use h0
        rw [hlz.out] at hl1 hl12
        have hfb := frameL_bd htk
        rw [hlz.out] at hfb
        obtain ⟨N, hN⟩ : ∃ N, N = (frameL zs).length := ⟨_, rfl⟩
        rw [← hN] at hfb
        have hN1 : 1 ≤ N := by omega
        have hN2 : N ≤ 240 := by omega
        have HNF := Lib.hid hN
        have HTK := Lib.hid htk
        have hNz : ((N : Nat) : Int) ≠ 0 := by omega
        clear hN htk hfb
        obtain ⟨hn0, hn1⟩ := inB_true.1 h1
        obtain ⟨ht0, ht1⟩ := inB_true.1 h2
        go_enter Try.func38, Try.ntmps38
        go_wp2_with fail
        refine (sSlotsValid_is h0 _ (by omega) (HR.out.below (Nat.le_refl _) (by go_grown))).mono ?_
        rintro e w1 ⟨rfl, hb1⟩
        have HB1 := Lib.hid hb1
        have hs1 := hb1.size
        clear hb1
        go_wp2_with fail
        refine (l1In_is h1 _).mono ?_
        rintro e _ ⟨rfl, rfl⟩
        go_wp2_with fail
        refine (l1In_is h2 _).mono ?_
        rintro e _ ⟨rfl, rfl⟩
        go_wp2_with fail
        refine (sFrameTicks_is h0 HNF.out _ hm (HR.out.below (Nat.le_refl _) HB1.out)).mono ?_
        rintro e w2 ⟨rfl, hb2⟩
        have HB2 := Lib.hid (Below.andThen HB1.out hb2)
        clear hb2
        go_wp2
        go_loopw [10] (fun tt wr => ∃ (j : Nat), j ≤ N ∧ tt = .int .i64 (tick + (j : Int)) ∧ Hid (∀ y ∈ (turnL zs tick).take j, (y == p) = false) ∧ Hid (Below w.heap.size w wr)) (fun tt _ => N - (intOf tt - tick).toNat)
        case atStart => exact ⟨0, Nat.zero_le _, by simp, by show ∀ y ∈ (turnL zs tick).take 0, _; simp, HB2⟩
        case round =>
          obtain ⟨j, hj, rfl, HM, HB⟩ := hrel
          by_cases hlt : j < N
          · obtain ⟨r, hr, hrN⟩ := mod_nat (a := tick + (j : Int)) hN1
            have hT := turnL_at HNF.out hlt hr
            obtain ⟨x, hxe⟩ : ∃ x, x = frameAt zs r := ⟨_, rfl⟩
            rw [← hxe] at hT
            have HT := Lib.hid hT
            have HXE := Lib.hid hxe
            clear hT hxe
            have hlt' : tick + (j : Int) < tick + (N : Int) := by omega
            have hmm : (r : Int) % (N : Int) = (r : Int) := Int.emod_eq_of_lt (by omega) (by omega)
            cases he : (x == p)
            · have HE := Lib.hid he
              go_wp2_with fail
              refine (sWhoRuns_at (r := r) (r : Int) h0 HNF.out (by omega) (by omega) hmm _ hm (HR.out.below (Nat.le_refl _) HB.out)).mono ?_
              rw [← HXE.out]
              rintro e w4 ⟨rfl, hb4⟩
              have HB4 := Lib.hid (Below.andThen HB.out hb4)
              clear hb4
              go_wp2
              go_roundw
              case rel => exact ⟨j + 1, by omega, by rw [Int.natCast_add, ← Int.add_assoc]; rfl, miss_snoc HT.out HM.out HE.out, HB4⟩
              case measure => simp [intOf]; omega
            · have HE := Lib.hid he
              go_wp2_with fail
              refine (sWhoRuns_at (r := r) (r : Int) h0 HNF.out (by omega) (by omega) hmm _ hm (HR.out.below (Nat.le_refl _) HB.out)).mono ?_
              rw [← HXE.out]
              rintro e w4 ⟨rfl, hb4⟩
              have HB4 := Lib.hid (Below.andThen HB.out hb4)
              clear hb4
              go_wp2
              go_ret
              exact ⟨ret_int (hit_at HT.out HM.out HE.out).symm, HB4.out⟩
          · have hjN : j = N := by omega
            have hlt' : ¬ tick + (j : Int) < tick + (N : Int) := by omega
            go_wp2
            go_ret
            refine ⟨ret_int (miss_all HNF.out ?_).symm, HB.out⟩
            rw [← hjN]
            exact HM.out
end Go.Proofs.Ytlckjhbgdbhdmaa
