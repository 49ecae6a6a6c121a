/-
  CONTRACTS of the functions on frames: FrameTicks, WhoRuns, OwnTicks, NextOwn, FrameOf, SlotOf, ShareOf, LongestGap.
  Conditions: none beyond those that each states.
-/
import Derived.Test.YtifhhnifdggmpaaTicksM
import Derived.IntWalk
namespace Go.Proofs.Ytifhhnifdggmpaa
open Go.ChangeShapes Go.WideShapes Go.ChangeAt Go.RowKit Go.Joins
set_option linter.unusedVariables false

def ftV (parts : Int) (zs : Slots) : Int := if slotsOk parts zs = true then ((frameL zs).length : Int) else -1
def otV (parts : Int) (zs : Slots) (n tick : Int) : Int := if ownB parts zs n tick = true then ownV zs n tick else -1
def noV (parts : Int) (zs : Slots) (n tick : Int) : Int := if ownB parts zs n tick = true then nextV zs n tick else -1
def fo1V (parts : Int) (zs : Slots) (tick : Int) : Int := if whoB parts zs tick = true then tick / ((frameL zs).length : Int) else -1
def fo2V (parts : Int) (zs : Slots) (tick : Int) : Int := if whoB parts zs tick = true then tick / ((frameL zs).length : Int) * ((frameL zs).length : Int) else -1
def so1V (parts : Int) (zs : Slots) (tick : Int) : Int := if whoB parts zs tick = true then (slotK zs (tick % ((frameL zs).length : Int)) : Int) else -1
def so2V (parts : Int) (zs : Slots) (tick : Int) : Int := if whoB parts zs tick = true then slotT zs (tick % ((frameL zs).length : Int)) else -1
def shV (parts : Int) (zs : Slots) (n : Int) : Int := if shareB parts zs n = true then (cnt n (frameL zs) : Int) else -1
def lgV (parts : Int) (zs : Slots) (n : Int) : Int := if shV parts zs n < 1 then -1 else (gapF zs n (2 * (frameL zs).length)).2
theorem sSlotsValid_is {A : Option Addr} {n c : Nat} {zs : Slots} {parts : Int} {b : Bool} (h : slotsOk parts zs = b) (w : World) (hm : n ≤ 1048577) (hr : Rd w 2 A n (slots zs)) :
    Calls Try.prog 16 #[.slice A n c, .int .i64 parts] w fun e w' => e = .returned (.bool b) ∧ Below w.heap.size w w' := h ▸ sSlotsValid_any A n c zs parts w hm hr
theorem iSlotsValid_is {A : Option Addr} {n c : Nat} {zs : Slots} {parts : Int} {b : Bool} (h : slotsOk parts zs = b) (w : World) (hm : n ≤ 1048577) (hr : Rd w 2 A n (slots zs)) :
    Calls Try.prog 18 #[.slice A n c, .int .i64 parts] w fun e w' => e = .returned (.bool b) ∧ Below w.heap.size w w' := h ▸ iSlotsValid_any A n c zs parts w hm hr
theorem frame_is {A : Option Addr} {n c N : Nat} {zs : Slots} (hN : N = (frameL zs).length) (w : World) (hm : n ≤ 12) (ht : ticksOk zs) (hr : Rd w 2 A n (slots zs)) :
    Calls Try.prog 56 #[.slice A n c] w fun e w' => ∃ B d, e = .returned (.slice B N d) ∧ Fr w' w.heap.size w'.heap.size 3 1 B N (ints (frameL zs)) ∧ Below w.heap.size w w' := by
  subst hN
  exact frame_any A n c zs w hm ht hr
theorem Fr.frameAt {w : World} {lo hi N r : Nat} {B : Option Addr} {zs : Slots} (hf : Fr w lo hi 3 1 B N (ints (frameL zs))) (hr : r < N) :
    ∃ g, B = some ⟨g, 0, none⟩ ∧ lo ≤ g ∧ g < hi ∧ w.cell? ⟨g, r, none⟩ = some (.int .i64 (frameAt zs r)) := by
  obtain ⟨g, hB, h1, h2, hc, _⟩ := hf.use (by omega)
  have hl : (frameL zs).length = N := by have := hf.1; simpa [ints] using this
  exact ⟨g, hB, h1, h2, hc r _ (by rw [ints_at, frame_at hl.symm hr]; rfl)⟩

set_option maxRecDepth 100000 in
set_option maxHeartbeats 4000000 in
theorem sFrameTicks_any (A : Option Addr) (n c : Nat) (zs : Slots) (parts : Int) (w : World) (hm : n ≤ 1048576) (hr : Rd w 2 A n (slots zs)) :
    Calls Try.prog 20 #[.slice A n c, .int .i64 parts] w fun e w' => e = .returned (.int .i64 (ftV parts zs)) ∧ Below w.heap.size w w' := by
  have hlz := Lib.hid hr.slotsLen
  have HR := Lib.hid hr
  clear hr
  cases h0 : slotsOk parts zs
  · rw [show ftV parts zs = -1 by unfold ftV; rw [h0]; rfl]
    go_enter Try.func20, Try.ntmps20
    go_wp2_with fail
    refine (sSlotsValid_is h0 _ (by omega) (HR.out.below (Nat.le_refl _) (by go_grown))).mono ?_
    rintro e w1 ⟨rfl, hb1⟩
    have HB1 := Lib.hid hb1
    have hs1 := hb1.size
    clear hb1
    go_wp2
    go_ret
    exact ⟨rfl, HB1.out⟩
  · skip
    rw [show ftV parts zs = ((frameL zs).length : Int) by unfold ftV; rw [h0]; rfl]
    obtain ⟨hp0, hp5, hl1, hl12, htk⟩ := slotsOk_use h0
    rw [hlz.out] at hl1 hl12
    have hfb := frameL_bd htk
    rw [hlz.out] at hfb
    obtain ⟨N, hN⟩ : ∃ N, N = (frameL zs).length := ⟨_, rfl⟩
    rw [← hN] at hfb
    have hN1 : 1 ≤ N := by omega
    have hN2 : N ≤ 240 := by omega
    have HNF := Lib.hid hN
    have HTK := Lib.hid htk
    have hNz : ((N : Nat) : Int) ≠ 0 := by omega
    clear hN htk hfb
    go_enter Try.func20, Try.ntmps20
    go_wp2_with fail
    refine (sSlotsValid_is h0 _ (by omega) (HR.out.below (Nat.le_refl _) (by go_grown))).mono ?_
    rintro e w1 ⟨rfl, hb1⟩
    have HB1 := Lib.hid hb1
    have hs1 := hb1.size
    clear hb1
    go_wp2
    go_loopw [5, 6] (fun v i wr => ∃ (k L : Nat), k ≤ n ∧ i = .int .i64 k ∧ v = .int .i64 (L : Int) ∧ L ≤ 20 * k ∧ Hid (upto zs k = L) ∧ Hid (Below w.heap.size w wr)) (fun _ i _ => n - (intOf i).toNat)
    case atStart => exact ⟨0, 0, Nat.zero_le _, rfl, rfl, by omega, upto_zero zs, HB1⟩
    case round =>
      obtain ⟨k, L, hk, rfl, rfl, hL, HL, HB⟩ := hrel
      by_cases hlt : k < n
      · obtain ⟨b, o, p0, p1, rfl, hbl, hx, j0, j1⟩ := HR.out.slot hlt
        have c1 := (HB.out.cell (p := ⟨b, o + k * 2 + 1, none⟩) hbl).trans j1
        obtain ⟨hq1, hq2⟩ := HTK.out k p0 p1 hx
        obtain ⟨q, rfl⟩ : ∃ q : Nat, p1 = (q : Int) := ⟨p1.toNat, by omega⟩
        have H2 := Lib.hid (upto_succ hx)
        clear hx j0 j1
        go_wp2
        go_roundw
        case rel => exact ⟨k + 1, L + q, by omega, by go_num, by go_num, by omega, by show upto zs (k + 1) = _; rw [H2.out, HL.out]; rfl, HB⟩
        case measure => simp [intOf]; omega
      · have hkn : k = n := by omega
        go_wp2
        go_ret
        refine ⟨ret_int ?_, HB.out⟩
        rw [← HL.out, hkn, ← hlz.out, upto_all]
set_option maxRecDepth 100000 in
set_option maxHeartbeats 4000000 in
theorem iFrameTicks_any (A : Option Addr) (n c : Nat) (zs : Slots) (parts : Int) (w : World) (hm : n ≤ 1048576) (hr : Rd w 2 A n (slots zs)) :
    Calls Try.prog 21 #[.slice A n c, .int .i64 parts] w fun e w' => e = .returned (.int .i64 (ftV parts zs)) ∧ Below w.heap.size w w' := by
  have hlz := Lib.hid hr.slotsLen
  have HR := Lib.hid hr
  clear hr
  cases h0 : slotsOk parts zs
  · rw [show ftV parts zs = -1 by unfold ftV; rw [h0]; rfl]
    go_enter Try.func21, Try.ntmps21
    go_wp2_with fail
    refine (iSlotsValid_is h0 _ (by omega) (HR.out.below (Nat.le_refl _) (by go_grown))).mono ?_
    rintro e w1 ⟨rfl, hb1⟩
    have HB1 := Lib.hid hb1
    have hs1 := hb1.size
    clear hb1
    go_wp2
    go_ret
    exact ⟨rfl, HB1.out⟩
  · skip
    rw [show ftV parts zs = ((frameL zs).length : Int) by unfold ftV; rw [h0]; rfl]
    obtain ⟨hp0, hp5, hl1, hl12, htk⟩ := slotsOk_use h0
    rw [hlz.out] at hl1 hl12
    have hfb := frameL_bd htk
    rw [hlz.out] at hfb
    obtain ⟨N, hN⟩ : ∃ N, N = (frameL zs).length := ⟨_, rfl⟩
    rw [← hN] at hfb
    have hN1 : 1 ≤ N := by omega
    have hN2 : N ≤ 240 := by omega
    have HNF := Lib.hid hN
    have HTK := Lib.hid htk
    have hNz : ((N : Nat) : Int) ≠ 0 := by omega
    clear hN htk hfb
    go_enter Try.func21, Try.ntmps21
    go_wp2_with fail
    refine (iSlotsValid_is h0 _ (by omega) (HR.out.below (Nat.le_refl _) (by go_grown))).mono ?_
    rintro e w1 ⟨rfl, hb1⟩
    have HB1 := Lib.hid hb1
    have hs1 := hb1.size
    clear hb1
    go_wp2_with fail
    refine (frame_is HNF.out _ hl12 HTK.out (HR.out.below (Nat.le_refl _) HB1.out)).mono ?_
    rintro e w2 ⟨B, d, rfl, hf2, hb2⟩
    have HB2 := Lib.hid (Below.andThen HB1.out hb2)
    have HF2 := Lib.hid hf2
    clear hf2 hb2
    go_wp2
    go_ret
    exact ⟨ret_int (by rw [HNF.out]), HB2.out⟩
theorem sFrameTicks_is {A : Option Addr} {n c N : Nat} {zs : Slots} {parts : Int} (h0 : slotsOk parts zs = true) (h : N = (frameL zs).length) (w : World) (hm : n ≤ 1048576) (hr : Rd w 2 A n (slots zs)) :
    Calls Try.prog 20 #[.slice A n c, .int .i64 parts] w fun e w' => e = .returned (.int .i64 (N : Int)) ∧ Below w.heap.size w w' := by
  have := sFrameTicks_any A n c zs parts w hm hr
  unfold ftV at this
  rwa [if_pos h0, ← h] at this
set_option maxRecDepth 100000 in
set_option maxHeartbeats 2000000 in
theorem who_any (A : Option Addr) (n c N : Nat) (zs : Slots) (tick : Int) (w : World) (hN : N = (frameL zs).length) (hN1 : 1 ≤ N) (hN2 : N ≤ 240) (h0 : 0 ≤ tick) (h1 : tick ≤ 1000000) (hm : n ≤ 12) (ht : ticksOk zs) (hr : Rd w 2 A n (slots zs)) :
    Calls Try.prog 57 #[.slice A n c, .int .i64 tick] w fun e w' => e = .returned (.int .i64 (frameAt zs (tick % (N : Int)).toNat)) ∧ Below w.heap.size w w' := by
  have HNF := Lib.hid hN
  have HR := Lib.hid hr
  have HTK := Lib.hid ht
  have hNz : ((N : Nat) : Int) ≠ 0 := by omega
  obtain ⟨r, hr, hrN⟩ := mod_nat (a := tick) hN1
  rw [hr, Int.toNat_natCast]
  clear hN ht
  go_enter Try.func57, Try.ntmps57
  go_wp2_with fail
  refine (frame_is HNF.out _ hm HTK.out HR.out).mono ?_
  rintro e w2 ⟨B, d, rfl, hf2, hb2⟩
  obtain ⟨g, rfl, _, _, hc⟩ := hf2.frameAt hrN
  have HB2 := Lib.hid hb2
  clear hf2 hb2
  obtain ⟨x, hx⟩ : ∃ x, x = frameAt zs r := ⟨_, rfl⟩
  rw [← hx] at hc
  have HX := Lib.hid hx
  clear hx
  go_wp2
  go_ret
  exact ⟨ret_int HX.out, HB2.out⟩
set_option maxRecDepth 100000 in
set_option maxHeartbeats 4000000 in
theorem sWhoRuns_any (A : Option Addr) (n c : Nat) (zs : Slots) (parts : Int) (tick : Int) (w : World) (hm : n ≤ 1048576) (hr : Rd w 2 A n (slots zs)) :
    Calls Try.prog 22 #[.slice A n c, .int .i64 parts, .int .i64 tick] w fun e w' => e = .returned (.int .i64 (whoV parts zs tick)) ∧ Below w.heap.size w w' := by
  have hlz := Lib.hid hr.slotsLen
  have HR := Lib.hid hr
  clear hr
  cases h0 : slotsOk parts zs
  · rw [show whoV parts zs tick = -2 by unfold whoV whoB; rw [h0]; rfl]
    go_enter Try.func22, Try.ntmps22
    go_wp2_with fail
    refine (sSlotsValid_is h0 _ (by omega) (HR.out.below (Nat.le_refl _) (by go_grown))).mono ?_
    rintro e w1 ⟨rfl, hb1⟩
    have HB1 := Lib.hid hb1
    have hs1 := hb1.size
    clear hb1
    go_wp2
    go_ret
    exact ⟨rfl, HB1.out⟩
  · skip
    cases h1 : inB tick 0 1000000
    · rw [show whoV parts zs tick = -2 by unfold whoV whoB; rw [h0, h1]; rfl]
      go_enter Try.func22, Try.ntmps22
      go_wp2_with fail
      refine (sSlotsValid_is h0 _ (by omega) (HR.out.below (Nat.le_refl _) (by go_grown))).mono ?_
      rintro e w1 ⟨rfl, hb1⟩
      have HB1 := Lib.hid hb1
      have hs1 := hb1.size
      clear hb1
      go_wp2_with fail
      refine (l1In_is h1 _).mono ?_
      rintro e _ ⟨rfl, rfl⟩
      go_wp2
      go_ret
      exact ⟨rfl, HB1.out⟩
    · skip
      rw [show whoV parts zs tick = frameAt zs (tick % ((frameL zs).length : Int)).toNat by unfold whoV whoB; rw [h0, h1]; rfl]
      obtain ⟨hp0, hp5, hl1, hl12, htk⟩ := slotsOk_use h0
      rw [hlz.out] at hl1 hl12
      have hfb := frameL_bd htk
      rw [hlz.out] at hfb
      obtain ⟨N, hN⟩ : ∃ N, N = (frameL zs).length := ⟨_, rfl⟩
      rw [← hN] at hfb
      have hN1 : 1 ≤ N := by omega
      have hN2 : N ≤ 240 := by omega
      have HNF := Lib.hid hN
      have HTK := Lib.hid htk
      have hNz : ((N : Nat) : Int) ≠ 0 := by omega
      clear hN htk hfb
      obtain ⟨ht0, ht1⟩ := inB_true.1 h1
      obtain ⟨r, hr, hrN⟩ := mod_nat (a := tick) hN1
      go_enter Try.func22, Try.ntmps22
      go_wp2_with fail
      refine (sSlotsValid_is h0 _ (by omega) (HR.out.below (Nat.le_refl _) (by go_grown))).mono ?_
      rintro e w1 ⟨rfl, hb1⟩
      have HB1 := Lib.hid hb1
      have hs1 := hb1.size
      clear hb1
      go_wp2_with fail
      refine (l1In_is h1 _).mono ?_
      rintro e _ ⟨rfl, rfl⟩
      go_wp2_with fail
      refine (sFrameTicks_is h0 HNF.out _ hm (HR.out.below (Nat.le_refl _) HB1.out)).mono ?_
      rintro e w2 ⟨rfl, hb2⟩
      have HB2 := Lib.hid (Below.andThen HB1.out hb2)
      clear hb2
      go_wp2
      go_loopw [7, 8] (fun tt kk wr => ∃ (k t L : Nat), k ≤ n ∧ kk = .int .i64 (k : Int) ∧ tt = .int .i64 (t : Int) ∧ t ≤ r ∧ Hid (upto zs k = L) ∧ Hid (L + t = r) ∧ Hid (Below w.heap.size w wr)) (fun _ kk _ => n - (intOf kk).toNat)
      case atStart => exact ⟨0, r, 0, Nat.zero_le _, rfl, by rw [hr], Nat.le_refl _, upto_zero zs, by show 0 + r = r; omega, HB2⟩
      case round =>
        obtain ⟨k, t, L, hk, rfl, rfl, htr, HL, HLT, HB⟩ := hrel
        have hkn : k < n := by
          rcases Nat.lt_or_ge k n with h | h
          · exact h
          · have e : k = n := by omega
            have h7 := HL.out
            rw [e, ← hlz.out, upto_all, ← HNF.out] at h7
            have := HLT.out
            omega
        obtain ⟨b, o, p0, p1, rfl, hbl, hx, j0, j1⟩ := HR.out.slot hkn
        have c0 := (HB.out.cell (p := ⟨b, o + k * 2, none⟩) hbl).trans j0
        have c1 := (HB.out.cell (p := ⟨b, o + k * 2 + 1, none⟩) hbl).trans j1
        obtain ⟨hq1, hq2⟩ := HTK.out k p0 p1 hx
        obtain ⟨q, rfl⟩ : ∃ q : Nat, p1 = (q : Int) := ⟨p1.toNat, by omega⟩
        have HX := Lib.hid hx
        have H2 := Lib.hid (upto_succ hx)
        clear hx j0 j1
        by_cases hge : q ≤ t
        · have hge' : (q : Int) ≤ (t : Int) := by omega
          have hsub : ((t : Int) - (q : Int)) = ((t - q : Nat) : Int) := by omega
          have HS := Lib.hid hsub
          clear hsub
          go_wp2
          go_roundw
          case rel => exact ⟨k + 1, t - q, L + q, by omega, by go_num, by rw [HS.out], by omega, by show upto zs (k + 1) = _; rw [H2.out, HL.out]; rfl, by show L + q + (t - q) = r; have := HLT.out; omega, HB⟩
          case measure => simp [intOf]; omega
        · have hge' : ¬ (q : Int) ≤ (t : Int) := by omega
          go_wp2
          go_ret
          refine ⟨ret_int ?_, HB.out⟩
          have h8 := who_at HX.out (r := r) (by rw [HL.out]; have := HLT.out; omega) (by rw [HL.out]; have := HLT.out; simp; omega)
          rw [← HNF.out, hr, Int.toNat_natCast, frameAt_of h8]
set_option maxRecDepth 100000 in
set_option maxHeartbeats 4000000 in
theorem iWhoRuns_any (A : Option Addr) (n c : Nat) (zs : Slots) (parts : Int) (tick : Int) (w : World) (hm : n ≤ 1048576) (hr : Rd w 2 A n (slots zs)) :
    Calls Try.prog 23 #[.slice A n c, .int .i64 parts, .int .i64 tick] w fun e w' => e = .returned (.int .i64 (whoV parts zs tick)) ∧ Below w.heap.size w w' := by
  have hlz := Lib.hid hr.slotsLen
  have HR := Lib.hid hr
  clear hr
  cases h0 : slotsOk parts zs
  · rw [show whoV parts zs tick = -2 by unfold whoV whoB; rw [h0]; rfl]
    go_enter Try.func23, Try.ntmps23
    go_wp2_with fail
    refine (iSlotsValid_is h0 _ (by omega) (HR.out.below (Nat.le_refl _) (by go_grown))).mono ?_
    rintro e w1 ⟨rfl, hb1⟩
    have HB1 := Lib.hid hb1
    have hs1 := hb1.size
    clear hb1
    go_wp2
    go_ret
    exact ⟨rfl, HB1.out⟩
  · skip
    cases h1 : inB tick 0 1000000
    · rw [show whoV parts zs tick = -2 by unfold whoV whoB; rw [h0, h1]; rfl]
      go_enter Try.func23, Try.ntmps23
      go_wp2_with fail
      refine (iSlotsValid_is h0 _ (by omega) (HR.out.below (Nat.le_refl _) (by go_grown))).mono ?_
      rintro e w1 ⟨rfl, hb1⟩
      have HB1 := Lib.hid hb1
      have hs1 := hb1.size
      clear hb1
      go_wp2_with fail
      refine (in_is h1 _).mono ?_
      rintro e _ ⟨rfl, rfl⟩
      go_wp2
      go_ret
      exact ⟨rfl, HB1.out⟩
    · skip
      rw [show whoV parts zs tick = frameAt zs (tick % ((frameL zs).length : Int)).toNat by unfold whoV whoB; rw [h0, h1]; rfl]
      obtain ⟨hp0, hp5, hl1, hl12, htk⟩ := slotsOk_use h0
      rw [hlz.out] at hl1 hl12
      have hfb := frameL_bd htk
      rw [hlz.out] at hfb
      obtain ⟨N, hN⟩ : ∃ N, N = (frameL zs).length := ⟨_, rfl⟩
      rw [← hN] at hfb
      have hN1 : 1 ≤ N := by omega
      have hN2 : N ≤ 240 := by omega
      have HNF := Lib.hid hN
      have HTK := Lib.hid htk
      have hNz : ((N : Nat) : Int) ≠ 0 := by omega
      clear hN htk hfb
      obtain ⟨ht0, ht1⟩ := inB_true.1 h1
      go_enter Try.func23, Try.ntmps23
      go_wp2_with fail
      refine (iSlotsValid_is h0 _ (by omega) (HR.out.below (Nat.le_refl _) (by go_grown))).mono ?_
      rintro e w1 ⟨rfl, hb1⟩
      have HB1 := Lib.hid hb1
      have hs1 := hb1.size
      clear hb1
      go_wp2_with fail
      refine (in_is h1 _).mono ?_
      rintro e _ ⟨rfl, rfl⟩
      go_wp2_with fail
      refine (who_any A n c N zs tick _ HNF.out hN1 hN2 ht0 ht1 hl12 HTK.out (HR.out.below (Nat.le_refl _) HB1.out)).mono ?_
      rintro e w2 ⟨rfl, hb2⟩
      have HB2 := Lib.hid (Below.andThen HB1.out hb2)
      clear hb2
      go_wp2
      go_ret
      exact ⟨ret_int (by rw [← HNF.out]), HB2.out⟩
set_option maxRecDepth 100000 in
set_option maxHeartbeats 4000000 in
theorem sFrameOf_any (A : Option Addr) (n c : Nat) (zs : Slots) (parts : Int) (tick : Int) (w : World) (hm : n ≤ 1048576) (hr : Rd w 2 A n (slots zs)) :
    Calls Try.prog 28 #[.slice A n c, .int .i64 parts, .int .i64 tick] w fun e w' => e = .returned (.tuple #[.int .i64 (fo1V parts zs tick), .int .i64 (fo2V parts zs tick)]) ∧ Below w.heap.size w w' := by
  have hlz := Lib.hid hr.slotsLen
  have HR := Lib.hid hr
  clear hr
  cases h0 : slotsOk parts zs
  · rw [show fo1V parts zs tick = -1 by unfold fo1V whoB; rw [h0]; rfl, show fo2V parts zs tick = -1 by unfold fo2V whoB; rw [h0]; rfl]
    go_enter Try.func28, Try.ntmps28
    go_wp2_with fail
    refine (sSlotsValid_is h0 _ (by omega) (HR.out.below (Nat.le_refl _) (by go_grown))).mono ?_
    rintro e w1 ⟨rfl, hb1⟩
    have HB1 := Lib.hid hb1
    have hs1 := hb1.size
    clear hb1
    go_wp2
    go_ret2
    exact ⟨rfl, HB1.out⟩
  · skip
    cases h1 : inB tick 0 1000000
    · rw [show fo1V parts zs tick = -1 by unfold fo1V whoB; rw [h0, h1]; rfl, show fo2V parts zs tick = -1 by unfold fo2V whoB; rw [h0, h1]; rfl]
      go_enter Try.func28, Try.ntmps28
      go_wp2_with fail
      refine (sSlotsValid_is h0 _ (by omega) (HR.out.below (Nat.le_refl _) (by go_grown))).mono ?_
      rintro e w1 ⟨rfl, hb1⟩
      have HB1 := Lib.hid hb1
      have hs1 := hb1.size
      clear hb1
      go_wp2_with fail
      refine (l1In_is h1 _).mono ?_
      rintro e _ ⟨rfl, rfl⟩
      go_wp2
      go_ret2
      exact ⟨rfl, HB1.out⟩
    · skip
      rw [show fo1V parts zs tick = tick / ((frameL zs).length : Int) by unfold fo1V whoB; rw [h0, h1]; rfl]
      rw [show fo2V parts zs tick = tick / ((frameL zs).length : Int) * ((frameL zs).length : Int) by unfold fo2V whoB; rw [h0, h1]; rfl]
      obtain ⟨hp0, hp5, hl1, hl12, htk⟩ := slotsOk_use h0
      rw [hlz.out] at hl1 hl12
      have hfb := frameL_bd htk
      rw [hlz.out] at hfb
      obtain ⟨N, hN⟩ : ∃ N, N = (frameL zs).length := ⟨_, rfl⟩
      rw [← hN] at hfb
      have hN1 : 1 ≤ N := by omega
      have hN2 : N ≤ 240 := by omega
      have HNF := Lib.hid hN
      have HTK := Lib.hid htk
      have hNz : ((N : Nat) : Int) ≠ 0 := by omega
      clear hN htk hfb
      obtain ⟨ht0, ht1⟩ := inB_true.1 h1
      obtain ⟨q, hq, hqb⟩ : ∃ q : Nat, tick / (N : Int) = (q : Int) ∧ q ≤ 1000000 := ⟨(tick / (N : Int)).toNat, by have := Int.ediv_nonneg ht0 (show (0 : Int) ≤ (N : Int) by omega); omega, by have := Int.ediv_le_self (N : Int) ht0; omega⟩
      have hq2 : tick.tdiv (N : Int) = (q : Int) := by rw [Int.tdiv_eq_ediv_of_nonneg ht0]; exact hq
      have hqn : (q : Int) * (N : Int) ≤ 240000000 := by have h2 : ((q * N : Nat) : Int) ≤ ((1000000 * 240 : Nat) : Int) := Int.ofNat_le.2 (Nat.mul_le_mul hqb hN2); rw [Int.natCast_mul] at h2; omega
      have hqn0 : 0 ≤ (q : Int) * (N : Int) := Int.mul_nonneg (by omega) (by omega)
      have hwr : IntKind.i64.wrap ((q : Int) * (N : Int)) = (q : Int) * (N : Int) := IntWalk.i64_in _ (by omega)
      have hwq : IntKind.i64.wrap (q : Int) = (q : Int) := IntWalk.i64_in _ (by omega)
      go_enter Try.func28, Try.ntmps28
      go_wp2_with fail
      refine (sSlotsValid_is h0 _ (by omega) (HR.out.below (Nat.le_refl _) (by go_grown))).mono ?_
      rintro e w1 ⟨rfl, hb1⟩
      have HB1 := Lib.hid hb1
      have hs1 := hb1.size
      clear hb1
      go_wp2_with fail
      refine (l1In_is h1 _).mono ?_
      rintro e _ ⟨rfl, rfl⟩
      go_wp2_with fail
      refine (sFrameTicks_is h0 HNF.out _ hm (HR.out.below (Nat.le_refl _) HB1.out)).mono ?_
      rintro e w2 ⟨rfl, hb2⟩
      have HB2 := Lib.hid (Below.andThen HB1.out hb2)
      clear hb2
      go_wp2
      go_quiet (fail)
      go_wp2
      go_ret2
      refine ⟨?_, below_drewN HB2.out _⟩
      rw [← HNF.out, hq]
      rfl
set_option maxRecDepth 100000 in
set_option maxHeartbeats 4000000 in
theorem iFrameOf_any (A : Option Addr) (n c : Nat) (zs : Slots) (parts : Int) (tick : Int) (w : World) (hm : n ≤ 1048576) (hr : Rd w 2 A n (slots zs)) :
    Calls Try.prog 29 #[.slice A n c, .int .i64 parts, .int .i64 tick] w fun e w' => e = .returned (.tuple #[.int .i64 (fo1V parts zs tick), .int .i64 (fo2V parts zs tick)]) ∧ Below w.heap.size w w' := by
  have hlz := Lib.hid hr.slotsLen
  have HR := Lib.hid hr
  clear hr
  cases h0 : slotsOk parts zs
  · rw [show fo1V parts zs tick = -1 by unfold fo1V whoB; rw [h0]; rfl, show fo2V parts zs tick = -1 by unfold fo2V whoB; rw [h0]; rfl]
    go_enter Try.func29, Try.ntmps29
    go_wp2_with fail
    refine (iSlotsValid_is h0 _ (by omega) (HR.out.below (Nat.le_refl _) (by go_grown))).mono ?_
    rintro e w1 ⟨rfl, hb1⟩
    have HB1 := Lib.hid hb1
    have hs1 := hb1.size
    clear hb1
    go_wp2
    go_ret2
    exact ⟨rfl, HB1.out⟩
  · skip
    cases h1 : inB tick 0 1000000
    · rw [show fo1V parts zs tick = -1 by unfold fo1V whoB; rw [h0, h1]; rfl, show fo2V parts zs tick = -1 by unfold fo2V whoB; rw [h0, h1]; rfl]
      go_enter Try.func29, Try.ntmps29
      go_wp2_with fail
      refine (iSlotsValid_is h0 _ (by omega) (HR.out.below (Nat.le_refl _) (by go_grown))).mono ?_
      rintro e w1 ⟨rfl, hb1⟩
      have HB1 := Lib.hid hb1
      have hs1 := hb1.size
      clear hb1
      go_wp2_with fail
      refine (in_is h1 _).mono ?_
      rintro e _ ⟨rfl, rfl⟩
      go_wp2
      go_ret2
      exact ⟨rfl, HB1.out⟩
    · skip
      rw [show fo1V parts zs tick = tick / ((frameL zs).length : Int) by unfold fo1V whoB; rw [h0, h1]; rfl]
      rw [show fo2V parts zs tick = tick / ((frameL zs).length : Int) * ((frameL zs).length : Int) by unfold fo2V whoB; rw [h0, h1]; rfl]
      obtain ⟨hp0, hp5, hl1, hl12, htk⟩ := slotsOk_use h0
      rw [hlz.out] at hl1 hl12
      have hfb := frameL_bd htk
      rw [hlz.out] at hfb
      obtain ⟨N, hN⟩ : ∃ N, N = (frameL zs).length := ⟨_, rfl⟩
      rw [← hN] at hfb
      have hN1 : 1 ≤ N := by omega
      have hN2 : N ≤ 240 := by omega
      have HNF := Lib.hid hN
      have HTK := Lib.hid htk
      have hNz : ((N : Nat) : Int) ≠ 0 := by omega
      clear hN htk hfb
      obtain ⟨ht0, ht1⟩ := inB_true.1 h1
      obtain ⟨q, hq, hqb⟩ : ∃ q : Nat, tick / (N : Int) = (q : Int) ∧ q ≤ 1000000 := ⟨(tick / (N : Int)).toNat, by have := Int.ediv_nonneg ht0 (show (0 : Int) ≤ (N : Int) by omega); omega, by have := Int.ediv_le_self (N : Int) ht0; omega⟩
      have hq2 : tick.tdiv (N : Int) = (q : Int) := by rw [Int.tdiv_eq_ediv_of_nonneg ht0]; exact hq
      have hqn : (q : Int) * (N : Int) ≤ 240000000 := by have h2 : ((q * N : Nat) : Int) ≤ ((1000000 * 240 : Nat) : Int) := Int.ofNat_le.2 (Nat.mul_le_mul hqb hN2); rw [Int.natCast_mul] at h2; omega
      have hqn0 : 0 ≤ (q : Int) * (N : Int) := Int.mul_nonneg (by omega) (by omega)
      have hwr : IntKind.i64.wrap ((q : Int) * (N : Int)) = (q : Int) * (N : Int) := IntWalk.i64_in _ (by omega)
      have hwq : IntKind.i64.wrap (q : Int) = (q : Int) := IntWalk.i64_in _ (by omega)
      go_enter Try.func29, Try.ntmps29
      go_wp2_with fail
      refine (iSlotsValid_is h0 _ (by omega) (HR.out.below (Nat.le_refl _) (by go_grown))).mono ?_
      rintro e w1 ⟨rfl, hb1⟩
      have HB1 := Lib.hid hb1
      have hs1 := hb1.size
      clear hb1
      go_wp2_with fail
      refine (in_is h1 _).mono ?_
      rintro e _ ⟨rfl, rfl⟩
      go_wp2_with fail
      refine (frame_is HNF.out _ hl12 HTK.out (HR.out.below (Nat.le_refl _) HB1.out)).mono ?_
      rintro e w2 ⟨B, d, rfl, hf2, hb2⟩
      have HB2 := Lib.hid (Below.andThen HB1.out hb2)
      have HF2 := Lib.hid hf2
      clear hf2 hb2
      go_wp2
      go_quiet (fail)
      go_wp2
      go_ret2
      refine ⟨?_, below_drewN HB2.out _⟩
      rw [← HNF.out, hq]
      rfl
set_option maxRecDepth 100000 in
set_option maxHeartbeats 4000000 in
theorem sSlotOf_any (A : Option Addr) (n c : Nat) (zs : Slots) (parts : Int) (tick : Int) (w : World) (hm : n ≤ 1048576) (hr : Rd w 2 A n (slots zs)) :
    Calls Try.prog 30 #[.slice A n c, .int .i64 parts, .int .i64 tick] w fun e w' => e = .returned (.tuple #[.int .i64 (so1V parts zs tick), .int .i64 (so2V parts zs tick)]) ∧ Below w.heap.size w w' := by
  have hlz := Lib.hid hr.slotsLen
  have HR := Lib.hid hr
  clear hr
  cases h0 : slotsOk parts zs
  · rw [show so1V parts zs tick = -1 by unfold so1V whoB; rw [h0]; rfl, show so2V parts zs tick = -1 by unfold so2V whoB; rw [h0]; rfl]
    go_enter Try.func30, Try.ntmps30
    go_wp2_with fail
    refine (sSlotsValid_is h0 _ (by omega) (HR.out.below (Nat.le_refl _) (by go_grown))).mono ?_
    rintro e w1 ⟨rfl, hb1⟩
    have HB1 := Lib.hid hb1
    have hs1 := hb1.size
    clear hb1
    go_wp2
    go_ret2
    exact ⟨rfl, HB1.out⟩
  · skip
    cases h1 : inB tick 0 1000000
    · rw [show so1V parts zs tick = -1 by unfold so1V whoB; rw [h0, h1]; rfl, show so2V parts zs tick = -1 by unfold so2V whoB; rw [h0, h1]; rfl]
      go_enter Try.func30, Try.ntmps30
      go_wp2_with fail
      refine (sSlotsValid_is h0 _ (by omega) (HR.out.below (Nat.le_refl _) (by go_grown))).mono ?_
      rintro e w1 ⟨rfl, hb1⟩
      have HB1 := Lib.hid hb1
      have hs1 := hb1.size
      clear hb1
      go_wp2_with fail
      refine (l1In_is h1 _).mono ?_
      rintro e _ ⟨rfl, rfl⟩
      go_wp2
      go_ret2
      exact ⟨rfl, HB1.out⟩
    · skip
      rw [show so1V parts zs tick = (slotK zs (tick % ((frameL zs).length : Int)) : Int) by unfold so1V whoB; rw [h0, h1]; rfl]
      rw [show so2V parts zs tick = slotT zs (tick % ((frameL zs).length : Int)) by unfold so2V whoB; rw [h0, h1]; rfl]
      obtain ⟨hp0, hp5, hl1, hl12, htk⟩ := slotsOk_use h0
      rw [hlz.out] at hl1 hl12
      have hfb := frameL_bd htk
      rw [hlz.out] at hfb
      obtain ⟨N, hN⟩ : ∃ N, N = (frameL zs).length := ⟨_, rfl⟩
      rw [← hN] at hfb
      have hN1 : 1 ≤ N := by omega
      have hN2 : N ≤ 240 := by omega
      have HNF := Lib.hid hN
      have HTK := Lib.hid htk
      have hNz : ((N : Nat) : Int) ≠ 0 := by omega
      clear hN htk hfb
      obtain ⟨ht0, ht1⟩ := inB_true.1 h1
      obtain ⟨r, hr, hrN⟩ := mod_nat (a := tick) hN1
      go_enter Try.func30, Try.ntmps30
      go_wp2_with fail
      refine (sSlotsValid_is h0 _ (by omega) (HR.out.below (Nat.le_refl _) (by go_grown))).mono ?_
      rintro e w1 ⟨rfl, hb1⟩
      have HB1 := Lib.hid hb1
      have hs1 := hb1.size
      clear hb1
      go_wp2_with fail
      refine (l1In_is h1 _).mono ?_
      rintro e _ ⟨rfl, rfl⟩
      go_wp2_with fail
      refine (sFrameTicks_is h0 HNF.out _ hm (HR.out.below (Nat.le_refl _) HB1.out)).mono ?_
      rintro e w2 ⟨rfl, hb2⟩
      have HB2 := Lib.hid (Below.andThen HB1.out hb2)
      clear hb2
      go_wp2
      go_loopw [8, 9] (fun tt kk wr => ∃ (k t L : Nat), k ≤ n ∧ kk = .int .i64 (k : Int) ∧ tt = .int .i64 (t : Int) ∧ t ≤ r ∧ Hid (upto zs k = L) ∧ Hid (L + t = r) ∧ Hid ((slotK zs (r : Int) : Int) = (k : Int) + (slotK (zs.drop k) (t : Int) : Int)) ∧ Hid (slotT zs (r : Int) = slotT (zs.drop k) (t : Int)) ∧ Hid (Below w.heap.size w wr)) (fun _ kk _ => n - (intOf kk).toNat)
      case atStart => exact ⟨0, r, 0, Nat.zero_le _, rfl, by rw [hr], Nat.le_refl _, upto_zero zs, by show 0 + r = r; omega, by show (slotK zs (r : Int) : Int) = ((0 : Nat) : Int) + (slotK (zs.drop 0) (r : Int) : Int); simp, by show slotT zs (r : Int) = slotT (zs.drop 0) (r : Int); simp, HB2⟩
      case round =>
        obtain ⟨k, t, L, hk, rfl, rfl, htr, HL, HLT, HK, HTT, HB⟩ := hrel
        have hkn : k < n := by
          rcases Nat.lt_or_ge k n with h | h
          · exact h
          · have e : k = n := by omega
            have h7 := HL.out
            rw [e, ← hlz.out, upto_all, ← HNF.out] at h7
            have := HLT.out
            omega
        obtain ⟨b, o, p0, p1, rfl, hbl, hx, j0, j1⟩ := HR.out.slot hkn
        have c0 := (HB.out.cell (p := ⟨b, o + k * 2, none⟩) hbl).trans j0
        have c1 := (HB.out.cell (p := ⟨b, o + k * 2 + 1, none⟩) hbl).trans j1
        obtain ⟨hq1, hq2⟩ := HTK.out k p0 p1 hx
        obtain ⟨q, rfl⟩ : ∃ q : Nat, p1 = (q : Int) := ⟨p1.toNat, by omega⟩
        have HX := Lib.hid hx
        have H2 := Lib.hid (upto_succ hx)
        clear hx j0 j1
        by_cases hge : q ≤ t
        · have hge' : (q : Int) ≤ (t : Int) := by omega
          have hsub : ((t : Int) - (q : Int)) = ((t - q : Nat) : Int) := by omega
          have HS := Lib.hid hsub
          clear hsub
          go_wp2
          go_roundw
          case rel => exact ⟨k + 1, t - q, L + q, by omega, by go_num, by rw [HS.out], by omega, by show upto zs (k + 1) = _; rw [H2.out, HL.out]; rfl, by show L + q + (t - q) = r; have := HLT.out; omega, by show (slotK zs (r : Int) : Int) = ((k + 1 : Nat) : Int) + (slotK (zs.drop (k + 1)) ((t - q : Nat) : Int) : Int); rw [HK.out, drop_at HX.out, slotK, if_pos hge', HS.out]; omega, by show slotT zs (r : Int) = slotT (zs.drop (k + 1)) ((t - q : Nat) : Int); rw [HTT.out, drop_at HX.out, slotT, if_pos hge', HS.out], HB⟩
          case measure => simp [intOf]; omega
        · have hge' : ¬ (q : Int) ≤ (t : Int) := by omega
          have hwr : IntKind.i64.wrap ((q : Int) - (t : Int)) = (q : Int) - (t : Int) := IntWalk.i64_in _ (by omega)
          have hkI0 : (0 : Int) ≤ (k : Int) := by omega
          have hkI1 : (k : Int) < (n : Int) := by omega
          go_wp2
          go_quiet (fail)
          go_wp2
          go_ret2
          refine ⟨?_, below_drewN HB.out _⟩
          rw [← HNF.out, hr, HK.out, HTT.out, drop_at HX.out, slotK, slotT, if_neg (by simpa using hge'), if_neg (by simpa using hge')]
          simp
set_option maxRecDepth 100000 in
set_option maxHeartbeats 4000000 in
theorem iSlotOf_any (A : Option Addr) (n c : Nat) (zs : Slots) (parts : Int) (tick : Int) (w : World) (hm : n ≤ 1048576) (hr : Rd w 2 A n (slots zs)) :
    Calls Try.prog 31 #[.slice A n c, .int .i64 parts, .int .i64 tick] w fun e w' => e = .returned (.tuple #[.int .i64 (so1V parts zs tick), .int .i64 (so2V parts zs tick)]) ∧ Below w.heap.size w w' := by
  have hlz := Lib.hid hr.slotsLen
  have HR := Lib.hid hr
  clear hr
  cases h0 : slotsOk parts zs
  · rw [show so1V parts zs tick = -1 by unfold so1V whoB; rw [h0]; rfl, show so2V parts zs tick = -1 by unfold so2V whoB; rw [h0]; rfl]
    go_enter Try.func31, Try.ntmps31
    go_wp2_with fail
    refine (iSlotsValid_is h0 _ (by omega) (HR.out.below (Nat.le_refl _) (by go_grown))).mono ?_
    rintro e w1 ⟨rfl, hb1⟩
    have HB1 := Lib.hid hb1
    have hs1 := hb1.size
    clear hb1
    go_wp2
    go_ret2
    exact ⟨rfl, HB1.out⟩
  · skip
    cases h1 : inB tick 0 1000000
    · rw [show so1V parts zs tick = -1 by unfold so1V whoB; rw [h0, h1]; rfl, show so2V parts zs tick = -1 by unfold so2V whoB; rw [h0, h1]; rfl]
      go_enter Try.func31, Try.ntmps31
      go_wp2_with fail
      refine (iSlotsValid_is h0 _ (by omega) (HR.out.below (Nat.le_refl _) (by go_grown))).mono ?_
      rintro e w1 ⟨rfl, hb1⟩
      have HB1 := Lib.hid hb1
      have hs1 := hb1.size
      clear hb1
      go_wp2_with fail
      refine (in_is h1 _).mono ?_
      rintro e _ ⟨rfl, rfl⟩
      go_wp2
      go_ret2
      exact ⟨rfl, HB1.out⟩
    · skip
      rw [show so1V parts zs tick = (slotK zs (tick % ((frameL zs).length : Int)) : Int) by unfold so1V whoB; rw [h0, h1]; rfl]
      rw [show so2V parts zs tick = slotT zs (tick % ((frameL zs).length : Int)) by unfold so2V whoB; rw [h0, h1]; rfl]
      obtain ⟨hp0, hp5, hl1, hl12, htk⟩ := slotsOk_use h0
      rw [hlz.out] at hl1 hl12
      have hfb := frameL_bd htk
      rw [hlz.out] at hfb
      obtain ⟨N, hN⟩ : ∃ N, N = (frameL zs).length := ⟨_, rfl⟩
      rw [← hN] at hfb
      have hN1 : 1 ≤ N := by omega
      have hN2 : N ≤ 240 := by omega
      have HNF := Lib.hid hN
      have HTK := Lib.hid htk
      have hNz : ((N : Nat) : Int) ≠ 0 := by omega
      clear hN htk hfb
      obtain ⟨ht0, ht1⟩ := inB_true.1 h1
      obtain ⟨r, hr, hrN⟩ := mod_nat (a := tick) hN1
      go_enter Try.func31, Try.ntmps31
      go_wp2_with fail
      refine (iSlotsValid_is h0 _ (by omega) (HR.out.below (Nat.le_refl _) (by go_grown))).mono ?_
      rintro e w1 ⟨rfl, hb1⟩
      have HB1 := Lib.hid hb1
      have hs1 := hb1.size
      clear hb1
      go_wp2_with fail
      refine (in_is h1 _).mono ?_
      rintro e _ ⟨rfl, rfl⟩
      go_wp2_with fail
      refine (frame_is HNF.out _ hl12 HTK.out (HR.out.below (Nat.le_refl _) HB1.out)).mono ?_
      rintro e w2 ⟨B, d, rfl, hf2, hb2⟩
      have HB2 := Lib.hid (Below.andThen HB1.out hb2)
      have HF2 := Lib.hid hf2
      clear hf2 hb2
      go_wp2
      go_loopw [2, 8] (fun tt kk wr => ∃ (k t L : Nat), k ≤ n ∧ kk = .int .i64 (k : Int) ∧ tt = .int .i64 (t : Int) ∧ t ≤ r ∧ Hid (upto zs k = L) ∧ Hid (L + t = r) ∧ Hid ((slotK zs (r : Int) : Int) = (k : Int) + (slotK (zs.drop k) (t : Int) : Int)) ∧ Hid (slotT zs (r : Int) = slotT (zs.drop k) (t : Int)) ∧ Hid (Below w.heap.size w wr)) (fun _ kk _ => n - (intOf kk).toNat)
      case atStart => exact ⟨0, r, 0, Nat.zero_le _, rfl, by rw [hr], Nat.le_refl _, upto_zero zs, by show 0 + r = r; omega, by show (slotK zs (r : Int) : Int) = ((0 : Nat) : Int) + (slotK (zs.drop 0) (r : Int) : Int); simp, by show slotT zs (r : Int) = slotT (zs.drop 0) (r : Int); simp, HB2⟩
      case round =>
        obtain ⟨k, t, L, hk, rfl, rfl, htr, HL, HLT, HK, HTT, HB⟩ := hrel
        have hkn : k < n := by
          rcases Nat.lt_or_ge k n with h | h
          · exact h
          · have e : k = n := by omega
            have h7 := HL.out
            rw [e, ← hlz.out, upto_all, ← HNF.out] at h7
            have := HLT.out
            omega
        obtain ⟨b, o, p0, p1, rfl, hbl, hx, j0, j1⟩ := HR.out.slot hkn
        have c0 := (HB.out.cell (p := ⟨b, o + k * 2, none⟩) hbl).trans j0
        have c1 := (HB.out.cell (p := ⟨b, o + k * 2 + 1, none⟩) hbl).trans j1
        obtain ⟨hq1, hq2⟩ := HTK.out k p0 p1 hx
        obtain ⟨q, rfl⟩ : ∃ q : Nat, p1 = (q : Int) := ⟨p1.toNat, by omega⟩
        have HX := Lib.hid hx
        have H2 := Lib.hid (upto_succ hx)
        clear hx j0 j1
        by_cases hge : q ≤ t
        · have hge' : (q : Int) ≤ (t : Int) := by omega
          have hsub : ((t : Int) - (q : Int)) = ((t - q : Nat) : Int) := by omega
          have HS := Lib.hid hsub
          clear hsub
          go_wp2
          go_roundw
          case rel => exact ⟨k + 1, t - q, L + q, by omega, by go_num, by rw [HS.out], by omega, by show upto zs (k + 1) = _; rw [H2.out, HL.out]; rfl, by show L + q + (t - q) = r; have := HLT.out; omega, by show (slotK zs (r : Int) : Int) = ((k + 1 : Nat) : Int) + (slotK (zs.drop (k + 1)) ((t - q : Nat) : Int) : Int); rw [HK.out, drop_at HX.out, slotK, if_pos hge', HS.out]; omega, by show slotT zs (r : Int) = slotT (zs.drop (k + 1)) ((t - q : Nat) : Int); rw [HTT.out, drop_at HX.out, slotT, if_pos hge', HS.out], HB⟩
          case measure => simp [intOf]; omega
        · have hge' : ¬ (q : Int) ≤ (t : Int) := by omega
          have hwr : IntKind.i64.wrap ((q : Int) - (t : Int)) = (q : Int) - (t : Int) := IntWalk.i64_in _ (by omega)
          have hkI0 : (0 : Int) ≤ (k : Int) := by omega
          have hkI1 : (k : Int) < (n : Int) := by omega
          go_wp2
          go_quiet (fail)
          go_wp2
          go_ret2
          refine ⟨?_, below_drewN HB.out _⟩
          rw [← HNF.out, hr, HK.out, HTT.out, drop_at HX.out, slotK, slotT, if_neg (by simpa using hge'), if_neg (by simpa using hge')]
          simp
set_option maxRecDepth 100000 in
set_option maxHeartbeats 4000000 in
theorem sShareOf_any (A : Option Addr) (n c : Nat) (zs : Slots) (parts : Int) (p : Int) (w : World) (hm : n ≤ 1048576) (hr : Rd w 2 A n (slots zs)) :
    Calls Try.prog 32 #[.slice A n c, .int .i64 parts, .int .i64 p] w fun e w' => e = .returned (.int .i64 (shV parts zs p)) ∧ Below w.heap.size w w' := by
  have hlz := Lib.hid hr.slotsLen
  have HR := Lib.hid hr
  clear hr
  cases h0 : slotsOk parts zs
  · rw [show shV parts zs p = -1 by unfold shV shareB; rw [h0]; rfl]
    go_enter Try.func32, Try.ntmps32
    go_wp2_with fail
    refine (sSlotsValid_is h0 _ (by omega) (HR.out.below (Nat.le_refl _) (by go_grown))).mono ?_
    rintro e w1 ⟨rfl, hb1⟩
    have HB1 := Lib.hid hb1
    have hs1 := hb1.size
    clear hb1
    go_wp2
    go_ret
    exact ⟨rfl, HB1.out⟩
  · skip
    obtain ⟨hp0, hp5, _⟩ := slotsOk_use h0
    cases h1 : inB p 0 (parts - 1)
    · rw [show shV parts zs p = -1 by unfold shV shareB; rw [h0, h1]; rfl]
      go_enter Try.func32, Try.ntmps32
      go_wp2_with fail
      refine (sSlotsValid_is h0 _ (by omega) (HR.out.below (Nat.le_refl _) (by go_grown))).mono ?_
      rintro e w1 ⟨rfl, hb1⟩
      have HB1 := Lib.hid hb1
      have hs1 := hb1.size
      clear hb1
      go_wp2_with fail
      refine (l1In_is h1 _).mono ?_
      rintro e _ ⟨rfl, rfl⟩
      go_wp2
      go_ret
      exact ⟨rfl, HB1.out⟩
    · skip
      rw [show shV parts zs p = (cnt p (frameL zs) : Int) by unfold shV shareB; rw [h0, h1]; rfl]
      obtain ⟨hp0, hp5, hl1, hl12, htk⟩ := slotsOk_use h0
      rw [hlz.out] at hl1 hl12
      have hfb := frameL_bd htk
      rw [hlz.out] at hfb
      obtain ⟨N, hN⟩ : ∃ N, N = (frameL zs).length := ⟨_, rfl⟩
      rw [← hN] at hfb
      have hN1 : 1 ≤ N := by omega
      have hN2 : N ≤ 240 := by omega
      have HNF := Lib.hid hN
      have HTK := Lib.hid htk
      have hNz : ((N : Nat) : Int) ≠ 0 := by omega
      clear hN htk hfb
      obtain ⟨hn0, hn1⟩ := inB_true.1 h1
      go_enter Try.func32, Try.ntmps32
      go_wp2_with fail
      refine (sSlotsValid_is h0 _ (by omega) (HR.out.below (Nat.le_refl _) (by go_grown))).mono ?_
      rintro e w1 ⟨rfl, hb1⟩
      have HB1 := Lib.hid hb1
      have hs1 := hb1.size
      clear hb1
      go_wp2_with fail
      refine (l1In_is h1 _).mono ?_
      rintro e _ ⟨rfl, rfl⟩
      go_wp2
      go_loopw [7, 8] (fun v i wr => ∃ (k a : Nat), k ≤ n ∧ i = .int .i64 k ∧ v = .int .i64 (a : Int) ∧ a ≤ 20 * k ∧ Hid (cnt p (frameL (zs.take k)) = a) ∧ Hid (Below w.heap.size w wr)) (fun _ i _ => n - (intOf i).toNat)
      case atStart => exact ⟨0, 0, Nat.zero_le _, rfl, rfl, by omega, by show _ = 0; simp [frameL, cnt], HB1⟩
      case round =>
        obtain ⟨k, a, hk, rfl, rfl, ha, HC, HB⟩ := hrel
        by_cases hlt : k < n
        · obtain ⟨b, o, p0, p1, rfl, hbl, hx, j0, j1⟩ := HR.out.slot hlt
          have c0 := (HB.out.cell (p := ⟨b, o + k * 2, none⟩) hbl).trans j0
          have c1 := (HB.out.cell (p := ⟨b, o + k * 2 + 1, none⟩) hbl).trans j1
          obtain ⟨hq1, hq2⟩ := HTK.out k p0 p1 hx
          obtain ⟨q, rfl⟩ : ∃ q : Nat, p1 = (q : Int) := ⟨p1.toNat, by omega⟩
          have H2 := Lib.hid (cnt_slot p hx)
          clear hx j0 j1
          by_cases he : p0 = p
          · subst he
            go_wp2
            go_roundw
            case rel => exact ⟨k + 1, a + q, by omega, by go_num, by go_num, by omega, by show cnt _ _ = _; rw [H2.out, HC.out, if_pos rfl]; rfl, HB⟩
            case measure => simp [intOf]; omega
          · have hd : (p0 == p) = false := by simpa using he
            go_wp2
            go_roundw
            case rel => exact ⟨k + 1, a, by omega, by go_num, rfl, by omega, by show cnt _ _ = _; rw [H2.out, HC.out, if_neg he]; rfl, HB⟩
            case measure => simp [intOf]; omega
        · have hkn : k = n := by omega
          go_wp2
          go_ret
          refine ⟨ret_int ?_, HB.out⟩
          rw [← HC.out, hkn, ← hlz.out, List.take_length]
theorem cnt_min {zs : Slots} {i r : Nat} {x : Int} (p : Int) (h : (frameL zs)[i]? = some x) : cnt p ((frameL zs).take (min (i + 1) r)) = cnt p ((frameL zs).take (min i r)) + if i < r ∧ x = p then 1 else 0 := by
  by_cases hi : i < r
  · rw [show min (i + 1) r = i + 1 by omega, show min i r = i by omega, take_snoc h, cnt_snoc]
    simp [hi]
  · rw [show min (i + 1) r = r by omega, show min i r = r by omega]
    simp [hi]
theorem cnt_one {zs : Slots} {i : Nat} {x : Int} (p : Int) (h : (frameL zs)[i]? = some x) : cnt p ((frameL zs).take (i + 1)) = cnt p ((frameL zs).take i) + if x = p then 1 else 0 := by
  rw [take_snoc h, cnt_snoc]
set_option maxRecDepth 100000 in
set_option maxHeartbeats 4000000 in
theorem own_any (A : Option Addr) (n c N : Nat) (zs : Slots) (p tick : Int) (w : World) (hN : N = (frameL zs).length) (hN1 : 1 ≤ N) (hN2 : N ≤ 240) (h0 : 0 ≤ tick) (h1 : tick ≤ 1000000) (hm : n ≤ 12) (ht : ticksOk zs) (hr : Rd w 2 A n (slots zs)) :
    Calls Try.prog 58 #[.slice A n c, .int .i64 p, .int .i64 tick] w fun e w' => e = .returned (.int .i64 (ownV zs p tick)) ∧ Below w.heap.size w w' := by
  have HV : Hid (ownV zs p tick = tick / (N : Int) * (cnt p (frameL zs) : Int) + (cnt p ((frameL zs).take (tick % (N : Int)).toNat) : Int)) := by show _ = _; rw [hN]; rfl
  have HNF := Lib.hid hN
  have HR := Lib.hid hr
  have HTK := Lib.hid ht
  have hNz : ((N : Nat) : Int) ≠ 0 := by omega
  obtain ⟨r, hr, hrN⟩ := mod_nat (a := tick) hN1
  obtain ⟨q, hq, hqb⟩ : ∃ q : Nat, tick / (N : Int) = (q : Int) ∧ q ≤ 1000000 := ⟨(tick / (N : Int)).toNat, by have := Int.ediv_nonneg h0 (show (0 : Int) ≤ (N : Int) by omega); omega, by have := Int.ediv_le_self (N : Int) h0; omega⟩
  clear hN ht
  go_enter Try.func58, Try.ntmps58
  go_wp2_with fail
  refine (frame_is HNF.out _ hm HTK.out HR.out).mono ?_
  rintro e w2 ⟨B, d, rfl, hf2, hb2⟩
  have HB2 := Lib.hid hb2
  have HF2 := Lib.hid hf2
  obtain ⟨g, rfl, _⟩ := hf2.frameAt hrN
  clear hf2 hb2
  go_wp2
  go_loop [8, 9, 16] (fun aa bb ii => ∃ (i a b : Nat), i ≤ N ∧ ii = .int .i64 (i : Int) ∧ aa = .int .i64 (a : Int) ∧ bb = .int .i64 (b : Int) ∧ a ≤ i ∧ b ≤ i ∧ Hid (cnt p ((frameL zs).take i) = a) ∧ Hid (cnt p ((frameL zs).take (min i r)) = b)) (fun _ _ ii => N - (intOf ii).toNat)
  case atStart => exact ⟨0, 0, 0, Nat.zero_le _, rfl, rfl, rfl, Nat.le_refl _, Nat.le_refl _, by show _ = 0; simp [cnt], by show _ = 0; simp [cnt]⟩
  case round =>
    obtain ⟨i, a, b, hi, rfl, rfl, rfl, ha, hb, HA, HBB⟩ := hrel
    by_cases hlt : i < N
    · obtain ⟨g2, hg2, _, _, hc⟩ := HF2.out.frameAt hlt
      injection hg2 with hg2
      injection hg2 with hg2
      subst hg2
      have hx := frame_at HNF.out hlt
      obtain ⟨x, hxe⟩ : ∃ x, x = frameAt zs i := ⟨_, rfl⟩
      rw [← hxe] at hc hx
      have H1 := Lib.hid (cnt_one p hx)
      have H2 := Lib.hid (cnt_min (r := r) p hx)
      clear hx hxe
      by_cases he : x = p
      · subst he
        by_cases hir : i < r
        · go_wp2
          go_round
          case rel => exact ⟨i + 1, a + 1, b + 1, by omega, by go_num, by go_num, by go_num, by omega, by omega, by show cnt _ _ = _; rw [H1.out, HA.out, if_pos rfl], by show cnt _ _ = _; rw [H2.out, HBB.out, if_pos ⟨hir, rfl⟩]⟩
          case measure => simp [intOf]; omega
        · go_wp2
          go_round
          case rel => exact ⟨i + 1, a + 1, b, by omega, by go_num, by go_num, rfl, by omega, by omega, by show cnt _ _ = _; rw [H1.out, HA.out, if_pos rfl], by show cnt _ _ = _; rw [H2.out, HBB.out, if_neg (fun h => hir h.1)]; rfl⟩
          case measure => simp [intOf]; omega
      · have hd : (x == p) = false := by simpa using he
        go_wp2
        go_round
        case rel => exact ⟨i + 1, a, b, by omega, by go_num, rfl, rfl, by omega, by omega, by show cnt _ _ = _; rw [H1.out, HA.out, if_neg he]; rfl, by show cnt _ _ = _; rw [H2.out, HBB.out, if_neg (fun h => he h.2)]; rfl⟩
        case measure => simp [intOf]; omega
    · have hiN : i = N := by omega
      have h7 := HA.out
      have h8 := HBB.out
      rw [hiN, HNF.out, List.take_length] at h7
      rw [hiN, show min N r = r by omega] at h8
      have H7 := Lib.hid h7
      have H8 := Lib.hid h8
      clear h7 h8
      have hqa : (q : Int) * (a : Int) ≤ 240000000 := by have h2 : ((q * a : Nat) : Int) ≤ ((1000000 * 240 : Nat) : Int) := Int.ofNat_le.2 (Nat.mul_le_mul hqb (by omega)); rw [Int.natCast_mul] at h2; omega
      have hqa0 : 0 ≤ (q : Int) * (a : Int) := Int.mul_nonneg (by omega) (by omega)
      go_wp2
      go_ret
      refine ⟨ret_int ?_, HB2.out⟩
      rw [HV.out, hq, hr, H7.out, Int.toNat_natCast, H8.out]
set_option maxRecDepth 100000 in
set_option maxHeartbeats 4000000 in
theorem iShareOf_any (A : Option Addr) (n c : Nat) (zs : Slots) (parts : Int) (p : Int) (w : World) (hm : n ≤ 1048576) (hr : Rd w 2 A n (slots zs)) :
    Calls Try.prog 33 #[.slice A n c, .int .i64 parts, .int .i64 p] w fun e w' => e = .returned (.int .i64 (shV parts zs p)) ∧ Below w.heap.size w w' := by
  have hlz := Lib.hid hr.slotsLen
  have HR := Lib.hid hr
  clear hr
  cases h0 : slotsOk parts zs
  · rw [show shV parts zs p = -1 by unfold shV shareB; rw [h0]; rfl]
    go_enter Try.func33, Try.ntmps33
    go_wp2_with fail
    refine (iSlotsValid_is h0 _ (by omega) (HR.out.below (Nat.le_refl _) (by go_grown))).mono ?_
    rintro e w1 ⟨rfl, hb1⟩
    have HB1 := Lib.hid hb1
    have hs1 := hb1.size
    clear hb1
    go_wp2
    go_ret
    exact ⟨rfl, HB1.out⟩
  · skip
    obtain ⟨hp0, hp5, _⟩ := slotsOk_use h0
    cases h1 : inB p 0 (parts - 1)
    · rw [show shV parts zs p = -1 by unfold shV shareB; rw [h0, h1]; rfl]
      go_enter Try.func33, Try.ntmps33
      go_wp2_with fail
      refine (iSlotsValid_is h0 _ (by omega) (HR.out.below (Nat.le_refl _) (by go_grown))).mono ?_
      rintro e w1 ⟨rfl, hb1⟩
      have HB1 := Lib.hid hb1
      have hs1 := hb1.size
      clear hb1
      go_wp2_with fail
      refine (in_is h1 _).mono ?_
      rintro e _ ⟨rfl, rfl⟩
      go_wp2
      go_ret
      exact ⟨rfl, HB1.out⟩
    · skip
      rw [show shV parts zs p = (cnt p (frameL zs) : Int) by unfold shV shareB; rw [h0, h1]; rfl]
      obtain ⟨hp0, hp5, hl1, hl12, htk⟩ := slotsOk_use h0
      rw [hlz.out] at hl1 hl12
      have hfb := frameL_bd htk
      rw [hlz.out] at hfb
      obtain ⟨N, hN⟩ : ∃ N, N = (frameL zs).length := ⟨_, rfl⟩
      rw [← hN] at hfb
      have hN1 : 1 ≤ N := by omega
      have hN2 : N ≤ 240 := by omega
      have HNF := Lib.hid hN
      have HTK := Lib.hid htk
      have hNz : ((N : Nat) : Int) ≠ 0 := by omega
      clear hN htk hfb
      obtain ⟨hn0, hn1⟩ := inB_true.1 h1
      go_enter Try.func33, Try.ntmps33
      go_wp2_with fail
      refine (iSlotsValid_is h0 _ (by omega) (HR.out.below (Nat.le_refl _) (by go_grown))).mono ?_
      rintro e w1 ⟨rfl, hb1⟩
      have HB1 := Lib.hid hb1
      have hs1 := hb1.size
      clear hb1
      go_wp2_with fail
      refine (in_is h1 _).mono ?_
      rintro e _ ⟨rfl, rfl⟩
      go_wp2_with fail
      refine (frame_is HNF.out _ hl12 HTK.out (HR.out.below (Nat.le_refl _) HB1.out)).mono ?_
      rintro e w2 ⟨B, d, rfl, hf2, hb2⟩
      have HB2 := Lib.hid (Below.andThen HB1.out hb2)
      have HF2 := Lib.hid hf2
      clear hf2 hb2
      go_wp2_with fail
      refine (own_any A n c N zs p (N : Int) _ HNF.out hN1 hN2 (by omega) (by omega) hl12 HTK.out (HR.out.below (Nat.le_refl _) HB2.out)).mono ?_
      rintro e w3 ⟨rfl, hb3⟩
      have HB3 := Lib.hid (Below.andThen HB2.out hb3)
      clear hb3
      go_wp2
      go_ret
      refine ⟨ret_int ?_, HB3.out⟩
      unfold ownV
      rw [← HNF.out, Int.ediv_self hNz, Int.emod_self]
      simp [cnt]
set_option maxRecDepth 100000 in
set_option maxHeartbeats 4000000 in
theorem iOwnTicks_any (A : Option Addr) (n c : Nat) (zs : Slots) (parts : Int) (p : Int) (tick : Int) (w : World) (hm : n ≤ 1048576) (hr : Rd w 2 A n (slots zs)) :
    Calls Try.prog 25 #[.slice A n c, .int .i64 parts, .int .i64 p, .int .i64 tick] w fun e w' => e = .returned (.int .i64 (otV parts zs p tick)) ∧ Below w.heap.size w w' := by
  have hlz := Lib.hid hr.slotsLen
  have HR := Lib.hid hr
  clear hr
  cases h0 : slotsOk parts zs
  · rw [show otV parts zs p tick = -1 by unfold otV ownB; rw [h0]; rfl]
    go_enter Try.func25, Try.ntmps25
    go_wp2_with fail
    refine (iSlotsValid_is h0 _ (by omega) (HR.out.below (Nat.le_refl _) (by go_grown))).mono ?_
    rintro e w1 ⟨rfl, hb1⟩
    have HB1 := Lib.hid hb1
    have hs1 := hb1.size
    clear hb1
    go_wp2
    go_ret
    exact ⟨rfl, HB1.out⟩
  · skip
    obtain ⟨hp0, hp5, _⟩ := slotsOk_use h0
    cases h1 : inB p 0 (parts - 1)
    · rw [show otV parts zs p tick = -1 by unfold otV ownB; rw [h0, h1]; rfl]
      go_enter Try.func25, Try.ntmps25
      go_wp2_with fail
      refine (iSlotsValid_is h0 _ (by omega) (HR.out.below (Nat.le_refl _) (by go_grown))).mono ?_
      rintro e w1 ⟨rfl, hb1⟩
      have HB1 := Lib.hid hb1
      have hs1 := hb1.size
      clear hb1
      go_wp2_with fail
      refine (in_is h1 _).mono ?_
      rintro e _ ⟨rfl, rfl⟩
      go_wp2
      go_ret
      exact ⟨rfl, HB1.out⟩
    · skip
      cases h2 : inB tick 0 1000000
      · rw [show otV parts zs p tick = -1 by unfold otV ownB; rw [h0, h1, h2]; rfl]
        go_enter Try.func25, Try.ntmps25
        go_wp2_with fail
        refine (iSlotsValid_is h0 _ (by omega) (HR.out.below (Nat.le_refl _) (by go_grown))).mono ?_
        rintro e w1 ⟨rfl, hb1⟩
        have HB1 := Lib.hid hb1
        have hs1 := hb1.size
        clear hb1
        go_wp2_with fail
        refine (in_is h1 _).mono ?_
        rintro e _ ⟨rfl, rfl⟩
        go_wp2_with fail
        refine (in_is h2 _).mono ?_
        rintro e _ ⟨rfl, rfl⟩
        go_wp2
        go_ret
        exact ⟨rfl, HB1.out⟩
      · skip
        rw [show otV parts zs p tick = ownV zs p tick by unfold otV ownB; rw [h0, h1, h2]; rfl]
        obtain ⟨hp0, hp5, hl1, hl12, htk⟩ := slotsOk_use h0
        rw [hlz.out] at hl1 hl12
        have hfb := frameL_bd htk
        rw [hlz.out] at hfb
        obtain ⟨N, hN⟩ : ∃ N, N = (frameL zs).length := ⟨_, rfl⟩
        rw [← hN] at hfb
        have hN1 : 1 ≤ N := by omega
        have hN2 : N ≤ 240 := by omega
        have HNF := Lib.hid hN
        have HTK := Lib.hid htk
        have hNz : ((N : Nat) : Int) ≠ 0 := by omega
        clear hN htk hfb
        obtain ⟨hn0, hn1⟩ := inB_true.1 h1
        obtain ⟨ht0, ht1⟩ := inB_true.1 h2
        go_enter Try.func25, Try.ntmps25
        go_wp2_with fail
        refine (iSlotsValid_is h0 _ (by omega) (HR.out.below (Nat.le_refl _) (by go_grown))).mono ?_
        rintro e w1 ⟨rfl, hb1⟩
        have HB1 := Lib.hid hb1
        have hs1 := hb1.size
        clear hb1
        go_wp2_with fail
        refine (in_is h1 _).mono ?_
        rintro e _ ⟨rfl, rfl⟩
        go_wp2_with fail
        refine (in_is h2 _).mono ?_
        rintro e _ ⟨rfl, rfl⟩
        go_wp2_with fail
        refine (own_any A n c N zs p tick _ HNF.out hN1 hN2 ht0 ht1 hl12 HTK.out (HR.out.below (Nat.le_refl _) HB1.out)).mono ?_
        rintro e w3 ⟨rfl, hb3⟩
        have HB3 := Lib.hid (Below.andThen HB1.out hb3)
        clear hb3
        go_wp2
        go_ret
        exact ⟨rfl, HB3.out⟩
set_option maxRecDepth 100000 in
set_option maxHeartbeats 4000000 in
theorem sOwnTicks_any (A : Option Addr) (n c : Nat) (zs : Slots) (parts : Int) (p : Int) (tick : Int) (w : World) (hm : n ≤ 1048576) (hr : Rd w 2 A n (slots zs)) :
    Calls Try.prog 24 #[.slice A n c, .int .i64 parts, .int .i64 p, .int .i64 tick] w fun e w' => e = .returned (.int .i64 (otV parts zs p tick)) ∧ Below w.heap.size w w' := by
  have hlz := Lib.hid hr.slotsLen
  have HR := Lib.hid hr
  clear hr
  cases h0 : slotsOk parts zs
  · rw [show otV parts zs p tick = -1 by unfold otV ownB; rw [h0]; rfl]
    go_enter Try.func24, Try.ntmps24
    go_wp2_with fail
    refine (sSlotsValid_is h0 _ (by omega) (HR.out.below (Nat.le_refl _) (by go_grown))).mono ?_
    rintro e w1 ⟨rfl, hb1⟩
    have HB1 := Lib.hid hb1
    have hs1 := hb1.size
    clear hb1
    go_wp2
    go_ret
    exact ⟨rfl, HB1.out⟩
  · skip
    obtain ⟨hp0, hp5, _⟩ := slotsOk_use h0
    cases h1 : inB p 0 (parts - 1)
    · rw [show otV parts zs p tick = -1 by unfold otV ownB; rw [h0, h1]; rfl]
      go_enter Try.func24, Try.ntmps24
      go_wp2_with fail
      refine (sSlotsValid_is h0 _ (by omega) (HR.out.below (Nat.le_refl _) (by go_grown))).mono ?_
      rintro e w1 ⟨rfl, hb1⟩
      have HB1 := Lib.hid hb1
      have hs1 := hb1.size
      clear hb1
      go_wp2_with fail
      refine (l1In_is h1 _).mono ?_
      rintro e _ ⟨rfl, rfl⟩
      go_wp2
      go_ret
      exact ⟨rfl, HB1.out⟩
    · skip
      cases h2 : inB tick 0 1000000
      · rw [show otV parts zs p tick = -1 by unfold otV ownB; rw [h0, h1, h2]; rfl]
        go_enter Try.func24, Try.ntmps24
        go_wp2_with fail
        refine (sSlotsValid_is h0 _ (by omega) (HR.out.below (Nat.le_refl _) (by go_grown))).mono ?_
        rintro e w1 ⟨rfl, hb1⟩
        have HB1 := Lib.hid hb1
        have hs1 := hb1.size
        clear hb1
        go_wp2_with fail
        refine (l1In_is h1 _).mono ?_
        rintro e _ ⟨rfl, rfl⟩
        go_wp2_with fail
        refine (l1In_is h2 _).mono ?_
        rintro e _ ⟨rfl, rfl⟩
        go_wp2
        go_ret
        exact ⟨rfl, HB1.out⟩
      · skip
        rw [show otV parts zs p tick = ownV zs p tick by unfold otV ownB; rw [h0, h1, h2]; rfl]
        obtain ⟨hp0, hp5, hl1, hl12, htk⟩ := slotsOk_use h0
        rw [hlz.out] at hl1 hl12
        have hfb := frameL_bd htk
        rw [hlz.out] at hfb
        obtain ⟨N, hN⟩ : ∃ N, N = (frameL zs).length := ⟨_, rfl⟩
        rw [← hN] at hfb
        have hN1 : 1 ≤ N := by omega
        have hN2 : N ≤ 240 := by omega
        have HNF := Lib.hid hN
        have HTK := Lib.hid htk
        have hNz : ((N : Nat) : Int) ≠ 0 := by omega
        clear hN htk hfb
        obtain ⟨hn0, hn1⟩ := inB_true.1 h1
        obtain ⟨ht0, ht1⟩ := inB_true.1 h2
        obtain ⟨r, hr, hrN⟩ := mod_nat (a := tick) hN1
        obtain ⟨q, hq, hqb⟩ : ∃ q : Nat, tick / (N : Int) = (q : Int) ∧ q ≤ 1000000 := ⟨(tick / (N : Int)).toNat, by have := Int.ediv_nonneg ht0 (show (0 : Int) ≤ (N : Int) by omega); omega, by have := Int.ediv_le_self (N : Int) ht0; omega⟩
        go_enter Try.func24, Try.ntmps24
        go_wp2_with fail
        refine (sSlotsValid_is h0 _ (by omega) (HR.out.below (Nat.le_refl _) (by go_grown))).mono ?_
        rintro e w1 ⟨rfl, hb1⟩
        have HB1 := Lib.hid hb1
        have hs1 := hb1.size
        clear hb1
        go_wp2_with fail
        refine (l1In_is h1 _).mono ?_
        rintro e _ ⟨rfl, rfl⟩
        go_wp2_with fail
        refine (l1In_is h2 _).mono ?_
        rintro e _ ⟨rfl, rfl⟩
        go_wp2_with fail
        refine (sFrameTicks_is h0 HNF.out _ hm (HR.out.below (Nat.le_refl _) HB1.out)).mono ?_
        rintro e w2 ⟨rfl, hb2⟩
        have HB2 := Lib.hid (Below.andThen HB1.out hb2)
        clear hb2
        go_wp2
        go_loopw [10, 11, 12, 13] (fun aa bb tt i wr => ∃ (k a b L : Nat), k ≤ n ∧ i = .int .i64 (k : Int) ∧ aa = .int .i64 (a : Int) ∧ bb = .int .i64 (b : Int) ∧ tt = .int .i64 (L : Int) ∧ a ≤ 20 * k ∧ b ≤ 20 * k ∧ L ≤ 20 * k ∧ Hid (upto zs k = L) ∧ Hid (cnt p (frameL (zs.take k)) = a) ∧ Hid (cnt p ((frameL (zs.take k)).take r) = b) ∧ Hid (Below w.heap.size w wr)) (fun _ _ _ i _ => n - (intOf i).toNat)
        case atStart => exact ⟨0, 0, 0, 0, Nat.zero_le _, rfl, rfl, rfl, rfl, by omega, by omega, by omega, upto_zero zs, by show _ = 0; simp [frameL, cnt], by show _ = 0; simp [frameL, cnt], HB2⟩
        case round =>
          obtain ⟨k, a, b, L, hk, rfl, rfl, rfl, rfl, ha, hb, hL, HL, HA, HBB, HB⟩ := hrel
          by_cases hlt : k < n
          · obtain ⟨bl, o, p0, p1, rfl, hbl, hx, j0, j1⟩ := HR.out.slot hlt
            have c0 := (HB.out.cell (p := ⟨bl, o + k * 2, none⟩) hbl).trans j0
            have c1 := (HB.out.cell (p := ⟨bl, o + k * 2 + 1, none⟩) hbl).trans j1
            obtain ⟨hq1, hq2⟩ := HTK.out k p0 p1 hx
            obtain ⟨q, rfl⟩ : ∃ q : Nat, p1 = (q : Int) := ⟨p1.toNat, by omega⟩
            have HU := Lib.hid (upto_succ hx)
            have H1 := Lib.hid (cnt_slot p hx)
            have H2 := Lib.hid (cnt_rest p r hx)
            clear hx j0 j1
            by_cases he : p0 = p
            · subst he
              have hkI0 : (0 : Int) ≤ (k : Int) := by omega
              have hkI1 : (k : Int) < (n : Int) := by omega
              have hwr : IntKind.i64.wrap ((r : Int) - (L : Int)) = (r : Int) - (L : Int) := IntWalk.i64_in _ (by omega)
              obtain ⟨m, hmin⟩ : ∃ m, m = min q (r - L) := ⟨_, rfl⟩
              have hite : (if (0 : Int) < if (r : Int) - (L : Int) < (q : Int) then (r : Int) - (L : Int) else (q : Int) then if (r : Int) - (L : Int) < (q : Int) then (r : Int) - (L : Int) else (q : Int) else 0) = (m : Int) := by
                rw [hmin]
                by_cases e1 : (r : Int) - (L : Int) < (q : Int)
                · rw [if_pos e1]
                  by_cases e2 : (0 : Int) < (r : Int) - (L : Int)
                  · rw [if_pos e2]; omega
                  · rw [if_neg e2]; omega
                · rw [if_neg e1]
                  by_cases e2 : (0 : Int) < (q : Int)
                  · rw [if_pos e2]; omega
                  · rw [if_neg e2]; omega
              have hm20 : m ≤ 20 := by omega
              have hwb : IntKind.i64.wrap ((b : Int) + (m : Int)) = ((b + m : Nat) : Int) := by rw [IntWalk.i64_in _ (by omega)]; omega
              have htm : tick.tmod (N : Int) = (r : Int) := by rw [Int.tmod_eq_emod_of_nonneg ht0]; exact hr
              have G1 : Hid (cnt p0 (frameL (zs.take (k + 1))) = a + q) := by show _ = _; rw [H1.out, HA.out, if_pos rfl]; rfl
              have G2 : Hid (cnt p0 ((frameL (zs.take (k + 1))).take r) = b + m) := by show _ = _; rw [H2.out, HBB.out, if_pos rfl, HL.out, hmin]; rfl
              clear hmin H1 H2
              go_wp2
              go_quiet (fail)
              go_wp2
              go_roundw
              case rel => exact ⟨k + 1, a + q, b + m, L + q, by omega, by go_num, by go_num, rfl, by go_num, by omega, by omega, by omega, by show upto zs (k + 1) = _; rw [HU.out, HL.out]; rfl, G1, G2, below_drewN HB.out _⟩
              case measure => simp [intOf]; omega
            · have hd : (p0 == p) = false := by simpa using he
              go_wp2
              go_roundw
              case rel => exact ⟨k + 1, a, b, L + q, by omega, by go_num, rfl, rfl, by go_num, by omega, by omega, by omega, by show upto zs (k + 1) = _; rw [HU.out, HL.out]; rfl, by show cnt _ _ = _; rw [H1.out, HA.out, if_neg he]; rfl, by show cnt _ _ = _; rw [H2.out, HBB.out, if_neg he]; rfl, HB⟩
              case measure => simp [intOf]; omega
          · have hkn : k = n := by omega
            have h7 := HA.out
            have h8 := HBB.out
            rw [hkn, ← hlz.out, List.take_length] at h7 h8
            have H7 := Lib.hid h7
            have H8 := Lib.hid h8
            clear h7 h8
            have hqa : (q : Int) * (a : Int) ≤ 240000000 := by have h2 : ((q * a : Nat) : Int) ≤ ((1000000 * 240 : Nat) : Int) := Int.ofNat_le.2 (Nat.mul_le_mul hqb (by omega)); rw [Int.natCast_mul] at h2; omega
            have hqa0 : 0 ≤ (q : Int) * (a : Int) := Int.mul_nonneg (by omega) (by omega)
            go_wp2
            go_ret
            refine ⟨ret_int ?_, HB.out⟩
            unfold ownV
            rw [← HNF.out, hq, hr, H7.out, Int.toNat_natCast, H8.out]
end Go.Proofs.Ytifhhnifdggmpaa
