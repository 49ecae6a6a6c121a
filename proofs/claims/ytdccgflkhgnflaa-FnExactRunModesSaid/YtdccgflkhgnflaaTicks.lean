/-
  CONTRACTS of the functions on frames: FrameTicks, WhoRuns, OwnTicks, NextOwn, FrameOf, SlotOf, ShareOf, LongestGap.
  Conditions: none beyond those that each states.
-/
import Derived.Test.YtdccgflkhgnflaaTicksM
import Derived.IntWalk
namespace Go.Proofs.Ytdccgflkhgnflaa
open Go.ChangeShapes Go.WideShapes Go.ChangeAt Go.RowKit Go.Joins
set_option linter.unusedVariables false

def ftV (parts : Int) (zs : Slots) : Int := if slotsOk parts zs = true then ((frameL zs).length : Int) else -1
def otV (parts : Int) (zs : Slots) (n tick : Int) : Int := if ownB parts zs n tick = true then ownV zs n tick else -1
def noV (parts : Int) (zs : Slots) (n tick : Int) : Int := if ownB parts zs n tick = true then nextV zs n tick else -1
def fo1V (parts : Int) (zs : Slots) (tick : Int) : Int := if whoB parts zs tick = true then tick / ((frameL zs).length : Int) else -1
def fo2V (parts : Int) (zs : Slots) (tick : Int) : Int := if whoB parts zs tick = true then tick / ((frameL zs).length : Int) * ((frameL zs).length : Int) else -1
def so1V (parts : Int) (zs : Slots) (tick : Int) : Int := if whoB parts zs tick = true then (slotK zs (tick % ((frameL zs).length : Int)) : Int) else -1
def so2V (parts : Int) (zs : Slots) (tick : Int) : Int := if whoB parts zs tick = true then slotT zs (tick % ((frameL zs).length : Int)) else -1
def shV (parts : Int) (zs : Slots) (n : Int) : Int := if shareB parts zs n = true then (cnt n (frameL zs) : Int) else -1
def lgV (parts : Int) (zs : Slots) (n : Int) : Int := if shV parts zs n < 1 then -1 else (gapF zs n (2 * (frameL zs).length)).2
theorem sSlotsValid_is {A : Option Addr} {n c : Nat} {zs : Slots} {parts : Int} {b : Bool} (h : slotsOk parts zs = b) (w : World) (hm : n ≤ 1048577) (hr : Rd w 2 A n (slots zs)) :
    Calls Try.prog 29 #[.slice A n c, .int .i64 parts] w fun e w' => e = .returned (.bool b) ∧ Below w.heap.size w w' := h ▸ sSlotsValid_any A n c zs parts w hm hr
theorem iSlotsValid_is {A : Option Addr} {n c : Nat} {zs : Slots} {parts : Int} {b : Bool} (h : slotsOk parts zs = b) (w : World) (hm : n ≤ 1048577) (hr : Rd w 2 A n (slots zs)) :
    Calls Try.prog 37 #[.slice A n c, .int .i64 parts] w fun e w' => e = .returned (.bool b) ∧ Below w.heap.size w w' := h ▸ iSlotsValid_any A n c zs parts w hm hr
theorem frame_is {A : Option Addr} {n c N : Nat} {zs : Slots} (hN : N = (frameL zs).length) (w : World) (hm : n ≤ 12) (ht : ticksOk zs) (hr : Rd w 2 A n (slots zs)) :
    Calls Try.prog 22 #[.slice A n c] w fun e w' => ∃ B d, e = .returned (.slice B N d) ∧ Fr w' w.heap.size w'.heap.size 3 1 B N (ints (frameL zs)) ∧ Below w.heap.size w w' := by
  subst hN
  exact frame_any A n c zs w hm ht hr
theorem Fr.frameAt {w : World} {lo hi N r : Nat} {B : Option Addr} {zs : Slots} (hf : Fr w lo hi 3 1 B N (ints (frameL zs))) (hr : r < N) :
    ∃ g, B = some ⟨g, 0, none⟩ ∧ lo ≤ g ∧ g < hi ∧ w.cell? ⟨g, r, none⟩ = some (.int .i64 (frameAt zs r)) := by
  obtain ⟨g, hB, h1, h2, hc, _⟩ := hf.use (by omega)
  have hl : (frameL zs).length = N := by have := hf.1; simpa [ints] using this
  exact ⟨g, hB, h1, h2, hc r _ (by rw [ints_at, frame_at hl.symm hr]; rfl)⟩

set_option maxRecDepth 100000 in
set_option maxHeartbeats 4000000 in
theorem sFrameTicks_any (A : Option Addr) (n c : Nat) (zs : Slots) (parts : Int) (w : World) (hm : n ≤ 1048576) (hr : Rd w 2 A n (slots zs)) :
    Calls Try.prog 17 #[.slice A n c, .int .i64 parts] w fun e w' => e = .returned (.int .i64 (ftV parts zs)) ∧ Below w.heap.size w w' := by
  have hlz := Lib.hid hr.slotsLen
  have HR := Lib.hid hr
  clear hr
  cases h0 : slotsOk parts zs
  · rw [show ftV parts zs = -1 by unfold ftV; rw [h0]; rfl]
    go_enter Try.func17, Try.ntmps17
    go_wp2_with fail
    refine (sSlotsValid_is h0 _ (by omega) (HR.out.below (Nat.le_refl _) (by go_grown))).mono ?_
    rintro e w1 ⟨rfl, hb1⟩
    have HB1 := Lib.hid hb1
    have hs1 := hb1.size
    clear hb1
    go_wp2
    go_ret
    exact ⟨rfl, HB1.out⟩
  · skip
    rw [show ftV parts zs = ((frameL zs).length : Int) by unfold ftV; rw [h0]; rfl]
    obtain ⟨hp0, hp5, hl1, hl12, htk⟩ := slotsOk_use h0
    rw [hlz.out] at hl1 hl12
    have hfb := frameL_bd htk
    rw [hlz.out] at hfb
    obtain ⟨N, hN⟩ : ∃ N, N = (frameL zs).length := ⟨_, rfl⟩
    rw [← hN] at hfb
    have hN1 : 1 ≤ N := by omega
    have hN2 : N ≤ 240 := by omega
    have HNF := Lib.hid hN
    have HTK := Lib.hid htk
    have hNz : ((N : Nat) : Int) ≠ 0 := by omega
    clear hN htk hfb
    go_enter Try.func17, Try.ntmps17
    go_wp2_with fail
    refine (sSlotsValid_is h0 _ (by omega) (HR.out.below (Nat.le_refl _) (by go_grown))).mono ?_
    rintro e w1 ⟨rfl, hb1⟩
    have HB1 := Lib.hid hb1
    have hs1 := hb1.size
    clear hb1
    go_wp2
    go_loopw [5, 6] (fun v i wr => ∃ (k L : Nat), k ≤ n ∧ i = .int .i64 k ∧ v = .int .i64 (L : Int) ∧ L ≤ 20 * k ∧ Hid (upto zs k = L) ∧ Hid (Below w.heap.size w wr)) (fun _ i _ => n - (intOf i).toNat)
    case atStart => exact ⟨0, 0, Nat.zero_le _, rfl, rfl, by omega, upto_zero zs, HB1⟩
    case round =>
      obtain ⟨k, L, hk, rfl, rfl, hL, HL, HB⟩ := hrel
      by_cases hlt : k < n
      · obtain ⟨b, o, p0, p1, rfl, hbl, hx, j0, j1⟩ := HR.out.slot hlt
        have c1 := (HB.out.cell (p := ⟨b, o + k * 2 + 1, none⟩) hbl).trans j1
        obtain ⟨hq1, hq2⟩ := HTK.out k p0 p1 hx
        obtain ⟨q, rfl⟩ : ∃ q : Nat, p1 = (q : Int) := ⟨p1.toNat, by omega⟩
        have H2 := Lib.hid (upto_succ hx)
        clear hx j0 j1
        go_wp2
        go_roundw
        case rel => exact ⟨k + 1, L + q, by omega, by go_num, by go_num, by omega, by show upto zs (k + 1) = _; rw [H2.out, HL.out]; rfl, HB⟩
        case measure => simp [intOf]; omega
      · have hkn : k = n := by omega
        go_wp2
        go_ret
        refine ⟨ret_int ?_, HB.out⟩
        rw [← HL.out, hkn, ← hlz.out, upto_all]
theorem sFrameTicks_is {A : Option Addr} {n c N : Nat} {zs : Slots} {parts : Int} (h0 : slotsOk parts zs = true) (h : N = (frameL zs).length) (w : World) (hm : n ≤ 1048576) (hr : Rd w 2 A n (slots zs)) :
    Calls Try.prog 17 #[.slice A n c, .int .i64 parts] w fun e w' => e = .returned (.int .i64 (N : Int)) ∧ Below w.heap.size w w' := by
  have := sFrameTicks_any A n c zs parts w hm hr
  unfold ftV at this
  rwa [if_pos h0, ← h] at this
set_option maxRecDepth 100000 in
set_option maxHeartbeats 4000000 in
theorem sWhoRuns_any (A : Option Addr) (n c : Nat) (zs : Slots) (parts : Int) (tick : Int) (w : World) (hm : n ≤ 1048576) (hr : Rd w 2 A n (slots zs)) :
    Calls Try.prog 32 #[.slice A n c, .int .i64 parts, .int .i64 tick] w fun e w' => e = .returned (.int .i64 (whoV parts zs tick)) ∧ Below w.heap.size w w' := by
  have hlz := Lib.hid hr.slotsLen
  have HR := Lib.hid hr
  clear hr
  cases h0 : slotsOk parts zs
  · rw [show whoV parts zs tick = -2 by unfold whoV whoB; rw [h0]; rfl]
    go_enter Try.func32, Try.ntmps32
    go_wp2_with fail
    refine (sSlotsValid_is h0 _ (by omega) (HR.out.below (Nat.le_refl _) (by go_grown))).mono ?_
    rintro e w1 ⟨rfl, hb1⟩
    have HB1 := Lib.hid hb1
    have hs1 := hb1.size
    clear hb1
    go_wp2
    go_ret
    exact ⟨rfl, HB1.out⟩
  · skip
    cases h1 : inB tick 0 1000000
    · rw [show whoV parts zs tick = -2 by unfold whoV whoB; rw [h0, h1]; rfl]
      go_enter Try.func32, Try.ntmps32
      go_wp2_with fail
      refine (sSlotsValid_is h0 _ (by omega) (HR.out.below (Nat.le_refl _) (by go_grown))).mono ?_
      rintro e w1 ⟨rfl, hb1⟩
      have HB1 := Lib.hid hb1
      have hs1 := hb1.size
      clear hb1
      go_wp2_with fail
      refine (l1In_is h1 _).mono ?_
      rintro e _ ⟨rfl, rfl⟩
      go_wp2
      go_ret
      exact ⟨rfl, HB1.out⟩
    · skip
      rw [show whoV parts zs tick = frameAt zs (tick % ((frameL zs).length : Int)).toNat by unfold whoV whoB; rw [h0, h1]; rfl]
      obtain ⟨hp0, hp5, hl1, hl12, htk⟩ := slotsOk_use h0
      rw [hlz.out] at hl1 hl12
      have hfb := frameL_bd htk
      rw [hlz.out] at hfb
      obtain ⟨N, hN⟩ : ∃ N, N = (frameL zs).length := ⟨_, rfl⟩
      rw [← hN] at hfb
      have hN1 : 1 ≤ N := by omega
      have hN2 : N ≤ 240 := by omega
      have HNF := Lib.hid hN
      have HTK := Lib.hid htk
      have hNz : ((N : Nat) : Int) ≠ 0 := by omega
      clear hN htk hfb
      obtain ⟨ht0, ht1⟩ := inB_true.1 h1
      obtain ⟨r, hr, hrN⟩ := mod_nat (a := tick) hN1
      go_enter Try.func32, Try.ntmps32
      go_wp2_with fail
      refine (sSlotsValid_is h0 _ (by omega) (HR.out.below (Nat.le_refl _) (by go_grown))).mono ?_
      rintro e w1 ⟨rfl, hb1⟩
      have HB1 := Lib.hid hb1
      have hs1 := hb1.size
      clear hb1
      go_wp2_with fail
      refine (l1In_is h1 _).mono ?_
      rintro e _ ⟨rfl, rfl⟩
      go_wp2_with fail
      refine (sFrameTicks_is h0 HNF.out _ hm (HR.out.below (Nat.le_refl _) HB1.out)).mono ?_
      rintro e w2 ⟨rfl, hb2⟩
      have HB2 := Lib.hid (Below.andThen HB1.out hb2)
      clear hb2
      go_wp2
      go_loopw [7, 8] (fun tt kk wr => ∃ (k t L : Nat), k ≤ n ∧ kk = .int .i64 (k : Int) ∧ tt = .int .i64 (t : Int) ∧ t ≤ r ∧ Hid (upto zs k = L) ∧ Hid (L + t = r) ∧ Hid (Below w.heap.size w wr)) (fun _ kk _ => n - (intOf kk).toNat)
      case atStart => exact ⟨0, r, 0, Nat.zero_le _, rfl, by rw [hr], Nat.le_refl _, upto_zero zs, by show 0 + r = r; omega, HB2⟩
      case round =>
        obtain ⟨k, t, L, hk, rfl, rfl, htr, HL, HLT, HB⟩ := hrel
        have hkn : k < n := by
          rcases Nat.lt_or_ge k n with h | h
          · exact h
          · have e : k = n := by omega
            have h7 := HL.out
            rw [e, ← hlz.out, upto_all, ← HNF.out] at h7
            have := HLT.out
            omega
        obtain ⟨b, o, p0, p1, rfl, hbl, hx, j0, j1⟩ := HR.out.slot hkn
        have c0 := (HB.out.cell (p := ⟨b, o + k * 2, none⟩) hbl).trans j0
        have c1 := (HB.out.cell (p := ⟨b, o + k * 2 + 1, none⟩) hbl).trans j1
        obtain ⟨hq1, hq2⟩ := HTK.out k p0 p1 hx
        obtain ⟨q, rfl⟩ : ∃ q : Nat, p1 = (q : Int) := ⟨p1.toNat, by omega⟩
        have HX := Lib.hid hx
        have H2 := Lib.hid (upto_succ hx)
        clear hx j0 j1
        by_cases hge : q ≤ t
        · have hge' : (q : Int) ≤ (t : Int) := by omega
          have hsub : ((t : Int) - (q : Int)) = ((t - q : Nat) : Int) := by omega
          have HS := Lib.hid hsub
          clear hsub
          go_wp2
          go_roundw
          case rel => exact ⟨k + 1, t - q, L + q, by omega, by go_num, by rw [HS.out], by omega, by show upto zs (k + 1) = _; rw [H2.out, HL.out]; rfl, by show L + q + (t - q) = r; have := HLT.out; omega, HB⟩
          case measure => simp [intOf]; omega
        · have hge' : ¬ (q : Int) ≤ (t : Int) := by omega
          go_wp2
          go_ret
          refine ⟨ret_int ?_, HB.out⟩
          have h8 := who_at HX.out (r := r) (by rw [HL.out]; have := HLT.out; omega) (by rw [HL.out]; have := HLT.out; simp; omega)
          rw [← HNF.out, hr, Int.toNat_natCast, frameAt_of h8]
theorem cnt_min {zs : Slots} {i r : Nat} {x : Int} (p : Int) (h : (frameL zs)[i]? = some x) : cnt p ((frameL zs).take (min (i + 1) r)) = cnt p ((frameL zs).take (min i r)) + if i < r ∧ x = p then 1 else 0 := by
  by_cases hi : i < r
  · rw [show min (i + 1) r = i + 1 by omega, show min i r = i by omega, take_snoc h, cnt_snoc]
    simp [hi]
  · rw [show min (i + 1) r = r by omega, show min i r = r by omega]
    simp [hi]
theorem cnt_one {zs : Slots} {i : Nat} {x : Int} (p : Int) (h : (frameL zs)[i]? = some x) : cnt p ((frameL zs).take (i + 1)) = cnt p ((frameL zs).take i) + if x = p then 1 else 0 := by
  rw [take_snoc h, cnt_snoc]
end Go.Proofs.Ytdccgflkhgnflaa
