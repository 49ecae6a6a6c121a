/-
  CONTRACTS of LeakTime, the program's.
  Conditions: none beyond those that each states.
-/
import Derived.Test.YtfdcneijcckolaaLeak
namespace Go.Proofs.Ytfdcneijcckolaa
open Go.ChangeShapes Go.WideShapes Go.ChangeAt Go.RowKit Go.Joins
set_option linter.unusedVariables false

theorem lined_is {n : Int} {b : Bool} (h : lined n = b) (w : World) : Calls Try.prog 62 #[.int .i64 n] w fun e w' => e = .returned (.bool b) ∧ w = w' := h ▸ lined_any n w
theorem placesOk_is {A : Option Addr} {n c : Nat} {zs : List Int} {b : Bool} (h : placesB zs = b) (w : World) (hm : n ≤ 1048577) (hr : Rd w 1 A n (ints zs)) :
    Calls Try.prog 67 #[.slice A n c] w fun e w' => e = .returned (.bool b) ∧ Below w.heap.size w w' := h ▸ placesOk_any A n c zs w hm hr
theorem iEmptyCache_is (mm : Int) {Z : List Int} {n : Nat} (h : Z = emptyOf mm) (hn : n = Z.length) (w : World) :
    Calls Try.prog 44 #[.int .i64 mm] w fun e w' => ∃ A c, e = .returned (.agg #[.slice A n c]) ∧ Fr w' w.heap.size w'.heap.size 3 1 A n (ints Z) ∧ (A = none → n = 0 ∧ c = 0) ∧ Below w.heap.size w w' := by
  subst hn; subst h
  exact iEmptyCache_any mm w
theorem touched_is {A : Option Addr} {n c : Nat} {zs : List Int} {B : Option Addr} {m d : Nat} {ps F : List Int} {T : Int} (w : World) (hF : F = runF zs ps) (hT : T = runT zs ps) (hn1 : 1 ≤ n) (hn16 : n ≤ 16) (hr : Rd w 1 A n (ints zs)) (hv : placesB ps = true) (hp : Rd w 1 B m (ints ps)) :
    Calls Try.prog 68 #[.agg #[.slice A n c], .slice B m d] w fun e w' => ∃ A' c', e = .returned (.tuple #[.agg #[.slice A' n c'], .int .i64 T]) ∧ Fr w' w.heap.size w'.heap.size 3 1 A' n (ints F) ∧ Below w.heap.size w w' := by
  refine (touched_any A n c zs B m d ps w hn1 hn16 hr hv hp).mono ?_
  rintro e w' ⟨A', c', he, hf, _, hb⟩
  have hl : (runF zs ps).length = n := by rw [runF_len]; exact hr.len
  rw [hl] at he hf
  exact ⟨A', c', by rw [he, hT], by rw [hF]; exact hf, hb⟩
theorem iTouchTime_is {A : Option Addr} {n c : Nat} {zs : List Int} {B : Option Addr} {m d : Nat} {ps : List Int} {t : Int} (w : World) (ht : ttV zs ps = t) (hm : n ≤ 1048577) (hr : Rd w 1 A n (ints zs)) (hm2 : m ≤ 1048577) (hp : Rd w 1 B m (ints ps)) :
    Calls Try.prog 50 #[.agg #[.slice A n c], .slice B m d] w fun e w' => e = .returned (.int .i64 t) ∧ Below w.heap.size w w' := ht ▸ iTouchTime_any A n c zs B m d ps w hm hr hm2 hp

set_option maxRecDepth 100000 in
set_option maxHeartbeats 4000000 in
theorem iLeakTime_any (mm : Int) (B : Option Addr) (m d : Nat) (bs : List Int) (C : Option Addr) (p f : Nat) (ps : List Int) (w : World) (hm : m ≤ 1048577) (hb : Rd w 1 B m (ints bs)) (hm2 : p ≤ 1048577) (hp : Rd w 1 C p (ints ps)) :
    Calls Try.prog 52 #[.int .i64 mm, .slice B m d, .slice C p f] w fun e w' => e = .returned (.int .i64 (ltV mm bs ps)) ∧ Below w.heap.size w w' := by
  have hlb := Lib.hid hb.len
  have hlp := Lib.hid hp.len
  have HRB := Lib.hid hb
  have HRP := Lib.hid hp
  clear hb hp
  have HV : Hid (ltV mm bs ps = if leakB mm bs ps = true then runT (runF (emptyOf mm) bs) ps - runT (emptyOf mm) ps else 0) := rfl
  cases h1 : lined mm
  · have e1 : ltV mm bs ps = 0 := by rw [HV.out]; unfold leakB; rw [h1]; rfl
    rw [e1]; clear e1
    go_enter Try.func52, Try.ntmps52
    go_wp2_with fail
    refine (lined_is h1 _).mono ?_
    rintro e w1 ⟨rfl, rfl⟩
    go_wp2
    go_ret
    exact ⟨rfl, Below.refl _ _⟩
  · cases h2 : placesB bs
    · have e1 : ltV mm bs ps = 0 := by rw [HV.out]; unfold leakB; rw [h1, h2]; rfl
      rw [e1]; clear e1
      go_enter Try.func52, Try.ntmps52
      go_wp2_with fail
      refine (lined_is h1 _).mono ?_
      rintro e w1 ⟨rfl, rfl⟩
      go_wp2_with fail
      refine (placesOk_is h2 _ (by omega) HRB.out).mono ?_
      rintro e w1 ⟨rfl, hb1⟩
      have HB1 := Lib.hid hb1
      clear hb1
      go_wp2
      go_ret
      exact ⟨rfl, HB1.out⟩
    · cases h3 : placesB ps
      · have e1 : ltV mm bs ps = 0 := by rw [HV.out]; unfold leakB; rw [h1, h2, h3]; rfl
        rw [e1]; clear e1
        go_enter Try.func52, Try.ntmps52
        go_wp2_with fail
        refine (lined_is h1 _).mono ?_
        rintro e w1 ⟨rfl, rfl⟩
        go_wp2_with fail
        refine (placesOk_is h2 _ (by omega) HRB.out).mono ?_
        rintro e w1 ⟨rfl, hb1⟩
        have HB1 := Lib.hid hb1
        clear hb1
        go_wp2_with fail
        refine (placesOk_is h3 _ (by omega) (HRP.out.below (Nat.le_refl _) HB1.out)).mono ?_
        rintro e w2 ⟨rfl, hb2⟩
        have HB2 := Lib.hid (Below.andThen HB1.out hb2)
        clear hb2
        go_wp2
        go_ret
        exact ⟨rfl, HB2.out⟩
      · obtain ⟨Z, hZ⟩ : ∃ Z, Z = emptyOf mm := ⟨_, rfl⟩
        obtain ⟨n, hn⟩ : ∃ n, n = Z.length := ⟨_, rfl⟩
        have hc1 : cacheOk Z = true := by rw [hZ]; exact emptyOf_yes h1
        have hcl := cacheOk_le hc1
        rw [← hn] at hcl
        obtain ⟨hn1, hn16⟩ := hcl
        obtain ⟨F, hF⟩ : ∃ F, F = runF Z bs := ⟨_, rfl⟩
        obtain ⟨T, hT⟩ : ∃ T, T = runT Z bs := ⟨_, rfl⟩
        obtain ⟨T2, hT2⟩ : ∃ T, T = runT Z ps := ⟨_, rfl⟩
        obtain ⟨T3, hT3⟩ : ∃ T, T = runT F ps := ⟨_, rfl⟩
        have hcf : cacheOk F = true := by rw [hF]; exact cacheOk_run bs Z hc1 (placesB_all2 h2)
        have hev : Hid (ltV mm bs ps = T3 - T2) := by
          show ltV mm bs ps = _
          rw [HV.out]
          unfold leakB
          rw [h1, h2, h3, hT3, hT2, hF, hZ]; rfl
        have ht2 := Lib.hid ((ttV_yes hc1 h3).trans hT2.symm)
        have ht3 := Lib.hid ((ttV_yes hcf h3).trans hT3.symm)
        have b2 := runT_bd ps Z
        have b3 := runT_bd ps F
        rw [← hT2] at b2
        rw [← hT3] at b3
        obtain ⟨h30, h31⟩ := b2
        obtain ⟨h40, h41⟩ := b3
        have hp60 := (placesB_use h3).1
        have h32 : T2 ≤ 480 := by omega
        have h42 : T3 ≤ 480 := by omega
        have hwr : IntKind.i64.wrap (T3 - T2) = T3 - T2 := IntWalk.i64_in _ (by omega)
        have HZ := Lib.hid hZ
        have HN := Lib.hid hn
        have HF := Lib.hid hF
        have HT := Lib.hid hT
        clear hZ hn hF hT hT2 hT3 hc1 hcf h31 h41
        go_enter Try.func52, Try.ntmps52
        go_wp2_with fail
        refine (lined_is h1 _).mono ?_
        rintro e w1 ⟨rfl, rfl⟩
        go_wp2_with fail
        refine (placesOk_is h2 _ (by omega) HRB.out).mono ?_
        rintro e w1 ⟨rfl, hb1⟩
        have HB1 := Lib.hid hb1
        clear hb1
        go_wp2_with fail
        refine (placesOk_is h3 _ (by omega) (HRP.out.below (Nat.le_refl _) HB1.out)).mono ?_
        rintro e w2 ⟨rfl, hb2⟩
        have HB2 := Lib.hid (Below.andThen HB1.out hb2)
        clear hb2
        go_wp2_with fail
        refine (iEmptyCache_is mm HZ.out HN.out _).mono ?_
        rintro e w3 ⟨A3, c3, rfl, hf3, _, hb3⟩
        have HB3 := Lib.hid (Below.andThen HB2.out hb3)
        have HF3 := Lib.hid hf3
        clear hf3 hb3
        go_wp2_with fail
        refine (touched_is _ HF.out HT.out hn1 hn16 HF3.out.rd h2 (HRB.out.below (Nat.le_refl _) HB3.out)).mono ?_
        rintro e w4 ⟨A4, c4, rfl, hf4, hb4⟩
        have HB4 := Lib.hid (Below.andThen HB3.out hb4)
        have HF4 := Lib.hid hf4
        have hs4 := HB4.out.size
        clear hf4 hb4
        go_wp2_with fail
        refine (iTouchTime_is _ ht3.out (by omega) (HF4.out.alloc _).rd (by omega) ((HRP.out.below (Nat.le_refl _) HB4.out).alloc _)).mono ?_
        rintro e w5 ⟨rfl, hb5⟩
        have HB5 := Lib.hid (Below.andThen HB4.out (Below.andThen (w := w4) (by go_grown) hb5))
        clear hb5
        go_wp2_with fail
        refine (iEmptyCache_is mm HZ.out HN.out _).mono ?_
        rintro e w6 ⟨A6, c6, rfl, hf6, _, hb6⟩
        have HB6 := Lib.hid (Below.andThen HB5.out hb6)
        have HF6 := Lib.hid hf6
        clear hf6 hb6
        go_wp2_with fail
        refine (iTouchTime_is _ ht2.out (by omega) HF6.out.rd (by omega) (HRP.out.below (Nat.le_refl _) HB6.out)).mono ?_
        rintro e w7 ⟨rfl, hb7⟩
        have HB7 := Lib.hid (Below.andThen HB6.out hb7)
        clear hb7
        go_wp2
        go_ret
        exact ⟨by rw [hev.out]; rfl, HB7.out⟩
end Go.Proofs.Ytfdcneijcckolaa
