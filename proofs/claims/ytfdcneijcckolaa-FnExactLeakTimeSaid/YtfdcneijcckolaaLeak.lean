/-
  CONTRACTS of LeakTime.
  Conditions: none beyond those that each states.
-/
import Derived.Test.YtfdcneijcckolaaTime2
import Derived.IntWalk
namespace Go.Proofs.Ytfdcneijcckolaa
open Go.ChangeShapes Go.WideShapes Go.ChangeAt Go.RowKit Go.Joins
set_option linter.unusedVariables false

def leakB (mm : Int) (bs ps : List Int) : Bool := lined mm && (placesB bs && placesB ps)
def ltV (mm : Int) (bs ps : List Int) : Int := if leakB mm bs ps = true then runT (runF (emptyOf mm) bs) ps - runT (emptyOf mm) ps else 0
theorem emptyOf_yes {mm : Int} (h : lined mm = true) : cacheOk (emptyOf mm) = true := by
  have h1 := lined_le h
  unfold emptyOf
  rw [if_pos h, cacheOk_rep]
  rw [show ((mm.toNat : Nat) : Int) = mm by omega]
  exact h
theorem emptyOf_no {mm : Int} (h : lined mm = false) : cacheOk (emptyOf mm) = false := by
  unfold emptyOf
  rw [h]
  rfl
theorem runT_bd : ∀ (ps zs : List Int), 0 ≤ runT zs ps ∧ runT zs ps ≤ 8 * ps.length
  | [], zs => by simp [runT]
  | p :: ps, zs => by
    have := runT_bd ps (touchF zs p)
    have := touchT_bd zs p
    rw [runT, List.length_cons]
    omega
theorem placesB_all2 {ps : List Int} (h : placesB ps = true) : ∀ p ∈ ps, inB p 0 4095 = true := by
  intro p hp
  obtain ⟨k, hk⟩ := List.getElem?_of_mem hp
  exact inB_true.2 ((placesB_use h).2 k p hk)
theorem ttV_yes {zs ps : List Int} (h : cacheOk zs = true) (h2 : placesB ps = true) : ttV zs ps = runT zs ps := by unfold ttV; rw [h, h2]; rfl
theorem ttV_no {zs ps : List Int} (h : (cacheOk zs && placesB ps) = false) : ttV zs ps = -1 := by unfold ttV; rw [h]; rfl

set_option maxRecDepth 100000 in
set_option maxHeartbeats 4000000 in
theorem sLeakTime_any (mm : Int) (B : Option Addr) (m d : Nat) (bs : List Int) (C : Option Addr) (p f : Nat) (ps : List Int) (w : World) (hm : m ≤ 1048576) (hb : Rd w 1 B m (ints bs)) (hm2 : p ≤ 1048576) (hp : Rd w 1 C p (ints ps)) :
    Calls Try.prog 51 #[.int .i64 mm, .slice B m d, .slice C p f] w fun e w' => e = .returned (.int .i64 (ltV mm bs ps)) ∧ Below w.heap.size w w' := by
  have hlb := Lib.hid hb.len
  have hlp := Lib.hid hp.len
  have HRB := Lib.hid hb
  have HRP := Lib.hid hp
  clear hb hp
  have hel := emptyOf_len mm
  obtain ⟨Z, hZ⟩ : ∃ Z, Z = emptyOf mm := ⟨_, rfl⟩
  rw [← hZ] at hel
  have HZ := Lib.hid hZ
  clear hZ
  obtain ⟨n, hn⟩ : ∃ n, n = Z.length := ⟨_, rfl⟩
  rw [← hn] at hel
  have HN := Lib.hid hn
  clear hn
  cases h1 : (cacheOk Z && placesB bs)
  · have e1 : ltV mm bs ps = 0 := by
      unfold ltV leakB
      cases hl : lined mm
      · rfl
      · rw [HZ.out, emptyOf_yes hl, Bool.true_and] at h1
        rw [h1]; rfl
    rw [e1]; clear e1
    go_enter Try.func51, Try.ntmps51
    go_wp2_with fail
    refine (sEmptyCache_any mm _).mono ?_
    rw [← HZ.out]
    rintro e w1 ⟨A1, c1, he, hf1, hA1, hb1⟩
    rw [← HN.out] at he hf1
    subst he
    have HF1 := Lib.hid hf1
    have HB1 := Lib.hid hb1
    clear hf1 hb1 hA1
    go_wp2_with fail
    refine (sTouchTime_any A1 n c1 Z B m d bs _ (by omega) (HF1.out.alloc _).rd (by omega) ((HRB.out.below (Nat.le_refl _) HB1.out).alloc _)).mono ?_
    rw [ttV_no h1]
    rintro e w2 ⟨rfl, hb2⟩
    have HB2 := Lib.hid (Below.andThen HB1.out (Below.andThen (w := w1) (by go_grown) hb2))
    clear hb2
    go_wp2
    go_ret
    exact ⟨rfl, HB2.out⟩
  · obtain ⟨hc1, hc2⟩ := Bool.and_eq_true_iff.1 h1
    have hlin : lined mm = true := by
      cases hl : lined mm
      · rw [HZ.out, emptyOf_no hl] at hc1; cases hc1
      · rfl
    have h0 := runT_bd bs Z
    have ht1 := Lib.hid (ttV_yes (zs := Z) hc1 hc2)
    obtain ⟨T1, hT1⟩ : ∃ T, T = runT Z bs := ⟨_, rfl⟩
    rw [← hT1] at h0 ht1
    obtain ⟨h00, h01⟩ := h0
    clear hT1 h01
    cases h2 : placesB ps
    · have e1 : ltV mm bs ps = 0 := by
        unfold ltV leakB
        rw [h2]; simp
      rw [e1]; clear e1
      have ht2 := Lib.hid (ttV_no (zs := Z) (ps := ps) (by rw [h2]; simp))
      go_enter Try.func51, Try.ntmps51
      go_wp2_with fail
      refine (sEmptyCache_any mm _).mono ?_
      rw [← HZ.out]
      rintro e w1 ⟨A1, c1, he, hf1, hA1, hb1⟩
      rw [← HN.out] at he hf1
      subst he
      have HF1 := Lib.hid hf1
      have HB1 := Lib.hid hb1
      clear hf1 hb1 hA1
      go_wp2_with fail
      refine (sTouchTime_any A1 n c1 Z B m d bs _ (by omega) (HF1.out.alloc _).rd (by omega) ((HRB.out.below (Nat.le_refl _) HB1.out).alloc _)).mono ?_
      rw [ht1.out]
      rintro e w2 ⟨rfl, hb2⟩
      have HB2 := Lib.hid (Below.andThen HB1.out (Below.andThen (w := w1) (by go_grown) hb2))
      have q7 : Hid (Blk w2 w1.heap.size 50 #[.slice A1 n c1]) := Blk.below (w' := w2) (Blk.at_ _ _ _ rfl) (Nat.le_refl _) hb2
      have HF2 : Hid (Fr w2 w.heap.size w1.heap.size 3 1 A1 n (ints Z)) := Fr.below (w' := w2) (HF1.out.alloc _) (Nat.le_refl _) hb2
      have k7_0 := q7.out.cell 0 rfl
      clear hb2
      go_wp2_with fail
      refine (sTouchTime_any A1 n c1 Z C p f ps _ (by omega) HF2.out.rd (by omega) (HRP.out.below (Nat.le_refl _) HB2.out)).mono ?_
      rw [ht2.out]
      rintro e w3 ⟨rfl, hb3⟩
      have HB3 := Lib.hid (Below.andThen HB2.out hb3)
      clear hb3
      go_wp2
      go_ret
      exact ⟨rfl, HB3.out⟩
    · have hev : Hid (ltV mm bs ps = runT (runF Z bs) ps - runT Z ps) := by
        show ltV mm bs ps = _
        unfold ltV leakB
        rw [hlin, hc2, h2, HZ.out]; rfl
      have hn16 := cacheOk_le hc1
      rw [← HN.out] at hn16
      obtain ⟨hn1, _⟩ := hn16
      have hp60 := (placesB_use h2).1
      have hb60 := (placesB_use hc2).1
      rw [hlb.out] at hb60
      have ht2 := Lib.hid (ttV_yes (zs := Z) hc1 h2)
      have h3 := runT_bd ps Z
      have h4 := runT_bd ps (runF Z bs)
      have hcr : cacheOk (runF Z bs) = true := cacheOk_run bs Z hc1 (placesB_all2 hc2)
      have ht3 := Lib.hid (ttV_yes (zs := runF Z bs) hcr h2)
      have hlr : (runF Z bs).length = n := by rw [runF_len, ← HN.out]
      have HALL := Lib.hid (placesB_all2 hc2)
      obtain ⟨T2, hT2⟩ : ∃ T, T = runT Z ps := ⟨_, rfl⟩
      obtain ⟨T3, hT3⟩ : ∃ T, T = runT (runF Z bs) ps := ⟨_, rfl⟩
      rw [← hT2] at h3 ht2 hev
      rw [← hT3] at h4 ht3 hev
      obtain ⟨h30, h31⟩ := h3
      obtain ⟨h40, h41⟩ := h4
      have h32 : T2 ≤ 480 := by omega
      have h42 : T3 ≤ 480 := by omega
      clear hT2 hT3 h31 h41
      have HLR := Lib.hid hlr
      have HCB := Lib.hid hc1
      clear hlr hcr h1 hlin hc1
      go_enter Try.func51, Try.ntmps51
      go_wp2_with fail
      refine (sEmptyCache_any mm _).mono ?_
      rw [← HZ.out]
      rintro e w1 ⟨A1, c1, he, hf1, hA1, hb1⟩
      rw [← HN.out] at he hf1
      subst he
      have HF1 := Lib.hid hf1
      have HB1 := Lib.hid hb1
      have hs1 := hb1.size
      clear hf1 hb1 hA1
      go_wp2_with fail
      refine (sTouchTime_any A1 n c1 Z B m d bs _ (by omega) (HF1.out.alloc _).rd (by omega) ((HRB.out.below (Nat.le_refl _) HB1.out).alloc _)).mono ?_
      rw [ht1.out]
      rintro e w2 ⟨rfl, hb2⟩
      have HB2 := Lib.hid (Below.andThen HB1.out (Below.andThen (w := w1) (by go_grown) hb2))
      have hs2 := hb2.size
      simp only [World.size_alloc] at hs2
      have q7 : Hid (Blk w2 w1.heap.size 50 #[.slice A1 n c1]) := Blk.below (w' := w2) (Blk.at_ _ _ _ rfl) (Nat.le_refl _) hb2
      have HF2 : Hid (Fr w2 w.heap.size w1.heap.size 3 1 A1 n (ints Z)) := Fr.below (w' := w2) (HF1.out.alloc _) (Nat.le_refl _) hb2
      have k7_0 := q7.out.cell 0 rfl
      clear hb2
      go_wp2_with fail
      refine (sTouchTime_any A1 n c1 Z C p f ps _ (by omega) HF2.out.rd (by omega) (HRP.out.below (Nat.le_refl _) HB2.out)).mono ?_
      rw [ht2.out]
      rintro e w4 ⟨rfl, hb3⟩
      have HB4 := Lib.hid (Below.andThen HB2.out hb3)
      have hs4 := hb3.size
      have q7b : Hid (Blk w4 w1.heap.size 50 #[.slice A1 n c1]) := Blk.below (w' := w4) q7.out (Nat.le_refl _) hb3
      have HF4 : Hid (Fr w4 w.heap.size w1.heap.size 3 1 A1 n (ints Z)) := Fr.below (w' := w4) HF2.out (Nat.le_refl _) hb3
      clear hb3 k7_0
      have k7_0 := q7b.out.cell 0 rfl
      have hA1 : Hid (∀ a, A1 = some a → a.block < w4.heap.size) := by
        show ∀ a, A1 = some a → a.block < w4.heap.size
        obtain ⟨g, hg, _, hhi, _⟩ := HF4.out.use (by omega)
        intro a ha
        rw [hg] at ha
        injection ha with ha
        subst ha
        simp; omega
      go_wp2
      go_loopw [9] (fun i wr => ∃ (k : Nat) (A' : Option Addr) (c' : Nat) (ys : List Int), k ≤ m ∧ i = .int .i64 k ∧ Hid (ys = runF Z (bs.take k)) ∧ Hid (Blk wr w4.heap.size 50 #[.slice A' n c']) ∧ Hid (Blk wr w1.heap.size 50 #[.slice A1 n c1]) ∧ Hid (Rd wr 1 A' n (ints ys)) ∧ Hid (Fr wr w.heap.size w1.heap.size 3 1 A1 n (ints Z)) ∧
        Hid (∀ a, A' = some a → a.block ≠ w4.heap.size) ∧ w4.heap.size < wr.heap.size ∧ Hid (Below w.heap.size w wr)) (fun i _ => m - (intOf i).toNat)
      case atStart =>
        refine ⟨0, A1, c1, Z, Nat.zero_le _, rfl, by show Z = _; simp [runF], Blk.at_ _ _ _ rfl, q7b.out.alloc _, (HF4.out.alloc _).rd, HF4.out.alloc _, ?_, by simp, HB4.out.alloc (by omega) _⟩
        show ∀ a, A1 = some a → a.block ≠ w4.heap.size
        intro a ha
        have := hA1.out a ha
        omega
      case round =>
        obtain ⟨k, A', c', ys, hk, rfl, HY, HQ, HQ7, HRk, HFr, HNe, hgt, HBk⟩ := hrel
        clear q7 q7b k7_0 HF4 HF2 HB2 HB4 HF1 HB1
        have k8_0 := HQ.out.cell 0 rfl
        have f8_0 := HQ.out.frozen 0
        have k7_0 := HQ7.out.cell 0 rfl
        by_cases hlt : k < m
        · obtain ⟨b, o, x, rfl, hbl, hx, hc⟩ := HRB.out.int_ hlt
          have hc1 := (HBk.out.cell (p := ⟨b, o + k, none⟩) hbl).trans hc
          have HX := Lib.hid hx
          have HC := Lib.hid hc
          have hk0 : (0 : Int) ≤ (k : Int) := by omega
          have hk1 : (k : Int) < (m : Int) := by omega
          have hin := HALL.out x (List.mem_of_getElem? hx)
          have hys : ys.length = n := by rw [HY.out, runF_len, ← HN.out]
          have hcok : cacheOk ys = true := by rw [HY.out]; exact cacheOk_run _ _ HCB.out (fun q hq => HALL.out q (List.mem_of_mem_take hq))
          have e0 : touchOk ys x = true := by unfold touchOk; rw [hcok, hin]; rfl
          obtain ⟨F, hF⟩ : ∃ F, F = touchF ys x := ⟨_, rfl⟩
          obtain ⟨T, hT⟩ : ∃ T, T = touchT ys x := ⟨_, rfl⟩
          have e1 : tcF ys x = F := by unfold tcF; rw [if_pos e0, hF]
          have e2 : tcT ys x = T := by unfold tcT; rw [if_pos e0, hT]
          have HFl : Hid (F.length = n) := by show _ = _; rw [hF, touchF_len, hys]
          have HF := Lib.hid hF
          have HE1 := Lib.hid e1
          have HE2 := Lib.hid e2
          clear hx hc e0 e1 e2 hF hT hys hcok hin
          go_wp2
          go_region_held3 (fun w' => w'.cell? ⟨w4.heap.size, 0, none⟩ = some (.slice A' n c') ∧ w'.cell? ⟨b, o + k, none⟩ = some (.int .i64 x)) (refine ⟨?_, ?_⟩ <;> (repeat' (first | exact k0 | exact k1 | exact k8_0 | exact hc1 | refine keepA ?_ _ | refine keepS ?_ (by simp; omega) _ | refine keepD ?_))) ((go_at_call 47; refine (sTouchCache_any A' n c' ys x _ (by omega) (by first | exact HRk.out | exact HRk.out.alloc _)).mono ?_; rw [HE1.out, HE2.out]; rintro e w5 ⟨A2, c2, he, hf5, hA5, hb5⟩; rw [HFl.out] at he hf5 hA5; subst he; have hs2 : wr.heap.size ≤ w5.heap.size := (by have := hb5.size; simp at this; omega); have q8 : Hid (Blk w5 w4.heap.size 50 #[.slice A' n c']) := Blk.below (w' := w5) (by first | exact HQ.out | exact HQ.out.alloc _) (Nat.le_refl _) hb5; have q7' : Hid (Blk w5 w1.heap.size 50 #[.slice A1 n c1]) := Blk.below (w' := w5) (by first | exact HQ7.out | exact HQ7.out.alloc _) (Nat.le_refl _) hb5; have HR1' : Hid (Fr w5 w.heap.size w1.heap.size 3 1 A1 n (ints Z)) := Fr.below (w' := w5) (by first | exact HFr.out | exact HFr.out.alloc _) (Nat.le_refl _) hb5; have HB5 : Hid (Below w.heap.size w w5) := Below.andThen HBk.out (Below.andThen (w := wr) (by go_grown) hb5); (try (have qx : Hid (Blk w5 wr.heap.size 50 #[.slice none 0 0]) := Blk.below (w' := w5) (by exact Blk.at_ _ _ _ rfl) (Nat.le_refl _) hb5; have kx_0 := qx.out.cell 0 rfl; have fx_0 := qx.out.frozen 0; have lx := qx.out.lt)); have k0 := q8.out.cell 0 rfl; have g0 := q8.out.frozen 0; have l0 := q8.out.lt; have k1 := (HB5.out.cell (p := ⟨b, o + k, none⟩) hbl).trans HC.out; have HF5 := Lib.hid hf5; clear hf5 hA5 hb5))
          all_goals
            go_wp2
            go_roundw
            case rel =>
              refine ⟨k + 1, A2, c2, F, by omega, by go_num, ?_, ?_, ?_, ?_, ?_, ?_, by simp; omega, ?_⟩
              · show F = _
                rw [take_snoc HX.out, runF_snoc, ← HY.out, HF.out]
              · first
                  | exact (q8.out.set_ 0 _).alloc _
                  | exact Blk.set_ (Blk.far q8.out (by simp; omega) _) 0 _
              · first
                  | exact (Blk.far q7'.out (by simp; omega) _).alloc _
                  | exact Blk.far (Blk.far q7'.out (by simp; omega) _) (by simp; omega) _
              · first
                  | exact ((HF5.out.setFar (by left; simp; omega) _).alloc _).rd
                  | exact ((HF5.out.setFar (by left; simp) _).setFar (by left; simp; omega) _).rd
              · first
                  | exact (HR1'.out.setFar (by right; simp; omega) _).alloc _
                  | exact (HR1'.out.setFar (by right; simp; omega) _).setFar (by right; simp; omega) _
              · show ∀ a, A2 = some a → a.block ≠ w4.heap.size
                obtain ⟨g, hg, hlo, _⟩ := HF5.out.use (by omega)
                intro a ha
                rw [hg] at ha
                injection ha with ha
                subst ha
                simp at hlo ⊢
                omega
              · show Below w.heap.size w _
                first
                  | exact (HB5.out.setCell (by simp; omega) _).alloc (by simp; omega) _
                  | exact (HB5.out.setCell (by simp; omega) _).setCell (by simp; omega) _
            case measure => simp [intOf]; omega
        · have hkm : k = m := by omega
          have e1 : bs.take k = bs := by rw [hkm, ← hlb.out, List.take_length]
          have h1 := HY.out
          rw [e1] at h1
          have ht3' := ht3.out
          rw [← h1] at ht3'
          have HT3 := Lib.hid ht3'
          have hs6 := HBk.out.size
          have hwr : IntKind.i64.wrap (T3 - T2) = T3 - T2 := IntWalk.i64_in _ (by omega)
          clear e1 h1 ht3'
          go_wp2
          go_region_held3 (fun w' => w'.cell? ⟨w4.heap.size, 0, none⟩ = some (.slice A' n c') ∧ w'.cell? ⟨w1.heap.size, 0, none⟩ = some (.slice A1 n c1)) (refine ⟨?_, ?_⟩ <;> (repeat' (first | exact j0 | exact j1 | exact k0 | exact k1 | exact k8_0 | exact k7_0 | refine keepD ?_)))
            (first
              | (go_at_call_of 49 A1; refine (sTouchTime_any A1 n c1 Z C p f ps _ (by omega) (by first | exact HFr2.out.rd | exact HFr.out.rd) (by omega) (by first | exact HRP.out.below (Nat.le_refl _) HB7.out | exact (HRP.out.below (Nat.le_refl _) HBk.out).drew)).mono ?_; rw [ht2.out]; rintro e w8 ⟨rfl, hb8⟩; have HQ8 : Hid (Blk w8 w4.heap.size 50 #[.slice A' n c']) := Blk.below (w' := w8) (by first | exact HQ'.out | exact HQ.out) (Nat.le_refl _) hb8; have HQ78 : Hid (Blk w8 w1.heap.size 50 #[.slice A1 n c1]) := Blk.below (w' := w8) (by first | exact HQ7'.out | exact HQ7.out) (Nat.le_refl _) hb8; have HB8 : Hid (Below w.heap.size w w8) := (by first | exact Below.andThen HB7.out hb8 | exact Below.andThen HBk.out (Below.andThen (w := wr) (by go_grown) hb8)); have j0 := HQ8.out.cell 0 rfl; have j1 := HQ78.out.cell 0 rfl; clear hb8)
              | (go_at_call_of 49 A'; refine (sTouchTime_any A' n c' ys C p f ps _ (by omega) (by exact HRk.out) (by omega) (by exact (HRP.out.below (Nat.le_refl _) HBk.out).drew)).mono ?_; rw [HT3.out]; rintro e w7 ⟨rfl, hb7⟩; have HQ' : Hid (Blk w7 w4.heap.size 50 #[.slice A' n c']) := Blk.below (w' := w7) (by exact HQ.out) (Nat.le_refl _) hb7; have HQ7' : Hid (Blk w7 w1.heap.size 50 #[.slice A1 n c1]) := Blk.below (w' := w7) (by exact HQ7.out) (Nat.le_refl _) hb7; have HFr2 : Hid (Fr w7 w.heap.size w1.heap.size 3 1 A1 n (ints Z)) := Fr.below (w' := w7) (by exact HFr.out) (Nat.le_refl _) hb7; have HB7 : Hid (Below w.heap.size w w7) := Below.andThen HBk.out (Below.andThen (w := wr) (by go_grown) hb7); have k0 := HQ'.out.cell 0 rfl; have k1 := HQ7'.out.cell 0 rfl; clear hb7))
          go_wp2
          go_ret
          exact ⟨by rw [hev.out]; rfl, HB8.out⟩
end Go.Proofs.Ytfdcneijcckolaa
