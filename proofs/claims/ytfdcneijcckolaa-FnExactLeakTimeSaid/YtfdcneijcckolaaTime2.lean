/-
  CONTRACTS of TouchTime, the program's.
  Conditions: none beyond those that each states.
-/
import Derived.Test.YtfdcneijcckolaaTime
namespace Go.Proofs.Ytfdcneijcckolaa
open Go.ChangeShapes Go.WideShapes Go.ChangeAt Go.RowKit Go.Joins
set_option linter.unusedVariables false

set_option maxRecDepth 100000 in
set_option maxHeartbeats 400000 in
theorem placesOk1_any (w : World) : Pred Try.prog 73 #[] (Value.int .i64) (fun z => !inB z 0 4095) w := by
  intro x W hb
  go_enter Try.func73, Try.ntmps73
  go_wp2_with (go_at_call 65; refine (isPlace_any _ _).mono ?_; rintro e w1 ⟨rfl, rfl⟩)
  go_ret
  exact ⟨rfl, by go_grown⟩
set_option maxRecDepth 100000 in
set_option maxHeartbeats 400000 in
theorem placesOk_any (A : Option Addr) (n c : Nat) (zs : List Int) (w : World) (hm : n ≤ 1048577) (hr : Rd w 1 A n (ints zs)) :
    Calls Try.prog 67 #[.slice A n c] w fun e w' => e = .returned (.bool (placesB zs)) ∧ Below w.heap.size w w' := by
  have hlz := Lib.hid hr.len
  have HC := Lib.hid (ContainsFuncI_any 73 #[] (fun z => !inB z 0 4095) A n c zs w hm hr (placesOk1_any w) (enters_of Try.func73 (by kernel_rfl) rfl))
  have HE : Hid (placesB zs = (decide (n ≤ 60) && !zs.any (fun z => !inB z 0 4095))) := by
    show placesB zs = _
    rw [placesB, hlz.out]
  by_cases h3 : n ≤ 60
  · have hI : (n : Int) ≤ 60 := by omega
    go_enter Try.func67, Try.ntmps67
    go_wp2_with (go_at_call 72; refine HC.out.mono ?_; rintro e w1 ⟨rfl, hb1⟩)
    go_ret
    exact ⟨by rw [HE.out]; simp [h3], hb1⟩
  · have hd : decide ((n : Int) ≤ 60) = false := by simp; omega
    go_enter Try.func67, Try.ntmps67
    go_wp2
    go_ret
    exact ⟨by rw [HE.out]; simp [h3], Below.refl _ _⟩
theorem placesB_use {ps : List Int} (h : placesB ps = true) : ps.length ≤ 60 ∧ ∀ (k : Nat) (x : Int), ps[k]? = some x → 0 ≤ x ∧ x ≤ 4095 := by
  unfold placesB at h
  rw [Bool.and_eq_true, decide_eq_true_eq, Bool.not_eq_true', List.any_eq_false] at h
  refine ⟨h.1, fun k x hx => ?_⟩
  have := h.2 x (List.mem_of_getElem? hx)
  simp only [Bool.not_eq_true', Bool.not_eq_false] at this
  exact inB_true.1 this
set_option maxRecDepth 100000 in
set_option maxHeartbeats 2000000 in
theorem touched_any (A : Option Addr) (n c : Nat) (zs : List Int) (B : Option Addr) (m d : Nat) (ps : List Int) (w : World) (hn1 : 1 ≤ n) (hn16 : n ≤ 16) (hr : Rd w 1 A n (ints zs)) (hv : placesB ps = true) (hp : Rd w 1 B m (ints ps)) :
    Calls Try.prog 68 #[.agg #[.slice A n c], .slice B m d] w fun e w' => RetTouch w (runF zs ps) (runT zs ps) e w' := by
  have hlz := Lib.hid hr.len
  have hlp := Lib.hid hp.len
  have HR := Lib.hid hr
  have HP := Lib.hid hp
  clear hr hp
  obtain ⟨h60, hpl⟩ := placesB_use hv
  rw [hlp.out] at h60
  have HPL := Lib.hid hpl
  clear hpl hv
  go_enter Try.func68, Try.ntmps68
  go_wp2_with fail
  refine (cloneI_any A n c zs _ (by omega) (HR.out.below (Nat.le_refl _) (by go_grown)) (fun h => by obtain ⟨b, o, h2, _⟩ := HR.out.2 hn1; rw [h] at h2; cases h2)).mono ?_
  rintro e w1 ⟨A2, c2, rfl, hf1, hb1⟩
  have hs1 := hb1.size
  simp only [World.size_alloc] at hs1 hf1
  rw [hlz.out] at hf1 ⊢
  have q4 : Hid (Blk w1 (w.heap.size + 1) 50 #[.slice none 0 0]) := Blk.below (w' := w1) (Blk.at_ _ _ _ (by simp)) (Nat.le_refl _) hb1
  have HB1 := Lib.hid (Below.andThen (w := w) (by go_grown) hb1)
  have HF1 := Lib.hid hf1
  clear hf1 hb1
  go_wp2
  go_loopw [7, 16] (fun tt i wr => ∃ (k : Nat) (ys : List Int) (t : Int), k ≤ m ∧ i = .int .i64 k ∧ tt = .int .i64 t ∧ 0 ≤ t ∧ t ≤ 8 * k ∧ Hid (t = runT zs (ps.take k)) ∧ Hid (ys = runF zs (ps.take k)) ∧
        Hid (Blk wr w1.heap.size 50 #[.slice A2 n c2]) ∧ Hid (Blk wr (w.heap.size + 1) 50 #[.slice none 0 0]) ∧ Hid (Fr wr (w.heap.size + 1 + 1) w1.heap.size 3 1 A2 n (ints ys)) ∧ w1.heap.size < wr.heap.size ∧ Hid (Below w.heap.size w wr)) (fun _ i _ => m - (intOf i).toNat)
  case atStart => exact ⟨0, zs, 0, Nat.zero_le _, rfl, rfl, by omega, by omega, by show (0 : Int) = _; simp [runT], by show zs = _; simp [runF], Blk.at_ _ _ _ rfl, q4.out.alloc _, HF1.out.alloc _, by simp, HB1.out.alloc (by omega) _⟩
  case round =>
    obtain ⟨k, ys, t, hk, rfl, rfl, ht0, ht1, HT, HY, HQ, HQ4, HF, hs, HB⟩ := hrel
    clear q4 HB1
    have k6_0 := HQ.out.cell 0 rfl
    have k4_0 := HQ4.out.cell 0 rfl
    have f4_0 := HQ4.out.frozen 0
    by_cases hlt : k < m
    · obtain ⟨b, o, x, rfl, hbl, hx, hc⟩ := HP.out.int_ hlt
      have hc1 := (HB.out.cell (p := ⟨b, o + k, none⟩) hbl).trans hc
      obtain ⟨hx0, hx1⟩ := HPL.out k x hx
      have HX := Lib.hid hx
      have hys : ys.length = n := by rw [HY.out, runF_len]; exact hlz.out
      have hTb := touchT_bd ys x
      obtain ⟨F, hF⟩ : ∃ F, F = touchF ys x := ⟨_, rfl⟩
      obtain ⟨T, hT⟩ : ∃ T, T = touchT ys x := ⟨_, rfl⟩
      rw [← hT] at hTb
      obtain ⟨hTb1, hTb2⟩ := hTb
      have HFF := Lib.hid hF
      have HTT := Lib.hid hT
      clear hx hc hF hT hys
      go_wp2_with fail
      refine (touch_any A2 n c2 ys x (w.heap.size + 1 + 1) w1.heap.size _ hn1 hn16 hx0 hx1 HF.out (by omega)).mono ?_
      rw [← HFF.out, ← HTT.out]
      rintro e w3 ⟨rfl, hf3, ht3⟩
      have hs3 := ht3.size
      have HQ' : Hid (Blk w3 w1.heap.size 50 #[.slice A2 n c2]) := Blk.touch (w' := w3) HQ.out ht3 (by right; omega)
      have HQ4' : Hid (Blk w3 (w.heap.size + 1) 50 #[.slice none 0 0]) := Blk.touch (w' := w3) HQ4.out ht3 (by left; omega)
      have HB' : Hid (Below w.heap.size w w3) := Below.trans HB.out (ht3.below (by omega) (by have := HB.out.size; omega))
      have HF' := Lib.hid hf3
      clear hf3 ht3
      go_wp2
      go_roundw
      case rel =>
        refine ⟨k + 1, F, t + T, by omega, by go_num, rfl, by omega, by omega, ?_, ?_, HQ', HQ4', HF', by omega, HB'⟩
        · show t + T = _
          rw [take_snoc HX.out, runT_snoc, ← HT.out, ← HY.out, HTT.out]
        · show F = _
          rw [take_snoc HX.out, runF_snoc, ← HY.out, HFF.out]
      case measure => simp [intOf]; omega
    · have hkm : k = m := by omega
      have e1 : ps.take k = ps := by rw [hkm, ← hlp.out, List.take_length]
      have h1 := HT.out
      have h2 := HY.out
      rw [e1] at h1 h2
      have hl : ys.length = n := by rw [h2, runF_len]; exact hlz.out
      have HL := Lib.hid hl
      have H1 := Lib.hid h1
      have H2 := Lib.hid h2
      clear h1 h2 hl e1
      go_wp2
      refine bodyPost_ret (v := .tuple #[.agg #[.slice A2 n c2], .int .i64 t]) (by simp [results, Try.results68, go_sem, *]) rfl ?_
      rw [← H1.out, ← H2.out]
      refine ⟨A2, c2, by rw [HL.out], ?_, ?_, HB.out.setCell (by simp) _⟩
      · rw [HL.out]
        exact (HF.out.setFar (by left; simp) _).wide (by omega) (by simp; omega)
      · intro h
        obtain ⟨g, hg, _⟩ := HF.out.use (by omega)
        rw [h] at hg; cases hg
set_option maxRecDepth 100000 in
set_option maxHeartbeats 2000000 in
theorem iTouchTime_any (A : Option Addr) (n c : Nat) (zs : List Int) (B : Option Addr) (m d : Nat) (ps : List Int) (w : World) (hm : n ≤ 1048577) (hr : Rd w 1 A n (ints zs)) (hm2 : m ≤ 1048577) (hp : Rd w 1 B m (ints ps)) :
    Calls Try.prog 50 #[.agg #[.slice A n c], .slice B m d] w fun e w' => e = .returned (.int .i64 (ttV zs ps)) ∧ Below w.heap.size w w' := by
  have hlz := Lib.hid hr.len
  have HR := Lib.hid hr
  have HP := Lib.hid hp
  clear hr hp
  have HV : Hid (ttV zs ps = if (cacheOk zs && placesB ps) = true then runT zs ps else -1) := rfl
  cases hv : cacheOk zs
  · have e1 : ttV zs ps = -1 := by rw [HV.out, hv]; rfl
    rw [e1]; clear e1
    go_enter Try.func50, Try.ntmps50
    go_wp2_with fail
    refine (iCacheValid_any A n c zs _ (by omega) (HR.out.below (Nat.le_refl _) (by go_grown))).mono ?_
    rw [hv]
    rintro e w1 ⟨rfl, hb1⟩
    have HB := Lib.hid (Below.andThen (w := w) (by go_grown) hb1)
    clear hb1
    go_wp2
    go_ret
    exact ⟨rfl, HB.out⟩
  · cases hw : placesB ps
    · have e1 : ttV zs ps = -1 := by rw [HV.out, hv, hw]; rfl
      rw [e1]; clear e1
      go_enter Try.func50, Try.ntmps50
      go_wp2_with fail
      refine (iCacheValid_any A n c zs _ (by omega) (HR.out.below (Nat.le_refl _) (by go_grown))).mono ?_
      rw [hv]
      rintro e w1 ⟨rfl, hb1⟩
      have HB := Lib.hid (Below.andThen (w := w) (by go_grown) hb1)
      clear hb1
      go_wp2_with fail
      refine (placesOk_any B m d ps _ (by omega) (HP.out.below (Nat.le_refl _) HB.out)).mono ?_
      rw [hw]
      rintro e w2 ⟨rfl, hb2⟩
      have HB2 := Lib.hid (Below.andThen HB.out hb2)
      clear hb2
      go_wp2
      go_ret
      exact ⟨rfl, HB2.out⟩
    · have e1 : ttV zs ps = runT zs ps := by rw [HV.out, hv, hw]; rfl
      rw [e1]; clear e1
      obtain ⟨hn1, hn16⟩ := cacheOk_le hv
      rw [hlz.out] at hn1 hn16
      obtain ⟨F, hF⟩ : ∃ F, F = runF zs ps := ⟨_, rfl⟩
      obtain ⟨T, hT⟩ : ∃ T, T = runT zs ps := ⟨_, rfl⟩
      rw [← hT]
      have HFl : Hid (F.length = n) := by show _ = _; rw [hF, runF_len]; exact hlz.out
      have HFF := Lib.hid hF
      have HTT := Lib.hid hT
      clear hF hT
      go_enter Try.func50, Try.ntmps50
      go_wp2_with fail
      refine (iCacheValid_any A n c zs _ (by omega) (HR.out.below (Nat.le_refl _) (by go_grown))).mono ?_
      rw [hv]
      rintro e w1 ⟨rfl, hb1⟩
      have q2 : Hid (Blk w1 w.heap.size 50 #[.slice A n c]) := Blk.below (w' := w1) (Blk.at_ _ _ _ rfl) (Nat.le_refl _) hb1
      have HB := Lib.hid (Below.andThen (w := w) (by go_grown) hb1)
      clear hb1
      go_wp2_with fail
      refine (placesOk_any B m d ps _ (by omega) (HP.out.below (Nat.le_refl _) HB.out)).mono ?_
      rw [hw]
      rintro e w2 ⟨rfl, hb2⟩
      have HB2 := Lib.hid (Below.andThen HB.out hb2)
      have q2' : Hid (Blk w2 w.heap.size 50 #[.slice A n c]) := Blk.below (w' := w2) q2.out (Nat.le_refl _) hb2
      have k2_0 := q2'.out.cell 0 rfl
      clear hb2 q2
      go_wp2_with fail
      refine (touched_any A n c zs B m d ps _ hn1 hn16 (HR.out.below (Nat.le_refl _) HB2.out) hw (HP.out.below (Nat.le_refl _) HB2.out)).mono ?_
      rw [← HFF.out, ← HTT.out]
      rintro e w3 ⟨A3, c3, he, hf3, hA3, hb3⟩
      rw [HFl.out] at he
      subst he
      have HB3 := Lib.hid (Below.andThen HB2.out hb3)
      have hs3 := HB3.out.size
      clear hb3 hf3 hA3
      go_wp2
      go_ret
      exact ⟨rfl, by first | exact HB3.out.alloc hs3 _ | go_grown⟩
end Go.Proofs.Ytfdcneijcckolaa
