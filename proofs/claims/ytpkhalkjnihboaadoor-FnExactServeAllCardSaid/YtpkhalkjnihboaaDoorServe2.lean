/-
  CONTRACTS of ServeAll.
  Conditions: the table of math/bits lies as its text lays it.
-/
import Derived.Test.YtpkhalkjnihboaaDoorServe
import Derived.Test.YtpkhalkjnihboaaDoorSlices
namespace Go.Proofs.YtpkhalkjnihboaaDoor
open Go.ChangeShapes Go.WideShapes Go.ChangeAt Go.RowKit Go.Joins
set_option linter.unusedVariables false

set_option maxRecDepth 100000 in
set_option maxHeartbeats 400000 in
theorem toLines_any (r m : Int) (w : World) : Calls Tryd.prog 7 #[.agg #[.int .i64 r, .int .i64 m]] w fun e w' => e = .returned (.agg #[.int .i64 r, .int .i64 m]) ∧ Below w.heap.size w w' := by
  go_enter Tryd.func7, Tryd.ntmps7
  go_wp2
  refine bodyPost_ret (v := .agg #[.int .i64 r, .int .i64 m]) (by simp [results, Tryd.results7, go_sem]) rfl ⟨rfl, by go_grown⟩
def lenV : Value → Nat
  | .slice _ n _ => n
  | _ => 0
theorem own_slice {w : World} {base n : Nat} {v : Value} {zs : List Int} (h : w.ownsRow base 3 1 v n (ints zs)) : ∃ A c, v = .slice A zs.length c ∧ zs.length = n ∧ w.ownsRow base 3 1 (.slice A zs.length c) zs.length (ints zs) ∧ (A = none → zs.length = 0 ∧ c = 0) := by
  have hl : zs.length = n := by have := h.1; simpa [ints] using this
  subst hl
  rcases h.2 with ⟨rfl, h0⟩ | ⟨g, cap, cur, rfl, r⟩
  · refine ⟨none, 0, by rw [h0], rfl, ?_, fun _ => ⟨h0, rfl⟩⟩
    have e : zs = [] := List.eq_nil_of_length_eq_zero h0
    subst e
    exact World.ownsRow_nil _ _ _ _
  · exact ⟨_, _, rfl, rfl, h, (fun ha => by cases ha)⟩
theorem Blk.grown {w w' : World} {g : Nat} {t : TypeId} {cs : Array Value} {row : Option Nat} (h : Blk w g t cs) (hg : w.grownBy w' row) (hne : ∀ k, row = some k → k ≠ g) : Blk w' g t cs := (hg.block g h.lt (fun e => hne g e.symm rfl)).trans h
theorem retI_own {w w' : World} {base : Nat} {v : Value} {zs : List Int} (h : w'.ownsRow base 3 1 v zs.length (ints zs)) (hb : w.heap.size ≤ base) (hB : Below w.heap.size w w') : RetI w zs (.returned v) w' := by
  rcases h.2 with ⟨rfl, h0⟩ | ⟨g, cap, cur, rfl, r⟩
  · have e : zs = [] := List.eq_nil_of_length_eq_zero h0
    subst e
    exact ⟨none, 0, rfl, Fr.nil_, hB⟩
  · exact ⟨_, _, rfl, (Fr.of_own h).wide hb (Nat.le_refl _), hB⟩
theorem ownFar {w : World} {base : Nat} {e : TypeId} {size n : Nat} {v : Value} {xs : List Value} (h : w.ownsRow base e size v n xs) {p : Addr} (hp : p.block < base) (u : Value) : (w.setCell p u).ownsRow base e size v n xs :=
  (Touch.setCell (lo := p.block) (hi := p.block + 1) (Touch.refl _ _ w) (Nat.le_refl _) (Nat.lt_succ_self _) u).own h (fun k hk => by have := (h.lt k hk).1; right; omega)

set_option maxRecDepth 100000 in
set_option maxHeartbeats 8000000 in
theorem sServeAll_any (r m : Int) (w : World) : Calls Tryd.prog 12 #[.agg #[.int .i64 r, .int .i64 m]] w (fun e w' => RetI w (serveL r m) e w') := by
  obtain ⟨i0, hi, hz0, hz1, hz2⟩ := info_parts Tryd.infoInt
  cases hv : linesValid r m
  · rw [show serveL r m = [] by unfold serveL; rw [if_neg (by rw [hv]; simp)]]
    have hnl := nlV_no hv
    have HNL := Lib.hid hnl
    clear hnl
    go_enter Tryd.func12, Tryd.ntmps12
    go_wp2_with fail
    refine wp_loop_rounds 1 ?_
    rw [rounds_succ]
    go_wp2_with (go_at_call 6; refine (sNextLine_any r m _).mono ?_; rw [HNL.out]; rintro e w1 ⟨rfl, hb1⟩; have HB1 : Hid (Below w.heap.size w w1) := Below.andThen (by go_grown) hb1; clear hb1)
    go_ret
    exact ⟨_, 0, rfl, Fr.nil_, HB1.out⟩
  · have HVR := Lib.hid hv
    clear hv
    go_enter Tryd.func12, Tryd.ntmps12
    have HO0 : Hid (((w.alloc (.cells #[.int .i64 r, .int .i64 m] 25)).alloc (.cells #[] 3)).ownsRow (w.heap.size + 1) 3 1 (.slice (some ⟨w.heap.size + 1, 0, none⟩) 0 0) 0 (ints [])) := by
      have h := World.ownsRow_lit (base := w.heap.size + 1) (e := 3) (size := 1) (w.alloc (.cells #[.int .i64 r, .int .i64 m] 25)) #[] 0 (by simp) (Nat.zero_le _) (by simp)
      show World.ownsRow _ _ _ _ _ _ _
      simpa [ints] using h
    go_wp2_with fail
    go_loopw [3] (fun v wr => ∃ (k : Nat) (ys : List Int) (r1 : Int) (Av : Option Addr) (cv : Nat), v = .slice Av k cv ∧ ys.length = k ∧ k ≤ 8 ∧ Hid (k + pc (opn r1 m) ≤ 8) ∧ Hid (linesValid r1 m = true) ∧ Hid (ys ++ sL (pc (opn r1 m)) r1 m = serveL r m) ∧ Hid (wr.ownsRow (w.heap.size + 1) 3 1 (.slice Av k cv) k (ints ys)) ∧ Hid (Av = none → k = 0 ∧ cv = 0) ∧ Hid (Blk wr w.heap.size 25 #[.int .i64 r1, .int .i64 m]) ∧ Hid (Below w.heap.size w wr)) (fun v _ => 9 - lenV v)
    case atStart => exact ⟨0, [], r, _, 0, rfl, rfl, by omega, (by show _ ≤ _; have := pc_le _ (opn_lt HVR.out); omega), HVR, (by show _ = _; unfold serveL; rw [if_pos HVR.out]; rfl), HO0, (fun h => by cases h), (Blk.at_ _ _ _ rfl).alloc _, by show Below _ _ _; go_grown⟩
    case round =>
        obtain ⟨k, ys, r1, Av, cv, rfl, hyk, hk8, HPC, HV, HS, HO, HA, qb, HB⟩ := hrel
        obtain ⟨wo, rfl⟩ : ∃ wo : World, wo = wr := ⟨_, rfl⟩
        obtain ⟨n, hn⟩ : ∃ n, n = nlV r1 m := ⟨_, rfl⟩
        obtain ⟨r2, hr2⟩ : ∃ z, z = svR r1 m := ⟨_, rfl⟩
        have HN := Lib.hid hn
        have HR2 := Lib.hid hr2
        have HM : Hid (svM r1 m = m) := by show _ = _; unfold svM; rw [if_pos HV.out]
        have hsw := HB.out.size
        have kb_0 : wo.cell? ⟨w.heap.size, 0, none⟩ = some (.int .i64 r1) := qb.out.cell 0 rfl
        have fb_0 := qb.out.frozen 0
        have kb_1 : wo.cell? ⟨w.heap.size, 1, none⟩ = some (.int .i64 m) := qb.out.cell 1 rfl
        have fb_1 := qb.out.frozen 1
        have lb := qb.out.lt
        by_cases h0 : 0 ≤ n
        · have hk7 : k + 1 ≤ 8 := by have h1 := HPC.out; have h2 := (serve_next HV.out (by rw [← hn]; exact h0)).2; omega
          have HPC2 : Hid (k + 1 + pc (opn r2 m) ≤ 8) := by show _ ≤ _; have h1 := HPC.out; have h2 := (serve_next HV.out (by rw [← hn]; exact h0)).2; rw [← hr2] at h2; omega
          have HV2 : Hid (linesValid r2 m = true) := by show _ = _; rw [hr2]; exact (serve_next HV.out (by rw [← hn]; exact h0)).1
          have HS2 : Hid ((ys ++ [n]) ++ sL (pc (opn r2 m)) r2 m = serveL r m) := by
            show _ = _
            rw [List.append_assoc, ← HS.out, sL_step HV.out (by rw [← hn]; exact h0), ← hn, ← hr2]; rfl
          clear hn hr2
          go_wp2_with (first
            | (go_at_call 6; refine (sNextLine_any r1 m _).mono ?_; rw [← HN.out]; rintro e w1 ⟨rfl, hb1⟩; have HO1 := Lib.hid (own_below hb1 (Nat.le_refl _) HO.out); have HB1 := Lib.hid (Below.andThen HB.out hb1); have qb : Hid (Blk w1 w.heap.size 25 #[.int .i64 r1, .int .i64 m]) := qb.out.below (Nat.le_refl _) hb1; have hs1 := hb1.size; clear kb_0 fb_0 kb_1 fb_1 lb; clear hb1; have kb_0 : w1.cell? ⟨w.heap.size, 0, none⟩ = some (.int .i64 r1) := qb.out.cell 0 rfl; have fb_0 := qb.out.frozen 0; have kb_1 : w1.cell? ⟨w.heap.size, 1, none⟩ = some (.int .i64 m) := qb.out.cell 1 rfl; have fb_1 := qb.out.frozen 1; have lb := qb.out.lt)
            | (go_at_call 9; refine (sServeLine_any r1 m _).mono ?_; rw [← HN.out, ← HR2.out, HM.out]; rintro e w2 ⟨rfl, hb2⟩; have HO2 := Lib.hid (own_below hb2 (Nat.le_refl _) HO1.out); have HB2 := Lib.hid (Below.andThen HB1.out hb2); have qb : Hid (Blk w2 w.heap.size 25 #[.int .i64 r1, .int .i64 m]) := qb.out.below (Nat.le_refl _) hb2; have hs2 := hb2.size; clear kb_0 fb_0 kb_1 fb_1 lb; clear hb2; have kb_0 : w2.cell? ⟨w.heap.size, 0, none⟩ = some (.int .i64 r1) := qb.out.cell 0 rfl; have fb_0 := qb.out.frozen 0; have kb_1 : w2.cell? ⟨w.heap.size, 1, none⟩ = some (.int .i64 m) := qb.out.cell 1 rfl; have fb_1 := qb.out.frozen 1; have lb := qb.out.lt)
            | (at_builtin; refine wpList_append_rd _ rfl _ _ 31 rfl (w.heap.size + 1) 3 i0 (.int .i64 0) 1 8 Tryd.underlying31 hi hz0 hz1 hz2 rfl (by omega) _ k (ints ys) rfl (((ownFar (ownFar HO2.out (by dsimp only; omega) _) (by dsimp only; omega) _).alloc _).alloc _) _ 1 1 (ints [n]) rfl (rd_new (by first | rfl | (simp; done)) rfl) (ints_one _) (by unfold maxLen; omega) (by omega) (by first | (simp; done) | (simp; omega) | (simp [World.setCell]; omega)) ?_; intro v4 w4 ho4 hg4 hat4; have ho5 : w4.ownsRow (w.heap.size + 1) 3 1 v4 (k + 1) (ints (ys ++ [n])) := (by rw [show ints (ys ++ [n]) = ints ys ++ ints [n] by simp [ints]]; exact ho4); obtain ⟨A4, c4, rfl, hl4, ho6, hn6⟩ := own_slice ho5; have HO4 := Lib.hid ho6; have HA4 := Lib.hid hn6; have HB4 : Hid (Below w.heap.size w w4) := below_own (size := 1) (base := w.heap.size + 1) ((((HB2.out.setCell (by dsimp only; omega) _).setCell (by dsimp only; omega) _).alloc (by simp [World.setCell]; omega) _).alloc (by simp [World.setCell]; omega) _) (((ownFar (ownFar HO2.out (by dsimp only; omega) _) (by dsimp only; omega) _).alloc _).alloc _) (by omega) (by first | (simp; done) | (simp; omega) | (simp [World.setCell]; omega)) hg4; have qb4 : Hid (Blk w4 w.heap.size 25 #[.int .i64 r2, .int .i64 m]) := Blk.grown ((((qb.out.set_ 0 _).set_ 1 _).alloc _).alloc _) hg4 (fun k9 hk9 => by have := (HO2.out.lt k9 hk9).1; omega); clear ho4 hg4 hat4 ho5 ho6 hn6))
          go_roundw
          case rel => exact ⟨k + 1, ys ++ [n], r2, A4, c4, (by first | rfl | (rw [hl4])), (by simp; omega), hk7, HPC2, HV2, HS2, (by show World.ownsRow _ _ _ _ _ _ _; have h := HO4.out; rw [hl4] at h; exact h), (fun h => by have h9 := HA4.out h; rw [hl4] at h9; exact h9), qb4, HB4⟩
          case measure => simp [lenV]; omega
        · have h1 : n < 0 := by omega
          have HZ : Hid (ys = serveL r m) := by
            show _ = _
            have h := HS.out
            rw [sL_stop HV.out (by rw [← hn]; exact h1)] at h
            rw [← h]; simp [sL]
          clear hn hr2
          go_wp2_with (go_at_call 6; refine (sNextLine_any r1 m _).mono ?_; rw [← HN.out]; rintro e w1 ⟨rfl, hb1⟩; have HO1 := Lib.hid (own_below hb1 (Nat.le_refl _) HO.out); have HB1 := Lib.hid (Below.andThen HB.out hb1); have qb : Hid (Blk w1 w.heap.size 25 #[.int .i64 r1, .int .i64 m]) := qb.out.below (Nat.le_refl _) hb1; have hs1 := hb1.size; clear kb_0 fb_0 kb_1 fb_1 lb; clear hb1; have kb_0 : w1.cell? ⟨w.heap.size, 0, none⟩ = some (.int .i64 r1) := qb.out.cell 0 rfl; have fb_0 := qb.out.frozen 0; have kb_1 : w1.cell? ⟨w.heap.size, 1, none⟩ = some (.int .i64 m) := qb.out.cell 1 rfl; have fb_1 := qb.out.frozen 1; have lb := qb.out.lt)
          go_ret
          rw [← HZ.out]
          have hk9 := hyk
          subst hk9
          exact retI_own HO1.out (by omega) HB1.out
set_option maxRecDepth 100000 in
set_option maxHeartbeats 8000000 in
theorem iServeAll_any (r m : Int) (w : World) (hT : Tab w) : Calls Tryd.prog 13 #[.agg #[.int .i64 r, .int .i64 m]] w (fun e w' => RetI w (serveL r m) e w') := by
  obtain ⟨i0, hi, hz0, hz1, hz2⟩ := info_parts Tryd.infoInt
  have HTab := Lib.hid hT
  clear hT
  cases hv : linesValid r m
  · rw [show serveL r m = [] by unfold serveL; rw [if_neg (by rw [hv]; simp)]]
    have HNL := Lib.hid (nlV_no hv)
    go_enter Tryd.func13, Tryd.ntmps13
    go_wp2_with fail
    refine wp_loop_rounds 1 ?_
    rw [rounds_succ]
    go_wp2_with (first
      | (go_at_call 10; refine (iServeLine_any r m _ (HTab.out.alloc _)).mono ?_; rw [HNL.out]; rintro e w1 ⟨rfl, hb1⟩; have HB1 : Hid (Below w.heap.size w w1) := Below.andThen (by go_grown) hb1; have hs1 := HB1.out.size; clear hb1)
      | (go_at_call 20; refine (cloneI_any none 0 0 [] _ (by omega) Rd.nil_ (fun _ => ⟨rfl, rfl⟩)).mono ?_; rintro e w2 ⟨A2, c2, rfl, hf2, hb2⟩; have HF2 := Lib.hid hf2; have HB2 := Lib.hid (Below.andThen (HB1.out.alloc hs1 _) hb2); clear hf2 hb2))
    go_ret
    exact ⟨A2, c2, rfl, Fr.nil_, HB2.out⟩
  · have HVR := Lib.hid hv
    clear hv
    go_enter Tryd.func13, Tryd.ntmps13
    go_wp2_with fail
    go_loopw [3] (fun v wr => ∃ (k : Nat) (ys : List Int) (r1 : Int) (Av : Option Addr) (cv : Nat), v = .slice Av k cv ∧ ys.length = k ∧ k ≤ 8 ∧ Hid (k + pc (opn r1 m) ≤ 8) ∧ Hid (linesValid r1 m = true) ∧ Hid (ys ++ sL (pc (opn r1 m)) r1 m = serveL r m) ∧ Hid (wr.ownsRow (w.heap.size + 1) 3 1 (.slice Av k cv) k (ints ys)) ∧ Hid (Av = none → k = 0 ∧ cv = 0) ∧ Hid (Blk wr w.heap.size 25 #[.int .i64 r1, .int .i64 m]) ∧ Hid (Below w.heap.size w wr)) (fun v _ => 9 - lenV v)
    case atStart => exact ⟨0, [], r, none, 0, rfl, rfl, by omega, (by show _ ≤ _; have := pc_le _ (opn_lt HVR.out); omega), HVR, (by show _ = _; unfold serveL; rw [if_pos HVR.out]; rfl), World.ownsRow_nil _ _ _ _, (fun _ => ⟨rfl, rfl⟩), Blk.at_ _ _ _ rfl, by show Below _ _ _; go_grown⟩
    case round =>
        obtain ⟨k, ys, r1, Av, cv, rfl, hyk, hk8, HPC, HV, HS, HO, HA, qb, HB⟩ := hrel
        obtain ⟨wo, rfl⟩ : ∃ wo : World, wo = wr := ⟨_, rfl⟩
        obtain ⟨n, hn⟩ : ∃ n, n = nlV r1 m := ⟨_, rfl⟩
        obtain ⟨r2, hr2⟩ : ∃ z, z = svR r1 m := ⟨_, rfl⟩
        have HN := Lib.hid hn
        have HR2 := Lib.hid hr2
        have HM : Hid (svM r1 m = m) := by show _ = _; unfold svM; rw [if_pos HV.out]
        have hsw := HB.out.size
        have kb_0 : wo.cell? ⟨w.heap.size, 0, none⟩ = some (.int .i64 r1) := qb.out.cell 0 rfl
        have fb_0 := qb.out.frozen 0
        have kb_1 : wo.cell? ⟨w.heap.size, 1, none⟩ = some (.int .i64 m) := qb.out.cell 1 rfl
        have fb_1 := qb.out.frozen 1
        have lb := qb.out.lt
        by_cases h0 : 0 ≤ n
        · have h1 : ¬ n < 0 := by omega
          have hk7 : k + 1 ≤ 8 := by have h1 := HPC.out; have h2 := (serve_next HV.out (by rw [← hn]; exact h0)).2; omega
          have HPC2 : Hid (k + 1 + pc (opn r2 m) ≤ 8) := by show _ ≤ _; have h1 := HPC.out; have h2 := (serve_next HV.out (by rw [← hn]; exact h0)).2; rw [← hr2] at h2; omega
          have HV2 : Hid (linesValid r2 m = true) := by show _ = _; rw [hr2]; exact (serve_next HV.out (by rw [← hn]; exact h0)).1
          have HS2 : Hid ((ys ++ [n]) ++ sL (pc (opn r2 m)) r2 m = serveL r m) := by
            show _ = _
            rw [List.append_assoc, ← HS.out, sL_step HV.out (by rw [← hn]; exact h0), ← hn, ← hr2]; rfl
          clear hn hr2
          go_wp2_with (first
            | (go_at_call 10; refine (iServeLine_any r1 m _ (HTab.out.below (Nat.le_refl _) HB.out)).mono ?_; rw [← HN.out, ← HR2.out, HM.out]; rintro e w2 ⟨rfl, hb2⟩; have HO2 := Lib.hid (own_below hb2 (Nat.le_refl _) HO.out); have HB2 := Lib.hid (Below.andThen HB.out hb2); have qb : Hid (Blk w2 w.heap.size 25 #[.int .i64 r1, .int .i64 m]) := qb.out.below (Nat.le_refl _) hb2; have hs2 := hb2.size; clear kb_0 fb_0 kb_1 fb_1 lb; clear hb2; have kb_0 : w2.cell? ⟨w.heap.size, 0, none⟩ = some (.int .i64 r1) := qb.out.cell 0 rfl; have fb_0 := qb.out.frozen 0; have kb_1 : w2.cell? ⟨w.heap.size, 1, none⟩ = some (.int .i64 m) := qb.out.cell 1 rfl; have fb_1 := qb.out.frozen 1; have lb := qb.out.lt)
            | (at_builtin; refine wpList_append_rd _ rfl _ _ 31 rfl (w.heap.size + 1) 3 i0 (.int .i64 0) 1 8 Tryd.underlying31 hi hz0 hz1 hz2 rfl (by omega) _ k (ints ys) rfl ((HO2.out.alloc _).alloc _) _ 1 1 (ints [n]) rfl (rd_new (by first | rfl | (simp; done)) rfl) (ints_one _) (by unfold maxLen; omega) (by omega) (by first | (simp; done) | (simp; omega) | (simp [World.setCell]; omega)) ?_; intro v4 w4 ho4 hg4 hat4; have ho5 : w4.ownsRow (w.heap.size + 1) 3 1 v4 (k + 1) (ints (ys ++ [n])) := (by rw [show ints (ys ++ [n]) = ints ys ++ ints [n] by simp [ints]]; exact ho4); obtain ⟨A4, c4, rfl, hl4, ho6, hn6⟩ := own_slice ho5; have HO4 := Lib.hid ho6; have HA4 := Lib.hid hn6; have HB4 : Hid (Below w.heap.size w w4) := below_own (size := 1) (base := w.heap.size + 1) ((HB2.out.alloc (by omega) _).alloc (by simp; omega) _) ((HO2.out.alloc _).alloc _) (by omega) (by first | (simp; done) | (simp; omega) | (simp [World.setCell]; omega)) hg4; have qb : Hid (Blk w4 w.heap.size 25 #[.int .i64 r1, .int .i64 m]) := Blk.grown ((qb.out.alloc _).alloc _) hg4 (fun k9 hk9 => by have := (HO2.out.lt k9 hk9).1; omega); have qx : Hid (Blk w4 w2.heap.size 25 #[.int .i64 r2, .int .i64 m]) := Blk.grown ((Blk.at_ _ _ _ rfl).alloc _) hg4 (fun k9 hk9 => by have := (HO2.out.lt k9 hk9).2; omega); have hs4 := hg4.size; clear kb_0 fb_0 kb_1 fb_1 lb; have kx_0 : w4.cell? ⟨w2.heap.size, 0, none⟩ = some (.int .i64 r2) := qx.out.cell 0 rfl; have kx_1 : w4.cell? ⟨w2.heap.size, 1, none⟩ = some (.int .i64 m) := qx.out.cell 1 rfl; have kb_0 : w4.cell? ⟨w.heap.size, 0, none⟩ = some (.int .i64 r1) := qb.out.cell 0 rfl; have fb_0 := qb.out.frozen 0; have kb_1 : w4.cell? ⟨w.heap.size, 1, none⟩ = some (.int .i64 m) := qb.out.cell 1 rfl; have fb_1 := qb.out.frozen 1; have lb := qb.out.lt; clear ho4 hg4 hat4 ho5 ho6 hn6))
          go_roundw
          case rel => exact ⟨k + 1, ys ++ [n], r2, A4, c4, (by first | rfl | (rw [hl4])), (by simp; omega), hk7, HPC2, HV2, HS2, (by show World.ownsRow _ _ _ _ _ _ _; have h := HO4.out; rw [hl4] at h; exact ownFar (ownFar h (by dsimp only; omega) _) (by dsimp only; omega) _), (fun h => by have h9 := HA4.out h; rw [hl4] at h9; exact h9), (qb.out.set_ 0 _).set_ 1 _, (HB4.out.setCell (by dsimp only; omega) _).setCell (by dsimp only; omega) _⟩
          case measure => simp [lenV]; omega
        · have h1 : n < 0 := by omega
          have HZ : Hid (ys = serveL r m) := by
            show _ = _
            have h := HS.out
            rw [sL_stop HV.out (by rw [← hn]; exact h1)] at h
            rw [← h]; simp [sL]
          clear hn hr2
          go_wp2_with (first
            | (go_at_call 10; refine (iServeLine_any r1 m _ (HTab.out.below (Nat.le_refl _) HB.out)).mono ?_; rw [← HN.out, ← HR2.out, HM.out]; rintro e w2 ⟨rfl, hb2⟩; have HO2 := Lib.hid (own_below hb2 (Nat.le_refl _) HO.out); have HB2 := Lib.hid (Below.andThen HB.out hb2); have qb : Hid (Blk w2 w.heap.size 25 #[.int .i64 r1, .int .i64 m]) := qb.out.below (Nat.le_refl _) hb2; have hs2 := hb2.size; clear kb_0 fb_0 kb_1 fb_1 lb; clear hb2; have kb_0 : w2.cell? ⟨w.heap.size, 0, none⟩ = some (.int .i64 r1) := qb.out.cell 0 rfl; have fb_0 := qb.out.frozen 0; have kb_1 : w2.cell? ⟨w.heap.size, 1, none⟩ = some (.int .i64 m) := qb.out.cell 1 rfl; have fb_1 := qb.out.frozen 1; have lb := qb.out.lt)
            | (go_at_call 20; refine (cloneI_any Av k cv ys _ (by omega) ((Rd.of_own HO2.out).alloc _) HA.out).mono ?_; rintro e w5 ⟨A5, c5, rfl, hf5, hb5⟩; have HF5 := Lib.hid hf5; have HB5 := Lib.hid (Below.andThen (HB2.out.alloc HB2.out.size _) hb5); clear hf5 hb5))
          go_ret
          rw [← HZ.out]
          have hk9 := hyk
          subst hk9
          exact ⟨A5, c5, rfl, HF5.out.wide (by have := HB2.out.size; simp; omega) (Nat.le_refl _), HB5.out⟩
end Go.Proofs.YtpkhalkjnihboaaDoor
