/-
  CONTRACT of the program's ProgramChannels.
  Conditions: none beyond those that it states.
-/
import Derived.Test.YtpaknpjdamoibaaRowPut
import Derived.Test.YtpaknpjdamoibaaShelf
namespace Go.Proofs.Ytpaknpjdamoibaa
open Go.ChangeShapes Go.WideShapes Go.ChangeAt Go.RowKit Go.Joins
set_option linter.unusedVariables false

section
variable {w a : World} {base g n c B : Nat} {zs : List Int}
theorem sort_own (hl : zs.length = n) (h100 : n ≤ 100) (ho : w.ownsRow base 3 1 (.slice (some ⟨g, 0, none⟩) n c) n (ints zs)) (hb : Below B a w) (hB : B ≤ base) :
    Calls Try.prog 16 #[.slice (some ⟨g, 0, none⟩) n c] w fun e w' => e = .returned (.tuple #[]) ∧ w'.ownsRow base 3 1 (.slice (some ⟨g, 0, none⟩) n c) n (ints (zs.mergeSort fun x y => decide (x ≤ y))) ∧ Below B a w' := by
  obtain ⟨cur, hg, hbg, _⟩ := own_some ho
  have hgw := (Array.getElem?_eq_some_iff.1 hg).1
  subst hl
  refine (Try.slices_Sort_int g 0 c zs w (holds_own ho) hgw (by omega)).mono fun e w' h => ?_
  obtain ⟨rfl, q, os, rfl⟩ := h
  exact ⟨rfl, row_put ho (by rw [List.length_mergeSort]) q os, below_put hb (by omega) hgw q _ os⟩
theorem compact_own (hl : zs.length = n) (h100 : n ≤ 100) (ho : w.ownsRow base 3 1 (.slice (some ⟨g, 0, none⟩) n c) n (ints zs)) (hb : Below B a w) (hB : B ≤ base) :
    Calls Try.prog 18 #[.slice (some ⟨g, 0, none⟩) n c] w fun e w' => e = .returned (.slice (some ⟨g, 0, none⟩) (Lib.compact zs).length c) ∧ Fr w' base w'.heap.size 3 1 (some ⟨g, 0, none⟩) (Lib.compact zs).length (ints (Lib.compact zs)) ∧ Below B a w' := by
  obtain ⟨cur, hg, hbg, hnc, _⟩ := own_some ho
  have hgw := (Array.getElem?_eq_some_iff.1 hg).1
  have hcl : (Lib.compact zs).length ≤ zs.length := by
    unfold Lib.compact Lib.compactUpTo
    rw [List.length_map]
    exact Nat.le_trans (List.length_filter_le _ _) (by simp)
  subst hl
  refine (Try.slices_Compact_int g 0 c zs w (holds_own ho) (by omega) hnc).mono fun e w' h => ?_
  obtain ⟨rfl, q, rfl⟩ := h
  have hl2 : (Lib.compact zs ++ List.replicate (zs.length - (Lib.compact zs).length) 0).length = zs.length := by simp; omega
  have h1 := row_put (ys := Lib.compact zs ++ List.replicate (zs.length - (Lib.compact zs).length) 0) ho hl2 q #[]
  have h2 := below_put hb (by omega : B ≤ g) hgw q (Lib.compact zs ++ List.replicate (zs.length - (Lib.compact zs).length) 0).toArray #[]
  rw [Sort.grow_empty] at h1 h2
  refine ⟨rfl, ⟨by simp [ints], fun hn => ?_⟩, h2⟩
  obtain ⟨cur2, hg2, _, hnc2, _, hcs2, ht2⟩ := own_some h1
  refine ⟨g, cur2, rfl, hbg, (Array.getElem?_eq_some_iff.1 hg2).1, hg2, by omega, ?_⟩
  have h3 : cur2.toList.take ((Lib.compact zs).length * 1) = (cur2.toList.take (zs.length * 1)).take ((Lib.compact zs).length * 1) := by rw [List.take_take, Nat.min_eq_left (by omega)]
  rw [h3, ht2]
  simp [ints]
end
set_option maxRecDepth 100000 in
set_option maxHeartbeats 8000000 in
theorem iProgramChannels_any (A : Option Addr) (n c : Nat) (zs : List Ord3) (cells : Int) (sends : Bool) (w : World) (hm : n ≤ 1048577) (hr : Rd w 3 A n (ords zs)) :
    Calls Try.prog 7 #[.slice A n c, .int .i64 cells, .bool sends] w (fun e w' => RetI w (chRes zs cells sends) e w') := by
  obtain ⟨i0, hi, hz0, hz1, hz2⟩ := info_parts Try.infoInt
  have hlz := Lib.hid hr.ordsLen
  have HR := Lib.hid hr
  clear hr
  cases hok : progOk zs cells
  · rw [show chRes zs cells sends = [] by unfold chRes; rw [if_neg (by rw [hok]; simp)]]
    go_enter Try.func7, Try.ntmps7
    go_wp2_with (go_at_call 15; refine (iProgramValid_is hok _ hm HR.out).mono ?_; rintro e w1 ⟨rfl, hb1⟩)
    go_ret
    exact ⟨none, 0, rfl, Fr.nil_, hb1⟩
  · have hn20 := (progOk_len hok).2
    rw [hlz.out] at hn20
    have HOK := Lib.hid hok
    clear hok
    cases sends
    · have HSC : Hid (Lib.compact ((opL 6 zs).mergeSort fun x y => decide (x ≤ y)) = chRes zs cells false) := by show _ = _; rw [sorted_ch HOK.out (by omega)]; unfold chRes; rw [if_pos HOK.out]; rfl
      go_enter Try.func7, Try.ntmps7
      go_wp2_with (go_at_call 15; refine (iProgramValid_is HOK.out _ hm HR.out).mono ?_; rintro e w1 ⟨rfl, hb1⟩; have HB1 := Lib.hid hb1; clear hb1)
      go_loopw [8, 18] (fun v i wr => ∃ (k : Nat) (ys : List Int), k ≤ n ∧ i = .int .i64 k ∧ ys.length ≤ k ∧ Hid (ys = opL 6 (zs.take k)) ∧ Hid (wr.ownsRow w.heap.size 3 1 v ys.length (ints ys)) ∧ Hid (Below w.heap.size w wr)) (fun _ i _ => n - (intOf i).toNat)
      case atStart => exact ⟨0, [], Nat.zero_le _, rfl, by simp, rfl, World.ownsRow_nil _ _ _ _, HB1⟩
      case round =>
        obtain ⟨k, ys, hk, rfl, hyl, HY, HO, HB⟩ := hrel
        obtain ⟨wo, rfl⟩ : ∃ wo : World, wo = wr := ⟨_, rfl⟩
        have hsw := HB.out.size
        by_cases hlt : k < n
        · obtain ⟨b, o, p0, p1, p2, rfl, hbl, hx, f0, f1, f2⟩ := HR.out.ord hlt
          have d0 := (HB.out.cell (p := ⟨b, o + k * 3, none⟩) hbl).trans f0
          have d1 := (HB.out.cell (p := ⟨b, o + k * 3 + 1, none⟩) hbl).trans f1
          have d2 := (HB.out.cell (p := ⟨b, o + k * 3 + 2, none⟩) hbl).trans f2
          have HX := Lib.hid (opL_next (op := 6) hx)
          clear f0 f1 f2 hx
          by_cases hO : p0 = 6
          · have HY2 : Hid (ys ++ [p1] = opL 6 (zs.take (k + 1))) := by show _ = _; rw [HX.out, if_pos hO, ← HY.out]
            subst hO
            go_wp2_with (at_builtin; refine wpList_append_rd _ rfl _ _ 24 rfl w.heap.size 3 i0 (.int .i64 0) 1 8 Try.underlying24 hi hz0 hz1 hz2 rfl (by omega) _ ys.length (ints ys) rfl ((HO.out.alloc _).alloc _) _ 1 1 (ints [p1]) rfl (rd_new (by first | rfl | simp) rfl) (ints_one _) (by unfold maxLen; omega) (by omega) (by first | (simp; done) | (simp; omega)) ?_; intro v4 w4 ho4 hg4 hat4; have HO4 := Lib.hid (own_ints ho4); have HB4 : Hid (Below w.heap.size w w4) := below_own (size := 1) (base := w.heap.size) ((HB.out.alloc (by omega) _).alloc (by simp; omega) _) ((HO.out.alloc _).alloc _) (by omega) (by simp; omega) hg4; clear ho4 hg4 hat4)
            go_roundw
            case rel => exact ⟨k + 1, ys ++ [p1], by omega, by go_num, by simp; omega, HY2, HO4, HB4⟩
            case measure => simp [intOf]; omega
          · have e9 : (p0 == 6) = false := by simpa using hO
            have HY2 : Hid (ys = opL 6 (zs.take (k + 1))) := by show _ = _; rw [HX.out, if_neg hO, List.append_nil]; exact HY.out
            go_wp2
            go_roundw
            case rel => exact ⟨k + 1, ys, by omega, by go_num, by omega, HY2, HO.out.alloc _, HB.out.alloc (by omega) _⟩
            case measure => simp [intOf]; omega
        · have hkn : k = n := by omega
          have HYZ : Hid (ys = opL 6 zs) := by show _ = _; rw [HY.out, hkn, ← hlz.out, List.take_length]
          have hy20 : ys.length ≤ 20 := by omega
          clear hkn
          rcases HO.out.2 with ⟨rfl, h0⟩ | ⟨gg, cap, cur, rfl, hg1, hg2, hg3, hg4, _⟩
          · have HZ0 : Hid (chRes zs cells false = []) := by
              show _ = _
              rw [← HSC.out, ← HYZ.out, List.eq_nil_of_length_eq_zero h0]
              apply List.eq_nil_of_length_eq_zero
              have : (Lib.compact ([] : List Int)).length ≤ 0 := by unfold Lib.compact Lib.compactUpTo; simp
              simpa using this
            go_wp2_with (first
              | (go_at_call 16; refine (Try.slices_Sort_int_none none 0 _).mono ?_; rintro e w2 ⟨rfl, rfl⟩)
              | (go_at_call 18; refine (Try.slices_Compact_int_empty none 0 _).mono ?_; rintro e w2 ⟨rfl, rfl⟩)
              | (go_at_call 17; refine (ClipI_any none 0 0 _ (by omega) (by omega) (by omega) (fun _ => ⟨rfl, rfl⟩)).mono ?_; rintro e w2 ⟨rfl, rfl⟩))
            go_ret
            rw [HZ0.out]
            exact ⟨none, 0, rfl, Fr.nil_, HB.out⟩
          · obtain ⟨S, hS⟩ : ∃ S, S = ys.mergeSort fun x y => decide (x ≤ y) := ⟨_, rfl⟩
            obtain ⟨R, hR⟩ : ∃ R, R = Lib.compact S := ⟨_, rfl⟩
            have hSl : S.length = ys.length := by rw [hS, List.length_mergeSort]
            have hRl : R.length ≤ ys.length := by
              rw [← hSl, hR]
              unfold Lib.compact Lib.compactUpTo
              rw [List.length_map]
              exact Nat.le_trans (List.length_filter_le _ _) (by simp)
            have HZ : Hid (chRes zs cells false = R) := by show _ = _; rw [← HSC.out, ← HYZ.out, hR, hS]
            have HSS := Lib.hid hS
            have HRR := Lib.hid hR
            have HSL := Lib.hid hSl
            obtain ⟨N, hN⟩ : ∃ N, N = ys.length := ⟨_, rfl⟩
            have HO9 : Hid (wo.ownsRow w.heap.size 3 1 (.slice (some ⟨gg, 0, none⟩) N cap) N (ints ys)) := by show World.ownsRow _ _ _ _ _ _ _; rw [hN]; exact HO.out
            have HNL : Hid (ys.length = N) := hN.symm
            rw [← hN] at hy20 hRl hg3 hSl ⊢
            clear hS hR hN hg2 HO hyl
            go_wp2_with (first
              | (go_at_call 16; refine (sort_own HNL.out (by omega) HO9.out HB.out (Nat.le_refl _)).mono ?_; rw [← HSS.out]; rintro e w2 ⟨rfl, ho2, hb2⟩; have HO2 := Lib.hid ho2; have HB2 := Lib.hid hb2; clear ho2 hb2)
              | (go_at_call 18; refine (compact_own hSl (by omega) HO2.out HB2.out (Nat.le_refl _)).mono ?_; rw [← HRR.out]; rintro e w3 ⟨rfl, hf3, hb3⟩; have HF3 := Lib.hid hf3; have HB3 := Lib.hid hb3; clear hf3 hb3)
              | (go_at_call 17; refine (ClipI_any (some ⟨gg, 0, none⟩) R.length cap _ (by omega) (by omega) hg4 (fun h => by cases h)).mono ?_; rintro e w4 ⟨rfl, rfl⟩))
            go_ret
            rw [HZ.out]
            exact ⟨_, _, rfl, HF3.out, HB3.out⟩
    · have HSC : Hid (Lib.compact ((opL 5 zs).mergeSort fun x y => decide (x ≤ y)) = chRes zs cells true) := by show _ = _; rw [sorted_ch HOK.out (by omega)]; unfold chRes; rw [if_pos HOK.out]; rfl
      go_enter Try.func7, Try.ntmps7
      go_wp2_with (go_at_call 15; refine (iProgramValid_is HOK.out _ hm HR.out).mono ?_; rintro e w1 ⟨rfl, hb1⟩; have HB1 := Lib.hid hb1; clear hb1)
      go_loopw [8, 18] (fun v i wr => ∃ (k : Nat) (ys : List Int), k ≤ n ∧ i = .int .i64 k ∧ ys.length ≤ k ∧ Hid (ys = opL 5 (zs.take k)) ∧ Hid (wr.ownsRow w.heap.size 3 1 v ys.length (ints ys)) ∧ Hid (Below w.heap.size w wr)) (fun _ i _ => n - (intOf i).toNat)
      case atStart => exact ⟨0, [], Nat.zero_le _, rfl, by simp, rfl, World.ownsRow_nil _ _ _ _, HB1⟩
      case round =>
        obtain ⟨k, ys, hk, rfl, hyl, HY, HO, HB⟩ := hrel
        obtain ⟨wo, rfl⟩ : ∃ wo : World, wo = wr := ⟨_, rfl⟩
        have hsw := HB.out.size
        by_cases hlt : k < n
        · obtain ⟨b, o, p0, p1, p2, rfl, hbl, hx, f0, f1, f2⟩ := HR.out.ord hlt
          have d0 := (HB.out.cell (p := ⟨b, o + k * 3, none⟩) hbl).trans f0
          have d1 := (HB.out.cell (p := ⟨b, o + k * 3 + 1, none⟩) hbl).trans f1
          have d2 := (HB.out.cell (p := ⟨b, o + k * 3 + 2, none⟩) hbl).trans f2
          have HX := Lib.hid (opL_next (op := 5) hx)
          clear f0 f1 f2 hx
          by_cases hO : p0 = 5
          · have HY2 : Hid (ys ++ [p1] = opL 5 (zs.take (k + 1))) := by show _ = _; rw [HX.out, if_pos hO, ← HY.out]
            subst hO
            go_wp2_with (at_builtin; refine wpList_append_rd _ rfl _ _ 24 rfl w.heap.size 3 i0 (.int .i64 0) 1 8 Try.underlying24 hi hz0 hz1 hz2 rfl (by omega) _ ys.length (ints ys) rfl ((HO.out.alloc _).alloc _) _ 1 1 (ints [p1]) rfl (rd_new (by first | rfl | simp) rfl) (ints_one _) (by unfold maxLen; omega) (by omega) (by first | (simp; done) | (simp; omega)) ?_; intro v4 w4 ho4 hg4 hat4; have HO4 := Lib.hid (own_ints ho4); have HB4 : Hid (Below w.heap.size w w4) := below_own (size := 1) (base := w.heap.size) ((HB.out.alloc (by omega) _).alloc (by simp; omega) _) ((HO.out.alloc _).alloc _) (by omega) (by simp; omega) hg4; clear ho4 hg4 hat4)
            go_roundw
            case rel => exact ⟨k + 1, ys ++ [p1], by omega, by go_num, by simp; omega, HY2, HO4, HB4⟩
            case measure => simp [intOf]; omega
          · have e9 : (p0 == 5) = false := by simpa using hO
            have HY2 : Hid (ys = opL 5 (zs.take (k + 1))) := by show _ = _; rw [HX.out, if_neg hO, List.append_nil]; exact HY.out
            go_wp2
            go_roundw
            case rel => exact ⟨k + 1, ys, by omega, by go_num, by omega, HY2, HO.out.alloc _, HB.out.alloc (by omega) _⟩
            case measure => simp [intOf]; omega
        · have hkn : k = n := by omega
          have HYZ : Hid (ys = opL 5 zs) := by show _ = _; rw [HY.out, hkn, ← hlz.out, List.take_length]
          have hy20 : ys.length ≤ 20 := by omega
          clear hkn
          rcases HO.out.2 with ⟨rfl, h0⟩ | ⟨gg, cap, cur, rfl, hg1, hg2, hg3, hg4, _⟩
          · have HZ0 : Hid (chRes zs cells true = []) := by
              show _ = _
              rw [← HSC.out, ← HYZ.out, List.eq_nil_of_length_eq_zero h0]
              apply List.eq_nil_of_length_eq_zero
              have : (Lib.compact ([] : List Int)).length ≤ 0 := by unfold Lib.compact Lib.compactUpTo; simp
              simpa using this
            go_wp2_with (first
              | (go_at_call 16; refine (Try.slices_Sort_int_none none 0 _).mono ?_; rintro e w2 ⟨rfl, rfl⟩)
              | (go_at_call 18; refine (Try.slices_Compact_int_empty none 0 _).mono ?_; rintro e w2 ⟨rfl, rfl⟩)
              | (go_at_call 17; refine (ClipI_any none 0 0 _ (by omega) (by omega) (by omega) (fun _ => ⟨rfl, rfl⟩)).mono ?_; rintro e w2 ⟨rfl, rfl⟩))
            go_ret
            rw [HZ0.out]
            exact ⟨none, 0, rfl, Fr.nil_, HB.out⟩
          · obtain ⟨S, hS⟩ : ∃ S, S = ys.mergeSort fun x y => decide (x ≤ y) := ⟨_, rfl⟩
            obtain ⟨R, hR⟩ : ∃ R, R = Lib.compact S := ⟨_, rfl⟩
            have hSl : S.length = ys.length := by rw [hS, List.length_mergeSort]
            have hRl : R.length ≤ ys.length := by
              rw [← hSl, hR]
              unfold Lib.compact Lib.compactUpTo
              rw [List.length_map]
              exact Nat.le_trans (List.length_filter_le _ _) (by simp)
            have HZ : Hid (chRes zs cells true = R) := by show _ = _; rw [← HSC.out, ← HYZ.out, hR, hS]
            have HSS := Lib.hid hS
            have HRR := Lib.hid hR
            have HSL := Lib.hid hSl
            obtain ⟨N, hN⟩ : ∃ N, N = ys.length := ⟨_, rfl⟩
            have HO9 : Hid (wo.ownsRow w.heap.size 3 1 (.slice (some ⟨gg, 0, none⟩) N cap) N (ints ys)) := by show World.ownsRow _ _ _ _ _ _ _; rw [hN]; exact HO.out
            have HNL : Hid (ys.length = N) := hN.symm
            rw [← hN] at hy20 hRl hg3 hSl ⊢
            clear hS hR hN hg2 HO hyl
            go_wp2_with (first
              | (go_at_call 16; refine (sort_own HNL.out (by omega) HO9.out HB.out (Nat.le_refl _)).mono ?_; rw [← HSS.out]; rintro e w2 ⟨rfl, ho2, hb2⟩; have HO2 := Lib.hid ho2; have HB2 := Lib.hid hb2; clear ho2 hb2)
              | (go_at_call 18; refine (compact_own hSl (by omega) HO2.out HB2.out (Nat.le_refl _)).mono ?_; rw [← HRR.out]; rintro e w3 ⟨rfl, hf3, hb3⟩; have HF3 := Lib.hid hf3; have HB3 := Lib.hid hb3; clear hf3 hb3)
              | (go_at_call 17; refine (ClipI_any (some ⟨gg, 0, none⟩) R.length cap _ (by omega) (by omega) hg4 (fun h => by cases h)).mono ?_; rintro e w4 ⟨rfl, rfl⟩))
            go_ret
            rw [HZ.out]
            exact ⟨_, _, rfl, HF3.out, HB3.out⟩
end Go.Proofs.Ytpaknpjdamoibaa
