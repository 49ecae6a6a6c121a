/-
  CONTRACT of the reference's ProgramChannels.
  Conditions: none beyond those that it states.
-/
import Derived.Test.YtpaknpjdamoibaaChP
import Derived.Test.YtpaknpjdamoibaaSlices
namespace Go.Proofs.Ytpaknpjdamoibaa
open Go.ChangeShapes Go.WideShapes Go.ChangeAt Go.RowKit Go.Joins
set_option linter.unusedVariables false

theorem own_ints {w : World} {base n : Nat} {v : Value} {ys zs : List Int} (h : w.ownsRow base 3 1 v n (ints ys ++ ints zs)) : w.ownsRow base 3 1 v (ys ++ zs).length (ints (ys ++ zs)) := by
  have e : ints (ys ++ zs) = ints ys ++ ints zs := by simp [ints]
  have hl : (ys ++ zs).length = n := by have := h.1; rw [← e] at this; simpa [ints] using this
  rw [hl, e]; exact h
theorem retI_own {w w' : World} {base : Nat} {v : Value} {zs : List Int} (h : w'.ownsRow base 3 1 v zs.length (ints zs)) (hb : w.heap.size ≤ base) (hB : Below w.heap.size w w') : RetI w zs (.returned v) w' := by
  rcases h.2 with ⟨rfl, h0⟩ | ⟨g, cap, cur, rfl, r⟩
  · have e : zs = [] := List.eq_nil_of_length_eq_zero h0
    subst e
    exact ⟨none, 0, rfl, Fr.nil_, hB⟩
  · exact ⟨_, _, rfl, (Fr.of_own h).wide hb (Nat.le_refl _), hB⟩
theorem any_snoc {α : Type} {zs : List α} {p : α → Bool} {k : Nat} {x : α} (hx : zs[k]? = some x) : (zs.take (k + 1)).any p = ((zs.take k).any p || p x) := by
  rw [take_snoc hx, List.any_append]; simp
set_option maxRecDepth 100000 in
set_option maxHeartbeats 8000000 in
theorem sProgramChannels_any (A : Option Addr) (n c : Nat) (zs : List Ord3) (cells : Int) (sends : Bool) (w : World) (hm : n ≤ 1048577) (hr : Rd w 3 A n (ords zs)) :
    Calls Try.prog 5 #[.slice A n c, .int .i64 cells, .bool sends] w (fun e w' => RetI w (chRes zs cells sends) e w') := by
  obtain ⟨i0, hi, hz0, hz1, hz2⟩ := info_parts Try.infoInt
  have hlz := Lib.hid hr.ordsLen
  have HR := Lib.hid hr
  clear hr
  cases hok : progOk zs cells
  · rw [show chRes zs cells sends = [] by unfold chRes; rw [if_neg (by rw [hok]; simp)]]
    go_enter Try.func5, Try.ntmps5
    go_wp2_with fail
    refine wp_loop_rounds 1 ?_
    rw [rounds_succ]
    go_wp2_with (go_at_call 13; refine (sProgramValid_is hok _ hm (HR.out.alloc _)).mono ?_; rintro e w1 ⟨rfl, hb1⟩; have HB1 : Hid (Below w.heap.size w w1) := Below.andThen (by go_grown) hb1; clear hb1)
    go_ret
    exact ⟨_, 0, rfl, Fr.nil_, HB1.out⟩
  · have HOK := Lib.hid hok
    clear hok
    cases sends
    · skip
      have hE : (if (false : Bool) = true then (5 : Int) else 6) = 6 := rfl
      go_enter Try.func5, Try.ntmps5
      have HO0 : Hid ((w.alloc (.cells #[] 3)).ownsRow w.heap.size 3 1 (.slice (some ⟨w.heap.size, 0, none⟩) 0 0) 0 (ints [])) := by
        have h := World.ownsRow_lit (base := w.heap.size) (e := 3) (size := 1) w #[] 0 (Nat.le_refl _) (Nat.zero_le _) (by simp)
        show World.ownsRow _ _ _ _ _ _ _
        simpa [ints] using h
      clear hE
      go_wp2_with fail
      go_loopw [7, 8] (fun v i wr => ∃ (k : Nat) (ys : List Int), k ≤ 8 ∧ i = .int .i64 k ∧ ys.length ≤ k ∧ Hid (ys = chL 6 zs k) ∧ Hid (wr.ownsRow w.heap.size 3 1 v ys.length (ints ys)) ∧ Hid (Below w.heap.size w wr)) (fun _ i _ => 8 - (intOf i).toNat)
      case atStart => exact ⟨0, [], by omega, rfl, by simp, rfl, HO0, by show Below _ _ _; go_grown⟩
      case round =>
        obtain ⟨k, ys, hk, rfl, hyl, HY, HO, HB⟩ := hrel
        obtain ⟨wo, rfl⟩ : ∃ wo : World, wo = wr := ⟨_, rfl⟩
        have hsw := HB.out.size
        by_cases hlt : k < 8
        · have hk8 : (k : Int) < 8 := by omega
          go_wp2_with fail
          refine (sProgramValid_is HOK.out _ hm (HR.out.below (Nat.le_refl _) HB.out)).mono ?_
          rintro e w1 ⟨rfl, hb1⟩
          have HO := Lib.hid (own_below hb1 (Nat.le_refl _) HO.out)
          have HB := Lib.hid (Below.andThen HB.out hb1)
          have hs1 := hb1.size
          clear hb1
          go_wp2_with fail
          go_loopw [9, 10] (fun t i wi => ∃ (j : Nat) (x : Bool), j ≤ n ∧ i = .int .i64 j ∧ t = .bool x ∧ Hid (x = (zs.take j).any (fun o => o.1 == 6 && o.2.1 == (k : Int))) ∧ Hid (wi.ownsRow w.heap.size 3 1 u7 ys.length (ints ys)) ∧ Hid (Below w.heap.size w wi)) (fun _ i _ => n - (intOf i).toNat)
          case atStart => exact ⟨0, false, Nat.zero_le _, rfl, rfl, by show _ = _; simp, HO, HB⟩
          case round =>
            obtain ⟨j, x, hj, rfl, rfl, HF, HO, HB⟩ := hrel
            obtain ⟨wi, rfl⟩ : ∃ wi : World, wi = wr := ⟨_, rfl⟩
            have hs2 := HB.out.size
            by_cases hjt : j < n
            · obtain ⟨b, o, p0, p1, p2, rfl, hbl, hx, f0, f1, f2⟩ := HR.out.ord hjt
              have d0 := (HB.out.cell (p := ⟨b, o + j * 3, none⟩) hbl).trans f0
              have d1 := (HB.out.cell (p := ⟨b, o + j * 3 + 1, none⟩) hbl).trans f1
              have HX := Lib.hid hx
              clear f0 f1 f2 hx
              cases x
              · by_cases hA : p1 = (k : Int)
                · by_cases hO : p0 = 6
                  · have e9 : True := trivial
                    subst hA hO
                    go_wp2
                    go_roundw
                    case rel => exact ⟨j + 1, true, by omega, by go_num, (by first | rfl | (congr 1; simp; done) | (congr 1; simp [e9])), (by show _ = _; rw [any_snoc HX.out, ← HF.out]; simp), HO, HB⟩
                    case measure => simp [intOf]; omega
                  · have e9 : (p0 == 6) = false := by simpa using hO
                    subst hA
                    go_wp2
                    go_roundw
                    case rel => exact ⟨j + 1, false, by omega, by go_num, (by first | rfl | (congr 1; simp; done) | (congr 1; simp [e9])), (by show _ = _; rw [any_snoc HX.out, ← HF.out]; rw [e9]; rfl), HO, HB⟩
                    case measure => simp [intOf]; omega
                · have e9 : (p1 == (k : Int)) = false := by simpa using hA
                  go_wp2
                  go_roundw
                  case rel => exact ⟨j + 1, false, by omega, by go_num, (by first | rfl | (congr 1; simp; done) | (congr 1; simp [e9])), (by show _ = _; rw [any_snoc HX.out, ← HF.out]; rw [e9, Bool.and_false]; rfl), HO, HB⟩
                  case measure => simp [intOf]; omega
              · have e9 : True := trivial
                go_wp2
                go_roundw
                case rel => exact ⟨j + 1, true, by omega, by go_num, (by first | rfl | (congr 1; simp; done) | (congr 1; simp [e9])), (by show _ = _; rw [any_snoc HX.out, ← HF.out]; rfl), HO, HB⟩
                case measure => simp [intOf]; omega
            · have hjn : j = n := by omega
              have HF9 : Hid (x = hasCh 6 zs k) := by show _ = _; rw [HF.out, hjn, ← hlz.out, List.take_length]; rfl
              clear HF hjn
              cases x
              · have HY2 : Hid (ys = chL 6 zs (k + 1)) := by show _ = _; rw [chL_no HF9.out.symm]; exact HY.out
                go_wp2
                go_roundw
                case rel => exact ⟨k + 1, ys, by omega, by go_num, by omega, HY2, HO, HB⟩
                case measure => simp [intOf]; omega
              · have HY2 : Hid (ys ++ [(k : Int)] = chL 6 zs (k + 1)) := by show _ = _; rw [chL_yes HF9.out.symm, ← HY.out]
                go_wp2_with (at_builtin; refine wpList_append_rd _ rfl _ _ 24 rfl w.heap.size 3 i0 (.int .i64 0) 1 8 Try.underlying24 hi hz0 hz1 hz2 rfl (by omega) _ ys.length (ints ys) rfl (HO.out.alloc _) _ 1 1 (ints [(k : Int)]) rfl (rd_new (by first | rfl | simp) rfl) (ints_one _) (by unfold maxLen; omega) (by omega) (by first | (simp; done) | (simp; omega)) ?_; intro v4 w4 ho4 hg4 hat4; have HO4 := Lib.hid (own_ints ho4); have HB4 : Hid (Below w.heap.size w w4) := below_own (size := 1) (base := w.heap.size) (HB.out.alloc (by omega) _) (HO.out.alloc _) (by omega) (by simp; omega) hg4; clear ho4 hg4 hat4)
                go_roundw
                case rel => exact ⟨k + 1, ys ++ [(k : Int)], by omega, by go_num, by simp; omega, HY2, HO4, HB4⟩
                case measure => simp [intOf]; omega
        · have hk8 : k = 8 := by omega
          have HZ : Hid (ys = chRes zs cells false) := by show _ = _; rw [HY.out, hk8]; unfold chRes; rw [if_pos HOK.out]; rfl
          clear hk8
          go_wp2
          go_ret
          rw [← HZ.out]
          exact retI_own HO.out (by omega) HB.out
    · skip
      have hE : (if (true : Bool) = true then (5 : Int) else 6) = 5 := rfl
      go_enter Try.func5, Try.ntmps5
      have HO0 : Hid ((w.alloc (.cells #[] 3)).ownsRow w.heap.size 3 1 (.slice (some ⟨w.heap.size, 0, none⟩) 0 0) 0 (ints [])) := by
        have h := World.ownsRow_lit (base := w.heap.size) (e := 3) (size := 1) w #[] 0 (Nat.le_refl _) (Nat.zero_le _) (by simp)
        show World.ownsRow _ _ _ _ _ _ _
        simpa [ints] using h
      clear hE
      go_wp2_with fail
      go_loopw [7, 8] (fun v i wr => ∃ (k : Nat) (ys : List Int), k ≤ 8 ∧ i = .int .i64 k ∧ ys.length ≤ k ∧ Hid (ys = chL 5 zs k) ∧ Hid (wr.ownsRow w.heap.size 3 1 v ys.length (ints ys)) ∧ Hid (Below w.heap.size w wr)) (fun _ i _ => 8 - (intOf i).toNat)
      case atStart => exact ⟨0, [], by omega, rfl, by simp, rfl, HO0, by show Below _ _ _; go_grown⟩
      case round =>
        obtain ⟨k, ys, hk, rfl, hyl, HY, HO, HB⟩ := hrel
        obtain ⟨wo, rfl⟩ : ∃ wo : World, wo = wr := ⟨_, rfl⟩
        have hsw := HB.out.size
        by_cases hlt : k < 8
        · have hk8 : (k : Int) < 8 := by omega
          go_wp2_with fail
          refine (sProgramValid_is HOK.out _ hm (HR.out.below (Nat.le_refl _) HB.out)).mono ?_
          rintro e w1 ⟨rfl, hb1⟩
          have HO := Lib.hid (own_below hb1 (Nat.le_refl _) HO.out)
          have HB := Lib.hid (Below.andThen HB.out hb1)
          have hs1 := hb1.size
          clear hb1
          go_wp2_with fail
          go_loopw [9, 10] (fun t i wi => ∃ (j : Nat) (x : Bool), j ≤ n ∧ i = .int .i64 j ∧ t = .bool x ∧ Hid (x = (zs.take j).any (fun o => o.1 == 5 && o.2.1 == (k : Int))) ∧ Hid (wi.ownsRow w.heap.size 3 1 u7 ys.length (ints ys)) ∧ Hid (Below w.heap.size w wi)) (fun _ i _ => n - (intOf i).toNat)
          case atStart => exact ⟨0, false, Nat.zero_le _, rfl, rfl, by show _ = _; simp, HO, HB⟩
          case round =>
            obtain ⟨j, x, hj, rfl, rfl, HF, HO, HB⟩ := hrel
            obtain ⟨wi, rfl⟩ : ∃ wi : World, wi = wr := ⟨_, rfl⟩
            have hs2 := HB.out.size
            by_cases hjt : j < n
            · obtain ⟨b, o, p0, p1, p2, rfl, hbl, hx, f0, f1, f2⟩ := HR.out.ord hjt
              have d0 := (HB.out.cell (p := ⟨b, o + j * 3, none⟩) hbl).trans f0
              have d1 := (HB.out.cell (p := ⟨b, o + j * 3 + 1, none⟩) hbl).trans f1
              have HX := Lib.hid hx
              clear f0 f1 f2 hx
              cases x
              · by_cases hA : p1 = (k : Int)
                · by_cases hO : p0 = 5
                  · have e9 : True := trivial
                    subst hA hO
                    go_wp2
                    go_roundw
                    case rel => exact ⟨j + 1, true, by omega, by go_num, (by first | rfl | (congr 1; simp; done) | (congr 1; simp [e9])), (by show _ = _; rw [any_snoc HX.out, ← HF.out]; simp), HO, HB⟩
                    case measure => simp [intOf]; omega
                  · have e9 : (p0 == 5) = false := by simpa using hO
                    subst hA
                    go_wp2
                    go_roundw
                    case rel => exact ⟨j + 1, false, by omega, by go_num, (by first | rfl | (congr 1; simp; done) | (congr 1; simp [e9])), (by show _ = _; rw [any_snoc HX.out, ← HF.out]; rw [e9]; rfl), HO, HB⟩
                    case measure => simp [intOf]; omega
                · have e9 : (p1 == (k : Int)) = false := by simpa using hA
                  go_wp2
                  go_roundw
                  case rel => exact ⟨j + 1, false, by omega, by go_num, (by first | rfl | (congr 1; simp; done) | (congr 1; simp [e9])), (by show _ = _; rw [any_snoc HX.out, ← HF.out]; rw [e9, Bool.and_false]; rfl), HO, HB⟩
                  case measure => simp [intOf]; omega
              · have e9 : True := trivial
                go_wp2
                go_roundw
                case rel => exact ⟨j + 1, true, by omega, by go_num, (by first | rfl | (congr 1; simp; done) | (congr 1; simp [e9])), (by show _ = _; rw [any_snoc HX.out, ← HF.out]; rfl), HO, HB⟩
                case measure => simp [intOf]; omega
            · have hjn : j = n := by omega
              have HF9 : Hid (x = hasCh 5 zs k) := by show _ = _; rw [HF.out, hjn, ← hlz.out, List.take_length]; rfl
              clear HF hjn
              cases x
              · have HY2 : Hid (ys = chL 5 zs (k + 1)) := by show _ = _; rw [chL_no HF9.out.symm]; exact HY.out
                go_wp2
                go_roundw
                case rel => exact ⟨k + 1, ys, by omega, by go_num, by omega, HY2, HO, HB⟩
                case measure => simp [intOf]; omega
              · have HY2 : Hid (ys ++ [(k : Int)] = chL 5 zs (k + 1)) := by show _ = _; rw [chL_yes HF9.out.symm, ← HY.out]
                go_wp2_with (at_builtin; refine wpList_append_rd _ rfl _ _ 24 rfl w.heap.size 3 i0 (.int .i64 0) 1 8 Try.underlying24 hi hz0 hz1 hz2 rfl (by omega) _ ys.length (ints ys) rfl (HO.out.alloc _) _ 1 1 (ints [(k : Int)]) rfl (rd_new (by first | rfl | simp) rfl) (ints_one _) (by unfold maxLen; omega) (by omega) (by first | (simp; done) | (simp; omega)) ?_; intro v4 w4 ho4 hg4 hat4; have HO4 := Lib.hid (own_ints ho4); have HB4 : Hid (Below w.heap.size w w4) := below_own (size := 1) (base := w.heap.size) (HB.out.alloc (by omega) _) (HO.out.alloc _) (by omega) (by simp; omega) hg4; clear ho4 hg4 hat4)
                go_roundw
                case rel => exact ⟨k + 1, ys ++ [(k : Int)], by omega, by go_num, by simp; omega, HY2, HO4, HB4⟩
                case measure => simp [intOf]; omega
        · have hk8 : k = 8 := by omega
          have HZ : Hid (ys = chRes zs cells true) := by show _ = _; rw [HY.out, hk8]; unfold chRes; rw [if_pos HOK.out]; rfl
          clear hk8
          go_wp2
          go_ret
          rw [← HZ.out]
          exact retI_own HO.out (by omega) HB.out
end Go.Proofs.Ytpaknpjdamoibaa
