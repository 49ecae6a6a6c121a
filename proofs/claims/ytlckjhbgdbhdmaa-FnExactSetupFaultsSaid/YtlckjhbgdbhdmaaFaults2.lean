/-
  FAULTS OF A SETUP: the contract of the program's SetupFaults.
  Conditions: none beyond those that each states.
-/
import Derived.Test.YtlckjhbgdbhdmaaFaults
import Derived.Deep.DeepCutAuto
namespace Go.Proofs.Ytlckjhbgdbhdmaa
open Go.ChangeShapes Go.WideShapes Go.ChangeAt Go.RowKit Go.Joins
set_option linter.unusedVariables false

set_option maxRecDepth 100000 in
set_option maxHeartbeats 8000000 in
theorem iSetupFaults_any (A : Option Addr) (n c : Nat) (ps : List PartL) (B : Option Addr) (m d : Nat) (cs : List Chan) (C : Option Addr) (q e0 : Nat) (ss : List Slot2) (w : World) (hn : n ≤ 1048577) (hm : m ≤ 1048577) (hq : q ≤ 1048577) (ht : ∀ x ∈ ps, (partI x).length ≤ 1048577) (hr : Rd_set w A n ps B m cs C q ss) (hnc : n ≤ c) (hmd : m ≤ d) :
    Calls Try.prog 13 #[.agg #[.slice A n c, .slice B m d, .slice C q e0]] w (fun e w' => RetI w (faultsL ps cs ss) e w') := by
  obtain ⟨i0, hi, hz0, hz1, hz2⟩ := info_parts Try.infoInt
  have hlp := Lib.hid hr.p.len
  have hlc := Lib.hid hr.c.chansLen
  have hls := Lib.hid hr.s.slotsLen
  have HR := Lib.hid hr
  have HT := Lib.hid ht
  clear hr ht
  cases hok : setupOk ps cs ss
  · rw [show faultsL ps cs ss = [] by unfold faultsL; rw [if_neg (by rw [hok]; simp)]]
    go_enter Try.func13, Try.ntmps13
    go_wp2_with fail
    refine (iSetupValid_is hok _ hn hm hq HT.out (HR.out.alloc _)).mono ?_
    rintro e w1 ⟨rfl, hb1⟩
    have HB1 : Hid (Below w.heap.size w w1) := Below.andThen (by go_grown) hb1
    clear hb1
    go_wp2
    go_ret
    exact ⟨none, 0, rfl, Fr.nil_, HB1.out⟩
  · obtain ⟨hp5, hc8, hs12, hw12⟩ := setupOk_use hok
    rw [hlp.out] at hp5
    rw [hlc.out] at hc8
    rw [hls.out] at hs12
    have hpo : partsOk ps = true := by unfold setupOk at hok; rw [Bool.and_eq_true] at hok; exact hok.1
    obtain ⟨x1, hx1⟩ : ∃ x, x = apartB ps := ⟨_, rfl⟩
    obtain ⟨x2, hx2⟩ : ∃ x, x = !hasAll n ss := ⟨_, rfl⟩
    obtain ⟨x3, hx3⟩ : ∃ x, x = !calmAll ss := ⟨_, rfl⟩
    obtain ⟨x4, hx4⟩ : ∃ x, x = !uniqAll cs := ⟨_, rfl⟩
    obtain ⟨x0, hx0⟩ : ∃ x, x = !x1 := ⟨_, rfl⟩
    have HE : Hid (faultsL ps cs ss = yesAt 0 [x0, x2, x3, x4]) := by show _ = _; unfold faultsL faultBs; rw [if_pos hok, hlp.out, hx0, hx1, hx2, hx3, hx4]
    have C1 : Hid (∀ W : World, Below w.heap.size w W → Calls Try.prog 39 #[.slice A n c] W fun e w' => e = .returned (.bool x1) ∧ Below W.heap.size W w') := fun W h => by rw [hx1]; exact iapart_any A n c ps W hnc hpo (HR.out.p.below (Nat.le_refl _) h)
    have C2 : Hid (∀ W : World, Below w.heap.size w W → Calls Try.prog 40 #[.agg #[.slice A n c, .slice B m d, .slice C q e0]] W fun e w' => e = .returned (.bool x2) ∧ Below W.heap.size W w') := fun W h => by rw [hx2]; exact slotless_any A n c ps B m d cs C q e0 ss W hp5 hs12 (HR.out.below (Nat.le_refl _) h)
    have C3 : Hid (∀ W : World, Below w.heap.size w W → Calls Try.prog 41 #[.agg #[.slice A n c, .slice B m d, .slice C q e0]] W fun e w' => e = .returned (.bool x3) ∧ Below W.heap.size W w') := fun W h => by rw [hx3]; exact tight_any A n c ps B m d cs C q e0 ss W hs12 (HR.out.below (Nat.le_refl _) h)
    have C4 : Hid (∀ W : World, Below w.heap.size w W → Calls Try.prog 42 #[.agg #[.slice A n c, .slice B m d, .slice C q e0]] W fun e w' => e = .returned (.bool x4) ∧ Below W.heap.size W w') := fun W h => by rw [hx4]; exact twice_any A n c ps B m d cs C q e0 ss W hc8 hmd (HR.out.below (Nat.le_refl _) h)
    have HOK := Lib.hid hok
    have hx0' : (!x1) = x0 := hx0.symm
    clear hok hw12 hpo hx1 hx2 hx3 hx4 hx0
    go_enter Try.func13, Try.ntmps13
    go_upto_region 4 with (go_at_call 10; refine (iSetupValid_is HOK.out _ hn hm hq HT.out (HR.out.alloc _)).mono ?_; rintro e w1 ⟨rfl, hb1⟩; have HB1 : Hid (Below w.heap.size w w1) := Below.andThen (by go_grown) hb1; have qb : Hid (Blk w1 w.heap.size 33 #[.slice A n c, .slice B m d, .slice C q e0]) := Blk.below (w' := w1) (Blk.at_ _ _ _ rfl) (Nat.le_refl _) hb1; clear hb1)
    go_cut [3, 19, 20, 21] (fun s3 s19 s20 s21 wx => ∃ g : Nat, s3 = .slice none 0 0 ∧ s21 = .int .i64 0 ∧ s19 = .slice (some ⟨g, 0, none⟩) 4 4 ∧ s20 = .int .i64 4 ∧ Hid (w.heap.size + 1 ≤ g) ∧ Hid (Blk wx g 4 #[.bool x0, .bool x2, .bool x3, .bool x4]) ∧ Hid (Below w.heap.size w wx))
    case first =>
      have HW : Hid (Below w.heap.size w w1) := HB1
      have kb_0 : w1.cell? ⟨w.heap.size, 0, none⟩ = some (.slice A n c) := qb.out.cell 0 rfl
      have kb_1 : w1.cell? ⟨w.heap.size, 1, none⟩ = some (.slice B m d) := qb.out.cell 1 rfl
      have kb_2 : w1.cell? ⟨w.heap.size, 2, none⟩ = some (.slice C q e0) := qb.out.cell 2 rfl
      have lb := qb.out.lt
      go_region_held3 (fun w' => w'.cell? ⟨w.heap.size, 0, none⟩ = some (.slice A n c) ∧ w'.cell? ⟨w.heap.size, 1, none⟩ = some (.slice B m d) ∧ w'.cell? ⟨w.heap.size, 2, none⟩ = some (.slice C q e0)) (refine ⟨?_, ?_, ?_⟩ <;> (repeat' (first | with_reducible exact kb_0 | with_reducible exact kb_1 | with_reducible exact kb_2 | with_reducible refine keepA ?_ _ | with_reducible refine keepD ?_))) (first
        | (go_at_call 39; refine (C1.out _ (by first | exact HW.out | exact Below.drew HW.out)).mono ?_; rintro e w2 ⟨rfl, hb2⟩; have hT : Below w.heap.size w w2 := Below.andThen (w := w) (by first | exact HW.out | exact Below.drew HW.out) hb2; have HW := Lib.hid hT; have qb : Hid (Blk w2 w.heap.size 33 #[.slice A n c, .slice B m d, .slice C q e0]) := Lib.hid (Blk.below (w' := w2) (by first | exact qb.out | exact Blk.drew qb.out) (Nat.le_refl _) hb2); clear kb_0 kb_1 kb_2 lb hb2 hT; have kb_0 : w2.cell? ⟨w.heap.size, 0, none⟩ = some (.slice A n c) := qb.out.cell 0 rfl; have kb_1 : w2.cell? ⟨w.heap.size, 1, none⟩ = some (.slice B m d) := qb.out.cell 1 rfl; have kb_2 : w2.cell? ⟨w.heap.size, 2, none⟩ = some (.slice C q e0) := qb.out.cell 2 rfl; have lb := qb.out.lt)
        | (go_at_call 40; refine (C2.out _ (by first | exact HW.out | exact Below.drew HW.out)).mono ?_; rintro e w2 ⟨rfl, hb2⟩; have hT : Below w.heap.size w w2 := Below.andThen (w := w) (by first | exact HW.out | exact Below.drew HW.out) hb2; have HW := Lib.hid hT; have qb : Hid (Blk w2 w.heap.size 33 #[.slice A n c, .slice B m d, .slice C q e0]) := Lib.hid (Blk.below (w' := w2) (by first | exact qb.out | exact Blk.drew qb.out) (Nat.le_refl _) hb2); clear kb_0 kb_1 kb_2 lb hb2 hT; have kb_0 : w2.cell? ⟨w.heap.size, 0, none⟩ = some (.slice A n c) := qb.out.cell 0 rfl; have kb_1 : w2.cell? ⟨w.heap.size, 1, none⟩ = some (.slice B m d) := qb.out.cell 1 rfl; have kb_2 : w2.cell? ⟨w.heap.size, 2, none⟩ = some (.slice C q e0) := qb.out.cell 2 rfl; have lb := qb.out.lt)
        | (go_at_call 41; refine (C3.out _ (by first | exact HW.out | exact Below.drew HW.out)).mono ?_; rintro e w2 ⟨rfl, hb2⟩; have hT : Below w.heap.size w w2 := Below.andThen (w := w) (by first | exact HW.out | exact Below.drew HW.out) hb2; have HW := Lib.hid hT; have qb : Hid (Blk w2 w.heap.size 33 #[.slice A n c, .slice B m d, .slice C q e0]) := Lib.hid (Blk.below (w' := w2) (by first | exact qb.out | exact Blk.drew qb.out) (Nat.le_refl _) hb2); clear kb_0 kb_1 kb_2 lb hb2 hT; have kb_0 : w2.cell? ⟨w.heap.size, 0, none⟩ = some (.slice A n c) := qb.out.cell 0 rfl; have kb_1 : w2.cell? ⟨w.heap.size, 1, none⟩ = some (.slice B m d) := qb.out.cell 1 rfl; have kb_2 : w2.cell? ⟨w.heap.size, 2, none⟩ = some (.slice C q e0) := qb.out.cell 2 rfl; have lb := qb.out.lt)
        | (go_at_call 42; refine (C4.out _ (by first | exact HW.out | exact Below.drew HW.out)).mono ?_; rintro e w2 ⟨rfl, hb2⟩; have hT : Below w.heap.size w w2 := Below.andThen (w := w) (by first | exact HW.out | exact Below.drew HW.out) hb2; have HW := Lib.hid hT; have qb : Hid (Blk w2 w.heap.size 33 #[.slice A n c, .slice B m d, .slice C q e0]) := Lib.hid (Blk.below (w' := w2) (by first | exact qb.out | exact Blk.drew qb.out) (Nat.le_refl _) hb2); clear kb_0 kb_1 kb_2 lb hb2 hT; have kb_0 : w2.cell? ⟨w.heap.size, 0, none⟩ = some (.slice A n c) := qb.out.cell 0 rfl; have kb_1 : w2.cell? ⟨w.heap.size, 1, none⟩ = some (.slice B m d) := qb.out.cell 1 rfl; have kb_2 : w2.cell? ⟨w.heap.size, 2, none⟩ = some (.slice C q e0) := qb.out.cell 2 rfl; have lb := qb.out.lt))
      all_goals
        go_wp2_with fail
        go_meet
        case rel => exact ⟨_, rfl, rfl, rfl, rfl, (by show _ ≤ _; have := HW.out.size; have := lb; first | (simp; done) | (simp; omega) | omega), (by first | exact Blk.at_ _ _ _ rfl | exact Blk.drew (Blk.at_ _ _ _ rfl)), (by first | exact HW.out.alloc HW.out.size _ | exact Below.drew (HW.out.alloc HW.out.size _) | exact (Below.drew HW.out).alloc HW.out.size _)⟩
    case rest =>
      obtain ⟨g, rfl, rfl, rfl, rfl, HG, qs, HB⟩ := hcut
      have hHG := HG.out
      clear HB1 qb
      have hsc := HB.out.size
      have HRd : Hid (Rd wc 1 (some ⟨g, 0, none⟩) 4 ([x0, x2, x3, x4].map Value.bool)) := by
        refine ⟨rfl, fun _ => ⟨g, 0, rfl, qs.out.lt, fun j u hu => ?_⟩⟩
        rw [Nat.zero_add]
        exact qs.out.cell j (by simpa using hu)
      obtain ⟨bs, hbs⟩ : ∃ bs, bs = [x0, x2, x3, x4] := ⟨_, rfl⟩
      have hbl : bs.length = 4 := by rw [hbs]; rfl
      have HBS := Lib.hid hbs
      have HBL := Lib.hid hbl
      rw [← hbs] at HE HRd
      clear hbs hbl
      go_wp2_with fail
      go_loopw [3, 21] (fun v i wr => ∃ (j : Nat) (ys : List Int), j ≤ 4 ∧ i = .int .i64 j ∧ ys.length ≤ j ∧ Hid (wr.ownsRow wc.heap.size 3 1 v ys.length (ints ys)) ∧ Hid (ys = yesAt 0 (bs.take j)) ∧ Hid (Below wc.heap.size wc wr)) (fun _ i _ => 4 - (intOf i).toNat)
      case atStart => exact ⟨0, [], by omega, rfl, by simp, World.ownsRow_nil _ _ _ _, rfl, Below.refl _ _⟩
      case round =>
        obtain ⟨j, ys, hj, rfl, hyl, HO, HY, HBr⟩ := hrel
        obtain ⟨wo, rfl⟩ : ∃ x : World, x = wr := ⟨_, rfl⟩
        by_cases hlt : j < 4
        · obtain ⟨b, o, x, hbo, hbl, hx, hc⟩ := bools_at HRd.out hlt
          injection hbo with hbo
          injection hbo with e1 e2
          subst e1 e2
          have HX := Lib.hid hx
          have d0 : wo.cell? ⟨g, j, none⟩ = some (.bool x) := by rw [Nat.zero_add] at hc; exact (HBr.out.cell (p := ⟨g, j, none⟩) hbl).trans hc
          have hj0 : (0 : Int) ≤ (j : Int) := by omega
          have hj1 : (j : Int) < 4 := by omega
          have hwr : IntKind.i64.wrap ((j : Int) + 1) = (j : Int) + 1 := IntWalk.i64_in _ (by omega)
          have hs0 := HBr.out.size
          clear hx hc
          cases x
          · have HY2 : Hid (ys = yesAt 0 (bs.take (j + 1))) := by show _ = _; rw [yesAt_no HX.out]; exact HY.out
            go_wp2
            go_roundw
            case rel => exact ⟨j + 1, ys, by omega, by go_num, by omega, HO, HY2, HBr⟩
            case measure => simp [intOf]; omega
          · have HY2 : Hid (ys ++ [(j : Int) + 1] = yesAt 0 (bs.take (j + 1))) := by show _ = _; rw [yesAt_yes HX.out (by rw [HBL.out]; omega), ← HY.out]
            go_wp2_with (at_builtin; refine wpList_append_rd _ rfl _ _ 37 rfl wc.heap.size 3 i0 (.int .i64 0) 1 8 Try.underlying37 hi hz0 hz1 hz2 rfl (by omega) _ ys.length (ints ys) rfl (HO.out.alloc _) _ 1 1 (ints [(j : Int) + 1]) rfl (rd_new (by first | rfl | simp) rfl) (ints_one _) (by unfold maxLen; omega) (by omega) (by first | (simp; done) | (simp; omega)) ?_; intro v4 w4 ho4 hg4 hat4; have HO4 := Lib.hid (own_ints ho4); have HB4 : Hid (Below wc.heap.size wc w4) := below_own (size := 1) (base := wc.heap.size) (HBr.out.alloc (by omega) _) (HO.out.alloc _) (by omega) (by simp; omega) hg4; clear ho4 hg4 hat4)
            go_roundw
            case rel => exact ⟨j + 1, ys ++ [(j : Int) + 1], by omega, by go_num, by simp; omega, HO4, HY2, HB4⟩
            case measure => simp [intOf]; omega
        · have hj4 : j = 4 := by omega
          have HZ : Hid (ys = faultsL ps cs ss) := by
            show _ = _
            rw [HE.out, HY.out, hj4, ← HBL.out, List.take_length]
          have hyl4 : ys.length ≤ 4 := by omega
          have HB9 : Hid (Below w.heap.size w wo) := Below.andThen HB.out HBr.out
          rcases HO.out.2 with ⟨rfl, h0⟩ | ⟨gg, cap, cur, rfl, hg1, hg2, hg3, hg4, _⟩
          · go_wp2_with (go_at_call 43; refine (ClipI_any none 0 0 _ (by omega) (by omega) (by omega) (fun _ => ⟨rfl, rfl⟩)).mono ?_; rintro e w2 ⟨rfl, rfl⟩)
            go_ret
            have e : ys = [] := List.eq_nil_of_length_eq_zero h0
            rw [← HZ.out, e]
            exact ⟨none, 0, rfl, Fr.nil_, HB9.out⟩
          · clear hg2
            go_wp2_with (go_at_call 43; refine (ClipI_any (some ⟨gg, 0, none⟩) ys.length cap _ (by omega) hg3 hg4 (fun h => by cases h)).mono ?_; rintro e w2 ⟨rfl, rfl⟩)
            go_ret
            rw [← HZ.out]
            exact ⟨_, _, rfl, (Fr.of_own HO.out).wide hsc (Nat.le_refl _), HB9.out⟩
end Go.Proofs.Ytlckjhbgdbhdmaa
