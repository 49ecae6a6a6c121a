/-
  FAULTS OF A SETUP: the contract of the reference's SetupFaults.
  Conditions: none beyond those that each states.
-/
import Derived.Test.YtlckjhbgdbhdmaaFaults2
namespace Go.Proofs.Ytlckjhbgdbhdmaa
open Go.ChangeShapes Go.WideShapes Go.ChangeAt Go.RowKit Go.Joins
set_option linter.unusedVariables false

theorem noV_neg {parts k : Nat} {ss : Slots} (h : slotsOk (parts : Int) ss = true) (hk : k < parts) : decide (noV (parts : Int) ss (k : Int) 0 < 0) = !hasRow ss k := by
  have h1 : ownB (parts : Int) ss (k : Int) 0 = true := by
    unfold ownB
    rw [h, inB_true.2 ⟨by omega, by omega⟩, inB_true.2 ⟨by omega, by omega⟩]; rfl
  unfold noV
  rw [if_pos h1]
  exact nextV_neg (slotsOk_use h).2.2.2.2 k
theorem sameCh_comm (c d : Chan) : sameCh c d = sameCh d c := by
  unfold sameCh
  rw [Bool.eq_iff_iff]
  simp only [Bool.and_eq_true, decide_eq_true_eq]
  constructor <;> (rintro ⟨h1, h2, h3⟩; exact ⟨h1.symm, h2.symm, h3.symm⟩)
theorem all_next {p : Nat → Bool} {k : Nat} {x : Bool} (hx : x = !(List.range k).all p) : (x || !p k) = !(List.range (k + 1)).all p := by
  rw [hx, List.range_succ, List.all_append]
  cases (List.range k).all p <;> simp
theorem any_next {α : Type} {zs : List α} {p : α → Bool} {k : Nat} {x : α} (hx : zs[k]? = some x) : (zs.take (k + 1)).any p = ((zs.take k).any p || p x) := by
  rw [take_snoc hx, List.any_append]; simp
set_option maxRecDepth 100000 in
set_option maxHeartbeats 16000000 in
theorem sSetupFaults_any (A : Option Addr) (n c : Nat) (ps : List PartL) (B : Option Addr) (m d : Nat) (cs : List Chan) (C : Option Addr) (q e0 : Nat) (ss : List Slot2) (w : World) (hn : n ≤ 1048577) (hm : m ≤ 1048577) (hq : q ≤ 1048577) (ht : ∀ x ∈ ps, (partI x).length ≤ 1048577) (hr : Rd_set w A n ps B m cs C q ss) :
    Calls Try.prog 12 #[.agg #[.slice A n c, .slice B m d, .slice C q e0]] w (fun e w' => RetI w (faultsL ps cs ss) e w') := by
  obtain ⟨i0, hi, hz0, hz1, hz2⟩ := info_parts Try.infoInt
  have hlp := Lib.hid hr.p.len
  have hlc := Lib.hid hr.c.chansLen
  have hls := Lib.hid hr.s.slotsLen
  have HR := Lib.hid hr
  have HT := Lib.hid ht
  clear hr ht
  cases hok : setupOk ps cs ss
  · rw [show faultsL ps cs ss = [] by unfold faultsL; rw [if_neg (by rw [hok]; simp)]]
    go_enter Try.func12, Try.ntmps12
    go_wp2_with fail
    refine (sSetupValid_is hok _ hn hm hq HT.out ((HR.out.alloc _).alloc _)).mono ?_
    rintro e w1 ⟨rfl, hb1⟩
    have HB1 : Hid (Below w.heap.size w w1) := Below.andThen (by go_grown) hb1
    clear hb1
    go_wp2
    go_ret
    exact ⟨_, 0, rfl, Fr.nil_, HB1.out⟩
  · obtain ⟨hp5, hc8, hs12, hw12⟩ := setupOk_use hok
    rw [hlp.out] at hp5
    rw [hlc.out] at hc8
    rw [hls.out] at hs12
    have hpo : partsOk ps = true := by unfold setupOk at hok; rw [Bool.and_eq_true] at hok; exact hok.1
    have HSO : Hid (slotsOk (n : Int) ss = true) := by
      show _ = true
      unfold setupOk at hok
      rw [Bool.and_eq_true, Bool.and_eq_true] at hok
      have := hok.2.2
      rwa [hlp.out] at this
    obtain ⟨x1, hx1⟩ : ∃ x, x = apartB ps := ⟨_, rfl⟩
    obtain ⟨x2, hx2⟩ : ∃ x, x = !hasAll n ss := ⟨_, rfl⟩
    obtain ⟨x3, hx3⟩ : ∃ x, x = !calmAll ss := ⟨_, rfl⟩
    obtain ⟨x4, hx4⟩ : ∃ x, x = !uniqAll cs := ⟨_, rfl⟩
    obtain ⟨bs, hbs⟩ : ∃ bs, bs = [!x1, x2, x3, x4] := ⟨_, rfl⟩
    have HE : Hid (faultsL ps cs ss = yesAt 0 bs) := by show _ = _; unfold faultsL faultBs; rw [if_pos hok, hlp.out, hbs, hx1, hx2, hx3, hx4]
    have HA1 : Hid (partsApart ps = x1) := by show _ = _; unfold partsApart; rw [hpo, hx1]; rfl
    have HBS := Lib.hid hbs
    have HBL : Hid (bs.length = 4) := by show _ = _; rw [hbs]; rfl
    have HX2 := Lib.hid hx2
    have HX3 := Lib.hid hx3
    have HX4 := Lib.hid hx4
    have HOK := Lib.hid hok
    clear hok hw12 hpo hx1 hx2 hx3 hx4 hbs
    go_enter Try.func12, Try.ntmps12
    have HO0 : Hid (((w.alloc (.cells #[.slice A n c, .slice B m d, .slice C q e0] 33)).alloc (.cells #[] 3)).ownsRow (w.heap.size + 1) 3 1 (.slice (some ⟨w.heap.size + 1, 0, none⟩) 0 0) 0 (ints [])) := by
      have h := World.ownsRow_lit (base := w.heap.size + 1) (e := 3) (size := 1) (w.alloc (.cells #[.slice A n c, .slice B m d, .slice C q e0] 33)) #[] 0 (by simp) (Nat.zero_le _) (by simp)
      show World.ownsRow _ _ _ _ _ _ _
      simpa [ints] using h
    go_upto_if 23 with (first
      | (go_at_call 8; refine (sSetupValid_is HOK.out _ hn hm hq HT.out ((HR.out.alloc _).alloc _)).mono ?_; rintro e w1 ⟨rfl, hb1⟩; have HB : Hid (Below w.heap.size w w1) := Below.andThen (by go_grown) hb1; have qb : Hid (Blk w1 w.heap.size 33 #[.slice A n c, .slice B m d, .slice C q e0]) := Blk.below (w' := w1) (Blk.alloc (Blk.at_ _ _ _ rfl) _) (Nat.le_refl _) hb1; have HO := Lib.hid (own_below hb1 (Nat.le_refl _) HO0.out); clear hb1; have kb_0 : w1.cell? ⟨w.heap.size, 0, none⟩ = some (.slice A n c) := qb.out.cell 0 rfl; have lb := qb.out.lt)
      | (go_at_call 37; refine (sPartsApart_any A n c ps _ hn HT.out (HR.out.p.below (Nat.le_refl _) HB.out)).mono ?_; rw [HA1.out]; rintro e w2 ⟨rfl, hb2⟩; have HB := Lib.hid (Below.andThen HB.out hb2); have HO := Lib.hid (own_below hb2 (Nat.le_refl _) HO.out); have qb : Hid (Blk w2 w.heap.size 33 #[.slice A n c, .slice B m d, .slice C q e0]) := qb.out.below (Nat.le_refl _) hb2; clear hb2 kb_0 lb))
    go_cut [3] (fun s3 wx => ∃ (v : Value) (ys : List Int), v = s3 ∧ ys.length ≤ 1 ∧ Hid (wx.ownsRow (w.heap.size + 1) 3 1 v ys.length (ints ys)) ∧ Hid (ys = yesAt 0 (bs.take 1)) ∧ Hid (Blk wx w.heap.size 33 #[.slice A n c, .slice B m d, .slice C q e0]) ∧ Hid (Below w.heap.size w wx))
    case first =>
      have hsz := HB.out.size
      cases x1
      · go_wp2_with (at_builtin; refine wpList_append_rd _ rfl _ _ 37 rfl (w.heap.size + 1) 3 i0 (.int .i64 0) 1 8 Try.underlying37 hi hz0 hz1 hz2 rfl (by omega) _ 0 (ints ([] : List Int)) rfl (HO.out.alloc _) _ 1 1 (ints [1]) rfl (rd_new (by first | rfl | simp) rfl) (ints_one _) (by unfold maxLen; omega) (by omega) (by first | (simp; done) | (simp; omega)) ?_; intro v4 w4 ho4 hg4 hat4; have HO4 := Lib.hid (own_ints ho4); have HB4 : Hid (Below w.heap.size w w4) := below_own (size := 1) (base := w.heap.size + 1) (HB.out.alloc (by omega) _) (HO.out.alloc _) (by omega) (by simp; omega) hg4; have qb4 : Hid (Blk w4 w.heap.size 33 #[.slice A n c, .slice B m d, .slice C q e0]) := Lib.hid (Blk.grown (qb.out.alloc _) hg4 (fun k hk9 => by have := (HO.out.lt k hk9).1; omega)); clear ho4 hg4 hat4)
        go_meet
        case rel => exact ⟨_, [] ++ [1], rfl, by simp, HO4, (by show _ = _; rw [HBS.out]; rfl), qb4, HB4⟩
      · go_wp2
        go_meet
        case rel => exact ⟨_, [], rfl, by simp, HO, (by show _ = _; rw [HBS.out]; rfl), qb, HB⟩
    case rest =>
      clear HO0
      obtain ⟨v, ys, rfl, hyl, HO, HY, qb, HB⟩ := hcut
      obtain ⟨w5, rfl⟩ : ∃ x : World, x = wc := ⟨_, rfl⟩
      have kb_0 : w5.cell? ⟨w.heap.size, 0, none⟩ = some (.slice A n c) := qb.out.cell 0 rfl
      have lb := qb.out.lt
      go_wp2_with fail
      go_loopw [4, 5] (fun t i wr => ∃ (k : Nat) (x : Bool), k ≤ n ∧ i = .int .i64 k ∧ t = .bool x ∧ Hid (x = !(List.range k).all (hasRow ss)) ∧ Hid (wr.ownsRow (w.heap.size + 1) 3 1 v ys.length (ints ys)) ∧ Hid (Blk wr w.heap.size 33 #[.slice A n c, .slice B m d, .slice C q e0]) ∧ Hid (Below w.heap.size w wr)) (fun _ i _ => n - (intOf i).toNat)
      case atStart => exact ⟨0, false, Nat.zero_le _, rfl, rfl, by show _ = _; simp, HO, qb, HB⟩
      case round =>
        obtain ⟨k, x, hk, rfl, rfl, HX, HO, qb, HB⟩ := hrel
        obtain ⟨wo, rfl⟩ : ∃ x : World, x = wr := ⟨_, rfl⟩
        clear kb_0 lb
        have kb_0 : wo.cell? ⟨w.heap.size, 0, none⟩ = some (.slice A n c) := qb.out.cell 0 rfl
        have kb_2 : wo.cell? ⟨w.heap.size, 2, none⟩ = some (.slice C q e0) := qb.out.cell 2 rfl
        have lb := qb.out.lt
        by_cases hlt : k < n
        · cases x
          · obtain ⟨V, hV⟩ : ∃ V, V = noV (n : Int) ss (k : Int) 0 := ⟨_, rfl⟩
            have hV2 := noV_neg HSO.out hlt
            rw [← hV] at hV2
            have HV := Lib.hid hV
            have HN := Lib.hid (all_next HX.out)
            clear hV
            cases hh : hasRow ss k
            · have hneg : V < 0 := by rw [hh] at hV2; simpa using hV2
              have HH := Lib.hid hh
              clear hV2 hh
              go_wp2_with (go_at_call 38; refine (sNextOwn_any C q e0 ss (n : Int) (k : Int) 0 _ (by omega) (HR.out.s.below (Nat.le_refl _) HB.out)).mono ?_; rw [← HV.out]; rintro e w1 ⟨rfl, hb1⟩; have HO1 := Lib.hid (own_below hb1 (Nat.le_refl _) HO.out); have qb1 : Hid (Blk w1 w.heap.size 33 #[.slice A n c, .slice B m d, .slice C q e0]) := qb.out.below (Nat.le_refl _) hb1; have HB1 := Lib.hid (Below.andThen HB.out hb1); clear hb1 kb_0 kb_2 lb)
              go_roundw
              case rel => exact ⟨k + 1, true, by omega, by go_num, rfl, (by have h9 := HN.out; rw [HH.out] at h9; exact h9), HO1, qb1, HB1⟩
              case measure => simp [intOf]; omega
            · have hneg : ¬ V < 0 := by rw [hh] at hV2; simpa using hV2
              have hge : 0 ≤ V := by omega
              have HH := Lib.hid hh
              clear hV2 hh
              go_wp2_with (go_at_call 38; refine (sNextOwn_any C q e0 ss (n : Int) (k : Int) 0 _ (by omega) (HR.out.s.below (Nat.le_refl _) HB.out)).mono ?_; rw [← HV.out]; rintro e w1 ⟨rfl, hb1⟩; have HO1 := Lib.hid (own_below hb1 (Nat.le_refl _) HO.out); have qb1 : Hid (Blk w1 w.heap.size 33 #[.slice A n c, .slice B m d, .slice C q e0]) := qb.out.below (Nat.le_refl _) hb1; have HB1 := Lib.hid (Below.andThen HB.out hb1); clear hb1 kb_0 kb_2 lb)
              go_roundw
              case rel => exact ⟨k + 1, false, by omega, by go_num, (by first | rfl | (rw [decide_eq_false (by omega)])), (by have h9 := HN.out; rw [HH.out] at h9; exact h9), HO1, qb1, HB1⟩
              case measure => simp [intOf]; omega
          · have HN := Lib.hid (all_next HX.out)
            go_wp2
            go_roundw
            case rel => exact ⟨k + 1, true, by omega, by go_num, rfl, HN, HO, qb, HB⟩
            case measure => simp [intOf]; omega
        · have hkn : k = n := by omega
          have HX9 : Hid (x = x2) := by show _ = _; rw [HX.out, HX2.out, hkn]; rfl
          clear HX hkn
          obtain rfl := HX9.out
          go_upto_if 45 with (fail)
          go_cut [3] (fun s3 wx => ∃ (v : Value) (ys : List Int), v = s3 ∧ ys.length ≤ 2 ∧ Hid (wx.ownsRow (w.heap.size + 1) 3 1 v ys.length (ints ys)) ∧ Hid (ys = yesAt 0 (bs.take 2)) ∧ Hid (Blk wx w.heap.size 33 #[.slice A n c, .slice B m d, .slice C q e0]) ∧ Hid (Below w.heap.size w wx))
          case first =>
            have hsz := HB.out.size
            cases x
            · go_wp2
              go_meet
              case rel => exact ⟨_, ys, rfl, by omega, HO, (by show _ = _; rw [yesAt_no (by rw [HBS.out]; rfl)]; exact HY.out), qb, HB⟩
            · go_wp2_with (at_builtin; refine wpList_append_rd _ rfl _ _ 37 rfl (w.heap.size + 1) 3 i0 (.int .i64 0) 1 8 Try.underlying37 hi hz0 hz1 hz2 rfl (by omega) _ ys.length (ints ys) rfl (HO.out.alloc _) _ 1 1 (ints [2]) rfl (rd_new (by first | rfl | simp) rfl) (ints_one _) (by unfold maxLen; omega) (by omega) (by first | (simp; done) | (simp; omega)) ?_; intro v4 w4 ho4 hg4 hat4; have HO4 := Lib.hid (own_ints ho4); have HB4 : Hid (Below w.heap.size w w4) := below_own (size := 1) (base := w.heap.size + 1) (HB.out.alloc (by omega) _) (HO.out.alloc _) (by omega) (by simp; omega) hg4; have qb4 : Hid (Blk w4 w.heap.size 33 #[.slice A n c, .slice B m d, .slice C q e0]) := Lib.hid (Blk.grown (qb.out.alloc _) hg4 (fun k hk9 => by have := (HO.out.lt k hk9).1; omega)); clear ho4 hg4 hat4)
              go_meet
              case rel => exact ⟨_, ys ++ [2], rfl, by simp; omega, HO4, (by show _ = _; rw [yesAt_yes (by rw [HBS.out]; rfl) (by rw [HBL.out]; omega), ← HY.out]; rfl), qb4, HB4⟩
          case rest =>
            clear HO HY qb HB kb_0 kb_2 lb
            obtain ⟨v, ys, rfl, hyl, HO, HY, qb, HB⟩ := hcut
            obtain ⟨w6, rfl⟩ : ∃ x : World, x = wc := ⟨_, rfl⟩
            have kb_2 : w6.cell? ⟨w.heap.size, 2, none⟩ = some (.slice C q e0) := qb.out.cell 2 rfl
            have lb := qb.out.lt
            go_wp2_with fail
            go_loopw [6, 7] (fun t i wr => ∃ (k : Nat) (x : Bool), k ≤ q ∧ i = .int .i64 k ∧ t = .bool x ∧ Hid (x = !(List.range k).all (calmRow ss)) ∧ Hid (wr.ownsRow (w.heap.size + 1) 3 1 v ys.length (ints ys)) ∧ Hid (Blk wr w.heap.size 33 #[.slice A n c, .slice B m d, .slice C q e0]) ∧ Hid (Below w.heap.size w wr)) (fun _ i _ => q - (intOf i).toNat)
            case atStart => exact ⟨0, false, Nat.zero_le _, rfl, rfl, by show _ = _; simp, HO, qb, HB⟩
            case round =>
              obtain ⟨k, x, hk, rfl, rfl, HX, HO, qb, HB⟩ := hrel
              obtain ⟨wo, rfl⟩ : ∃ x : World, x = wr := ⟨_, rfl⟩
              clear kb_2 lb
              have kb_2 : wo.cell? ⟨w.heap.size, 2, none⟩ = some (.slice C q e0) := qb.out.cell 2 rfl
              have lb := qb.out.lt
              by_cases hlt : k < q
              · obtain ⟨b4, o4, p0, p1, rfl, hbl4, hwx, f0, f1⟩ := HR.out.s.slot hlt
                obtain ⟨r, hrr, hrq⟩ : ∃ r : Nat, r = (k + 1) % q ∧ r < q := ⟨_, rfl, Nat.mod_lt _ (by omega)⟩
                obtain ⟨b5, o5, y0, y1, hAe, hbl5, hwy, g0, g1⟩ := HR.out.s.slot hrq
                injection hAe with hAe
                injection hAe with e1 e2
                subst e1 e2
                have d0 := (HB.out.cell (p := ⟨b4, o4 + k * 2, none⟩) hbl4).trans f0
                have j0 := (HB.out.cell (p := ⟨b4, o4 + r * 2, none⟩) hbl4).trans g0
                have HT : Hid (calmRow ss k = !tightAt p0 y0) := calmRow_at (x := (p0, p1)) (y := (y0, y1)) hwx (by rw [hls.out, ← hrr]; exact hwy)
                have htm : ((k : Int) + 1).tmod (q : Int) = (r : Int) := by rw [Int.tmod_eq_emod_of_nonneg (by omega), hrr, Int.natCast_emod]; rfl
                have hwr : IntKind.i64.wrap ((k : Int) + 1) = (k : Int) + 1 := IntWalk.i64_in _ (by omega)
                have hr0 : (0 : Int) ≤ (r : Int) := by omega
                have hr1 : (r : Int) < (q : Int) := by omega
                have hq1 : ¬ q = 0 := by omega
                have HN := Lib.hid (all_next (p := calmRow ss) HX.out)
                clear f0 f1 g0 g1 hwx hwy hrr
                cases x
                · by_cases ha : 0 ≤ p0
                  · by_cases hb : 0 ≤ y0
                    · by_cases he : p0 = y0
                      · have HTA : Hid (tightAt p0 y0 = false) := by show _ = _; simp [tightAt, he]
                        obtain rfl : y0 = p0 := he.symm
                        go_wp2
                        go_quiet (fail)
                        go_wp2
                        go_roundw
                        case rel => exact ⟨k + 1, false, by omega, by go_num, (by first | rfl | (congr 1; simp; done) | (congr 1; simp; omega)), (by have h9 := HN.out; rw [HT.out, HTA.out] at h9; exact h9), HO.out, qb.out.drewN _, below_drewN HB.out _⟩
                        case measure => simp [intOf]; omega
                      · have HTA : Hid (tightAt p0 y0 = true) := by show _ = _; simp [tightAt, ha, hb, he]
                        have he2 : (p0 != y0) = true := by simpa using he
                        go_wp2
                        go_quiet (fail)
                        go_wp2
                        go_roundw
                        case rel => exact ⟨k + 1, true, by omega, by go_num, (by first | rfl | (congr 1; simp; done) | (congr 1; simp; omega)), (by have h9 := HN.out; rw [HT.out, HTA.out] at h9; exact h9), HO.out, qb.out.drewN _, below_drewN HB.out _⟩
                        case measure => simp [intOf]; omega
                    · have HTA : Hid (tightAt p0 y0 = false) := by show _ = _; simp [tightAt, hb]
                      go_wp2
                      go_quiet (fail)
                      go_wp2
                      go_roundw
                      case rel => exact ⟨k + 1, false, by omega, by go_num, (by first | rfl | (congr 1; simp; done) | (congr 1; simp; omega)), (by have h9 := HN.out; rw [HT.out, HTA.out] at h9; exact h9), HO.out, qb.out.drewN _, below_drewN HB.out _⟩
                      case measure => simp [intOf]; omega
                  · have HTA : Hid (tightAt p0 y0 = false) := by show _ = _; simp [tightAt, ha]
                    go_wp2
                    go_quiet (fail)
                    go_wp2
                    go_roundw
                    case rel => exact ⟨k + 1, false, by omega, by go_num, (by first | rfl | (congr 1; simp; done) | (congr 1; simp; omega)), (by have h9 := HN.out; rw [HT.out, HTA.out] at h9; exact h9), HO.out, qb.out.drewN _, below_drewN HB.out _⟩
                    case measure => simp [intOf]; omega
                · go_wp2
                  go_quiet (fail)
                  go_wp2
                  go_roundw
                  case rel => exact ⟨k + 1, true, by omega, by go_num, (by first | rfl | (congr 1; simp; done) | (congr 1; simp; omega)), HN.out, HO.out, qb.out.drewN _, below_drewN HB.out _⟩
                  case measure => simp [intOf]; omega
              · have hkn : k = q := by omega
                have HX9 : Hid (x = x3) := by show _ = _; rw [HX.out, HX3.out, hkn, ← hls.out]; rfl
                clear HX hkn
                obtain rfl := HX9.out
                go_upto_if 87 with (fail)
                go_cut [3] (fun s3 wx => ∃ (v : Value) (ys : List Int), v = s3 ∧ ys.length ≤ 3 ∧ Hid (wx.ownsRow (w.heap.size + 1) 3 1 v ys.length (ints ys)) ∧ Hid (ys = yesAt 0 (bs.take 3)) ∧ Hid (Blk wx w.heap.size 33 #[.slice A n c, .slice B m d, .slice C q e0]) ∧ Hid (Below w.heap.size w wx))
                case first =>
                  have hsz := HB.out.size
                  cases x
                  · go_wp2
                    go_meet
                    case rel => exact ⟨_, ys, rfl, by omega, HO, (by show _ = _; rw [yesAt_no (by rw [HBS.out]; rfl)]; exact HY.out), qb, HB⟩
                  · go_wp2_with (at_builtin; refine wpList_append_rd _ rfl _ _ 37 rfl (w.heap.size + 1) 3 i0 (.int .i64 0) 1 8 Try.underlying37 hi hz0 hz1 hz2 rfl (by omega) _ ys.length (ints ys) rfl (HO.out.alloc _) _ 1 1 (ints [3]) rfl (rd_new (by first | rfl | simp) rfl) (ints_one _) (by unfold maxLen; omega) (by omega) (by first | (simp; done) | (simp; omega)) ?_; intro v4 w4 ho4 hg4 hat4; have HO4 := Lib.hid (own_ints ho4); have HB4 : Hid (Below w.heap.size w w4) := below_own (size := 1) (base := w.heap.size + 1) (HB.out.alloc (by omega) _) (HO.out.alloc _) (by omega) (by simp; omega) hg4; have qb4 : Hid (Blk w4 w.heap.size 33 #[.slice A n c, .slice B m d, .slice C q e0]) := Lib.hid (Blk.grown (qb.out.alloc _) hg4 (fun k hk9 => by have := (HO.out.lt k hk9).1; omega)); clear ho4 hg4 hat4)
                    go_meet
                    case rel => exact ⟨_, ys ++ [3], rfl, by simp; omega, HO4, (by show _ = _; rw [yesAt_yes (by rw [HBS.out]; rfl) (by rw [HBL.out]; omega), ← HY.out]; rfl), qb4, HB4⟩
                case rest =>
                  clear HO HY qb HB kb_2 lb
                  obtain ⟨v, ys, rfl, hyl, HO, HY, qb, HB⟩ := hcut
                  obtain ⟨w7, rfl⟩ : ∃ x : World, x = wc := ⟨_, rfl⟩
                  have kb_1 : w7.cell? ⟨w.heap.size, 1, none⟩ = some (.slice B m d) := qb.out.cell 1 rfl
                  have lb := qb.out.lt
                  go_wp2_with fail
                  go_loopw [10, 11] (fun t i wr => ∃ (k : Nat) (x : Bool), k ≤ m ∧ i = .int .i64 k ∧ t = .bool x ∧ Hid (x = !(List.range k).all (uniqRow cs)) ∧ Hid (wr.ownsRow (w.heap.size + 1) 3 1 v ys.length (ints ys)) ∧ Hid (Blk wr w.heap.size 33 #[.slice A n c, .slice B m d, .slice C q e0]) ∧ Hid (Below w.heap.size w wr)) (fun _ i _ => m - (intOf i).toNat)
                  case atStart => exact ⟨0, false, Nat.zero_le _, rfl, rfl, by show _ = _; simp, HO, qb, HB⟩
                  case round =>
                    obtain ⟨k, y, hk, rfl, rfl, HX, HO, qb, HB⟩ := hrel
                    obtain ⟨wo, rfl⟩ : ∃ x : World, x = wr := ⟨_, rfl⟩
                    clear kb_1 lb
                    have kb_1 : wo.cell? ⟨w.heap.size, 1, none⟩ = some (.slice B m d) := qb.out.cell 1 rfl
                    have lb := qb.out.lt
                    by_cases hlt : k < m
                    · obtain ⟨b3, o3, r0, r1, r2, r3, rfl, hbl3, hwx, f0, f1, f2, f3⟩ := HR.out.c.chan hlt
                      have HCX := Lib.hid hwx
                      have F0 := Lib.hid f0
                      have F1 := Lib.hid f1
                      have F2 := Lib.hid f2
                      have F3 := Lib.hid f3
                      clear hwx f0 f1 f2 f3
                      go_wp2_with fail
                      go_loopw [10, 12] (fun t i wi => ∃ (j : Nat) (x : Bool), j ≤ k ∧ i = .int .i64 j ∧ t = .bool x ∧ Hid (x = (y || (cs.take j).any (sameCh (r0, r1, r2, r3)))) ∧ Hid (wi.ownsRow (w.heap.size + 1) 3 1 v ys.length (ints ys)) ∧ Hid (Blk wi w.heap.size 33 #[.slice A n c, .slice (some ⟨b3, o3, none⟩) m d, .slice C q e0]) ∧ Hid (Below w.heap.size w wi)) (fun _ i _ => k - (intOf i).toNat)
                      case atStart => exact ⟨0, y, Nat.zero_le _, rfl, rfl, by show _ = _; simp, HO, qb, HB⟩
                      case round =>
                        obtain ⟨j, x, hj, rfl, rfl, HJ, HO, qb, HB⟩ := hrel
                        obtain ⟨wi, rfl⟩ : ∃ x : World, x = wr := ⟨_, rfl⟩
                        clear kb_1 lb
                        have kb_1 : wi.cell? ⟨w.heap.size, 1, none⟩ = some (.slice (some ⟨b3, o3, none⟩) m d) := qb.out.cell 1 rfl
                        have lb := qb.out.lt
                        by_cases hjt : j < k
                        · obtain ⟨b6, o6, p0, p1, p2, p3, hAe, hbl6, hwy, g0, g1, g2, g3⟩ := HR.out.c.chan (show j < m by omega)
                          injection hAe with hAe
                          injection hAe with e1 e2
                          subst e1 e2
                          have HCY := Lib.hid hwy
                          have hs0 := HB.out.size
                          have hb9 : b3 < wi.heap.size := by omega
                          have d0 := (HB.out.cell (p := ⟨b3, o3 + j * 4, none⟩) hbl3).trans g0
                          have d1 := (HB.out.cell (p := ⟨b3, o3 + j * 4 + 1, none⟩) hbl3).trans g1
                          have d2 := (HB.out.cell (p := ⟨b3, o3 + j * 4 + 2, none⟩) hbl3).trans g2
                          have d3 := (HB.out.cell (p := ⟨b3, o3 + j * 4 + 3, none⟩) hbl3).trans g3
                          have c0 := (HB.out.cell (p := ⟨b3, o3 + k * 4, none⟩) hbl3).trans F0.out
                          have c1 := (HB.out.cell (p := ⟨b3, o3 + k * 4 + 1, none⟩) hbl3).trans F1.out
                          have c2 := (HB.out.cell (p := ⟨b3, o3 + k * 4 + 2, none⟩) hbl3).trans F2.out
                          have c3 := (HB.out.cell (p := ⟨b3, o3 + k * 4 + 3, none⟩) hbl3).trans F3.out
                          have HJN : Hid ((x || sameCh (r0, r1, r2, r3) (p0, p1, p2, p3)) = (y || (cs.take (j + 1)).any (sameCh (r0, r1, r2, r3)))) := by show _ = _; rw [any_next HCY.out, HJ.out, Bool.or_assoc]
                          have hkm : (k : Int) < (m : Int) := by omega
                          have hjm : (j : Int) < (m : Int) := by omega
                          clear g0 g1 g2 g3 hwy HJ
                          cases x
                          · by_cases h0 : p0 = r0
                            · by_cases h1 : p1 = r1
                              · by_cases h2 : p2 = r2
                                · have HS : Hid (sameCh (r0, r1, r2, r3) (p0, p1, p2, p3) = true) := by show _ = _; simp [sameCh, h0, h1, h2]
                                  obtain rfl := h0
                                  obtain rfl := h1
                                  obtain rfl := h2
                                  go_wp2
                                  go_roundw
                                  case rel => exact ⟨j + 1, true, by omega, by go_num, (by first | rfl | (congr 1; simp; done) | (congr 1; simp [e9])), (by have h9 := HJN.out; rw [HS.out] at h9; exact h9), by exact (HO.out.alloc _).alloc _, by exact (qb.out.alloc _).alloc _, by exact (HB.out.alloc hs0 _).alloc (by simp; omega) _⟩
                                  case measure => simp [intOf]; omega
                                · have HS : Hid (sameCh (r0, r1, r2, r3) (p0, p1, p2, p3) = false) := by show _ = _; simp [sameCh, h0, h1]; intro h; exact h2 h.symm
                                  obtain rfl := h0
                                  obtain rfl := h1
                                  have e9 : (p2 == r2) = false := by simpa using h2
                                  go_wp2
                                  go_roundw
                                  case rel => exact ⟨j + 1, false, by omega, by go_num, (by first | rfl | (congr 1; simp; done) | (congr 1; simp [e9])), (by have h9 := HJN.out; rw [HS.out] at h9; exact h9), by exact (HO.out.alloc _).alloc _, by exact (qb.out.alloc _).alloc _, by exact (HB.out.alloc hs0 _).alloc (by simp; omega) _⟩
                                  case measure => simp [intOf]; omega
                              · have HS : Hid (sameCh (r0, r1, r2, r3) (p0, p1, p2, p3) = false) := by show _ = _; simp [sameCh, h0]; intro h; exact absurd h.symm h1
                                obtain rfl := h0
                                have e9 : (p1 == r1) = false := by simpa using h1
                                go_wp2
                                go_roundw
                                case rel => exact ⟨j + 1, false, by omega, by go_num, (by first | rfl | (congr 1; simp; done) | (congr 1; simp [e9])), (by have h9 := HJN.out; rw [HS.out] at h9; exact h9), by exact (HO.out.alloc _).alloc _, by exact (qb.out.alloc _).alloc _, by exact (HB.out.alloc hs0 _).alloc (by simp; omega) _⟩
                                case measure => simp [intOf]; omega
                            · have HS : Hid (sameCh (r0, r1, r2, r3) (p0, p1, p2, p3) = false) := by show _ = _; simp [sameCh]; intro h; exact absurd h.symm h0
                              have e9 : (p0 == r0) = false := by simpa using h0
                              go_wp2
                              go_roundw
                              case rel => exact ⟨j + 1, false, by omega, by go_num, (by first | rfl | (congr 1; simp; done) | (congr 1; simp [e9])), (by have h9 := HJN.out; rw [HS.out] at h9; exact h9), by exact (HO.out.alloc _).alloc _, by exact (qb.out.alloc _).alloc _, by exact (HB.out.alloc hs0 _).alloc (by simp; omega) _⟩
                              case measure => simp [intOf]; omega
                          · go_wp2
                            go_roundw
                            case rel => exact ⟨j + 1, true, by omega, by go_num, (by first | rfl | (congr 1; simp; done) | (congr 1; simp [e9])), (by have h9 := HJN.out; rw [Bool.true_or] at h9; exact h9), by exact (HO.out.alloc _).alloc _, by exact (qb.out.alloc _).alloc _, by exact (HB.out.alloc hs0 _).alloc (by simp; omega) _⟩
                            case measure => simp [intOf]; omega
                        · have hjk : j = k := by omega
                          have HX1 : Hid (x = !(List.range (k + 1)).all (uniqRow cs)) := by
                            show _ = _
                            rw [← all_next HX.out, uniqRow_at HCX.out, Bool.not_not, HJ.out, hjk]
                          clear HJ hjk
                          go_wp2
                          go_roundw
                          case rel => exact ⟨k + 1, x, by omega, by go_num, rfl, HX1, HO, qb, HB⟩
                          case measure => simp [intOf]; omega
                    · have hkn : k = m := by omega
                      have HX9 : Hid (y = x4) := by show _ = _; rw [HX.out, HX4.out, hkn, ← hlc.out]; rfl
                      clear HX hkn
                      obtain rfl := HX9.out
                      have hsz := HB.out.size
                      cases y
                      · have HZ : Hid (ys = faultsL ps cs ss) := by
                          show _ = _
                          rw [HE.out, HY.out, ← yesAt_no (bs := bs) (j := 3) (by rw [HBS.out]; rfl), List.take_of_length_le (by rw [HBL.out]; omega)]
                        go_wp2
                        go_ret
                        rw [← HZ.out]
                        exact retI_own HO.out (by omega) HB.out
                      · have HZ : Hid (ys ++ [4] = faultsL ps cs ss) := by
                          show _ = _
                          have h9 := yesAt_yes (bs := bs) (j := 3) (by rw [HBS.out]; rfl) (by rw [HBL.out]; omega)
                          rw [List.take_of_length_le (by rw [HBL.out]; omega)] at h9
                          rw [HE.out, h9, HY.out]
                          rfl
                        go_wp2_with (at_builtin; refine wpList_append_rd _ rfl _ _ 37 rfl (w.heap.size + 1) 3 i0 (.int .i64 0) 1 8 Try.underlying37 hi hz0 hz1 hz2 rfl (by omega) _ ys.length (ints ys) rfl (HO.out.alloc _) _ 1 1 (ints [4]) rfl (rd_new (by first | rfl | simp) rfl) (ints_one _) (by unfold maxLen; omega) (by omega) (by first | (simp; done) | (simp; omega)) ?_; intro v4 w4 ho4 hg4 hat4; have HO4 := Lib.hid (own_ints ho4); have HB4 : Hid (Below w.heap.size w w4) := below_own (size := 1) (base := w.heap.size + 1) (HB.out.alloc (by omega) _) (HO.out.alloc _) (by omega) (by simp; omega) hg4; have qb4 : Hid (Blk w4 w.heap.size 33 #[.slice A n c, .slice B m d, .slice C q e0]) := Lib.hid (Blk.grown (qb.out.alloc _) hg4 (fun k hk9 => by have := (HO.out.lt k hk9).1; omega)); clear ho4 hg4 hat4)
                        go_ret
                        rw [← HZ.out]
                        exact retI_own HO4.out (by omega) HB4.out
end Go.Proofs.Ytlckjhbgdbhdmaa
