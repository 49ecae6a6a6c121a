/-
  CONTRACT of the reference's RunModes.
  Conditions: none beyond those that each states.
-/
import Derived.Test.YtdccgflkhgnflaaRunM
namespace Go.Proofs.Ytdccgflkhgnflaa
open Go.ChangeShapes Go.WideShapes Go.ChangeAt Go.RowKit Go.Joins
set_option linter.unusedVariables false

set_option maxRecDepth 100000 in
set_option maxHeartbeats 16000000 in
theorem sRunModes_any (A : Option Addr) (n c : Nat) (ts : List Slots) (now asked parts : Int) (B : Option Addr) (m d : Nat) (asks : List Int) (w : World) (hm : n ≤ 1048576) (ht : ∀ x ∈ ts, (tabI x).length ≤ 1048576) (hr : Rd_tab w A n ts) (hma : m ≤ 1048577) (hra : Rd w 1 B m (ints asks)) :
    Calls Try.prog 5 #[.agg #[.slice A n c, .int .i64 now, .int .i64 asked], .int .i64 parts, .slice B m d] w (fun e w' => RetI w (runL parts ts now asked asks) e w') := by
  obtain ⟨i0, hi, hz0, hz1, hz2⟩ := info_parts Try.infoInt
  have hlt0 := Lib.hid hr.len
  have hla := Lib.hid hra.len
  have HR := Lib.hid hr
  have HT := Lib.hid ht
  have HRA := Lib.hid hra
  clear hr ht hra
  cases hok : modesOk parts ts now asked
  · rw [show runL parts ts now asked asks = [] by unfold runL; rw [if_neg (by rw [hok]; simp)]]
    go_enter Try.func5, Try.ntmps5
    go_wp2_with fail
    refine (sModesValid_is hok _ hm HT.out ((HR.out.alloc _).alloc _)).mono ?_
    rintro e w1 ⟨rfl, hb1⟩
    have HB1 : Hid (Below w.heap.size w w1) := Below.andThen (by go_grown) hb1
    clear hb1
    go_wp2
    go_ret
    exact ⟨_, 0, rfl, Fr.nil_, HB1.out⟩
  · have HOK := Lib.hid hok
    clear hok
    by_cases h10 : m ≤ 10
    · have HE : Hid (runL parts ts now asked asks = (rmAll ts now asked asks).1) := by show _ = _; unfold runL; rw [if_pos HOK.out, if_pos (by rw [hla.out]; exact h10)]
      go_enter Try.func5, Try.ntmps5
      have HO0 : Hid (((w.alloc (.cells #[.slice A n c, .int .i64 now, .int .i64 asked] 30)).alloc (.cells #[] 3)).ownsRow (w.heap.size + 1) 3 1 (.slice (some ⟨w.heap.size + 1, 0, none⟩) 0 0) 0 (ints [])) := by
        have h := World.ownsRow_lit (base := w.heap.size + 1) (e := 3) (size := 1) (w.alloc (.cells #[.slice A n c, .int .i64 now, .int .i64 asked] 30)) #[] 0 (by simp) (Nat.zero_le _) (by simp)
        show World.ownsRow _ _ _ _ _ _ _
        simpa [ints] using h
      go_wp2_with fail
      refine (sModesValid_is HOK.out _ hm HT.out ((HR.out.alloc _).alloc _)).mono ?_
      rintro e w1 ⟨rfl, hb1⟩
      have HB1 : Hid (Below w.heap.size w w1) := Below.andThen (by go_grown) hb1
      have qb : Hid (Blk w1 w.heap.size 30 #[.slice A n c, .int .i64 now, .int .i64 asked]) := Blk.below (w' := w1) ((Blk.at_ _ _ _ rfl).alloc _) (Nat.le_refl _) hb1
      have HO1 := Lib.hid (own_below hb1 (Nat.le_refl _) HO0.out)
      have HTB : Hid (TabO w1 (.slice (some ⟨w.heap.size + 1, 0, none⟩) 0 0) A n ts) := TabO.of_rd HR.out HB1.out (fun g hg => by have e2 : some (w.heap.size + 1) = some g := hg; have := Option.some.inj e2; omega)
      clear hb1 HO0
      go_wp2_with fail
      go_loopw [7, 8] (fun v i wr => ∃ (k : Nat) (ys : List Int) (nw ak : Int) (Am : Option Addr) (cm : Nat), k ≤ m ∧ i = .int .i64 k ∧ ys.length ≤ 240 * k ∧ Hid ((ys, nw, ak) = rmAll ts now asked (asks.take k)) ∧ Hid (modesOk parts ts nw ak = true) ∧ Hid (wr.ownsRow (w.heap.size + 1) 3 1 v ys.length (ints ys)) ∧ Hid (TabO wr v Am n ts) ∧ Hid (Blk wr w.heap.size 30 #[.slice Am n cm, .int .i64 nw, .int .i64 ak]) ∧ Hid (Below w.heap.size w wr)) (fun _ i _ => m - (intOf i).toNat)
      case atStart => exact ⟨0, [], now, asked, A, c, Nat.zero_le _, rfl, by simp, rfl, HOK, HO1, HTB, qb, HB1⟩
      case round =>
        obtain ⟨k, ys, nw, ak, Am, cm, hk, rfl, hyl, HS, HM, HO, HTB, qb, HB⟩ := hrel
        obtain ⟨wo, rfl⟩ : ∃ wo : World, wo = wr := ⟨_, rfl⟩
        by_cases hlt : k < m
        · obtain ⟨ba, oa, a, rfl, hba, hax, hac⟩ := HRA.out.int_ hlt
          obtain ⟨jn, x, rfl, hj, hx, hcx, hxo, hx12, htk, hN1, hN2⟩ := cur_frame HM.out
          rw [hlt0.out] at hj
          obtain ⟨bA, oA, _, _, _, _, rfl, hbA, _⟩ := HTB.out.rd.at_ hj
          obtain ⟨N, hN⟩ : ∃ N, N = (frameL x).length := ⟨_, rfl⟩
          rw [← hN] at hN1 hN2
          have HN := Lib.hid hN
          have HCU := Lib.hid hcx
          have HM2 := Lib.hid (modesOk_ask a HM.out)
          obtain ⟨a2, ha2⟩ : ∃ z, z = askN n ak a := ⟨_, rfl⟩
          have HA2 := Lib.hid ha2
          obtain ⟨n2, hn2⟩ : ∃ z, z = endN (jn : Int) a2 := ⟨_, rfl⟩
          have HN2 := Lib.hid hn2
          have HM3 : Hid (modesOk parts ts (jn : Int) a2 = true) := by
            show _ = true
            have h := HM2.out
            rwa [hlt0.out, ← ha2] at h
          clear ha2 hn2
          have HNX := Lib.hid (rmAll_next (ts := ts) (now := now) (asked := asked) hax)
          have HXX := Lib.hid hx
          have HXO := Lib.hid hxo
          have HAC := Lib.hid hac
          have ja := (HB.out.cell (p := ⟨ba, oa + k, none⟩) hba).trans hac
          have hk0 : (0 : Int) ≤ (k : Int) := by omega
          have hk1 : (k : Int) < (m : Int) := by omega
          have hj0 : (0 : Int) ≤ (jn : Int) := by omega
          have hj1 : (jn : Int) < (n : Int) := by omega
          have hs0 := HB.out.size
          have kb_0 : wo.cell? ⟨w.heap.size, 0, none⟩ = some (.slice (some ⟨bA, oA, none⟩) n cm) := qb.out.cell 0 rfl
          have fb_0 := qb.out.frozen 0
          have kb_1 : wo.cell? ⟨w.heap.size, 1, none⟩ = some (.int .i64 (jn : Int)) := qb.out.cell 1 rfl
          have fb_1 := qb.out.frozen 1
          have kb_2 : wo.cell? ⟨w.heap.size, 2, none⟩ = some (.int .i64 ak) := qb.out.cell 2 rfl
          have fb_2 := qb.out.frozen 2
          have lb := qb.out.lt
          clear hax hx hcx hxo htk hN hac
          go_upto_region 7 with (fail)
          go_cut [9, 10] from 23 to 60 (fun s9 s10 wx => ∃ (g : Nat) (A2 : Option Addr) (c2 : Nat), s9 = .pointer (some ⟨g, 0, none⟩) ∧ Hid (wo.heap.size ≤ g) ∧ Hid (Blk wx g 30 #[.slice A2 n c2, .int .i64 (jn : Int), .int .i64 a2]) ∧ Hid (TabO wx u7 A2 n ts) ∧ Hid (Below wo.heap.size wo wx))
          case first =>
            have JA := Lib.hid ja
            have lb0 := lb
            have hbw : ba < wo.heap.size := by omega
            go_region_held3 (fun w' => w'.cell? ⟨w.heap.size, 0, none⟩ = some (.slice (some ⟨bA, oA, none⟩) n cm) ∧ w'.cell? ⟨w.heap.size, 1, none⟩ = some (.int .i64 (jn : Int)) ∧ w'.cell? ⟨w.heap.size, 2, none⟩ = some (.int .i64 ak) ∧ w'.cell? ⟨ba, oa + k, none⟩ = some (.int .i64 a)) (refine ⟨?_, ?_, ?_, ?_⟩ <;> (repeat' (first | with_reducible exact kb_0 | with_reducible exact kb_1 | with_reducible exact kb_2 | with_reducible exact ja | (with_reducible refine keepS ?_ (by dsimp only; first | exact Nat.ne_of_lt (by assumption) | omega) _) | with_reducible refine keepA ?_ _ | with_reducible refine keepD ?_))) (first | (go_at_call 16; refine (sAskMode_any (some ⟨bA, oA, none⟩) n cm ts (jn : Int) ak parts a _ HM.out (by first | exact HTB.out.rd | exact RdN.drew HTB.out.rd | exact HTB.out.rd.alloc _ | exact RdN.drew (HTB.out.rd.alloc _) | exact (RdN.drew HTB.out.rd).alloc _)).mono ?_; rw [← HA2.out]; rintro e w2 ⟨⟨A2, c2, b2, rfl, hx2⟩, hb2⟩; have hT2 : Below wo.heap.size wo w2 := Below.andThen (w := wo) (by first | exact Below.drew (Below.refl _ _) | exact Below.drew ((Below.refl _ _).alloc (Nat.le_refl _) _) | go_grown) hb2; have HTw := Lib.hid hT2; have HX2 := Lib.hid hx2; have hs2 := hb2.size; have hs3 := hT2.size; have qb : Hid (Blk w2 w.heap.size 30 #[.slice (some ⟨bA, oA, none⟩) n cm, .int .i64 (jn : Int), .int .i64 ak]) := qb.out.below (Nat.le_refl _) hT2; clear lb kb_0 fb_0 kb_1 fb_1 kb_2 fb_2; clear ja; (try (have qz : Hid (Blk w2 wo.heap.size 30 #[.slice none 0 0, .int .i64 0, .int .i64 0]) := Blk.below (w' := w2) (by first | exact Blk.drew (Blk.at_ _ _ _ rfl) | exact Blk.at_ _ _ _ rfl) (Nat.le_refl _) hb2; have kz_0 : w2.cell? ⟨wo.heap.size, 0, none⟩ = some (.slice none 0 0) := qz.out.cell 0 rfl; have fz_0 := qz.out.frozen 0; have kz_1 : w2.cell? ⟨wo.heap.size, 1, none⟩ = some (.int .i64 0) := qz.out.cell 1 rfl; have fz_1 := qz.out.frozen 1; have kz_2 : w2.cell? ⟨wo.heap.size, 2, none⟩ = some (.int .i64 0) := qz.out.cell 2 rfl; have fz_2 := qz.out.frozen 2; have lz := qz.out.lt)); clear hx2 hb2; have kb_0 : w2.cell? ⟨w.heap.size, 0, none⟩ = some (.slice (some ⟨bA, oA, none⟩) n cm) := qb.out.cell 0 rfl; have fb_0 := qb.out.frozen 0; have kb_1 : w2.cell? ⟨w.heap.size, 1, none⟩ = some (.int .i64 (jn : Int)) := qb.out.cell 1 rfl; have fb_1 := qb.out.frozen 1; have kb_2 : w2.cell? ⟨w.heap.size, 2, none⟩ = some (.int .i64 ak) := qb.out.cell 2 rfl; have fb_2 := qb.out.frozen 2; have lb := qb.out.lt; have ja : w2.cell? ⟨ba, oa + k, none⟩ = some (.int .i64 a) := (hT2.cell (p := ⟨ba, oa + k, none⟩) hbw).trans JA.out; clear hT2))
            · go_wp2_with fail
              go_meet
              case rel => exact ⟨w2.heap.size, A2, c2, rfl, hs3, Blk.at_ _ _ _ rfl, TabO.of_own (HX2.out.alloc _) (fun g hg => by have := (HO.out.lt g hg).2; first | exact this | (simp; omega)), HTw.out.alloc hs3 _⟩
            · go_wp2_with fail
              go_meet
              case rel => exact ⟨wo.heap.size, A2, c2, rfl, Nat.le_refl _, ((qz.out.set_ 0 _).set_ 1 _).set_ 2 _, TabO.of_own (((HX2.out.far (by simp) _).far (by simp) _).far (by simp) _) (fun g hg => by have := (HO.out.lt g hg).2; first | exact this | (simp; omega)), ((HTw.out.setCell (Nat.le_refl _) _).setCell (Nat.le_refl _) _).setCell (Nat.le_refl _) _⟩
          case rest =>
            obtain ⟨g, A2, c2, rfl, HG, qx, HTX, HTW⟩ := hcut
            obtain ⟨wz, rfl⟩ : ∃ x : World, x = wc := ⟨_, rfl⟩
            have hgg := HG.out
            have HD : Hid (∀ q, u7.ownBlock = some q → q ≠ g) := fun q hq => by have := (HO.out.lt q hq).2; omega
            have HO := Lib.hid (own_below HTW.out (Nat.le_refl _) HO.out)
            have HTB := Lib.hid (HTB.out.below (Nat.le_refl _) HTW.out)
            have qb : Hid (Blk wz w.heap.size 30 #[.slice (some ⟨bA, oA, none⟩) n cm, .int .i64 (jn : Int), .int .i64 ak]) := qb.out.below (Nat.le_refl _) HTW.out
            have HB := Lib.hid (Below.andThen HB.out HTW.out)
            have hsz := HTW.out.size
            clear lb kb_0 fb_0 kb_1 fb_1 kb_2 fb_2
            clear ja
            go_wp2_with fail
            go_loopw [7, 11] (fun v i wi => ∃ (t : Nat) (zs : List Int), t ≤ N ∧ i = .int .i64 t ∧ zs.length ≤ 240 * k + t ∧ Hid (zs = ys ++ (frameL x).take t) ∧ Hid (∀ q, v.ownBlock = some q → q ≠ g) ∧ Hid (wi.ownsRow (w.heap.size + 1) 3 1 v zs.length (ints zs)) ∧ Hid (TabO wi v (some ⟨bA, oA, none⟩) n ts) ∧ Hid (TabO wi v A2 n ts) ∧ Hid (Blk wi w.heap.size 30 #[.slice (some ⟨bA, oA, none⟩) n cm, .int .i64 (jn : Int), .int .i64 ak]) ∧ Hid (Blk wi g 30 #[.slice A2 n c2, .int .i64 (jn : Int), .int .i64 a2]) ∧ Hid (Below w.heap.size w wi)) (fun _ i _ => N - (intOf i).toNat)
            case atStart => exact ⟨0, ys, Nat.zero_le _, rfl, by omega, by show _ = _; simp, HD, HO, HTB, HTX, qb, qx, HB⟩
            case round =>
              obtain ⟨t, zs, ht, rfl, hzl, HZ, HD, HO, HTB, HTX, qb, qx, HB⟩ := hrel
              obtain ⟨wi, rfl⟩ : ∃ x : World, x = wr := ⟨_, rfl⟩
              obtain ⟨Ai, ci, hcc, hrx⟩ := tab_cell HTB.out.rd hj HXX.out
              obtain ⟨X, hX⟩ : ∃ X, X = x.length := ⟨_, rfl⟩
              have hXl : X ≤ 12 := by omega
              rw [← hX] at hcc
              have HXL := Lib.hid hX
              have HRX := Lib.hid hrx
              clear hX hrx
              have hsw := HB.out.size
              have kb_0 : wi.cell? ⟨w.heap.size, 0, none⟩ = some (.slice (some ⟨bA, oA, none⟩) n cm) := qb.out.cell 0 rfl
              have fb_0 := qb.out.frozen 0
              have kb_1 : wi.cell? ⟨w.heap.size, 1, none⟩ = some (.int .i64 (jn : Int)) := qb.out.cell 1 rfl
              have fb_1 := qb.out.frozen 1
              have kb_2 : wi.cell? ⟨w.heap.size, 2, none⟩ = some (.int .i64 ak) := qb.out.cell 2 rfl
              have fb_2 := qb.out.frozen 2
              have lb := qb.out.lt
              have kx_0 : wi.cell? ⟨g, 0, none⟩ = some (.slice A2 n c2) := qx.out.cell 0 rfl
              have fx_0 := qx.out.frozen 0
              have kx_1 : wi.cell? ⟨g, 1, none⟩ = some (.int .i64 (jn : Int)) := qx.out.cell 1 rfl
              have fx_1 := qx.out.frozen 1
              have kx_2 : wi.cell? ⟨g, 2, none⟩ = some (.int .i64 a2) := qx.out.cell 2 rfl
              have fx_2 := qx.out.frozen 2
              have lx := qx.out.lt
              go_wp2_with fail
              refine (sFrameTicks_is HXO.out HN.out _ (by omega) (by rw [HXL.out]; exact HRX.out)).mono ?_
              rintro e w3 ⟨rfl, hb3⟩
              have HO := Lib.hid (own_below hb3 (Nat.le_refl _) HO.out)
              have HTB := Lib.hid (HTB.out.below (Nat.le_refl _) hb3)
              have HTX := Lib.hid (HTX.out.below (Nat.le_refl _) hb3)
              have qb : Hid (Blk w3 w.heap.size 30 #[.slice (some ⟨bA, oA, none⟩) n cm, .int .i64 (jn : Int), .int .i64 ak]) := qb.out.below (Nat.le_refl _) hb3
              have qx : Hid (Blk w3 g 30 #[.slice A2 n c2, .int .i64 (jn : Int), .int .i64 a2]) := qx.out.below (Nat.le_refl _) hb3
              have HB := Lib.hid (Below.andThen HB.out hb3)
              have hsw3 := hb3.size
              clear lb kb_0 fb_0 kb_1 fb_1 kb_2 fb_2 lx kx_0 fx_0 kx_1 fx_1 kx_2 fx_2
              clear hb3 hcc
              have kb_0 : w3.cell? ⟨w.heap.size, 0, none⟩ = some (.slice (some ⟨bA, oA, none⟩) n cm) := qb.out.cell 0 rfl
              have fb_0 := qb.out.frozen 0
              have kb_1 : w3.cell? ⟨w.heap.size, 1, none⟩ = some (.int .i64 (jn : Int)) := qb.out.cell 1 rfl
              have fb_1 := qb.out.frozen 1
              have kb_2 : w3.cell? ⟨w.heap.size, 2, none⟩ = some (.int .i64 ak) := qb.out.cell 2 rfl
              have fb_2 := qb.out.frozen 2
              have lb := qb.out.lt
              have kx_0 : w3.cell? ⟨g, 0, none⟩ = some (.slice A2 n c2) := qx.out.cell 0 rfl
              have fx_0 := qx.out.frozen 0
              have kx_1 : w3.cell? ⟨g, 1, none⟩ = some (.int .i64 (jn : Int)) := qx.out.cell 1 rfl
              have fx_1 := qx.out.frozen 1
              have kx_2 : w3.cell? ⟨g, 2, none⟩ = some (.int .i64 a2) := qx.out.cell 2 rfl
              have fx_2 := qx.out.frozen 2
              have lx := qx.out.lt
              by_cases htt : t < N
              · obtain ⟨V, hV⟩ : ∃ V, V = mtV parts ts (jn : Int) ak (t : Int) := ⟨_, rfl⟩
                have hVX := mtV_at HM.out HCU.out HN.out htt
                rw [← hV] at hVX
                have HV := Lib.hid hV
                obtain ⟨z2, hz2'⟩ : ∃ z, z = zs ++ [V] := ⟨_, rfl⟩
                have hz2l : z2.length ≤ 240 * k + (t + 1) := by rw [hz2', List.length_append]; simp; omega
                have HZ2 : Hid (z2 = ys ++ (frameL x).take (t + 1)) := by show _ = _; rw [hz2', take_snoc hVX, HZ.out, List.append_assoc]
                have HZE := Lib.hid hz2'
                clear hV hVX hz2'
                go_wp2_with fail
                refine (sModeTick_any (some ⟨bA, oA, none⟩) n cm ts (jn : Int) ak parts (t : Int) _ hm HT.out HTB.out.rd).mono ?_
                rw [← HV.out]
                rintro e w4 ⟨rfl, hb4⟩
                have HO := Lib.hid (own_below hb4 (Nat.le_refl _) HO.out)
                have HTB := Lib.hid (HTB.out.below (Nat.le_refl _) hb4)
                have HTX := Lib.hid (HTX.out.below (Nat.le_refl _) hb4)
                have qb : Hid (Blk w4 w.heap.size 30 #[.slice (some ⟨bA, oA, none⟩) n cm, .int .i64 (jn : Int), .int .i64 ak]) := qb.out.below (Nat.le_refl _) hb4
                have qx : Hid (Blk w4 g 30 #[.slice A2 n c2, .int .i64 (jn : Int), .int .i64 a2]) := qx.out.below (Nat.le_refl _) hb4
                have HB := Lib.hid (Below.andThen HB.out hb4)
                have hsw4 := hb4.size
                have lx4 := qx.out.lt
                clear lb kb_0 fb_0 kb_1 fb_1 kb_2 fb_2 lx kx_0 fx_0 kx_1 fx_1 kx_2 fx_2
                clear hb4
                go_wp2_with (at_builtin; refine wpList_append_rd _ rfl _ _ 25 rfl (w.heap.size + 1) 3 i0 (.int .i64 0) 1 8 Try.underlying25 hi hz0 hz1 hz2 rfl (by omega) _  zs.length (ints zs) rfl (HO.out.alloc _) _ 1 1 (ints [V]) rfl (rd_new (by first | rfl | simp) rfl) (ints_one _) (by unfold maxLen; omega) (by omega) (by first | (simp; done) | (simp; omega)) ?_; intro v5 w5 ho5 hg5 hat5; have HO5 : Hid (w5.ownsRow (w.heap.size + 1) 3 1 v5 z2.length (ints z2)) := (by rw [HZE.out]; exact own_ints ho5); have HD5 : Hid (∀ q, v5.ownBlock = some q → q ≠ g) := (by intro q hq; rcases hat5 with e | e; (exact HD.out q (e.symm.trans hq)); (have e2 := Option.some.inj (hq.symm.trans e); simp at e2; omega)); have HTB5 := Lib.hid (HTB.out.grown hg5 hat5); have HTX5 := Lib.hid (HTX.out.grown hg5 hat5); have qb5 : Hid (Blk w5 w.heap.size 30 #[.slice (some ⟨bA, oA, none⟩) n cm, .int .i64 (jn : Int), .int .i64 ak]) := Blk.grown (qb.out.alloc _) hg5 (fun k9 hk9 => by have := (HO.out.lt k9 hk9).1; omega); have qx5 : Hid (Blk w5 g 30 #[.slice A2 n c2, .int .i64 (jn : Int), .int .i64 a2]) := Blk.grown (qx.out.alloc _) hg5 (fun k9 hk9 => HD.out k9 hk9); have HB5 : Hid (Below w.heap.size w w5) := below_own (size := 1) (base := w.heap.size + 1) (HB.out.alloc (by omega) _) (HO.out.alloc _) (by omega) (by simp; omega) hg5; clear ho5 hg5 hat5)
                go_roundw
                case rel => exact ⟨t + 1, z2, by omega, by go_num, hz2l, HZ2, HD5, HO5, HTB5, HTX5, qb5, qx5, HB5⟩
                case measure => simp [intOf]; omega
              · have htN : t = N := by omega
                have HZ9 : Hid (zs = ys ++ frameL x) := by
                  show _ = _
                  have h := HZ.out
                  rw [htN, HN.out, List.take_length] at h
                  exact h
                have HTN := Lib.hid htN
                clear htN
                go_wp2_with fail
                refine (sEndFrame_any A2 n c2 ts (jn : Int) a2 parts _ HM3.out HTX.out.rd).mono ?_
                rw [← HN2.out]
                rintro e w6 ⟨⟨A3, c3, rfl, hx6⟩, hb6⟩
                have HX6 := Lib.hid hx6
                have HO6 := Lib.hid (own_below hb6 (Nat.le_refl _) HO.out)
                have HB6 := Lib.hid (Below.andThen HB.out hb6)
                have hs6 := hb6.size
                have lb6 := qb.out.lt
                have qb : Hid (Blk w6 w.heap.size 30 #[.slice (some ⟨bA, oA, none⟩) n cm, .int .i64 (jn : Int), .int .i64 ak]) := qb.out.below (Nat.le_refl _) hb6
                clear lb kb_0 fb_0 kb_1 fb_1 kb_2 fb_2 lx kx_0 fx_0 kx_1 fx_1 kx_2 fx_2
                clear hx6 hb6
                have kb_0 : w6.cell? ⟨w.heap.size, 0, none⟩ = some (.slice (some ⟨bA, oA, none⟩) n cm) := qb.out.cell 0 rfl
                have fb_0 := qb.out.frozen 0
                have kb_1 : w6.cell? ⟨w.heap.size, 1, none⟩ = some (.int .i64 (jn : Int)) := qb.out.cell 1 rfl
                have fb_1 := qb.out.frozen 1
                have kb_2 : w6.cell? ⟨w.heap.size, 2, none⟩ = some (.int .i64 ak) := qb.out.cell 2 rfl
                have fb_2 := qb.out.frozen 2
                have lb := qb.out.lt
                go_wp2
                go_roundw
                case rel =>
                  refine ⟨k + 1, zs, n2, -1, A3, c3, by omega, by go_num, by omega, ?_, ?_, ownFar (ownFar (ownFar HO6.out (by dsimp only; omega) _) (by dsimp only; omega) _) (by dsimp only; omega) _, TabO.of_own (((HX6.out.far (by dsimp only; omega) _).far (by dsimp only; omega) _).far (by dsimp only; omega) _) (fun q hq => (HO.out.lt q hq).2), ((qb.out.set_ 0 _).set_ 1 _).set_ 2 _, ((HB6.out.setCell (by dsimp only; omega) _).setCell (by dsimp only; omega) _).setCell (by dsimp only; omega) _⟩
                  · show _ = _
                    rw [HNX.out, ← HS.out]
                    simp only [rmStep]
                    rw [HCU.out, hlt0.out, ← HA2.out, ← HN2.out, ← HZ9.out]
                  · show _ = true
                    rw [HN2.out]
                    exact modesOk_end HM3.out
                case measure => simp [intOf]; omega
        · have hkm : k = m := by omega
          have HZ : Hid (ys = runL parts ts now asked asks) := by
            show _ = _
            have h := HS.out
            rw [hkm, ← hla.out, List.take_length] at h
            rw [HE.out, ← h]
          go_wp2
          go_ret
          rw [← HZ.out]
          exact retI_own HO.out (by omega) HB.out
    · rw [show runL parts ts now asked asks = [] by unfold runL; rw [if_pos HOK.out, if_neg (by rw [hla.out]; exact h10)]]
      have h11 : ¬ (m : Int) ≤ 10 := by omega
      have h12 : (10 : Int) < (m : Int) := by omega
      go_enter Try.func5, Try.ntmps5
      go_wp2_with fail
      refine (sModesValid_is HOK.out _ hm HT.out ((HR.out.alloc _).alloc _)).mono ?_
      rintro e w1 ⟨rfl, hb1⟩
      have HB1 : Hid (Below w.heap.size w w1) := Below.andThen (by go_grown) hb1
      clear hb1
      go_wp2
      go_ret
      exact ⟨_, 0, rfl, Fr.nil_, HB1.out⟩
end Go.Proofs.Ytdccgflkhgnflaa
