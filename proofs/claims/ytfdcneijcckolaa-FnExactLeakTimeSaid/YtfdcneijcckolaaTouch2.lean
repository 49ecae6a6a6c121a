/-
  CONTRACTS of an access to a cache: the spec's.
  Conditions: none beyond those that each states.
-/
import Derived.Test.YtfdcneijcckolaaTouch
namespace Go.Proofs.Ytfdcneijcckolaa
open Go.ChangeShapes Go.WideShapes Go.ChangeAt Go.RowKit Go.Joins
set_option linter.unusedVariables false

theorem own_lit (w : World) (g : Nat) (hg : w.heap.size = g) : (w.alloc (.cells #[] 3)).ownsRow g 3 1 (.slice (some ⟨g, 0, none⟩) 0 0) 0 (ints []) := by
  subst hg
  simpa [ints] using World.ownsRow_lit w #[] 0 (Nat.le_refl _) (Nat.zero_le _) (by simp)
set_option maxRecDepth 100000 in
set_option maxHeartbeats 2000000 in
theorem ownCache_any (A : Option Addr) (n c : Nat) (zs : List Int) (w : World) (hm : n ≤ 1048577) (hr : Rd w 1 A n (ints zs)) :
    Calls Try.prog 64 #[.agg #[.slice A n c]] w (fun e w' => RetCache w zs e w') := by
  obtain ⟨i0, hi, hz0, hz1, hz2⟩ := info_parts Try.infoInt
  have hzl := hr.len
  subst hzl
  have HR := Lib.hid hr
  have hl0 : (ints zs).length = zs.length := by simp [ints]
  clear hr
  have HW := Lib.hid (own_lit (((w.alloc (.cells #[.slice A zs.length c] 50)).alloc (.cells #[.slice none 0 0] 50)).alloc (.cells #[.slice A zs.length c] 50)) (w.heap.size + 1 + 1 + 1) (by simp))
  go_enter Try.func64, Try.ntmps64
  go_wp2_with (at_builtin; refine wpList_append_rd _ rfl _ _ 22 rfl (w.heap.size + 1 + 1 + 1) 3 i0 (.int .i64 0) 1 8 Try.underlying22 hi hz0 hz1 hz2 rfl (by omega) _ 0 _ rfl HW.out A zs.length c (ints zs) rfl ((((HR.out.alloc _).alloc _).alloc _).alloc _) (ints_one _) (by unfold maxLen; omega) (by omega) (by simp) ?_; intro v2 w2 ho2 hg2 hat2; clear hat2; have hb4 := below_own (Below.refl (w.heap.size + 1 + 1 + 1) _) HW.out (Nat.le_refl _) (by simp) hg2; have HB := Lib.hid (below_own (B := w.heap.size) (a := w) (by go_grown) HW.out (by omega) (by simp; omega) hg2); rw [Nat.zero_add, ← ints_app, List.nil_append] at ho2; obtain ⟨A2, c2, rfl, hA2⟩ := own_parts ho2; have HO := Lib.hid (Fr.of_own ho2); have HA := Lib.hid hA2; have hs2 := hg2.size; simp only [World.size_alloc] at hs2; have qb : Hid (Blk w2 (w.heap.size + 1) 50 #[.slice none 0 0]) := (hb4.block (w.heap.size + 1) (by omega)).trans (by repeat' (first | (refine Blk.at_ _ _ _ ?_; first | rfl | (simp; done)) | refine Blk.alloc ?_ _ | assumption)); have qc : Hid (Blk w2 (w.heap.size + 1 + 1) 50 #[.slice A zs.length c]) := (hb4.block (w.heap.size + 1 + 1) (by omega)).trans (by repeat' (first | (refine Blk.at_ _ _ _ ?_; first | rfl | (simp; done)) | refine Blk.alloc ?_ _ | assumption)); have kb_0 := qb.out.cell 0 rfl; have fb_0 := qb.out.frozen 0; have lb := qb.out.lt; have kc_0 := qc.out.cell 0 rfl; have fc_0 := qc.out.frozen 0; have lc := qc.out.lt; clear ho2 hA2 hg2 hb4)
  refine bodyPost_ret (v := .agg #[.slice A2 zs.length c2]) (by simp [results, Try.results64, go_sem, *]) rfl ?_
  refine ⟨A2, c2, rfl, ?_, HA.out, ?_⟩
  · refine Fr.wide (lo := w.heap.size + 1 + 1 + 1) (hi := w2.heap.size) ?_ (by omega) (by simp)
    repeat (refine Fr.setFar ?_ (by first | (left; simp; omega) | (left; simp; done)) _)
    exact HO.out
  · have h := HB.out
    repeat (refine Below.setCell ?_ (by first | (simp; done) | (simp; omega)) _)
    exact h
theorem Below.mono' {B C : Nat} {a w : World} (h : Below C a w) (hB : B ≤ C) : Below B a w := ⟨h.os, h.tape, h.output, h.size, fun k hk => h.block k (by omega)⟩
set_option maxRecDepth 100000 in
set_option maxHeartbeats 4000000 in
theorem sTouchCache_any (A : Option Addr) (n c : Nat) (zs : List Int) (p : Int) (w : World) (hm : n ≤ 1048576) (hr : Rd w 1 A n (ints zs)) :
    Calls Try.prog 47 #[.agg #[.slice A n c], .int .i64 p] w (fun e w' => RetTouch w (tcF zs p) (tcT zs p) e w') := by
  obtain ⟨i0, hi, hz0, hz1, hz2⟩ := info_parts Try.infoInt
  have hzl := hr.len
  subst hzl
  have HR := Lib.hid hr
  have HI : Hid (touchOk zs p = (cacheOk zs && inB p 0 4095)) := rfl
  clear hr
  have hm : zs.length ≤ 1048577 := by omega
  cases hv : cacheOk zs
  · have e1 : touchOk zs p = false := by rw [HI.out, hv]; rfl
    rw [tcF, tcT, if_neg (by simp [e1]), if_neg (by simp [e1])]
    go_enter Try.func47, Try.ntmps47
    go_wp2_with (first
      | (go_at_call 64; refine (ownCache_any A zs.length c zs _ hm (HR.out.below (Nat.le_refl _) (by go_grown))).mono ?_; rintro e w1 ⟨A1, c1, rfl, hf1, hA1, hb1⟩; have hs1 := hb1.size; simp only [World.size_alloc] at hs1 hf1; have qa : Hid (Blk w1 w.heap.size 50 #[.slice A zs.length c]) := Blk.below (w' := w1) (by repeat' (first | (refine Blk.at_ _ _ _ ?_; first | rfl | (simp; done)) | refine Blk.alloc ?_ _ | assumption)) (Nat.le_refl _) hb1; have qb : Hid (Blk w1 (w.heap.size + 1) 50 #[.slice none 0 0]) := Blk.below (w' := w1) (by repeat' (first | (refine Blk.at_ _ _ _ ?_; first | rfl | (simp; done)) | refine Blk.alloc ?_ _ | assumption)) (Nat.le_refl _) hb1; have ka_0 := qa.out.cell 0 rfl; have fa_0 := qa.out.frozen 0; have la := qa.out.lt; have HB := Lib.hid (Below.andThen (w := w) (by go_grown) hb1); have HF1 := Lib.hid hf1; have HA1 := Lib.hid hA1; clear hf1 hA1 hb1)
      | (go_at_call 39; refine (sCacheValid_any A1 zs.length c1 zs _ hm (HF1.out.setFar (by left; simp; omega) _).rd).mono ?_; rw [hv]; rintro e w2 ⟨rfl, hb2⟩; have hs2 := hb2.size; simp only [World.size_setCell] at hs2 hb2; have qa2 : Hid (Blk w2 w.heap.size 50 #[.slice A1 zs.length c1]) := Blk.below (w' := w2) (qa.out.set_ 0 _) (by simp) hb2; have qb2 : Hid (Blk w2 (w.heap.size + 1) 50 #[.slice none 0 0]) := Blk.below (w' := w2) (Blk.far qb.out (by simp) _) (by simp) hb2; have HF2 := Lib.hid (Fr.below (w' := w2) (HF1.out.setFar (by left; simp; omega) _) (by simp) hb2); have kb_0 := qb2.out.cell 0 rfl; have fb_0 := qb2.out.frozen 0; have lb := qb2.out.lt; have ka_0 := qa2.out.cell 0 rfl; have la := qa2.out.lt; have HB2 : Hid (Below w.heap.size w w2) := Below.trans (HB.out.setCell (by simp) _) (Below.mono' hb2 (by omega)); clear hb2))
    refine bodyPost_ret (v := .tuple #[.agg #[.slice none 0 0], .int .i64 (-1)]) (by simp [results, Try.results47, go_sem, *]) rfl ?_
    exact ⟨none, 0, rfl, Fr.nil_, fun _ => ⟨rfl, rfl⟩, by first | exact HB2.out.setCell (by simp) _ | exact HB2.out⟩
  · cases hp : inB p 0 4095
    · have e1 : touchOk zs p = false := by rw [HI.out, hp]; simp
      rw [tcF, tcT, if_neg (by simp [e1]), if_neg (by simp [e1])]
      go_enter Try.func47, Try.ntmps47
      go_wp2_with (first
        | (go_at_call 64; refine (ownCache_any A zs.length c zs _ hm (HR.out.below (Nat.le_refl _) (by go_grown))).mono ?_; rintro e w1 ⟨A1, c1, rfl, hf1, hA1, hb1⟩; have hs1 := hb1.size; simp only [World.size_alloc] at hs1 hf1; have qa : Hid (Blk w1 w.heap.size 50 #[.slice A zs.length c]) := Blk.below (w' := w1) (by repeat' (first | (refine Blk.at_ _ _ _ ?_; first | rfl | (simp; done)) | refine Blk.alloc ?_ _ | assumption)) (Nat.le_refl _) hb1; have qb : Hid (Blk w1 (w.heap.size + 1) 50 #[.slice none 0 0]) := Blk.below (w' := w1) (by repeat' (first | (refine Blk.at_ _ _ _ ?_; first | rfl | (simp; done)) | refine Blk.alloc ?_ _ | assumption)) (Nat.le_refl _) hb1; have ka_0 := qa.out.cell 0 rfl; have fa_0 := qa.out.frozen 0; have la := qa.out.lt; have HB := Lib.hid (Below.andThen (w := w) (by go_grown) hb1); have HF1 := Lib.hid hf1; have HA1 := Lib.hid hA1; clear hf1 hA1 hb1)
        | (go_at_call 39; refine (sCacheValid_any A1 zs.length c1 zs _ hm (HF1.out.setFar (by left; simp; omega) _).rd).mono ?_; rw [hv]; rintro e w2 ⟨rfl, hb2⟩; have hs2 := hb2.size; simp only [World.size_setCell] at hs2 hb2; have qa2 : Hid (Blk w2 w.heap.size 50 #[.slice A1 zs.length c1]) := Blk.below (w' := w2) (qa.out.set_ 0 _) (by simp) hb2; have qb2 : Hid (Blk w2 (w.heap.size + 1) 50 #[.slice none 0 0]) := Blk.below (w' := w2) (Blk.far qb.out (by simp) _) (by simp) hb2; have HF2 := Lib.hid (Fr.below (w' := w2) (HF1.out.setFar (by left; simp; omega) _) (by simp) hb2); have kb_0 := qb2.out.cell 0 rfl; have fb_0 := qb2.out.frozen 0; have lb := qb2.out.lt; have ka_0 := qa2.out.cell 0 rfl; have la := qa2.out.lt; have HB2 : Hid (Below w.heap.size w w2) := Below.trans (HB.out.setCell (by simp) _) (Below.mono' hb2 (by omega)); clear hb2)
        | (go_at_call 53; refine (l1In_any _ _ _ _).mono ?_; rw [hp]; rintro e w9 ⟨rfl, rfl⟩))
      refine bodyPost_ret (v := .tuple #[.agg #[.slice none 0 0], .int .i64 (-1)]) (by simp [results, Try.results47, go_sem, *]) rfl ?_
      exact ⟨none, 0, rfl, Fr.nil_, fun _ => ⟨rfl, rfl⟩, by first | exact HB2.out.setCell (by simp) _ | exact HB2.out⟩
    · have e1 : touchOk zs p = true := by rw [HI.out, hv, hp]; rfl
      rw [tcF, tcT, if_pos e1, if_pos e1]
      obtain ⟨hn1, hn16⟩ := cacheOk_le hv
      obtain ⟨h0, h1⟩ := inB_true.1 hp
      obtain ⟨b, hb, hb2, hl, hln⟩ := line_parts hn1 h0 h1
      obtain ⟨l, hl2⟩ : ∃ l, l = lineAt zs.length p := ⟨_, rfl⟩
      rw [← hl2] at hl hln
      have hk0 : ((zs.length : Nat) : Int) ≠ 0 := by omega
      obtain ⟨x, hxe⟩ : ∃ x, x = zs[l] := ⟨_, rfl⟩
      have hX : zs[l]? = some x := by rw [hxe]; exact List.getElem?_eq_getElem hln
      have HX := Lib.hid hX
      have HX2 : Hid ((ints zs)[l]? = some (.int .i64 x)) := by show (ints zs)[l]? = _; rw [ints_at, hX]; rfl
      have HL := Lib.hid hl2
      have HBb := Lib.hid hb
      clear hl2 hxe hX e1
      obtain ⟨F, hF⟩ : ∃ F, F = touchF zs p := ⟨_, rfl⟩
      obtain ⟨T, hT⟩ : ∃ T, T = touchT zs p := ⟨_, rfl⟩
      rw [← hF, ← hT]
      have HFl : Hid (F.length = zs.length) := by show _ = _; rw [hF, touchF_len]
      have HFF := Lib.hid hF
      have HTT := Lib.hid hT
      clear hF hT
      by_cases hxb : x = b
      · have e1 : T = 1 := by rw [HTT.out, touchT, ← HL.out, HX.out, HBb.out, if_pos (by rw [hxb])]
        have e2 : F = zs := by
          rw [HFF.out, touchF, ← HL.out, HBb.out, ← hxb]
          exact List.set_getElem?_self' HX.out
        rw [e1, e2]
        clear e1 e2 HFl HFF HTT
        clear F T
        subst hxb
        go_enter Try.func47, Try.ntmps47
        go_wp2_with (first
          | (go_at_call 64; refine (ownCache_any A zs.length c zs _ hm (HR.out.below (Nat.le_refl _) (by go_grown))).mono ?_; rintro e w1 ⟨A1, c1, rfl, hf1, hA1, hb1⟩; have hs1 := hb1.size; simp only [World.size_alloc] at hs1 hf1; have qa : Hid (Blk w1 w.heap.size 50 #[.slice A zs.length c]) := Blk.below (w' := w1) (by repeat' (first | (refine Blk.at_ _ _ _ ?_; first | rfl | (simp; done)) | refine Blk.alloc ?_ _ | assumption)) (Nat.le_refl _) hb1; have qb : Hid (Blk w1 (w.heap.size + 1) 50 #[.slice none 0 0]) := Blk.below (w' := w1) (by repeat' (first | (refine Blk.at_ _ _ _ ?_; first | rfl | (simp; done)) | refine Blk.alloc ?_ _ | assumption)) (Nat.le_refl _) hb1; have ka_0 := qa.out.cell 0 rfl; have fa_0 := qa.out.frozen 0; have la := qa.out.lt; have HB := Lib.hid (Below.andThen (w := w) (by go_grown) hb1); have HF1 := Lib.hid hf1; have HA1 := Lib.hid hA1; obtain ⟨g1, rfl, hlo1, hhi1, _⟩ := hf1.use hn1; clear hf1 hA1 hb1)
          | (go_at_call 39; refine (sCacheValid_any (some ⟨g1, 0, none⟩) zs.length c1 zs _ hm (HF1.out.setFar (by left; simp; omega) _).rd).mono ?_; rw [hv]; rintro e w2 ⟨rfl, hb2⟩; have hs2 := hb2.size; simp only [World.size_setCell] at hs2 hb2; have qa2 : Hid (Blk w2 w.heap.size 50 #[.slice (some ⟨g1, 0, none⟩) zs.length c1]) := Blk.below (w' := w2) (qa.out.set_ 0 _) (by simp) hb2; have qb2 : Hid (Blk w2 (w.heap.size + 1) 50 #[.slice none 0 0]) := Blk.below (w' := w2) (Blk.far qb.out (by simp) _) (by simp) hb2; have HF2 := Lib.hid (Fr.below (w' := w2) (HF1.out.setFar (by left; simp; omega) _) (by simp) hb2); have kb_0 := qb2.out.cell 0 rfl; have fb_0 := qb2.out.frozen 0; have lb := qb2.out.lt; have ka_0 := qa2.out.cell 0 rfl; have la := qa2.out.lt; have HB2 : Hid (Below w.heap.size w w2) := Below.trans (HB.out.setCell (by simp) _) (Below.mono' hb2 (by omega)); clear hb2)
          | (go_at_call 53; refine (l1In_any _ _ _ _).mono ?_; rw [hp]; rintro e w9 ⟨rfl, rfl⟩)
          | (at_builtin; skip; have HW := Lib.hid (own_lit w2 w2.heap.size rfl); refine wpList_append_rd _ rfl _ _ 22 rfl w2.heap.size 3 i0 (.int .i64 0) 1 8 Try.underlying22 hi hz0 hz1 hz2 rfl (by omega) _ 0 _ rfl HW.out (some ⟨g1, 0, none⟩) zs.length c1 (ints zs) rfl (HF2.out.rd.alloc _) (ints_one _) (by unfold maxLen; omega) (by omega) (by simp) ?_; intro v3 w3 ho3 hg3 hat3; clear hat3; have hb3 := below_own ((Below.refl w2.heap.size w2).alloc (Nat.le_refl _) _) HW.out (Nat.le_refl _) (by simp) hg3; rw [Nat.zero_add, ← ints_app, List.nil_append] at ho3; obtain ⟨A3, c3, rfl, hA3⟩ := own_parts ho3; have hs3 := hb3.size; have HO3 := Lib.hid (Fr.of_own ho3); obtain ⟨g3, rfl, hlo3, hhi3, hcell3, hfroz3, hset3⟩ := HO3.out.use hn1; have hy3 := hcell3 l _ HX2.out; have hfy3 := hfroz3 l; have HF3 := Lib.hid (HF2.out.below (Nat.le_refl _) hb3); obtain ⟨g4, hA4, _, _, hcell4, _, _⟩ := HF3.out.use hn1; injection hA4 with hA4; injection hA4 with hA4; subst hA4; have hx3 := hcell4 l _ HX2.out; have qa3 := Lib.hid (qa2.out.below (Nat.le_refl _) hb3); have qb3 := Lib.hid (qb2.out.below (Nat.le_refl _) hb3); clear ka_0 la kb_0 fb_0 lb; have ka_0 := qa3.out.cell 0 rfl; have la := qa3.out.lt; have kb_0 := qb3.out.cell 0 rfl; have fb_0 := qb3.out.frozen 0; have lb := qb3.out.lt; have HB3 := Lib.hid (Below.trans HB2.out (Below.mono' hb3 (by omega))); have hg1lt : g1 < w3.heap.size := (by omega); clear ho3 hg3 hb3 hA3 hcell3 hfroz3 hset3 hcell4))
        go_region
        go_wp2
        refine bodyPost_ret (v := .tuple #[.agg #[.slice (some ⟨g3, 0, none⟩) zs.length c3], .int .i64 1]) (by simp [results, Try.results47, go_sem, *]) rfl ?_
        refine ⟨_, c3, rfl, ?_, (fun h => by cases h), ?_⟩
        · refine Fr.wide (lo := w2.heap.size) (hi := w3.heap.size) ?_ (by omega) (by simp)
          exact ((HO3.out.setFar (by left; simp; omega) _).alloc _).drew
        · exact ((HB3.out.setCell (by simp) _).alloc (by simp; omega) _).drew
      · have e1 : T = 8 := by rw [HTT.out, touchT, ← HL.out, HX.out, HBb.out, if_neg (by simpa using hxb)]
        have e2 : Hid (ints F = (ints zs).set l (.int .i64 (b : Int))) := by show ints F = _; rw [HFF.out, touchF, ← HL.out, HBb.out, ints_set]
        have hd : (x == (b : Int)) = false := by simp [hxb]
        rw [e1]
        clear e1 HTT
        go_enter Try.func47, Try.ntmps47
        go_wp2_with (first
          | (go_at_call 64; refine (ownCache_any A zs.length c zs _ hm (HR.out.below (Nat.le_refl _) (by go_grown))).mono ?_; rintro e w1 ⟨A1, c1, rfl, hf1, hA1, hb1⟩; have hs1 := hb1.size; simp only [World.size_alloc] at hs1 hf1; have qa : Hid (Blk w1 w.heap.size 50 #[.slice A zs.length c]) := Blk.below (w' := w1) (by repeat' (first | (refine Blk.at_ _ _ _ ?_; first | rfl | (simp; done)) | refine Blk.alloc ?_ _ | assumption)) (Nat.le_refl _) hb1; have qb : Hid (Blk w1 (w.heap.size + 1) 50 #[.slice none 0 0]) := Blk.below (w' := w1) (by repeat' (first | (refine Blk.at_ _ _ _ ?_; first | rfl | (simp; done)) | refine Blk.alloc ?_ _ | assumption)) (Nat.le_refl _) hb1; have ka_0 := qa.out.cell 0 rfl; have fa_0 := qa.out.frozen 0; have la := qa.out.lt; have HB := Lib.hid (Below.andThen (w := w) (by go_grown) hb1); have HF1 := Lib.hid hf1; have HA1 := Lib.hid hA1; obtain ⟨g1, rfl, hlo1, hhi1, _⟩ := hf1.use hn1; clear hf1 hA1 hb1)
          | (go_at_call 39; refine (sCacheValid_any (some ⟨g1, 0, none⟩) zs.length c1 zs _ hm (HF1.out.setFar (by left; simp; omega) _).rd).mono ?_; rw [hv]; rintro e w2 ⟨rfl, hb2⟩; have hs2 := hb2.size; simp only [World.size_setCell] at hs2 hb2; have qa2 : Hid (Blk w2 w.heap.size 50 #[.slice (some ⟨g1, 0, none⟩) zs.length c1]) := Blk.below (w' := w2) (qa.out.set_ 0 _) (by simp) hb2; have qb2 : Hid (Blk w2 (w.heap.size + 1) 50 #[.slice none 0 0]) := Blk.below (w' := w2) (Blk.far qb.out (by simp) _) (by simp) hb2; have HF2 := Lib.hid (Fr.below (w' := w2) (HF1.out.setFar (by left; simp; omega) _) (by simp) hb2); have kb_0 := qb2.out.cell 0 rfl; have fb_0 := qb2.out.frozen 0; have lb := qb2.out.lt; have ka_0 := qa2.out.cell 0 rfl; have la := qa2.out.lt; have HB2 : Hid (Below w.heap.size w w2) := Below.trans (HB.out.setCell (by simp) _) (Below.mono' hb2 (by omega)); clear hb2)
          | (go_at_call 53; refine (l1In_any _ _ _ _).mono ?_; rw [hp]; rintro e w9 ⟨rfl, rfl⟩)
          | (at_builtin; skip; have HW := Lib.hid (own_lit w2 w2.heap.size rfl); refine wpList_append_rd _ rfl _ _ 22 rfl w2.heap.size 3 i0 (.int .i64 0) 1 8 Try.underlying22 hi hz0 hz1 hz2 rfl (by omega) _ 0 _ rfl HW.out (some ⟨g1, 0, none⟩) zs.length c1 (ints zs) rfl (HF2.out.rd.alloc _) (ints_one _) (by unfold maxLen; omega) (by omega) (by simp) ?_; intro v3 w3 ho3 hg3 hat3; clear hat3; have hb3 := below_own ((Below.refl w2.heap.size w2).alloc (Nat.le_refl _) _) HW.out (Nat.le_refl _) (by simp) hg3; rw [Nat.zero_add, ← ints_app, List.nil_append] at ho3; obtain ⟨A3, c3, rfl, hA3⟩ := own_parts ho3; have hs3 := hb3.size; have HO3 := Lib.hid (Fr.of_own ho3); obtain ⟨g3, rfl, hlo3, hhi3, hcell3, hfroz3, hset3⟩ := HO3.out.use hn1; have hy3 := hcell3 l _ HX2.out; have hfy3 := hfroz3 l; have HF3 := Lib.hid (HF2.out.below (Nat.le_refl _) hb3); obtain ⟨g4, hA4, _, _, hcell4, _, _⟩ := HF3.out.use hn1; injection hA4 with hA4; injection hA4 with hA4; subst hA4; have hx3 := hcell4 l _ HX2.out; have qa3 := Lib.hid (qa2.out.below (Nat.le_refl _) hb3); have qb3 := Lib.hid (qb2.out.below (Nat.le_refl _) hb3); clear ka_0 la kb_0 fb_0 lb; have ka_0 := qa3.out.cell 0 rfl; have la := qa3.out.lt; have kb_0 := qb3.out.cell 0 rfl; have fb_0 := qb3.out.frozen 0; have lb := qb3.out.lt; have HB3 := Lib.hid (Below.trans HB2.out (Below.mono' hb3 (by omega))); have hg1lt : g1 < w3.heap.size := (by omega); clear ho3 hg3 hb3 hA3 hcell3 hfroz3 hset3 hcell4))
        go_region
        go_wp2
        go_region
        go_wp2
        refine bodyPost_ret (v := .tuple #[.agg #[.slice (some ⟨g3, 0, none⟩) zs.length c3], .int .i64 8]) (by simp [results, Try.results47, go_sem, *]) rfl ?_
        refine ⟨some ⟨g3, 0, none⟩, c3, by rw [HFl.out], ?_, (fun h => by cases h), ?_⟩
        · rw [HFl.out, e2.out]
          obtain ⟨g5, hA5, _, _, _, _, hset5⟩ := HO3.out.use hn1
          injection hA5 with hA5
          injection hA5 with hA5
          subst hA5
          have hS := hset5 l (.int .i64 (b : Int))
          refine Fr.wide (lo := w2.heap.size) (hi := w3.heap.size) ?_ (by omega) (by simp)
          exact ((hS.setFar (by left; simp; omega) _).alloc _).drew.drew
        · exact (((HB3.out.setCell (by simp; omega) _).setCell (by simp) _).alloc (by simp; omega) _).drew.drew
end Go.Proofs.Ytfdcneijcckolaa
