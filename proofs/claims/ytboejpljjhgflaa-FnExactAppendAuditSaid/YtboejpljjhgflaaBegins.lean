/-
  CONTRACTS of AuditBegins.
  Conditions: none beyond those that each states.
-/
import Derived.Test.YtboejpljjhgflaaAudit
import Derived.Test.YtboejpljjhgflaaSlices
import Derived.Test.YtboejpljjhgflaaKeep
import Derived.Deep.RegionHeld3
namespace Go.Proofs.Ytboejpljjhgflaa
open Go.ChangeShapes Go.WideShapes Go.ChangeAt Go.RowKit Go.Joins
set_option linter.unusedVariables false

def beginsB (k1 : Int) (zs1 : List Int) (s1 : Int) (k2 : Int) (zs2 : List Int) (s2 : Int) : Bool :=
  auditOk k1 zs1 s1 && (auditOk k2 zs2 s2 && (decide (k1 = k2) && (decide (zs2.length ≤ zs1.length) && decide (zs1.take zs2.length = zs2))))
theorem sAuditValid_is {key : Int} {A : Option Addr} {n c : Nat} {zs : List Int} {sum : Int} {b : Bool} (h : auditOk key zs sum = b) (w : World) (hm : n ≤ 1048577) (hr : Rd w 1 A n (ints zs)) :
    Calls Try.prog 21 #[.agg #[.int .i64 key, .slice A n c, .int .i64 sum]] w fun e w' => e = .returned (.bool b) ∧ Below w.heap.size w w' := h ▸ sAuditValid_any key A n c zs sum w hm hr
theorem iAuditValid_is {key : Int} {A : Option Addr} {n c : Nat} {zs : List Int} {sum : Int} {b : Bool} (h : auditOk key zs sum = b) (w : World) (hm : n ≤ 1048577) (hr : Rd w 1 A n (ints zs)) :
    Calls Try.prog 23 #[.agg #[.int .i64 key, .slice A n c, .int .i64 sum]] w fun e w' => e = .returned (.bool b) ∧ Below w.heap.size w w' := h ▸ iAuditValid_any key A n c zs sum w hm hr
theorem auditOk_len {key : Int} {zs : List Int} {sum : Int} (h : auditOk key zs sum = true) : zs.length ≤ 60 := by
  unfold auditOk at h
  rw [Bool.and_eq_true, decide_eq_true_eq] at h
  exact h.1
theorem auditOk_key {key : Int} {zs : List Int} {sum : Int} (h : auditOk key zs sum = true) : inB key 0 1048572 = true := by
  unfold auditOk at h
  rw [Bool.and_eq_true, Bool.and_eq_true] at h
  exact h.2.1
theorem auditOk_sum {key : Int} {zs : List Int} {sum : Int} (h : auditOk key zs sum = true) : sum = mixAll key zs := by
  unfold auditOk at h
  rw [Bool.and_eq_true, Bool.and_eq_true, decide_eq_true_eq, decide_eq_true_eq] at h
  exact h.2.2

set_option maxRecDepth 100000 in
set_option maxHeartbeats 4000000 in
theorem sAuditBegins_any (k1 : Int) (A1 : Option Addr) (n1 c1 : Nat) (zs1 : List Int) (s1 : Int) (k2 : Int) (A2 : Option Addr) (n2 c2 : Nat) (zs2 : List Int) (s2 : Int) (w : World) (hm1 : n1 ≤ 1048576) (hr1 : Rd w 1 A1 n1 (ints zs1)) (hm2 : n2 ≤ 1048576) (hr2 : Rd w 1 A2 n2 (ints zs2)) :
    Calls Try.prog 7 #[.agg #[.int .i64 k1, .slice A1 n1 c1, .int .i64 s1], .agg #[.int .i64 k2, .slice A2 n2 c2, .int .i64 s2]] w fun e w' => e = .returned (.bool (beginsB k1 zs1 s1 k2 zs2 s2)) ∧ Below w.heap.size w w' := by
  have HR1 := Lib.hid hr1
  have HR2 := Lib.hid hr2
  have hl1 := Lib.hid hr1.len
  have hl2 := Lib.hid hr2.len
  clear hr1 hr2
  have HV : Hid (beginsB k1 zs1 s1 k2 zs2 s2 = (auditOk k1 zs1 s1 && (auditOk k2 zs2 s2 && (decide (k1 = k2) && (decide (zs2.length ≤ zs1.length) && decide (zs1.take zs2.length = zs2)))))) := rfl
  cases h1 : auditOk k1 zs1 s1
  · skip
    have e1 : beginsB k1 zs1 s1 k2 zs2 s2 = false := by rw [HV.out, h1]; rfl
    rw [e1]; clear e1
    go_enter Try.func7, Try.ntmps7
    go_wp2_with fail
    refine (sAuditValid_is h1 _ (by omega) (HR1.out.below (Nat.le_refl _) (by go_grown))).mono ?_
    rintro e w1 ⟨rfl, hb1⟩
    have hT1 : Below w.heap.size w w1 := Below.andThen (by go_grown) hb1
    have hS1 := hT1.size
    have HB1 : Hid (Below w.heap.size w w1) := hT1
    have qa : Hid (Blk w1 (w.heap.size) 27 #[.int .i64 k1, .slice A1 n1 c1, .int .i64 s1]) := Blk.below (w' := w1) (by first | ((repeat' (first | (refine Blk.at_ _ _ _ ?_; first | rfl | (simp; done)) | refine Blk.alloc ?_ _ | refine Blk.drewN ?_ _ | assumption)); done) | (refine Blk.drew ?_; (repeat' (first | (refine Blk.at_ _ _ _ ?_; first | rfl | (simp; done)) | refine Blk.alloc ?_ _ | refine Blk.drewN ?_ _ | assumption)); done)) (Nat.le_refl _) hb1
    have qb : Hid (Blk w1 (w.heap.size + 1) 27 #[.int .i64 k2, .slice A2 n2 c2, .int .i64 s2]) := Blk.below (w' := w1) (by first | ((repeat' (first | (refine Blk.at_ _ _ _ ?_; first | rfl | (simp; done)) | refine Blk.alloc ?_ _ | refine Blk.drewN ?_ _ | assumption)); done) | (refine Blk.drew ?_; (repeat' (first | (refine Blk.at_ _ _ _ ?_; first | rfl | (simp; done)) | refine Blk.alloc ?_ _ | refine Blk.drewN ?_ _ | assumption)); done)) (Nat.le_refl _) hb1
    have hSb1 : w.heap.size + 1 + 1 ≤ w1.heap.size := (by have := hb1.size; simpa using this)
    have ka_0 := qa.out.cell 0 rfl
    have ka_1 := qa.out.cell 1 rfl
    have ka_2 := qa.out.cell 2 rfl
    have fa_0 := qa.out.frozen 0
    have fa_1 := qa.out.frozen 1
    have fa_2 := qa.out.frozen 2
    have la := qa.out.lt
    have kb_0 := qb.out.cell 0 rfl
    have kb_1 := qb.out.cell 1 rfl
    have kb_2 := qb.out.cell 2 rfl
    have fb_0 := qb.out.frozen 0
    have fb_1 := qb.out.frozen 1
    have fb_2 := qb.out.frozen 2
    have lb := qb.out.lt
    clear hb1 hT1
    go_wp2
    go_ret
    exact ⟨rfl, HB1.out⟩
  · cases h2 : auditOk k2 zs2 s2
    · skip
      have e1 : beginsB k1 zs1 s1 k2 zs2 s2 = false := by rw [HV.out, h1, h2]; rfl
      rw [e1]; clear e1
      go_enter Try.func7, Try.ntmps7
      go_wp2_with fail
      refine (sAuditValid_is h1 _ (by omega) (HR1.out.below (Nat.le_refl _) (by go_grown))).mono ?_
      rintro e w1 ⟨rfl, hb1⟩
      have hT1 : Below w.heap.size w w1 := Below.andThen (by go_grown) hb1
      have hS1 := hT1.size
      have HB1 : Hid (Below w.heap.size w w1) := hT1
      have qa : Hid (Blk w1 (w.heap.size) 27 #[.int .i64 k1, .slice A1 n1 c1, .int .i64 s1]) := Blk.below (w' := w1) (by first | ((repeat' (first | (refine Blk.at_ _ _ _ ?_; first | rfl | (simp; done)) | refine Blk.alloc ?_ _ | refine Blk.drewN ?_ _ | assumption)); done) | (refine Blk.drew ?_; (repeat' (first | (refine Blk.at_ _ _ _ ?_; first | rfl | (simp; done)) | refine Blk.alloc ?_ _ | refine Blk.drewN ?_ _ | assumption)); done)) (Nat.le_refl _) hb1
      have qb : Hid (Blk w1 (w.heap.size + 1) 27 #[.int .i64 k2, .slice A2 n2 c2, .int .i64 s2]) := Blk.below (w' := w1) (by first | ((repeat' (first | (refine Blk.at_ _ _ _ ?_; first | rfl | (simp; done)) | refine Blk.alloc ?_ _ | refine Blk.drewN ?_ _ | assumption)); done) | (refine Blk.drew ?_; (repeat' (first | (refine Blk.at_ _ _ _ ?_; first | rfl | (simp; done)) | refine Blk.alloc ?_ _ | refine Blk.drewN ?_ _ | assumption)); done)) (Nat.le_refl _) hb1
      have hSb1 : w.heap.size + 1 + 1 ≤ w1.heap.size := (by have := hb1.size; simpa using this)
      have ka_0 := qa.out.cell 0 rfl
      have ka_1 := qa.out.cell 1 rfl
      have ka_2 := qa.out.cell 2 rfl
      have fa_0 := qa.out.frozen 0
      have fa_1 := qa.out.frozen 1
      have fa_2 := qa.out.frozen 2
      have la := qa.out.lt
      have kb_0 := qb.out.cell 0 rfl
      have kb_1 := qb.out.cell 1 rfl
      have kb_2 := qb.out.cell 2 rfl
      have fb_0 := qb.out.frozen 0
      have fb_1 := qb.out.frozen 1
      have fb_2 := qb.out.frozen 2
      have lb := qb.out.lt
      clear hb1 hT1
      go_wp2_with fail
      refine (sAuditValid_is h2 _ (by omega) (HR2.out.below (Nat.le_refl _) (by first | exact HB1.out | go_grown | exact Below.andThen HB1.out (by go_grown)))).mono ?_
      rintro e w2 ⟨rfl, hb2⟩
      clear la ka_0 ka_1 ka_2 fa_0 fa_1 fa_2 lb kb_0 kb_1 kb_2 fb_0 fb_1 fb_2
      have hT2 : Below w1.heap.size w1 w2 := Below.andThen (by go_grown) hb2
      have hS2 := hT2.size
      have HB2 : Hid (Below w.heap.size w w2) := Below.andThen HB1.out hT2
      have qa := Lib.hid (qa.out.below (Nat.le_refl _) hT2)
      have qb := Lib.hid (qb.out.below (Nat.le_refl _) hT2)
      have ka_0 := qa.out.cell 0 rfl
      have ka_1 := qa.out.cell 1 rfl
      have ka_2 := qa.out.cell 2 rfl
      have fa_0 := qa.out.frozen 0
      have fa_1 := qa.out.frozen 1
      have fa_2 := qa.out.frozen 2
      have la := qa.out.lt
      have kb_0 := qb.out.cell 0 rfl
      have kb_1 := qb.out.cell 1 rfl
      have kb_2 := qb.out.cell 2 rfl
      have fb_0 := qb.out.frozen 0
      have fb_1 := qb.out.frozen 1
      have fb_2 := qb.out.frozen 2
      have lb := qb.out.lt
      clear hb2 hT2
      go_wp2
      go_ret
      exact ⟨rfl, HB2.out⟩
    · by_cases hk : k1 = k2
      · subst hk
        by_cases hn : n2 ≤ n1
        · have hI : ¬ ((n1 : Int) < (n2 : Int)) := by omega
          have h60 := auditOk_len h2
          rw [hl2.out] at h60
          have e1 : beginsB k1 zs1 s1 k1 zs2 s2 = decide (zs1.take n2 = zs2) := by rw [HV.out, h1, h2, hl1.out, hl2.out, decide_eq_true hn]; simp
          rw [e1]; clear e1 HV
          go_enter Try.func7, Try.ntmps7
          go_wp2_with fail
          refine (sAuditValid_is h1 _ (by omega) (HR1.out.below (Nat.le_refl _) (by go_grown))).mono ?_
          rintro e w1 ⟨rfl, hb1⟩
          have hT1 : Below w.heap.size w w1 := Below.andThen (by go_grown) hb1
          have hS1 := hT1.size
          have HB1 : Hid (Below w.heap.size w w1) := hT1
          have qa : Hid (Blk w1 (w.heap.size) 27 #[.int .i64 k1, .slice A1 n1 c1, .int .i64 s1]) := Blk.below (w' := w1) (by first | ((repeat' (first | (refine Blk.at_ _ _ _ ?_; first | rfl | (simp; done)) | refine Blk.alloc ?_ _ | refine Blk.drewN ?_ _ | assumption)); done) | (refine Blk.drew ?_; (repeat' (first | (refine Blk.at_ _ _ _ ?_; first | rfl | (simp; done)) | refine Blk.alloc ?_ _ | refine Blk.drewN ?_ _ | assumption)); done)) (Nat.le_refl _) hb1
          have qb : Hid (Blk w1 (w.heap.size + 1) 27 #[.int .i64 k1, .slice A2 n2 c2, .int .i64 s2]) := Blk.below (w' := w1) (by first | ((repeat' (first | (refine Blk.at_ _ _ _ ?_; first | rfl | (simp; done)) | refine Blk.alloc ?_ _ | refine Blk.drewN ?_ _ | assumption)); done) | (refine Blk.drew ?_; (repeat' (first | (refine Blk.at_ _ _ _ ?_; first | rfl | (simp; done)) | refine Blk.alloc ?_ _ | refine Blk.drewN ?_ _ | assumption)); done)) (Nat.le_refl _) hb1
          have hSb1 : w.heap.size + 1 + 1 ≤ w1.heap.size := (by have := hb1.size; simpa using this)
          have ka_0 := qa.out.cell 0 rfl
          have ka_1 := qa.out.cell 1 rfl
          have ka_2 := qa.out.cell 2 rfl
          have fa_0 := qa.out.frozen 0
          have fa_1 := qa.out.frozen 1
          have fa_2 := qa.out.frozen 2
          have la := qa.out.lt
          have kb_0 := qb.out.cell 0 rfl
          have kb_1 := qb.out.cell 1 rfl
          have kb_2 := qb.out.cell 2 rfl
          have fb_0 := qb.out.frozen 0
          have fb_1 := qb.out.frozen 1
          have fb_2 := qb.out.frozen 2
          have lb := qb.out.lt
          clear hb1 hT1
          go_wp2_with fail
          refine (sAuditValid_is h2 _ (by omega) (HR2.out.below (Nat.le_refl _) (by first | exact HB1.out | go_grown | exact Below.andThen HB1.out (by go_grown)))).mono ?_
          rintro e w2 ⟨rfl, hb2⟩
          clear la ka_0 ka_1 ka_2 fa_0 fa_1 fa_2 lb kb_0 kb_1 kb_2 fb_0 fb_1 fb_2
          have hT2 : Below w1.heap.size w1 w2 := Below.andThen (by go_grown) hb2
          have hS2 := hT2.size
          have HB2 : Hid (Below w.heap.size w w2) := Below.andThen HB1.out hT2
          have qa := Lib.hid (qa.out.below (Nat.le_refl _) hT2)
          have qb := Lib.hid (qb.out.below (Nat.le_refl _) hT2)
          have ka_0 := qa.out.cell 0 rfl
          have ka_1 := qa.out.cell 1 rfl
          have ka_2 := qa.out.cell 2 rfl
          have fa_0 := qa.out.frozen 0
          have fa_1 := qa.out.frozen 1
          have fa_2 := qa.out.frozen 2
          have la := qa.out.lt
          have kb_0 := qb.out.cell 0 rfl
          have kb_1 := qb.out.cell 1 rfl
          have kb_2 := qb.out.cell 2 rfl
          have fb_0 := qb.out.frozen 0
          have fb_1 := qb.out.frozen 1
          have fb_2 := qb.out.frozen 2
          have lb := qb.out.lt
          clear hb2 hT2
          go_wp2
          go_loopw [5] (fun i wr => ∃ (k : Nat), k ≤ n2 ∧ i = .int .i64 k ∧ Hid (zs1.take k = zs2.take k) ∧ Hid (Below w2.heap.size w2 wr)) (fun i _ => n2 - (intOf i).toNat)
          case atStart => exact ⟨0, Nat.zero_le _, rfl, by show zs1.take 0 = _; simp, Below.refl _ _⟩
          case round =>
            obtain ⟨k, hk, rfl, HT, HBr⟩ := hrel
            clear la lb ka_0 ka_1 ka_2 fa_0 fa_1 fa_2 kb_0 kb_1 kb_2 fb_0 fb_1 fb_2
            have qa' := Lib.hid (qa.out.below (Nat.le_refl _) HBr.out)
            have qb' := Lib.hid (qb.out.below (Nat.le_refl _) HBr.out)
            have ka_1 := qa'.out.cell 1 rfl
            have kb_1 := qb'.out.cell 1 rfl
            have HBw := Lib.hid (Below.andThen HB2.out HBr.out)
            by_cases hlt : k < n2
            · have hlt1 : k < n1 := by omega
              obtain ⟨b, o, x, rfl, hbl, hx, hc⟩ := HR1.out.int_ hlt1
              obtain ⟨b', o', y, rfl, hbl', hy, hc'⟩ := HR2.out.int_ hlt
              have hc1 := (HBw.out.cell (p := ⟨b, o + k, none⟩) hbl).trans hc
              have hc2 := (HBw.out.cell (p := ⟨b', o' + k, none⟩) hbl').trans hc'
              have HX := Lib.hid hx
              have HY := Lib.hid hy
              clear hx hy hc hc'
              by_cases hv : x = y
              · subst hv
                go_wp2
                go_quiet (fail)
                go_wp2
                go_roundw
                case rel => exact ⟨k + 1, by omega, by go_num, by show zs1.take (k + 1) = _; rw [take_snoc HX.out, take_snoc HY.out, HT.out], below_drewN HBr.out _⟩
                case measure => simp [intOf]; omega
              · have hd : (y == x) = false := by simp; exact fun h => hv h.symm
                go_wp2
                go_quiet (fail)
                go_wp2
                go_ret
                refine ⟨?_, below_drewN HBw.out _⟩
                have : zs1.take n2 ≠ zs2 := by
                  intro h
                  have h3 : (zs1.take n2)[k]? = zs2[k]? := by rw [h]
                  rw [List.getElem?_take, if_pos hlt, HX.out, HY.out] at h3
                  exact hv (by simpa using h3)
                simp [this]
            · have hkn : k = n2 := by omega
              have e : zs1.take n2 = zs2 := by
                have := HT.out
                rwa [hkn, List.take_of_length_le (l := zs2) (by rw [hl2.out]; exact Nat.le_refl _)] at this
              go_wp2
              go_ret
              exact ⟨by simp [e], HBw.out⟩
        · have hI : ((n1 : Int) < (n2 : Int)) := by omega
          have e1 : beginsB k1 zs1 s1 k1 zs2 s2 = false := by rw [HV.out, h1, h2, hl1.out, hl2.out, decide_eq_false hn]; simp
          rw [e1]; clear e1
          go_enter Try.func7, Try.ntmps7
          go_wp2_with fail
          refine (sAuditValid_is h1 _ (by omega) (HR1.out.below (Nat.le_refl _) (by go_grown))).mono ?_
          rintro e w1 ⟨rfl, hb1⟩
          have hT1 : Below w.heap.size w w1 := Below.andThen (by go_grown) hb1
          have hS1 := hT1.size
          have HB1 : Hid (Below w.heap.size w w1) := hT1
          have qa : Hid (Blk w1 (w.heap.size) 27 #[.int .i64 k1, .slice A1 n1 c1, .int .i64 s1]) := Blk.below (w' := w1) (by first | ((repeat' (first | (refine Blk.at_ _ _ _ ?_; first | rfl | (simp; done)) | refine Blk.alloc ?_ _ | refine Blk.drewN ?_ _ | assumption)); done) | (refine Blk.drew ?_; (repeat' (first | (refine Blk.at_ _ _ _ ?_; first | rfl | (simp; done)) | refine Blk.alloc ?_ _ | refine Blk.drewN ?_ _ | assumption)); done)) (Nat.le_refl _) hb1
          have qb : Hid (Blk w1 (w.heap.size + 1) 27 #[.int .i64 k1, .slice A2 n2 c2, .int .i64 s2]) := Blk.below (w' := w1) (by first | ((repeat' (first | (refine Blk.at_ _ _ _ ?_; first | rfl | (simp; done)) | refine Blk.alloc ?_ _ | refine Blk.drewN ?_ _ | assumption)); done) | (refine Blk.drew ?_; (repeat' (first | (refine Blk.at_ _ _ _ ?_; first | rfl | (simp; done)) | refine Blk.alloc ?_ _ | refine Blk.drewN ?_ _ | assumption)); done)) (Nat.le_refl _) hb1
          have hSb1 : w.heap.size + 1 + 1 ≤ w1.heap.size := (by have := hb1.size; simpa using this)
          have ka_0 := qa.out.cell 0 rfl
          have ka_1 := qa.out.cell 1 rfl
          have ka_2 := qa.out.cell 2 rfl
          have fa_0 := qa.out.frozen 0
          have fa_1 := qa.out.frozen 1
          have fa_2 := qa.out.frozen 2
          have la := qa.out.lt
          have kb_0 := qb.out.cell 0 rfl
          have kb_1 := qb.out.cell 1 rfl
          have kb_2 := qb.out.cell 2 rfl
          have fb_0 := qb.out.frozen 0
          have fb_1 := qb.out.frozen 1
          have fb_2 := qb.out.frozen 2
          have lb := qb.out.lt
          clear hb1 hT1
          go_wp2_with fail
          refine (sAuditValid_is h2 _ (by omega) (HR2.out.below (Nat.le_refl _) (by first | exact HB1.out | go_grown | exact Below.andThen HB1.out (by go_grown)))).mono ?_
          rintro e w2 ⟨rfl, hb2⟩
          clear la ka_0 ka_1 ka_2 fa_0 fa_1 fa_2 lb kb_0 kb_1 kb_2 fb_0 fb_1 fb_2
          have hT2 : Below w1.heap.size w1 w2 := Below.andThen (by go_grown) hb2
          have hS2 := hT2.size
          have HB2 : Hid (Below w.heap.size w w2) := Below.andThen HB1.out hT2
          have qa := Lib.hid (qa.out.below (Nat.le_refl _) hT2)
          have qb := Lib.hid (qb.out.below (Nat.le_refl _) hT2)
          have ka_0 := qa.out.cell 0 rfl
          have ka_1 := qa.out.cell 1 rfl
          have ka_2 := qa.out.cell 2 rfl
          have fa_0 := qa.out.frozen 0
          have fa_1 := qa.out.frozen 1
          have fa_2 := qa.out.frozen 2
          have la := qa.out.lt
          have kb_0 := qb.out.cell 0 rfl
          have kb_1 := qb.out.cell 1 rfl
          have kb_2 := qb.out.cell 2 rfl
          have fb_0 := qb.out.frozen 0
          have fb_1 := qb.out.frozen 1
          have fb_2 := qb.out.frozen 2
          have lb := qb.out.lt
          clear hb2 hT2
          go_wp2
          go_ret
          exact ⟨rfl, HB2.out⟩
      · have hd : (k1 != k2) = true := by simpa using hk
        have e1 : beginsB k1 zs1 s1 k2 zs2 s2 = false := by rw [HV.out, decide_eq_false hk]; simp
        rw [e1]; clear e1
        go_enter Try.func7, Try.ntmps7
        go_wp2_with fail
        refine (sAuditValid_is h1 _ (by omega) (HR1.out.below (Nat.le_refl _) (by go_grown))).mono ?_
        rintro e w1 ⟨rfl, hb1⟩
        have hT1 : Below w.heap.size w w1 := Below.andThen (by go_grown) hb1
        have hS1 := hT1.size
        have HB1 : Hid (Below w.heap.size w w1) := hT1
        have qa : Hid (Blk w1 (w.heap.size) 27 #[.int .i64 k1, .slice A1 n1 c1, .int .i64 s1]) := Blk.below (w' := w1) (by first | ((repeat' (first | (refine Blk.at_ _ _ _ ?_; first | rfl | (simp; done)) | refine Blk.alloc ?_ _ | refine Blk.drewN ?_ _ | assumption)); done) | (refine Blk.drew ?_; (repeat' (first | (refine Blk.at_ _ _ _ ?_; first | rfl | (simp; done)) | refine Blk.alloc ?_ _ | refine Blk.drewN ?_ _ | assumption)); done)) (Nat.le_refl _) hb1
        have qb : Hid (Blk w1 (w.heap.size + 1) 27 #[.int .i64 k2, .slice A2 n2 c2, .int .i64 s2]) := Blk.below (w' := w1) (by first | ((repeat' (first | (refine Blk.at_ _ _ _ ?_; first | rfl | (simp; done)) | refine Blk.alloc ?_ _ | refine Blk.drewN ?_ _ | assumption)); done) | (refine Blk.drew ?_; (repeat' (first | (refine Blk.at_ _ _ _ ?_; first | rfl | (simp; done)) | refine Blk.alloc ?_ _ | refine Blk.drewN ?_ _ | assumption)); done)) (Nat.le_refl _) hb1
        have hSb1 : w.heap.size + 1 + 1 ≤ w1.heap.size := (by have := hb1.size; simpa using this)
        have ka_0 := qa.out.cell 0 rfl
        have ka_1 := qa.out.cell 1 rfl
        have ka_2 := qa.out.cell 2 rfl
        have fa_0 := qa.out.frozen 0
        have fa_1 := qa.out.frozen 1
        have fa_2 := qa.out.frozen 2
        have la := qa.out.lt
        have kb_0 := qb.out.cell 0 rfl
        have kb_1 := qb.out.cell 1 rfl
        have kb_2 := qb.out.cell 2 rfl
        have fb_0 := qb.out.frozen 0
        have fb_1 := qb.out.frozen 1
        have fb_2 := qb.out.frozen 2
        have lb := qb.out.lt
        clear hb1 hT1
        go_wp2_with fail
        refine (sAuditValid_is h2 _ (by omega) (HR2.out.below (Nat.le_refl _) (by first | exact HB1.out | go_grown | exact Below.andThen HB1.out (by go_grown)))).mono ?_
        rintro e w2 ⟨rfl, hb2⟩
        clear la ka_0 ka_1 ka_2 fa_0 fa_1 fa_2 lb kb_0 kb_1 kb_2 fb_0 fb_1 fb_2
        have hT2 : Below w1.heap.size w1 w2 := Below.andThen (by go_grown) hb2
        have hS2 := hT2.size
        have HB2 : Hid (Below w.heap.size w w2) := Below.andThen HB1.out hT2
        have qa := Lib.hid (qa.out.below (Nat.le_refl _) hT2)
        have qb := Lib.hid (qb.out.below (Nat.le_refl _) hT2)
        have ka_0 := qa.out.cell 0 rfl
        have ka_1 := qa.out.cell 1 rfl
        have ka_2 := qa.out.cell 2 rfl
        have fa_0 := qa.out.frozen 0
        have fa_1 := qa.out.frozen 1
        have fa_2 := qa.out.frozen 2
        have la := qa.out.lt
        have kb_0 := qb.out.cell 0 rfl
        have kb_1 := qb.out.cell 1 rfl
        have kb_2 := qb.out.cell 2 rfl
        have fb_0 := qb.out.frozen 0
        have fb_1 := qb.out.frozen 1
        have fb_2 := qb.out.frozen 2
        have lb := qb.out.lt
        clear hb2 hT2
        go_wp2
        go_ret
        exact ⟨rfl, HB2.out⟩
theorem Rd.pre {w : World} {A : Option Addr} {n k : Nat} {zs : List Int} (h : Rd w 1 A n (ints zs)) (hk : k ≤ n) : Rd w 1 A k (ints (zs.take k)) := by
  have hl := h.len
  refine ⟨by simp [ints]; omega, fun h0 => ?_⟩
  obtain ⟨b, o, e, hb, hc⟩ := h.2 (by omega)
  refine ⟨b, o, e, hb, fun j u hu => hc j u ?_⟩
  rw [ints, List.map_take, List.getElem?_take] at hu
  split at hu
  · exact hu
  · cases hu
theorem EqualI_is {A B : Option Addr} {n m c d : Nat} {xs ys : List Int} {b : Bool} (h : decide (xs = ys) = b) (w : World) (hn : n ≤ 1048577) (hrx : Rd w 1 A n (ints xs)) (hry : Rd w 1 B m (ints ys)) :
    Calls Try.prog 24 #[.slice A n c, .slice B m d] w fun e w' => e = .returned (.bool b) ∧ Below w.heap.size w w' := h ▸ EqualI_any A B n m c d xs ys w hn hrx hry
end Go.Proofs.Ytboejpljjhgflaa
