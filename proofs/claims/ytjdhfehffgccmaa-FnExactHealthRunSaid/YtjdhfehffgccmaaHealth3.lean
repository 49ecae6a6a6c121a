/-
  CONTRACTS of HealthStep and FaultsLeft.
  Conditions: as each states.
-/
import Derived.Test.YtjdhfehffgccmaaHealth2
namespace Go.Proofs.Ytjdhfehffgccmaa
open Go.ChangeShapes Go.WideShapes Go.ChangeAt Go.RowKit Go.Joins
set_option linter.unusedVariables false

def leftOf (f : Bool) (a r : Int) : Int := if f = true ∨ a = 2 then 0 else if a = 1 then 2 - r else -1

set_option maxRecDepth 100000 in
set_option maxHeartbeats 4000000 in
theorem sHealthStep_no (f : Bool) (r : Int) (A : Option Addr) (n c : Nat) (zs : List Int) (fault : Int) (w : World) (hm : n ≤ 1048577) (hr : Rd w 1 A n (ints zs)) (hno : (healthValid f r && (tableOk zs && inB fault 0 3)) = false) :
    Calls Try.prog 20 #[.agg #[.bool f, .int .i64 r], .slice A n c, .int .i64 fault] w fun e w' => e = .returned (.tuple #[.agg #[.bool false, .int .i64 0], .int .i64 (-1)]) ∧ Below w.heap.size w w' := by
  cases hv : healthValid f r
  · clear hno
    go_enter Try.func20, Try.ntmps20
    go_wp2_with fail
    refine (sHealthValid_any _ _ _).mono ?_
    rw [hv]
    rintro e w1 ⟨rfl, hb1⟩
    have hB1 : Below w.heap.size w w1 := Below.andThen (by go_grown) hb1
    have hS1 := hB1.size
    have qa : Hid (Blk w1 (w.heap.size) 26 #[.bool f, .int .i64 r]) := Blk.below (w' := w1) (by repeat' (first | (refine Blk.at_ _ _ _ ?_; first | rfl | (simp; done)) | refine Blk.alloc ?_ _ | assumption)) (Nat.le_refl _) hb1
    have ka_0 := (qa.out).cell 0 rfl
    have fa_0 := (qa.out).frozen 0
    have ka_1 := (qa.out).cell 1 rfl
    have fa_1 := (qa.out).frozen 1
    have la := (qa.out).lt
    have qb : Hid (Blk w1 (w.heap.size + 1) 26 #[.bool false, .int .i64 0]) := Blk.below (w' := w1) (by repeat' (first | (refine Blk.at_ _ _ _ ?_; first | rfl | (simp; done)) | refine Blk.alloc ?_ _ | assumption)) (Nat.le_refl _) hb1
    have kb_0 := (qb.out).cell 0 rfl
    have fb_0 := (qb.out).frozen 0
    have kb_1 := (qb.out).cell 1 rfl
    have fb_1 := (qb.out).frozen 1
    have lb := (qb.out).lt
    clear hb1
    go_wp2
    exact bodyPost_ret (v := .tuple #[.agg #[.bool false, .int .i64 0], .int .i64 (-1)]) (by simp [results, Try.results20, go_sem, *]) rfl ⟨rfl, by go_grown⟩
  · rw [hv, Bool.true_and] at hno
    cases ht : tableOk zs
    · clear hno
      go_enter Try.func20, Try.ntmps20
      go_wp2_with fail
      refine (sHealthValid_any _ _ _).mono ?_
      rw [hv]
      rintro e w1 ⟨rfl, hb1⟩
      have hB1 : Below w.heap.size w w1 := Below.andThen (by go_grown) hb1
      have hS1 := hB1.size
      have qa : Hid (Blk w1 (w.heap.size) 26 #[.bool f, .int .i64 r]) := Blk.below (w' := w1) (by repeat' (first | (refine Blk.at_ _ _ _ ?_; first | rfl | (simp; done)) | refine Blk.alloc ?_ _ | assumption)) (Nat.le_refl _) hb1
      have ka_0 := (qa.out).cell 0 rfl
      have fa_0 := (qa.out).frozen 0
      have ka_1 := (qa.out).cell 1 rfl
      have fa_1 := (qa.out).frozen 1
      have la := (qa.out).lt
      have qb : Hid (Blk w1 (w.heap.size + 1) 26 #[.bool false, .int .i64 0]) := Blk.below (w' := w1) (by repeat' (first | (refine Blk.at_ _ _ _ ?_; first | rfl | (simp; done)) | refine Blk.alloc ?_ _ | assumption)) (Nat.le_refl _) hb1
      have kb_0 := (qb.out).cell 0 rfl
      have fb_0 := (qb.out).frozen 0
      have kb_1 := (qb.out).cell 1 rfl
      have fb_1 := (qb.out).frozen 1
      have lb := (qb.out).lt
      clear hb1
      go_wp2_with fail
      refine (sHealthTable_any _ _ _ zs _ (by omega) (hr.below (Nat.le_refl _) hB1)).mono ?_
      rw [ht]
      rintro e w2 ⟨rfl, hb2⟩
      have hB2 : Below w.heap.size w w2 := Below.andThen hB1 hb2
      have hS2 := hB2.size
      clear ka_0 fa_0 ka_1 fa_1 la
      have qa := Lib.hid ((qa.out).below (Nat.le_refl _) hb2)
      have ka_0 := (qa.out).cell 0 rfl
      have fa_0 := (qa.out).frozen 0
      have ka_1 := (qa.out).cell 1 rfl
      have fa_1 := (qa.out).frozen 1
      have la := (qa.out).lt
      clear kb_0 fb_0 kb_1 fb_1 lb
      have qb := Lib.hid ((qb.out).below (Nat.le_refl _) hb2)
      have kb_0 := (qb.out).cell 0 rfl
      have fb_0 := (qb.out).frozen 0
      have kb_1 := (qb.out).cell 1 rfl
      have fb_1 := (qb.out).frozen 1
      have lb := (qb.out).lt
      clear hb2
      go_wp2
      exact bodyPost_ret (v := .tuple #[.agg #[.bool false, .int .i64 0], .int .i64 (-1)]) (by simp [results, Try.results20, go_sem, *]) rfl ⟨rfl, by go_grown⟩
    · rw [ht, Bool.true_and] at hno
      go_enter Try.func20, Try.ntmps20
      go_wp2_with fail
      refine (sHealthValid_any _ _ _).mono ?_
      rw [hv]
      rintro e w1 ⟨rfl, hb1⟩
      have hB1 : Below w.heap.size w w1 := Below.andThen (by go_grown) hb1
      have hS1 := hB1.size
      have qa : Hid (Blk w1 (w.heap.size) 26 #[.bool f, .int .i64 r]) := Blk.below (w' := w1) (by repeat' (first | (refine Blk.at_ _ _ _ ?_; first | rfl | (simp; done)) | refine Blk.alloc ?_ _ | assumption)) (Nat.le_refl _) hb1
      have ka_0 := (qa.out).cell 0 rfl
      have fa_0 := (qa.out).frozen 0
      have ka_1 := (qa.out).cell 1 rfl
      have fa_1 := (qa.out).frozen 1
      have la := (qa.out).lt
      have qb : Hid (Blk w1 (w.heap.size + 1) 26 #[.bool false, .int .i64 0]) := Blk.below (w' := w1) (by repeat' (first | (refine Blk.at_ _ _ _ ?_; first | rfl | (simp; done)) | refine Blk.alloc ?_ _ | assumption)) (Nat.le_refl _) hb1
      have kb_0 := (qb.out).cell 0 rfl
      have fb_0 := (qb.out).frozen 0
      have kb_1 := (qb.out).cell 1 rfl
      have fb_1 := (qb.out).frozen 1
      have lb := (qb.out).lt
      clear hb1
      go_wp2_with fail
      refine (sHealthTable_any _ _ _ zs _ (by omega) (hr.below (Nat.le_refl _) hB1)).mono ?_
      rw [ht]
      rintro e w2 ⟨rfl, hb2⟩
      have hB2 : Below w.heap.size w w2 := Below.andThen hB1 hb2
      have hS2 := hB2.size
      clear ka_0 fa_0 ka_1 fa_1 la
      have qa := Lib.hid ((qa.out).below (Nat.le_refl _) hb2)
      have ka_0 := (qa.out).cell 0 rfl
      have fa_0 := (qa.out).frozen 0
      have ka_1 := (qa.out).cell 1 rfl
      have fa_1 := (qa.out).frozen 1
      have la := (qa.out).lt
      clear kb_0 fb_0 kb_1 fb_1 lb
      have qb := Lib.hid ((qb.out).below (Nat.le_refl _) hb2)
      have kb_0 := (qb.out).cell 0 rfl
      have fb_0 := (qb.out).frozen 0
      have kb_1 := (qb.out).cell 1 rfl
      have fb_1 := (qb.out).frozen 1
      have lb := (qb.out).lt
      clear hb2
      go_wp2_with (go_at_call 62; refine (l1In_any _ _ _ _).mono ?_; rintro e w3 ⟨rfl, rfl⟩)
      exact bodyPost_ret (v := .tuple #[.agg #[.bool false, .int .i64 0], .int .i64 (-1)]) (by simp [results, Try.results20, go_sem, *]) rfl ⟨rfl, by go_grown⟩
set_option maxRecDepth 100000 in
set_option maxHeartbeats 8000000 in
theorem sHealthStep_yes (f : Bool) (r : Int) (A : Option Addr) (n c : Nat) (zs : List Int) (fault : Int) (w : World) (hm : n ≤ 1048577) (hr : Rd w 1 A n (ints zs)) (hv : healthValid f r = true) (ht : tableOk zs = true) (hf : inB fault 0 3 = true) :
    Calls Try.prog 20 #[.agg #[.bool f, .int .i64 r], .slice A n c, .int .i64 fault] w fun e w' =>
      e = .returned (.tuple #[.agg #[.bool (stepF f (actOf zs fault) fault r), .int .i64 (stepR f (actOf zs fault) fault r)], .int .i64 (stepA f (actOf zs fault) fault r)]) ∧ Below w.heap.size w w' := by
  obtain ⟨f0, f3⟩ := inB_true.1 hf
  by_cases h0 : fault = 0
  · subst h0
    rw [show stepF f (actOf zs 0) 0 r = f by simp [stepF], show stepR f (actOf zs 0) 0 r = r by simp [stepR], show stepA f (actOf zs 0) 0 r = 0 by simp [stepA]]
    go_enter Try.func20, Try.ntmps20
    go_wp2_with fail
    refine (sHealthValid_any _ _ _).mono ?_
    rw [hv]
    rintro e w1 ⟨rfl, hb1⟩
    have hB1 : Below w.heap.size w w1 := Below.andThen (by go_grown) hb1
    have hS1 := hB1.size
    have qa : Hid (Blk w1 (w.heap.size) 26 #[.bool f, .int .i64 r]) := Blk.below (w' := w1) (by repeat' (first | (refine Blk.at_ _ _ _ ?_; first | rfl | (simp; done)) | refine Blk.alloc ?_ _ | assumption)) (Nat.le_refl _) hb1
    have ka_0 := (qa.out).cell 0 rfl
    have fa_0 := (qa.out).frozen 0
    have ka_1 := (qa.out).cell 1 rfl
    have fa_1 := (qa.out).frozen 1
    have la := (qa.out).lt
    have qb : Hid (Blk w1 (w.heap.size + 1) 26 #[.bool false, .int .i64 0]) := Blk.below (w' := w1) (by repeat' (first | (refine Blk.at_ _ _ _ ?_; first | rfl | (simp; done)) | refine Blk.alloc ?_ _ | assumption)) (Nat.le_refl _) hb1
    have kb_0 := (qb.out).cell 0 rfl
    have fb_0 := (qb.out).frozen 0
    have kb_1 := (qb.out).cell 1 rfl
    have fb_1 := (qb.out).frozen 1
    have lb := (qb.out).lt
    clear hb1
    go_wp2_with fail
    refine (sHealthTable_any _ _ _ zs _ (by omega) (hr.below (Nat.le_refl _) hB1)).mono ?_
    rw [ht]
    rintro e w2 ⟨rfl, hb2⟩
    have hB2 : Below w.heap.size w w2 := Below.andThen hB1 hb2
    have hS2 := hB2.size
    clear ka_0 fa_0 ka_1 fa_1 la
    have qa := Lib.hid ((qa.out).below (Nat.le_refl _) hb2)
    have ka_0 := (qa.out).cell 0 rfl
    have fa_0 := (qa.out).frozen 0
    have ka_1 := (qa.out).cell 1 rfl
    have fa_1 := (qa.out).frozen 1
    have la := (qa.out).lt
    clear kb_0 fb_0 kb_1 fb_1 lb
    have qb := Lib.hid ((qb.out).below (Nat.le_refl _) hb2)
    have kb_0 := (qb.out).cell 0 rfl
    have fb_0 := (qb.out).frozen 0
    have kb_1 := (qb.out).cell 1 rfl
    have fb_1 := (qb.out).frozen 1
    have lb := (qb.out).lt
    clear hb2
    go_wp2_with (go_at_call 62; refine (l1In_any _ _ _ _).mono ?_; rintro e w3 ⟨rfl, rfl⟩)
    exact bodyPost_ret (v := .tuple #[.agg #[.bool f, .int .i64 (r)], .int .i64 0]) (by simp [results, Try.results20, go_sem, *]) rfl ⟨rfl, by go_grown⟩
  · cases f
    · have hra := act_rng ht fault
      have hat := act_at ht (fault := fault) (by omega) f3
      have hln : n = 3 := hr.len.symm.trans (table_len ht)
      have hrr : 0 ≤ r ∧ r < 3 := by
        have hv1 := hv
        unfold healthValid at hv1; simp [inB] at hv1; omega
      obtain ⟨r0, r3⟩ := hrr
      obtain ⟨b, o, x, rfl, hbl, hx, hc⟩ := hr.int_ (k := (fault - 1).toNat) (by omega)
      rw [hat] at hx
      injection hx with hx
      subst hx
      generalize actOf zs fault = a at *
      subst hln
      clear hat
      obtain ⟨m, rfl⟩ : ∃ m : Nat, fault = (m : Int) + 1 := ⟨(fault - 1).toNat, by omega⟩
      have hm3 : m < 3 := by omega
      rw [show ((m : Int) + 1 - 1).toNat = m by omega] at hc
      have hf4 : ((m : Int) + 1 == 0) = false := by simp; omega
      rcases hra with rfl | rfl | rfl
      · rw [show stepF false 0 ((m : Int) + 1) r = false by simp [stepF, h0], show stepR false 0 ((m : Int) + 1) r = r by simp [stepR, h0], show stepA false 0 ((m : Int) + 1) r = 0 by simp [stepA, h0]]
        clear h0
        go_enter Try.func20, Try.ntmps20
        go_wp2_with fail
        refine (sHealthValid_any _ _ _).mono ?_
        rw [hv]
        rintro e w1 ⟨rfl, hb1⟩
        have hB1 : Below w.heap.size w w1 := Below.andThen (by go_grown) hb1
        have hS1 := hB1.size
        have qa : Hid (Blk w1 (w.heap.size) 26 #[.bool false, .int .i64 r]) := Blk.below (w' := w1) (by repeat' (first | (refine Blk.at_ _ _ _ ?_; first | rfl | (simp; done)) | refine Blk.alloc ?_ _ | assumption)) (Nat.le_refl _) hb1
        have ka_0 := (qa.out).cell 0 rfl
        have fa_0 := (qa.out).frozen 0
        have ka_1 := (qa.out).cell 1 rfl
        have fa_1 := (qa.out).frozen 1
        have la := (qa.out).lt
        have qb : Hid (Blk w1 (w.heap.size + 1) 26 #[.bool false, .int .i64 0]) := Blk.below (w' := w1) (by repeat' (first | (refine Blk.at_ _ _ _ ?_; first | rfl | (simp; done)) | refine Blk.alloc ?_ _ | assumption)) (Nat.le_refl _) hb1
        have kb_0 := (qb.out).cell 0 rfl
        have fb_0 := (qb.out).frozen 0
        have kb_1 := (qb.out).cell 1 rfl
        have fb_1 := (qb.out).frozen 1
        have lb := (qb.out).lt
        clear hb1
        go_wp2_with fail
        refine (sHealthTable_any _ _ _ zs _ (by omega) (hr.below (Nat.le_refl _) hB1)).mono ?_
        rw [ht]
        rintro e w2 ⟨rfl, hb2⟩
        have hB2 : Below w.heap.size w w2 := Below.andThen hB1 hb2
        have hS2 := hB2.size
        clear ka_0 fa_0 ka_1 fa_1 la
        have qa := Lib.hid ((qa.out).below (Nat.le_refl _) hb2)
        have ka_0 := (qa.out).cell 0 rfl
        have fa_0 := (qa.out).frozen 0
        have ka_1 := (qa.out).cell 1 rfl
        have fa_1 := (qa.out).frozen 1
        have la := (qa.out).lt
        clear kb_0 fb_0 kb_1 fb_1 lb
        have qb := Lib.hid ((qb.out).below (Nat.le_refl _) hb2)
        have kb_0 := (qb.out).cell 0 rfl
        have fb_0 := (qb.out).frozen 0
        have kb_1 := (qb.out).cell 1 rfl
        have fb_1 := (qb.out).frozen 1
        have lb := (qb.out).lt
        clear hb2
        have hc2 := (hB2.cell (p := ⟨b, o + m, none⟩) hbl).trans hc
        go_wp2_with (go_at_call 62; refine (l1In_any _ _ _ _).mono ?_; rintro e w3 ⟨rfl, rfl⟩)
        exact bodyPost_ret (v := .tuple #[.agg #[.bool false, .int .i64 (r)], .int .i64 0]) (by simp [results, Try.results20, go_sem, *]) rfl ⟨rfl, by go_grown⟩
      · by_cases h2 : r = 2
        · subst h2
          rw [show stepF false 1 ((m : Int) + 1) 2 = true by simp [stepF, h0], show stepR false 1 ((m : Int) + 1) 2 = 3 by simp [stepR, h0], show stepA false 1 ((m : Int) + 1) 2 = 2 by simp [stepA, h0]]
          clear h0
          go_enter Try.func20, Try.ntmps20
          go_wp2_with fail
          refine (sHealthValid_any _ _ _).mono ?_
          rw [hv]
          rintro e w1 ⟨rfl, hb1⟩
          have hB1 : Below w.heap.size w w1 := Below.andThen (by go_grown) hb1
          have hS1 := hB1.size
          have qa : Hid (Blk w1 (w.heap.size) 26 #[.bool false, .int .i64 2]) := Blk.below (w' := w1) (by repeat' (first | (refine Blk.at_ _ _ _ ?_; first | rfl | (simp; done)) | refine Blk.alloc ?_ _ | assumption)) (Nat.le_refl _) hb1
          have ka_0 := (qa.out).cell 0 rfl
          have fa_0 := (qa.out).frozen 0
          have ka_1 := (qa.out).cell 1 rfl
          have fa_1 := (qa.out).frozen 1
          have la := (qa.out).lt
          have qb : Hid (Blk w1 (w.heap.size + 1) 26 #[.bool false, .int .i64 0]) := Blk.below (w' := w1) (by repeat' (first | (refine Blk.at_ _ _ _ ?_; first | rfl | (simp; done)) | refine Blk.alloc ?_ _ | assumption)) (Nat.le_refl _) hb1
          have kb_0 := (qb.out).cell 0 rfl
          have fb_0 := (qb.out).frozen 0
          have kb_1 := (qb.out).cell 1 rfl
          have fb_1 := (qb.out).frozen 1
          have lb := (qb.out).lt
          clear hb1
          go_wp2_with fail
          refine (sHealthTable_any _ _ _ zs _ (by omega) (hr.below (Nat.le_refl _) hB1)).mono ?_
          rw [ht]
          rintro e w2 ⟨rfl, hb2⟩
          have hB2 : Below w.heap.size w w2 := Below.andThen hB1 hb2
          have hS2 := hB2.size
          clear ka_0 fa_0 ka_1 fa_1 la
          have qa := Lib.hid ((qa.out).below (Nat.le_refl _) hb2)
          have ka_0 := (qa.out).cell 0 rfl
          have fa_0 := (qa.out).frozen 0
          have ka_1 := (qa.out).cell 1 rfl
          have fa_1 := (qa.out).frozen 1
          have la := (qa.out).lt
          clear kb_0 fb_0 kb_1 fb_1 lb
          have qb := Lib.hid ((qb.out).below (Nat.le_refl _) hb2)
          have kb_0 := (qb.out).cell 0 rfl
          have fb_0 := (qb.out).frozen 0
          have kb_1 := (qb.out).cell 1 rfl
          have fb_1 := (qb.out).frozen 1
          have lb := (qb.out).lt
          clear hb2
          have hc2 := (hB2.cell (p := ⟨b, o + m, none⟩) hbl).trans hc
          go_wp2_with (go_at_call 62; refine (l1In_any _ _ _ _).mono ?_; rintro e w3 ⟨rfl, rfl⟩)
          exact bodyPost_ret (v := .tuple #[.agg #[.bool true, .int .i64 (3)], .int .i64 2]) (by simp [results, Try.results20, go_sem, *]) rfl ⟨rfl, by go_grown⟩
        · rw [show stepF false 1 ((m : Int) + 1) r = false by simp [stepF, h0, h2], show stepR false 1 ((m : Int) + 1) r = r + 1 by simp [stepR, h0], show stepA false 1 ((m : Int) + 1) r = 1 by simp [stepA, h0, h2]]
          have hr3 : (r + 1 == 3) = false := by simp; omega
          clear h0 h2
          go_enter Try.func20, Try.ntmps20
          go_wp2_with fail
          refine (sHealthValid_any _ _ _).mono ?_
          rw [hv]
          rintro e w1 ⟨rfl, hb1⟩
          have hB1 : Below w.heap.size w w1 := Below.andThen (by go_grown) hb1
          have hS1 := hB1.size
          have qa : Hid (Blk w1 (w.heap.size) 26 #[.bool false, .int .i64 r]) := Blk.below (w' := w1) (by repeat' (first | (refine Blk.at_ _ _ _ ?_; first | rfl | (simp; done)) | refine Blk.alloc ?_ _ | assumption)) (Nat.le_refl _) hb1
          have ka_0 := (qa.out).cell 0 rfl
          have fa_0 := (qa.out).frozen 0
          have ka_1 := (qa.out).cell 1 rfl
          have fa_1 := (qa.out).frozen 1
          have la := (qa.out).lt
          have qb : Hid (Blk w1 (w.heap.size + 1) 26 #[.bool false, .int .i64 0]) := Blk.below (w' := w1) (by repeat' (first | (refine Blk.at_ _ _ _ ?_; first | rfl | (simp; done)) | refine Blk.alloc ?_ _ | assumption)) (Nat.le_refl _) hb1
          have kb_0 := (qb.out).cell 0 rfl
          have fb_0 := (qb.out).frozen 0
          have kb_1 := (qb.out).cell 1 rfl
          have fb_1 := (qb.out).frozen 1
          have lb := (qb.out).lt
          clear hb1
          go_wp2_with fail
          refine (sHealthTable_any _ _ _ zs _ (by omega) (hr.below (Nat.le_refl _) hB1)).mono ?_
          rw [ht]
          rintro e w2 ⟨rfl, hb2⟩
          have hB2 : Below w.heap.size w w2 := Below.andThen hB1 hb2
          have hS2 := hB2.size
          clear ka_0 fa_0 ka_1 fa_1 la
          have qa := Lib.hid ((qa.out).below (Nat.le_refl _) hb2)
          have ka_0 := (qa.out).cell 0 rfl
          have fa_0 := (qa.out).frozen 0
          have ka_1 := (qa.out).cell 1 rfl
          have fa_1 := (qa.out).frozen 1
          have la := (qa.out).lt
          clear kb_0 fb_0 kb_1 fb_1 lb
          have qb := Lib.hid ((qb.out).below (Nat.le_refl _) hb2)
          have kb_0 := (qb.out).cell 0 rfl
          have fb_0 := (qb.out).frozen 0
          have kb_1 := (qb.out).cell 1 rfl
          have fb_1 := (qb.out).frozen 1
          have lb := (qb.out).lt
          clear hb2
          have hc2 := (hB2.cell (p := ⟨b, o + m, none⟩) hbl).trans hc
          go_wp2_with (go_at_call 62; refine (l1In_any _ _ _ _).mono ?_; rintro e w3 ⟨rfl, rfl⟩)
          exact bodyPost_ret (v := .tuple #[.agg #[.bool false, .int .i64 (r + 1)], .int .i64 1]) (by simp [results, Try.results20, go_sem, *]) rfl ⟨rfl, by go_grown⟩
      · rw [show stepF false 2 ((m : Int) + 1) r = true by simp [stepF, h0], show stepR false 2 ((m : Int) + 1) r = r by simp [stepR, h0], show stepA false 2 ((m : Int) + 1) r = 2 by simp [stepA, h0]]
        clear h0
        go_enter Try.func20, Try.ntmps20
        go_wp2_with fail
        refine (sHealthValid_any _ _ _).mono ?_
        rw [hv]
        rintro e w1 ⟨rfl, hb1⟩
        have hB1 : Below w.heap.size w w1 := Below.andThen (by go_grown) hb1
        have hS1 := hB1.size
        have qa : Hid (Blk w1 (w.heap.size) 26 #[.bool false, .int .i64 r]) := Blk.below (w' := w1) (by repeat' (first | (refine Blk.at_ _ _ _ ?_; first | rfl | (simp; done)) | refine Blk.alloc ?_ _ | assumption)) (Nat.le_refl _) hb1
        have ka_0 := (qa.out).cell 0 rfl
        have fa_0 := (qa.out).frozen 0
        have ka_1 := (qa.out).cell 1 rfl
        have fa_1 := (qa.out).frozen 1
        have la := (qa.out).lt
        have qb : Hid (Blk w1 (w.heap.size + 1) 26 #[.bool false, .int .i64 0]) := Blk.below (w' := w1) (by repeat' (first | (refine Blk.at_ _ _ _ ?_; first | rfl | (simp; done)) | refine Blk.alloc ?_ _ | assumption)) (Nat.le_refl _) hb1
        have kb_0 := (qb.out).cell 0 rfl
        have fb_0 := (qb.out).frozen 0
        have kb_1 := (qb.out).cell 1 rfl
        have fb_1 := (qb.out).frozen 1
        have lb := (qb.out).lt
        clear hb1
        go_wp2_with fail
        refine (sHealthTable_any _ _ _ zs _ (by omega) (hr.below (Nat.le_refl _) hB1)).mono ?_
        rw [ht]
        rintro e w2 ⟨rfl, hb2⟩
        have hB2 : Below w.heap.size w w2 := Below.andThen hB1 hb2
        have hS2 := hB2.size
        clear ka_0 fa_0 ka_1 fa_1 la
        have qa := Lib.hid ((qa.out).below (Nat.le_refl _) hb2)
        have ka_0 := (qa.out).cell 0 rfl
        have fa_0 := (qa.out).frozen 0
        have ka_1 := (qa.out).cell 1 rfl
        have fa_1 := (qa.out).frozen 1
        have la := (qa.out).lt
        clear kb_0 fb_0 kb_1 fb_1 lb
        have qb := Lib.hid ((qb.out).below (Nat.le_refl _) hb2)
        have kb_0 := (qb.out).cell 0 rfl
        have fb_0 := (qb.out).frozen 0
        have kb_1 := (qb.out).cell 1 rfl
        have fb_1 := (qb.out).frozen 1
        have lb := (qb.out).lt
        clear hb2
        have hc2 := (hB2.cell (p := ⟨b, o + m, none⟩) hbl).trans hc
        go_wp2_with (go_at_call 62; refine (l1In_any _ _ _ _).mono ?_; rintro e w3 ⟨rfl, rfl⟩)
        exact bodyPost_ret (v := .tuple #[.agg #[.bool true, .int .i64 (r)], .int .i64 2]) (by simp [results, Try.results20, go_sem, *]) rfl ⟨rfl, by go_grown⟩
    · rw [show stepF true (actOf zs fault) fault r = true by simp [stepF], show stepR true (actOf zs fault) fault r = r by simp [stepR], show stepA true (actOf zs fault) fault r = 0 by simp [stepA]]
      have hf4 : (fault == 0) = false := by simp; omega
      clear h0
      go_enter Try.func20, Try.ntmps20
      go_wp2_with fail
      refine (sHealthValid_any _ _ _).mono ?_
      rw [hv]
      rintro e w1 ⟨rfl, hb1⟩
      have hB1 : Below w.heap.size w w1 := Below.andThen (by go_grown) hb1
      have hS1 := hB1.size
      have qa : Hid (Blk w1 (w.heap.size) 26 #[.bool true, .int .i64 r]) := Blk.below (w' := w1) (by repeat' (first | (refine Blk.at_ _ _ _ ?_; first | rfl | (simp; done)) | refine Blk.alloc ?_ _ | assumption)) (Nat.le_refl _) hb1
      have ka_0 := (qa.out).cell 0 rfl
      have fa_0 := (qa.out).frozen 0
      have ka_1 := (qa.out).cell 1 rfl
      have fa_1 := (qa.out).frozen 1
      have la := (qa.out).lt
      have qb : Hid (Blk w1 (w.heap.size + 1) 26 #[.bool false, .int .i64 0]) := Blk.below (w' := w1) (by repeat' (first | (refine Blk.at_ _ _ _ ?_; first | rfl | (simp; done)) | refine Blk.alloc ?_ _ | assumption)) (Nat.le_refl _) hb1
      have kb_0 := (qb.out).cell 0 rfl
      have fb_0 := (qb.out).frozen 0
      have kb_1 := (qb.out).cell 1 rfl
      have fb_1 := (qb.out).frozen 1
      have lb := (qb.out).lt
      clear hb1
      go_wp2_with fail
      refine (sHealthTable_any _ _ _ zs _ (by omega) (hr.below (Nat.le_refl _) hB1)).mono ?_
      rw [ht]
      rintro e w2 ⟨rfl, hb2⟩
      have hB2 : Below w.heap.size w w2 := Below.andThen hB1 hb2
      have hS2 := hB2.size
      clear ka_0 fa_0 ka_1 fa_1 la
      have qa := Lib.hid ((qa.out).below (Nat.le_refl _) hb2)
      have ka_0 := (qa.out).cell 0 rfl
      have fa_0 := (qa.out).frozen 0
      have ka_1 := (qa.out).cell 1 rfl
      have fa_1 := (qa.out).frozen 1
      have la := (qa.out).lt
      clear kb_0 fb_0 kb_1 fb_1 lb
      have qb := Lib.hid ((qb.out).below (Nat.le_refl _) hb2)
      have kb_0 := (qb.out).cell 0 rfl
      have fb_0 := (qb.out).frozen 0
      have kb_1 := (qb.out).cell 1 rfl
      have fb_1 := (qb.out).frozen 1
      have lb := (qb.out).lt
      clear hb2
      go_wp2_with (go_at_call 62; refine (l1In_any _ _ _ _).mono ?_; rintro e w3 ⟨rfl, rfl⟩)
      exact bodyPost_ret (v := .tuple #[.agg #[.bool true, .int .i64 (r)], .int .i64 0]) (by simp [results, Try.results20, go_sem, *]) rfl ⟨rfl, by go_grown⟩
set_option maxRecDepth 100000 in
set_option maxHeartbeats 4000000 in
theorem iHealthStep_no (f : Bool) (r : Int) (A : Option Addr) (n c : Nat) (zs : List Int) (fault : Int) (w : World) (hm : n ≤ 1048577) (hr : Rd w 1 A n (ints zs)) (hno : (healthValid f r && (tableOk zs && inB fault 0 3)) = false) :
    Calls Try.prog 21 #[.agg #[.bool f, .int .i64 r], .slice A n c, .int .i64 fault] w fun e w' => e = .returned (.tuple #[.agg #[.bool false, .int .i64 0], .int .i64 (-1)]) ∧ Below w.heap.size w w' := by
  cases hv : healthValid f r
  · clear hno
    go_enter Try.func21, Try.ntmps21
    go_wp2_with fail
    refine (iHealthValid_any _ _ _).mono ?_
    rw [hv]
    rintro e w1 ⟨rfl, hb1⟩
    have hB1 : Below w.heap.size w w1 := Below.andThen (by go_grown) hb1
    have hS1 := hB1.size
    have qa : Hid (Blk w1 (w.heap.size) 26 #[.bool f, .int .i64 r]) := Blk.below (w' := w1) (by repeat' (first | (refine Blk.at_ _ _ _ ?_; first | rfl | (simp; done)) | refine Blk.alloc ?_ _ | assumption)) (Nat.le_refl _) hb1
    have ka_0 := (qa.out).cell 0 rfl
    have fa_0 := (qa.out).frozen 0
    have ka_1 := (qa.out).cell 1 rfl
    have fa_1 := (qa.out).frozen 1
    have la := (qa.out).lt
    have qb : Hid (Blk w1 (w.heap.size + 1) 26 #[.bool false, .int .i64 0]) := Blk.below (w' := w1) (by repeat' (first | (refine Blk.at_ _ _ _ ?_; first | rfl | (simp; done)) | refine Blk.alloc ?_ _ | assumption)) (Nat.le_refl _) hb1
    have kb_0 := (qb.out).cell 0 rfl
    have fb_0 := (qb.out).frozen 0
    have kb_1 := (qb.out).cell 1 rfl
    have fb_1 := (qb.out).frozen 1
    have lb := (qb.out).lt
    clear hb1
    go_wp2
    exact bodyPost_ret (v := .tuple #[.agg #[.bool false, .int .i64 0], .int .i64 (-1)]) (by simp [results, Try.results21, go_sem, *]) rfl ⟨rfl, by go_grown⟩
  · rw [hv, Bool.true_and] at hno
    cases ht : tableOk zs
    · clear hno
      go_enter Try.func21, Try.ntmps21
      go_wp2_with fail
      refine (iHealthValid_any _ _ _).mono ?_
      rw [hv]
      rintro e w1 ⟨rfl, hb1⟩
      have hB1 : Below w.heap.size w w1 := Below.andThen (by go_grown) hb1
      have hS1 := hB1.size
      have qa : Hid (Blk w1 (w.heap.size) 26 #[.bool f, .int .i64 r]) := Blk.below (w' := w1) (by repeat' (first | (refine Blk.at_ _ _ _ ?_; first | rfl | (simp; done)) | refine Blk.alloc ?_ _ | assumption)) (Nat.le_refl _) hb1
      have ka_0 := (qa.out).cell 0 rfl
      have fa_0 := (qa.out).frozen 0
      have ka_1 := (qa.out).cell 1 rfl
      have fa_1 := (qa.out).frozen 1
      have la := (qa.out).lt
      have qb : Hid (Blk w1 (w.heap.size + 1) 26 #[.bool false, .int .i64 0]) := Blk.below (w' := w1) (by repeat' (first | (refine Blk.at_ _ _ _ ?_; first | rfl | (simp; done)) | refine Blk.alloc ?_ _ | assumption)) (Nat.le_refl _) hb1
      have kb_0 := (qb.out).cell 0 rfl
      have fb_0 := (qb.out).frozen 0
      have kb_1 := (qb.out).cell 1 rfl
      have fb_1 := (qb.out).frozen 1
      have lb := (qb.out).lt
      clear hb1
      go_wp2_with fail
      refine (iHealthTable_any _ _ _ zs _ (by omega) (hr.below (Nat.le_refl _) hB1)).mono ?_
      rw [ht]
      rintro e w2 ⟨rfl, hb2⟩
      have hB2 : Below w.heap.size w w2 := Below.andThen hB1 hb2
      have hS2 := hB2.size
      clear ka_0 fa_0 ka_1 fa_1 la
      have qa := Lib.hid ((qa.out).below (Nat.le_refl _) hb2)
      have ka_0 := (qa.out).cell 0 rfl
      have fa_0 := (qa.out).frozen 0
      have ka_1 := (qa.out).cell 1 rfl
      have fa_1 := (qa.out).frozen 1
      have la := (qa.out).lt
      clear kb_0 fb_0 kb_1 fb_1 lb
      have qb := Lib.hid ((qb.out).below (Nat.le_refl _) hb2)
      have kb_0 := (qb.out).cell 0 rfl
      have fb_0 := (qb.out).frozen 0
      have kb_1 := (qb.out).cell 1 rfl
      have fb_1 := (qb.out).frozen 1
      have lb := (qb.out).lt
      clear hb2
      go_wp2
      exact bodyPost_ret (v := .tuple #[.agg #[.bool false, .int .i64 0], .int .i64 (-1)]) (by simp [results, Try.results21, go_sem, *]) rfl ⟨rfl, by go_grown⟩
    · rw [ht, Bool.true_and] at hno
      go_enter Try.func21, Try.ntmps21
      go_wp2_with fail
      refine (iHealthValid_any _ _ _).mono ?_
      rw [hv]
      rintro e w1 ⟨rfl, hb1⟩
      have hB1 : Below w.heap.size w w1 := Below.andThen (by go_grown) hb1
      have hS1 := hB1.size
      have qa : Hid (Blk w1 (w.heap.size) 26 #[.bool f, .int .i64 r]) := Blk.below (w' := w1) (by repeat' (first | (refine Blk.at_ _ _ _ ?_; first | rfl | (simp; done)) | refine Blk.alloc ?_ _ | assumption)) (Nat.le_refl _) hb1
      have ka_0 := (qa.out).cell 0 rfl
      have fa_0 := (qa.out).frozen 0
      have ka_1 := (qa.out).cell 1 rfl
      have fa_1 := (qa.out).frozen 1
      have la := (qa.out).lt
      have qb : Hid (Blk w1 (w.heap.size + 1) 26 #[.bool false, .int .i64 0]) := Blk.below (w' := w1) (by repeat' (first | (refine Blk.at_ _ _ _ ?_; first | rfl | (simp; done)) | refine Blk.alloc ?_ _ | assumption)) (Nat.le_refl _) hb1
      have kb_0 := (qb.out).cell 0 rfl
      have fb_0 := (qb.out).frozen 0
      have kb_1 := (qb.out).cell 1 rfl
      have fb_1 := (qb.out).frozen 1
      have lb := (qb.out).lt
      clear hb1
      go_wp2_with fail
      refine (iHealthTable_any _ _ _ zs _ (by omega) (hr.below (Nat.le_refl _) hB1)).mono ?_
      rw [ht]
      rintro e w2 ⟨rfl, hb2⟩
      have hB2 : Below w.heap.size w w2 := Below.andThen hB1 hb2
      have hS2 := hB2.size
      clear ka_0 fa_0 ka_1 fa_1 la
      have qa := Lib.hid ((qa.out).below (Nat.le_refl _) hb2)
      have ka_0 := (qa.out).cell 0 rfl
      have fa_0 := (qa.out).frozen 0
      have ka_1 := (qa.out).cell 1 rfl
      have fa_1 := (qa.out).frozen 1
      have la := (qa.out).lt
      clear kb_0 fb_0 kb_1 fb_1 lb
      have qb := Lib.hid ((qb.out).below (Nat.le_refl _) hb2)
      have kb_0 := (qb.out).cell 0 rfl
      have fb_0 := (qb.out).frozen 0
      have kb_1 := (qb.out).cell 1 rfl
      have fb_1 := (qb.out).frozen 1
      have lb := (qb.out).lt
      clear hb2
      go_wp2_with (first | (go_at_call 65; refine (isFault_any _ _).mono ?_; rintro e w3 ⟨rfl, rfl⟩))
      exact bodyPost_ret (v := .tuple #[.agg #[.bool false, .int .i64 0], .int .i64 (-1)]) (by simp [results, Try.results21, go_sem, *]) rfl ⟨rfl, by go_grown⟩
set_option maxRecDepth 100000 in
set_option maxHeartbeats 4000000 in
theorem iHealthStep_yes (f : Bool) (r : Int) (A : Option Addr) (n c : Nat) (zs : List Int) (fault : Int) (w : World) (hm : n ≤ 1048577) (hr : Rd w 1 A n (ints zs)) (hv : healthValid f r = true) (ht : tableOk zs = true) (hf : inB fault 0 3 = true) :
    Calls Try.prog 21 #[.agg #[.bool f, .int .i64 r], .slice A n c, .int .i64 fault] w fun e w' =>
      e = .returned (.tuple #[.agg #[.bool (stepF f (actOf zs fault) fault r), .int .i64 (stepR f (actOf zs fault) fault r)], .int .i64 (stepA f (actOf zs fault) fault r)]) ∧ Below w.heap.size w w' := by
  go_enter Try.func21, Try.ntmps21
  go_wp2_with fail
  refine (iHealthValid_any _ _ _).mono ?_
  rw [hv]
  rintro e w1 ⟨rfl, hb1⟩
  have hB1 : Below w.heap.size w w1 := Below.andThen (by go_grown) hb1
  have hS1 := hB1.size
  have qa : Hid (Blk w1 (w.heap.size) 26 #[.bool f, .int .i64 r]) := Blk.below (w' := w1) (by repeat' (first | (refine Blk.at_ _ _ _ ?_; first | rfl | (simp; done)) | refine Blk.alloc ?_ _ | assumption)) (Nat.le_refl _) hb1
  have ka_0 := (qa.out).cell 0 rfl
  have fa_0 := (qa.out).frozen 0
  have ka_1 := (qa.out).cell 1 rfl
  have fa_1 := (qa.out).frozen 1
  have la := (qa.out).lt
  have qb : Hid (Blk w1 (w.heap.size + 1) 26 #[.bool false, .int .i64 0]) := Blk.below (w' := w1) (by repeat' (first | (refine Blk.at_ _ _ _ ?_; first | rfl | (simp; done)) | refine Blk.alloc ?_ _ | assumption)) (Nat.le_refl _) hb1
  have kb_0 := (qb.out).cell 0 rfl
  have fb_0 := (qb.out).frozen 0
  have kb_1 := (qb.out).cell 1 rfl
  have fb_1 := (qb.out).frozen 1
  have lb := (qb.out).lt
  clear hb1
  go_wp2_with fail
  refine (iHealthTable_any _ _ _ zs _ (by omega) (hr.below (Nat.le_refl _) hB1)).mono ?_
  rw [ht]
  rintro e w2 ⟨rfl, hb2⟩
  have hB2 : Below w.heap.size w w2 := Below.andThen hB1 hb2
  have hS2 := hB2.size
  clear ka_0 fa_0 ka_1 fa_1 la
  have qa := Lib.hid ((qa.out).below (Nat.le_refl _) hb2)
  have ka_0 := (qa.out).cell 0 rfl
  have fa_0 := (qa.out).frozen 0
  have ka_1 := (qa.out).cell 1 rfl
  have fa_1 := (qa.out).frozen 1
  have la := (qa.out).lt
  clear kb_0 fb_0 kb_1 fb_1 lb
  have qb := Lib.hid ((qb.out).below (Nat.le_refl _) hb2)
  have kb_0 := (qb.out).cell 0 rfl
  have fb_0 := (qb.out).frozen 0
  have kb_1 := (qb.out).cell 1 rfl
  have fb_1 := (qb.out).frozen 1
  have lb := (qb.out).lt
  clear hb2
  go_wp2_with (first | (go_at_call 65; refine (isFault_any _ _).mono ?_; rintro e w3 ⟨rfl, rfl⟩))
  refine (after_any f r A n c zs fault _ (hr.below (Nat.le_refl _) hB2) hv ht hf).mono ?_
  rintro e w4 ⟨rfl, hb4⟩
  clear ka_0 fa_0 ka_1 fa_1 la
  have qa := Lib.hid ((qa.out).below (Nat.le_refl _) hb4)
  have ka_0 := (qa.out).cell 0 rfl
  have fa_0 := (qa.out).frozen 0
  have ka_1 := (qa.out).cell 1 rfl
  have fa_1 := (qa.out).frozen 1
  have la := (qa.out).lt
  clear kb_0 fb_0 kb_1 fb_1 lb
  have qb := Lib.hid ((qb.out).below (Nat.le_refl _) hb4)
  have kb_0 := (qb.out).cell 0 rfl
  have fb_0 := (qb.out).frozen 0
  have kb_1 := (qb.out).cell 1 rfl
  have fb_1 := (qb.out).frozen 1
  have lb := (qb.out).lt
  have hB4 := Below.andThen hB2 hb4
  clear hb4
  go_wp2
  exact bodyPost_ret (v := .tuple #[.agg #[.bool (stepF f (actOf zs fault) fault r), .int .i64 (stepR f (actOf zs fault) fault r)], .int .i64 (stepA f (actOf zs fault) fault r)]) (by simp [results, Try.results21, go_sem, *]) rfl ⟨rfl, by go_grown⟩
set_option maxRecDepth 100000 in
set_option maxHeartbeats 4000000 in
theorem sFaultsLeft_no (f : Bool) (r : Int) (A : Option Addr) (n c : Nat) (zs : List Int) (fault : Int) (w : World) (hm : n ≤ 1048577) (hr : Rd w 1 A n (ints zs)) (hno : (healthValid f r && (tableOk zs && inB fault 1 3)) = false) :
    Calls Try.prog 15 #[.agg #[.bool f, .int .i64 r], .slice A n c, .int .i64 fault] w fun e w' => e = .returned (.int .i64 (-2)) ∧ Below w.heap.size w w' := by
  cases hv : healthValid f r
  · clear hno
    go_enter Try.func15, Try.ntmps15
    go_wp2_with fail
    refine (sHealthValid_any _ _ _).mono ?_
    rw [hv]
    rintro e w1 ⟨rfl, hb1⟩
    have hB1 : Below w.heap.size w w1 := Below.andThen (by go_grown) hb1
    have hS1 := hB1.size
    have qa : Hid (Blk w1 (w.heap.size) 26 #[.bool f, .int .i64 r]) := Blk.below (w' := w1) (by repeat' (first | (refine Blk.at_ _ _ _ ?_; first | rfl | (simp; done)) | refine Blk.alloc ?_ _ | assumption)) (Nat.le_refl _) hb1
    have ka_0 := (qa.out).cell 0 rfl
    have fa_0 := (qa.out).frozen 0
    have ka_1 := (qa.out).cell 1 rfl
    have fa_1 := (qa.out).frozen 1
    have la := (qa.out).lt
    clear hb1
    go_wp2
    go_ret
    exact ⟨rfl, by go_grown⟩
  · rw [hv, Bool.true_and] at hno
    cases ht : tableOk zs
    · clear hno
      go_enter Try.func15, Try.ntmps15
      go_wp2_with fail
      refine (sHealthValid_any _ _ _).mono ?_
      rw [hv]
      rintro e w1 ⟨rfl, hb1⟩
      have hB1 : Below w.heap.size w w1 := Below.andThen (by go_grown) hb1
      have hS1 := hB1.size
      have qa : Hid (Blk w1 (w.heap.size) 26 #[.bool f, .int .i64 r]) := Blk.below (w' := w1) (by repeat' (first | (refine Blk.at_ _ _ _ ?_; first | rfl | (simp; done)) | refine Blk.alloc ?_ _ | assumption)) (Nat.le_refl _) hb1
      have ka_0 := (qa.out).cell 0 rfl
      have fa_0 := (qa.out).frozen 0
      have ka_1 := (qa.out).cell 1 rfl
      have fa_1 := (qa.out).frozen 1
      have la := (qa.out).lt
      clear hb1
      go_wp2_with fail
      refine (sHealthTable_any _ _ _ zs _ (by omega) (hr.below (Nat.le_refl _) hB1)).mono ?_
      rw [ht]
      rintro e w2 ⟨rfl, hb2⟩
      have hB2 : Below w.heap.size w w2 := Below.andThen hB1 hb2
      have hS2 := hB2.size
      clear ka_0 fa_0 ka_1 fa_1 la
      have qa := Lib.hid ((qa.out).below (Nat.le_refl _) hb2)
      have ka_0 := (qa.out).cell 0 rfl
      have fa_0 := (qa.out).frozen 0
      have ka_1 := (qa.out).cell 1 rfl
      have fa_1 := (qa.out).frozen 1
      have la := (qa.out).lt
      clear hb2
      go_wp2
      go_ret
      exact ⟨rfl, by go_grown⟩
    · rw [ht, Bool.true_and] at hno
      go_enter Try.func15, Try.ntmps15
      go_wp2_with fail
      refine (sHealthValid_any _ _ _).mono ?_
      rw [hv]
      rintro e w1 ⟨rfl, hb1⟩
      have hB1 : Below w.heap.size w w1 := Below.andThen (by go_grown) hb1
      have hS1 := hB1.size
      have qa : Hid (Blk w1 (w.heap.size) 26 #[.bool f, .int .i64 r]) := Blk.below (w' := w1) (by repeat' (first | (refine Blk.at_ _ _ _ ?_; first | rfl | (simp; done)) | refine Blk.alloc ?_ _ | assumption)) (Nat.le_refl _) hb1
      have ka_0 := (qa.out).cell 0 rfl
      have fa_0 := (qa.out).frozen 0
      have ka_1 := (qa.out).cell 1 rfl
      have fa_1 := (qa.out).frozen 1
      have la := (qa.out).lt
      clear hb1
      go_wp2_with fail
      refine (sHealthTable_any _ _ _ zs _ (by omega) (hr.below (Nat.le_refl _) hB1)).mono ?_
      rw [ht]
      rintro e w2 ⟨rfl, hb2⟩
      have hB2 : Below w.heap.size w w2 := Below.andThen hB1 hb2
      have hS2 := hB2.size
      clear ka_0 fa_0 ka_1 fa_1 la
      have qa := Lib.hid ((qa.out).below (Nat.le_refl _) hb2)
      have ka_0 := (qa.out).cell 0 rfl
      have fa_0 := (qa.out).frozen 0
      have ka_1 := (qa.out).cell 1 rfl
      have fa_1 := (qa.out).frozen 1
      have la := (qa.out).lt
      clear hb2
      go_wp2_with (go_at_call 62; refine (l1In_any _ _ _ _).mono ?_; rintro e w3 ⟨rfl, rfl⟩)
      go_ret
      exact ⟨rfl, by go_grown⟩
set_option maxRecDepth 100000 in
set_option maxHeartbeats 8000000 in
theorem sFaultsLeft_yes (f : Bool) (r : Int) (A : Option Addr) (n c : Nat) (zs : List Int) (fault : Int) (w : World) (hm : n ≤ 1048577) (hr : Rd w 1 A n (ints zs)) (hv : healthValid f r = true) (ht : tableOk zs = true) (hf : inB fault 1 3 = true) :
    Calls Try.prog 15 #[.agg #[.bool f, .int .i64 r], .slice A n c, .int .i64 fault] w fun e w' => e = .returned (.int .i64 (leftOf f (actOf zs fault) r)) ∧ Below w.heap.size w w' := by
  obtain ⟨f1, f3⟩ := inB_true.1 hf
  have hf0 : inB fault 0 3 = true := inB_true.2 ⟨by omega, f3⟩
  have hra := act_rng ht fault
  have hat := act_at ht f1 f3
  have hln : n = 3 := hr.len.symm.trans (table_len ht)
  have hrr : 0 ≤ r ∧ r ≤ 3 := by
    have hv1 := hv
    unfold healthValid at hv1; simp [inB] at hv1; omega
  obtain ⟨r0, r3⟩ := hrr
  obtain ⟨b, o, x, rfl, hbl, hx, hc⟩ := hr.int_ (k := (fault - 1).toNat) (by omega)
  rw [hat] at hx
  injection hx with hx
  subst hx
  generalize actOf zs fault = a at *
  subst hln
  clear hat
  obtain ⟨m, rfl⟩ : ∃ m : Nat, fault = (m : Int) + 1 := ⟨(fault - 1).toNat, by omega⟩
  have hm3 : m < 3 := by omega
  rw [show ((m : Int) + 1 - 1).toNat = m by omega] at hc
  have hf4 : ((m : Int) + 1 == 0) = false := by simp; omega
  cases f
  · rcases hra with rfl | rfl | rfl
    · skip
      go_enter Try.func15, Try.ntmps15
      go_wp2_with fail
      refine (sHealthValid_any _ _ _).mono ?_
      rw [hv]
      rintro e w1 ⟨rfl, hb1⟩
      have hB1 : Below w.heap.size w w1 := Below.andThen (by go_grown) hb1
      have hS1 := hB1.size
      have qa : Hid (Blk w1 (w.heap.size) 26 #[.bool false, .int .i64 r]) := Blk.below (w' := w1) (by repeat' (first | (refine Blk.at_ _ _ _ ?_; first | rfl | (simp; done)) | refine Blk.alloc ?_ _ | assumption)) (Nat.le_refl _) hb1
      have ka_0 := (qa.out).cell 0 rfl
      have fa_0 := (qa.out).frozen 0
      have ka_1 := (qa.out).cell 1 rfl
      have fa_1 := (qa.out).frozen 1
      have la := (qa.out).lt
      clear hb1
      go_wp2_with fail
      refine (sHealthTable_any _ _ _ zs _ (by omega) (hr.below (Nat.le_refl _) hB1)).mono ?_
      rw [ht]
      rintro e w2 ⟨rfl, hb2⟩
      have hB2 : Below w.heap.size w w2 := Below.andThen hB1 hb2
      have hS2 := hB2.size
      clear ka_0 fa_0 ka_1 fa_1 la
      have qa := Lib.hid ((qa.out).below (Nat.le_refl _) hb2)
      have ka_0 := (qa.out).cell 0 rfl
      have fa_0 := (qa.out).frozen 0
      have ka_1 := (qa.out).cell 1 rfl
      have fa_1 := (qa.out).frozen 1
      have la := (qa.out).lt
      clear hb2
      have hc2 := (hB2.cell (p := ⟨b, o + m, none⟩) hbl).trans hc
      go_wp2_with (go_at_call 62; refine (l1In_any _ _ _ _).mono ?_; rintro e w3 ⟨rfl, rfl⟩)
      go_ret
      exact ⟨by simp [leftOf], by go_grown⟩
    · skip
      go_enter Try.func15, Try.ntmps15
      go_wp2_with fail
      refine (sHealthValid_any _ _ _).mono ?_
      rw [hv]
      rintro e w1 ⟨rfl, hb1⟩
      have hB1 : Below w.heap.size w w1 := Below.andThen (by go_grown) hb1
      have hS1 := hB1.size
      have qa : Hid (Blk w1 (w.heap.size) 26 #[.bool false, .int .i64 r]) := Blk.below (w' := w1) (by repeat' (first | (refine Blk.at_ _ _ _ ?_; first | rfl | (simp; done)) | refine Blk.alloc ?_ _ | assumption)) (Nat.le_refl _) hb1
      have ka_0 := (qa.out).cell 0 rfl
      have fa_0 := (qa.out).frozen 0
      have ka_1 := (qa.out).cell 1 rfl
      have fa_1 := (qa.out).frozen 1
      have la := (qa.out).lt
      clear hb1
      go_wp2_with fail
      refine (sHealthTable_any _ _ _ zs _ (by omega) (hr.below (Nat.le_refl _) hB1)).mono ?_
      rw [ht]
      rintro e w2 ⟨rfl, hb2⟩
      have hB2 : Below w.heap.size w w2 := Below.andThen hB1 hb2
      have hS2 := hB2.size
      clear ka_0 fa_0 ka_1 fa_1 la
      have qa := Lib.hid ((qa.out).below (Nat.le_refl _) hb2)
      have ka_0 := (qa.out).cell 0 rfl
      have fa_0 := (qa.out).frozen 0
      have ka_1 := (qa.out).cell 1 rfl
      have fa_1 := (qa.out).frozen 1
      have la := (qa.out).lt
      clear hb2
      have hc2 := (hB2.cell (p := ⟨b, o + m, none⟩) hbl).trans hc
      go_wp2_with (go_at_call 62; refine (l1In_any _ _ _ _).mono ?_; rintro e w3 ⟨rfl, rfl⟩)
      go_ret
      exact ⟨by simp [leftOf], by go_grown⟩
    · skip
      go_enter Try.func15, Try.ntmps15
      go_wp2_with fail
      refine (sHealthValid_any _ _ _).mono ?_
      rw [hv]
      rintro e w1 ⟨rfl, hb1⟩
      have hB1 : Below w.heap.size w w1 := Below.andThen (by go_grown) hb1
      have hS1 := hB1.size
      have qa : Hid (Blk w1 (w.heap.size) 26 #[.bool false, .int .i64 r]) := Blk.below (w' := w1) (by repeat' (first | (refine Blk.at_ _ _ _ ?_; first | rfl | (simp; done)) | refine Blk.alloc ?_ _ | assumption)) (Nat.le_refl _) hb1
      have ka_0 := (qa.out).cell 0 rfl
      have fa_0 := (qa.out).frozen 0
      have ka_1 := (qa.out).cell 1 rfl
      have fa_1 := (qa.out).frozen 1
      have la := (qa.out).lt
      clear hb1
      go_wp2_with fail
      refine (sHealthTable_any _ _ _ zs _ (by omega) (hr.below (Nat.le_refl _) hB1)).mono ?_
      rw [ht]
      rintro e w2 ⟨rfl, hb2⟩
      have hB2 : Below w.heap.size w w2 := Below.andThen hB1 hb2
      have hS2 := hB2.size
      clear ka_0 fa_0 ka_1 fa_1 la
      have qa := Lib.hid ((qa.out).below (Nat.le_refl _) hb2)
      have ka_0 := (qa.out).cell 0 rfl
      have fa_0 := (qa.out).frozen 0
      have ka_1 := (qa.out).cell 1 rfl
      have fa_1 := (qa.out).frozen 1
      have la := (qa.out).lt
      clear hb2
      have hc2 := (hB2.cell (p := ⟨b, o + m, none⟩) hbl).trans hc
      go_wp2_with (go_at_call 62; refine (l1In_any _ _ _ _).mono ?_; rintro e w3 ⟨rfl, rfl⟩)
      go_ret
      exact ⟨by simp [leftOf], by go_grown⟩
  · skip
    go_enter Try.func15, Try.ntmps15
    go_wp2_with fail
    refine (sHealthValid_any _ _ _).mono ?_
    rw [hv]
    rintro e w1 ⟨rfl, hb1⟩
    have hB1 : Below w.heap.size w w1 := Below.andThen (by go_grown) hb1
    have hS1 := hB1.size
    have qa : Hid (Blk w1 (w.heap.size) 26 #[.bool true, .int .i64 r]) := Blk.below (w' := w1) (by repeat' (first | (refine Blk.at_ _ _ _ ?_; first | rfl | (simp; done)) | refine Blk.alloc ?_ _ | assumption)) (Nat.le_refl _) hb1
    have ka_0 := (qa.out).cell 0 rfl
    have fa_0 := (qa.out).frozen 0
    have ka_1 := (qa.out).cell 1 rfl
    have fa_1 := (qa.out).frozen 1
    have la := (qa.out).lt
    clear hb1
    go_wp2_with fail
    refine (sHealthTable_any _ _ _ zs _ (by omega) (hr.below (Nat.le_refl _) hB1)).mono ?_
    rw [ht]
    rintro e w2 ⟨rfl, hb2⟩
    have hB2 : Below w.heap.size w w2 := Below.andThen hB1 hb2
    have hS2 := hB2.size
    clear ka_0 fa_0 ka_1 fa_1 la
    have qa := Lib.hid ((qa.out).below (Nat.le_refl _) hb2)
    have ka_0 := (qa.out).cell 0 rfl
    have fa_0 := (qa.out).frozen 0
    have ka_1 := (qa.out).cell 1 rfl
    have fa_1 := (qa.out).frozen 1
    have la := (qa.out).lt
    clear hb2
    have hc2 := (hB2.cell (p := ⟨b, o + m, none⟩) hbl).trans hc
    go_wp2_with (go_at_call 62; refine (l1In_any _ _ _ _).mono ?_; rintro e w3 ⟨rfl, rfl⟩)
    go_ret
    exact ⟨by simp [leftOf], by go_grown⟩
set_option maxRecDepth 100000 in
set_option maxHeartbeats 4000000 in
theorem iFaultsLeft_no (f : Bool) (r : Int) (A : Option Addr) (n c : Nat) (zs : List Int) (fault : Int) (w : World) (hm : n ≤ 1048577) (hr : Rd w 1 A n (ints zs)) (hno : (healthValid f r && (tableOk zs && inB fault 1 3)) = false) :
    Calls Try.prog 18 #[.agg #[.bool f, .int .i64 r], .slice A n c, .int .i64 fault] w fun e w' => e = .returned (.int .i64 (-2)) ∧ Below w.heap.size w w' := by
  cases hv : healthValid f r
  · clear hno
    go_enter Try.func18, Try.ntmps18
    go_wp2_with fail
    refine (iHealthValid_any _ _ _).mono ?_
    rw [hv]
    rintro e w1 ⟨rfl, hb1⟩
    have hB1 : Below w.heap.size w w1 := Below.andThen (by go_grown) hb1
    have hS1 := hB1.size
    have qa : Hid (Blk w1 (w.heap.size) 26 #[.bool f, .int .i64 r]) := Blk.below (w' := w1) (by repeat' (first | (refine Blk.at_ _ _ _ ?_; first | rfl | (simp; done)) | refine Blk.alloc ?_ _ | assumption)) (Nat.le_refl _) hb1
    have ka_0 := (qa.out).cell 0 rfl
    have fa_0 := (qa.out).frozen 0
    have ka_1 := (qa.out).cell 1 rfl
    have fa_1 := (qa.out).frozen 1
    have la := (qa.out).lt
    clear hb1
    go_wp2
    go_ret
    exact ⟨rfl, by go_grown⟩
  · rw [hv, Bool.true_and] at hno
    cases ht : tableOk zs
    · clear hno
      go_enter Try.func18, Try.ntmps18
      go_wp2_with fail
      refine (iHealthValid_any _ _ _).mono ?_
      rw [hv]
      rintro e w1 ⟨rfl, hb1⟩
      have hB1 : Below w.heap.size w w1 := Below.andThen (by go_grown) hb1
      have hS1 := hB1.size
      have qa : Hid (Blk w1 (w.heap.size) 26 #[.bool f, .int .i64 r]) := Blk.below (w' := w1) (by repeat' (first | (refine Blk.at_ _ _ _ ?_; first | rfl | (simp; done)) | refine Blk.alloc ?_ _ | assumption)) (Nat.le_refl _) hb1
      have ka_0 := (qa.out).cell 0 rfl
      have fa_0 := (qa.out).frozen 0
      have ka_1 := (qa.out).cell 1 rfl
      have fa_1 := (qa.out).frozen 1
      have la := (qa.out).lt
      clear hb1
      go_wp2_with fail
      refine (iHealthTable_any _ _ _ zs _ (by omega) (hr.below (Nat.le_refl _) hB1)).mono ?_
      rw [ht]
      rintro e w2 ⟨rfl, hb2⟩
      have hB2 : Below w.heap.size w w2 := Below.andThen hB1 hb2
      have hS2 := hB2.size
      clear ka_0 fa_0 ka_1 fa_1 la
      have qa := Lib.hid ((qa.out).below (Nat.le_refl _) hb2)
      have ka_0 := (qa.out).cell 0 rfl
      have fa_0 := (qa.out).frozen 0
      have ka_1 := (qa.out).cell 1 rfl
      have fa_1 := (qa.out).frozen 1
      have la := (qa.out).lt
      clear hb2
      go_wp2
      go_ret
      exact ⟨rfl, by go_grown⟩
    · rw [ht, Bool.true_and] at hno
      cases hf : inB fault 0 3
      · skip
        go_enter Try.func18, Try.ntmps18
        go_wp2_with fail
        refine (iHealthValid_any _ _ _).mono ?_
        rw [hv]
        rintro e w1 ⟨rfl, hb1⟩
        have hB1 : Below w.heap.size w w1 := Below.andThen (by go_grown) hb1
        have hS1 := hB1.size
        have qa : Hid (Blk w1 (w.heap.size) 26 #[.bool f, .int .i64 r]) := Blk.below (w' := w1) (by repeat' (first | (refine Blk.at_ _ _ _ ?_; first | rfl | (simp; done)) | refine Blk.alloc ?_ _ | assumption)) (Nat.le_refl _) hb1
        have ka_0 := (qa.out).cell 0 rfl
        have fa_0 := (qa.out).frozen 0
        have ka_1 := (qa.out).cell 1 rfl
        have fa_1 := (qa.out).frozen 1
        have la := (qa.out).lt
        clear hb1
        go_wp2_with fail
        refine (iHealthTable_any _ _ _ zs _ (by omega) (hr.below (Nat.le_refl _) hB1)).mono ?_
        rw [ht]
        rintro e w2 ⟨rfl, hb2⟩
        have hB2 : Below w.heap.size w w2 := Below.andThen hB1 hb2
        have hS2 := hB2.size
        clear ka_0 fa_0 ka_1 fa_1 la
        have qa := Lib.hid ((qa.out).below (Nat.le_refl _) hb2)
        have ka_0 := (qa.out).cell 0 rfl
        have fa_0 := (qa.out).frozen 0
        have ka_1 := (qa.out).cell 1 rfl
        have fa_1 := (qa.out).frozen 1
        have la := (qa.out).lt
        clear hb2
        go_wp2_with (first | (go_at_call 65; refine (isFault_any _ _).mono ?_; rintro e w3 ⟨rfl, rfl⟩))
        go_ret
        exact ⟨rfl, by go_grown⟩
      · have h0 : fault = 0 := by (have h1 := inB_true.1 hf; have h2 := inB_false.1 hno; omega)
        subst h0
        go_enter Try.func18, Try.ntmps18
        go_wp2_with fail
        refine (iHealthValid_any _ _ _).mono ?_
        rw [hv]
        rintro e w1 ⟨rfl, hb1⟩
        have hB1 : Below w.heap.size w w1 := Below.andThen (by go_grown) hb1
        have hS1 := hB1.size
        have qa : Hid (Blk w1 (w.heap.size) 26 #[.bool f, .int .i64 r]) := Blk.below (w' := w1) (by repeat' (first | (refine Blk.at_ _ _ _ ?_; first | rfl | (simp; done)) | refine Blk.alloc ?_ _ | assumption)) (Nat.le_refl _) hb1
        have ka_0 := (qa.out).cell 0 rfl
        have fa_0 := (qa.out).frozen 0
        have ka_1 := (qa.out).cell 1 rfl
        have fa_1 := (qa.out).frozen 1
        have la := (qa.out).lt
        clear hb1
        go_wp2_with fail
        refine (iHealthTable_any _ _ _ zs _ (by omega) (hr.below (Nat.le_refl _) hB1)).mono ?_
        rw [ht]
        rintro e w2 ⟨rfl, hb2⟩
        have hB2 : Below w.heap.size w w2 := Below.andThen hB1 hb2
        have hS2 := hB2.size
        clear ka_0 fa_0 ka_1 fa_1 la
        have qa := Lib.hid ((qa.out).below (Nat.le_refl _) hb2)
        have ka_0 := (qa.out).cell 0 rfl
        have fa_0 := (qa.out).frozen 0
        have ka_1 := (qa.out).cell 1 rfl
        have fa_1 := (qa.out).frozen 1
        have la := (qa.out).lt
        clear hb2
        go_wp2_with (first | (go_at_call 65; refine (isFault_any _ _).mono ?_; rintro e w3 ⟨rfl, rfl⟩))
        go_ret
        exact ⟨rfl, by go_grown⟩
set_option maxRecDepth 100000 in
set_option maxHeartbeats 8000000 in
theorem iFaultsLeft_yes (f : Bool) (r : Int) (A : Option Addr) (n c : Nat) (zs : List Int) (fault : Int) (w : World) (hm : n ≤ 1048577) (hr : Rd w 1 A n (ints zs)) (hv : healthValid f r = true) (ht : tableOk zs = true) (hf : inB fault 1 3 = true) :
    Calls Try.prog 18 #[.agg #[.bool f, .int .i64 r], .slice A n c, .int .i64 fault] w fun e w' => e = .returned (.int .i64 (leftOf f (actOf zs fault) r)) ∧ Below w.heap.size w w' := by
  obtain ⟨f1, f3⟩ := inB_true.1 hf
  have hf0 : inB fault 0 3 = true := inB_true.2 ⟨by omega, f3⟩
  have hra := act_rng ht fault
  have hat := act_at ht f1 f3
  have hln : n = 3 := hr.len.symm.trans (table_len ht)
  have hrr : 0 ≤ r ∧ r ≤ 3 := by
    have hv1 := hv
    unfold healthValid at hv1; simp [inB] at hv1; omega
  obtain ⟨r0, r3⟩ := hrr
  obtain ⟨b, o, x, rfl, hbl, hx, hc⟩ := hr.int_ (k := (fault - 1).toNat) (by omega)
  rw [hat] at hx
  injection hx with hx
  subst hx
  generalize actOf zs fault = a at *
  subst hln
  clear hat
  obtain ⟨m, rfl⟩ : ∃ m : Nat, fault = (m : Int) + 1 := ⟨(fault - 1).toNat, by omega⟩
  have hm3 : m < 3 := by omega
  rw [show ((m : Int) + 1 - 1).toNat = m by omega] at hc
  have hf4 : ((m : Int) + 1 == 0) = false := by simp; omega
  cases f
  · rcases hra with rfl | rfl | rfl
    · skip
      go_enter Try.func18, Try.ntmps18
      go_wp2_with fail
      refine (iHealthValid_any _ _ _).mono ?_
      rw [hv]
      rintro e w1 ⟨rfl, hb1⟩
      have hB1 : Below w.heap.size w w1 := Below.andThen (by go_grown) hb1
      have hS1 := hB1.size
      have qa : Hid (Blk w1 (w.heap.size) 26 #[.bool false, .int .i64 r]) := Blk.below (w' := w1) (by repeat' (first | (refine Blk.at_ _ _ _ ?_; first | rfl | (simp; done)) | refine Blk.alloc ?_ _ | assumption)) (Nat.le_refl _) hb1
      have ka_0 := (qa.out).cell 0 rfl
      have fa_0 := (qa.out).frozen 0
      have ka_1 := (qa.out).cell 1 rfl
      have fa_1 := (qa.out).frozen 1
      have la := (qa.out).lt
      clear hb1
      go_wp2_with fail
      refine (iHealthTable_any _ _ _ zs _ (by omega) (hr.below (Nat.le_refl _) hB1)).mono ?_
      rw [ht]
      rintro e w2 ⟨rfl, hb2⟩
      have hB2 : Below w.heap.size w w2 := Below.andThen hB1 hb2
      have hS2 := hB2.size
      clear ka_0 fa_0 ka_1 fa_1 la
      have qa := Lib.hid ((qa.out).below (Nat.le_refl _) hb2)
      have ka_0 := (qa.out).cell 0 rfl
      have fa_0 := (qa.out).frozen 0
      have ka_1 := (qa.out).cell 1 rfl
      have fa_1 := (qa.out).frozen 1
      have la := (qa.out).lt
      clear hb2
      have hc2 := (hB2.cell (p := ⟨b, o + m, none⟩) hbl).trans hc
      go_wp2_with (first | (go_at_call 65; refine (isFault_any _ _).mono ?_; rintro e w3 ⟨rfl, rfl⟩))
      go_ret
      exact ⟨by simp [leftOf], by go_grown⟩
    · skip
      go_enter Try.func18, Try.ntmps18
      go_wp2_with fail
      refine (iHealthValid_any _ _ _).mono ?_
      rw [hv]
      rintro e w1 ⟨rfl, hb1⟩
      have hB1 : Below w.heap.size w w1 := Below.andThen (by go_grown) hb1
      have hS1 := hB1.size
      have qa : Hid (Blk w1 (w.heap.size) 26 #[.bool false, .int .i64 r]) := Blk.below (w' := w1) (by repeat' (first | (refine Blk.at_ _ _ _ ?_; first | rfl | (simp; done)) | refine Blk.alloc ?_ _ | assumption)) (Nat.le_refl _) hb1
      have ka_0 := (qa.out).cell 0 rfl
      have fa_0 := (qa.out).frozen 0
      have ka_1 := (qa.out).cell 1 rfl
      have fa_1 := (qa.out).frozen 1
      have la := (qa.out).lt
      clear hb1
      go_wp2_with fail
      refine (iHealthTable_any _ _ _ zs _ (by omega) (hr.below (Nat.le_refl _) hB1)).mono ?_
      rw [ht]
      rintro e w2 ⟨rfl, hb2⟩
      have hB2 : Below w.heap.size w w2 := Below.andThen hB1 hb2
      have hS2 := hB2.size
      clear ka_0 fa_0 ka_1 fa_1 la
      have qa := Lib.hid ((qa.out).below (Nat.le_refl _) hb2)
      have ka_0 := (qa.out).cell 0 rfl
      have fa_0 := (qa.out).frozen 0
      have ka_1 := (qa.out).cell 1 rfl
      have fa_1 := (qa.out).frozen 1
      have la := (qa.out).lt
      clear hb2
      have hc2 := (hB2.cell (p := ⟨b, o + m, none⟩) hbl).trans hc
      go_wp2_with (first | (go_at_call 65; refine (isFault_any _ _).mono ?_; rintro e w3 ⟨rfl, rfl⟩))
      go_ret
      exact ⟨by simp [leftOf], by go_grown⟩
    · skip
      go_enter Try.func18, Try.ntmps18
      go_wp2_with fail
      refine (iHealthValid_any _ _ _).mono ?_
      rw [hv]
      rintro e w1 ⟨rfl, hb1⟩
      have hB1 : Below w.heap.size w w1 := Below.andThen (by go_grown) hb1
      have hS1 := hB1.size
      have qa : Hid (Blk w1 (w.heap.size) 26 #[.bool false, .int .i64 r]) := Blk.below (w' := w1) (by repeat' (first | (refine Blk.at_ _ _ _ ?_; first | rfl | (simp; done)) | refine Blk.alloc ?_ _ | assumption)) (Nat.le_refl _) hb1
      have ka_0 := (qa.out).cell 0 rfl
      have fa_0 := (qa.out).frozen 0
      have ka_1 := (qa.out).cell 1 rfl
      have fa_1 := (qa.out).frozen 1
      have la := (qa.out).lt
      clear hb1
      go_wp2_with fail
      refine (iHealthTable_any _ _ _ zs _ (by omega) (hr.below (Nat.le_refl _) hB1)).mono ?_
      rw [ht]
      rintro e w2 ⟨rfl, hb2⟩
      have hB2 : Below w.heap.size w w2 := Below.andThen hB1 hb2
      have hS2 := hB2.size
      clear ka_0 fa_0 ka_1 fa_1 la
      have qa := Lib.hid ((qa.out).below (Nat.le_refl _) hb2)
      have ka_0 := (qa.out).cell 0 rfl
      have fa_0 := (qa.out).frozen 0
      have ka_1 := (qa.out).cell 1 rfl
      have fa_1 := (qa.out).frozen 1
      have la := (qa.out).lt
      clear hb2
      have hc2 := (hB2.cell (p := ⟨b, o + m, none⟩) hbl).trans hc
      go_wp2_with (first | (go_at_call 65; refine (isFault_any _ _).mono ?_; rintro e w3 ⟨rfl, rfl⟩))
      go_ret
      exact ⟨by simp [leftOf], by go_grown⟩
  · skip
    go_enter Try.func18, Try.ntmps18
    go_wp2_with fail
    refine (iHealthValid_any _ _ _).mono ?_
    rw [hv]
    rintro e w1 ⟨rfl, hb1⟩
    have hB1 : Below w.heap.size w w1 := Below.andThen (by go_grown) hb1
    have hS1 := hB1.size
    have qa : Hid (Blk w1 (w.heap.size) 26 #[.bool true, .int .i64 r]) := Blk.below (w' := w1) (by repeat' (first | (refine Blk.at_ _ _ _ ?_; first | rfl | (simp; done)) | refine Blk.alloc ?_ _ | assumption)) (Nat.le_refl _) hb1
    have ka_0 := (qa.out).cell 0 rfl
    have fa_0 := (qa.out).frozen 0
    have ka_1 := (qa.out).cell 1 rfl
    have fa_1 := (qa.out).frozen 1
    have la := (qa.out).lt
    clear hb1
    go_wp2_with fail
    refine (iHealthTable_any _ _ _ zs _ (by omega) (hr.below (Nat.le_refl _) hB1)).mono ?_
    rw [ht]
    rintro e w2 ⟨rfl, hb2⟩
    have hB2 : Below w.heap.size w w2 := Below.andThen hB1 hb2
    have hS2 := hB2.size
    clear ka_0 fa_0 ka_1 fa_1 la
    have qa := Lib.hid ((qa.out).below (Nat.le_refl _) hb2)
    have ka_0 := (qa.out).cell 0 rfl
    have fa_0 := (qa.out).frozen 0
    have ka_1 := (qa.out).cell 1 rfl
    have fa_1 := (qa.out).frozen 1
    have la := (qa.out).lt
    clear hb2
    have hc2 := (hB2.cell (p := ⟨b, o + m, none⟩) hbl).trans hc
    go_wp2_with (first | (go_at_call 65; refine (isFault_any _ _).mono ?_; rintro e w3 ⟨rfl, rfl⟩))
    go_ret
    exact ⟨by simp [leftOf], by go_grown⟩
end Go.Proofs.Ytjdhfehffgccmaa
