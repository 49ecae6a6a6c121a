/-
  CONTRACTS of WindowsMeet.
  Conditions: none beyond those that each states.
-/
import Derived.Test.YtlckjhbgdbhdmaaMeet
namespace Go.Proofs.Ytlckjhbgdbhdmaa
open Go.ChangeShapes Go.WideShapes Go.ChangeAt Go.RowKit Go.Joins
set_option linter.unusedVariables false

def wmB (x y : Win) : Bool := (winOk x && winOk y) && meetB x y
def wmV (x y : Win) : Win := if (winOk x && winOk y) = true then meetV x y else (0, 0, false)
theorem wmB_no {x y : Win} (h : (winOk x && winOk y) = false) : wmB x y = false := by unfold wmB; rw [h]; rfl
theorem wmV_no {x y : Win} (h : (winOk x && winOk y) = false) : wmV x y = (0, 0, false) := by unfold wmV; rw [h]; rfl
theorem wmB_yes {x y : Win} (h1 : winOk x = true) (h2 : winOk y = true) : wmB x y = meetB x y := by unfold wmB; rw [h1, h2]; rfl
theorem wmV_yes {x y : Win} (h1 : winOk x = true) (h2 : winOk y = true) : wmV x y = meetV x y := by unfold wmV; rw [h1, h2]; rfl
set_option maxRecDepth 100000 in
set_option maxHeartbeats 8000000 in
theorem sWindowsMeet_any (a s b t : Int) (u v : Bool) (w : World) :
    Calls Try.prog 88 #[.agg #[.int .i64 a, .int .i64 s, .bool u], .agg #[.int .i64 b, .int .i64 t, .bool v]] w fun e w' => RetMeet w (wmB (a, s, u) (b, t, v)) (wmV (a, s, u) (b, t, v)) e w' := by
  cases h1 : winOk (a, s, u)
  · rw [wmB_no (by rw [h1]; rfl), wmV_no (by rw [h1]; rfl)]
    by_cases c1 : a < b
    all_goals
      go_enter Try.func88, Try.ntmps88
      go_wp2_with fail
      refine (l1Window_is h1 _).mono ?_
      rintro e w1 ⟨rfl, hb1⟩
      have hT1 : Below w.heap.size w w1 := Below.andThen (by go_grown) hb1
      have hS1 := hT1.size
      have HB1 : Hid (Below w.heap.size w w1) := hT1
      have qa : Hid (Blk w1 (w.heap.size) 71 #[.int .i64 a, .int .i64 s, .bool u]) := Blk.below (w' := w1) (by first | ((repeat' (first | (refine Blk.at_ _ _ _ ?_; first | rfl | (simp; done)) | refine Blk.alloc ?_ _ | refine Blk.drewN ?_ _ | assumption)); done) | (refine Blk.drew ?_; (repeat' (first | (refine Blk.at_ _ _ _ ?_; first | rfl | (simp; done)) | refine Blk.alloc ?_ _ | refine Blk.drewN ?_ _ | assumption)); done)) (Nat.le_refl _) hb1
      have qb : Hid (Blk w1 (w.heap.size + 1) 71 #[.int .i64 b, .int .i64 t, .bool v]) := Blk.below (w' := w1) (by first | ((repeat' (first | (refine Blk.at_ _ _ _ ?_; first | rfl | (simp; done)) | refine Blk.alloc ?_ _ | refine Blk.drewN ?_ _ | assumption)); done) | (refine Blk.drew ?_; (repeat' (first | (refine Blk.at_ _ _ _ ?_; first | rfl | (simp; done)) | refine Blk.alloc ?_ _ | refine Blk.drewN ?_ _ | assumption)); done)) (Nat.le_refl _) hb1
      have qr : Hid (Blk w1 (w.heap.size + 1 + 1) 71 #[.int .i64 0, .int .i64 0, .bool false]) := Blk.below (w' := w1) (by first | ((repeat' (first | (refine Blk.at_ _ _ _ ?_; first | rfl | (simp; done)) | refine Blk.alloc ?_ _ | refine Blk.drewN ?_ _ | assumption)); done) | (refine Blk.drew ?_; (repeat' (first | (refine Blk.at_ _ _ _ ?_; first | rfl | (simp; done)) | refine Blk.alloc ?_ _ | refine Blk.drewN ?_ _ | assumption)); done)) (Nat.le_refl _) hb1
      have hSb1 : w.heap.size + 1 + 1 + 1 ≤ w1.heap.size := (by have := hb1.size; simpa using this)
      have ka_0 := qa.out.cell 0 rfl
      have ka_1 := qa.out.cell 1 rfl
      have ka_2 := qa.out.cell 2 rfl
      have fa_0 := qa.out.frozen 0
      have fa_1 := qa.out.frozen 1
      have fa_2 := qa.out.frozen 2
      have la := qa.out.lt
      have kb_0 := qb.out.cell 0 rfl
      have kb_1 := qb.out.cell 1 rfl
      have kb_2 := qb.out.cell 2 rfl
      have fb_0 := qb.out.frozen 0
      have fb_1 := qb.out.frozen 1
      have fb_2 := qb.out.frozen 2
      have lb := qb.out.lt
      have kr_0 := qr.out.cell 0 rfl
      have kr_1 := qr.out.cell 1 rfl
      have kr_2 := qr.out.cell 2 rfl
      have fr_0 := qr.out.frozen 0
      have fr_1 := qr.out.frozen 1
      have fr_2 := qr.out.frozen 2
      have lr := qr.out.lt
      clear hb1 hT1
      go_wp2
      refine bodyPost_ret (v := .tuple #[.agg #[.int .i64 0, .int .i64 0, .bool false], .bool false]) (by simp [results, Try.results88, go_sem, *]) rfl ?_
      exact ⟨rfl, by first | exact HB1.out | exact (((HB1.out.setCell (by first | (simp; done) | (simp; omega)) _).setCell (by first | (simp; done) | (simp; omega)) _).setCell (by first | (simp; done) | (simp; omega)) _)⟩
  · cases h2 : winOk (b, t, v)
    · rw [wmB_no (by rw [h1, h2]; rfl), wmV_no (by rw [h1, h2]; rfl)]
      by_cases c1 : a < b
      all_goals
        go_enter Try.func88, Try.ntmps88
        go_wp2_with fail
        refine (l1Window_is h1 _).mono ?_
        rintro e w1 ⟨rfl, hb1⟩
        have hT1 : Below w.heap.size w w1 := Below.andThen (by go_grown) hb1
        have hS1 := hT1.size
        have HB1 : Hid (Below w.heap.size w w1) := hT1
        have qa : Hid (Blk w1 (w.heap.size) 71 #[.int .i64 a, .int .i64 s, .bool u]) := Blk.below (w' := w1) (by first | ((repeat' (first | (refine Blk.at_ _ _ _ ?_; first | rfl | (simp; done)) | refine Blk.alloc ?_ _ | refine Blk.drewN ?_ _ | assumption)); done) | (refine Blk.drew ?_; (repeat' (first | (refine Blk.at_ _ _ _ ?_; first | rfl | (simp; done)) | refine Blk.alloc ?_ _ | refine Blk.drewN ?_ _ | assumption)); done)) (Nat.le_refl _) hb1
        have qb : Hid (Blk w1 (w.heap.size + 1) 71 #[.int .i64 b, .int .i64 t, .bool v]) := Blk.below (w' := w1) (by first | ((repeat' (first | (refine Blk.at_ _ _ _ ?_; first | rfl | (simp; done)) | refine Blk.alloc ?_ _ | refine Blk.drewN ?_ _ | assumption)); done) | (refine Blk.drew ?_; (repeat' (first | (refine Blk.at_ _ _ _ ?_; first | rfl | (simp; done)) | refine Blk.alloc ?_ _ | refine Blk.drewN ?_ _ | assumption)); done)) (Nat.le_refl _) hb1
        have qr : Hid (Blk w1 (w.heap.size + 1 + 1) 71 #[.int .i64 0, .int .i64 0, .bool false]) := Blk.below (w' := w1) (by first | ((repeat' (first | (refine Blk.at_ _ _ _ ?_; first | rfl | (simp; done)) | refine Blk.alloc ?_ _ | refine Blk.drewN ?_ _ | assumption)); done) | (refine Blk.drew ?_; (repeat' (first | (refine Blk.at_ _ _ _ ?_; first | rfl | (simp; done)) | refine Blk.alloc ?_ _ | refine Blk.drewN ?_ _ | assumption)); done)) (Nat.le_refl _) hb1
        have hSb1 : w.heap.size + 1 + 1 + 1 ≤ w1.heap.size := (by have := hb1.size; simpa using this)
        have ka_0 := qa.out.cell 0 rfl
        have ka_1 := qa.out.cell 1 rfl
        have ka_2 := qa.out.cell 2 rfl
        have fa_0 := qa.out.frozen 0
        have fa_1 := qa.out.frozen 1
        have fa_2 := qa.out.frozen 2
        have la := qa.out.lt
        have kb_0 := qb.out.cell 0 rfl
        have kb_1 := qb.out.cell 1 rfl
        have kb_2 := qb.out.cell 2 rfl
        have fb_0 := qb.out.frozen 0
        have fb_1 := qb.out.frozen 1
        have fb_2 := qb.out.frozen 2
        have lb := qb.out.lt
        have kr_0 := qr.out.cell 0 rfl
        have kr_1 := qr.out.cell 1 rfl
        have kr_2 := qr.out.cell 2 rfl
        have fr_0 := qr.out.frozen 0
        have fr_1 := qr.out.frozen 1
        have fr_2 := qr.out.frozen 2
        have lr := qr.out.lt
        clear hb1 hT1
        go_wp2_with fail
        refine (l1Window_is h2 _).mono ?_
        rintro e w2 ⟨rfl, hb2⟩
        clear la ka_0 ka_1 ka_2 fa_0 fa_1 fa_2 lb kb_0 kb_1 kb_2 fb_0 fb_1 fb_2 lr kr_0 kr_1 kr_2 fr_0 fr_1 fr_2
        have hT2 : Below w1.heap.size w1 w2 := Below.andThen (by go_grown) hb2
        have hS2 := hT2.size
        have HB2 : Hid (Below w.heap.size w w2) := Below.andThen HB1.out hT2
        have qa := Lib.hid (qa.out.below (Nat.le_refl _) hT2)
        have qb := Lib.hid (qb.out.below (Nat.le_refl _) hT2)
        have qr := Lib.hid (qr.out.below (Nat.le_refl _) hT2)
        have ka_0 := qa.out.cell 0 rfl
        have ka_1 := qa.out.cell 1 rfl
        have ka_2 := qa.out.cell 2 rfl
        have fa_0 := qa.out.frozen 0
        have fa_1 := qa.out.frozen 1
        have fa_2 := qa.out.frozen 2
        have la := qa.out.lt
        have kb_0 := qb.out.cell 0 rfl
        have kb_1 := qb.out.cell 1 rfl
        have kb_2 := qb.out.cell 2 rfl
        have fb_0 := qb.out.frozen 0
        have fb_1 := qb.out.frozen 1
        have fb_2 := qb.out.frozen 2
        have lb := qb.out.lt
        have kr_0 := qr.out.cell 0 rfl
        have kr_1 := qr.out.cell 1 rfl
        have kr_2 := qr.out.cell 2 rfl
        have fr_0 := qr.out.frozen 0
        have fr_1 := qr.out.frozen 1
        have fr_2 := qr.out.frozen 2
        have lr := qr.out.lt
        clear hb2 hT2
        go_wp2
        refine bodyPost_ret (v := .tuple #[.agg #[.int .i64 0, .int .i64 0, .bool false], .bool false]) (by simp [results, Try.results88, go_sem, *]) rfl ?_
        exact ⟨rfl, by first | exact HB2.out | exact (((HB2.out.setCell (by first | (simp; done) | (simp; omega)) _).setCell (by first | (simp; done) | (simp; omega)) _).setCell (by first | (simp; done) | (simp; omega)) _)⟩
    · rw [wmB_yes h1 h2, wmV_yes h1 h2]
      obtain ⟨ha0, ha1, hs0, hs1⟩ := winOk_use h1
      obtain ⟨hb0, hb1, ht0, ht1⟩ := winOk_use h2
      by_cases c1 : a < b
      · skip
        have hL : (if a < b then b else a) = b := if_pos c1
        by_cases c2 : b + t < a + s
        · skip
          have hH : (if b + t < a + s then b + t else a + s) = (b + t) := if_pos c2
          by_cases c3 : b < (b + t)
          · skip
            obtain ⟨e1, e2⟩ := meetV_yes (u := u) (v := v) hL hH c3
            rw [e1, e2]
            clear e1 e2 hL hH
            cases u
            · skip
              go_enter Try.func88, Try.ntmps88
              go_wp2_with fail
              refine (l1Window_is h1 _).mono ?_
              rintro e w1 ⟨rfl, hb1⟩
              have hT1 : Below w.heap.size w w1 := Below.andThen (by go_grown) hb1
              have hS1 := hT1.size
              have HB1 : Hid (Below w.heap.size w w1) := hT1
              have qa : Hid (Blk w1 (w.heap.size) 71 #[.int .i64 a, .int .i64 s, .bool false]) := Blk.below (w' := w1) (by first | ((repeat' (first | (refine Blk.at_ _ _ _ ?_; first | rfl | (simp; done)) | refine Blk.alloc ?_ _ | refine Blk.drewN ?_ _ | assumption)); done) | (refine Blk.drew ?_; (repeat' (first | (refine Blk.at_ _ _ _ ?_; first | rfl | (simp; done)) | refine Blk.alloc ?_ _ | refine Blk.drewN ?_ _ | assumption)); done)) (Nat.le_refl _) hb1
              have qb : Hid (Blk w1 (w.heap.size + 1) 71 #[.int .i64 b, .int .i64 t, .bool v]) := Blk.below (w' := w1) (by first | ((repeat' (first | (refine Blk.at_ _ _ _ ?_; first | rfl | (simp; done)) | refine Blk.alloc ?_ _ | refine Blk.drewN ?_ _ | assumption)); done) | (refine Blk.drew ?_; (repeat' (first | (refine Blk.at_ _ _ _ ?_; first | rfl | (simp; done)) | refine Blk.alloc ?_ _ | refine Blk.drewN ?_ _ | assumption)); done)) (Nat.le_refl _) hb1
              have qr : Hid (Blk w1 (w.heap.size + 1 + 1) 71 #[.int .i64 0, .int .i64 0, .bool false]) := Blk.below (w' := w1) (by first | ((repeat' (first | (refine Blk.at_ _ _ _ ?_; first | rfl | (simp; done)) | refine Blk.alloc ?_ _ | refine Blk.drewN ?_ _ | assumption)); done) | (refine Blk.drew ?_; (repeat' (first | (refine Blk.at_ _ _ _ ?_; first | rfl | (simp; done)) | refine Blk.alloc ?_ _ | refine Blk.drewN ?_ _ | assumption)); done)) (Nat.le_refl _) hb1
              have hSb1 : w.heap.size + 1 + 1 + 1 ≤ w1.heap.size := (by have := hb1.size; simpa using this)
              have ka_0 := qa.out.cell 0 rfl
              have ka_1 := qa.out.cell 1 rfl
              have ka_2 := qa.out.cell 2 rfl
              have fa_0 := qa.out.frozen 0
              have fa_1 := qa.out.frozen 1
              have fa_2 := qa.out.frozen 2
              have la := qa.out.lt
              have kb_0 := qb.out.cell 0 rfl
              have kb_1 := qb.out.cell 1 rfl
              have kb_2 := qb.out.cell 2 rfl
              have fb_0 := qb.out.frozen 0
              have fb_1 := qb.out.frozen 1
              have fb_2 := qb.out.frozen 2
              have lb := qb.out.lt
              have kr_0 := qr.out.cell 0 rfl
              have kr_1 := qr.out.cell 1 rfl
              have kr_2 := qr.out.cell 2 rfl
              have fr_0 := qr.out.frozen 0
              have fr_1 := qr.out.frozen 1
              have fr_2 := qr.out.frozen 2
              have lr := qr.out.lt
              clear hb1 hT1
              go_wp2_with fail
              refine (l1Window_is h2 _).mono ?_
              rintro e w2 ⟨rfl, hb2⟩
              clear la ka_0 ka_1 ka_2 fa_0 fa_1 fa_2 lb kb_0 kb_1 kb_2 fb_0 fb_1 fb_2 lr kr_0 kr_1 kr_2 fr_0 fr_1 fr_2
              have hT2 : Below w1.heap.size w1 w2 := Below.andThen (by go_grown) hb2
              have hS2 := hT2.size
              have HB2 : Hid (Below w.heap.size w w2) := Below.andThen HB1.out hT2
              have qa := Lib.hid (qa.out.below (Nat.le_refl _) hT2)
              have qb := Lib.hid (qb.out.below (Nat.le_refl _) hT2)
              have qr := Lib.hid (qr.out.below (Nat.le_refl _) hT2)
              have ka_0 := qa.out.cell 0 rfl
              have ka_1 := qa.out.cell 1 rfl
              have ka_2 := qa.out.cell 2 rfl
              have fa_0 := qa.out.frozen 0
              have fa_1 := qa.out.frozen 1
              have fa_2 := qa.out.frozen 2
              have la := qa.out.lt
              have kb_0 := qb.out.cell 0 rfl
              have kb_1 := qb.out.cell 1 rfl
              have kb_2 := qb.out.cell 2 rfl
              have fb_0 := qb.out.frozen 0
              have fb_1 := qb.out.frozen 1
              have fb_2 := qb.out.frozen 2
              have lb := qb.out.lt
              have kr_0 := qr.out.cell 0 rfl
              have kr_1 := qr.out.cell 1 rfl
              have kr_2 := qr.out.cell 2 rfl
              have fr_0 := qr.out.frozen 0
              have fr_1 := qr.out.frozen 1
              have fr_2 := qr.out.frozen 2
              have lr := qr.out.lt
              clear hb2 hT2
              go_wp2
              refine bodyPost_ret (v := .tuple #[.agg #[.int .i64 b, .int .i64 ((b + t) - b), .bool false], .bool true]) (by simp [results, Try.results88, go_sem, *]) rfl ?_
              exact ⟨rfl, by first | exact HB2.out | exact (((HB2.out.setCell (by first | (simp; done) | (simp; omega)) _).setCell (by first | (simp; done) | (simp; omega)) _).setCell (by first | (simp; done) | (simp; omega)) _)⟩
            · skip
              go_enter Try.func88, Try.ntmps88
              go_wp2_with fail
              refine (l1Window_is h1 _).mono ?_
              rintro e w1 ⟨rfl, hb1⟩
              have hT1 : Below w.heap.size w w1 := Below.andThen (by go_grown) hb1
              have hS1 := hT1.size
              have HB1 : Hid (Below w.heap.size w w1) := hT1
              have qa : Hid (Blk w1 (w.heap.size) 71 #[.int .i64 a, .int .i64 s, .bool true]) := Blk.below (w' := w1) (by first | ((repeat' (first | (refine Blk.at_ _ _ _ ?_; first | rfl | (simp; done)) | refine Blk.alloc ?_ _ | refine Blk.drewN ?_ _ | assumption)); done) | (refine Blk.drew ?_; (repeat' (first | (refine Blk.at_ _ _ _ ?_; first | rfl | (simp; done)) | refine Blk.alloc ?_ _ | refine Blk.drewN ?_ _ | assumption)); done)) (Nat.le_refl _) hb1
              have qb : Hid (Blk w1 (w.heap.size + 1) 71 #[.int .i64 b, .int .i64 t, .bool v]) := Blk.below (w' := w1) (by first | ((repeat' (first | (refine Blk.at_ _ _ _ ?_; first | rfl | (simp; done)) | refine Blk.alloc ?_ _ | refine Blk.drewN ?_ _ | assumption)); done) | (refine Blk.drew ?_; (repeat' (first | (refine Blk.at_ _ _ _ ?_; first | rfl | (simp; done)) | refine Blk.alloc ?_ _ | refine Blk.drewN ?_ _ | assumption)); done)) (Nat.le_refl _) hb1
              have qr : Hid (Blk w1 (w.heap.size + 1 + 1) 71 #[.int .i64 0, .int .i64 0, .bool false]) := Blk.below (w' := w1) (by first | ((repeat' (first | (refine Blk.at_ _ _ _ ?_; first | rfl | (simp; done)) | refine Blk.alloc ?_ _ | refine Blk.drewN ?_ _ | assumption)); done) | (refine Blk.drew ?_; (repeat' (first | (refine Blk.at_ _ _ _ ?_; first | rfl | (simp; done)) | refine Blk.alloc ?_ _ | refine Blk.drewN ?_ _ | assumption)); done)) (Nat.le_refl _) hb1
              have hSb1 : w.heap.size + 1 + 1 + 1 ≤ w1.heap.size := (by have := hb1.size; simpa using this)
              have ka_0 := qa.out.cell 0 rfl
              have ka_1 := qa.out.cell 1 rfl
              have ka_2 := qa.out.cell 2 rfl
              have fa_0 := qa.out.frozen 0
              have fa_1 := qa.out.frozen 1
              have fa_2 := qa.out.frozen 2
              have la := qa.out.lt
              have kb_0 := qb.out.cell 0 rfl
              have kb_1 := qb.out.cell 1 rfl
              have kb_2 := qb.out.cell 2 rfl
              have fb_0 := qb.out.frozen 0
              have fb_1 := qb.out.frozen 1
              have fb_2 := qb.out.frozen 2
              have lb := qb.out.lt
              have kr_0 := qr.out.cell 0 rfl
              have kr_1 := qr.out.cell 1 rfl
              have kr_2 := qr.out.cell 2 rfl
              have fr_0 := qr.out.frozen 0
              have fr_1 := qr.out.frozen 1
              have fr_2 := qr.out.frozen 2
              have lr := qr.out.lt
              clear hb1 hT1
              go_wp2_with fail
              refine (l1Window_is h2 _).mono ?_
              rintro e w2 ⟨rfl, hb2⟩
              clear la ka_0 ka_1 ka_2 fa_0 fa_1 fa_2 lb kb_0 kb_1 kb_2 fb_0 fb_1 fb_2 lr kr_0 kr_1 kr_2 fr_0 fr_1 fr_2
              have hT2 : Below w1.heap.size w1 w2 := Below.andThen (by go_grown) hb2
              have hS2 := hT2.size
              have HB2 : Hid (Below w.heap.size w w2) := Below.andThen HB1.out hT2
              have qa := Lib.hid (qa.out.below (Nat.le_refl _) hT2)
              have qb := Lib.hid (qb.out.below (Nat.le_refl _) hT2)
              have qr := Lib.hid (qr.out.below (Nat.le_refl _) hT2)
              have ka_0 := qa.out.cell 0 rfl
              have ka_1 := qa.out.cell 1 rfl
              have ka_2 := qa.out.cell 2 rfl
              have fa_0 := qa.out.frozen 0
              have fa_1 := qa.out.frozen 1
              have fa_2 := qa.out.frozen 2
              have la := qa.out.lt
              have kb_0 := qb.out.cell 0 rfl
              have kb_1 := qb.out.cell 1 rfl
              have kb_2 := qb.out.cell 2 rfl
              have fb_0 := qb.out.frozen 0
              have fb_1 := qb.out.frozen 1
              have fb_2 := qb.out.frozen 2
              have lb := qb.out.lt
              have kr_0 := qr.out.cell 0 rfl
              have kr_1 := qr.out.cell 1 rfl
              have kr_2 := qr.out.cell 2 rfl
              have fr_0 := qr.out.frozen 0
              have fr_1 := qr.out.frozen 1
              have fr_2 := qr.out.frozen 2
              have lr := qr.out.lt
              clear hb2 hT2
              go_wp2
              refine bodyPost_ret (v := .tuple #[.agg #[.int .i64 b, .int .i64 ((b + t) - b), .bool v], .bool true]) (by simp [results, Try.results88, go_sem, *]) rfl ?_
              exact ⟨rfl, by first | exact HB2.out | exact (((HB2.out.setCell (by first | (simp; done) | (simp; omega)) _).setCell (by first | (simp; done) | (simp; omega)) _).setCell (by first | (simp; done) | (simp; omega)) _)⟩
          · skip
            exfalso; omega
        · skip
          have hH : (if b + t < a + s then b + t else a + s) = (a + s) := if_neg c2
          by_cases c3 : b < (a + s)
          · skip
            obtain ⟨e1, e2⟩ := meetV_yes (u := u) (v := v) hL hH c3
            rw [e1, e2]
            clear e1 e2 hL hH
            cases u
            · skip
              go_enter Try.func88, Try.ntmps88
              go_wp2_with fail
              refine (l1Window_is h1 _).mono ?_
              rintro e w1 ⟨rfl, hb1⟩
              have hT1 : Below w.heap.size w w1 := Below.andThen (by go_grown) hb1
              have hS1 := hT1.size
              have HB1 : Hid (Below w.heap.size w w1) := hT1
              have qa : Hid (Blk w1 (w.heap.size) 71 #[.int .i64 a, .int .i64 s, .bool false]) := Blk.below (w' := w1) (by first | ((repeat' (first | (refine Blk.at_ _ _ _ ?_; first | rfl | (simp; done)) | refine Blk.alloc ?_ _ | refine Blk.drewN ?_ _ | assumption)); done) | (refine Blk.drew ?_; (repeat' (first | (refine Blk.at_ _ _ _ ?_; first | rfl | (simp; done)) | refine Blk.alloc ?_ _ | refine Blk.drewN ?_ _ | assumption)); done)) (Nat.le_refl _) hb1
              have qb : Hid (Blk w1 (w.heap.size + 1) 71 #[.int .i64 b, .int .i64 t, .bool v]) := Blk.below (w' := w1) (by first | ((repeat' (first | (refine Blk.at_ _ _ _ ?_; first | rfl | (simp; done)) | refine Blk.alloc ?_ _ | refine Blk.drewN ?_ _ | assumption)); done) | (refine Blk.drew ?_; (repeat' (first | (refine Blk.at_ _ _ _ ?_; first | rfl | (simp; done)) | refine Blk.alloc ?_ _ | refine Blk.drewN ?_ _ | assumption)); done)) (Nat.le_refl _) hb1
              have qr : Hid (Blk w1 (w.heap.size + 1 + 1) 71 #[.int .i64 0, .int .i64 0, .bool false]) := Blk.below (w' := w1) (by first | ((repeat' (first | (refine Blk.at_ _ _ _ ?_; first | rfl | (simp; done)) | refine Blk.alloc ?_ _ | refine Blk.drewN ?_ _ | assumption)); done) | (refine Blk.drew ?_; (repeat' (first | (refine Blk.at_ _ _ _ ?_; first | rfl | (simp; done)) | refine Blk.alloc ?_ _ | refine Blk.drewN ?_ _ | assumption)); done)) (Nat.le_refl _) hb1
              have hSb1 : w.heap.size + 1 + 1 + 1 ≤ w1.heap.size := (by have := hb1.size; simpa using this)
              have ka_0 := qa.out.cell 0 rfl
              have ka_1 := qa.out.cell 1 rfl
              have ka_2 := qa.out.cell 2 rfl
              have fa_0 := qa.out.frozen 0
              have fa_1 := qa.out.frozen 1
              have fa_2 := qa.out.frozen 2
              have la := qa.out.lt
              have kb_0 := qb.out.cell 0 rfl
              have kb_1 := qb.out.cell 1 rfl
              have kb_2 := qb.out.cell 2 rfl
              have fb_0 := qb.out.frozen 0
              have fb_1 := qb.out.frozen 1
              have fb_2 := qb.out.frozen 2
              have lb := qb.out.lt
              have kr_0 := qr.out.cell 0 rfl
              have kr_1 := qr.out.cell 1 rfl
              have kr_2 := qr.out.cell 2 rfl
              have fr_0 := qr.out.frozen 0
              have fr_1 := qr.out.frozen 1
              have fr_2 := qr.out.frozen 2
              have lr := qr.out.lt
              clear hb1 hT1
              go_wp2_with fail
              refine (l1Window_is h2 _).mono ?_
              rintro e w2 ⟨rfl, hb2⟩
              clear la ka_0 ka_1 ka_2 fa_0 fa_1 fa_2 lb kb_0 kb_1 kb_2 fb_0 fb_1 fb_2 lr kr_0 kr_1 kr_2 fr_0 fr_1 fr_2
              have hT2 : Below w1.heap.size w1 w2 := Below.andThen (by go_grown) hb2
              have hS2 := hT2.size
              have HB2 : Hid (Below w.heap.size w w2) := Below.andThen HB1.out hT2
              have qa := Lib.hid (qa.out.below (Nat.le_refl _) hT2)
              have qb := Lib.hid (qb.out.below (Nat.le_refl _) hT2)
              have qr := Lib.hid (qr.out.below (Nat.le_refl _) hT2)
              have ka_0 := qa.out.cell 0 rfl
              have ka_1 := qa.out.cell 1 rfl
              have ka_2 := qa.out.cell 2 rfl
              have fa_0 := qa.out.frozen 0
              have fa_1 := qa.out.frozen 1
              have fa_2 := qa.out.frozen 2
              have la := qa.out.lt
              have kb_0 := qb.out.cell 0 rfl
              have kb_1 := qb.out.cell 1 rfl
              have kb_2 := qb.out.cell 2 rfl
              have fb_0 := qb.out.frozen 0
              have fb_1 := qb.out.frozen 1
              have fb_2 := qb.out.frozen 2
              have lb := qb.out.lt
              have kr_0 := qr.out.cell 0 rfl
              have kr_1 := qr.out.cell 1 rfl
              have kr_2 := qr.out.cell 2 rfl
              have fr_0 := qr.out.frozen 0
              have fr_1 := qr.out.frozen 1
              have fr_2 := qr.out.frozen 2
              have lr := qr.out.lt
              clear hb2 hT2
              go_wp2
              refine bodyPost_ret (v := .tuple #[.agg #[.int .i64 b, .int .i64 ((a + s) - b), .bool false], .bool true]) (by simp [results, Try.results88, go_sem, *]) rfl ?_
              exact ⟨rfl, by first | exact HB2.out | exact (((HB2.out.setCell (by first | (simp; done) | (simp; omega)) _).setCell (by first | (simp; done) | (simp; omega)) _).setCell (by first | (simp; done) | (simp; omega)) _)⟩
            · skip
              go_enter Try.func88, Try.ntmps88
              go_wp2_with fail
              refine (l1Window_is h1 _).mono ?_
              rintro e w1 ⟨rfl, hb1⟩
              have hT1 : Below w.heap.size w w1 := Below.andThen (by go_grown) hb1
              have hS1 := hT1.size
              have HB1 : Hid (Below w.heap.size w w1) := hT1
              have qa : Hid (Blk w1 (w.heap.size) 71 #[.int .i64 a, .int .i64 s, .bool true]) := Blk.below (w' := w1) (by first | ((repeat' (first | (refine Blk.at_ _ _ _ ?_; first | rfl | (simp; done)) | refine Blk.alloc ?_ _ | refine Blk.drewN ?_ _ | assumption)); done) | (refine Blk.drew ?_; (repeat' (first | (refine Blk.at_ _ _ _ ?_; first | rfl | (simp; done)) | refine Blk.alloc ?_ _ | refine Blk.drewN ?_ _ | assumption)); done)) (Nat.le_refl _) hb1
              have qb : Hid (Blk w1 (w.heap.size + 1) 71 #[.int .i64 b, .int .i64 t, .bool v]) := Blk.below (w' := w1) (by first | ((repeat' (first | (refine Blk.at_ _ _ _ ?_; first | rfl | (simp; done)) | refine Blk.alloc ?_ _ | refine Blk.drewN ?_ _ | assumption)); done) | (refine Blk.drew ?_; (repeat' (first | (refine Blk.at_ _ _ _ ?_; first | rfl | (simp; done)) | refine Blk.alloc ?_ _ | refine Blk.drewN ?_ _ | assumption)); done)) (Nat.le_refl _) hb1
              have qr : Hid (Blk w1 (w.heap.size + 1 + 1) 71 #[.int .i64 0, .int .i64 0, .bool false]) := Blk.below (w' := w1) (by first | ((repeat' (first | (refine Blk.at_ _ _ _ ?_; first | rfl | (simp; done)) | refine Blk.alloc ?_ _ | refine Blk.drewN ?_ _ | assumption)); done) | (refine Blk.drew ?_; (repeat' (first | (refine Blk.at_ _ _ _ ?_; first | rfl | (simp; done)) | refine Blk.alloc ?_ _ | refine Blk.drewN ?_ _ | assumption)); done)) (Nat.le_refl _) hb1
              have hSb1 : w.heap.size + 1 + 1 + 1 ≤ w1.heap.size := (by have := hb1.size; simpa using this)
              have ka_0 := qa.out.cell 0 rfl
              have ka_1 := qa.out.cell 1 rfl
              have ka_2 := qa.out.cell 2 rfl
              have fa_0 := qa.out.frozen 0
              have fa_1 := qa.out.frozen 1
              have fa_2 := qa.out.frozen 2
              have la := qa.out.lt
              have kb_0 := qb.out.cell 0 rfl
              have kb_1 := qb.out.cell 1 rfl
              have kb_2 := qb.out.cell 2 rfl
              have fb_0 := qb.out.frozen 0
              have fb_1 := qb.out.frozen 1
              have fb_2 := qb.out.frozen 2
              have lb := qb.out.lt
              have kr_0 := qr.out.cell 0 rfl
              have kr_1 := qr.out.cell 1 rfl
              have kr_2 := qr.out.cell 2 rfl
              have fr_0 := qr.out.frozen 0
              have fr_1 := qr.out.frozen 1
              have fr_2 := qr.out.frozen 2
              have lr := qr.out.lt
              clear hb1 hT1
              go_wp2_with fail
              refine (l1Window_is h2 _).mono ?_
              rintro e w2 ⟨rfl, hb2⟩
              clear la ka_0 ka_1 ka_2 fa_0 fa_1 fa_2 lb kb_0 kb_1 kb_2 fb_0 fb_1 fb_2 lr kr_0 kr_1 kr_2 fr_0 fr_1 fr_2
              have hT2 : Below w1.heap.size w1 w2 := Below.andThen (by go_grown) hb2
              have hS2 := hT2.size
              have HB2 : Hid (Below w.heap.size w w2) := Below.andThen HB1.out hT2
              have qa := Lib.hid (qa.out.below (Nat.le_refl _) hT2)
              have qb := Lib.hid (qb.out.below (Nat.le_refl _) hT2)
              have qr := Lib.hid (qr.out.below (Nat.le_refl _) hT2)
              have ka_0 := qa.out.cell 0 rfl
              have ka_1 := qa.out.cell 1 rfl
              have ka_2 := qa.out.cell 2 rfl
              have fa_0 := qa.out.frozen 0
              have fa_1 := qa.out.frozen 1
              have fa_2 := qa.out.frozen 2
              have la := qa.out.lt
              have kb_0 := qb.out.cell 0 rfl
              have kb_1 := qb.out.cell 1 rfl
              have kb_2 := qb.out.cell 2 rfl
              have fb_0 := qb.out.frozen 0
              have fb_1 := qb.out.frozen 1
              have fb_2 := qb.out.frozen 2
              have lb := qb.out.lt
              have kr_0 := qr.out.cell 0 rfl
              have kr_1 := qr.out.cell 1 rfl
              have kr_2 := qr.out.cell 2 rfl
              have fr_0 := qr.out.frozen 0
              have fr_1 := qr.out.frozen 1
              have fr_2 := qr.out.frozen 2
              have lr := qr.out.lt
              clear hb2 hT2
              go_wp2
              refine bodyPost_ret (v := .tuple #[.agg #[.int .i64 b, .int .i64 ((a + s) - b), .bool v], .bool true]) (by simp [results, Try.results88, go_sem, *]) rfl ?_
              exact ⟨rfl, by first | exact HB2.out | exact (((HB2.out.setCell (by first | (simp; done) | (simp; omega)) _).setCell (by first | (simp; done) | (simp; omega)) _).setCell (by first | (simp; done) | (simp; omega)) _)⟩
          · skip
            obtain ⟨e1, e2⟩ := meetV_no (u := u) (v := v) hL hH (by omega)
            rw [e1, e2]
            clear e1 e2 hL hH
            go_enter Try.func88, Try.ntmps88
            go_wp2_with fail
            refine (l1Window_is h1 _).mono ?_
            rintro e w1 ⟨rfl, hb1⟩
            have hT1 : Below w.heap.size w w1 := Below.andThen (by go_grown) hb1
            have hS1 := hT1.size
            have HB1 : Hid (Below w.heap.size w w1) := hT1
            have qa : Hid (Blk w1 (w.heap.size) 71 #[.int .i64 a, .int .i64 s, .bool u]) := Blk.below (w' := w1) (by first | ((repeat' (first | (refine Blk.at_ _ _ _ ?_; first | rfl | (simp; done)) | refine Blk.alloc ?_ _ | refine Blk.drewN ?_ _ | assumption)); done) | (refine Blk.drew ?_; (repeat' (first | (refine Blk.at_ _ _ _ ?_; first | rfl | (simp; done)) | refine Blk.alloc ?_ _ | refine Blk.drewN ?_ _ | assumption)); done)) (Nat.le_refl _) hb1
            have qb : Hid (Blk w1 (w.heap.size + 1) 71 #[.int .i64 b, .int .i64 t, .bool v]) := Blk.below (w' := w1) (by first | ((repeat' (first | (refine Blk.at_ _ _ _ ?_; first | rfl | (simp; done)) | refine Blk.alloc ?_ _ | refine Blk.drewN ?_ _ | assumption)); done) | (refine Blk.drew ?_; (repeat' (first | (refine Blk.at_ _ _ _ ?_; first | rfl | (simp; done)) | refine Blk.alloc ?_ _ | refine Blk.drewN ?_ _ | assumption)); done)) (Nat.le_refl _) hb1
            have qr : Hid (Blk w1 (w.heap.size + 1 + 1) 71 #[.int .i64 0, .int .i64 0, .bool false]) := Blk.below (w' := w1) (by first | ((repeat' (first | (refine Blk.at_ _ _ _ ?_; first | rfl | (simp; done)) | refine Blk.alloc ?_ _ | refine Blk.drewN ?_ _ | assumption)); done) | (refine Blk.drew ?_; (repeat' (first | (refine Blk.at_ _ _ _ ?_; first | rfl | (simp; done)) | refine Blk.alloc ?_ _ | refine Blk.drewN ?_ _ | assumption)); done)) (Nat.le_refl _) hb1
            have hSb1 : w.heap.size + 1 + 1 + 1 ≤ w1.heap.size := (by have := hb1.size; simpa using this)
            have ka_0 := qa.out.cell 0 rfl
            have ka_1 := qa.out.cell 1 rfl
            have ka_2 := qa.out.cell 2 rfl
            have fa_0 := qa.out.frozen 0
            have fa_1 := qa.out.frozen 1
            have fa_2 := qa.out.frozen 2
            have la := qa.out.lt
            have kb_0 := qb.out.cell 0 rfl
            have kb_1 := qb.out.cell 1 rfl
            have kb_2 := qb.out.cell 2 rfl
            have fb_0 := qb.out.frozen 0
            have fb_1 := qb.out.frozen 1
            have fb_2 := qb.out.frozen 2
            have lb := qb.out.lt
            have kr_0 := qr.out.cell 0 rfl
            have kr_1 := qr.out.cell 1 rfl
            have kr_2 := qr.out.cell 2 rfl
            have fr_0 := qr.out.frozen 0
            have fr_1 := qr.out.frozen 1
            have fr_2 := qr.out.frozen 2
            have lr := qr.out.lt
            clear hb1 hT1
            go_wp2_with fail
            refine (l1Window_is h2 _).mono ?_
            rintro e w2 ⟨rfl, hb2⟩
            clear la ka_0 ka_1 ka_2 fa_0 fa_1 fa_2 lb kb_0 kb_1 kb_2 fb_0 fb_1 fb_2 lr kr_0 kr_1 kr_2 fr_0 fr_1 fr_2
            have hT2 : Below w1.heap.size w1 w2 := Below.andThen (by go_grown) hb2
            have hS2 := hT2.size
            have HB2 : Hid (Below w.heap.size w w2) := Below.andThen HB1.out hT2
            have qa := Lib.hid (qa.out.below (Nat.le_refl _) hT2)
            have qb := Lib.hid (qb.out.below (Nat.le_refl _) hT2)
            have qr := Lib.hid (qr.out.below (Nat.le_refl _) hT2)
            have ka_0 := qa.out.cell 0 rfl
            have ka_1 := qa.out.cell 1 rfl
            have ka_2 := qa.out.cell 2 rfl
            have fa_0 := qa.out.frozen 0
            have fa_1 := qa.out.frozen 1
            have fa_2 := qa.out.frozen 2
            have la := qa.out.lt
            have kb_0 := qb.out.cell 0 rfl
            have kb_1 := qb.out.cell 1 rfl
            have kb_2 := qb.out.cell 2 rfl
            have fb_0 := qb.out.frozen 0
            have fb_1 := qb.out.frozen 1
            have fb_2 := qb.out.frozen 2
            have lb := qb.out.lt
            have kr_0 := qr.out.cell 0 rfl
            have kr_1 := qr.out.cell 1 rfl
            have kr_2 := qr.out.cell 2 rfl
            have fr_0 := qr.out.frozen 0
            have fr_1 := qr.out.frozen 1
            have fr_2 := qr.out.frozen 2
            have lr := qr.out.lt
            clear hb2 hT2
            go_wp2
            refine bodyPost_ret (v := .tuple #[.agg #[.int .i64 0, .int .i64 0, .bool false], .bool false]) (by simp [results, Try.results88, go_sem, *]) rfl ?_
            exact ⟨rfl, by first | exact HB2.out | exact (((HB2.out.setCell (by first | (simp; done) | (simp; omega)) _).setCell (by first | (simp; done) | (simp; omega)) _).setCell (by first | (simp; done) | (simp; omega)) _)⟩
      · skip
        have hL : (if a < b then b else a) = a := if_neg c1
        by_cases c2 : b + t < a + s
        · skip
          have hH : (if b + t < a + s then b + t else a + s) = (b + t) := if_pos c2
          by_cases c3 : a < (b + t)
          · skip
            obtain ⟨e1, e2⟩ := meetV_yes (u := u) (v := v) hL hH c3
            rw [e1, e2]
            clear e1 e2 hL hH
            cases u
            · skip
              go_enter Try.func88, Try.ntmps88
              go_wp2_with fail
              refine (l1Window_is h1 _).mono ?_
              rintro e w1 ⟨rfl, hb1⟩
              have hT1 : Below w.heap.size w w1 := Below.andThen (by go_grown) hb1
              have hS1 := hT1.size
              have HB1 : Hid (Below w.heap.size w w1) := hT1
              have qa : Hid (Blk w1 (w.heap.size) 71 #[.int .i64 a, .int .i64 s, .bool false]) := Blk.below (w' := w1) (by first | ((repeat' (first | (refine Blk.at_ _ _ _ ?_; first | rfl | (simp; done)) | refine Blk.alloc ?_ _ | refine Blk.drewN ?_ _ | assumption)); done) | (refine Blk.drew ?_; (repeat' (first | (refine Blk.at_ _ _ _ ?_; first | rfl | (simp; done)) | refine Blk.alloc ?_ _ | refine Blk.drewN ?_ _ | assumption)); done)) (Nat.le_refl _) hb1
              have qb : Hid (Blk w1 (w.heap.size + 1) 71 #[.int .i64 b, .int .i64 t, .bool v]) := Blk.below (w' := w1) (by first | ((repeat' (first | (refine Blk.at_ _ _ _ ?_; first | rfl | (simp; done)) | refine Blk.alloc ?_ _ | refine Blk.drewN ?_ _ | assumption)); done) | (refine Blk.drew ?_; (repeat' (first | (refine Blk.at_ _ _ _ ?_; first | rfl | (simp; done)) | refine Blk.alloc ?_ _ | refine Blk.drewN ?_ _ | assumption)); done)) (Nat.le_refl _) hb1
              have qr : Hid (Blk w1 (w.heap.size + 1 + 1) 71 #[.int .i64 0, .int .i64 0, .bool false]) := Blk.below (w' := w1) (by first | ((repeat' (first | (refine Blk.at_ _ _ _ ?_; first | rfl | (simp; done)) | refine Blk.alloc ?_ _ | refine Blk.drewN ?_ _ | assumption)); done) | (refine Blk.drew ?_; (repeat' (first | (refine Blk.at_ _ _ _ ?_; first | rfl | (simp; done)) | refine Blk.alloc ?_ _ | refine Blk.drewN ?_ _ | assumption)); done)) (Nat.le_refl _) hb1
              have hSb1 : w.heap.size + 1 + 1 + 1 ≤ w1.heap.size := (by have := hb1.size; simpa using this)
              have ka_0 := qa.out.cell 0 rfl
              have ka_1 := qa.out.cell 1 rfl
              have ka_2 := qa.out.cell 2 rfl
              have fa_0 := qa.out.frozen 0
              have fa_1 := qa.out.frozen 1
              have fa_2 := qa.out.frozen 2
              have la := qa.out.lt
              have kb_0 := qb.out.cell 0 rfl
              have kb_1 := qb.out.cell 1 rfl
              have kb_2 := qb.out.cell 2 rfl
              have fb_0 := qb.out.frozen 0
              have fb_1 := qb.out.frozen 1
              have fb_2 := qb.out.frozen 2
              have lb := qb.out.lt
              have kr_0 := qr.out.cell 0 rfl
              have kr_1 := qr.out.cell 1 rfl
              have kr_2 := qr.out.cell 2 rfl
              have fr_0 := qr.out.frozen 0
              have fr_1 := qr.out.frozen 1
              have fr_2 := qr.out.frozen 2
              have lr := qr.out.lt
              clear hb1 hT1
              go_wp2_with fail
              refine (l1Window_is h2 _).mono ?_
              rintro e w2 ⟨rfl, hb2⟩
              clear la ka_0 ka_1 ka_2 fa_0 fa_1 fa_2 lb kb_0 kb_1 kb_2 fb_0 fb_1 fb_2 lr kr_0 kr_1 kr_2 fr_0 fr_1 fr_2
              have hT2 : Below w1.heap.size w1 w2 := Below.andThen (by go_grown) hb2
              have hS2 := hT2.size
              have HB2 : Hid (Below w.heap.size w w2) := Below.andThen HB1.out hT2
              have qa := Lib.hid (qa.out.below (Nat.le_refl _) hT2)
              have qb := Lib.hid (qb.out.below (Nat.le_refl _) hT2)
              have qr := Lib.hid (qr.out.below (Nat.le_refl _) hT2)
              have ka_0 := qa.out.cell 0 rfl
              have ka_1 := qa.out.cell 1 rfl
              have ka_2 := qa.out.cell 2 rfl
              have fa_0 := qa.out.frozen 0
              have fa_1 := qa.out.frozen 1
              have fa_2 := qa.out.frozen 2
              have la := qa.out.lt
              have kb_0 := qb.out.cell 0 rfl
              have kb_1 := qb.out.cell 1 rfl
              have kb_2 := qb.out.cell 2 rfl
              have fb_0 := qb.out.frozen 0
              have fb_1 := qb.out.frozen 1
              have fb_2 := qb.out.frozen 2
              have lb := qb.out.lt
              have kr_0 := qr.out.cell 0 rfl
              have kr_1 := qr.out.cell 1 rfl
              have kr_2 := qr.out.cell 2 rfl
              have fr_0 := qr.out.frozen 0
              have fr_1 := qr.out.frozen 1
              have fr_2 := qr.out.frozen 2
              have lr := qr.out.lt
              clear hb2 hT2
              go_wp2
              refine bodyPost_ret (v := .tuple #[.agg #[.int .i64 a, .int .i64 ((b + t) - a), .bool false], .bool true]) (by simp [results, Try.results88, go_sem, *]) rfl ?_
              exact ⟨rfl, by first | exact HB2.out | exact (((HB2.out.setCell (by first | (simp; done) | (simp; omega)) _).setCell (by first | (simp; done) | (simp; omega)) _).setCell (by first | (simp; done) | (simp; omega)) _)⟩
            · skip
              go_enter Try.func88, Try.ntmps88
              go_wp2_with fail
              refine (l1Window_is h1 _).mono ?_
              rintro e w1 ⟨rfl, hb1⟩
              have hT1 : Below w.heap.size w w1 := Below.andThen (by go_grown) hb1
              have hS1 := hT1.size
              have HB1 : Hid (Below w.heap.size w w1) := hT1
              have qa : Hid (Blk w1 (w.heap.size) 71 #[.int .i64 a, .int .i64 s, .bool true]) := Blk.below (w' := w1) (by first | ((repeat' (first | (refine Blk.at_ _ _ _ ?_; first | rfl | (simp; done)) | refine Blk.alloc ?_ _ | refine Blk.drewN ?_ _ | assumption)); done) | (refine Blk.drew ?_; (repeat' (first | (refine Blk.at_ _ _ _ ?_; first | rfl | (simp; done)) | refine Blk.alloc ?_ _ | refine Blk.drewN ?_ _ | assumption)); done)) (Nat.le_refl _) hb1
              have qb : Hid (Blk w1 (w.heap.size + 1) 71 #[.int .i64 b, .int .i64 t, .bool v]) := Blk.below (w' := w1) (by first | ((repeat' (first | (refine Blk.at_ _ _ _ ?_; first | rfl | (simp; done)) | refine Blk.alloc ?_ _ | refine Blk.drewN ?_ _ | assumption)); done) | (refine Blk.drew ?_; (repeat' (first | (refine Blk.at_ _ _ _ ?_; first | rfl | (simp; done)) | refine Blk.alloc ?_ _ | refine Blk.drewN ?_ _ | assumption)); done)) (Nat.le_refl _) hb1
              have qr : Hid (Blk w1 (w.heap.size + 1 + 1) 71 #[.int .i64 0, .int .i64 0, .bool false]) := Blk.below (w' := w1) (by first | ((repeat' (first | (refine Blk.at_ _ _ _ ?_; first | rfl | (simp; done)) | refine Blk.alloc ?_ _ | refine Blk.drewN ?_ _ | assumption)); done) | (refine Blk.drew ?_; (repeat' (first | (refine Blk.at_ _ _ _ ?_; first | rfl | (simp; done)) | refine Blk.alloc ?_ _ | refine Blk.drewN ?_ _ | assumption)); done)) (Nat.le_refl _) hb1
              have hSb1 : w.heap.size + 1 + 1 + 1 ≤ w1.heap.size := (by have := hb1.size; simpa using this)
              have ka_0 := qa.out.cell 0 rfl
              have ka_1 := qa.out.cell 1 rfl
              have ka_2 := qa.out.cell 2 rfl
              have fa_0 := qa.out.frozen 0
              have fa_1 := qa.out.frozen 1
              have fa_2 := qa.out.frozen 2
              have la := qa.out.lt
              have kb_0 := qb.out.cell 0 rfl
              have kb_1 := qb.out.cell 1 rfl
              have kb_2 := qb.out.cell 2 rfl
              have fb_0 := qb.out.frozen 0
              have fb_1 := qb.out.frozen 1
              have fb_2 := qb.out.frozen 2
              have lb := qb.out.lt
              have kr_0 := qr.out.cell 0 rfl
              have kr_1 := qr.out.cell 1 rfl
              have kr_2 := qr.out.cell 2 rfl
              have fr_0 := qr.out.frozen 0
              have fr_1 := qr.out.frozen 1
              have fr_2 := qr.out.frozen 2
              have lr := qr.out.lt
              clear hb1 hT1
              go_wp2_with fail
              refine (l1Window_is h2 _).mono ?_
              rintro e w2 ⟨rfl, hb2⟩
              clear la ka_0 ka_1 ka_2 fa_0 fa_1 fa_2 lb kb_0 kb_1 kb_2 fb_0 fb_1 fb_2 lr kr_0 kr_1 kr_2 fr_0 fr_1 fr_2
              have hT2 : Below w1.heap.size w1 w2 := Below.andThen (by go_grown) hb2
              have hS2 := hT2.size
              have HB2 : Hid (Below w.heap.size w w2) := Below.andThen HB1.out hT2
              have qa := Lib.hid (qa.out.below (Nat.le_refl _) hT2)
              have qb := Lib.hid (qb.out.below (Nat.le_refl _) hT2)
              have qr := Lib.hid (qr.out.below (Nat.le_refl _) hT2)
              have ka_0 := qa.out.cell 0 rfl
              have ka_1 := qa.out.cell 1 rfl
              have ka_2 := qa.out.cell 2 rfl
              have fa_0 := qa.out.frozen 0
              have fa_1 := qa.out.frozen 1
              have fa_2 := qa.out.frozen 2
              have la := qa.out.lt
              have kb_0 := qb.out.cell 0 rfl
              have kb_1 := qb.out.cell 1 rfl
              have kb_2 := qb.out.cell 2 rfl
              have fb_0 := qb.out.frozen 0
              have fb_1 := qb.out.frozen 1
              have fb_2 := qb.out.frozen 2
              have lb := qb.out.lt
              have kr_0 := qr.out.cell 0 rfl
              have kr_1 := qr.out.cell 1 rfl
              have kr_2 := qr.out.cell 2 rfl
              have fr_0 := qr.out.frozen 0
              have fr_1 := qr.out.frozen 1
              have fr_2 := qr.out.frozen 2
              have lr := qr.out.lt
              clear hb2 hT2
              go_wp2
              refine bodyPost_ret (v := .tuple #[.agg #[.int .i64 a, .int .i64 ((b + t) - a), .bool v], .bool true]) (by simp [results, Try.results88, go_sem, *]) rfl ?_
              exact ⟨rfl, by first | exact HB2.out | exact (((HB2.out.setCell (by first | (simp; done) | (simp; omega)) _).setCell (by first | (simp; done) | (simp; omega)) _).setCell (by first | (simp; done) | (simp; omega)) _)⟩
          · skip
            obtain ⟨e1, e2⟩ := meetV_no (u := u) (v := v) hL hH (by omega)
            rw [e1, e2]
            clear e1 e2 hL hH
            go_enter Try.func88, Try.ntmps88
            go_wp2_with fail
            refine (l1Window_is h1 _).mono ?_
            rintro e w1 ⟨rfl, hb1⟩
            have hT1 : Below w.heap.size w w1 := Below.andThen (by go_grown) hb1
            have hS1 := hT1.size
            have HB1 : Hid (Below w.heap.size w w1) := hT1
            have qa : Hid (Blk w1 (w.heap.size) 71 #[.int .i64 a, .int .i64 s, .bool u]) := Blk.below (w' := w1) (by first | ((repeat' (first | (refine Blk.at_ _ _ _ ?_; first | rfl | (simp; done)) | refine Blk.alloc ?_ _ | refine Blk.drewN ?_ _ | assumption)); done) | (refine Blk.drew ?_; (repeat' (first | (refine Blk.at_ _ _ _ ?_; first | rfl | (simp; done)) | refine Blk.alloc ?_ _ | refine Blk.drewN ?_ _ | assumption)); done)) (Nat.le_refl _) hb1
            have qb : Hid (Blk w1 (w.heap.size + 1) 71 #[.int .i64 b, .int .i64 t, .bool v]) := Blk.below (w' := w1) (by first | ((repeat' (first | (refine Blk.at_ _ _ _ ?_; first | rfl | (simp; done)) | refine Blk.alloc ?_ _ | refine Blk.drewN ?_ _ | assumption)); done) | (refine Blk.drew ?_; (repeat' (first | (refine Blk.at_ _ _ _ ?_; first | rfl | (simp; done)) | refine Blk.alloc ?_ _ | refine Blk.drewN ?_ _ | assumption)); done)) (Nat.le_refl _) hb1
            have qr : Hid (Blk w1 (w.heap.size + 1 + 1) 71 #[.int .i64 0, .int .i64 0, .bool false]) := Blk.below (w' := w1) (by first | ((repeat' (first | (refine Blk.at_ _ _ _ ?_; first | rfl | (simp; done)) | refine Blk.alloc ?_ _ | refine Blk.drewN ?_ _ | assumption)); done) | (refine Blk.drew ?_; (repeat' (first | (refine Blk.at_ _ _ _ ?_; first | rfl | (simp; done)) | refine Blk.alloc ?_ _ | refine Blk.drewN ?_ _ | assumption)); done)) (Nat.le_refl _) hb1
            have hSb1 : w.heap.size + 1 + 1 + 1 ≤ w1.heap.size := (by have := hb1.size; simpa using this)
            have ka_0 := qa.out.cell 0 rfl
            have ka_1 := qa.out.cell 1 rfl
            have ka_2 := qa.out.cell 2 rfl
            have fa_0 := qa.out.frozen 0
            have fa_1 := qa.out.frozen 1
            have fa_2 := qa.out.frozen 2
            have la := qa.out.lt
            have kb_0 := qb.out.cell 0 rfl
            have kb_1 := qb.out.cell 1 rfl
            have kb_2 := qb.out.cell 2 rfl
            have fb_0 := qb.out.frozen 0
            have fb_1 := qb.out.frozen 1
            have fb_2 := qb.out.frozen 2
            have lb := qb.out.lt
            have kr_0 := qr.out.cell 0 rfl
            have kr_1 := qr.out.cell 1 rfl
            have kr_2 := qr.out.cell 2 rfl
            have fr_0 := qr.out.frozen 0
            have fr_1 := qr.out.frozen 1
            have fr_2 := qr.out.frozen 2
            have lr := qr.out.lt
            clear hb1 hT1
            go_wp2_with fail
            refine (l1Window_is h2 _).mono ?_
            rintro e w2 ⟨rfl, hb2⟩
            clear la ka_0 ka_1 ka_2 fa_0 fa_1 fa_2 lb kb_0 kb_1 kb_2 fb_0 fb_1 fb_2 lr kr_0 kr_1 kr_2 fr_0 fr_1 fr_2
            have hT2 : Below w1.heap.size w1 w2 := Below.andThen (by go_grown) hb2
            have hS2 := hT2.size
            have HB2 : Hid (Below w.heap.size w w2) := Below.andThen HB1.out hT2
            have qa := Lib.hid (qa.out.below (Nat.le_refl _) hT2)
            have qb := Lib.hid (qb.out.below (Nat.le_refl _) hT2)
            have qr := Lib.hid (qr.out.below (Nat.le_refl _) hT2)
            have ka_0 := qa.out.cell 0 rfl
            have ka_1 := qa.out.cell 1 rfl
            have ka_2 := qa.out.cell 2 rfl
            have fa_0 := qa.out.frozen 0
            have fa_1 := qa.out.frozen 1
            have fa_2 := qa.out.frozen 2
            have la := qa.out.lt
            have kb_0 := qb.out.cell 0 rfl
            have kb_1 := qb.out.cell 1 rfl
            have kb_2 := qb.out.cell 2 rfl
            have fb_0 := qb.out.frozen 0
            have fb_1 := qb.out.frozen 1
            have fb_2 := qb.out.frozen 2
            have lb := qb.out.lt
            have kr_0 := qr.out.cell 0 rfl
            have kr_1 := qr.out.cell 1 rfl
            have kr_2 := qr.out.cell 2 rfl
            have fr_0 := qr.out.frozen 0
            have fr_1 := qr.out.frozen 1
            have fr_2 := qr.out.frozen 2
            have lr := qr.out.lt
            clear hb2 hT2
            go_wp2
            refine bodyPost_ret (v := .tuple #[.agg #[.int .i64 0, .int .i64 0, .bool false], .bool false]) (by simp [results, Try.results88, go_sem, *]) rfl ?_
            exact ⟨rfl, by first | exact HB2.out | exact (((HB2.out.setCell (by first | (simp; done) | (simp; omega)) _).setCell (by first | (simp; done) | (simp; omega)) _).setCell (by first | (simp; done) | (simp; omega)) _)⟩
        · skip
          have hH : (if b + t < a + s then b + t else a + s) = (a + s) := if_neg c2
          by_cases c3 : a < (a + s)
          · skip
            obtain ⟨e1, e2⟩ := meetV_yes (u := u) (v := v) hL hH c3
            rw [e1, e2]
            clear e1 e2 hL hH
            cases u
            · skip
              go_enter Try.func88, Try.ntmps88
              go_wp2_with fail
              refine (l1Window_is h1 _).mono ?_
              rintro e w1 ⟨rfl, hb1⟩
              have hT1 : Below w.heap.size w w1 := Below.andThen (by go_grown) hb1
              have hS1 := hT1.size
              have HB1 : Hid (Below w.heap.size w w1) := hT1
              have qa : Hid (Blk w1 (w.heap.size) 71 #[.int .i64 a, .int .i64 s, .bool false]) := Blk.below (w' := w1) (by first | ((repeat' (first | (refine Blk.at_ _ _ _ ?_; first | rfl | (simp; done)) | refine Blk.alloc ?_ _ | refine Blk.drewN ?_ _ | assumption)); done) | (refine Blk.drew ?_; (repeat' (first | (refine Blk.at_ _ _ _ ?_; first | rfl | (simp; done)) | refine Blk.alloc ?_ _ | refine Blk.drewN ?_ _ | assumption)); done)) (Nat.le_refl _) hb1
              have qb : Hid (Blk w1 (w.heap.size + 1) 71 #[.int .i64 b, .int .i64 t, .bool v]) := Blk.below (w' := w1) (by first | ((repeat' (first | (refine Blk.at_ _ _ _ ?_; first | rfl | (simp; done)) | refine Blk.alloc ?_ _ | refine Blk.drewN ?_ _ | assumption)); done) | (refine Blk.drew ?_; (repeat' (first | (refine Blk.at_ _ _ _ ?_; first | rfl | (simp; done)) | refine Blk.alloc ?_ _ | refine Blk.drewN ?_ _ | assumption)); done)) (Nat.le_refl _) hb1
              have qr : Hid (Blk w1 (w.heap.size + 1 + 1) 71 #[.int .i64 0, .int .i64 0, .bool false]) := Blk.below (w' := w1) (by first | ((repeat' (first | (refine Blk.at_ _ _ _ ?_; first | rfl | (simp; done)) | refine Blk.alloc ?_ _ | refine Blk.drewN ?_ _ | assumption)); done) | (refine Blk.drew ?_; (repeat' (first | (refine Blk.at_ _ _ _ ?_; first | rfl | (simp; done)) | refine Blk.alloc ?_ _ | refine Blk.drewN ?_ _ | assumption)); done)) (Nat.le_refl _) hb1
              have hSb1 : w.heap.size + 1 + 1 + 1 ≤ w1.heap.size := (by have := hb1.size; simpa using this)
              have ka_0 := qa.out.cell 0 rfl
              have ka_1 := qa.out.cell 1 rfl
              have ka_2 := qa.out.cell 2 rfl
              have fa_0 := qa.out.frozen 0
              have fa_1 := qa.out.frozen 1
              have fa_2 := qa.out.frozen 2
              have la := qa.out.lt
              have kb_0 := qb.out.cell 0 rfl
              have kb_1 := qb.out.cell 1 rfl
              have kb_2 := qb.out.cell 2 rfl
              have fb_0 := qb.out.frozen 0
              have fb_1 := qb.out.frozen 1
              have fb_2 := qb.out.frozen 2
              have lb := qb.out.lt
              have kr_0 := qr.out.cell 0 rfl
              have kr_1 := qr.out.cell 1 rfl
              have kr_2 := qr.out.cell 2 rfl
              have fr_0 := qr.out.frozen 0
              have fr_1 := qr.out.frozen 1
              have fr_2 := qr.out.frozen 2
              have lr := qr.out.lt
              clear hb1 hT1
              go_wp2_with fail
              refine (l1Window_is h2 _).mono ?_
              rintro e w2 ⟨rfl, hb2⟩
              clear la ka_0 ka_1 ka_2 fa_0 fa_1 fa_2 lb kb_0 kb_1 kb_2 fb_0 fb_1 fb_2 lr kr_0 kr_1 kr_2 fr_0 fr_1 fr_2
              have hT2 : Below w1.heap.size w1 w2 := Below.andThen (by go_grown) hb2
              have hS2 := hT2.size
              have HB2 : Hid (Below w.heap.size w w2) := Below.andThen HB1.out hT2
              have qa := Lib.hid (qa.out.below (Nat.le_refl _) hT2)
              have qb := Lib.hid (qb.out.below (Nat.le_refl _) hT2)
              have qr := Lib.hid (qr.out.below (Nat.le_refl _) hT2)
              have ka_0 := qa.out.cell 0 rfl
              have ka_1 := qa.out.cell 1 rfl
              have ka_2 := qa.out.cell 2 rfl
              have fa_0 := qa.out.frozen 0
              have fa_1 := qa.out.frozen 1
              have fa_2 := qa.out.frozen 2
              have la := qa.out.lt
              have kb_0 := qb.out.cell 0 rfl
              have kb_1 := qb.out.cell 1 rfl
              have kb_2 := qb.out.cell 2 rfl
              have fb_0 := qb.out.frozen 0
              have fb_1 := qb.out.frozen 1
              have fb_2 := qb.out.frozen 2
              have lb := qb.out.lt
              have kr_0 := qr.out.cell 0 rfl
              have kr_1 := qr.out.cell 1 rfl
              have kr_2 := qr.out.cell 2 rfl
              have fr_0 := qr.out.frozen 0
              have fr_1 := qr.out.frozen 1
              have fr_2 := qr.out.frozen 2
              have lr := qr.out.lt
              clear hb2 hT2
              go_wp2
              refine bodyPost_ret (v := .tuple #[.agg #[.int .i64 a, .int .i64 ((a + s) - a), .bool false], .bool true]) (by simp [results, Try.results88, go_sem, *]) rfl ?_
              exact ⟨rfl, by first | exact HB2.out | exact (((HB2.out.setCell (by first | (simp; done) | (simp; omega)) _).setCell (by first | (simp; done) | (simp; omega)) _).setCell (by first | (simp; done) | (simp; omega)) _)⟩
            · skip
              go_enter Try.func88, Try.ntmps88
              go_wp2_with fail
              refine (l1Window_is h1 _).mono ?_
              rintro e w1 ⟨rfl, hb1⟩
              have hT1 : Below w.heap.size w w1 := Below.andThen (by go_grown) hb1
              have hS1 := hT1.size
              have HB1 : Hid (Below w.heap.size w w1) := hT1
              have qa : Hid (Blk w1 (w.heap.size) 71 #[.int .i64 a, .int .i64 s, .bool true]) := Blk.below (w' := w1) (by first | ((repeat' (first | (refine Blk.at_ _ _ _ ?_; first | rfl | (simp; done)) | refine Blk.alloc ?_ _ | refine Blk.drewN ?_ _ | assumption)); done) | (refine Blk.drew ?_; (repeat' (first | (refine Blk.at_ _ _ _ ?_; first | rfl | (simp; done)) | refine Blk.alloc ?_ _ | refine Blk.drewN ?_ _ | assumption)); done)) (Nat.le_refl _) hb1
              have qb : Hid (Blk w1 (w.heap.size + 1) 71 #[.int .i64 b, .int .i64 t, .bool v]) := Blk.below (w' := w1) (by first | ((repeat' (first | (refine Blk.at_ _ _ _ ?_; first | rfl | (simp; done)) | refine Blk.alloc ?_ _ | refine Blk.drewN ?_ _ | assumption)); done) | (refine Blk.drew ?_; (repeat' (first | (refine Blk.at_ _ _ _ ?_; first | rfl | (simp; done)) | refine Blk.alloc ?_ _ | refine Blk.drewN ?_ _ | assumption)); done)) (Nat.le_refl _) hb1
              have qr : Hid (Blk w1 (w.heap.size + 1 + 1) 71 #[.int .i64 0, .int .i64 0, .bool false]) := Blk.below (w' := w1) (by first | ((repeat' (first | (refine Blk.at_ _ _ _ ?_; first | rfl | (simp; done)) | refine Blk.alloc ?_ _ | refine Blk.drewN ?_ _ | assumption)); done) | (refine Blk.drew ?_; (repeat' (first | (refine Blk.at_ _ _ _ ?_; first | rfl | (simp; done)) | refine Blk.alloc ?_ _ | refine Blk.drewN ?_ _ | assumption)); done)) (Nat.le_refl _) hb1
              have hSb1 : w.heap.size + 1 + 1 + 1 ≤ w1.heap.size := (by have := hb1.size; simpa using this)
              have ka_0 := qa.out.cell 0 rfl
              have ka_1 := qa.out.cell 1 rfl
              have ka_2 := qa.out.cell 2 rfl
              have fa_0 := qa.out.frozen 0
              have fa_1 := qa.out.frozen 1
              have fa_2 := qa.out.frozen 2
              have la := qa.out.lt
              have kb_0 := qb.out.cell 0 rfl
              have kb_1 := qb.out.cell 1 rfl
              have kb_2 := qb.out.cell 2 rfl
              have fb_0 := qb.out.frozen 0
              have fb_1 := qb.out.frozen 1
              have fb_2 := qb.out.frozen 2
              have lb := qb.out.lt
              have kr_0 := qr.out.cell 0 rfl
              have kr_1 := qr.out.cell 1 rfl
              have kr_2 := qr.out.cell 2 rfl
              have fr_0 := qr.out.frozen 0
              have fr_1 := qr.out.frozen 1
              have fr_2 := qr.out.frozen 2
              have lr := qr.out.lt
              clear hb1 hT1
              go_wp2_with fail
              refine (l1Window_is h2 _).mono ?_
              rintro e w2 ⟨rfl, hb2⟩
              clear la ka_0 ka_1 ka_2 fa_0 fa_1 fa_2 lb kb_0 kb_1 kb_2 fb_0 fb_1 fb_2 lr kr_0 kr_1 kr_2 fr_0 fr_1 fr_2
              have hT2 : Below w1.heap.size w1 w2 := Below.andThen (by go_grown) hb2
              have hS2 := hT2.size
              have HB2 : Hid (Below w.heap.size w w2) := Below.andThen HB1.out hT2
              have qa := Lib.hid (qa.out.below (Nat.le_refl _) hT2)
              have qb := Lib.hid (qb.out.below (Nat.le_refl _) hT2)
              have qr := Lib.hid (qr.out.below (Nat.le_refl _) hT2)
              have ka_0 := qa.out.cell 0 rfl
              have ka_1 := qa.out.cell 1 rfl
              have ka_2 := qa.out.cell 2 rfl
              have fa_0 := qa.out.frozen 0
              have fa_1 := qa.out.frozen 1
              have fa_2 := qa.out.frozen 2
              have la := qa.out.lt
              have kb_0 := qb.out.cell 0 rfl
              have kb_1 := qb.out.cell 1 rfl
              have kb_2 := qb.out.cell 2 rfl
              have fb_0 := qb.out.frozen 0
              have fb_1 := qb.out.frozen 1
              have fb_2 := qb.out.frozen 2
              have lb := qb.out.lt
              have kr_0 := qr.out.cell 0 rfl
              have kr_1 := qr.out.cell 1 rfl
              have kr_2 := qr.out.cell 2 rfl
              have fr_0 := qr.out.frozen 0
              have fr_1 := qr.out.frozen 1
              have fr_2 := qr.out.frozen 2
              have lr := qr.out.lt
              clear hb2 hT2
              go_wp2
              refine bodyPost_ret (v := .tuple #[.agg #[.int .i64 a, .int .i64 ((a + s) - a), .bool v], .bool true]) (by simp [results, Try.results88, go_sem, *]) rfl ?_
              exact ⟨rfl, by first | exact HB2.out | exact (((HB2.out.setCell (by first | (simp; done) | (simp; omega)) _).setCell (by first | (simp; done) | (simp; omega)) _).setCell (by first | (simp; done) | (simp; omega)) _)⟩
          · skip
            exfalso; omega
end Go.Proofs.Ytlckjhbgdbhdmaa
