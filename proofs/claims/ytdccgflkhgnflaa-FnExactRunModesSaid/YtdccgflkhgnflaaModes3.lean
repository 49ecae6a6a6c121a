/-
  CONTRACTS of the reference's AskMode and EndFrame, at valid modes.
  Conditions: the modes are valid.
-/
import Derived.Test.YtdccgflkhgnflaaModes2
namespace Go.Proofs.Ytdccgflkhgnflaa
open Go.ChangeShapes Go.WideShapes Go.ChangeAt Go.RowKit Go.Joins
set_option linter.unusedVariables false
theorem modesOk_tab {parts : Int} {ts : List Slots} {now asked : Int} (h : modesOk parts ts now asked = true) : ts.length ≤ 4 ∧ (∀ x ∈ ts, x.length ≤ 12) ∧ (∀ x ∈ ts, (tabI x).length ≤ 1048576) := by
  obtain ⟨_, h4, _, _, _, hs⟩ := modesOk_use h
  have h12 : ∀ x ∈ ts, x.length ≤ 12 := fun x hx => (slotsOk_use (hs x hx)).2.2.2.1
  exact ⟨h4, h12, fun x hx => by have := h12 x hx; exact Nat.le_trans this (by omega)⟩
set_option maxRecDepth 100000 in
set_option maxHeartbeats 4000000 in
theorem sAskMode_any (A : Option Addr) (n c : Nat) (ts : List Slots) (now asked parts : Int) (a : Int) (w : World) (hok : modesOk parts ts now asked = true) (hr : Rd_tab w A n ts) :
    Calls Try.prog 16 #[.agg #[.slice A n c, .int .i64 now, .int .i64 asked], .int .i64 parts, .int .i64 a] w fun e w' => (∃ A' c' b, e = .returned (.tuple #[.agg #[.slice A' n c', .int .i64 now, .int .i64 (askN n asked a)], .bool b]) ∧ Own_tab w' w.heap.size A' n c' ts) ∧ Below w.heap.size w w' := by
  obtain ⟨hn4, hw12, hTT⟩ := modesOk_tab hok
  rw [hr.len] at hn4
  have HR := Lib.hid hr
  have HT := Lib.hid hTT
  have HW := Lib.hid hw12
  have HOK := Lib.hid hok
  clear hr hTT hw12 hok
  cases hi : inB a 0 ((n : Int) - 1)
  · rw [show askN n asked a = asked by unfold askN; rw [if_neg (by rw [hi]; simp)]]
    go_enter Try.func16, Try.ntmps16
    go_wp2_with fail
    refine (sModesValid_is HOK.out _ (by omega) HT.out (HR.out.below (Nat.le_refl _) (by go_grown))).mono ?_
    rintro e w1 ⟨rfl, hb1⟩
    have hT1 : Below w.heap.size w w1 := Below.andThen (by go_grown) hb1
    have hS1 := hT1.size
    have HB1 : Hid (Below w.heap.size w w1) := hT1
    have qa : Hid (Blk w1 (w.heap.size) 30 #[.slice A n c, .int .i64 now, .int .i64 asked]) := Blk.below (w' := w1) (by first | ((repeat' (first | (refine Blk.at_ _ _ _ ?_; first | rfl | (simp; done)) | refine Blk.alloc ?_ _ | refine Blk.drewN ?_ _ | assumption)); done) | (refine Blk.drew ?_; (repeat' (first | (refine Blk.at_ _ _ _ ?_; first | rfl | (simp; done)) | refine Blk.alloc ?_ _ | refine Blk.drewN ?_ _ | assumption)); done)) (Nat.le_refl _) hb1
    have qr : Hid (Blk w1 (w.heap.size + 1) 30 #[.slice none 0 0, .int .i64 0, .int .i64 0]) := Blk.below (w' := w1) (by first | ((repeat' (first | (refine Blk.at_ _ _ _ ?_; first | rfl | (simp; done)) | refine Blk.alloc ?_ _ | refine Blk.drewN ?_ _ | assumption)); done) | (refine Blk.drew ?_; (repeat' (first | (refine Blk.at_ _ _ _ ?_; first | rfl | (simp; done)) | refine Blk.alloc ?_ _ | refine Blk.drewN ?_ _ | assumption)); done)) (Nat.le_refl _) hb1
    have hSb1 : w.heap.size + 1 + 1 ≤ w1.heap.size := (by have := hb1.size; first | (simpa using this; done) | (simp at this; omega))
    have ka_0 : w1.cell? ⟨w.heap.size, 0, none⟩ = some (.slice A n c) := qa.out.cell 0 rfl
    have ka_1 : w1.cell? ⟨w.heap.size, 1, none⟩ = some (.int .i64 now) := qa.out.cell 1 rfl
    have ka_2 : w1.cell? ⟨w.heap.size, 2, none⟩ = some (.int .i64 asked) := qa.out.cell 2 rfl
    have fa_0 := qa.out.frozen 0
    have fa_1 := qa.out.frozen 1
    have fa_2 := qa.out.frozen 2
    have la := qa.out.lt
    have kr_0 : w1.cell? ⟨w.heap.size + 1, 0, none⟩ = some (.slice none 0 0) := qr.out.cell 0 rfl
    have kr_1 : w1.cell? ⟨w.heap.size + 1, 1, none⟩ = some (.int .i64 0) := qr.out.cell 1 rfl
    have kr_2 : w1.cell? ⟨w.heap.size + 1, 2, none⟩ = some (.int .i64 0) := qr.out.cell 2 rfl
    have fr_0 := qr.out.frozen 0
    have fr_1 := qr.out.frozen 1
    have fr_2 := qr.out.frozen 2
    have lr := qr.out.lt
    clear hb1 hT1
    go_wp2_with fail
    refine (l11Copy_any A n c ts now asked _ hn4 HW.out (HR.out.below (Nat.le_refl _) (by first | exact HB1.out | go_grown | exact Below.andThen HB1.out (by go_grown)))).mono ?_
    rintro e w2 ⟨⟨A1, c1, rfl, hx1⟩, hb2⟩
    have HX1 := Lib.hid hx1
    clear hx1
    clear la ka_0 ka_1 ka_2 fa_0 fa_1 fa_2 lr kr_0 kr_1 kr_2 fr_0 fr_1 fr_2
    have hT2 : Below w1.heap.size w1 w2 := Below.andThen (by go_grown) hb2
    have hS2 := hT2.size
    have HB2 : Hid (Below w.heap.size w w2) := Below.andThen HB1.out hT2
    have qa := Lib.hid (qa.out.below (Nat.le_refl _) hT2)
    have qr := Lib.hid (qr.out.below (Nat.le_refl _) hT2)
    have ka_0 : w2.cell? ⟨w.heap.size, 0, none⟩ = some (.slice A n c) := qa.out.cell 0 rfl
    have ka_1 : w2.cell? ⟨w.heap.size, 1, none⟩ = some (.int .i64 now) := qa.out.cell 1 rfl
    have ka_2 : w2.cell? ⟨w.heap.size, 2, none⟩ = some (.int .i64 asked) := qa.out.cell 2 rfl
    have fa_0 := qa.out.frozen 0
    have fa_1 := qa.out.frozen 1
    have fa_2 := qa.out.frozen 2
    have la := qa.out.lt
    have kr_0 : w2.cell? ⟨w.heap.size + 1, 0, none⟩ = some (.slice none 0 0) := qr.out.cell 0 rfl
    have kr_1 : w2.cell? ⟨w.heap.size + 1, 1, none⟩ = some (.int .i64 0) := qr.out.cell 1 rfl
    have kr_2 : w2.cell? ⟨w.heap.size + 1, 2, none⟩ = some (.int .i64 0) := qr.out.cell 2 rfl
    have fr_0 := qr.out.frozen 0
    have fr_1 := qr.out.frozen 1
    have fr_2 := qr.out.frozen 2
    have lr := qr.out.lt
    clear hb2 hT2
    go_wp2_with (go_at_call 30; refine (l1In_is hi _).mono ?_; rintro e _ ⟨rfl, rfl⟩)
    refine bodyPost_ret (v := .tuple #[.agg #[.slice A1 n c1, .int .i64 now, .int .i64 asked], .bool false]) (by simp [results, Try.results16, go_sem, *]) rfl ?_
    refine ⟨⟨A1, c1, _, rfl, ?_⟩, ?_⟩
    · exact Own_tab.lower ((((HX1.out.far (by dsimp only; omega) _).far (by dsimp only; omega) _).far (by dsimp only; omega) _).alloc _) (by omega)
    · exact (((HB2.out.setCell (by dsimp only; omega) _).setCell (by dsimp only; omega) _).setCell (by dsimp only; omega) _).alloc (by simp [World.setCell]; omega) _
  · rw [show askN n asked a = a by unfold askN; rw [if_pos hi]]
    go_enter Try.func16, Try.ntmps16
    go_wp2_with fail
    refine (sModesValid_is HOK.out _ (by omega) HT.out (HR.out.below (Nat.le_refl _) (by go_grown))).mono ?_
    rintro e w1 ⟨rfl, hb1⟩
    have hT1 : Below w.heap.size w w1 := Below.andThen (by go_grown) hb1
    have hS1 := hT1.size
    have HB1 : Hid (Below w.heap.size w w1) := hT1
    have qa : Hid (Blk w1 (w.heap.size) 30 #[.slice A n c, .int .i64 now, .int .i64 asked]) := Blk.below (w' := w1) (by first | ((repeat' (first | (refine Blk.at_ _ _ _ ?_; first | rfl | (simp; done)) | refine Blk.alloc ?_ _ | refine Blk.drewN ?_ _ | assumption)); done) | (refine Blk.drew ?_; (repeat' (first | (refine Blk.at_ _ _ _ ?_; first | rfl | (simp; done)) | refine Blk.alloc ?_ _ | refine Blk.drewN ?_ _ | assumption)); done)) (Nat.le_refl _) hb1
    have qr : Hid (Blk w1 (w.heap.size + 1) 30 #[.slice none 0 0, .int .i64 0, .int .i64 0]) := Blk.below (w' := w1) (by first | ((repeat' (first | (refine Blk.at_ _ _ _ ?_; first | rfl | (simp; done)) | refine Blk.alloc ?_ _ | refine Blk.drewN ?_ _ | assumption)); done) | (refine Blk.drew ?_; (repeat' (first | (refine Blk.at_ _ _ _ ?_; first | rfl | (simp; done)) | refine Blk.alloc ?_ _ | refine Blk.drewN ?_ _ | assumption)); done)) (Nat.le_refl _) hb1
    have hSb1 : w.heap.size + 1 + 1 ≤ w1.heap.size := (by have := hb1.size; first | (simpa using this; done) | (simp at this; omega))
    have ka_0 : w1.cell? ⟨w.heap.size, 0, none⟩ = some (.slice A n c) := qa.out.cell 0 rfl
    have ka_1 : w1.cell? ⟨w.heap.size, 1, none⟩ = some (.int .i64 now) := qa.out.cell 1 rfl
    have ka_2 : w1.cell? ⟨w.heap.size, 2, none⟩ = some (.int .i64 asked) := qa.out.cell 2 rfl
    have fa_0 := qa.out.frozen 0
    have fa_1 := qa.out.frozen 1
    have fa_2 := qa.out.frozen 2
    have la := qa.out.lt
    have kr_0 : w1.cell? ⟨w.heap.size + 1, 0, none⟩ = some (.slice none 0 0) := qr.out.cell 0 rfl
    have kr_1 : w1.cell? ⟨w.heap.size + 1, 1, none⟩ = some (.int .i64 0) := qr.out.cell 1 rfl
    have kr_2 : w1.cell? ⟨w.heap.size + 1, 2, none⟩ = some (.int .i64 0) := qr.out.cell 2 rfl
    have fr_0 := qr.out.frozen 0
    have fr_1 := qr.out.frozen 1
    have fr_2 := qr.out.frozen 2
    have lr := qr.out.lt
    clear hb1 hT1
    go_wp2_with fail
    refine (l11Copy_any A n c ts now asked _ hn4 HW.out (HR.out.below (Nat.le_refl _) (by first | exact HB1.out | go_grown | exact Below.andThen HB1.out (by go_grown)))).mono ?_
    rintro e w2 ⟨⟨A1, c1, rfl, hx1⟩, hb2⟩
    have HX1 := Lib.hid hx1
    clear hx1
    clear la ka_0 ka_1 ka_2 fa_0 fa_1 fa_2 lr kr_0 kr_1 kr_2 fr_0 fr_1 fr_2
    have hT2 : Below w1.heap.size w1 w2 := Below.andThen (by go_grown) hb2
    have hS2 := hT2.size
    have HB2 : Hid (Below w.heap.size w w2) := Below.andThen HB1.out hT2
    have qa := Lib.hid (qa.out.below (Nat.le_refl _) hT2)
    have qr := Lib.hid (qr.out.below (Nat.le_refl _) hT2)
    have ka_0 : w2.cell? ⟨w.heap.size, 0, none⟩ = some (.slice A n c) := qa.out.cell 0 rfl
    have ka_1 : w2.cell? ⟨w.heap.size, 1, none⟩ = some (.int .i64 now) := qa.out.cell 1 rfl
    have ka_2 : w2.cell? ⟨w.heap.size, 2, none⟩ = some (.int .i64 asked) := qa.out.cell 2 rfl
    have fa_0 := qa.out.frozen 0
    have fa_1 := qa.out.frozen 1
    have fa_2 := qa.out.frozen 2
    have la := qa.out.lt
    have kr_0 : w2.cell? ⟨w.heap.size + 1, 0, none⟩ = some (.slice none 0 0) := qr.out.cell 0 rfl
    have kr_1 : w2.cell? ⟨w.heap.size + 1, 1, none⟩ = some (.int .i64 0) := qr.out.cell 1 rfl
    have kr_2 : w2.cell? ⟨w.heap.size + 1, 2, none⟩ = some (.int .i64 0) := qr.out.cell 2 rfl
    have fr_0 := qr.out.frozen 0
    have fr_1 := qr.out.frozen 1
    have fr_2 := qr.out.frozen 2
    have lr := qr.out.lt
    clear hb2 hT2
    go_wp2_with (go_at_call 30; refine (l1In_is hi _).mono ?_; rintro e _ ⟨rfl, rfl⟩)
    refine bodyPost_ret (v := .tuple #[.agg #[.slice A1 n c1, .int .i64 now, .int .i64 a], .bool true]) (by simp [results, Try.results16, go_sem, *]) rfl ?_
    refine ⟨⟨A1, c1, _, rfl, ?_⟩, ?_⟩
    · exact Own_tab.lower ((((HX1.out.far (by dsimp only; omega) _).far (by dsimp only; omega) _).far (by dsimp only; omega) _).alloc _) (by omega)
    · exact (((HB2.out.setCell (by dsimp only; omega) _).setCell (by dsimp only; omega) _).setCell (by dsimp only; omega) _).alloc (by simp [World.setCell]; omega) _
set_option maxRecDepth 100000 in
set_option maxHeartbeats 4000000 in
theorem sEndFrame_any (A : Option Addr) (n c : Nat) (ts : List Slots) (now asked parts : Int) (w : World) (hok : modesOk parts ts now asked = true) (hr : Rd_tab w A n ts) :
    Calls Try.prog 19 #[.agg #[.slice A n c, .int .i64 now, .int .i64 asked], .int .i64 parts] w fun e w' => (∃ A' c', e = .returned (.agg #[.slice A' n c', .int .i64 (endN now asked), .int .i64 (-1)]) ∧ Own_tab w' w.heap.size A' n c' ts) ∧ Below w.heap.size w w' := by
  obtain ⟨hn4, hw12, hTT⟩ := modesOk_tab hok
  rw [hr.len] at hn4
  have HR := Lib.hid hr
  have HT := Lib.hid hTT
  have HW := Lib.hid hw12
  have HOK := Lib.hid hok
  clear hr hTT hw12 hok
  by_cases hi : 0 ≤ asked
  · rw [show endN now asked = asked by unfold endN; rw [if_pos hi]]
    go_enter Try.func19, Try.ntmps19
    go_wp2_with fail
    refine (sModesValid_is HOK.out _ (by omega) HT.out (HR.out.below (Nat.le_refl _) (by go_grown))).mono ?_
    rintro e w1 ⟨rfl, hb1⟩
    have hT1 : Below w.heap.size w w1 := Below.andThen (by go_grown) hb1
    have hS1 := hT1.size
    have HB1 : Hid (Below w.heap.size w w1) := hT1
    have qa : Hid (Blk w1 (w.heap.size) 30 #[.slice A n c, .int .i64 now, .int .i64 asked]) := Blk.below (w' := w1) (by first | ((repeat' (first | (refine Blk.at_ _ _ _ ?_; first | rfl | (simp; done)) | refine Blk.alloc ?_ _ | refine Blk.drewN ?_ _ | assumption)); done) | (refine Blk.drew ?_; (repeat' (first | (refine Blk.at_ _ _ _ ?_; first | rfl | (simp; done)) | refine Blk.alloc ?_ _ | refine Blk.drewN ?_ _ | assumption)); done)) (Nat.le_refl _) hb1
    have qr : Hid (Blk w1 (w.heap.size + 1) 30 #[.slice none 0 0, .int .i64 0, .int .i64 0]) := Blk.below (w' := w1) (by first | ((repeat' (first | (refine Blk.at_ _ _ _ ?_; first | rfl | (simp; done)) | refine Blk.alloc ?_ _ | refine Blk.drewN ?_ _ | assumption)); done) | (refine Blk.drew ?_; (repeat' (first | (refine Blk.at_ _ _ _ ?_; first | rfl | (simp; done)) | refine Blk.alloc ?_ _ | refine Blk.drewN ?_ _ | assumption)); done)) (Nat.le_refl _) hb1
    have hSb1 : w.heap.size + 1 + 1 ≤ w1.heap.size := (by have := hb1.size; first | (simpa using this; done) | (simp at this; omega))
    have ka_0 : w1.cell? ⟨w.heap.size, 0, none⟩ = some (.slice A n c) := qa.out.cell 0 rfl
    have ka_1 : w1.cell? ⟨w.heap.size, 1, none⟩ = some (.int .i64 now) := qa.out.cell 1 rfl
    have ka_2 : w1.cell? ⟨w.heap.size, 2, none⟩ = some (.int .i64 asked) := qa.out.cell 2 rfl
    have fa_0 := qa.out.frozen 0
    have fa_1 := qa.out.frozen 1
    have fa_2 := qa.out.frozen 2
    have la := qa.out.lt
    have kr_0 : w1.cell? ⟨w.heap.size + 1, 0, none⟩ = some (.slice none 0 0) := qr.out.cell 0 rfl
    have kr_1 : w1.cell? ⟨w.heap.size + 1, 1, none⟩ = some (.int .i64 0) := qr.out.cell 1 rfl
    have kr_2 : w1.cell? ⟨w.heap.size + 1, 2, none⟩ = some (.int .i64 0) := qr.out.cell 2 rfl
    have fr_0 := qr.out.frozen 0
    have fr_1 := qr.out.frozen 1
    have fr_2 := qr.out.frozen 2
    have lr := qr.out.lt
    clear hb1 hT1
    go_wp2_with fail
    refine (l11Copy_any A n c ts now asked _ hn4 HW.out (HR.out.below (Nat.le_refl _) (by first | exact HB1.out | go_grown | exact Below.andThen HB1.out (by go_grown)))).mono ?_
    rintro e w2 ⟨⟨A1, c1, rfl, hx1⟩, hb2⟩
    have HX1 := Lib.hid hx1
    clear hx1
    clear la ka_0 ka_1 ka_2 fa_0 fa_1 fa_2 lr kr_0 kr_1 kr_2 fr_0 fr_1 fr_2
    have hT2 : Below w1.heap.size w1 w2 := Below.andThen (by go_grown) hb2
    have hS2 := hT2.size
    have HB2 : Hid (Below w.heap.size w w2) := Below.andThen HB1.out hT2
    have qa := Lib.hid (qa.out.below (Nat.le_refl _) hT2)
    have qr := Lib.hid (qr.out.below (Nat.le_refl _) hT2)
    have ka_0 : w2.cell? ⟨w.heap.size, 0, none⟩ = some (.slice A n c) := qa.out.cell 0 rfl
    have ka_1 : w2.cell? ⟨w.heap.size, 1, none⟩ = some (.int .i64 now) := qa.out.cell 1 rfl
    have ka_2 : w2.cell? ⟨w.heap.size, 2, none⟩ = some (.int .i64 asked) := qa.out.cell 2 rfl
    have fa_0 := qa.out.frozen 0
    have fa_1 := qa.out.frozen 1
    have fa_2 := qa.out.frozen 2
    have la := qa.out.lt
    have kr_0 : w2.cell? ⟨w.heap.size + 1, 0, none⟩ = some (.slice none 0 0) := qr.out.cell 0 rfl
    have kr_1 : w2.cell? ⟨w.heap.size + 1, 1, none⟩ = some (.int .i64 0) := qr.out.cell 1 rfl
    have kr_2 : w2.cell? ⟨w.heap.size + 1, 2, none⟩ = some (.int .i64 0) := qr.out.cell 2 rfl
    have fr_0 := qr.out.frozen 0
    have fr_1 := qr.out.frozen 1
    have fr_2 := qr.out.frozen 2
    have lr := qr.out.lt
    clear hb2 hT2
    go_wp2
    refine bodyPost_ret (v := .agg #[.slice A1 n c1, .int .i64 asked, .int .i64 (-1)]) (by simp [results, Try.results19, go_sem, *]) rfl ?_
    refine ⟨⟨A1, c1, rfl, ?_⟩, ?_⟩
    · exact Own_tab.lower ((((HX1.out.far (by dsimp only; omega) _).far (by dsimp only; omega) _).far (by dsimp only; omega) _).alloc _) (by omega)
    · exact (((HB2.out.setCell (by dsimp only; omega) _).setCell (by dsimp only; omega) _).setCell (by dsimp only; omega) _).alloc (by simp [World.setCell]; omega) _
  · rw [show endN now asked = now by unfold endN; rw [if_neg hi]]
    go_enter Try.func19, Try.ntmps19
    go_wp2_with fail
    refine (sModesValid_is HOK.out _ (by omega) HT.out (HR.out.below (Nat.le_refl _) (by go_grown))).mono ?_
    rintro e w1 ⟨rfl, hb1⟩
    have hT1 : Below w.heap.size w w1 := Below.andThen (by go_grown) hb1
    have hS1 := hT1.size
    have HB1 : Hid (Below w.heap.size w w1) := hT1
    have qa : Hid (Blk w1 (w.heap.size) 30 #[.slice A n c, .int .i64 now, .int .i64 asked]) := Blk.below (w' := w1) (by first | ((repeat' (first | (refine Blk.at_ _ _ _ ?_; first | rfl | (simp; done)) | refine Blk.alloc ?_ _ | refine Blk.drewN ?_ _ | assumption)); done) | (refine Blk.drew ?_; (repeat' (first | (refine Blk.at_ _ _ _ ?_; first | rfl | (simp; done)) | refine Blk.alloc ?_ _ | refine Blk.drewN ?_ _ | assumption)); done)) (Nat.le_refl _) hb1
    have qr : Hid (Blk w1 (w.heap.size + 1) 30 #[.slice none 0 0, .int .i64 0, .int .i64 0]) := Blk.below (w' := w1) (by first | ((repeat' (first | (refine Blk.at_ _ _ _ ?_; first | rfl | (simp; done)) | refine Blk.alloc ?_ _ | refine Blk.drewN ?_ _ | assumption)); done) | (refine Blk.drew ?_; (repeat' (first | (refine Blk.at_ _ _ _ ?_; first | rfl | (simp; done)) | refine Blk.alloc ?_ _ | refine Blk.drewN ?_ _ | assumption)); done)) (Nat.le_refl _) hb1
    have hSb1 : w.heap.size + 1 + 1 ≤ w1.heap.size := (by have := hb1.size; first | (simpa using this; done) | (simp at this; omega))
    have ka_0 : w1.cell? ⟨w.heap.size, 0, none⟩ = some (.slice A n c) := qa.out.cell 0 rfl
    have ka_1 : w1.cell? ⟨w.heap.size, 1, none⟩ = some (.int .i64 now) := qa.out.cell 1 rfl
    have ka_2 : w1.cell? ⟨w.heap.size, 2, none⟩ = some (.int .i64 asked) := qa.out.cell 2 rfl
    have fa_0 := qa.out.frozen 0
    have fa_1 := qa.out.frozen 1
    have fa_2 := qa.out.frozen 2
    have la := qa.out.lt
    have kr_0 : w1.cell? ⟨w.heap.size + 1, 0, none⟩ = some (.slice none 0 0) := qr.out.cell 0 rfl
    have kr_1 : w1.cell? ⟨w.heap.size + 1, 1, none⟩ = some (.int .i64 0) := qr.out.cell 1 rfl
    have kr_2 : w1.cell? ⟨w.heap.size + 1, 2, none⟩ = some (.int .i64 0) := qr.out.cell 2 rfl
    have fr_0 := qr.out.frozen 0
    have fr_1 := qr.out.frozen 1
    have fr_2 := qr.out.frozen 2
    have lr := qr.out.lt
    clear hb1 hT1
    go_wp2_with fail
    refine (l11Copy_any A n c ts now asked _ hn4 HW.out (HR.out.below (Nat.le_refl _) (by first | exact HB1.out | go_grown | exact Below.andThen HB1.out (by go_grown)))).mono ?_
    rintro e w2 ⟨⟨A1, c1, rfl, hx1⟩, hb2⟩
    have HX1 := Lib.hid hx1
    clear hx1
    clear la ka_0 ka_1 ka_2 fa_0 fa_1 fa_2 lr kr_0 kr_1 kr_2 fr_0 fr_1 fr_2
    have hT2 : Below w1.heap.size w1 w2 := Below.andThen (by go_grown) hb2
    have hS2 := hT2.size
    have HB2 : Hid (Below w.heap.size w w2) := Below.andThen HB1.out hT2
    have qa := Lib.hid (qa.out.below (Nat.le_refl _) hT2)
    have qr := Lib.hid (qr.out.below (Nat.le_refl _) hT2)
    have ka_0 : w2.cell? ⟨w.heap.size, 0, none⟩ = some (.slice A n c) := qa.out.cell 0 rfl
    have ka_1 : w2.cell? ⟨w.heap.size, 1, none⟩ = some (.int .i64 now) := qa.out.cell 1 rfl
    have ka_2 : w2.cell? ⟨w.heap.size, 2, none⟩ = some (.int .i64 asked) := qa.out.cell 2 rfl
    have fa_0 := qa.out.frozen 0
    have fa_1 := qa.out.frozen 1
    have fa_2 := qa.out.frozen 2
    have la := qa.out.lt
    have kr_0 : w2.cell? ⟨w.heap.size + 1, 0, none⟩ = some (.slice none 0 0) := qr.out.cell 0 rfl
    have kr_1 : w2.cell? ⟨w.heap.size + 1, 1, none⟩ = some (.int .i64 0) := qr.out.cell 1 rfl
    have kr_2 : w2.cell? ⟨w.heap.size + 1, 2, none⟩ = some (.int .i64 0) := qr.out.cell 2 rfl
    have fr_0 := qr.out.frozen 0
    have fr_1 := qr.out.frozen 1
    have fr_2 := qr.out.frozen 2
    have lr := qr.out.lt
    clear hb2 hT2
    go_wp2
    refine bodyPost_ret (v := .agg #[.slice A1 n c1, .int .i64 now, .int .i64 (-1)]) (by simp [results, Try.results19, go_sem, *]) rfl ?_
    refine ⟨⟨A1, c1, rfl, ?_⟩, ?_⟩
    · exact Own_tab.lower ((((HX1.out.far (by dsimp only; omega) _).far (by dsimp only; omega) _).far (by dsimp only; omega) _).alloc _) (by omega)
    · exact (((HB2.out.setCell (by dsimp only; omega) _).setCell (by dsimp only; omega) _).setCell (by dsimp only; omega) _).alloc (by simp [World.setCell]; omega) _
end Go.Proofs.Ytdccgflkhgnflaa
