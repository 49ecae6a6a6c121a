/-
  CONTRACT of toAudit with the new slice's room told.
  Conditions: none beyond those that each states.
-/
import Derived.Test.YtboejpljjhgflaaSAudit
namespace Go.Proofs.Ytboejpljjhgflaa
open Go.ChangeShapes Go.WideShapes Go.ChangeAt Go.RowKit Go.Joins
set_option linter.unusedVariables false

def RetAuditC (w : World) (x0 : Int) (x2 : Int) (zs : List Int) (e : Ending) (w' : World) : Prop :=
  ∃ g, e = .returned (.agg #[.int .i64 x0, .slice (some ⟨g, 0, none⟩) zs.length zs.length, .int .i64 x2]) ∧ Fr w' w.heap.size w'.heap.size 3 1 (some ⟨g, 0, none⟩) zs.length (ints zs) ∧ Below w.heap.size w w'
set_option maxRecDepth 100000 in
set_option maxHeartbeats 1000000 in
theorem toAuditC_any (x0 : Int) (A : Option Addr) (n c : Nat) (zs : List Int) (x2 : Int) (w : World) (hm : n ≤ 1048576) (hr : Rd w 1 A n (ints zs)) :
    Calls Try.prog 8 #[.agg #[.int .i64 x0, .slice A n c, .int .i64 x2]] w (fun e w' => RetAuditC w x0 x2 zs e w') := by
  have hl := hr.len
  subst hl
  go_enter Try.func8, Try.ntmps8
  go_wp2_with fail
  refine (toIntS_any A zs.length c zs _ (by omega) (hr.below (Nat.le_refl _) (by go_grown))).mono ?_
  rintro e w1 ⟨rfl, ho1, hb1⟩
  have hs1 := hb1.size
  simp only [World.size_alloc] at hs1
  have qa : Blk w1 (w.heap.size) 24 #[.int .i64 x0, .slice A zs.length c, .int .i64 x2] := Blk.below (w' := w1) (by repeat' (first | (refine Blk.at_ _ _ _ ?_; first | rfl | (simp; done)) | refine Blk.alloc ?_ _ | assumption)) (Nat.le_refl _) hb1
  have ka_0 := qa.cell 0 rfl
  have ka_1 := qa.cell 1 rfl
  have ka_2 := qa.cell 2 rfl
  have fa_0 := qa.frozen 0
  have fa_1 := qa.frozen 1
  have fa_2 := qa.frozen 2
  have la := qa.lt
  clear qa
  have qb : Blk w1 (w.heap.size + 1) 27 #[.int .i64 0, .slice none 0 0, .int .i64 0] := Blk.below (w' := w1) (by repeat' (first | (refine Blk.at_ _ _ _ ?_; first | rfl | (simp; done)) | refine Blk.alloc ?_ _ | assumption)) (Nat.le_refl _) hb1
  have kb_0 := qb.cell 0 rfl
  have kb_1 := qb.cell 1 rfl
  have kb_2 := qb.cell 2 rfl
  have fb_0 := qb.frozen 0
  have fb_1 := qb.frozen 1
  have fb_2 := qb.frozen 2
  have lb := qb.lt
  clear qb
  have qd : Blk w1 (w.heap.size + 1 + 1) 27 #[.int .i64 x0, .slice none 0 0, .int .i64 0] := Blk.below (w' := w1) (by repeat' (first | (refine Blk.at_ _ _ _ ?_; first | rfl | (simp; done)) | refine Blk.alloc ?_ _ | assumption)) (Nat.le_refl _) hb1
  have kd_0 := qd.cell 0 rfl
  have kd_1 := qd.cell 1 rfl
  have kd_2 := qd.cell 2 rfl
  have fd_0 := qd.frozen 0
  have fd_1 := qd.frozen 1
  have fd_2 := qd.frozen 2
  have ld := qd.lt
  clear qd
  have HO := Lib.hid (Fr.of_own ho1)
  have HB := Lib.hid (Below.andThen (w := w) (by go_grown) hb1)
  clear ho1 hb1 hr
  go_wp2
  refine bodyPost_ret (v := .agg #[.int .i64 x0, .slice (some ⟨w.heap.size + 1 + 1 + 1, 0, none⟩) zs.length zs.length, .int .i64 x2]) (by simp [results, Try.results8, go_sem, *]) rfl ?_
  refine ⟨_, rfl, Fr.wide (lo := w.heap.size + 1 + 1 + 1) (hi := w1.heap.size) ?_ (by omega) (by simp), ?_⟩
  · have h := HO.out
    simp only [World.size_alloc] at h
    repeat (refine Fr.setFar ?_ (by first | (left; simp; omega) | (left; simp; done)) _)
    exact h
  · have h := HB.out
    repeat (refine Below.setCell ?_ (by first | (simp; done) | (simp; omega)) _)
    exact h
end Go.Proofs.Ytboejpljjhgflaa
