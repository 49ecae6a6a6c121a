/-
  CONTRACTS of the laws' helpers over Setup, and of SetupValid.
  Conditions: none beyond those that each states.
-/
import Derived.Test.YtlckjhbgdbhdmaaParts
import Derived.Test.YtlckjhbgdbhdmaaOpenPart
import Derived.Test.YtlckjhbgdbhdmaaChan
import Derived.Test.YtlckjhbgdbhdmaaSlots
namespace Go.Proofs.Ytlckjhbgdbhdmaa
open Go.ChangeShapes Go.WideShapes Go.ChangeAt Go.RowKit Go.Joins
set_option linter.unusedVariables false

abbrev Slot2 := Int × Int
theorem setCell_size (w : World) (p : Addr) (v : Value) : (w.setCell p v).heap.size = w.heap.size := by simp [World.setCell]
def setupOk (ps : List PartL) (cs : List Chan) (ss : List Slot2) : Bool := partsOk ps && (chansOk ps.length cs && slotsOk ps.length ss)
structure Rd_set (w : World) (A : Option Addr) (n : Nat) (ps : List PartL) (B : Option Addr) (m : Nat) (cs : List Chan) (C : Option Addr) (q : Nat) (ss : List Slot2) : Prop where
  p : Rd_part w A n ps
  c : Rd w 4 B m (chans cs)
  s : Rd w 2 C q (slots ss)
theorem Rd_set.below {w w' : World} {A : Option Addr} {n : Nat} {ps : List PartL} {B : Option Addr} {m : Nat} {cs : List Chan} {C : Option Addr} {q : Nat} {ss : List Slot2} (h : Rd_set w A n ps B m cs C q ss) {X : Nat} (hB : w.heap.size ≤ X) (hb : Below X w w') : Rd_set w' A n ps B m cs C q ss := ⟨h.p.below hB hb, h.c.below hB hb, h.s.below hB hb⟩
theorem Rd_set.alloc {w : World} {A : Option Addr} {n : Nat} {ps : List PartL} {B : Option Addr} {m : Nat} {cs : List Chan} {C : Option Addr} {q : Nat} {ss : List Slot2} (h : Rd_set w A n ps B m cs C q ss) (x : Obj) : Rd_set (w.alloc x) A n ps B m cs C q ss := ⟨h.p.alloc x, h.c.alloc x, h.s.alloc x⟩
/-- a setup of one's own: the partitions' row in block g1, their windows behind it and below g2, the channels in g2, the slots in g3 -/
structure Fr_set (w : World) (lo hi g1 g2 g3 n : Nat) (ps : List PartL) (m : Nat) (cs : List Chan) (q : Nat) (ss : List Slot2) : Prop where
  l1 : lo ≤ g1
  l2 : g1 < g2
  l3 : g2 < g3
  l4 : g3 < hi
  p : FrO_part w g1 g2 n ps
  c : Fr w g2 (g2 + 1) 60 4 (some ⟨g2, 0, none⟩) m (chans cs)
  s : Fr w g3 (g3 + 1) 58 2 (some ⟨g3, 0, none⟩) q (slots ss)
section
variable {w w' : World} {lo hi g1 g2 g3 n m q : Nat} {ps : List PartL} {cs : List Chan} {ss : List Slot2}
theorem Fr_set.rd (h : Fr_set w lo hi g1 g2 g3 n ps m cs q ss) : Rd_set w (some ⟨g1, 0, none⟩) n ps (some ⟨g2, 0, none⟩) m cs (some ⟨g3, 0, none⟩) q ss := ⟨FrNO.rd h.p, h.c.rd, h.s.rd⟩
theorem Fr_set.below (h : Fr_set w lo hi g1 g2 g3 n ps m cs q ss) {B : Nat} (hB : w.heap.size ≤ B) (hb : Below B w w') : Fr_set w' lo hi g1 g2 g3 n ps m cs q ss := ⟨h.l1, h.l2, h.l3, h.l4, FrNO.below h.p hB hb, h.c.below hB hb, h.s.below hB hb⟩
theorem Fr_set.alloc (h : Fr_set w lo hi g1 g2 g3 n ps m cs q ss) (x : Obj) : Fr_set (w.alloc x) lo hi g1 g2 g3 n ps m cs q ss := h.below (Nat.le_refl _) ((Below.refl _ _).alloc (Nat.le_refl _) x)
theorem Fr_set.wide {lo' hi' : Nat} (h : Fr_set w lo hi g1 g2 g3 n ps m cs q ss) (h1 : lo' ≤ lo) (h2 : hi ≤ hi') : Fr_set w lo' hi' g1 g2 g3 n ps m cs q ss := ⟨by have := h.l1; omega, h.l2, h.l3, by have := h.l4; omega, h.p, h.c, h.s⟩
theorem Fr_set.touch {lo' hi' : Nat} (h : Fr_set w lo hi g1 g2 g3 n ps m cs q ss) (ht : Touch lo' hi' w w') (hd : hi ≤ lo' ∨ hi' ≤ lo) : Fr_set w' lo hi g1 g2 g3 n ps m cs q ss := by
  have := h.l1; have := h.l2; have := h.l3; have := h.l4
  exact ⟨h.l1, h.l2, h.l3, h.l4, FrNO.touch h.p ht (by omega), h.c.touch ht (by omega), h.s.touch ht (by omega)⟩
end
def setN (ps : List PartL) (cs : List Chan) (ss : List Slot2) : Nat := ps.length + partN ps + cs.length + ss.length

set_option maxRecDepth 100000 in
set_option maxHeartbeats 4000000 in
theorem toSetup_any (A : Option Addr) (n c : Nat) (ps : List PartL) (B : Option Addr) (m d : Nat) (cs : List Chan) (C : Option Addr) (q e : Nat) (ss : List Slot2) (w : World) (hn : n ≤ 1048576) (hm : m ≤ 1048576) (hq : q ≤ 1048576) (ht : ∀ x ∈ ps, (partI x).length ≤ 1048576) (hr : Rd_set w A n ps B m cs C q ss) :
    Calls Try.prog 9 #[.agg #[.slice A n c, .slice B m d, .slice C q e]] w fun r w' => ∃ g1 g2 g3, r = .returned (.agg #[.slice (some ⟨g1, 0, none⟩) n n, .slice (some ⟨g2, 0, none⟩) m m, .slice (some ⟨g3, 0, none⟩) q q]) ∧ Fr_set w' w.heap.size w'.heap.size g1 g2 g3 n ps m cs q ss ∧ Below w.heap.size w w' := by
  have HR := Lib.hid hr
  have HT := Lib.hid ht
  clear hr ht
  go_enter Try.func9, Try.ntmps9
  go_wp2_with fail
  refine (toPartS_own A n c ps _ hn HT.out (HR.out.p.below (Nat.le_refl _) (by go_grown))).mono ?_
  rintro e1 w1 ⟨rfl, hl1, hf1, hb1⟩
  simp only [World.size_alloc] at hl1 hf1
  have HB1 : Hid (Below w.heap.size w w1) := Below.andThen (w := w) (by go_grown) hb1
  have qa : Hid (Blk w1 (w.heap.size) 26 #[.slice A n c, .slice B m d, .slice C q e]) := Blk.below (w' := w1) (by repeat' (first | (refine Blk.at_ _ _ _ ?_; first | rfl | (simp; done)) | refine Blk.alloc ?_ _ | assumption)) (Nat.le_refl _) hb1
  have qb : Hid (Blk w1 (w.heap.size + 1) 33 #[.slice none 0 0, .slice none 0 0, .slice none 0 0]) := Blk.below (w' := w1) (by repeat' (first | (refine Blk.at_ _ _ _ ?_; first | rfl | (simp; done)) | refine Blk.alloc ?_ _ | assumption)) (Nat.le_refl _) hb1
  have qd : Hid (Blk w1 (w.heap.size + 1 + 1) 33 #[.slice none 0 0, .slice none 0 0, .slice none 0 0]) := Blk.below (w' := w1) (by repeat' (first | (refine Blk.at_ _ _ _ ?_; first | rfl | (simp; done)) | refine Blk.alloc ?_ _ | assumption)) (Nat.le_refl _) hb1
  have ka_0 : w1.cell? ⟨w.heap.size, 0, none⟩ = some (.slice A n c) := qa.out.cell 0 rfl
  have fa_0 := qa.out.frozen 0
  have ka_1 : w1.cell? ⟨w.heap.size, 1, none⟩ = some (.slice B m d) := qa.out.cell 1 rfl
  have fa_1 := qa.out.frozen 1
  have ka_2 : w1.cell? ⟨w.heap.size, 2, none⟩ = some (.slice C q e) := qa.out.cell 2 rfl
  have fa_2 := qa.out.frozen 2
  have la := qa.out.lt
  have kb_0 : w1.cell? ⟨w.heap.size + 1, 0, none⟩ = some (.slice none 0 0) := qb.out.cell 0 rfl
  have fb_0 := qb.out.frozen 0
  have kb_1 : w1.cell? ⟨w.heap.size + 1, 1, none⟩ = some (.slice none 0 0) := qb.out.cell 1 rfl
  have fb_1 := qb.out.frozen 1
  have kb_2 : w1.cell? ⟨w.heap.size + 1, 2, none⟩ = some (.slice none 0 0) := qb.out.cell 2 rfl
  have fb_2 := qb.out.frozen 2
  have lb := qb.out.lt
  have kd_0 : w1.cell? ⟨w.heap.size + 1 + 1, 0, none⟩ = some (.slice none 0 0) := qd.out.cell 0 rfl
  have fd_0 := qd.out.frozen 0
  have kd_1 : w1.cell? ⟨w.heap.size + 1 + 1, 1, none⟩ = some (.slice none 0 0) := qd.out.cell 1 rfl
  have fd_1 := qd.out.frozen 1
  have kd_2 : w1.cell? ⟨w.heap.size + 1 + 1, 2, none⟩ = some (.slice none 0 0) := qd.out.cell 2 rfl
  have fd_2 := qd.out.frozen 2
  have ld := qd.out.lt
  have HF1 := Lib.hid hf1
  clear hb1 hf1
  go_wp2_with fail
  refine (toChannelS_any B m d cs _ hm (HR.out.c.below (Nat.le_refl _) (HB1.out.setCell (by simp; omega) _))).mono ?_
  rintro e2 w2 ⟨rfl, ho2, hb2⟩
  have hg2 := own_one ho2
  simp only [setCell_size] at hg2
  have HB2 : Hid (Below w.heap.size w w2) := Below.andThen (HB1.out.setCell (by simp; omega) _) hb2
  clear ka_0 fa_0 ka_1 fa_1 ka_2 fa_2 kb_0 fb_0 kb_1 fb_1 kb_2 fb_2 kd_0 fd_0 kd_1 fd_1 kd_2 fd_2 la lb ld
  have qa : Hid (Blk w2 (w.heap.size) 26 #[.slice A n c, .slice B m d, .slice C q e]) := (qa.out.far (by dsimp only; omega) _).below (Nat.le_refl _) hb2
  have qb : Hid (Blk w2 (w.heap.size + 1) 33 #[.slice none 0 0, .slice none 0 0, .slice none 0 0]) := (qb.out.far (by dsimp only; omega) _).below (Nat.le_refl _) hb2
  have qd : Hid (Blk w2 (w.heap.size + 1 + 1) 33 #[.slice (some ⟨w.heap.size + 1 + 1 + 1, 0, none⟩) n n, .slice none 0 0, .slice none 0 0]) := (qd.out.set_ 0 (.slice (some ⟨w.heap.size + 1 + 1 + 1, 0, none⟩) n n)).below (Nat.le_refl _) hb2
  have ka_0 : w2.cell? ⟨w.heap.size, 0, none⟩ = some (.slice A n c) := qa.out.cell 0 rfl
  have fa_0 := qa.out.frozen 0
  have ka_1 : w2.cell? ⟨w.heap.size, 1, none⟩ = some (.slice B m d) := qa.out.cell 1 rfl
  have fa_1 := qa.out.frozen 1
  have ka_2 : w2.cell? ⟨w.heap.size, 2, none⟩ = some (.slice C q e) := qa.out.cell 2 rfl
  have fa_2 := qa.out.frozen 2
  have la := qa.out.lt
  have kb_0 : w2.cell? ⟨w.heap.size + 1, 0, none⟩ = some (.slice none 0 0) := qb.out.cell 0 rfl
  have fb_0 := qb.out.frozen 0
  have kb_1 : w2.cell? ⟨w.heap.size + 1, 1, none⟩ = some (.slice none 0 0) := qb.out.cell 1 rfl
  have fb_1 := qb.out.frozen 1
  have kb_2 : w2.cell? ⟨w.heap.size + 1, 2, none⟩ = some (.slice none 0 0) := qb.out.cell 2 rfl
  have fb_2 := qb.out.frozen 2
  have lb := qb.out.lt
  have kd_0 : w2.cell? ⟨w.heap.size + 1 + 1, 0, none⟩ = some (.slice (some ⟨w.heap.size + 1 + 1 + 1, 0, none⟩) n n) := qd.out.cell 0 rfl
  have fd_0 := qd.out.frozen 0
  have kd_1 : w2.cell? ⟨w.heap.size + 1 + 1, 1, none⟩ = some (.slice none 0 0) := qd.out.cell 1 rfl
  have fd_1 := qd.out.frozen 1
  have kd_2 : w2.cell? ⟨w.heap.size + 1 + 1, 2, none⟩ = some (.slice none 0 0) := qd.out.cell 2 rfl
  have fd_2 := qd.out.frozen 2
  have ld := qd.out.lt
  have hs2 := hb2.size
  have HF1 := Lib.hid ((FrNO.touch (lo' := w.heap.size + 1 + 1) (hi' := w.heap.size + 1 + 1 + 1) HF1.out (Touch.setCell (Touch.refl _ _ _) (by simp) (by simp) (p := ⟨w.heap.size + 1 + 1, 0, none⟩) _) (Or.inr (Nat.le_refl _))).below (Nat.le_refl _) hb2)
  have HC2 : Hid (Fr w2 w1.heap.size (w1.heap.size + 1) 60 4 (some ⟨w1.heap.size, 0, none⟩) m (chans cs)) := hg2.1
  have hC2 : w1.heap.size < w2.heap.size := hg2.2.1
  clear hb2 ho2 hg2
  go_wp2_with fail
  refine (toSlotS_any C q e ss _ hq (HR.out.s.below (Nat.le_refl _) (HB2.out.setCell (by simp; omega) _))).mono ?_
  rintro e3 w3 ⟨rfl, ho3, hb3⟩
  have hg3 := own_one ho3
  simp only [setCell_size] at hg3
  have HB3 : Hid (Below w.heap.size w w3) := Below.andThen (HB2.out.setCell (by simp; omega) _) hb3
  clear ka_0 fa_0 ka_1 fa_1 ka_2 fa_2 kb_0 fb_0 kb_1 fb_1 kb_2 fb_2 kd_0 fd_0 kd_1 fd_1 kd_2 fd_2 la lb ld
  have qa : Hid (Blk w3 (w.heap.size) 26 #[.slice A n c, .slice B m d, .slice C q e]) := (qa.out.far (by dsimp only; omega) _).below (Nat.le_refl _) hb3
  have qb : Hid (Blk w3 (w.heap.size + 1) 33 #[.slice none 0 0, .slice none 0 0, .slice none 0 0]) := (qb.out.far (by dsimp only; omega) _).below (Nat.le_refl _) hb3
  have qd : Hid (Blk w3 (w.heap.size + 1 + 1) 33 #[.slice (some ⟨w.heap.size + 1 + 1 + 1, 0, none⟩) n n, .slice (some ⟨w1.heap.size, 0, none⟩) m m, .slice none 0 0]) := (qd.out.set_ 1 (.slice (some ⟨w1.heap.size, 0, none⟩) m m)).below (Nat.le_refl _) hb3
  have ka_0 : w3.cell? ⟨w.heap.size, 0, none⟩ = some (.slice A n c) := qa.out.cell 0 rfl
  have fa_0 := qa.out.frozen 0
  have ka_1 : w3.cell? ⟨w.heap.size, 1, none⟩ = some (.slice B m d) := qa.out.cell 1 rfl
  have fa_1 := qa.out.frozen 1
  have ka_2 : w3.cell? ⟨w.heap.size, 2, none⟩ = some (.slice C q e) := qa.out.cell 2 rfl
  have fa_2 := qa.out.frozen 2
  have la := qa.out.lt
  have kb_0 : w3.cell? ⟨w.heap.size + 1, 0, none⟩ = some (.slice none 0 0) := qb.out.cell 0 rfl
  have fb_0 := qb.out.frozen 0
  have kb_1 : w3.cell? ⟨w.heap.size + 1, 1, none⟩ = some (.slice none 0 0) := qb.out.cell 1 rfl
  have fb_1 := qb.out.frozen 1
  have kb_2 : w3.cell? ⟨w.heap.size + 1, 2, none⟩ = some (.slice none 0 0) := qb.out.cell 2 rfl
  have fb_2 := qb.out.frozen 2
  have lb := qb.out.lt
  have kd_0 : w3.cell? ⟨w.heap.size + 1 + 1, 0, none⟩ = some (.slice (some ⟨w.heap.size + 1 + 1 + 1, 0, none⟩) n n) := qd.out.cell 0 rfl
  have fd_0 := qd.out.frozen 0
  have kd_1 : w3.cell? ⟨w.heap.size + 1 + 1, 1, none⟩ = some (.slice (some ⟨w1.heap.size, 0, none⟩) m m) := qd.out.cell 1 rfl
  have fd_1 := qd.out.frozen 1
  have kd_2 : w3.cell? ⟨w.heap.size + 1 + 1, 2, none⟩ = some (.slice none 0 0) := qd.out.cell 2 rfl
  have fd_2 := qd.out.frozen 2
  have ld := qd.out.lt
  have HF1 := Lib.hid ((FrNO.touch (lo' := w.heap.size + 1 + 1) (hi' := w.heap.size + 1 + 1 + 1) HF1.out (Touch.setCell (Touch.refl _ _ _) (by simp) (by simp) (p := ⟨w.heap.size + 1 + 1, 1, none⟩) _) (Or.inr (Nat.le_refl _))).below (Nat.le_refl _) hb3)
  have HC2 := Lib.hid ((HC2.out.setFar (p := ⟨w.heap.size + 1 + 1, 1, none⟩) (by left; simp; omega) _).below (Nat.le_refl _) hb3)
  have HS3 : Hid (Fr w3 w2.heap.size (w2.heap.size + 1) 58 2 (some ⟨w2.heap.size, 0, none⟩) q (slots ss)) := hg3.1
  have hS3 : w2.heap.size < w3.heap.size := hg3.2.1
  clear hb3 ho3 hg3
  go_wp2
  refine bodyPost_ret (v := .agg #[.slice (some ⟨w.heap.size + 1 + 1 + 1, 0, none⟩) n n, .slice (some ⟨w1.heap.size, 0, none⟩) m m, .slice (some ⟨w2.heap.size, 0, none⟩) q q]) (by simp [results, Try.results9, go_sem, *]) rfl ?_
  refine ⟨w.heap.size + 1 + 1 + 1, w1.heap.size, w2.heap.size, rfl, ⟨by omega, by omega, hC2, by simp; omega, ?_, ?_, ?_⟩, ?_⟩
  · refine FrNO.touch (lo' := w.heap.size + 1) (hi' := w.heap.size + 1 + 1 + 1) HF1.out ?_ (Or.inr (Nat.le_refl _))
    repeat (refine Touch.setCell ?_ (by simp) (by first | (simp; done) | (simp; omega)) _)
    exact Touch.refl _ _ _
  · have h := HC2.out
    repeat (refine Fr.setFar ?_ (by left; simp; omega) _)
    exact h
  · have h := HS3.out
    repeat (refine Fr.setFar ?_ (by left; simp; omega) _)
    exact h
  · have h := HB3.out
    repeat (refine Below.setCell ?_ (by first | (simp; done) | (simp; omega)) _)
    exact h
set_option maxRecDepth 100000 in
set_option maxHeartbeats 4000000 in
theorem szSetup_any (A : Option Addr) (n c : Nat) (ps : List PartL) (B : Option Addr) (m d : Nat) (cs : List Chan) (C : Option Addr) (q e : Nat) (ss : List Slot2) (left : Int) (w : World) (hn : n ≤ 9223372036854775807) (hm : m ≤ 9223372036854775807) (hq : q ≤ 9223372036854775807) (h0 : 0 ≤ left) (h1 : left ≤ 1048576) (hr : Rd_set w A n ps B m cs C q ss) :
    Calls Try.prog 7 #[.agg #[.slice A n c, .slice B m d, .slice C q e], .int .i64 left] w fun r w' => r = .returned (.int .i64 (if ((setN ps cs ss : Nat) : Int) ≤ left then left - ((setN ps cs ss : Nat) : Int) else -1)) ∧ Below w.heap.size w w' := by
  have HR := Lib.hid hr
  obtain ⟨T, hT⟩ : ∃ T, T = partN ps := ⟨_, rfl⟩
  have hN : setN ps cs ss = n + T + m + q := by unfold setN; rw [hr.p.len, hr.c.chansLen, hr.s.slotsLen, hT]
  have HN := Lib.hid hN
  have HT := Lib.hid hT
  clear hr hN hT
  rw [HN.out]
  by_cases c1 : ((n + T : Nat) : Int) ≤ left
  · by_cases c2 : (m : Int) ≤ left - ((n + T : Nat) : Int)
    · by_cases c3 : (q : Int) ≤ left - ((n + T : Nat) : Int) - (m : Int)
      · skip
        go_enter Try.func7, Try.ntmps7
        go_wp2_with fail
        refine (szPartS_any A n c ps left _ (by omega) h0 h1 (HR.out.p.below (Nat.le_refl _) (by go_grown))).mono ?_
        rw [← HT.out]
        rw [if_pos (by omega)]
        rintro e1 w1 ⟨rfl, hb1⟩
        have hT1 : Below w.heap.size w w1 := Below.andThen (by go_grown) hb1
        have hS1 := hT1.size
        have HB1 : Hid (Below w.heap.size w w1) := hT1
        have qa : Hid (Blk w1 (w.heap.size) 26 #[.slice A n c, .slice B m d, .slice C q e]) := Blk.below (w' := w1) (by first | ((repeat' (first | (refine Blk.at_ _ _ _ ?_; first | rfl | (simp; done)) | refine Blk.alloc ?_ _ | refine Blk.drewN ?_ _ | assumption)); done) | (refine Blk.drew ?_; (repeat' (first | (refine Blk.at_ _ _ _ ?_; first | rfl | (simp; done)) | refine Blk.alloc ?_ _ | refine Blk.drewN ?_ _ | assumption)); done)) (Nat.le_refl _) hb1
        have hSb1 : w.heap.size + 1 ≤ w1.heap.size := (by have := hb1.size; first | (simpa using this; done) | (simp at this; omega))
        have ka_0 : w1.cell? ⟨w.heap.size, 0, none⟩ = some (.slice A n c) := qa.out.cell 0 rfl
        have ka_1 : w1.cell? ⟨w.heap.size, 1, none⟩ = some (.slice B m d) := qa.out.cell 1 rfl
        have ka_2 : w1.cell? ⟨w.heap.size, 2, none⟩ = some (.slice C q e) := qa.out.cell 2 rfl
        have fa_0 := qa.out.frozen 0
        have fa_1 := qa.out.frozen 1
        have fa_2 := qa.out.frozen 2
        have la := qa.out.lt
        clear hb1 hT1
        have hz0 : ¬ left - ((n + T : Nat) : Int) < 0 := by omega
        go_wp2_with fail
        refine (szChannelS_any _ _ _ _ _ (by omega) (by omega) (by omega)).mono ?_
        rw [if_pos (by omega)]
        rintro e1 w2 ⟨rfl, hb2⟩
        clear la ka_0 ka_1 ka_2 fa_0 fa_1 fa_2
        have hT2 : Below w1.heap.size w1 w2 := Below.andThen (by go_grown) hb2
        have hS2 := hT2.size
        have HB2 : Hid (Below w.heap.size w w2) := Below.andThen HB1.out hT2
        have qa := Lib.hid (qa.out.below (Nat.le_refl _) hT2)
        have ka_0 : w2.cell? ⟨w.heap.size, 0, none⟩ = some (.slice A n c) := qa.out.cell 0 rfl
        have ka_1 : w2.cell? ⟨w.heap.size, 1, none⟩ = some (.slice B m d) := qa.out.cell 1 rfl
        have ka_2 : w2.cell? ⟨w.heap.size, 2, none⟩ = some (.slice C q e) := qa.out.cell 2 rfl
        have fa_0 := qa.out.frozen 0
        have fa_1 := qa.out.frozen 1
        have fa_2 := qa.out.frozen 2
        have la := qa.out.lt
        clear hb2 hT2
        have hz1 : ¬ left - ((n + T : Nat) : Int) - (m : Int) < 0 := by omega
        go_wp2_with fail
        refine (szSlotS_any _ _ _ _ _ (by omega) (by omega) (by omega)).mono ?_
        rw [if_pos (by omega)]
        rintro e1 w3 ⟨rfl, hb3⟩
        clear la ka_0 ka_1 ka_2 fa_0 fa_1 fa_2
        have hT3 : Below w2.heap.size w2 w3 := Below.andThen (by go_grown) hb3
        have hS3 := hT3.size
        have HB3 : Hid (Below w.heap.size w w3) := Below.andThen HB2.out hT3
        have qa := Lib.hid (qa.out.below (Nat.le_refl _) hT3)
        have ka_0 : w3.cell? ⟨w.heap.size, 0, none⟩ = some (.slice A n c) := qa.out.cell 0 rfl
        have ka_1 : w3.cell? ⟨w.heap.size, 1, none⟩ = some (.slice B m d) := qa.out.cell 1 rfl
        have ka_2 : w3.cell? ⟨w.heap.size, 2, none⟩ = some (.slice C q e) := qa.out.cell 2 rfl
        have fa_0 := qa.out.frozen 0
        have fa_1 := qa.out.frozen 1
        have fa_2 := qa.out.frozen 2
        have la := qa.out.lt
        clear hb3 hT3
        have hz2 : ¬ left - ((n + T : Nat) : Int) - (m : Int) - (q : Int) < 0 := by omega
        go_wp2
        go_ret
        exact ⟨ret_int (by first | rfl | omega | (rw [if_pos (by omega)]; omega) | (rw [if_neg (by omega)] <;> rfl)), HB3.out⟩
      · skip
        go_enter Try.func7, Try.ntmps7
        go_wp2_with fail
        refine (szPartS_any A n c ps left _ (by omega) h0 h1 (HR.out.p.below (Nat.le_refl _) (by go_grown))).mono ?_
        rw [← HT.out]
        rw [if_pos (by omega)]
        rintro e1 w1 ⟨rfl, hb1⟩
        have hT1 : Below w.heap.size w w1 := Below.andThen (by go_grown) hb1
        have hS1 := hT1.size
        have HB1 : Hid (Below w.heap.size w w1) := hT1
        have qa : Hid (Blk w1 (w.heap.size) 26 #[.slice A n c, .slice B m d, .slice C q e]) := Blk.below (w' := w1) (by first | ((repeat' (first | (refine Blk.at_ _ _ _ ?_; first | rfl | (simp; done)) | refine Blk.alloc ?_ _ | refine Blk.drewN ?_ _ | assumption)); done) | (refine Blk.drew ?_; (repeat' (first | (refine Blk.at_ _ _ _ ?_; first | rfl | (simp; done)) | refine Blk.alloc ?_ _ | refine Blk.drewN ?_ _ | assumption)); done)) (Nat.le_refl _) hb1
        have hSb1 : w.heap.size + 1 ≤ w1.heap.size := (by have := hb1.size; first | (simpa using this; done) | (simp at this; omega))
        have ka_0 : w1.cell? ⟨w.heap.size, 0, none⟩ = some (.slice A n c) := qa.out.cell 0 rfl
        have ka_1 : w1.cell? ⟨w.heap.size, 1, none⟩ = some (.slice B m d) := qa.out.cell 1 rfl
        have ka_2 : w1.cell? ⟨w.heap.size, 2, none⟩ = some (.slice C q e) := qa.out.cell 2 rfl
        have fa_0 := qa.out.frozen 0
        have fa_1 := qa.out.frozen 1
        have fa_2 := qa.out.frozen 2
        have la := qa.out.lt
        clear hb1 hT1
        have hz0 : ¬ left - ((n + T : Nat) : Int) < 0 := by omega
        go_wp2_with fail
        refine (szChannelS_any _ _ _ _ _ (by omega) (by omega) (by omega)).mono ?_
        rw [if_pos (by omega)]
        rintro e1 w2 ⟨rfl, hb2⟩
        clear la ka_0 ka_1 ka_2 fa_0 fa_1 fa_2
        have hT2 : Below w1.heap.size w1 w2 := Below.andThen (by go_grown) hb2
        have hS2 := hT2.size
        have HB2 : Hid (Below w.heap.size w w2) := Below.andThen HB1.out hT2
        have qa := Lib.hid (qa.out.below (Nat.le_refl _) hT2)
        have ka_0 : w2.cell? ⟨w.heap.size, 0, none⟩ = some (.slice A n c) := qa.out.cell 0 rfl
        have ka_1 : w2.cell? ⟨w.heap.size, 1, none⟩ = some (.slice B m d) := qa.out.cell 1 rfl
        have ka_2 : w2.cell? ⟨w.heap.size, 2, none⟩ = some (.slice C q e) := qa.out.cell 2 rfl
        have fa_0 := qa.out.frozen 0
        have fa_1 := qa.out.frozen 1
        have fa_2 := qa.out.frozen 2
        have la := qa.out.lt
        clear hb2 hT2
        have hz1 : ¬ left - ((n + T : Nat) : Int) - (m : Int) < 0 := by omega
        go_wp2_with fail
        refine (szSlotS_any _ _ _ _ _ (by omega) (by omega) (by omega)).mono ?_
        rw [if_neg (by omega)]
        rintro e1 w3 ⟨rfl, hb3⟩
        clear la ka_0 ka_1 ka_2 fa_0 fa_1 fa_2
        have hT3 : Below w2.heap.size w2 w3 := Below.andThen (by go_grown) hb3
        have hS3 := hT3.size
        have HB3 : Hid (Below w.heap.size w w3) := Below.andThen HB2.out hT3
        have qa := Lib.hid (qa.out.below (Nat.le_refl _) hT3)
        have ka_0 : w3.cell? ⟨w.heap.size, 0, none⟩ = some (.slice A n c) := qa.out.cell 0 rfl
        have ka_1 : w3.cell? ⟨w.heap.size, 1, none⟩ = some (.slice B m d) := qa.out.cell 1 rfl
        have ka_2 : w3.cell? ⟨w.heap.size, 2, none⟩ = some (.slice C q e) := qa.out.cell 2 rfl
        have fa_0 := qa.out.frozen 0
        have fa_1 := qa.out.frozen 1
        have fa_2 := qa.out.frozen 2
        have la := qa.out.lt
        clear hb3 hT3
        go_wp2
        go_ret
        exact ⟨ret_int (by first | rfl | omega | (rw [if_pos (by omega)]; omega) | (rw [if_neg (by omega)] <;> rfl)), HB3.out⟩
    · skip
      go_enter Try.func7, Try.ntmps7
      go_wp2_with fail
      refine (szPartS_any A n c ps left _ (by omega) h0 h1 (HR.out.p.below (Nat.le_refl _) (by go_grown))).mono ?_
      rw [← HT.out]
      rw [if_pos (by omega)]
      rintro e1 w1 ⟨rfl, hb1⟩
      have hT1 : Below w.heap.size w w1 := Below.andThen (by go_grown) hb1
      have hS1 := hT1.size
      have HB1 : Hid (Below w.heap.size w w1) := hT1
      have qa : Hid (Blk w1 (w.heap.size) 26 #[.slice A n c, .slice B m d, .slice C q e]) := Blk.below (w' := w1) (by first | ((repeat' (first | (refine Blk.at_ _ _ _ ?_; first | rfl | (simp; done)) | refine Blk.alloc ?_ _ | refine Blk.drewN ?_ _ | assumption)); done) | (refine Blk.drew ?_; (repeat' (first | (refine Blk.at_ _ _ _ ?_; first | rfl | (simp; done)) | refine Blk.alloc ?_ _ | refine Blk.drewN ?_ _ | assumption)); done)) (Nat.le_refl _) hb1
      have hSb1 : w.heap.size + 1 ≤ w1.heap.size := (by have := hb1.size; first | (simpa using this; done) | (simp at this; omega))
      have ka_0 : w1.cell? ⟨w.heap.size, 0, none⟩ = some (.slice A n c) := qa.out.cell 0 rfl
      have ka_1 : w1.cell? ⟨w.heap.size, 1, none⟩ = some (.slice B m d) := qa.out.cell 1 rfl
      have ka_2 : w1.cell? ⟨w.heap.size, 2, none⟩ = some (.slice C q e) := qa.out.cell 2 rfl
      have fa_0 := qa.out.frozen 0
      have fa_1 := qa.out.frozen 1
      have fa_2 := qa.out.frozen 2
      have la := qa.out.lt
      clear hb1 hT1
      have hz0 : ¬ left - ((n + T : Nat) : Int) < 0 := by omega
      go_wp2_with fail
      refine (szChannelS_any _ _ _ _ _ (by omega) (by omega) (by omega)).mono ?_
      rw [if_neg (by omega)]
      rintro e1 w2 ⟨rfl, hb2⟩
      clear la ka_0 ka_1 ka_2 fa_0 fa_1 fa_2
      have hT2 : Below w1.heap.size w1 w2 := Below.andThen (by go_grown) hb2
      have hS2 := hT2.size
      have HB2 : Hid (Below w.heap.size w w2) := Below.andThen HB1.out hT2
      have qa := Lib.hid (qa.out.below (Nat.le_refl _) hT2)
      have ka_0 : w2.cell? ⟨w.heap.size, 0, none⟩ = some (.slice A n c) := qa.out.cell 0 rfl
      have ka_1 : w2.cell? ⟨w.heap.size, 1, none⟩ = some (.slice B m d) := qa.out.cell 1 rfl
      have ka_2 : w2.cell? ⟨w.heap.size, 2, none⟩ = some (.slice C q e) := qa.out.cell 2 rfl
      have fa_0 := qa.out.frozen 0
      have fa_1 := qa.out.frozen 1
      have fa_2 := qa.out.frozen 2
      have la := qa.out.lt
      clear hb2 hT2
      go_wp2
      go_ret
      exact ⟨ret_int (by first | rfl | omega | (rw [if_pos (by omega)]; omega) | (rw [if_neg (by omega)] <;> rfl)), HB2.out⟩
  · skip
    go_enter Try.func7, Try.ntmps7
    go_wp2_with fail
    refine (szPartS_any A n c ps left _ (by omega) h0 h1 (HR.out.p.below (Nat.le_refl _) (by go_grown))).mono ?_
    rw [← HT.out]
    rw [if_neg (by omega)]
    rintro e1 w1 ⟨rfl, hb1⟩
    have hT1 : Below w.heap.size w w1 := Below.andThen (by go_grown) hb1
    have hS1 := hT1.size
    have HB1 : Hid (Below w.heap.size w w1) := hT1
    have qa : Hid (Blk w1 (w.heap.size) 26 #[.slice A n c, .slice B m d, .slice C q e]) := Blk.below (w' := w1) (by first | ((repeat' (first | (refine Blk.at_ _ _ _ ?_; first | rfl | (simp; done)) | refine Blk.alloc ?_ _ | refine Blk.drewN ?_ _ | assumption)); done) | (refine Blk.drew ?_; (repeat' (first | (refine Blk.at_ _ _ _ ?_; first | rfl | (simp; done)) | refine Blk.alloc ?_ _ | refine Blk.drewN ?_ _ | assumption)); done)) (Nat.le_refl _) hb1
    have hSb1 : w.heap.size + 1 ≤ w1.heap.size := (by have := hb1.size; first | (simpa using this; done) | (simp at this; omega))
    have ka_0 : w1.cell? ⟨w.heap.size, 0, none⟩ = some (.slice A n c) := qa.out.cell 0 rfl
    have ka_1 : w1.cell? ⟨w.heap.size, 1, none⟩ = some (.slice B m d) := qa.out.cell 1 rfl
    have ka_2 : w1.cell? ⟨w.heap.size, 2, none⟩ = some (.slice C q e) := qa.out.cell 2 rfl
    have fa_0 := qa.out.frozen 0
    have fa_1 := qa.out.frozen 1
    have fa_2 := qa.out.frozen 2
    have la := qa.out.lt
    clear hb1 hT1
    go_wp2
    go_ret
    exact ⟨ret_int (by first | rfl | omega | (rw [if_pos (by omega)]; omega) | (rw [if_neg (by omega)] <;> rfl)), HB1.out⟩
set_option maxRecDepth 100000 in
set_option maxHeartbeats 4000000 in
theorem eqSetup_same (A A' : Option Addr) (n c c' : Nat) (ps : List PartL) (B B' : Option Addr) (m d d' : Nat) (cs : List Chan) (C C' : Option Addr) (q e e' : Nat) (ss : List Slot2) (w : World) (hn : n ≤ 1048577) (hm : m ≤ 1048577) (hq : q ≤ 1048577) (ht : ∀ x ∈ ps, (partI x).length ≤ 1048577)
    (hx : Rd_set w A n ps B m cs C q ss) (hy : Rd_set w A' n ps B' m cs C' q ss) :
    Calls Try.prog 11 #[.agg #[.slice A n c, .slice B m d, .slice C q e], .agg #[.slice A' n c', .slice B' m d', .slice C' q e']] w fun r w' => r = .returned (.bool true) ∧ Below w.heap.size w w' := by
  have HX := Lib.hid hx
  have HY := Lib.hid hy
  have HT := Lib.hid ht
  clear hx hy ht
  go_enter Try.func11, Try.ntmps11
  go_wp2_with fail
  refine (eqPartS_same _ _ _ _ _ ps _ (by omega) HT.out (HX.out.p.below (Nat.le_refl _) (by go_grown)) (HY.out.p.below (Nat.le_refl _) (by go_grown))).mono ?_
  rintro e w1 ⟨rfl, hb1⟩
  have hT1 : Below w.heap.size w w1 := Below.andThen (by go_grown) hb1
  have hS1 := hT1.size
  have HB1 : Hid (Below w.heap.size w w1) := hT1
  have qa : Hid (Blk w1 (w.heap.size) 33 #[.slice A n c, .slice B m d, .slice C q e]) := Blk.below (w' := w1) (by first | ((repeat' (first | (refine Blk.at_ _ _ _ ?_; first | rfl | (simp; done)) | refine Blk.alloc ?_ _ | refine Blk.drewN ?_ _ | assumption)); done) | (refine Blk.drew ?_; (repeat' (first | (refine Blk.at_ _ _ _ ?_; first | rfl | (simp; done)) | refine Blk.alloc ?_ _ | refine Blk.drewN ?_ _ | assumption)); done)) (Nat.le_refl _) hb1
  have qb : Hid (Blk w1 (w.heap.size + 1) 33 #[.slice A' n c', .slice B' m d', .slice C' q e']) := Blk.below (w' := w1) (by first | ((repeat' (first | (refine Blk.at_ _ _ _ ?_; first | rfl | (simp; done)) | refine Blk.alloc ?_ _ | refine Blk.drewN ?_ _ | assumption)); done) | (refine Blk.drew ?_; (repeat' (first | (refine Blk.at_ _ _ _ ?_; first | rfl | (simp; done)) | refine Blk.alloc ?_ _ | refine Blk.drewN ?_ _ | assumption)); done)) (Nat.le_refl _) hb1
  have hSb1 : w.heap.size + 1 + 1 ≤ w1.heap.size := (by have := hb1.size; first | (simpa using this; done) | (simp at this; omega))
  have ka_0 : w1.cell? ⟨w.heap.size, 0, none⟩ = some (.slice A n c) := qa.out.cell 0 rfl
  have ka_1 : w1.cell? ⟨w.heap.size, 1, none⟩ = some (.slice B m d) := qa.out.cell 1 rfl
  have ka_2 : w1.cell? ⟨w.heap.size, 2, none⟩ = some (.slice C q e) := qa.out.cell 2 rfl
  have fa_0 := qa.out.frozen 0
  have fa_1 := qa.out.frozen 1
  have fa_2 := qa.out.frozen 2
  have la := qa.out.lt
  have kb_0 : w1.cell? ⟨w.heap.size + 1, 0, none⟩ = some (.slice A' n c') := qb.out.cell 0 rfl
  have kb_1 : w1.cell? ⟨w.heap.size + 1, 1, none⟩ = some (.slice B' m d') := qb.out.cell 1 rfl
  have kb_2 : w1.cell? ⟨w.heap.size + 1, 2, none⟩ = some (.slice C' q e') := qb.out.cell 2 rfl
  have fb_0 := qb.out.frozen 0
  have fb_1 := qb.out.frozen 1
  have fb_2 := qb.out.frozen 2
  have lb := qb.out.lt
  clear hb1 hT1
  go_wp2_with fail
  refine (eqChannelS_same _ _ _ _ _ cs _ (by omega) (HX.out.c.below (Nat.le_refl _) HB1.out) (HY.out.c.below (Nat.le_refl _) HB1.out)).mono ?_
  rintro e w2 ⟨rfl, hb2⟩
  clear la ka_0 ka_1 ka_2 fa_0 fa_1 fa_2 lb kb_0 kb_1 kb_2 fb_0 fb_1 fb_2
  have hT2 : Below w1.heap.size w1 w2 := Below.andThen (by go_grown) hb2
  have hS2 := hT2.size
  have HB2 : Hid (Below w.heap.size w w2) := Below.andThen HB1.out hT2
  have qa := Lib.hid (qa.out.below (Nat.le_refl _) hT2)
  have qb := Lib.hid (qb.out.below (Nat.le_refl _) hT2)
  have ka_0 : w2.cell? ⟨w.heap.size, 0, none⟩ = some (.slice A n c) := qa.out.cell 0 rfl
  have ka_1 : w2.cell? ⟨w.heap.size, 1, none⟩ = some (.slice B m d) := qa.out.cell 1 rfl
  have ka_2 : w2.cell? ⟨w.heap.size, 2, none⟩ = some (.slice C q e) := qa.out.cell 2 rfl
  have fa_0 := qa.out.frozen 0
  have fa_1 := qa.out.frozen 1
  have fa_2 := qa.out.frozen 2
  have la := qa.out.lt
  have kb_0 : w2.cell? ⟨w.heap.size + 1, 0, none⟩ = some (.slice A' n c') := qb.out.cell 0 rfl
  have kb_1 : w2.cell? ⟨w.heap.size + 1, 1, none⟩ = some (.slice B' m d') := qb.out.cell 1 rfl
  have kb_2 : w2.cell? ⟨w.heap.size + 1, 2, none⟩ = some (.slice C' q e') := qb.out.cell 2 rfl
  have fb_0 := qb.out.frozen 0
  have fb_1 := qb.out.frozen 1
  have fb_2 := qb.out.frozen 2
  have lb := qb.out.lt
  clear hb2 hT2
  go_wp2_with fail
  refine (eqSlotS_same _ _ _ _ _ ss _ (by omega) (HX.out.s.below (Nat.le_refl _) HB2.out) (HY.out.s.below (Nat.le_refl _) HB2.out)).mono ?_
  rintro e w3 ⟨rfl, hb3⟩
  clear la ka_0 ka_1 ka_2 fa_0 fa_1 fa_2 lb kb_0 kb_1 kb_2 fb_0 fb_1 fb_2
  have hT3 : Below w2.heap.size w2 w3 := Below.andThen (by go_grown) hb3
  have hS3 := hT3.size
  have HB3 : Hid (Below w.heap.size w w3) := Below.andThen HB2.out hT3
  have qa := Lib.hid (qa.out.below (Nat.le_refl _) hT3)
  have qb := Lib.hid (qb.out.below (Nat.le_refl _) hT3)
  have ka_0 : w3.cell? ⟨w.heap.size, 0, none⟩ = some (.slice A n c) := qa.out.cell 0 rfl
  have ka_1 : w3.cell? ⟨w.heap.size, 1, none⟩ = some (.slice B m d) := qa.out.cell 1 rfl
  have ka_2 : w3.cell? ⟨w.heap.size, 2, none⟩ = some (.slice C q e) := qa.out.cell 2 rfl
  have fa_0 := qa.out.frozen 0
  have fa_1 := qa.out.frozen 1
  have fa_2 := qa.out.frozen 2
  have la := qa.out.lt
  have kb_0 : w3.cell? ⟨w.heap.size + 1, 0, none⟩ = some (.slice A' n c') := qb.out.cell 0 rfl
  have kb_1 : w3.cell? ⟨w.heap.size + 1, 1, none⟩ = some (.slice B' m d') := qb.out.cell 1 rfl
  have kb_2 : w3.cell? ⟨w.heap.size + 1, 2, none⟩ = some (.slice C' q e') := qb.out.cell 2 rfl
  have fb_0 := qb.out.frozen 0
  have fb_1 := qb.out.frozen 1
  have fb_2 := qb.out.frozen 2
  have lb := qb.out.lt
  clear hb3 hT3
  go_wp2
  go_ret
  exact ⟨rfl, HB3.out⟩
set_option maxRecDepth 100000 in
set_option maxHeartbeats 4000000 in
theorem sSetupValid_any (A : Option Addr) (n c : Nat) (ps : List PartL) (B : Option Addr) (m d : Nat) (cs : List Chan) (C : Option Addr) (q e : Nat) (ss : List Slot2) (w : World) (hn : n ≤ 1048577) (hm : m ≤ 1048577) (hq : q ≤ 1048577) (ht : ∀ x ∈ ps, (partI x).length ≤ 1048577) (hr : Rd_set w A n ps B m cs C q ss) :
    Calls Try.prog 8 #[.agg #[.slice A n c, .slice B m d, .slice C q e]] w fun r w' => r = .returned (.bool (setupOk ps cs ss)) ∧ Below w.heap.size w w' := by
  have hlz := Lib.hid hr.p.len
  have HR := Lib.hid hr
  have HT := Lib.hid ht
  clear hr ht
  have HV : Hid (setupOk ps cs ss = (partsOk ps && (chansOk (n : Int) cs && slotsOk (n : Int) ss))) := by show _ = _; unfold setupOk; rw [hlz.out]
  cases h1 : partsOk ps
  · rw [show setupOk ps cs ss = false by rw [HV.out, h1]; rfl]
    go_enter Try.func8, Try.ntmps8
    go_wp2_with fail
    refine (sPartsValid_is h1 _ (by omega) HT.out (HR.out.p.below (Nat.le_refl _) (by go_grown))).mono ?_
    rintro e w1 ⟨rfl, hb1⟩
    have hT1 : Below w.heap.size w w1 := Below.andThen (by go_grown) hb1
    have hS1 := hT1.size
    have HB1 : Hid (Below w.heap.size w w1) := hT1
    have qa : Hid (Blk w1 (w.heap.size) 33 #[.slice A n c, .slice B m d, .slice C q e]) := Blk.below (w' := w1) (by first | ((repeat' (first | (refine Blk.at_ _ _ _ ?_; first | rfl | (simp; done)) | refine Blk.alloc ?_ _ | refine Blk.drewN ?_ _ | assumption)); done) | (refine Blk.drew ?_; (repeat' (first | (refine Blk.at_ _ _ _ ?_; first | rfl | (simp; done)) | refine Blk.alloc ?_ _ | refine Blk.drewN ?_ _ | assumption)); done)) (Nat.le_refl _) hb1
    have hSb1 : w.heap.size + 1 ≤ w1.heap.size := (by have := hb1.size; first | (simpa using this; done) | (simp at this; omega))
    have ka_0 : w1.cell? ⟨w.heap.size, 0, none⟩ = some (.slice A n c) := qa.out.cell 0 rfl
    have ka_1 : w1.cell? ⟨w.heap.size, 1, none⟩ = some (.slice B m d) := qa.out.cell 1 rfl
    have ka_2 : w1.cell? ⟨w.heap.size, 2, none⟩ = some (.slice C q e) := qa.out.cell 2 rfl
    have fa_0 := qa.out.frozen 0
    have fa_1 := qa.out.frozen 1
    have fa_2 := qa.out.frozen 2
    have la := qa.out.lt
    clear hb1 hT1
    go_wp2
    go_ret
    exact ⟨rfl, HB1.out⟩
  · cases h2 : chansOk (n : Int) cs
    · rw [show setupOk ps cs ss = false by rw [HV.out, h1, h2]; rfl]
      go_enter Try.func8, Try.ntmps8
      go_wp2_with fail
      refine (sPartsValid_is h1 _ (by omega) HT.out (HR.out.p.below (Nat.le_refl _) (by go_grown))).mono ?_
      rintro e w1 ⟨rfl, hb1⟩
      have hT1 : Below w.heap.size w w1 := Below.andThen (by go_grown) hb1
      have hS1 := hT1.size
      have HB1 : Hid (Below w.heap.size w w1) := hT1
      have qa : Hid (Blk w1 (w.heap.size) 33 #[.slice A n c, .slice B m d, .slice C q e]) := Blk.below (w' := w1) (by first | ((repeat' (first | (refine Blk.at_ _ _ _ ?_; first | rfl | (simp; done)) | refine Blk.alloc ?_ _ | refine Blk.drewN ?_ _ | assumption)); done) | (refine Blk.drew ?_; (repeat' (first | (refine Blk.at_ _ _ _ ?_; first | rfl | (simp; done)) | refine Blk.alloc ?_ _ | refine Blk.drewN ?_ _ | assumption)); done)) (Nat.le_refl _) hb1
      have hSb1 : w.heap.size + 1 ≤ w1.heap.size := (by have := hb1.size; first | (simpa using this; done) | (simp at this; omega))
      have ka_0 : w1.cell? ⟨w.heap.size, 0, none⟩ = some (.slice A n c) := qa.out.cell 0 rfl
      have ka_1 : w1.cell? ⟨w.heap.size, 1, none⟩ = some (.slice B m d) := qa.out.cell 1 rfl
      have ka_2 : w1.cell? ⟨w.heap.size, 2, none⟩ = some (.slice C q e) := qa.out.cell 2 rfl
      have fa_0 := qa.out.frozen 0
      have fa_1 := qa.out.frozen 1
      have fa_2 := qa.out.frozen 2
      have la := qa.out.lt
      clear hb1 hT1
      go_wp2_with fail
      refine (sChannelsValid_is h2 _ (by omega) (HR.out.c.below (Nat.le_refl _) HB1.out)).mono ?_
      rintro e w2 ⟨rfl, hb2⟩
      clear la ka_0 ka_1 ka_2 fa_0 fa_1 fa_2
      have hT2 : Below w1.heap.size w1 w2 := Below.andThen (by go_grown) hb2
      have hS2 := hT2.size
      have HB2 : Hid (Below w.heap.size w w2) := Below.andThen HB1.out hT2
      have qa := Lib.hid (qa.out.below (Nat.le_refl _) hT2)
      have ka_0 : w2.cell? ⟨w.heap.size, 0, none⟩ = some (.slice A n c) := qa.out.cell 0 rfl
      have ka_1 : w2.cell? ⟨w.heap.size, 1, none⟩ = some (.slice B m d) := qa.out.cell 1 rfl
      have ka_2 : w2.cell? ⟨w.heap.size, 2, none⟩ = some (.slice C q e) := qa.out.cell 2 rfl
      have fa_0 := qa.out.frozen 0
      have fa_1 := qa.out.frozen 1
      have fa_2 := qa.out.frozen 2
      have la := qa.out.lt
      clear hb2 hT2
      go_wp2
      go_ret
      exact ⟨rfl, HB2.out⟩
    · obtain ⟨Z, hZ⟩ : ∃ Z, Z = slotsOk (n : Int) ss := ⟨_, rfl⟩
      rw [show setupOk ps cs ss = Z by rw [HV.out, h1, h2, hZ]; rfl]
      have HZ := Lib.hid hZ
      clear hZ
      go_enter Try.func8, Try.ntmps8
      go_wp2_with fail
      refine (sPartsValid_is h1 _ (by omega) HT.out (HR.out.p.below (Nat.le_refl _) (by go_grown))).mono ?_
      rintro e w1 ⟨rfl, hb1⟩
      have hT1 : Below w.heap.size w w1 := Below.andThen (by go_grown) hb1
      have hS1 := hT1.size
      have HB1 : Hid (Below w.heap.size w w1) := hT1
      have qa : Hid (Blk w1 (w.heap.size) 33 #[.slice A n c, .slice B m d, .slice C q e]) := Blk.below (w' := w1) (by first | ((repeat' (first | (refine Blk.at_ _ _ _ ?_; first | rfl | (simp; done)) | refine Blk.alloc ?_ _ | refine Blk.drewN ?_ _ | assumption)); done) | (refine Blk.drew ?_; (repeat' (first | (refine Blk.at_ _ _ _ ?_; first | rfl | (simp; done)) | refine Blk.alloc ?_ _ | refine Blk.drewN ?_ _ | assumption)); done)) (Nat.le_refl _) hb1
      have hSb1 : w.heap.size + 1 ≤ w1.heap.size := (by have := hb1.size; first | (simpa using this; done) | (simp at this; omega))
      have ka_0 : w1.cell? ⟨w.heap.size, 0, none⟩ = some (.slice A n c) := qa.out.cell 0 rfl
      have ka_1 : w1.cell? ⟨w.heap.size, 1, none⟩ = some (.slice B m d) := qa.out.cell 1 rfl
      have ka_2 : w1.cell? ⟨w.heap.size, 2, none⟩ = some (.slice C q e) := qa.out.cell 2 rfl
      have fa_0 := qa.out.frozen 0
      have fa_1 := qa.out.frozen 1
      have fa_2 := qa.out.frozen 2
      have la := qa.out.lt
      clear hb1 hT1
      go_wp2_with fail
      refine (sChannelsValid_is h2 _ (by omega) (HR.out.c.below (Nat.le_refl _) HB1.out)).mono ?_
      rintro e w2 ⟨rfl, hb2⟩
      clear la ka_0 ka_1 ka_2 fa_0 fa_1 fa_2
      have hT2 : Below w1.heap.size w1 w2 := Below.andThen (by go_grown) hb2
      have hS2 := hT2.size
      have HB2 : Hid (Below w.heap.size w w2) := Below.andThen HB1.out hT2
      have qa := Lib.hid (qa.out.below (Nat.le_refl _) hT2)
      have ka_0 : w2.cell? ⟨w.heap.size, 0, none⟩ = some (.slice A n c) := qa.out.cell 0 rfl
      have ka_1 : w2.cell? ⟨w.heap.size, 1, none⟩ = some (.slice B m d) := qa.out.cell 1 rfl
      have ka_2 : w2.cell? ⟨w.heap.size, 2, none⟩ = some (.slice C q e) := qa.out.cell 2 rfl
      have fa_0 := qa.out.frozen 0
      have fa_1 := qa.out.frozen 1
      have fa_2 := qa.out.frozen 2
      have la := qa.out.lt
      clear hb2 hT2
      go_wp2_with fail
      refine (sSlotsValid_any _ _ _ ss _ _ (by omega) (HR.out.s.below (Nat.le_refl _) HB2.out)).mono ?_
      rw [← HZ.out]
      rintro e w3 ⟨rfl, hb3⟩
      clear la ka_0 ka_1 ka_2 fa_0 fa_1 fa_2
      have hT3 : Below w2.heap.size w2 w3 := Below.andThen (by go_grown) hb3
      have hS3 := hT3.size
      have HB3 : Hid (Below w.heap.size w w3) := Below.andThen HB2.out hT3
      have qa := Lib.hid (qa.out.below (Nat.le_refl _) hT3)
      have ka_0 : w3.cell? ⟨w.heap.size, 0, none⟩ = some (.slice A n c) := qa.out.cell 0 rfl
      have ka_1 : w3.cell? ⟨w.heap.size, 1, none⟩ = some (.slice B m d) := qa.out.cell 1 rfl
      have ka_2 : w3.cell? ⟨w.heap.size, 2, none⟩ = some (.slice C q e) := qa.out.cell 2 rfl
      have fa_0 := qa.out.frozen 0
      have fa_1 := qa.out.frozen 1
      have fa_2 := qa.out.frozen 2
      have la := qa.out.lt
      clear hb3 hT3
      go_wp2
      go_ret
      exact ⟨rfl, HB3.out⟩
theorem sSetupValid_is {A : Option Addr} {n c : Nat} {ps : List PartL} {B : Option Addr} {m d : Nat} {cs : List Chan} {C : Option Addr} {q e : Nat} {ss : List Slot2} {b : Bool} (h : setupOk ps cs ss = b) (w : World) (hn : n ≤ 1048577) (hm : m ≤ 1048577) (hq : q ≤ 1048577) (ht : ∀ x ∈ ps, (partI x).length ≤ 1048577) (hr : Rd_set w A n ps B m cs C q ss) :
    Calls Try.prog 8 #[.agg #[.slice A n c, .slice B m d, .slice C q e]] w fun r w' => r = .returned (.bool b) ∧ Below w.heap.size w w' := h ▸ sSetupValid_any A n c ps B m d cs C q e ss w hn hm hq ht hr
set_option maxRecDepth 100000 in
set_option maxHeartbeats 4000000 in
theorem iSetupValid_any (A : Option Addr) (n c : Nat) (ps : List PartL) (B : Option Addr) (m d : Nat) (cs : List Chan) (C : Option Addr) (q e : Nat) (ss : List Slot2) (w : World) (hn : n ≤ 1048577) (hm : m ≤ 1048577) (hq : q ≤ 1048577) (ht : ∀ x ∈ ps, (partI x).length ≤ 1048577) (hr : Rd_set w A n ps B m cs C q ss) :
    Calls Try.prog 10 #[.agg #[.slice A n c, .slice B m d, .slice C q e]] w fun r w' => r = .returned (.bool (setupOk ps cs ss)) ∧ Below w.heap.size w w' := by
  have hlz := Lib.hid hr.p.len
  have HR := Lib.hid hr
  have HT := Lib.hid ht
  clear hr ht
  have HV : Hid (setupOk ps cs ss = (partsOk ps && (chansOk (n : Int) cs && slotsOk (n : Int) ss))) := by show _ = _; unfold setupOk; rw [hlz.out]
  cases h1 : partsOk ps
  · rw [show setupOk ps cs ss = false by rw [HV.out, h1]; rfl]
    go_enter Try.func10, Try.ntmps10
    go_wp2_with fail
    refine (iPartsValid_is h1 _ (by omega) HT.out (HR.out.p.below (Nat.le_refl _) (by go_grown))).mono ?_
    rintro e w1 ⟨rfl, hb1⟩
    have hT1 : Below w.heap.size w w1 := Below.andThen (by go_grown) hb1
    have hS1 := hT1.size
    have HB1 : Hid (Below w.heap.size w w1) := hT1
    have qa : Hid (Blk w1 (w.heap.size) 33 #[.slice A n c, .slice B m d, .slice C q e]) := Blk.below (w' := w1) (by first | ((repeat' (first | (refine Blk.at_ _ _ _ ?_; first | rfl | (simp; done)) | refine Blk.alloc ?_ _ | refine Blk.drewN ?_ _ | assumption)); done) | (refine Blk.drew ?_; (repeat' (first | (refine Blk.at_ _ _ _ ?_; first | rfl | (simp; done)) | refine Blk.alloc ?_ _ | refine Blk.drewN ?_ _ | assumption)); done)) (Nat.le_refl _) hb1
    have hSb1 : w.heap.size + 1 ≤ w1.heap.size := (by have := hb1.size; first | (simpa using this; done) | (simp at this; omega))
    have ka_0 : w1.cell? ⟨w.heap.size, 0, none⟩ = some (.slice A n c) := qa.out.cell 0 rfl
    have ka_1 : w1.cell? ⟨w.heap.size, 1, none⟩ = some (.slice B m d) := qa.out.cell 1 rfl
    have ka_2 : w1.cell? ⟨w.heap.size, 2, none⟩ = some (.slice C q e) := qa.out.cell 2 rfl
    have fa_0 := qa.out.frozen 0
    have fa_1 := qa.out.frozen 1
    have fa_2 := qa.out.frozen 2
    have la := qa.out.lt
    clear hb1 hT1
    go_wp2
    go_ret
    exact ⟨rfl, HB1.out⟩
  · cases h2 : chansOk (n : Int) cs
    · rw [show setupOk ps cs ss = false by rw [HV.out, h1, h2]; rfl]
      go_enter Try.func10, Try.ntmps10
      go_wp2_with fail
      refine (iPartsValid_is h1 _ (by omega) HT.out (HR.out.p.below (Nat.le_refl _) (by go_grown))).mono ?_
      rintro e w1 ⟨rfl, hb1⟩
      have hT1 : Below w.heap.size w w1 := Below.andThen (by go_grown) hb1
      have hS1 := hT1.size
      have HB1 : Hid (Below w.heap.size w w1) := hT1
      have qa : Hid (Blk w1 (w.heap.size) 33 #[.slice A n c, .slice B m d, .slice C q e]) := Blk.below (w' := w1) (by first | ((repeat' (first | (refine Blk.at_ _ _ _ ?_; first | rfl | (simp; done)) | refine Blk.alloc ?_ _ | refine Blk.drewN ?_ _ | assumption)); done) | (refine Blk.drew ?_; (repeat' (first | (refine Blk.at_ _ _ _ ?_; first | rfl | (simp; done)) | refine Blk.alloc ?_ _ | refine Blk.drewN ?_ _ | assumption)); done)) (Nat.le_refl _) hb1
      have hSb1 : w.heap.size + 1 ≤ w1.heap.size := (by have := hb1.size; first | (simpa using this; done) | (simp at this; omega))
      have ka_0 : w1.cell? ⟨w.heap.size, 0, none⟩ = some (.slice A n c) := qa.out.cell 0 rfl
      have ka_1 : w1.cell? ⟨w.heap.size, 1, none⟩ = some (.slice B m d) := qa.out.cell 1 rfl
      have ka_2 : w1.cell? ⟨w.heap.size, 2, none⟩ = some (.slice C q e) := qa.out.cell 2 rfl
      have fa_0 := qa.out.frozen 0
      have fa_1 := qa.out.frozen 1
      have fa_2 := qa.out.frozen 2
      have la := qa.out.lt
      clear hb1 hT1
      go_wp2_with fail
      refine (iChannelsValid_is h2 _ (by omega) (HR.out.c.below (Nat.le_refl _) HB1.out)).mono ?_
      rintro e w2 ⟨rfl, hb2⟩
      clear la ka_0 ka_1 ka_2 fa_0 fa_1 fa_2
      have hT2 : Below w1.heap.size w1 w2 := Below.andThen (by go_grown) hb2
      have hS2 := hT2.size
      have HB2 : Hid (Below w.heap.size w w2) := Below.andThen HB1.out hT2
      have qa := Lib.hid (qa.out.below (Nat.le_refl _) hT2)
      have ka_0 : w2.cell? ⟨w.heap.size, 0, none⟩ = some (.slice A n c) := qa.out.cell 0 rfl
      have ka_1 : w2.cell? ⟨w.heap.size, 1, none⟩ = some (.slice B m d) := qa.out.cell 1 rfl
      have ka_2 : w2.cell? ⟨w.heap.size, 2, none⟩ = some (.slice C q e) := qa.out.cell 2 rfl
      have fa_0 := qa.out.frozen 0
      have fa_1 := qa.out.frozen 1
      have fa_2 := qa.out.frozen 2
      have la := qa.out.lt
      clear hb2 hT2
      go_wp2
      go_ret
      exact ⟨rfl, HB2.out⟩
    · obtain ⟨Z, hZ⟩ : ∃ Z, Z = slotsOk (n : Int) ss := ⟨_, rfl⟩
      rw [show setupOk ps cs ss = Z by rw [HV.out, h1, h2, hZ]; rfl]
      have HZ := Lib.hid hZ
      clear hZ
      go_enter Try.func10, Try.ntmps10
      go_wp2_with fail
      refine (iPartsValid_is h1 _ (by omega) HT.out (HR.out.p.below (Nat.le_refl _) (by go_grown))).mono ?_
      rintro e w1 ⟨rfl, hb1⟩
      have hT1 : Below w.heap.size w w1 := Below.andThen (by go_grown) hb1
      have hS1 := hT1.size
      have HB1 : Hid (Below w.heap.size w w1) := hT1
      have qa : Hid (Blk w1 (w.heap.size) 33 #[.slice A n c, .slice B m d, .slice C q e]) := Blk.below (w' := w1) (by first | ((repeat' (first | (refine Blk.at_ _ _ _ ?_; first | rfl | (simp; done)) | refine Blk.alloc ?_ _ | refine Blk.drewN ?_ _ | assumption)); done) | (refine Blk.drew ?_; (repeat' (first | (refine Blk.at_ _ _ _ ?_; first | rfl | (simp; done)) | refine Blk.alloc ?_ _ | refine Blk.drewN ?_ _ | assumption)); done)) (Nat.le_refl _) hb1
      have hSb1 : w.heap.size + 1 ≤ w1.heap.size := (by have := hb1.size; first | (simpa using this; done) | (simp at this; omega))
      have ka_0 : w1.cell? ⟨w.heap.size, 0, none⟩ = some (.slice A n c) := qa.out.cell 0 rfl
      have ka_1 : w1.cell? ⟨w.heap.size, 1, none⟩ = some (.slice B m d) := qa.out.cell 1 rfl
      have ka_2 : w1.cell? ⟨w.heap.size, 2, none⟩ = some (.slice C q e) := qa.out.cell 2 rfl
      have fa_0 := qa.out.frozen 0
      have fa_1 := qa.out.frozen 1
      have fa_2 := qa.out.frozen 2
      have la := qa.out.lt
      clear hb1 hT1
      go_wp2_with fail
      refine (iChannelsValid_is h2 _ (by omega) (HR.out.c.below (Nat.le_refl _) HB1.out)).mono ?_
      rintro e w2 ⟨rfl, hb2⟩
      clear la ka_0 ka_1 ka_2 fa_0 fa_1 fa_2
      have hT2 : Below w1.heap.size w1 w2 := Below.andThen (by go_grown) hb2
      have hS2 := hT2.size
      have HB2 : Hid (Below w.heap.size w w2) := Below.andThen HB1.out hT2
      have qa := Lib.hid (qa.out.below (Nat.le_refl _) hT2)
      have ka_0 : w2.cell? ⟨w.heap.size, 0, none⟩ = some (.slice A n c) := qa.out.cell 0 rfl
      have ka_1 : w2.cell? ⟨w.heap.size, 1, none⟩ = some (.slice B m d) := qa.out.cell 1 rfl
      have ka_2 : w2.cell? ⟨w.heap.size, 2, none⟩ = some (.slice C q e) := qa.out.cell 2 rfl
      have fa_0 := qa.out.frozen 0
      have fa_1 := qa.out.frozen 1
      have fa_2 := qa.out.frozen 2
      have la := qa.out.lt
      clear hb2 hT2
      go_wp2_with fail
      refine (iSlotsValid_any _ _ _ ss _ _ (by omega) (HR.out.s.below (Nat.le_refl _) HB2.out)).mono ?_
      rw [← HZ.out]
      rintro e w3 ⟨rfl, hb3⟩
      clear la ka_0 ka_1 ka_2 fa_0 fa_1 fa_2
      have hT3 : Below w2.heap.size w2 w3 := Below.andThen (by go_grown) hb3
      have hS3 := hT3.size
      have HB3 : Hid (Below w.heap.size w w3) := Below.andThen HB2.out hT3
      have qa := Lib.hid (qa.out.below (Nat.le_refl _) hT3)
      have ka_0 : w3.cell? ⟨w.heap.size, 0, none⟩ = some (.slice A n c) := qa.out.cell 0 rfl
      have ka_1 : w3.cell? ⟨w.heap.size, 1, none⟩ = some (.slice B m d) := qa.out.cell 1 rfl
      have ka_2 : w3.cell? ⟨w.heap.size, 2, none⟩ = some (.slice C q e) := qa.out.cell 2 rfl
      have fa_0 := qa.out.frozen 0
      have fa_1 := qa.out.frozen 1
      have fa_2 := qa.out.frozen 2
      have la := qa.out.lt
      clear hb3 hT3
      go_wp2
      go_ret
      exact ⟨rfl, HB3.out⟩
theorem iSetupValid_is {A : Option Addr} {n c : Nat} {ps : List PartL} {B : Option Addr} {m d : Nat} {cs : List Chan} {C : Option Addr} {q e : Nat} {ss : List Slot2} {b : Bool} (h : setupOk ps cs ss = b) (w : World) (hn : n ≤ 1048577) (hm : m ≤ 1048577) (hq : q ≤ 1048577) (ht : ∀ x ∈ ps, (partI x).length ≤ 1048577) (hr : Rd_set w A n ps B m cs C q ss) :
    Calls Try.prog 10 #[.agg #[.slice A n c, .slice B m d, .slice C q e]] w fun r w' => r = .returned (.bool b) ∧ Below w.heap.size w w' := h ▸ iSetupValid_any A n c ps B m d cs C q e ss w hn hm hq ht hr
section
variable {H : Type} {enc : TypeId × Value → H} {w : World} {base : Nat} {spare : Nat → Bool} {held : Bool}
set_option maxRecDepth 100000 in
set_option maxHeartbeats 400000 in
theorem chan_el : ∀ (q : Nat) (r : List Value) (d : DataW H × List MemPlace), DataW.trod enc Try.prog w base spare held q 83 r = some d → ∃ x, r = chanC x := by
  intro q r d hd
  obtain ⟨c0, c1, c2, c3, y0, y1, y2, y3, q2, rfl, t0, t1, t2, t3⟩ := trod_row4 Try.underlying83 (by kernel_rfl) (by kernel_rfl) hd
  obtain ⟨z0, e0, _⟩ := DataW.trod_int Try.underlying3 t0
  obtain ⟨z1, e1, _⟩ := DataW.trod_int Try.underlying3 t1
  obtain ⟨z2, e2, _⟩ := DataW.trod_int Try.underlying3 t2
  obtain ⟨z3, e3, _⟩ := DataW.trod_int Try.underlying3 t3
  simp only [List.cons.injEq, and_true] at e0 e1 e2 e3
  exact ⟨(z0, z1, z2, z3), by rw [e0, e1, e2, e3]; rfl⟩
set_option maxRecDepth 100000 in
set_option maxHeartbeats 400000 in
theorem slot_el : ∀ (q : Nat) (r : List Value) (d : DataW H × List MemPlace), DataW.trod enc Try.prog w base spare held q 85 r = some d → ∃ x, r = slotC x := by
  intro q r d hd
  obtain ⟨c0, c1, y0, y1, q2, rfl, t0, t1⟩ := trod_row2 Try.underlying85 (by kernel_rfl) (by kernel_rfl) hd
  obtain ⟨z0, e0, _⟩ := DataW.trod_int Try.underlying3 t0
  obtain ⟨z1, e1, _⟩ := DataW.trod_int Try.underlying3 t1
  simp only [List.cons.injEq, and_true] at e0 e1
  exact ⟨(z0, z1), by rw [e0, e1]; rfl⟩
set_option maxRecDepth 100000 in
set_option maxHeartbeats 1000000 in
theorem open_Setup {r : Reach} {b0 : Nat} {v : Value} {d : DataW H} {p : List MemPlace}
    (hv : Value.okWide Try.prog w r b0 26 v) (h : DataW.Trod enc Try.prog w base spare held 26 v d p) :
    ∃ (A : Option Addr) (n c : Nat) (ps : List PartL) (B : Option Addr) (m d : Nat) (cs : List Chan) (C : Option Addr) (q e : Nat) (ss : List Slot2), v = .agg #[.slice A n c, .slice B m d, .slice C q e] ∧ (ps.length = n ∧ cs.length = m ∧ ss.length = q) ∧ (n ≤ maxLen ∧ m ≤ maxLen ∧ q ≤ maxLen) ∧ Rd_set w A n ps B m cs C q ss := by
  obtain ⟨c0, c1, c2, y0, y1, y2, m, rfl, rfl, rfl, h0, h1, h2⟩ := open_agg3 Try.underlying26 (by kernel_rfl) (by kernel_rfl) hv h
  obtain ⟨A, n, c, ps, e0, hn, hnm, hp⟩ := rdN_of (inn := partI) Try.underlying22 (show Try.prog.cellsOf 79 = 2 by kernel_rfl) (by omega) part_el h0
  obtain ⟨B, m, d, cs, e1, hm, hmm, hc⟩ := rd_enc chanC Try.underlying23 (show Try.prog.cellsOf 83 = 4 by kernel_rfl) (by omega) chan_el h1
  obtain ⟨C, q, e, ss, e2, hq, hqm, hs⟩ := rd_enc slotC Try.underlying24 (show Try.prog.cellsOf 85 = 2 by kernel_rfl) (by omega) slot_el h2
  exact ⟨A, n, c, ps, B, m, d, cs, C, q, e, ss, by rw [e0, e1, e2], ⟨hn, hm, hq⟩, ⟨hnm, hmm, hqm⟩, ⟨hp, hc, hs⟩⟩
end
end Go.Proofs.Ytlckjhbgdbhdmaa
