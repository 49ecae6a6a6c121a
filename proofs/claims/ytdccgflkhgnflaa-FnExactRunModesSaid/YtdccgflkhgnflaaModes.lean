/-
  CONTRACTS of the laws' helpers over Modes, of ModesValid and ModeTick.
  Conditions: none beyond those that each states.
-/
import Derived.Test.YtdccgflkhgnflaaNSlotSS
import Derived.Test.YtdccgflkhgnflaaTicks2
import Derived.Test.YtdccgflkhgnflaaAppend
namespace Go.Proofs.Ytdccgflkhgnflaa
open Go.ChangeShapes Go.WideShapes Go.ChangeAt Go.RowKit Go.Joins
set_option linter.unusedVariables false

def modesOk (parts : Int) (ts : List Slots) (now asked : Int) : Bool :=
  inB (ts.length : Int) 1 4 && (inB now 0 ((ts.length : Int) - 1) && (inB asked (-1) ((ts.length : Int) - 1) && ts.all (slotsOk parts)))

set_option maxRecDepth 100000 in
set_option maxHeartbeats 2000000 in
theorem toModes_any (A : Option Addr) (n c : Nat) (ts : List Slots) (now asked : Int) (w : World) (hm : n ≤ 1048576) (ht : ∀ x ∈ ts, (tabI x).length ≤ 1048576) (hr : Rd_tab w A n ts) :
    Calls Try.prog 6 #[.agg #[.slice A n c, .int .i64 now, .int .i64 asked]] w fun e w' => ∃ g, e = .returned (.agg #[.slice (some ⟨g, 0, none⟩) n n, .int .i64 now, .int .i64 asked]) ∧ w.heap.size ≤ g ∧ g < w'.heap.size ∧ Fr_tab w' (g + 1) w'.heap.size (some ⟨g, 0, none⟩) n ts ∧ Below w.heap.size w w' := by
  have HR := Lib.hid hr
  clear hr
  go_enter Try.func6, Try.ntmps6
  go_wp2_with fail
  refine (toSlotSS_any A n c ts _ hm ht (HR.out.below (Nat.le_refl _) (by go_grown))).mono ?_
  rintro e w1 ⟨rfl, hgt, hf, hb1⟩
  have hT1 : Below w.heap.size w w1 := Below.andThen (by go_grown) hb1
  have hS1 := hT1.size
  have HB1 : Hid (Below w.heap.size w w1) := hT1
  have qa : Hid (Blk w1 (w.heap.size) 24 #[.slice A n c, .int .i64 now, .int .i64 asked]) := Blk.below (w' := w1) (by first | ((repeat' (first | (refine Blk.at_ _ _ _ ?_; first | rfl | (simp; done)) | refine Blk.alloc ?_ _ | refine Blk.drewN ?_ _ | assumption)); done) | (refine Blk.drew ?_; (repeat' (first | (refine Blk.at_ _ _ _ ?_; first | rfl | (simp; done)) | refine Blk.alloc ?_ _ | refine Blk.drewN ?_ _ | assumption)); done)) (Nat.le_refl _) hb1
  have qb : Hid (Blk w1 (w.heap.size + 1) 30 #[.slice none 0 0, .int .i64 0, .int .i64 0]) := Blk.below (w' := w1) (by first | ((repeat' (first | (refine Blk.at_ _ _ _ ?_; first | rfl | (simp; done)) | refine Blk.alloc ?_ _ | refine Blk.drewN ?_ _ | assumption)); done) | (refine Blk.drew ?_; (repeat' (first | (refine Blk.at_ _ _ _ ?_; first | rfl | (simp; done)) | refine Blk.alloc ?_ _ | refine Blk.drewN ?_ _ | assumption)); done)) (Nat.le_refl _) hb1
  have qd : Hid (Blk w1 (w.heap.size + 1 + 1) 30 #[.slice none 0 0, .int .i64 0, .int .i64 0]) := Blk.below (w' := w1) (by first | ((repeat' (first | (refine Blk.at_ _ _ _ ?_; first | rfl | (simp; done)) | refine Blk.alloc ?_ _ | refine Blk.drewN ?_ _ | assumption)); done) | (refine Blk.drew ?_; (repeat' (first | (refine Blk.at_ _ _ _ ?_; first | rfl | (simp; done)) | refine Blk.alloc ?_ _ | refine Blk.drewN ?_ _ | assumption)); done)) (Nat.le_refl _) hb1
  have hSb1 : w.heap.size + 1 + 1 + 1 ≤ w1.heap.size := (by have := hb1.size; simpa using this)
  have ka_0 := qa.out.cell 0 rfl
  have ka_1 := qa.out.cell 1 rfl
  have ka_2 := qa.out.cell 2 rfl
  have fa_0 := qa.out.frozen 0
  have fa_1 := qa.out.frozen 1
  have fa_2 := qa.out.frozen 2
  have la := qa.out.lt
  have kb_0 := qb.out.cell 0 rfl
  have kb_1 := qb.out.cell 1 rfl
  have kb_2 := qb.out.cell 2 rfl
  have fb_0 := qb.out.frozen 0
  have fb_1 := qb.out.frozen 1
  have fb_2 := qb.out.frozen 2
  have lb := qb.out.lt
  have kd_0 := qd.out.cell 0 rfl
  have kd_1 := qd.out.cell 1 rfl
  have kd_2 := qd.out.cell 2 rfl
  have fd_0 := qd.out.frozen 0
  have fd_1 := qd.out.frozen 1
  have fd_2 := qd.out.frozen 2
  have ld := qd.out.lt
  clear hb1 hT1
  simp only [World.size_alloc] at hf hgt
  have HF := Lib.hid hf
  clear hf
  go_wp2
  refine bodyPost_ret (v := .agg #[.slice (some ⟨w.heap.size + 1 + 1 + 1, 0, none⟩) n n, .int .i64 now, .int .i64 asked]) (by simp [results, Try.results6, go_sem, *]) rfl ?_
  refine ⟨_, rfl, by omega, by simp; omega, ?_, ?_⟩
  · exact FrN.wide (FrN.setFar (FrN.setFar (FrN.setFar (FrN.setFar (FrN.setFar (FrN.setFar HF.out (by intro x hx; injection hx with hx; subst hx; first | (simp; done) | (simp; omega)) (by left; first | (simp; done) | (simp; omega)) _) (by intro x hx; injection hx with hx; subst hx; first | (simp; done) | (simp; omega)) (by left; first | (simp; done) | (simp; omega)) _) (by intro x hx; injection hx with hx; subst hx; first | (simp; done) | (simp; omega)) (by left; first | (simp; done) | (simp; omega)) _) (by intro x hx; injection hx with hx; subst hx; first | (simp; done) | (simp; omega)) (by left; first | (simp; done) | (simp; omega)) _) (by intro x hx; injection hx with hx; subst hx; first | (simp; done) | (simp; omega)) (by left; first | (simp; done) | (simp; omega)) _) (by intro x hx; injection hx with hx; subst hx; first | (simp; done) | (simp; omega)) (by left; first | (simp; done) | (simp; omega)) _) (by simp)
  · exact ((((((HB1.out.setCell (by first | (simp; done) | (simp; omega)) _).setCell (by first | (simp; done) | (simp; omega)) _).setCell (by first | (simp; done) | (simp; omega)) _).setCell (by first | (simp; done) | (simp; omega)) _).setCell (by first | (simp; done) | (simp; omega)) _).setCell (by first | (simp; done) | (simp; omega)) _)
set_option maxRecDepth 100000 in
set_option maxHeartbeats 1000000 in
theorem szModes_any (A : Option Addr) (n c : Nat) (ts : List Slots) (now asked : Int) (left : Int) (w : World) (hn : n ≤ maxLen) (h0 : 0 ≤ left) (h1 : left ≤ 1048576) (hr : Rd_tab w A n ts) :
    Calls Try.prog 4 #[.agg #[.slice A n c, .int .i64 now, .int .i64 asked], .int .i64 left] w fun e w' => e = .returned (.int .i64 (if ((n + tabN ts : Nat) : Int) ≤ left then left - ((n + tabN ts : Nat) : Int) else -1)) ∧ Below w.heap.size w w' := by
  have HR := Lib.hid hr
  clear hr
  obtain ⟨X, hX⟩ : ∃ X, X = (if ((n + tabN ts : Nat) : Int) ≤ left then left - ((n + tabN ts : Nat) : Int) else -1) := ⟨_, rfl⟩
  rw [← hX]
  have HX := Lib.hid hX
  by_cases h : ((n + tabN ts : Nat) : Int) ≤ left
  · have h2 : ¬ X < 0 := by rw [hX, if_pos h]; omega
    clear hX h
    go_enter Try.func4, Try.ntmps4
    go_wp2_with fail
    refine (szSlotSS_any A n c ts left _ (by unfold maxLen at hn; omega) h0 h1 (HR.out.below (Nat.le_refl _) (by go_grown))).mono ?_
    rw [← HX.out]
    rintro e w1 ⟨rfl, hb1⟩
    have hT1 : Below w.heap.size w w1 := Below.andThen (by go_grown) hb1
    have hS1 := hT1.size
    have HB1 : Hid (Below w.heap.size w w1) := hT1
    have qa : Hid (Blk w1 (w.heap.size) 24 #[.slice A n c, .int .i64 now, .int .i64 asked]) := Blk.below (w' := w1) (by first | ((repeat' (first | (refine Blk.at_ _ _ _ ?_; first | rfl | (simp; done)) | refine Blk.alloc ?_ _ | refine Blk.drewN ?_ _ | assumption)); done) | (refine Blk.drew ?_; (repeat' (first | (refine Blk.at_ _ _ _ ?_; first | rfl | (simp; done)) | refine Blk.alloc ?_ _ | refine Blk.drewN ?_ _ | assumption)); done)) (Nat.le_refl _) hb1
    have hSb1 : w.heap.size + 1 ≤ w1.heap.size := (by have := hb1.size; simpa using this)
    have ka_0 := qa.out.cell 0 rfl
    have ka_1 := qa.out.cell 1 rfl
    have ka_2 := qa.out.cell 2 rfl
    have fa_0 := qa.out.frozen 0
    have fa_1 := qa.out.frozen 1
    have fa_2 := qa.out.frozen 2
    have la := qa.out.lt
    clear hb1 hT1
    go_wp2
    go_ret
    exact ⟨by rfl, HB1.out⟩
  · have h2 : X = -1 := by rw [hX, if_neg h]
    have H2 := Lib.hid h2
    have h3 : X < 0 := by omega
    clear hX h h2
    go_enter Try.func4, Try.ntmps4
    go_wp2_with fail
    refine (szSlotSS_any A n c ts left _ (by unfold maxLen at hn; omega) h0 h1 (HR.out.below (Nat.le_refl _) (by go_grown))).mono ?_
    rw [← HX.out]
    rintro e w1 ⟨rfl, hb1⟩
    have hT1 : Below w.heap.size w w1 := Below.andThen (by go_grown) hb1
    have hS1 := hT1.size
    have HB1 : Hid (Below w.heap.size w w1) := hT1
    have qa : Hid (Blk w1 (w.heap.size) 24 #[.slice A n c, .int .i64 now, .int .i64 asked]) := Blk.below (w' := w1) (by first | ((repeat' (first | (refine Blk.at_ _ _ _ ?_; first | rfl | (simp; done)) | refine Blk.alloc ?_ _ | refine Blk.drewN ?_ _ | assumption)); done) | (refine Blk.drew ?_; (repeat' (first | (refine Blk.at_ _ _ _ ?_; first | rfl | (simp; done)) | refine Blk.alloc ?_ _ | refine Blk.drewN ?_ _ | assumption)); done)) (Nat.le_refl _) hb1
    have hSb1 : w.heap.size + 1 ≤ w1.heap.size := (by have := hb1.size; simpa using this)
    have ka_0 := qa.out.cell 0 rfl
    have ka_1 := qa.out.cell 1 rfl
    have ka_2 := qa.out.cell 2 rfl
    have fa_0 := qa.out.frozen 0
    have fa_1 := qa.out.frozen 1
    have fa_2 := qa.out.frozen 2
    have la := qa.out.lt
    clear hb1 hT1
    go_wp2
    go_ret
    exact ⟨by rw [H2.out]; rfl, HB1.out⟩
set_option maxRecDepth 100000 in
set_option maxHeartbeats 1000000 in
theorem eqModes_same (A B : Option Addr) (n c d : Nat) (ts : List Slots) (now asked : Int) (w : World) (hn : n ≤ 1048577) (ht : ∀ x ∈ ts, (tabI x).length ≤ 1048576) (hx : Rd_tab w A n ts) (hy : Rd_tab w B n ts) :
    Calls Try.prog 10 #[.agg #[.slice A n c, .int .i64 now, .int .i64 asked], .agg #[.slice B n d, .int .i64 now, .int .i64 asked]] w fun e w' => e = .returned (.bool true) ∧ Below w.heap.size w w' := by
  have HX := Lib.hid hx
  have HY := Lib.hid hy
  clear hx hy
  go_enter Try.func10, Try.ntmps10
  go_wp2_with fail
  refine (eqSlotSS_same A B n c d ts _ hn (fun x hx => Nat.le_succ_of_le (ht x hx)) (HX.out.below (Nat.le_refl _) (by go_grown)) (HY.out.below (Nat.le_refl _) (by go_grown))).mono ?_
  rintro e w1 ⟨rfl, hb1⟩
  have hT1 : Below w.heap.size w w1 := Below.andThen (by go_grown) hb1
  have hS1 := hT1.size
  have HB1 : Hid (Below w.heap.size w w1) := hT1
  have qa : Hid (Blk w1 (w.heap.size) 30 #[.slice A n c, .int .i64 now, .int .i64 asked]) := Blk.below (w' := w1) (by first | ((repeat' (first | (refine Blk.at_ _ _ _ ?_; first | rfl | (simp; done)) | refine Blk.alloc ?_ _ | refine Blk.drewN ?_ _ | assumption)); done) | (refine Blk.drew ?_; (repeat' (first | (refine Blk.at_ _ _ _ ?_; first | rfl | (simp; done)) | refine Blk.alloc ?_ _ | refine Blk.drewN ?_ _ | assumption)); done)) (Nat.le_refl _) hb1
  have qb : Hid (Blk w1 (w.heap.size + 1) 30 #[.slice B n d, .int .i64 now, .int .i64 asked]) := Blk.below (w' := w1) (by first | ((repeat' (first | (refine Blk.at_ _ _ _ ?_; first | rfl | (simp; done)) | refine Blk.alloc ?_ _ | refine Blk.drewN ?_ _ | assumption)); done) | (refine Blk.drew ?_; (repeat' (first | (refine Blk.at_ _ _ _ ?_; first | rfl | (simp; done)) | refine Blk.alloc ?_ _ | refine Blk.drewN ?_ _ | assumption)); done)) (Nat.le_refl _) hb1
  have hSb1 : w.heap.size + 1 + 1 ≤ w1.heap.size := (by have := hb1.size; simpa using this)
  have ka_0 := qa.out.cell 0 rfl
  have ka_1 := qa.out.cell 1 rfl
  have ka_2 := qa.out.cell 2 rfl
  have fa_0 := qa.out.frozen 0
  have fa_1 := qa.out.frozen 1
  have fa_2 := qa.out.frozen 2
  have la := qa.out.lt
  have kb_0 := qb.out.cell 0 rfl
  have kb_1 := qb.out.cell 1 rfl
  have kb_2 := qb.out.cell 2 rfl
  have fb_0 := qb.out.frozen 0
  have fb_1 := qb.out.frozen 1
  have fb_2 := qb.out.frozen 2
  have lb := qb.out.lt
  clear hb1 hT1
  go_wp2
  go_ret
  exact ⟨rfl, HB1.out⟩
set_option maxRecDepth 100000 in
set_option maxHeartbeats 2000000 in
theorem sModesValid_any (A : Option Addr) (n c : Nat) (ts : List Slots) (now asked : Int) (parts : Int) (w : World) (hm : n ≤ 1048576) (ht : ∀ x ∈ ts, (tabI x).length ≤ 1048576) (hr : Rd_tab w A n ts) :
    Calls Try.prog 15 #[.agg #[.slice A n c, .int .i64 now, .int .i64 asked], .int .i64 parts] w fun e w' => e = .returned (.bool (modesOk parts ts now asked)) ∧ Below w.heap.size w w' := by
  have hlz := Lib.hid hr.len
  have HR := Lib.hid hr
  have HT := Lib.hid ht
  clear hr ht
  have HV : Hid (modesOk parts ts now asked = (inB (n : Int) 1 4 && (inB now 0 ((n : Int) - 1) && (inB asked (-1) ((n : Int) - 1) && ts.all (slotsOk parts))))) := by show _ = _; unfold modesOk; rw [hlz.out]
  have hn64 : (n : Int) ≤ 1048576 := by omega
  go_enter Try.func15, Try.ntmps15
  go_wp2
  go_loopw [5] (fun i wr => ∃ (k : Nat), k ≤ n ∧ i = .int .i64 k ∧ Hid ((ts.take k).all (slotsOk parts) = true) ∧ Hid (Blk wr w.heap.size 30 #[.slice A n c, .int .i64 now, .int .i64 asked]) ∧ Hid (Below w.heap.size w wr)) (fun i _ => n - (intOf i).toNat)
  case atStart => exact ⟨0, Nat.zero_le _, rfl, by show _ = true; simp, Blk.at_ _ _ _ rfl, by show Below _ _ _; go_grown⟩
  case round =>
    obtain ⟨k, hk, rfl, HA, HQ, HB⟩ := hrel
    have ka_0 := HQ.out.cell 0 rfl
    have ka_1 := HQ.out.cell 1 rfl
    have ka_2 := HQ.out.cell 2 rfl
    have la := HQ.out.lt
    have hs := HB.out.size
    by_cases hlt : k < n
    · obtain ⟨b, oo, Ai, ni, ci, x, rfl, hbl, hx, h0, hn1, hn2, hrd⟩ := HR.out.at_ hlt
      have j0 := (HB.out.cell (p := ⟨b, oo + k, none⟩) hbl).trans h0
      have hmi : ni ≤ 1048577 := by have := HT.out x (List.mem_of_getElem? hx); rw [← hn1]; exact Nat.le_succ_of_le this
      have HX := Lib.hid hx
      have HRi := Lib.hid (hrd.below (Nat.le_refl _) HB.out)
      clear hx h0 hn1 hrd
      cases hv : slotsOk parts x
      · go_wp2_with fail
        refine (sSlotsValid_is hv _ hmi (by exact HRi.out)).mono ?_
        rintro e w1 ⟨rfl, hb1⟩
        have HB1 := Lib.hid (Below.andThen HB.out hb1)
        clear hb1
        go_wp2
        go_ret
        exact ⟨by rw [HV.out, all_missB HX.out hv]; simp, HB1.out⟩
      · have HVV := Lib.hid hv
        go_wp2_with fail
        refine (sSlotsValid_is hv _ hmi (by exact HRi.out)).mono ?_
        rintro e w1 ⟨rfl, hb1⟩
        have HB1 := Lib.hid (Below.andThen HB.out hb1)
        have HQ1 : Hid (Blk w1 w.heap.size 30 #[.slice _ n c, .int .i64 now, .int .i64 asked]) := Blk.below (w' := w1) HQ.out (Nat.le_refl _) hb1
        clear hb1
        go_wp2
        go_roundw
        case rel => exact ⟨k + 1, by omega, by go_num, all_snocB HX.out HA.out HVV.out, HQ1, HB1⟩
        case measure => simp [intOf]; omega
    · have hkn : k = n := by omega
      have h7 := HA.out
      rw [hkn, ← hlz.out, List.take_length] at h7
      have H7 := Lib.hid h7
      clear h7
      cases h1 : inB (n : Int) 1 4
      · go_wp2_with fail
        refine (l1In_is h1 _).mono ?_
        rintro e _ ⟨rfl, rfl⟩
        go_wp2
        go_ret
        exact ⟨by rw [HV.out, h1]; rfl, HB.out⟩
      · cases h2 : inB now 0 ((n : Int) - 1)
        · go_wp2_with fail
          refine (l1In_is h1 _).mono ?_
          rintro e _ ⟨rfl, rfl⟩
          go_wp2_with fail
          refine (l1In_is h2 _).mono ?_
          rintro e _ ⟨rfl, rfl⟩
          go_wp2
          go_ret
          exact ⟨by rw [HV.out, h2]; simp, HB.out⟩
        · cases h3 : inB asked (-1) ((n : Int) - 1)
          · go_wp2_with fail
            refine (l1In_is h1 _).mono ?_
            rintro e _ ⟨rfl, rfl⟩
            go_wp2_with fail
            refine (l1In_is h2 _).mono ?_
            rintro e _ ⟨rfl, rfl⟩
            go_wp2_with fail
            refine (l1In_is h3 _).mono ?_
            rintro e _ ⟨rfl, rfl⟩
            go_wp2
            go_ret
            exact ⟨by rw [HV.out, h3]; simp, HB.out⟩
          · go_wp2_with fail
            refine (l1In_is h1 _).mono ?_
            rintro e _ ⟨rfl, rfl⟩
            go_wp2_with fail
            refine (l1In_is h2 _).mono ?_
            rintro e _ ⟨rfl, rfl⟩
            go_wp2_with fail
            refine (l1In_is h3 _).mono ?_
            rintro e _ ⟨rfl, rfl⟩
            go_wp2
            go_ret
            exact ⟨by rw [HV.out, h1, h2, h3, H7.out]; rfl, HB.out⟩
/-- what a predicate on a table must give -/
def PredT (g : FuncId) (lb : Array Value) (p : Slots → Bool) (w : World) : Prop :=
  ∀ (Ai : Option Addr) (ni ci : Nat) (x : Slots) (W : World), Below w.heap.size w W → ni ≤ 1048577 → Rd W 2 Ai ni (slots x) → Calls Try.prog g (#[.slice Ai ni ci] ++ lb) W fun e W' => e = .returned (.bool (p x)) ∧ Below W.heap.size W W'
set_option maxRecDepth 100000 in
set_option maxHeartbeats 1000000 in
theorem IndexFuncT_any (g : FuncId) (lb : Array Value) (p : Slots → Bool) (A : Option Addr) (n c : Nat) (ts : List Slots) (w : World) (hm : n ≤ 1048577) (ht : ∀ x ∈ ts, (tabI x).length ≤ 1048576) (hr : Rd_tab w A n ts) (hp : PredT g lb p w)
    (eg : ∀ args w, (callFunc g args).run Try.prog w = .ok (.enter g args) w) :
    Calls Try.prog 42 #[.slice A n c, .func (.func g) #[] lb] w fun e w' => e = .returned (.int .i64 (idxP p ts)) ∧ Below w.heap.size w w' := by
  have hlz := Lib.hid hr.len
  have HP := Lib.hid hp
  have HT := Lib.hid ht
  have HR := Lib.hid hr
  clear hp ht hr
  go_enter Try.func42, Try.ntmps42
  go_wp2
  go_loopw [5, 8] (fun j i wr => ∃ (k : Nat), k ≤ n ∧ i = .int .i64 k ∧ Hid (∀ y ∈ ts.take k, p y = false) ∧ Below w.heap.size w wr) (fun _ i _ => n - (intOf i).toNat)
  case atStart => exact ⟨0, Nat.zero_le _, rfl, by show ∀ y ∈ ts.take 0, p y = false; simp, Below.refl _ _⟩
  case round =>
    obtain ⟨k, hk, rfl, HM, hb⟩ := hrel
    by_cases hlt : k < n
    · obtain ⟨b, oo, Ai, ni, ci, x, rfl, hbl, hx, h0, hn1, hn2, hrd⟩ := HR.out.at_ hlt
      have j0 := (hb.cell (p := ⟨b, oo + k, none⟩) hbl).trans h0
      have hmi : ni ≤ 1048577 := by have := HT.out x (List.mem_of_getElem? hx); rw [← hn1]; exact Nat.le_succ_of_le this
      have HX := Lib.hid hx
      have HRi := Lib.hid (hrd.below (Nat.le_refl _) hb)
      clear hx h0 hn1 hrd
      cases hv : p x
      · have hv' := Lib.hid hv
        clear hv
        go_wp2_with (go_at_fn g; refine (HP.out Ai ni ci x _ hb hmi HRi.out).mono ?_; rw [hv'.out]; rintro e w1 ⟨rfl, hb1⟩)
        go_roundw
        case rel => exact ⟨k + 1, by omega, by go_num, miss_snoc HX.out HM.out hv'.out, Below.andThen hb hb1⟩
        case measure => simp [intOf]; omega
      · have hv' := Lib.hid hv
        clear hv
        go_wp2_with (go_at_fn g; refine (HP.out Ai ni ci x _ hb hmi HRi.out).mono ?_; rw [hv'.out]; rintro e w1 ⟨rfl, hb1⟩)
        go_ret
        exact ⟨ret_int (idxP_hit HX.out HM.out hv'.out).symm, Below.andThen hb hb1⟩
    · have hkn : k = n := by omega
      go_wp2
      go_ret
      refine ⟨ret_int (idxP_miss ?_).symm, hb⟩
      have := HM.out
      rw [hkn, ← hlz.out, List.take_length] at this
      exact this
set_option maxRecDepth 100000 in
set_option maxHeartbeats 400000 in
theorem ContainsFuncT_any (g : FuncId) (lb : Array Value) (p : Slots → Bool) (A : Option Addr) (n c : Nat) (ts : List Slots) (w : World) (hm : n ≤ 1048577) (ht : ∀ x ∈ ts, (tabI x).length ≤ 1048576) (hr : Rd_tab w A n ts) (hp : PredT g lb p w)
    (eg : ∀ args w, (callFunc g args).run Try.prog w = .ok (.enter g args) w) :
    Calls Try.prog 35 #[.slice A n c, .func (.func g) #[] lb] w fun e w' => e = .returned (.bool (ts.any p)) ∧ Below w.heap.size w w' := by
  have HP := Lib.hid hp
  clear hp
  rw [← idxP_any]
  have HI := Lib.hid (IndexFuncT_any g lb p A n c ts w hm ht hr HP.out eg)
  clear eg hr ht
  go_enter Try.func35, Try.ntmps35
  go_wp2_with (go_at_call 42; refine HI.out.mono ?_; rintro e w1 ⟨rfl, hb1⟩)
  go_ret
  exact ⟨rfl, hb1⟩
set_option maxRecDepth 100000 in
set_option maxHeartbeats 1000000 in
theorem modesValid1_any (a : Addr) (parts : Int) (w : World) (hc : w.cell? a = some (.int .i64 parts)) : PredT 36 #[.pointer (some a)] (fun x => !slotsOk parts x) w := by
  intro Ai ni ci x W hb hmi hrd
  have ha : a.block < w.heap.size := World.block_lt_of_cell? w a hc
  have hcW : W.cell? a = some (.int .i64 parts) := (hb.cell ha).trans hc
  have HRD := Lib.hid hrd
  have hz := hb.size
  clear hrd
  show Calls Try.prog 36 #[.slice Ai ni ci, .pointer (some a)] W fun e W' => e = .returned (.bool (!slotsOk parts x)) ∧ Below W.heap.size W W'
  go_enter Try.func36, Try.ntmps36
  go_wp2_with fail
  refine (iSlotsValid_any Ai ni ci x parts _ hmi (by exact HRD.out)).mono ?_
  rintro e w1 ⟨rfl, hb1⟩
  have HB1 := Lib.hid hb1
  clear hb1
  go_wp2
  go_ret
  exact ⟨rfl, HB1.out⟩
set_option maxRecDepth 100000 in
set_option maxHeartbeats 2000000 in
theorem iModesValid_any (A : Option Addr) (n c : Nat) (ts : List Slots) (now asked : Int) (parts : Int) (w : World) (hm : n ≤ 1048576) (ht : ∀ x ∈ ts, (tabI x).length ≤ 1048576) (hr : Rd_tab w A n ts) :
    Calls Try.prog 21 #[.agg #[.slice A n c, .int .i64 now, .int .i64 asked], .int .i64 parts] w fun e w' => e = .returned (.bool (modesOk parts ts now asked)) ∧ Below w.heap.size w w' := by
  have hlz := Lib.hid hr.len
  have HR := Lib.hid hr
  have HT := Lib.hid ht
  clear hr ht
  have HV : Hid (modesOk parts ts now asked = (inB (n : Int) 1 4 && (inB now 0 ((n : Int) - 1) && (inB asked (-1) ((n : Int) - 1) && ts.all (slotsOk parts))))) := by show _ = _; unfold modesOk; rw [hlz.out]
  cases h1 : inB (n : Int) 1 4
  · rw [show modesOk parts ts now asked = false by rw [HV.out, h1]; rfl]
    go_enter Try.func21, Try.ntmps21
    go_wp2_with fail
    refine (in_is h1 _).mono ?_
    rintro e _ ⟨rfl, rfl⟩
    go_wp2
    go_ret
    exact ⟨rfl, by go_grown⟩
  · cases h2 : inB now 0 ((n : Int) - 1)
    · rw [show modesOk parts ts now asked = false by rw [HV.out, h2]; simp]
      go_enter Try.func21, Try.ntmps21
      go_wp2_with fail
      refine (in_is h1 _).mono ?_
      rintro e _ ⟨rfl, rfl⟩
      go_wp2_with fail
      refine (in_is h2 _).mono ?_
      rintro e _ ⟨rfl, rfl⟩
      go_wp2
      go_ret
      exact ⟨rfl, by go_grown⟩
    · cases h3 : inB asked (-1) ((n : Int) - 1)
      · rw [show modesOk parts ts now asked = false by rw [HV.out, h3]; simp]
        go_enter Try.func21, Try.ntmps21
        go_wp2_with fail
        refine (in_is h1 _).mono ?_
        rintro e _ ⟨rfl, rfl⟩
        go_wp2_with fail
        refine (in_is h2 _).mono ?_
        rintro e _ ⟨rfl, rfl⟩
        go_wp2_with fail
        refine (in_is h3 _).mono ?_
        rintro e _ ⟨rfl, rfl⟩
        go_wp2
        go_ret
        exact ⟨rfl, by go_grown⟩
      · rw [show modesOk parts ts now asked = !(ts.any fun x => !slotsOk parts x) by rw [HV.out, h1, h2, h3, List.all_eq_not_any_not]; rfl]
        go_enter Try.func21, Try.ntmps21
        go_wp2_with fail
        refine (in_is h1 _).mono ?_
        rintro e _ ⟨rfl, rfl⟩
        go_wp2_with fail
        refine (in_is h2 _).mono ?_
        rintro e _ ⟨rfl, rfl⟩
        go_wp2_with fail
        refine (in_is h3 _).mono ?_
        rintro e _ ⟨rfl, rfl⟩
        go_wp2_with fail
        refine (ContainsFuncT_any 36 _ (fun x => !slotsOk parts x) A n c ts _ (by omega) HT.out (HR.out.below (Nat.le_refl _) (by go_grown)) (modesValid1_any _ parts _ (by simp [go_sem])) (enters_of Try.func36 (by kernel_rfl) rfl)).mono ?_
        rintro e w1 ⟨rfl, hb1⟩
        have HB1 : Hid (Below w.heap.size w w1) := Below.andThen (by go_grown) hb1
        clear hb1
        go_wp2
        go_ret
        exact ⟨rfl, HB1.out⟩
end Go.Proofs.Ytdccgflkhgnflaa
