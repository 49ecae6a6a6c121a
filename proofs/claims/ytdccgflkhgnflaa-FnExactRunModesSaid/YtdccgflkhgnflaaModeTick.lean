/-
  CONTRACTS of ModeTick.
  Conditions: none beyond those that each states.
-/
import Derived.Test.YtdccgflkhgnflaaModes
namespace Go.Proofs.Ytdccgflkhgnflaa
open Go.ChangeShapes Go.WideShapes Go.ChangeAt Go.RowKit Go.Joins
set_option linter.unusedVariables false

/-- the table in use -/
def cur (ts : List Slots) (now : Int) : Slots := ts.getD now.toNat []
def mtB (parts : Int) (ts : List Slots) (now asked tick : Int) : Bool := modesOk parts ts now asked && inB tick 0 (((frameL (cur ts now)).length : Int) - 1)
def mtV (parts : Int) (ts : List Slots) (now asked tick : Int) : Int := if mtB parts ts now asked tick = true then frameAt (cur ts now) tick.toNat else -2
theorem modesOk_use {parts : Int} {ts : List Slots} {now asked : Int} (h : modesOk parts ts now asked = true) :
    1 ≤ ts.length ∧ ts.length ≤ 4 ∧ (∃ k : Nat, now = (k : Int) ∧ k < ts.length) ∧ -1 ≤ asked ∧ asked ≤ (ts.length : Int) - 1 ∧ ∀ x ∈ ts, slotsOk parts x = true := by
  unfold modesOk at h
  rw [Bool.and_eq_true, Bool.and_eq_true, Bool.and_eq_true, List.all_eq_true] at h
  obtain ⟨h1, h2, h3, h4⟩ := h
  have := inB_true.1 h1
  have := inB_true.1 h2
  have := inB_true.1 h3
  exact ⟨by omega, by omega, ⟨now.toNat, by omega, by omega⟩, by omega, by omega, h4⟩
theorem cur_at {ts : List Slots} {k : Nat} {x : Slots} (h : ts[k]? = some x) : cur ts (k : Int) = x := by
  unfold cur
  rw [Int.toNat_natCast, List.getD_eq_getElem?_getD, h]; rfl
theorem sModesValid_is {A : Option Addr} {n c : Nat} {ts : List Slots} {now asked parts : Int} {b : Bool} (h : modesOk parts ts now asked = b) (w : World) (hm : n ≤ 1048576) (ht : ∀ x ∈ ts, (tabI x).length ≤ 1048576) (hr : Rd_tab w A n ts) :
    Calls Try.prog 15 #[.agg #[.slice A n c, .int .i64 now, .int .i64 asked], .int .i64 parts] w fun e w' => e = .returned (.bool b) ∧ Below w.heap.size w w' := h ▸ sModesValid_any A n c ts now asked parts w hm ht hr
theorem iModesValid_is {A : Option Addr} {n c : Nat} {ts : List Slots} {now asked parts : Int} {b : Bool} (h : modesOk parts ts now asked = b) (w : World) (hm : n ≤ 1048576) (ht : ∀ x ∈ ts, (tabI x).length ≤ 1048576) (hr : Rd_tab w A n ts) :
    Calls Try.prog 21 #[.agg #[.slice A n c, .int .i64 now, .int .i64 asked], .int .i64 parts] w fun e w' => e = .returned (.bool b) ∧ Below w.heap.size w w' := h ▸ iModesValid_any A n c ts now asked parts w hm ht hr

set_option maxRecDepth 100000 in
set_option maxHeartbeats 4000000 in
theorem sModeTick_any (A : Option Addr) (n c : Nat) (ts : List Slots) (now asked parts tick : Int) (w : World) (hm : n ≤ 1048576) (ht : ∀ x ∈ ts, (tabI x).length ≤ 1048576) (hr : Rd_tab w A n ts) :
    Calls Try.prog 18 #[.agg #[.slice A n c, .int .i64 now, .int .i64 asked], .int .i64 parts, .int .i64 tick] w fun e w' => e = .returned (.int .i64 (mtV parts ts now asked tick)) ∧ Below w.heap.size w w' := by
  have hlz := Lib.hid hr.len
  have HR := Lib.hid hr
  have HT := Lib.hid ht
  clear hr ht
  have HV : Hid (mtV parts ts now asked tick = if (modesOk parts ts now asked && inB tick 0 (((frameL (cur ts now)).length : Int) - 1)) = true then frameAt (cur ts now) tick.toNat else -2) := rfl
  cases h0 : modesOk parts ts now asked
  · rw [show mtV parts ts now asked tick = -2 by rw [HV.out, h0]; rfl]
    go_enter Try.func18, Try.ntmps18
    go_wp2_with fail
    refine (sModesValid_is h0 _ hm HT.out (HR.out.below (Nat.le_refl _) (by go_grown))).mono ?_
    rintro e w1 ⟨rfl, hb1⟩
    have hT1 : Below w.heap.size w w1 := Below.andThen (by go_grown) hb1
    have hS1 := hT1.size
    have HB1 : Hid (Below w.heap.size w w1) := hT1
    have qa : Hid (Blk w1 (w.heap.size) 30 #[.slice A n c, .int .i64 now, .int .i64 asked]) := Blk.below (w' := w1) (by first | ((repeat' (first | (refine Blk.at_ _ _ _ ?_; first | rfl | (simp; done)) | refine Blk.alloc ?_ _ | refine Blk.drewN ?_ _ | assumption)); done) | (refine Blk.drew ?_; (repeat' (first | (refine Blk.at_ _ _ _ ?_; first | rfl | (simp; done)) | refine Blk.alloc ?_ _ | refine Blk.drewN ?_ _ | assumption)); done)) (Nat.le_refl _) hb1
    have hSb1 : w.heap.size + 1 ≤ w1.heap.size := (by have := hb1.size; simpa using this)
    have ka_0 := qa.out.cell 0 rfl
    have ka_1 := qa.out.cell 1 rfl
    have ka_2 := qa.out.cell 2 rfl
    have fa_0 := qa.out.frozen 0
    have fa_1 := qa.out.frozen 1
    have fa_2 := qa.out.frozen 2
    have la := qa.out.lt
    clear hb1 hT1
    go_wp2
    go_ret
    exact ⟨rfl, HB1.out⟩
  · obtain ⟨hl1, hl4, ⟨j, rfl, hj⟩, _, _, hall⟩ := modesOk_use h0
    rw [hlz.out] at hl1 hl4 hj
    obtain ⟨b, oo, Ai, ni, ci, x, rfl, hbl, hx, hc0, hn1, hn2, hrd⟩ := HR.out.at_ hj
    have hmi : ni ≤ 1048576 := by have := HT.out x (List.mem_of_getElem? hx); rw [← hn1]; exact this
    have hsx := hall x (List.mem_of_getElem? hx)
    obtain ⟨hp0, hp5, hx1, hx12, htk⟩ := slotsOk_use hsx
    rw [hn1] at hx1 hx12
    have hcur := cur_at hx
    have hfb := frameL_bd htk
    rw [hn1] at hfb
    obtain ⟨N, hN⟩ : ∃ N, N = (frameL x).length := ⟨_, rfl⟩
    have HVX : Hid (mtV parts ts (j : Int) asked tick = if inB tick 0 ((N : Int) - 1) = true then frameAt x tick.toNat else -2) := by show _ = _; rw [HV.out, h0, hcur, ← hN]; rfl
    rw [← hN] at hfb
    have hN1 : 1 ≤ N := by omega
    have hN2 : N ≤ 240 := by omega
    have HNF := Lib.hid hN
    have HTK := Lib.hid htk
    have HRD := Lib.hid hrd
    have HC0 := Lib.hid hc0
    have hjI0 : (0 : Int) ≤ (j : Int) := by omega
    have hjI1 : (j : Int) < (n : Int) := by omega
    clear hN htk hfb hrd hcur hx hall HV hc0
    cases h1 : inB tick 0 ((N : Int) - 1)
    · rw [show mtV parts ts (j : Int) asked tick = -2 by rw [HVX.out, h1]; rfl]
      go_enter Try.func18, Try.ntmps18
      go_wp2_with fail
      refine (sModesValid_is h0 _ hm HT.out (HR.out.below (Nat.le_refl _) (by go_grown))).mono ?_
      rintro e w1 ⟨rfl, hb1⟩
      have hT1 : Below w.heap.size w w1 := Below.andThen (by go_grown) hb1
      have hS1 := hT1.size
      have HB1 : Hid (Below w.heap.size w w1) := hT1
      have qa : Hid (Blk w1 (w.heap.size) 30 #[.slice (some ⟨b, oo, none⟩) n c, .int .i64 (j : Int), .int .i64 asked]) := Blk.below (w' := w1) (by first | ((repeat' (first | (refine Blk.at_ _ _ _ ?_; first | rfl | (simp; done)) | refine Blk.alloc ?_ _ | refine Blk.drewN ?_ _ | assumption)); done) | (refine Blk.drew ?_; (repeat' (first | (refine Blk.at_ _ _ _ ?_; first | rfl | (simp; done)) | refine Blk.alloc ?_ _ | refine Blk.drewN ?_ _ | assumption)); done)) (Nat.le_refl _) hb1
      have hSb1 : w.heap.size + 1 ≤ w1.heap.size := (by have := hb1.size; simpa using this)
      have ka_0 := qa.out.cell 0 rfl
      have ka_1 := qa.out.cell 1 rfl
      have ka_2 := qa.out.cell 2 rfl
      have fa_0 := qa.out.frozen 0
      have fa_1 := qa.out.frozen 1
      have fa_2 := qa.out.frozen 2
      have la := qa.out.lt
      clear hb1 hT1
      have j0 := (HB1.out.cell (p := ⟨b, oo + j, none⟩) hbl).trans HC0.out
      go_wp2_with fail
      refine (sFrameTicks_is hsx HNF.out _ hmi (HRD.out.below (Nat.le_refl _) (by first | exact HB1.out | go_grown | exact Below.andThen HB1.out (by go_grown)))).mono ?_
      rintro e w2 ⟨rfl, hb2⟩
      clear la ka_0 ka_1 ka_2 fa_0 fa_1 fa_2
      have hT2 : Below w1.heap.size w1 w2 := Below.andThen (by go_grown) hb2
      have hS2 := hT2.size
      have HB2 : Hid (Below w.heap.size w w2) := Below.andThen HB1.out hT2
      have qa := Lib.hid (qa.out.below (Nat.le_refl _) hT2)
      have ka_0 := qa.out.cell 0 rfl
      have ka_1 := qa.out.cell 1 rfl
      have ka_2 := qa.out.cell 2 rfl
      have fa_0 := qa.out.frozen 0
      have fa_1 := qa.out.frozen 1
      have fa_2 := qa.out.frozen 2
      have la := qa.out.lt
      clear hb2 hT2
      clear j0
      have j0 := (HB2.out.cell (p := ⟨b, oo + j, none⟩) hbl).trans HC0.out
      go_wp2_with fail
      refine (l1In_is h1 _).mono ?_
      rintro e _ ⟨rfl, rfl⟩
      go_wp2
      go_ret
      exact ⟨rfl, HB2.out⟩
    · obtain ⟨ht0, ht1⟩ := inB_true.1 h1
      obtain ⟨r, rfl⟩ : ∃ r : Nat, tick = (r : Int) := ⟨tick.toNat, by omega⟩
      have hrN : r < N := by omega
      have hmm : (r : Int) % (N : Int) = (r : Int) := Int.emod_eq_of_lt (by omega) (by omega)
      rw [show mtV parts ts (j : Int) asked (r : Int) = frameAt x r by rw [HVX.out, h1, if_pos rfl, Int.toNat_natCast]]
      go_enter Try.func18, Try.ntmps18
      go_wp2_with fail
      refine (sModesValid_is h0 _ hm HT.out (HR.out.below (Nat.le_refl _) (by go_grown))).mono ?_
      rintro e w1 ⟨rfl, hb1⟩
      have hT1 : Below w.heap.size w w1 := Below.andThen (by go_grown) hb1
      have hS1 := hT1.size
      have HB1 : Hid (Below w.heap.size w w1) := hT1
      have qa : Hid (Blk w1 (w.heap.size) 30 #[.slice (some ⟨b, oo, none⟩) n c, .int .i64 (j : Int), .int .i64 asked]) := Blk.below (w' := w1) (by first | ((repeat' (first | (refine Blk.at_ _ _ _ ?_; first | rfl | (simp; done)) | refine Blk.alloc ?_ _ | refine Blk.drewN ?_ _ | assumption)); done) | (refine Blk.drew ?_; (repeat' (first | (refine Blk.at_ _ _ _ ?_; first | rfl | (simp; done)) | refine Blk.alloc ?_ _ | refine Blk.drewN ?_ _ | assumption)); done)) (Nat.le_refl _) hb1
      have hSb1 : w.heap.size + 1 ≤ w1.heap.size := (by have := hb1.size; simpa using this)
      have ka_0 := qa.out.cell 0 rfl
      have ka_1 := qa.out.cell 1 rfl
      have ka_2 := qa.out.cell 2 rfl
      have fa_0 := qa.out.frozen 0
      have fa_1 := qa.out.frozen 1
      have fa_2 := qa.out.frozen 2
      have la := qa.out.lt
      clear hb1 hT1
      have j0 := (HB1.out.cell (p := ⟨b, oo + j, none⟩) hbl).trans HC0.out
      go_wp2_with fail
      refine (sFrameTicks_is hsx HNF.out _ hmi (HRD.out.below (Nat.le_refl _) (by first | exact HB1.out | go_grown | exact Below.andThen HB1.out (by go_grown)))).mono ?_
      rintro e w2 ⟨rfl, hb2⟩
      clear la ka_0 ka_1 ka_2 fa_0 fa_1 fa_2
      have hT2 : Below w1.heap.size w1 w2 := Below.andThen (by go_grown) hb2
      have hS2 := hT2.size
      have HB2 : Hid (Below w.heap.size w w2) := Below.andThen HB1.out hT2
      have qa := Lib.hid (qa.out.below (Nat.le_refl _) hT2)
      have ka_0 := qa.out.cell 0 rfl
      have ka_1 := qa.out.cell 1 rfl
      have ka_2 := qa.out.cell 2 rfl
      have fa_0 := qa.out.frozen 0
      have fa_1 := qa.out.frozen 1
      have fa_2 := qa.out.frozen 2
      have la := qa.out.lt
      clear hb2 hT2
      clear j0
      have j0 := (HB2.out.cell (p := ⟨b, oo + j, none⟩) hbl).trans HC0.out
      go_wp2_with fail
      refine (l1In_is h1 _).mono ?_
      rintro e _ ⟨rfl, rfl⟩
      go_wp2_with fail
      refine (sWhoRuns_at (r := r) (r : Int) hsx HNF.out (by omega) (by omega) hmm _ hmi (HRD.out.below (Nat.le_refl _) (by first | exact HB2.out | go_grown | exact Below.andThen HB2.out (by go_grown)))).mono ?_
      rintro e w3 ⟨rfl, hb3⟩
      clear la ka_0 ka_1 ka_2 fa_0 fa_1 fa_2
      have hT3 : Below w2.heap.size w2 w3 := Below.andThen (by go_grown) hb3
      have hS3 := hT3.size
      have HB3 : Hid (Below w.heap.size w w3) := Below.andThen HB2.out hT3
      have qa := Lib.hid (qa.out.below (Nat.le_refl _) hT3)
      have ka_0 := qa.out.cell 0 rfl
      have ka_1 := qa.out.cell 1 rfl
      have ka_2 := qa.out.cell 2 rfl
      have fa_0 := qa.out.frozen 0
      have fa_1 := qa.out.frozen 1
      have fa_2 := qa.out.frozen 2
      have la := qa.out.lt
      clear hb3 hT3
      go_wp2
      go_ret
      exact ⟨rfl, HB3.out⟩
theorem open_Modes {H : Type} {enc : TypeId × Value → H} {w : World} {base : Nat} {spare : Nat → Bool} {held : Bool} {r : Reach} {b0 : Nat} {v : Value} {d : DataW H} {p : List MemPlace}
    (hv : Value.okWide Try.prog w r b0 24 v) (h : DataW.Trod enc Try.prog w base spare held 24 v d p) :
    ∃ (A : Option Addr) (n c : Nat) (ts : List Slots) (now asked : Int), v = .agg #[.slice A n c, .int .i64 now, .int .i64 asked] ∧ ts.length = n ∧ n ≤ maxLen ∧ Rd_tab w A n ts := by
  obtain ⟨c0, c1, c2, y0, y1, y2, m, rfl, rfl, rfl, h0, h1, h2⟩ := open_agg3 Try.underlying24 (by kernel_rfl) (by kernel_rfl) hv h
  obtain ⟨now, e1, rfl, _⟩ := DataW.trod_int Try.underlying3 h1
  obtain ⟨asked, e2, rfl, _⟩ := DataW.trod_int Try.underlying3 h2
  have hel : ∀ (q : Nat) (r : List Value) (d : DataW H × List MemPlace), DataW.trod enc Try.prog w base spare held q 53 r = some d →
      ∃ p : Hdr × Slots, r = tabC p.1 p.2 ∧ (tabI p.2).length = p.1.2.1 ∧ p.1.2.1 ≤ maxLen ∧ Rd w 2 p.1.1 p.1.2.1 ((tabI p.2).flatMap slotC) := by
    intro q r d hd
    have hf := hd
    obtain ⟨x0, rfl⟩ : ∃ x0, r = [x0] := by
      rcases Go.Deep.open_slice Try.underlying53 hd with ⟨e, _⟩ | ⟨_, _, _, _, _, _, _, e, _⟩ <;> exact ⟨_, e⟩
    have hel2 : ∀ (q : Nat) (r : List Value) (d : DataW H × List MemPlace), DataW.trod enc Try.prog w base spare held q 66 r = some d → ∃ x, r = slotC x := by
      intro q r d hd
      obtain ⟨c0, c1, y0, y1, q2, rfl, t0, t1⟩ := trod_row2 Try.underlying66 (by kernel_rfl) (by kernel_rfl) hd
      obtain ⟨z0, e0, _⟩ := DataW.trod_int Try.underlying3 t0
      obtain ⟨z1, e1, _⟩ := DataW.trod_int Try.underlying3 t1
      simp only [List.cons.injEq, and_true] at e0 e1
      exact ⟨(z0, z1), by rw [e0, e1]; rfl⟩
    obtain ⟨A, n, c, zs, hv', hn, hm, hr⟩ := rd_enc slotC Try.underlying53 (show Try.prog.cellsOf 66 = 2 by kernel_rfl) (by omega) hel2 hf
    exact ⟨((A, n, c), zs), by rw [hv']; rfl, hn, hm, hr⟩
  obtain ⟨A, n, c, ts, hv', hn, hm, hr⟩ := rdN_of (inn := tabI) Try.underlying22 (show Try.prog.cellsOf 53 = 1 by kernel_rfl) (by omega) hel h0
  simp only [List.cons.injEq, and_true] at e1 e2
  exact ⟨A, n, c, ts, now, asked, by rw [hv', e1, e2], hn, hm, hr⟩
end Go.Proofs.Ytdccgflkhgnflaa
