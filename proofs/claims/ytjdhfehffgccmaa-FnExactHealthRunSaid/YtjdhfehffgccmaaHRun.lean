/-
  CONTRACTS of HealthRun.
  Conditions: none beyond those that each states.
-/
import Derived.Test.YtjdhfehffgccmaaHealth3
import Derived.Test.YtjdhfehffgccmaaKeep
import Derived.Deep.RegionHeld3
namespace Go.Proofs.Ytjdhfehffgccmaa
open Go.ChangeShapes Go.WideShapes Go.ChangeAt Go.RowKit Go.Joins
set_option linter.unusedVariables false

def hStep (zs : List Int) (h : Bool × Int) (x : Int) : Bool × Int := (stepF h.1 (actOf zs x) x h.2, stepR h.1 (actOf zs x) x h.2)
def hRun (zs fs : List Int) (h : Bool × Int) : Bool × Int := fs.foldl (hStep zs) h
def faultsB (fs : List Int) : Bool := decide (fs.length ≤ 30) && fs.all (fun x => inB x 0 3)
def hrB (f : Bool) (r : Int) (zs fs : List Int) : Bool := (healthValid f r && tableOk zs) && faultsB fs
def hrV (f : Bool) (r : Int) (zs fs : List Int) : Bool × Int := if hrB f r zs fs = true then hRun zs fs (f, r) else (false, 0)
theorem hRun_snoc (zs fs : List Int) (h : Bool × Int) (x : Int) : hRun zs (fs ++ [x]) h = hStep zs (hRun zs fs h) x := by simp [hRun]
theorem hStep_ok {zs : List Int} {h : Bool × Int} {x : Int} (hv : healthValid h.1 h.2 = true) (ht : tableOk zs = true) (hx : inB x 0 3 = true) : healthValid (hStep zs h x).1 (hStep zs h x).2 = true := by
  obtain ⟨f, r⟩ := h
  unfold hStep
  simp only at hv ⊢
  by_cases h0 : x = 0 ∨ f = true
  · rw [show stepF f (actOf zs x) x r = f by unfold stepF; rw [if_pos h0], show stepR f (actOf zs x) x r = r by unfold stepR; rw [if_pos h0]]
    exact hv
  · have hf : f = false := by
      cases f
      · rfl
      · exact absurd (Or.inr rfl) h0
    subst hf
    unfold healthValid inB at hv
    simp at hv
    rw [show stepF false (actOf zs x) x r = (decide (actOf zs x = 2) || (decide (actOf zs x = 1) && decide (r = 2))) by unfold stepF; rw [if_neg h0], show stepR false (actOf zs x) x r = (if actOf zs x = 1 then r + 1 else r) by unfold stepR; rw [if_neg h0]]
    unfold healthValid inB
    rcases act_rng ht x with h | h | h
    · rw [h]; simp; omega
    · rw [h]
      by_cases h2 : r = 2
      · subst h2; simp
      · simp [h2]; omega
    · rw [h]; simp; omega
theorem hv_is {f : Bool} {r : Int} {b : Bool} (h : healthValid f r = b) (w : World) : Calls Try.prog 60 #[.agg #[.bool f, .int .i64 r]] w fun e w' => e = .returned (.bool b) ∧ Below w.heap.size w w' := h ▸ sHealthValid_any f r w
theorem hvi_is {f : Bool} {r : Int} {b : Bool} (h : healthValid f r = b) (w : World) : Calls Try.prog 63 #[.agg #[.bool f, .int .i64 r]] w fun e w' => e = .returned (.bool b) ∧ Below w.heap.size w w' := h ▸ iHealthValid_any f r w
theorem ht_is {A : Option Addr} {n c : Nat} {zs : List Int} {b : Bool} (h : tableOk zs = b) (w : World) (hm : n ≤ 1048577) (hr : Rd w 1 A n (ints zs)) : Calls Try.prog 61 #[.slice A n c] w fun e w' => e = .returned (.bool b) ∧ Below w.heap.size w w' := h ▸ sHealthTable_any A n c zs w hm hr
theorem hti_is {A : Option Addr} {n c : Nat} {zs : List Int} {b : Bool} (h : tableOk zs = b) (w : World) (hm : n ≤ 1048577) (hr : Rd w 1 A n (ints zs)) : Calls Try.prog 64 #[.slice A n c] w fun e w' => e = .returned (.bool b) ∧ Below w.heap.size w w' := h ▸ iHealthTable_any A n c zs w hm hr

theorem l1In_is2 {n lo hi : Int} {b : Bool} (h : inB n lo hi = b) (w : World) : Calls Try.prog 62 #[.int .i64 n, .int .i64 lo, .int .i64 hi] w fun e w' => e = .returned (.bool b) ∧ w = w' := h ▸ l1In_any n lo hi w
theorem all_snocP {α : Type} {p : α → Bool} {xs : List α} {k : Nat} {x : α} (hx : xs[k]? = some x) (hk : ∀ y ∈ xs.take k, p y = true) (hp : p x = true) : ∀ y ∈ xs.take (k + 1), p y = true := by
  rw [take_snoc hx]
  intro y hy
  rcases List.mem_append.1 hy with h | h
  · exact hk y h
  · rw [List.mem_singleton.1 h]; exact hp
set_option maxRecDepth 100000 in
set_option maxHeartbeats 4000000 in
theorem sHealthRun_any (f : Bool) (r : Int) (A : Option Addr) (n c : Nat) (zs : List Int) (B : Option Addr) (m d : Nat) (fs : List Int) (w : World) (hm : n ≤ 1048577) (hr : Rd w 1 A n (ints zs)) (hm2 : m ≤ 1048577) (hs : Rd w 1 B m (ints fs)) :
    Calls Try.prog 23 #[.agg #[.bool f, .int .i64 r], .slice A n c, .slice B m d] w fun e w' => e = .returned (.agg #[.bool (hrV f r zs fs).1, .int .i64 (hrV f r zs fs).2]) ∧ Below w.heap.size w w' := by
  have HR := Lib.hid hr
  have HS := Lib.hid hs
  have hlz := Lib.hid hr.len
  have hlf := Lib.hid hs.len
  clear hr hs
  have HV : Hid (hrV f r zs fs = if ((healthValid f r && tableOk zs) && (decide (m ≤ 30) && fs.all (fun x => inB x 0 3))) = true then hRun zs fs (f, r) else (false, 0)) := by show _ = _; unfold hrV hrB faultsB; rw [hlf.out]
  by_cases h30 : m ≤ 30
  · have hI : ¬ (30 : Int) < (m : Int) := by omega
    cases h1 : healthValid f r
    · skip
      rw [show hrV f r zs fs = (false, 0) by rw [HV.out, h1]; simp]
      go_enter Try.func23, Try.ntmps23
      go_wp2_with fail
      refine (hv_is h1 _).mono ?_
      rintro e w1 ⟨rfl, hb1⟩
      have hT1 : Below w.heap.size w w1 := Below.andThen (by go_grown) hb1
      have hS1 := hT1.size
      have HB1 : Hid (Below w.heap.size w w1) := hT1
      have qa : Hid (Blk w1 (w.heap.size) 26 #[.bool f, .int .i64 r]) := Blk.below (w' := w1) (by first | ((repeat' (first | (refine Blk.at_ _ _ _ ?_; first | rfl | (simp; done)) | refine Blk.alloc ?_ _ | refine Blk.drewN ?_ _ | assumption)); done) | (refine Blk.drew ?_; (repeat' (first | (refine Blk.at_ _ _ _ ?_; first | rfl | (simp; done)) | refine Blk.alloc ?_ _ | refine Blk.drewN ?_ _ | assumption)); done)) (Nat.le_refl _) hb1
      have qr : Hid (Blk w1 (w.heap.size + 1) 26 #[.bool false, .int .i64 0]) := Blk.below (w' := w1) (by first | ((repeat' (first | (refine Blk.at_ _ _ _ ?_; first | rfl | (simp; done)) | refine Blk.alloc ?_ _ | refine Blk.drewN ?_ _ | assumption)); done) | (refine Blk.drew ?_; (repeat' (first | (refine Blk.at_ _ _ _ ?_; first | rfl | (simp; done)) | refine Blk.alloc ?_ _ | refine Blk.drewN ?_ _ | assumption)); done)) (Nat.le_refl _) hb1
      have hSb1 : w.heap.size + 1 + 1 ≤ w1.heap.size := (by have := hb1.size; simpa using this)
      have ka_0 := qa.out.cell 0 rfl
      have ka_1 := qa.out.cell 1 rfl
      have fa_0 := qa.out.frozen 0
      have fa_1 := qa.out.frozen 1
      have la := qa.out.lt
      have kr_0 := qr.out.cell 0 rfl
      have kr_1 := qr.out.cell 1 rfl
      have fr_0 := qr.out.frozen 0
      have fr_1 := qr.out.frozen 1
      have lr := qr.out.lt
      clear hb1 hT1
      go_wp2
      refine bodyPost_ret (v := .agg #[.bool false, .int .i64 0]) (by simp [results, Try.results23, go_sem, *]) rfl ?_
      exact ⟨rfl, by first | exact HB1.out | exact (HB1.out.setCell (by first | (simp; done) | (simp; omega)) _).setCell (by first | (simp; done) | (simp; omega)) _⟩
    · cases h2 : tableOk zs
      · skip
        rw [show hrV f r zs fs = (false, 0) by rw [HV.out, h1, h2]; simp]
        go_enter Try.func23, Try.ntmps23
        go_wp2_with fail
        refine (hv_is h1 _).mono ?_
        rintro e w1 ⟨rfl, hb1⟩
        have hT1 : Below w.heap.size w w1 := Below.andThen (by go_grown) hb1
        have hS1 := hT1.size
        have HB1 : Hid (Below w.heap.size w w1) := hT1
        have qa : Hid (Blk w1 (w.heap.size) 26 #[.bool f, .int .i64 r]) := Blk.below (w' := w1) (by first | ((repeat' (first | (refine Blk.at_ _ _ _ ?_; first | rfl | (simp; done)) | refine Blk.alloc ?_ _ | refine Blk.drewN ?_ _ | assumption)); done) | (refine Blk.drew ?_; (repeat' (first | (refine Blk.at_ _ _ _ ?_; first | rfl | (simp; done)) | refine Blk.alloc ?_ _ | refine Blk.drewN ?_ _ | assumption)); done)) (Nat.le_refl _) hb1
        have qr : Hid (Blk w1 (w.heap.size + 1) 26 #[.bool false, .int .i64 0]) := Blk.below (w' := w1) (by first | ((repeat' (first | (refine Blk.at_ _ _ _ ?_; first | rfl | (simp; done)) | refine Blk.alloc ?_ _ | refine Blk.drewN ?_ _ | assumption)); done) | (refine Blk.drew ?_; (repeat' (first | (refine Blk.at_ _ _ _ ?_; first | rfl | (simp; done)) | refine Blk.alloc ?_ _ | refine Blk.drewN ?_ _ | assumption)); done)) (Nat.le_refl _) hb1
        have hSb1 : w.heap.size + 1 + 1 ≤ w1.heap.size := (by have := hb1.size; simpa using this)
        have ka_0 := qa.out.cell 0 rfl
        have ka_1 := qa.out.cell 1 rfl
        have fa_0 := qa.out.frozen 0
        have fa_1 := qa.out.frozen 1
        have la := qa.out.lt
        have kr_0 := qr.out.cell 0 rfl
        have kr_1 := qr.out.cell 1 rfl
        have fr_0 := qr.out.frozen 0
        have fr_1 := qr.out.frozen 1
        have lr := qr.out.lt
        clear hb1 hT1
        go_wp2_with fail
        refine (ht_is h2 _ hm (HR.out.below (Nat.le_refl _) (by first | exact HB1.out | go_grown | exact Below.andThen HB1.out (by go_grown)))).mono ?_
        rintro e w2 ⟨rfl, hb2⟩
        clear la ka_0 ka_1 fa_0 fa_1 lr kr_0 kr_1 fr_0 fr_1
        have hT2 : Below w1.heap.size w1 w2 := Below.andThen (by go_grown) hb2
        have hS2 := hT2.size
        have HB2 : Hid (Below w.heap.size w w2) := Below.andThen HB1.out hT2
        have qa := Lib.hid (qa.out.below (Nat.le_refl _) hT2)
        have qr := Lib.hid (qr.out.below (Nat.le_refl _) hT2)
        have ka_0 := qa.out.cell 0 rfl
        have ka_1 := qa.out.cell 1 rfl
        have fa_0 := qa.out.frozen 0
        have fa_1 := qa.out.frozen 1
        have la := qa.out.lt
        have kr_0 := qr.out.cell 0 rfl
        have kr_1 := qr.out.cell 1 rfl
        have fr_0 := qr.out.frozen 0
        have fr_1 := qr.out.frozen 1
        have lr := qr.out.lt
        clear hb2 hT2
        go_wp2
        refine bodyPost_ret (v := .agg #[.bool false, .int .i64 0]) (by simp [results, Try.results23, go_sem, *]) rfl ?_
        exact ⟨rfl, by first | exact HB2.out | exact (HB2.out.setCell (by first | (simp; done) | (simp; omega)) _).setCell (by first | (simp; done) | (simp; omega)) _⟩
      · have HVV : Hid (hrV f r zs fs = if (fs.all (fun x => inB x 0 3)) = true then hRun zs fs (f, r) else (false, 0)) := by show _ = _; rw [HV.out, h1, h2, decide_eq_true h30]; simp
        go_enter Try.func23, Try.ntmps23
        go_wp2_with fail
        refine (hv_is h1 _).mono ?_
        rintro e w1 ⟨rfl, hb1⟩
        have hT1 : Below w.heap.size w w1 := Below.andThen (by go_grown) hb1
        have hS1 := hT1.size
        have HB1 : Hid (Below w.heap.size w w1) := hT1
        have qa : Hid (Blk w1 (w.heap.size) 26 #[.bool f, .int .i64 r]) := Blk.below (w' := w1) (by first | ((repeat' (first | (refine Blk.at_ _ _ _ ?_; first | rfl | (simp; done)) | refine Blk.alloc ?_ _ | refine Blk.drewN ?_ _ | assumption)); done) | (refine Blk.drew ?_; (repeat' (first | (refine Blk.at_ _ _ _ ?_; first | rfl | (simp; done)) | refine Blk.alloc ?_ _ | refine Blk.drewN ?_ _ | assumption)); done)) (Nat.le_refl _) hb1
        have qr : Hid (Blk w1 (w.heap.size + 1) 26 #[.bool false, .int .i64 0]) := Blk.below (w' := w1) (by first | ((repeat' (first | (refine Blk.at_ _ _ _ ?_; first | rfl | (simp; done)) | refine Blk.alloc ?_ _ | refine Blk.drewN ?_ _ | assumption)); done) | (refine Blk.drew ?_; (repeat' (first | (refine Blk.at_ _ _ _ ?_; first | rfl | (simp; done)) | refine Blk.alloc ?_ _ | refine Blk.drewN ?_ _ | assumption)); done)) (Nat.le_refl _) hb1
        have hSb1 : w.heap.size + 1 + 1 ≤ w1.heap.size := (by have := hb1.size; simpa using this)
        have ka_0 := qa.out.cell 0 rfl
        have ka_1 := qa.out.cell 1 rfl
        have fa_0 := qa.out.frozen 0
        have fa_1 := qa.out.frozen 1
        have la := qa.out.lt
        have kr_0 := qr.out.cell 0 rfl
        have kr_1 := qr.out.cell 1 rfl
        have fr_0 := qr.out.frozen 0
        have fr_1 := qr.out.frozen 1
        have lr := qr.out.lt
        clear hb1 hT1
        go_wp2_with fail
        refine (ht_is h2 _ hm (HR.out.below (Nat.le_refl _) (by first | exact HB1.out | go_grown | exact Below.andThen HB1.out (by go_grown)))).mono ?_
        rintro e w2 ⟨rfl, hb2⟩
        clear la ka_0 ka_1 fa_0 fa_1 lr kr_0 kr_1 fr_0 fr_1
        have hT2 : Below w1.heap.size w1 w2 := Below.andThen (by go_grown) hb2
        have hS2 := hT2.size
        have HB2 : Hid (Below w.heap.size w w2) := Below.andThen HB1.out hT2
        have qa := Lib.hid (qa.out.below (Nat.le_refl _) hT2)
        have qr := Lib.hid (qr.out.below (Nat.le_refl _) hT2)
        have ka_0 := qa.out.cell 0 rfl
        have ka_1 := qa.out.cell 1 rfl
        have fa_0 := qa.out.frozen 0
        have fa_1 := qa.out.frozen 1
        have la := qa.out.lt
        have kr_0 := qr.out.cell 0 rfl
        have kr_1 := qr.out.cell 1 rfl
        have fr_0 := qr.out.frozen 0
        have fr_1 := qr.out.frozen 1
        have lr := qr.out.lt
        clear hb2 hT2
        go_wp2
        go_loopw [7] (fun i wr => ∃ (k : Nat) (f' : Bool) (r' : Int), k ≤ m ∧ i = .int .i64 k ∧ Hid ((f', r') = hRun zs (fs.take k) (f, r)) ∧ healthValid f' r' = true ∧ Hid (∀ y ∈ fs.take k, inB y 0 3 = true) ∧ Hid (Blk wr w.heap.size 26 #[.bool f', .int .i64 r']) ∧ Hid (Blk wr (w.heap.size + 1) 26 #[.bool false, .int .i64 0]) ∧ Hid (Below w.heap.size w wr)) (fun i _ => m - (intOf i).toNat)
        case atStart => exact ⟨0, f, r, Nat.zero_le _, rfl, rfl, h1, by show ∀ y ∈ fs.take 0, _; simp, qa, qr, HB2⟩
        case round =>
          obtain ⟨k, f', r', hk, rfl, HH, hv', HA, HQ, HQ6, HB⟩ := hrel
          clear ka_0 ka_1 fa_0 fa_1 la kr_0 kr_1 fr_0 fr_1 lr qa qr
          have ka_0 := HQ.out.cell 0 rfl
          have ka_1 := HQ.out.cell 1 rfl
          have fa_0 := HQ.out.frozen 0
          have fa_1 := HQ.out.frozen 1
          have la := HQ.out.lt
          have kr_0 := HQ6.out.cell 0 rfl
          have kr_1 := HQ6.out.cell 1 rfl
          have fr_0 := HQ6.out.frozen 0
          have fr_1 := HQ6.out.frozen 1
          have lr := HQ6.out.lt
          have hs := HB.out.size
          by_cases hlt : k < m
          · obtain ⟨b, o, x, rfl, hbl, hx, hc⟩ := HS.out.int_ hlt
            have hc1 := (HB.out.cell (p := ⟨b, o + k, none⟩) hbl).trans hc
            have HX := Lib.hid hx
            have HC := Lib.hid hc
            have hk0 : (0 : Int) ≤ (k : Int) := by omega
            have hk1 : (k : Int) < (m : Int) := by omega
            clear hx hc
            cases hin : inB x 0 3
            · go_wp2_with fail
              refine (l1In_is2 hin _).mono ?_
              rintro e _ ⟨rfl, rfl⟩
              go_wp2
              refine bodyPost_ret (v := .agg #[.bool false, .int .i64 0]) (by simp [results, Try.results23, go_sem, *]) rfl ?_
              refine ⟨?_, by first | exact HB.out | exact (HB.out.setCell (by first | (simp; done) | (simp; omega)) _).setCell (by first | (simp; done) | (simp; omega)) _⟩
              have h9 : fs.all (fun x => inB x 0 3) = false := by rw [List.all_eq_false]; exact ⟨x, List.mem_of_getElem? HX.out, by simp [hin]⟩
              rw [HVV.out, h9]
              rfl
            · obtain ⟨F', hF⟩ : ∃ F', F' = stepF f' (actOf zs x) x r' := ⟨_, rfl⟩
              obtain ⟨R', hR⟩ : ∃ R', R' = stepR f' (actOf zs x) x r' := ⟨_, rfl⟩
              obtain ⟨T', hT⟩ : ∃ T', T' = stepA f' (actOf zs x) x r' := ⟨_, rfl⟩
              have hv2 : healthValid F' R' = true := by rw [hF, hR]; exact hStep_ok (h := (f', r')) hv' h2 hin
              have HF' := Lib.hid hF
              have HR' := Lib.hid hR
              have HT' := Lib.hid hT
              have HIN := Lib.hid hin
              clear hF hR hT
              go_wp2_with fail
              refine (l1In_is2 hin _).mono ?_
              rintro e _ ⟨rfl, rfl⟩
              go_wp2
              go_region_held3 (fun w' => w'.cell? ⟨w.heap.size, 0, none⟩ = some (.bool f') ∧ w'.cell? ⟨w.heap.size, 1, none⟩ = some (.int .i64 r') ∧ w'.cell? ⟨b, o + k, none⟩ = some (.int .i64 x)) (refine ⟨?_, ?_, ?_⟩ <;> (repeat' (first | exact k0 | exact k1 | exact k2 | exact ka_0 | exact ka_1 | exact hc1 | refine keepA ?_ _ | refine keepS ?_ (by simp; omega) _))) ((go_at_call 20; refine (sHealthStep_yes f' r' A n c zs x _ hm (by first | exact (HR.out.below (Nat.le_refl _) HB.out).drew | exact (HR.out.below (Nat.le_refl _) HB.out).drew.alloc _) hv' h2 hin).mono ?_; rw [← HF'.out, ← HR'.out, ← HT'.out]; rintro e w5 ⟨rfl, hb5⟩; have hs2 : wr.heap.size ≤ w5.heap.size := (by have := hb5.size; simp at this; omega); have q8 : Hid (Blk w5 w.heap.size 26 #[.bool f', .int .i64 r']) := Blk.below (w' := w5) (by first | exact HQ.out | exact HQ.out.alloc _) (Nat.le_refl _) hb5; have q9 : Hid (Blk w5 (w.heap.size + 1) 26 #[.bool false, .int .i64 0]) := Blk.below (w' := w5) (by first | exact HQ6.out | exact HQ6.out.alloc _) (Nat.le_refl _) hb5; have HB5 : Hid (Below w.heap.size w w5) := Below.andThen HB.out (Below.andThen (w := wr) (by go_grown) hb5); (try (have qx : Hid (Blk w5 wr.heap.size 26 #[.bool false, .int .i64 0]) := Blk.below (w' := w5) (by exact Blk.at_ _ _ _ rfl) (Nat.le_refl _) hb5; have kx_0 := qx.out.cell 0 rfl; have kx_1 := qx.out.cell 1 rfl; have fx_0 := qx.out.frozen 0; have fx_1 := qx.out.frozen 1; have lx := qx.out.lt)); have k0 := q8.out.cell 0 rfl; have k1 := q8.out.cell 1 rfl; have g0 := q8.out.frozen 0; have g1 := q8.out.frozen 1; have l0 := q8.out.lt; have k2 := (HB5.out.cell (p := ⟨b, o + k, none⟩) hbl).trans HC.out; clear hb5))
              · go_wp2
                go_roundw
                case rel =>
                  refine ⟨k + 1, F', R', by omega, by go_num, ?_, hv2, all_snocP HX.out HA.out HIN.out, ?_, ?_, ?_⟩
                  · show (F', R') = _
                    rw [take_snoc HX.out, hRun_snoc, ← HH.out, HF'.out, HR'.out]; rfl
                  · exact ((q8.out.set_ 0 _).set_ 1 _).alloc _
                  · exact (Blk.far (Blk.far (q9.out) (by simp) _) (by simp) _).alloc _
                  · exact ((HB5.out.setCell (by simp) _).setCell (by simp) _).alloc (by simp; omega) _
                case measure => simp [intOf]; omega
              · go_wp2
                go_roundw
                case rel =>
                  refine ⟨k + 1, F', R', by omega, by go_num, ?_, hv2, all_snocP HX.out HA.out HIN.out, ?_, ?_, ?_⟩
                  · show (F', R') = _
                    rw [take_snoc HX.out, hRun_snoc, ← HH.out, HF'.out, HR'.out]; rfl
                  · exact ((Blk.far (Blk.far (q8.out) (by simp; omega) _) (by simp; omega) _).set_ 0 _).set_ 1 _
                  · exact Blk.far (Blk.far (Blk.far (Blk.far (q9.out) (by simp; omega) _) (by simp; omega) _) (by simp) _) (by simp) _
                  · exact (((HB5.out.setCell (by simp; omega) _).setCell (by simp; omega) _).setCell (by simp) _).setCell (by simp) _
                case measure => simp [intOf]; omega
          · have hkm : k = m := by omega
            have e1 : fs.take k = fs := by rw [hkm, ← hlf.out, List.take_length]
            have h8 := HH.out
            have h9 := HA.out
            rw [e1] at h8 h9
            have h9' : fs.all (fun x => inB x 0 3) = true := List.all_eq_true.2 h9
            have HRES : Hid (hrV f r zs fs = (f', r')) := by show _ = _; rw [HVV.out, h9', h8]; rfl
            clear e1 h8 h9 h9'
            go_wp2
            refine bodyPost_ret (v := .agg #[.bool f', .int .i64 r']) (by simp [results, Try.results23, go_sem, *]) rfl ?_
            exact ⟨by rw [HRES.out], (HB.out.setCell (by first | (simp; done) | (simp; omega)) _).setCell (by first | (simp; done) | (simp; omega)) _⟩
  · have hI : (30 : Int) < (m : Int) := by omega
    rw [show hrV f r zs fs = (false, 0) by rw [HV.out, decide_eq_false h30]; simp]
    go_enter Try.func23, Try.ntmps23
    go_wp2
    refine bodyPost_ret (v := .agg #[.bool false, .int .i64 0]) (by simp [results, Try.results23, go_sem, *]) rfl ?_
    exact ⟨rfl, by first | exact (by go_grown) | exact ((by go_grown).setCell (by first | (simp; done) | (simp; omega)) _).setCell (by first | (simp; done) | (simp; omega)) _⟩
set_option maxRecDepth 100000 in
set_option maxHeartbeats 400000 in
theorem healthRun1_any (w : World) : Pred Try.prog 68 #[] (Value.int .i64) (fun z => !inB z 0 3) w := by
  intro x W hb
  go_enter Try.func68, Try.ntmps68
  go_wp2_with (go_at_call 65; refine (isFault_any _ _).mono ?_; rintro e w1 ⟨rfl, rfl⟩)
  go_ret
  exact ⟨rfl, by go_grown⟩
theorem faults_is {A : Option Addr} {n c : Nat} {zs : List Int} {b : Bool} (h : (zs.any fun z => !inB z 0 3) = b) (w : World) (hm : n ≤ 1048577) (hr : Rd w 1 A n (ints zs)) :
    Calls Try.prog 67 #[.slice A n c, .func (.func 68) #[] #[]] w fun e w' => e = .returned (.bool b) ∧ Below w.heap.size w w' :=
  h ▸ ContainsFuncI_any 68 #[] (fun z => !inB z 0 3) A n c zs w hm hr (healthRun1_any w) (enters_of Try.func68 (by kernel_rfl) rfl)
set_option maxRecDepth 100000 in
set_option maxHeartbeats 4000000 in
theorem iHealthRun_any (f : Bool) (r : Int) (A : Option Addr) (n c : Nat) (zs : List Int) (B : Option Addr) (m d : Nat) (fs : List Int) (w : World) (hm : n ≤ 1048577) (hr : Rd w 1 A n (ints zs)) (hm2 : m ≤ 1048577) (hs : Rd w 1 B m (ints fs)) :
    Calls Try.prog 24 #[.agg #[.bool f, .int .i64 r], .slice A n c, .slice B m d] w fun e w' => e = .returned (.agg #[.bool (hrV f r zs fs).1, .int .i64 (hrV f r zs fs).2]) ∧ Below w.heap.size w w' := by
  have HR := Lib.hid hr
  have HS := Lib.hid hs
  have hlz := Lib.hid hr.len
  have hlf := Lib.hid hs.len
  clear hr hs
  have HV : Hid (hrV f r zs fs = if ((healthValid f r && tableOk zs) && (decide (m ≤ 30) && fs.all (fun x => inB x 0 3))) = true then hRun zs fs (f, r) else (false, 0)) := by show _ = _; unfold hrV hrB faultsB; rw [hlf.out]
  cases h1 : healthValid f r
  · skip
    rw [show hrV f r zs fs = (false, 0) by rw [HV.out, h1]; simp]
    go_enter Try.func24, Try.ntmps24
    go_wp2_with fail
    refine (hvi_is h1 _).mono ?_
    rintro e w1 ⟨rfl, hb1⟩
    have hT1 : Below w.heap.size w w1 := Below.andThen (by go_grown) hb1
    have hS1 := hT1.size
    have HB1 : Hid (Below w.heap.size w w1) := hT1
    have qa : Hid (Blk w1 (w.heap.size) 26 #[.bool f, .int .i64 r]) := Blk.below (w' := w1) (by first | ((repeat' (first | (refine Blk.at_ _ _ _ ?_; first | rfl | (simp; done)) | refine Blk.alloc ?_ _ | refine Blk.drewN ?_ _ | assumption)); done) | (refine Blk.drew ?_; (repeat' (first | (refine Blk.at_ _ _ _ ?_; first | rfl | (simp; done)) | refine Blk.alloc ?_ _ | refine Blk.drewN ?_ _ | assumption)); done)) (Nat.le_refl _) hb1
    have qr : Hid (Blk w1 (w.heap.size + 1) 26 #[.bool false, .int .i64 0]) := Blk.below (w' := w1) (by first | ((repeat' (first | (refine Blk.at_ _ _ _ ?_; first | rfl | (simp; done)) | refine Blk.alloc ?_ _ | refine Blk.drewN ?_ _ | assumption)); done) | (refine Blk.drew ?_; (repeat' (first | (refine Blk.at_ _ _ _ ?_; first | rfl | (simp; done)) | refine Blk.alloc ?_ _ | refine Blk.drewN ?_ _ | assumption)); done)) (Nat.le_refl _) hb1
    have hSb1 : w.heap.size + 1 + 1 ≤ w1.heap.size := (by have := hb1.size; simpa using this)
    have ka_0 := qa.out.cell 0 rfl
    have ka_1 := qa.out.cell 1 rfl
    have fa_0 := qa.out.frozen 0
    have fa_1 := qa.out.frozen 1
    have la := qa.out.lt
    have kr_0 := qr.out.cell 0 rfl
    have kr_1 := qr.out.cell 1 rfl
    have fr_0 := qr.out.frozen 0
    have fr_1 := qr.out.frozen 1
    have lr := qr.out.lt
    clear hb1 hT1
    go_wp2
    refine bodyPost_ret (v := .agg #[.bool false, .int .i64 0]) (by simp [results, Try.results24, go_sem, *]) rfl ?_
    exact ⟨rfl, by first | exact HB1.out | exact (HB1.out.setCell (by first | (simp; done) | (simp; omega)) _).setCell (by first | (simp; done) | (simp; omega)) _⟩
  · cases h2 : tableOk zs
    · skip
      rw [show hrV f r zs fs = (false, 0) by rw [HV.out, h1, h2]; simp]
      go_enter Try.func24, Try.ntmps24
      go_wp2_with fail
      refine (hvi_is h1 _).mono ?_
      rintro e w1 ⟨rfl, hb1⟩
      have hT1 : Below w.heap.size w w1 := Below.andThen (by go_grown) hb1
      have hS1 := hT1.size
      have HB1 : Hid (Below w.heap.size w w1) := hT1
      have qa : Hid (Blk w1 (w.heap.size) 26 #[.bool f, .int .i64 r]) := Blk.below (w' := w1) (by first | ((repeat' (first | (refine Blk.at_ _ _ _ ?_; first | rfl | (simp; done)) | refine Blk.alloc ?_ _ | refine Blk.drewN ?_ _ | assumption)); done) | (refine Blk.drew ?_; (repeat' (first | (refine Blk.at_ _ _ _ ?_; first | rfl | (simp; done)) | refine Blk.alloc ?_ _ | refine Blk.drewN ?_ _ | assumption)); done)) (Nat.le_refl _) hb1
      have qr : Hid (Blk w1 (w.heap.size + 1) 26 #[.bool false, .int .i64 0]) := Blk.below (w' := w1) (by first | ((repeat' (first | (refine Blk.at_ _ _ _ ?_; first | rfl | (simp; done)) | refine Blk.alloc ?_ _ | refine Blk.drewN ?_ _ | assumption)); done) | (refine Blk.drew ?_; (repeat' (first | (refine Blk.at_ _ _ _ ?_; first | rfl | (simp; done)) | refine Blk.alloc ?_ _ | refine Blk.drewN ?_ _ | assumption)); done)) (Nat.le_refl _) hb1
      have hSb1 : w.heap.size + 1 + 1 ≤ w1.heap.size := (by have := hb1.size; simpa using this)
      have ka_0 := qa.out.cell 0 rfl
      have ka_1 := qa.out.cell 1 rfl
      have fa_0 := qa.out.frozen 0
      have fa_1 := qa.out.frozen 1
      have la := qa.out.lt
      have kr_0 := qr.out.cell 0 rfl
      have kr_1 := qr.out.cell 1 rfl
      have fr_0 := qr.out.frozen 0
      have fr_1 := qr.out.frozen 1
      have lr := qr.out.lt
      clear hb1 hT1
      go_wp2_with fail
      refine (hti_is h2 _ hm (HR.out.below (Nat.le_refl _) (by first | exact HB1.out | go_grown | exact Below.andThen HB1.out (by go_grown)))).mono ?_
      rintro e w2 ⟨rfl, hb2⟩
      clear la ka_0 ka_1 fa_0 fa_1 lr kr_0 kr_1 fr_0 fr_1
      have hT2 : Below w1.heap.size w1 w2 := Below.andThen (by go_grown) hb2
      have hS2 := hT2.size
      have HB2 : Hid (Below w.heap.size w w2) := Below.andThen HB1.out hT2
      have qa := Lib.hid (qa.out.below (Nat.le_refl _) hT2)
      have qr := Lib.hid (qr.out.below (Nat.le_refl _) hT2)
      have ka_0 := qa.out.cell 0 rfl
      have ka_1 := qa.out.cell 1 rfl
      have fa_0 := qa.out.frozen 0
      have fa_1 := qa.out.frozen 1
      have la := qa.out.lt
      have kr_0 := qr.out.cell 0 rfl
      have kr_1 := qr.out.cell 1 rfl
      have fr_0 := qr.out.frozen 0
      have fr_1 := qr.out.frozen 1
      have lr := qr.out.lt
      clear hb2 hT2
      go_wp2
      refine bodyPost_ret (v := .agg #[.bool false, .int .i64 0]) (by simp [results, Try.results24, go_sem, *]) rfl ?_
      exact ⟨rfl, by first | exact HB2.out | exact (HB2.out.setCell (by first | (simp; done) | (simp; omega)) _).setCell (by first | (simp; done) | (simp; omega)) _⟩
    · by_cases h30 : m ≤ 30
      · have hI : ¬ (30 : Int) < (m : Int) := by omega
        have hall : fs.all (fun x => inB x 0 3) = !(fs.any fun z => !inB z 0 3) := List.all_eq_not_any_not
        cases h3 : (fs.any fun z => !inB z 0 3)
        · rw [h3] at hall
          have HH0 : Hid (hrV f r zs fs = hRun zs fs (f, r)) := by show _ = _; rw [HV.out, h1, h2, decide_eq_true h30, hall]; rfl
          have HALL : Hid (∀ (k : Nat) (x : Int), fs[k]? = some x → inB x 0 3 = true) := fun k x hx => List.all_eq_true.1 hall x (List.mem_of_getElem? hx)
          clear hall
          go_enter Try.func24, Try.ntmps24
          go_wp2_with fail
          refine (hvi_is h1 _).mono ?_
          rintro e w1 ⟨rfl, hb1⟩
          have hT1 : Below w.heap.size w w1 := Below.andThen (by go_grown) hb1
          have hS1 := hT1.size
          have HB1 : Hid (Below w.heap.size w w1) := hT1
          have qa : Hid (Blk w1 (w.heap.size) 26 #[.bool f, .int .i64 r]) := Blk.below (w' := w1) (by first | ((repeat' (first | (refine Blk.at_ _ _ _ ?_; first | rfl | (simp; done)) | refine Blk.alloc ?_ _ | refine Blk.drewN ?_ _ | assumption)); done) | (refine Blk.drew ?_; (repeat' (first | (refine Blk.at_ _ _ _ ?_; first | rfl | (simp; done)) | refine Blk.alloc ?_ _ | refine Blk.drewN ?_ _ | assumption)); done)) (Nat.le_refl _) hb1
          have qr : Hid (Blk w1 (w.heap.size + 1) 26 #[.bool false, .int .i64 0]) := Blk.below (w' := w1) (by first | ((repeat' (first | (refine Blk.at_ _ _ _ ?_; first | rfl | (simp; done)) | refine Blk.alloc ?_ _ | refine Blk.drewN ?_ _ | assumption)); done) | (refine Blk.drew ?_; (repeat' (first | (refine Blk.at_ _ _ _ ?_; first | rfl | (simp; done)) | refine Blk.alloc ?_ _ | refine Blk.drewN ?_ _ | assumption)); done)) (Nat.le_refl _) hb1
          have hSb1 : w.heap.size + 1 + 1 ≤ w1.heap.size := (by have := hb1.size; simpa using this)
          have ka_0 := qa.out.cell 0 rfl
          have ka_1 := qa.out.cell 1 rfl
          have fa_0 := qa.out.frozen 0
          have fa_1 := qa.out.frozen 1
          have la := qa.out.lt
          have kr_0 := qr.out.cell 0 rfl
          have kr_1 := qr.out.cell 1 rfl
          have fr_0 := qr.out.frozen 0
          have fr_1 := qr.out.frozen 1
          have lr := qr.out.lt
          clear hb1 hT1
          go_wp2_with fail
          refine (hti_is h2 _ hm (HR.out.below (Nat.le_refl _) (by first | exact HB1.out | go_grown | exact Below.andThen HB1.out (by go_grown)))).mono ?_
          rintro e w2 ⟨rfl, hb2⟩
          clear la ka_0 ka_1 fa_0 fa_1 lr kr_0 kr_1 fr_0 fr_1
          have hT2 : Below w1.heap.size w1 w2 := Below.andThen (by go_grown) hb2
          have hS2 := hT2.size
          have HB2 : Hid (Below w.heap.size w w2) := Below.andThen HB1.out hT2
          have qa := Lib.hid (qa.out.below (Nat.le_refl _) hT2)
          have qr := Lib.hid (qr.out.below (Nat.le_refl _) hT2)
          have ka_0 := qa.out.cell 0 rfl
          have ka_1 := qa.out.cell 1 rfl
          have fa_0 := qa.out.frozen 0
          have fa_1 := qa.out.frozen 1
          have la := qa.out.lt
          have kr_0 := qr.out.cell 0 rfl
          have kr_1 := qr.out.cell 1 rfl
          have fr_0 := qr.out.frozen 0
          have fr_1 := qr.out.frozen 1
          have lr := qr.out.lt
          clear hb2 hT2
          go_wp2_with fail
          refine (faults_is h3 _ hm2 (HS.out.below (Nat.le_refl _) (by first | exact HB2.out | go_grown | exact Below.andThen HB2.out (by go_grown)))).mono ?_
          rintro e w3 ⟨rfl, hb3⟩
          clear la ka_0 ka_1 fa_0 fa_1 lr kr_0 kr_1 fr_0 fr_1
          have hT3 : Below w2.heap.size w2 w3 := Below.andThen (by go_grown) hb3
          have hS3 := hT3.size
          have HB3 : Hid (Below w.heap.size w w3) := Below.andThen HB2.out hT3
          have qa := Lib.hid (qa.out.below (Nat.le_refl _) hT3)
          have qr := Lib.hid (qr.out.below (Nat.le_refl _) hT3)
          have ka_0 := qa.out.cell 0 rfl
          have ka_1 := qa.out.cell 1 rfl
          have fa_0 := qa.out.frozen 0
          have fa_1 := qa.out.frozen 1
          have la := qa.out.lt
          have kr_0 := qr.out.cell 0 rfl
          have kr_1 := qr.out.cell 1 rfl
          have fr_0 := qr.out.frozen 0
          have fr_1 := qr.out.frozen 1
          have lr := qr.out.lt
          clear hb3 hT3
          go_wp2
          go_loopw [29] (fun i wr => ∃ (k : Nat) (f' : Bool) (r' : Int), k ≤ m ∧ i = .int .i64 k ∧ Hid ((f', r') = hRun zs (fs.take k) (f, r)) ∧ healthValid f' r' = true ∧ Hid (Blk wr w.heap.size 26 #[.bool f', .int .i64 r']) ∧ Hid (Blk wr (w.heap.size + 1) 26 #[.bool false, .int .i64 0]) ∧ Hid (Below w.heap.size w wr)) (fun i _ => m - (intOf i).toNat)
          case atStart => exact ⟨0, f, r, Nat.zero_le _, rfl, rfl, h1, qa, qr, HB3⟩
          case round =>
            obtain ⟨k, f', r', hk, rfl, HH, hv', HQ, HQ6, HB⟩ := hrel
            clear ka_0 ka_1 fa_0 fa_1 la kr_0 kr_1 fr_0 fr_1 lr qa qr
            have ka_0 := HQ.out.cell 0 rfl
            have ka_1 := HQ.out.cell 1 rfl
            have fa_0 := HQ.out.frozen 0
            have fa_1 := HQ.out.frozen 1
            have la := HQ.out.lt
            have kr_0 := HQ6.out.cell 0 rfl
            have kr_1 := HQ6.out.cell 1 rfl
            have fr_0 := HQ6.out.frozen 0
            have fr_1 := HQ6.out.frozen 1
            have lr := HQ6.out.lt
            have hs := HB.out.size
            by_cases hlt : k < m
            · obtain ⟨b, o, x, rfl, hbl, hx, hc⟩ := HS.out.int_ hlt
              have hc1 := (HB.out.cell (p := ⟨b, o + k, none⟩) hbl).trans hc
              have hin := HALL.out k x hx
              have HX := Lib.hid hx
              obtain ⟨F', hF⟩ : ∃ F', F' = stepF f' (actOf zs x) x r' := ⟨_, rfl⟩
              obtain ⟨R', hR⟩ : ∃ R', R' = stepR f' (actOf zs x) x r' := ⟨_, rfl⟩
              obtain ⟨T', hT⟩ : ∃ T', T' = stepA f' (actOf zs x) x r' := ⟨_, rfl⟩
              have hv2 : healthValid F' R' = true := by rw [hF, hR]; exact hStep_ok (h := (f', r')) hv' h2 hin
              have HF' := Lib.hid hF
              have HR' := Lib.hid hR
              have HT' := Lib.hid hT
              clear hF hR hT hx hc
              go_wp2_with fail
              refine (after_any f' r' A n c zs x _ (HR.out.below (Nat.le_refl _) HB.out) hv' h2 hin).mono ?_
              rw [← HF'.out, ← HR'.out, ← HT'.out]
              rintro e w5 ⟨rfl, hb5⟩
              have q8 : Hid (Blk w5 w.heap.size 26 #[.bool f', .int .i64 r']) := Blk.below (w' := w5) HQ.out (Nat.le_refl _) hb5
              have q9 : Hid (Blk w5 (w.heap.size + 1) 26 #[.bool false, .int .i64 0]) := Blk.below (w' := w5) HQ6.out (Nat.le_refl _) hb5
              have HB5 : Hid (Below w.heap.size w w5) := Below.andThen HB.out hb5
              clear ka_0 ka_1 fa_0 fa_1 la kr_0 kr_1 fr_0 fr_1 lr hb5
              have ka_0 := q8.out.cell 0 rfl
              have ka_1 := q8.out.cell 1 rfl
              have fa_0 := q8.out.frozen 0
              have fa_1 := q8.out.frozen 1
              have la := q8.out.lt
              go_wp2
              go_roundw
              case rel =>
                refine ⟨k + 1, F', R', by omega, by go_num, ?_, hv2, (q8.out.set_ 0 _).set_ 1 _, Blk.far (Blk.far q9.out (by simp) _) (by simp) _, (HB5.out.setCell (by simp) _).setCell (by simp) _⟩
                show (F', R') = _
                rw [take_snoc HX.out, hRun_snoc, ← HH.out, HF'.out, HR'.out]; rfl
              case measure => simp [intOf]; omega
            · have hkm : k = m := by omega
              have e1 : fs.take k = fs := by rw [hkm, ← hlf.out, List.take_length]
              have h8 := HH.out
              rw [e1] at h8
              have HRES : Hid (hrV f r zs fs = (f', r')) := by show _ = _; rw [HH0.out, h8]
              clear e1 h8
              go_wp2
              refine bodyPost_ret (v := .agg #[.bool f', .int .i64 r']) (by simp [results, Try.results24, go_sem, *]) rfl ?_
              exact ⟨by rw [HRES.out], (HB.out.setCell (by first | (simp; done) | (simp; omega)) _).setCell (by first | (simp; done) | (simp; omega)) _⟩
        · rw [h3] at hall
          rw [show hrV f r zs fs = (false, 0) by rw [HV.out, hall]; simp]
          clear hall
          go_enter Try.func24, Try.ntmps24
          go_wp2_with fail
          refine (hvi_is h1 _).mono ?_
          rintro e w1 ⟨rfl, hb1⟩
          have hT1 : Below w.heap.size w w1 := Below.andThen (by go_grown) hb1
          have hS1 := hT1.size
          have HB1 : Hid (Below w.heap.size w w1) := hT1
          have qa : Hid (Blk w1 (w.heap.size) 26 #[.bool f, .int .i64 r]) := Blk.below (w' := w1) (by first | ((repeat' (first | (refine Blk.at_ _ _ _ ?_; first | rfl | (simp; done)) | refine Blk.alloc ?_ _ | refine Blk.drewN ?_ _ | assumption)); done) | (refine Blk.drew ?_; (repeat' (first | (refine Blk.at_ _ _ _ ?_; first | rfl | (simp; done)) | refine Blk.alloc ?_ _ | refine Blk.drewN ?_ _ | assumption)); done)) (Nat.le_refl _) hb1
          have qr : Hid (Blk w1 (w.heap.size + 1) 26 #[.bool false, .int .i64 0]) := Blk.below (w' := w1) (by first | ((repeat' (first | (refine Blk.at_ _ _ _ ?_; first | rfl | (simp; done)) | refine Blk.alloc ?_ _ | refine Blk.drewN ?_ _ | assumption)); done) | (refine Blk.drew ?_; (repeat' (first | (refine Blk.at_ _ _ _ ?_; first | rfl | (simp; done)) | refine Blk.alloc ?_ _ | refine Blk.drewN ?_ _ | assumption)); done)) (Nat.le_refl _) hb1
          have hSb1 : w.heap.size + 1 + 1 ≤ w1.heap.size := (by have := hb1.size; simpa using this)
          have ka_0 := qa.out.cell 0 rfl
          have ka_1 := qa.out.cell 1 rfl
          have fa_0 := qa.out.frozen 0
          have fa_1 := qa.out.frozen 1
          have la := qa.out.lt
          have kr_0 := qr.out.cell 0 rfl
          have kr_1 := qr.out.cell 1 rfl
          have fr_0 := qr.out.frozen 0
          have fr_1 := qr.out.frozen 1
          have lr := qr.out.lt
          clear hb1 hT1
          go_wp2_with fail
          refine (hti_is h2 _ hm (HR.out.below (Nat.le_refl _) (by first | exact HB1.out | go_grown | exact Below.andThen HB1.out (by go_grown)))).mono ?_
          rintro e w2 ⟨rfl, hb2⟩
          clear la ka_0 ka_1 fa_0 fa_1 lr kr_0 kr_1 fr_0 fr_1
          have hT2 : Below w1.heap.size w1 w2 := Below.andThen (by go_grown) hb2
          have hS2 := hT2.size
          have HB2 : Hid (Below w.heap.size w w2) := Below.andThen HB1.out hT2
          have qa := Lib.hid (qa.out.below (Nat.le_refl _) hT2)
          have qr := Lib.hid (qr.out.below (Nat.le_refl _) hT2)
          have ka_0 := qa.out.cell 0 rfl
          have ka_1 := qa.out.cell 1 rfl
          have fa_0 := qa.out.frozen 0
          have fa_1 := qa.out.frozen 1
          have la := qa.out.lt
          have kr_0 := qr.out.cell 0 rfl
          have kr_1 := qr.out.cell 1 rfl
          have fr_0 := qr.out.frozen 0
          have fr_1 := qr.out.frozen 1
          have lr := qr.out.lt
          clear hb2 hT2
          go_wp2_with fail
          refine (faults_is h3 _ hm2 (HS.out.below (Nat.le_refl _) (by first | exact HB2.out | go_grown | exact Below.andThen HB2.out (by go_grown)))).mono ?_
          rintro e w3 ⟨rfl, hb3⟩
          clear la ka_0 ka_1 fa_0 fa_1 lr kr_0 kr_1 fr_0 fr_1
          have hT3 : Below w2.heap.size w2 w3 := Below.andThen (by go_grown) hb3
          have hS3 := hT3.size
          have HB3 : Hid (Below w.heap.size w w3) := Below.andThen HB2.out hT3
          have qa := Lib.hid (qa.out.below (Nat.le_refl _) hT3)
          have qr := Lib.hid (qr.out.below (Nat.le_refl _) hT3)
          have ka_0 := qa.out.cell 0 rfl
          have ka_1 := qa.out.cell 1 rfl
          have fa_0 := qa.out.frozen 0
          have fa_1 := qa.out.frozen 1
          have la := qa.out.lt
          have kr_0 := qr.out.cell 0 rfl
          have kr_1 := qr.out.cell 1 rfl
          have fr_0 := qr.out.frozen 0
          have fr_1 := qr.out.frozen 1
          have lr := qr.out.lt
          clear hb3 hT3
          go_wp2
          refine bodyPost_ret (v := .agg #[.bool false, .int .i64 0]) (by simp [results, Try.results24, go_sem, *]) rfl ?_
          exact ⟨rfl, by first | exact HB3.out | exact (HB3.out.setCell (by first | (simp; done) | (simp; omega)) _).setCell (by first | (simp; done) | (simp; omega)) _⟩
      · have hI : (30 : Int) < (m : Int) := by omega
        rw [show hrV f r zs fs = (false, 0) by rw [HV.out, decide_eq_false h30]; simp]
        go_enter Try.func24, Try.ntmps24
        go_wp2_with fail
        refine (hvi_is h1 _).mono ?_
        rintro e w1 ⟨rfl, hb1⟩
        have hT1 : Below w.heap.size w w1 := Below.andThen (by go_grown) hb1
        have hS1 := hT1.size
        have HB1 : Hid (Below w.heap.size w w1) := hT1
        have qa : Hid (Blk w1 (w.heap.size) 26 #[.bool f, .int .i64 r]) := Blk.below (w' := w1) (by first | ((repeat' (first | (refine Blk.at_ _ _ _ ?_; first | rfl | (simp; done)) | refine Blk.alloc ?_ _ | refine Blk.drewN ?_ _ | assumption)); done) | (refine Blk.drew ?_; (repeat' (first | (refine Blk.at_ _ _ _ ?_; first | rfl | (simp; done)) | refine Blk.alloc ?_ _ | refine Blk.drewN ?_ _ | assumption)); done)) (Nat.le_refl _) hb1
        have qr : Hid (Blk w1 (w.heap.size + 1) 26 #[.bool false, .int .i64 0]) := Blk.below (w' := w1) (by first | ((repeat' (first | (refine Blk.at_ _ _ _ ?_; first | rfl | (simp; done)) | refine Blk.alloc ?_ _ | refine Blk.drewN ?_ _ | assumption)); done) | (refine Blk.drew ?_; (repeat' (first | (refine Blk.at_ _ _ _ ?_; first | rfl | (simp; done)) | refine Blk.alloc ?_ _ | refine Blk.drewN ?_ _ | assumption)); done)) (Nat.le_refl _) hb1
        have hSb1 : w.heap.size + 1 + 1 ≤ w1.heap.size := (by have := hb1.size; simpa using this)
        have ka_0 := qa.out.cell 0 rfl
        have ka_1 := qa.out.cell 1 rfl
        have fa_0 := qa.out.frozen 0
        have fa_1 := qa.out.frozen 1
        have la := qa.out.lt
        have kr_0 := qr.out.cell 0 rfl
        have kr_1 := qr.out.cell 1 rfl
        have fr_0 := qr.out.frozen 0
        have fr_1 := qr.out.frozen 1
        have lr := qr.out.lt
        clear hb1 hT1
        go_wp2_with fail
        refine (hti_is h2 _ hm (HR.out.below (Nat.le_refl _) (by first | exact HB1.out | go_grown | exact Below.andThen HB1.out (by go_grown)))).mono ?_
        rintro e w2 ⟨rfl, hb2⟩
        clear la ka_0 ka_1 fa_0 fa_1 lr kr_0 kr_1 fr_0 fr_1
        have hT2 : Below w1.heap.size w1 w2 := Below.andThen (by go_grown) hb2
        have hS2 := hT2.size
        have HB2 : Hid (Below w.heap.size w w2) := Below.andThen HB1.out hT2
        have qa := Lib.hid (qa.out.below (Nat.le_refl _) hT2)
        have qr := Lib.hid (qr.out.below (Nat.le_refl _) hT2)
        have ka_0 := qa.out.cell 0 rfl
        have ka_1 := qa.out.cell 1 rfl
        have fa_0 := qa.out.frozen 0
        have fa_1 := qa.out.frozen 1
        have la := qa.out.lt
        have kr_0 := qr.out.cell 0 rfl
        have kr_1 := qr.out.cell 1 rfl
        have fr_0 := qr.out.frozen 0
        have fr_1 := qr.out.frozen 1
        have lr := qr.out.lt
        clear hb2 hT2
        go_wp2
        refine bodyPost_ret (v := .agg #[.bool false, .int .i64 0]) (by simp [results, Try.results24, go_sem, *]) rfl ?_
        exact ⟨rfl, by first | exact HB2.out | exact (HB2.out.setCell (by first | (simp; done) | (simp; omega)) _).setCell (by first | (simp; done) | (simp; omega)) _⟩
end Go.Proofs.Ytjdhfehffgccmaa
