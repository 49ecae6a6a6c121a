/-
  CONTRACTS of impl.AppendAudit.
  Conditions: none beyond those that each states.
-/
import Derived.Test.YtboejpljjhgflaaAppAud2
import Derived.ArgAppend
namespace Go.Proofs.Ytboejpljjhgflaa
open Go.ChangeShapes Go.WideShapes Go.ChangeAt Go.RowKit Go.Joins
set_option linter.unusedVariables false
theorem below_none {W W' : World} (h : W.grownBy W' none) : Below W.heap.size W W' := ⟨h.os, h.tape, h.output, h.size, fun k hk => h.block k hk (by simp)⟩
theorem rd_holds {w : World} {A : Option Addr} {n : Nat} {xs : List Value} (h : Rd w 1 A n xs) : ∀ b, A = some b → ∀ j u, xs[j]? = some u → w.cell? (b.add j) = some u := by
  intro b hb j u hu
  have hl := h.1
  have hj := (List.getElem?_eq_some_iff.1 hu).1
  obtain ⟨g, o, e, _, hc⟩ := h.2 (by omega)
  obtain rfl := Option.some.inj (hb.symm.trans e)
  have hadd : (⟨g, o, none⟩ : Addr).add j = ⟨g, o + j, none⟩ := by unfold Addr.add; split <;> simp_all
  rw [hadd]; exact hc j u hu
def RetIF (w : World) (zs : List Int) (e : Ending) (w' : World) : Prop := ∃ A, e = .returned (.slice A zs.length zs.length) ∧ Fr w' w.heap.size w'.heap.size 3 1 A zs.length (ints zs) ∧ (A = none → zs.length = 0) ∧ Below w.heap.size w w'
set_option maxRecDepth 100000 in
set_option maxHeartbeats 400000 in
theorem cloneF_any (A : Option Addr) (n c : Nat) (zs : List Int) (w : World) (hn : n ≤ 1048577) (hr : Rd w 1 A n (ints zs)) (hA : A = none → n = 0 ∧ c = 0) :
    Calls Try.prog 28 #[.slice A n c] w (fun e w' => RetIF w zs e w') := by
  have hlz := Lib.hid hr.len
  have HC := Lib.hid (CloneI_any A n c zs w hn hr hA)
  clear hr hA
  go_enter Try.func28, Try.ntmps28
  go_wp2_with (go_at_call 36; refine HC.out.mono ?_; rintro e w1 ⟨v, rfl, ho1, hb1⟩)
  have HB := Lib.hid hb1
  have HO := Lib.hid ho1
  rcases ho1.2 with ⟨rfl, h0⟩ | ⟨g, cap, cur, rfl, hg1, hg2, hg3, hg4, _⟩
  · subst h0
    clear hb1 ho1
    go_wp2_with (go_at_call 35; refine (ClipI_any none 0 0 _ (by omega) (by omega) (by omega) (fun _ => ⟨rfl, rfl⟩)).mono ?_; rintro e w2 ⟨rfl, rfl⟩)
    go_ret
    have e : zs = [] := List.eq_nil_of_length_eq_zero hlz.out
    subst e
    exact ⟨none, rfl, Fr.nil_, fun _ => rfl, HB.out⟩
  · clear hb1 ho1 hg2
    go_wp2_with (go_at_call 35; refine (ClipI_any (some ⟨g, 0, none⟩) n cap _ (by omega) hg3 hg4 (fun h => by cases h)).mono ?_; rintro e w2 ⟨rfl, rfl⟩)
    go_ret
    have h := hlz.out
    subst h
    exact ⟨_, rfl, Fr.of_own HO.out, (fun h => by cases h), HB.out⟩
set_option maxRecDepth 100000 in
set_option maxHeartbeats 16000000 in
theorem iAppendAudit_any (key : Int) (A : Option Addr) (n c : Nat) (zs : List Int) (sum entry : Int) (w : World) (hm : n ≤ 1048576) (hr : Rd w 1 A n (ints zs)) (hA : A = none → n = 0 ∧ c = 0) :
    Calls Try.prog 18 #[.agg #[.int .i64 key, .slice A n c, .int .i64 sum], .int .i64 entry] w (fun e w' => RetAuditB w (appK key zs sum) (appS key zs sum entry) (appL key zs sum entry) (appB key zs sum) e w') := by
  obtain ⟨i0, hi, hz0, hz1, hz2⟩ := info_parts Try.infoInt
  have hlz := Lib.hid hr.len
  have HR := Lib.hid hr
  have hzl : zs.length ≤ 1048576 := by rw [hr.len]; exact hm
  clear hr
  cases h1 : auditOk key zs sum
  · rw [show appK key zs sum = 0 by unfold appK; rw [h1]; rfl, show appS key zs sum entry = 0 by unfold appS; rw [h1]; rfl, show appL key zs sum entry = [] by unfold appL; rw [h1]; rfl, show appB key zs sum = false by unfold appB; rw [h1]; rfl]
    go_enter Try.func18, Try.ntmps18
    go_wp2_with fail
    refine (iAuditValid_is h1 _ (by omega) (HR.out.below (Nat.le_refl _) (by go_grown))).mono ?_
    rintro e0 w1 ⟨rfl, hb1⟩
    have HB1 : Hid (Below w.heap.size w w1) := Below.andThen (w := w) (by go_grown) hb1
    have hs1 := hb1.size
    simp only [World.size_alloc] at hs1
    have qp : Hid (Blk w1 (w.heap.size) 27 #[.int .i64 key, .slice A n c, .int .i64 sum]) := Blk.below (w' := w1) (by repeat' (first | (refine Blk.at_ _ _ _ ?_; first | rfl | (simp; done)) | refine Blk.alloc ?_ _ | assumption)) (Nat.le_refl _) hb1
    have qr : Hid (Blk w1 (w.heap.size + 1) 27 #[.int .i64 0, .slice none 0 0, .int .i64 0]) := Blk.below (w' := w1) (by repeat' (first | (refine Blk.at_ _ _ _ ?_; first | rfl | (simp; done)) | refine Blk.alloc ?_ _ | assumption)) (Nat.le_refl _) hb1
    have kp_0 : w1.cell? ⟨w.heap.size, 0, none⟩ = some (.int .i64 key) := qp.out.cell 0 rfl
    have fp_0 := qp.out.frozen 0
    have kp_1 : w1.cell? ⟨w.heap.size, 1, none⟩ = some (.slice A n c) := qp.out.cell 1 rfl
    have fp_1 := qp.out.frozen 1
    have kp_2 : w1.cell? ⟨w.heap.size, 2, none⟩ = some (.int .i64 sum) := qp.out.cell 2 rfl
    have fp_2 := qp.out.frozen 2
    have lp := qp.out.lt
    have kr_0 : w1.cell? ⟨w.heap.size + 1, 0, none⟩ = some (.int .i64 0) := qr.out.cell 0 rfl
    have fr_0 := qr.out.frozen 0
    have kr_1 : w1.cell? ⟨w.heap.size + 1, 1, none⟩ = some (.slice none 0 0) := qr.out.cell 1 rfl
    have fr_1 := qr.out.frozen 1
    have kr_2 : w1.cell? ⟨w.heap.size + 1, 2, none⟩ = some (.int .i64 0) := qr.out.cell 2 rfl
    have fr_2 := qr.out.frozen 2
    have lr := qr.out.lt
    clear hb1
    go_wp2
    refine bodyPost_ret (v := .tuple #[.agg #[.int .i64 0, .slice none 0 0, .int .i64 0], .bool false]) (by simp [results, Try.results18, go_sem, *]) rfl ?_
    exact ⟨none, 0, rfl, Fr.nil_, fun _ => ⟨rfl, rfl⟩, ((HB1.out.setCell (by first | (simp; done) | (simp; omega)) _).setCell (by first | (simp; done) | (simp; omega)) _).setCell (by first | (simp; done) | (simp; omega)) _⟩
  · have h60 := auditOk_len h1
    have H1 := Lib.hid h1
    have hk := Lib.hid (auditOk_key h1)
    clear h1
    rw [show appK key zs sum = key by unfold appK; rw [H1.out]; rfl]
    by_cases hlt : zs.length < 60
    · skip
      rw [show appS key zs sum entry = mixStep sum entry by unfold appS; rw [if_pos H1.out, if_pos hlt], show appB key zs sum = true by unfold appB; rw [H1.out, decide_eq_true hlt]; rfl]
      obtain ⟨R4, hR4⟩ : ∃ R4, R4 = zs ++ [entry] := ⟨_, rfl⟩
      rw [show appL key zs sum entry = R4 by unfold appL; rw [if_pos H1.out, if_pos hlt, hR4]]
      have HR4 := Lib.hid hR4
      have hl4 : R4.length ≤ 60 := by rw [hR4]; simp; omega
      clear hR4
      go_enter Try.func18, Try.ntmps18
      go_wp2_with fail
      refine (iAuditValid_is H1.out _ (by omega) (HR.out.below (Nat.le_refl _) (by go_grown))).mono ?_
      rintro e0 w1 ⟨rfl, hb1⟩
      have HB1 : Hid (Below w.heap.size w w1) := Below.andThen (w := w) (by go_grown) hb1
      have hs1 := hb1.size
      simp only [World.size_alloc] at hs1
      have qp : Hid (Blk w1 (w.heap.size) 27 #[.int .i64 key, .slice A n c, .int .i64 sum]) := Blk.below (w' := w1) (by repeat' (first | (refine Blk.at_ _ _ _ ?_; first | rfl | (simp; done)) | refine Blk.alloc ?_ _ | assumption)) (Nat.le_refl _) hb1
      have qr : Hid (Blk w1 (w.heap.size + 1) 27 #[.int .i64 0, .slice none 0 0, .int .i64 0]) := Blk.below (w' := w1) (by repeat' (first | (refine Blk.at_ _ _ _ ?_; first | rfl | (simp; done)) | refine Blk.alloc ?_ _ | assumption)) (Nat.le_refl _) hb1
      have kp_0 : w1.cell? ⟨w.heap.size, 0, none⟩ = some (.int .i64 key) := qp.out.cell 0 rfl
      have fp_0 := qp.out.frozen 0
      have kp_1 : w1.cell? ⟨w.heap.size, 1, none⟩ = some (.slice A n c) := qp.out.cell 1 rfl
      have fp_1 := qp.out.frozen 1
      have kp_2 : w1.cell? ⟨w.heap.size, 2, none⟩ = some (.int .i64 sum) := qp.out.cell 2 rfl
      have fp_2 := qp.out.frozen 2
      have lp := qp.out.lt
      have kr_0 : w1.cell? ⟨w.heap.size + 1, 0, none⟩ = some (.int .i64 0) := qr.out.cell 0 rfl
      have fr_0 := qr.out.frozen 0
      have kr_1 : w1.cell? ⟨w.heap.size + 1, 1, none⟩ = some (.slice none 0 0) := qr.out.cell 1 rfl
      have fr_1 := qr.out.frozen 1
      have kr_2 : w1.cell? ⟨w.heap.size + 1, 2, none⟩ = some (.int .i64 0) := qr.out.cell 2 rfl
      have fr_2 := qr.out.frozen 2
      have lr := qr.out.lt
      clear hb1
      go_upto_region 3 with fail
      go_cut [6] (fun s6 wx => ∃ (gx : Nat) (A2 : Option Addr) (lo2 hi2 : Nat), s6 = .pointer (some ⟨gx, 0, none⟩) ∧ w.heap.size + 1 < gx ∧ (A2 = none → zs.length = 0) ∧ (w.heap.size + 2 ≤ lo2 ∧ hi2 ≤ wx.heap.size ∧ (hi2 ≤ gx ∨ gx < lo2)) ∧ Hid (Blk wx gx 27 #[.int .i64 key, .slice A2 zs.length zs.length, .int .i64 sum]) ∧ Hid (Blk wx w.heap.size 27 #[.int .i64 key, .slice A n c, .int .i64 sum]) ∧ Hid (Blk wx (w.heap.size + 1) 27 #[.int .i64 0, .slice none 0 0, .int .i64 0]) ∧ Hid (Fr wx lo2 hi2 3 1 A2 zs.length (ints zs)) ∧ Hid (Below w.heap.size w wx))
      case first =>
        go_region_held3 (fun w' => w'.cell? ⟨w.heap.size, 0, none⟩ = some (.int .i64 key) ∧ w'.cell? ⟨w.heap.size, 1, none⟩ = some (.slice A n c) ∧ w'.cell? ⟨w.heap.size, 2, none⟩ = some (.int .i64 sum)) (refine ⟨?_, ?_, ?_⟩ <;> (repeat' (first | with_reducible exact kp_0 | with_reducible exact kp_1 | with_reducible exact kp_2 | (with_reducible refine keepS ?_ (by dsimp only; first | exact Nat.ne_of_lt (by assumption) | omega) _) | with_reducible refine keepA ?_ _ | with_reducible refine keepD ?_))) ((go_at_call 28; refine (cloneF_any A n c zs _ (by omega) ((HR.out.below (Nat.le_refl _) HB1.out).wid1 (by go_grown)) hA).mono ?_; rintro e0 w2 ⟨A2, rfl, hf2, hn2, hb2⟩; have hBx : Below w1.heap.size w1 w2 := Below.andThen (by go_grown) hb2; have hs2 := hBx.size; have hs3 := hb2.size; have HN2 := Lib.hid hn2; have HF2 := Lib.hid hf2; (try (have hs4 : w1.heap.size + 1 ≤ w2.heap.size := Nat.le_trans (by simp) hb2.size; have qx : Hid (Blk w2 w1.heap.size 27 #[.int .i64 0, .slice none 0 0, .int .i64 0]) := Blk.below (by first | exact Blk.at_ _ _ _ (by simp) | exact Blk.drew (Blk.at_ _ _ _ (by simp)) | exact Blk.drew (Blk.drew (Blk.at_ _ _ _ (by simp)))) (Nat.le_refl _) hb2; have HFX : Hid (Fr w2 (w1.heap.size + 1) w2.heap.size 3 1 A2 zs.length (ints zs)) := HF2.out.wide (by simp) (Nat.le_refl _); have kx_0 : w2.cell? ⟨w1.heap.size, 0, none⟩ = some (.int .i64 0) := qx.out.cell 0 rfl; have fx_0 := qx.out.frozen 0; have kx_1 : w2.cell? ⟨w1.heap.size, 1, none⟩ = some (.slice none 0 0) := qx.out.cell 1 rfl; have fx_1 := qx.out.frozen 1; have kx_2 : w2.cell? ⟨w1.heap.size, 2, none⟩ = some (.int .i64 0) := qx.out.cell 2 rfl; have fx_2 := qx.out.frozen 2; have lx := qx.out.lt)); skip; clear kp_0 kp_1 kp_2; have qp2 : Hid (Blk w2 (w.heap.size) 27 #[.int .i64 key, .slice A n c, .int .i64 sum]) := qp.out.below (Nat.le_refl _) hBx; have kp_0 : w2.cell? ⟨w.heap.size, 0, none⟩ = some (.int .i64 key) := qp2.out.cell 0 rfl; have kp_1 : w2.cell? ⟨w.heap.size, 1, none⟩ = some (.slice A n c) := qp2.out.cell 1 rfl; have kp_2 : w2.cell? ⟨w.heap.size, 2, none⟩ = some (.int .i64 sum) := qp2.out.cell 2 rfl; have HBX := Lib.hid hBx; clear hBx hf2 hn2 hb2))
        all_goals (go_wp2_with fail; go_meet)
        · exact ⟨w2.heap.size, A2, w1.heap.size, w2.heap.size, rfl, by omega, HN2.out, ⟨by omega, by simp, .inl (Nat.le_refl _)⟩, (by exact Blk.at_ _ _ _ rfl), (by exact qp2.out.alloc _), (by exact (qr.out.below (Nat.le_refl _) HBX.out).alloc _), (by exact HF2.out.alloc _), (by exact (Below.andThen HB1.out HBX.out).alloc (by omega) _)⟩
        · exact ⟨w1.heap.size, A2, w1.heap.size + 1, w2.heap.size, rfl, by omega, HN2.out, ⟨by omega, by simp, .inr (by omega)⟩, (by exact ((qx.out.set_ 0 _).set_ 1 _).set_ 2 _), (by exact (((qp2.out).far (by dsimp only; omega) _).far (by dsimp only; omega) _).far (by dsimp only; omega) _), (by exact (((qr.out.below (Nat.le_refl _) HBX.out).far (by dsimp only; omega) _).far (by dsimp only; omega) _).far (by dsimp only; omega) _), (by exact ((HFX.out.setFar (by dsimp only; omega) _).setFar (by dsimp only; omega) _).setFar (by dsimp only; omega) _), (by exact (((Below.andThen HB1.out HBX.out).setCell (by first | (simp; done) | (simp; omega)) _).setCell (by first | (simp; done) | (simp; omega)) _).setCell (by first | (simp; done) | (simp; omega)) _)⟩
      case rest =>
        obtain ⟨gx, A2, lo2, hi2, rfl, hgx, hnA, ⟨hlo2, hhi2, hgl⟩, qx, qp, qr, HF, HBC⟩ := hcut
        obtain ⟨w3, rfl⟩ : ∃ x, x = wc := ⟨_, rfl⟩
        clear lp kp_0 fp_0 kp_1 fp_1 kp_2 fp_2 lr kr_0 fr_0 kr_1 fr_1 kr_2 fr_2
        have kx_0 : w3.cell? ⟨gx, 0, none⟩ = some (.int .i64 key) := qx.out.cell 0 rfl
        have fx_0 := qx.out.frozen 0
        have kx_1 : w3.cell? ⟨gx, 1, none⟩ = some (.slice A2 zs.length zs.length) := qx.out.cell 1 rfl
        have fx_1 := qx.out.frozen 1
        have kx_2 : w3.cell? ⟨gx, 2, none⟩ = some (.int .i64 sum) := qx.out.cell 2 rfl
        have fx_2 := qx.out.frozen 2
        have lx := qx.out.lt
        have kp_0 : w3.cell? ⟨w.heap.size, 0, none⟩ = some (.int .i64 key) := qp.out.cell 0 rfl
        have fp_0 := qp.out.frozen 0
        have kp_1 : w3.cell? ⟨w.heap.size, 1, none⟩ = some (.slice A n c) := qp.out.cell 1 rfl
        have fp_1 := qp.out.frozen 1
        have kp_2 : w3.cell? ⟨w.heap.size, 2, none⟩ = some (.int .i64 sum) := qp.out.cell 2 rfl
        have fp_2 := qp.out.frozen 2
        have lp := qp.out.lt
        have kr_0 : w3.cell? ⟨w.heap.size + 1, 0, none⟩ = some (.int .i64 0) := qr.out.cell 0 rfl
        have fr_0 := qr.out.frozen 0
        have kr_1 : w3.cell? ⟨w.heap.size + 1, 1, none⟩ = some (.slice none 0 0) := qr.out.cell 1 rfl
        have fr_1 := qr.out.frozen 1
        have kr_2 : w3.cell? ⟨w.heap.size + 1, 2, none⟩ = some (.int .i64 0) := qr.out.cell 2 rfl
        have fr_2 := qr.out.frozen 2
        have lr := qr.out.lt
        have hgx3 := qx.out.lt
        have hq : ((n : Int) == 60) = false := by have := hlz.out; simp; omega
        have hks : Hid (inB sum 0 1048572 = true) := by show _ = _; rw [auditOk_sum H1.out]; have := inB_true.1 hk.out; exact inB_true.2 (mixAll_rng zs key this.1 this.2)
        go_wp2_with (first | (at_builtin; refine wpList_append_grows _ rfl _ _ 22 rfl 3 i0 (.int .i64 0) 1 8 Try.underlying22 hi hz0 hz1 hz2 rfl (by omega) A2 zs.length zs.length (ints zs) rfl (fun h => ⟨hnA h, hnA h⟩) (by simp [ints]) (rd_holds (HF.out.rd.alloc _)) _ 1 1 (ints [entry]) rfl (by simp [ints]) (rd_holds (rd_new rfl rfl) _ rfl) (ints_one _) (by omega) (by unfold maxLen; omega) (by omega) ?_; intro v4 w4 ho4 hg4; obtain ⟨A3, c3, rfl, hl5, ho5, hn5⟩ := own_slice (show w4.ownsRow _ 3 1 v4 (zs.length + 1) (ints R4) from (by rw [HR4.out, ints_app]; exact ho4)); have HO4 := Lib.hid ho5; have HN4 := Lib.hid hn5; have hb4 := below_none hg4; have hs4 := hb4.size; simp only [World.size_alloc] at hs4; have HB4 : Hid (Below w.heap.size w w4) := Below.andThen (HBC.out.alloc (by omega) _) hb4; clear lx kx_0 fx_0 kx_1 fx_1 kx_2 fx_2 lp kp_0 fp_0 kp_1 fp_1 kp_2 fp_2 lr kr_0 fr_0 kr_1 fr_1 kr_2 fr_2; have qx : Hid (Blk w4 gx 27 #[.int .i64 key, .slice A2 zs.length zs.length, .int .i64 sum]) := (qx.out.alloc _).below (Nat.le_refl _) hb4; have qp : Hid (Blk w4 (w.heap.size) 27 #[.int .i64 key, .slice A n c, .int .i64 sum]) := (qp.out.alloc _).below (Nat.le_refl _) hb4; have qr : Hid (Blk w4 (w.heap.size + 1) 27 #[.int .i64 0, .slice none 0 0, .int .i64 0]) := (qr.out.alloc _).below (Nat.le_refl _) hb4; clear ho4 hg4 ho5 hn5 hl5 hb4; have kx_0 : w4.cell? ⟨gx, 0, none⟩ = some (.int .i64 key) := qx.out.cell 0 rfl; have fx_0 := qx.out.frozen 0; have kx_1 : w4.cell? ⟨gx, 1, none⟩ = some (.slice A2 zs.length zs.length) := qx.out.cell 1 rfl; have fx_1 := qx.out.frozen 1; have kx_2 : w4.cell? ⟨gx, 2, none⟩ = some (.int .i64 sum) := qx.out.cell 2 rfl; have fx_2 := qx.out.frozen 2; have lx := qx.out.lt; have kp_0 : w4.cell? ⟨w.heap.size, 0, none⟩ = some (.int .i64 key) := qp.out.cell 0 rfl; have fp_0 := qp.out.frozen 0; have kp_1 : w4.cell? ⟨w.heap.size, 1, none⟩ = some (.slice A n c) := qp.out.cell 1 rfl; have fp_1 := qp.out.frozen 1; have kp_2 : w4.cell? ⟨w.heap.size, 2, none⟩ = some (.int .i64 sum) := qp.out.cell 2 rfl; have fp_2 := qp.out.frozen 2; have lp := qp.out.lt; have kr_0 : w4.cell? ⟨w.heap.size + 1, 0, none⟩ = some (.int .i64 0) := qr.out.cell 0 rfl; have fr_0 := qr.out.frozen 0; have kr_1 : w4.cell? ⟨w.heap.size + 1, 1, none⟩ = some (.slice none 0 0) := qr.out.cell 1 rfl; have fr_1 := qr.out.frozen 1; have kr_2 : w4.cell? ⟨w.heap.size + 1, 2, none⟩ = some (.int .i64 0) := qr.out.cell 2 rfl; have fr_2 := qr.out.frozen 2; have lr := qr.out.lt) | fail)
        refine (cloneF_any A3 R4.length c3 R4 _ (by omega) (Rd.of_own HO4.out) HN4.out).mono ?_
        rintro e0 w5 ⟨A5, rfl, hf5, hn5, hb5⟩
        have HB5 : Hid (Below w.heap.size w w5) := Below.andThen HB4.out hb5
        have HF5 := Lib.hid hf5
        have HN5 := Lib.hid hn5
        have hs5 := hb5.size
        clear lx kx_0 fx_0 kx_1 fx_1 kx_2 fx_2 lp kp_0 fp_0 kp_1 fp_1 kp_2 fp_2 lr kr_0 fr_0 kr_1 fr_1 kr_2 fr_2
        have qx : Hid (Blk w5 gx 27 #[.int .i64 key, .slice A2 zs.length zs.length, .int .i64 sum]) := qx.out.below (Nat.le_refl _) hb5
        have qp : Hid (Blk w5 (w.heap.size) 27 #[.int .i64 key, .slice A n c, .int .i64 sum]) := qp.out.below (Nat.le_refl _) hb5
        have qr : Hid (Blk w5 (w.heap.size + 1) 27 #[.int .i64 0, .slice none 0 0, .int .i64 0]) := qr.out.below (Nat.le_refl _) hb5
        clear hf5 hn5 hb5
        have kx_0 : w5.cell? ⟨gx, 0, none⟩ = some (.int .i64 key) := qx.out.cell 0 rfl
        have fx_0 := qx.out.frozen 0
        have kx_1 : w5.cell? ⟨gx, 1, none⟩ = some (.slice A2 zs.length zs.length) := qx.out.cell 1 rfl
        have fx_1 := qx.out.frozen 1
        have kx_2 : w5.cell? ⟨gx, 2, none⟩ = some (.int .i64 sum) := qx.out.cell 2 rfl
        have fx_2 := qx.out.frozen 2
        have lx := qx.out.lt
        have kp_0 : w5.cell? ⟨w.heap.size, 0, none⟩ = some (.int .i64 key) := qp.out.cell 0 rfl
        have fp_0 := qp.out.frozen 0
        have kp_1 : w5.cell? ⟨w.heap.size, 1, none⟩ = some (.slice A n c) := qp.out.cell 1 rfl
        have fp_1 := qp.out.frozen 1
        have kp_2 : w5.cell? ⟨w.heap.size, 2, none⟩ = some (.int .i64 sum) := qp.out.cell 2 rfl
        have fp_2 := qp.out.frozen 2
        have lp := qp.out.lt
        have kr_0 : w5.cell? ⟨w.heap.size + 1, 0, none⟩ = some (.int .i64 0) := qr.out.cell 0 rfl
        have fr_0 := qr.out.frozen 0
        have kr_1 : w5.cell? ⟨w.heap.size + 1, 1, none⟩ = some (.slice none 0 0) := qr.out.cell 1 rfl
        have fr_1 := qr.out.frozen 1
        have kr_2 : w5.cell? ⟨w.heap.size + 1, 2, none⟩ = some (.int .i64 0) := qr.out.cell 2 rfl
        have fr_2 := qr.out.frozen 2
        have lr := qr.out.lt
        go_wp2_with fail
        refine (iMix_yes sum _ 1 1 [entry] _ (by omega) hks.out (rd_new (by simp) rfl)).mono ?_
        rintro e0 w6 ⟨rfl, hb6⟩
        have HB6 : Hid (Below w.heap.size w w6) := Below.andThen ((HB5.out.setCell (by first | (simp; done) | (simp; omega)) _).alloc (by simp; omega) _) hb6
        have hs6 := hb6.size
        simp only [World.size_alloc, setCellA_size] at hs6
        clear lx kx_0 fx_0 kx_1 fx_1 kx_2 fx_2 lp kp_0 fp_0 kp_1 fp_1 kp_2 fp_2 lr kr_0 fr_0 kr_1 fr_1 kr_2 fr_2
        have qx : Hid (Blk w6 gx 27 #[.int .i64 key, .slice A5 R4.length R4.length, .int .i64 sum]) := ((qx.out.set_ 1 _).alloc _).below (Nat.le_refl _) hb6
        have qp : Hid (Blk w6 (w.heap.size) 27 #[.int .i64 key, .slice A n c, .int .i64 sum]) := ((qp.out.far (by first | (simp; done) | (simp; omega)) _).alloc _).below (Nat.le_refl _) hb6
        have qr : Hid (Blk w6 (w.heap.size + 1) 27 #[.int .i64 0, .slice none 0 0, .int .i64 0]) := ((qr.out.far (by first | (simp; done) | (simp; omega)) _).alloc _).below (Nat.le_refl _) hb6
        have HF6 : Hid (Fr w6 w4.heap.size w5.heap.size 3 1 A5 R4.length (ints R4)) := ((HF5.out.setFar (by dsimp only; omega) _).alloc _).below (Nat.le_refl _) hb6
        clear hb6
        have kx_0 : w6.cell? ⟨gx, 0, none⟩ = some (.int .i64 key) := qx.out.cell 0 rfl
        have fx_0 := qx.out.frozen 0
        have kx_1 : w6.cell? ⟨gx, 1, none⟩ = some (.slice A5 R4.length R4.length) := qx.out.cell 1 rfl
        have fx_1 := qx.out.frozen 1
        have kx_2 : w6.cell? ⟨gx, 2, none⟩ = some (.int .i64 sum) := qx.out.cell 2 rfl
        have fx_2 := qx.out.frozen 2
        have lx := qx.out.lt
        have kp_0 : w6.cell? ⟨w.heap.size, 0, none⟩ = some (.int .i64 key) := qp.out.cell 0 rfl
        have fp_0 := qp.out.frozen 0
        have kp_1 : w6.cell? ⟨w.heap.size, 1, none⟩ = some (.slice A n c) := qp.out.cell 1 rfl
        have fp_1 := qp.out.frozen 1
        have kp_2 : w6.cell? ⟨w.heap.size, 2, none⟩ = some (.int .i64 sum) := qp.out.cell 2 rfl
        have fp_2 := qp.out.frozen 2
        have lp := qp.out.lt
        have kr_0 : w6.cell? ⟨w.heap.size + 1, 0, none⟩ = some (.int .i64 0) := qr.out.cell 0 rfl
        have fr_0 := qr.out.frozen 0
        have kr_1 : w6.cell? ⟨w.heap.size + 1, 1, none⟩ = some (.slice none 0 0) := qr.out.cell 1 rfl
        have fr_1 := qr.out.frozen 1
        have kr_2 : w6.cell? ⟨w.heap.size + 1, 2, none⟩ = some (.int .i64 0) := qr.out.cell 2 rfl
        have fr_2 := qr.out.frozen 2
        have lr := qr.out.lt
        go_wp2
        refine bodyPost_ret (v := .tuple #[.agg #[.int .i64 key, .slice A5 R4.length R4.length, .int .i64 (mixAll sum [entry])], .bool true]) (by simp [results, Try.results18, go_sem, *]) rfl ?_
        exact ⟨A5, R4.length, rfl, (((((HF6.out.setFar (by dsimp only; omega) _).setFar (by dsimp only; omega) _).setFar (by dsimp only; omega) _).setFar (by dsimp only; omega) _)).wide (by omega) (by simp; omega), fun h => ⟨HN5.out h, HN5.out h⟩, (((HB6.out.setCell (by first | (simp; done) | (simp; omega)) _).setCell (by first | (simp; done) | (simp; omega)) _).setCell (by first | (simp; done) | (simp; omega)) _).setCell (by first | (simp; done) | (simp; omega)) _⟩
    · skip
      rw [show appS key zs sum entry = sum by unfold appS; rw [if_pos H1.out, if_neg hlt], show appB key zs sum = false by unfold appB; rw [H1.out, decide_eq_false hlt]; rfl, show appL key zs sum entry = zs by unfold appL; rw [if_pos H1.out, if_neg hlt]]
      go_enter Try.func18, Try.ntmps18
      go_wp2_with fail
      refine (iAuditValid_is H1.out _ (by omega) (HR.out.below (Nat.le_refl _) (by go_grown))).mono ?_
      rintro e0 w1 ⟨rfl, hb1⟩
      have HB1 : Hid (Below w.heap.size w w1) := Below.andThen (w := w) (by go_grown) hb1
      have hs1 := hb1.size
      simp only [World.size_alloc] at hs1
      have qp : Hid (Blk w1 (w.heap.size) 27 #[.int .i64 key, .slice A n c, .int .i64 sum]) := Blk.below (w' := w1) (by repeat' (first | (refine Blk.at_ _ _ _ ?_; first | rfl | (simp; done)) | refine Blk.alloc ?_ _ | assumption)) (Nat.le_refl _) hb1
      have qr : Hid (Blk w1 (w.heap.size + 1) 27 #[.int .i64 0, .slice none 0 0, .int .i64 0]) := Blk.below (w' := w1) (by repeat' (first | (refine Blk.at_ _ _ _ ?_; first | rfl | (simp; done)) | refine Blk.alloc ?_ _ | assumption)) (Nat.le_refl _) hb1
      have kp_0 : w1.cell? ⟨w.heap.size, 0, none⟩ = some (.int .i64 key) := qp.out.cell 0 rfl
      have fp_0 := qp.out.frozen 0
      have kp_1 : w1.cell? ⟨w.heap.size, 1, none⟩ = some (.slice A n c) := qp.out.cell 1 rfl
      have fp_1 := qp.out.frozen 1
      have kp_2 : w1.cell? ⟨w.heap.size, 2, none⟩ = some (.int .i64 sum) := qp.out.cell 2 rfl
      have fp_2 := qp.out.frozen 2
      have lp := qp.out.lt
      have kr_0 : w1.cell? ⟨w.heap.size + 1, 0, none⟩ = some (.int .i64 0) := qr.out.cell 0 rfl
      have fr_0 := qr.out.frozen 0
      have kr_1 : w1.cell? ⟨w.heap.size + 1, 1, none⟩ = some (.slice none 0 0) := qr.out.cell 1 rfl
      have fr_1 := qr.out.frozen 1
      have kr_2 : w1.cell? ⟨w.heap.size + 1, 2, none⟩ = some (.int .i64 0) := qr.out.cell 2 rfl
      have fr_2 := qr.out.frozen 2
      have lr := qr.out.lt
      clear hb1
      go_upto_region 3 with fail
      go_cut [6] (fun s6 wx => ∃ (gx : Nat) (A2 : Option Addr) (lo2 hi2 : Nat), s6 = .pointer (some ⟨gx, 0, none⟩) ∧ w.heap.size + 1 < gx ∧ (A2 = none → zs.length = 0) ∧ (w.heap.size + 2 ≤ lo2 ∧ hi2 ≤ wx.heap.size ∧ (hi2 ≤ gx ∨ gx < lo2)) ∧ Hid (Blk wx gx 27 #[.int .i64 key, .slice A2 zs.length zs.length, .int .i64 sum]) ∧ Hid (Blk wx w.heap.size 27 #[.int .i64 key, .slice A n c, .int .i64 sum]) ∧ Hid (Blk wx (w.heap.size + 1) 27 #[.int .i64 0, .slice none 0 0, .int .i64 0]) ∧ Hid (Fr wx lo2 hi2 3 1 A2 zs.length (ints zs)) ∧ Hid (Below w.heap.size w wx))
      case first =>
        go_region_held3 (fun w' => w'.cell? ⟨w.heap.size, 0, none⟩ = some (.int .i64 key) ∧ w'.cell? ⟨w.heap.size, 1, none⟩ = some (.slice A n c) ∧ w'.cell? ⟨w.heap.size, 2, none⟩ = some (.int .i64 sum)) (refine ⟨?_, ?_, ?_⟩ <;> (repeat' (first | with_reducible exact kp_0 | with_reducible exact kp_1 | with_reducible exact kp_2 | (with_reducible refine keepS ?_ (by dsimp only; first | exact Nat.ne_of_lt (by assumption) | omega) _) | with_reducible refine keepA ?_ _ | with_reducible refine keepD ?_))) ((go_at_call 28; refine (cloneF_any A n c zs _ (by omega) ((HR.out.below (Nat.le_refl _) HB1.out).wid1 (by go_grown)) hA).mono ?_; rintro e0 w2 ⟨A2, rfl, hf2, hn2, hb2⟩; have hBx : Below w1.heap.size w1 w2 := Below.andThen (by go_grown) hb2; have hs2 := hBx.size; have hs3 := hb2.size; have HN2 := Lib.hid hn2; have HF2 := Lib.hid hf2; (try (have hs4 : w1.heap.size + 1 ≤ w2.heap.size := Nat.le_trans (by simp) hb2.size; have qx : Hid (Blk w2 w1.heap.size 27 #[.int .i64 0, .slice none 0 0, .int .i64 0]) := Blk.below (by first | exact Blk.at_ _ _ _ (by simp) | exact Blk.drew (Blk.at_ _ _ _ (by simp)) | exact Blk.drew (Blk.drew (Blk.at_ _ _ _ (by simp)))) (Nat.le_refl _) hb2; have HFX : Hid (Fr w2 (w1.heap.size + 1) w2.heap.size 3 1 A2 zs.length (ints zs)) := HF2.out.wide (by simp) (Nat.le_refl _); have kx_0 : w2.cell? ⟨w1.heap.size, 0, none⟩ = some (.int .i64 0) := qx.out.cell 0 rfl; have fx_0 := qx.out.frozen 0; have kx_1 : w2.cell? ⟨w1.heap.size, 1, none⟩ = some (.slice none 0 0) := qx.out.cell 1 rfl; have fx_1 := qx.out.frozen 1; have kx_2 : w2.cell? ⟨w1.heap.size, 2, none⟩ = some (.int .i64 0) := qx.out.cell 2 rfl; have fx_2 := qx.out.frozen 2; have lx := qx.out.lt)); skip; clear kp_0 kp_1 kp_2; have qp2 : Hid (Blk w2 (w.heap.size) 27 #[.int .i64 key, .slice A n c, .int .i64 sum]) := qp.out.below (Nat.le_refl _) hBx; have kp_0 : w2.cell? ⟨w.heap.size, 0, none⟩ = some (.int .i64 key) := qp2.out.cell 0 rfl; have kp_1 : w2.cell? ⟨w.heap.size, 1, none⟩ = some (.slice A n c) := qp2.out.cell 1 rfl; have kp_2 : w2.cell? ⟨w.heap.size, 2, none⟩ = some (.int .i64 sum) := qp2.out.cell 2 rfl; have HBX := Lib.hid hBx; clear hBx hf2 hn2 hb2))
        all_goals (go_wp2_with fail; go_meet)
        · exact ⟨w2.heap.size, A2, w1.heap.size, w2.heap.size, rfl, by omega, HN2.out, ⟨by omega, by simp, .inl (Nat.le_refl _)⟩, (by exact Blk.at_ _ _ _ rfl), (by exact qp2.out.alloc _), (by exact (qr.out.below (Nat.le_refl _) HBX.out).alloc _), (by exact HF2.out.alloc _), (by exact (Below.andThen HB1.out HBX.out).alloc (by omega) _)⟩
        · exact ⟨w1.heap.size, A2, w1.heap.size + 1, w2.heap.size, rfl, by omega, HN2.out, ⟨by omega, by simp, .inr (by omega)⟩, (by exact ((qx.out.set_ 0 _).set_ 1 _).set_ 2 _), (by exact (((qp2.out).far (by dsimp only; omega) _).far (by dsimp only; omega) _).far (by dsimp only; omega) _), (by exact (((qr.out.below (Nat.le_refl _) HBX.out).far (by dsimp only; omega) _).far (by dsimp only; omega) _).far (by dsimp only; omega) _), (by exact ((HFX.out.setFar (by dsimp only; omega) _).setFar (by dsimp only; omega) _).setFar (by dsimp only; omega) _), (by exact (((Below.andThen HB1.out HBX.out).setCell (by first | (simp; done) | (simp; omega)) _).setCell (by first | (simp; done) | (simp; omega)) _).setCell (by first | (simp; done) | (simp; omega)) _)⟩
      case rest =>
        obtain ⟨gx, A2, lo2, hi2, rfl, hgx, hnA, ⟨hlo2, hhi2, hgl⟩, qx, qp, qr, HF, HBC⟩ := hcut
        obtain ⟨w3, rfl⟩ : ∃ x, x = wc := ⟨_, rfl⟩
        clear lp kp_0 fp_0 kp_1 fp_1 kp_2 fp_2 lr kr_0 fr_0 kr_1 fr_1 kr_2 fr_2
        have kx_0 : w3.cell? ⟨gx, 0, none⟩ = some (.int .i64 key) := qx.out.cell 0 rfl
        have fx_0 := qx.out.frozen 0
        have kx_1 : w3.cell? ⟨gx, 1, none⟩ = some (.slice A2 zs.length zs.length) := qx.out.cell 1 rfl
        have fx_1 := qx.out.frozen 1
        have kx_2 : w3.cell? ⟨gx, 2, none⟩ = some (.int .i64 sum) := qx.out.cell 2 rfl
        have fx_2 := qx.out.frozen 2
        have lx := qx.out.lt
        have kp_0 : w3.cell? ⟨w.heap.size, 0, none⟩ = some (.int .i64 key) := qp.out.cell 0 rfl
        have fp_0 := qp.out.frozen 0
        have kp_1 : w3.cell? ⟨w.heap.size, 1, none⟩ = some (.slice A n c) := qp.out.cell 1 rfl
        have fp_1 := qp.out.frozen 1
        have kp_2 : w3.cell? ⟨w.heap.size, 2, none⟩ = some (.int .i64 sum) := qp.out.cell 2 rfl
        have fp_2 := qp.out.frozen 2
        have lp := qp.out.lt
        have kr_0 : w3.cell? ⟨w.heap.size + 1, 0, none⟩ = some (.int .i64 0) := qr.out.cell 0 rfl
        have fr_0 := qr.out.frozen 0
        have kr_1 : w3.cell? ⟨w.heap.size + 1, 1, none⟩ = some (.slice none 0 0) := qr.out.cell 1 rfl
        have fr_1 := qr.out.frozen 1
        have kr_2 : w3.cell? ⟨w.heap.size + 1, 2, none⟩ = some (.int .i64 0) := qr.out.cell 2 rfl
        have fr_2 := qr.out.frozen 2
        have lr := qr.out.lt
        have hgx3 := qx.out.lt
        have hq : ((n : Int) == 60) = true := by have := auditOk_len H1.out; have := hlz.out; simp; omega
        go_wp2
        refine bodyPost_ret (v := .tuple #[.agg #[.int .i64 key, .slice A2 zs.length zs.length, .int .i64 sum], .bool false]) (by simp [results, Try.results18, go_sem, *]) rfl ?_
        exact ⟨A2, zs.length, rfl, ((((HF.out.setFar (by dsimp only; omega) _).setFar (by dsimp only; omega) _).setFar (by dsimp only; omega) _)).wide (by omega) (by simp; omega), fun h => ⟨hnA h, hnA h⟩, ((HBC.out.setCell (by first | (simp; done) | (simp; omega)) _).setCell (by first | (simp; done) | (simp; omega)) _).setCell (by first | (simp; done) | (simp; omega)) _⟩
end Go.Proofs.Ytboejpljjhgflaa
