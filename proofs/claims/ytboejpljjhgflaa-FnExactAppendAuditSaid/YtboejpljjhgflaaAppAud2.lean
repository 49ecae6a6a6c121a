/-
  CONTRACTS of AppendAudit.
  Conditions: none beyond those that each states.
-/
import Derived.Test.YtboejpljjhgflaaAppAud
namespace Go.Proofs.Ytboejpljjhgflaa
open Go.ChangeShapes Go.WideShapes Go.ChangeAt Go.RowKit Go.Joins
set_option linter.unusedVariables false
theorem setCellA_size (w : World) (p : Addr) (v : Value) : (w.setCell p v).heap.size = w.heap.size := by simp [World.setCell]
theorem ownD {w : World} {base : Nat} {e : TypeId} {size n : Nat} {v : Value} {xs : List Value} (h : w.ownsRow base e size v n xs) : w.drew.ownsRow base e size v n xs := h
theorem ownFar' {w : World} {base : Nat} {e : TypeId} {size n : Nat} {v : Value} {xs : List Value} (h : w.ownsRow base e size v n xs) {p : Addr} (hp : ∀ k, v.ownBlock = some k → k ≠ p.block) (u : Value) : (w.setCell p u).ownsRow base e size v n xs :=
  (Touch.setCell (lo := p.block) (hi := p.block + 1) (Touch.refl _ _ w) (Nat.le_refl _) (Nat.lt_succ_self _) u).own h (fun k hk => by have := hp k hk; omega)
theorem own_ne {v v' : Value} {W : World} {b gx h : Nat} (hat : v'.ownBlock = v.ownBlock ∨ v'.ownBlock = some W.heap.size) (hv : v.ownBlock = some b) (hW : W.heap.size = h) (h1 : b ≠ gx) (h2 : h ≠ gx) : ∀ k, v'.ownBlock = some k → k ≠ gx := by
  intro k hk
  rcases hat with e | e
  · have := Option.some.inj (hk.symm.trans (e.trans hv)); omega
  · have := Option.some.inj (hk.symm.trans e); omega
theorem Blk.grown {w w' : World} {g : Nat} {t : TypeId} {cs : Array Value} {row : Option Nat} (h : Blk w g t cs) (hg : w.grownBy w' row) (hne : ∀ k, row = some k → k ≠ g) : Blk w' g t cs := (hg.block g h.lt (fun e => hne g e.symm rfl)).trans h
theorem Rd.wid1 {w W : World} {size n : Nat} {A : Option Addr} {xs : List Value} (h : Rd w size A n xs) (h2 : Below w.heap.size w W) : Rd W size A n xs := h.below (Nat.le_refl _) h2
set_option maxRecDepth 100000 in
set_option maxHeartbeats 16000000 in
theorem sAppendAudit_any (key : Int) (A : Option Addr) (n c : Nat) (zs : List Int) (sum entry : Int) (w : World) (hm : n ≤ 1048576) (hr : Rd w 1 A n (ints zs)) :
    Calls Try.prog 17 #[.agg #[.int .i64 key, .slice A n c, .int .i64 sum], .int .i64 entry] w (fun e w' => RetAuditB w (appK key zs sum) (appS key zs sum entry) (appL key zs sum entry) (appB key zs sum) e w') := by
  obtain ⟨i0, hi, hz0, hz1, hz2⟩ := info_parts Try.infoInt
  have hlz := Lib.hid hr.len
  have HR := Lib.hid hr
  have hzl : zs.length ≤ 1048576 := by rw [hr.len]; exact hm
  clear hr
  cases h1 : auditOk key zs sum
  · rw [show appK key zs sum = 0 by unfold appK; rw [h1]; rfl, show appS key zs sum entry = 0 by unfold appS; rw [h1]; rfl, show appL key zs sum entry = [] by unfold appL; rw [h1]; rfl, show appB key zs sum = false by unfold appB; rw [h1]; rfl]
    go_enter Try.func17, Try.ntmps17
    go_wp2_with fail
    refine (l1OwnAudit_any key A n c zs sum _ hm (HR.out.below (Nat.le_refl _) (by go_grown))).mono ?_
    rintro e0 w1 ⟨A1, c1, rfl, ho1, hb1⟩
    simp only [World.size_alloc] at ho1
    have HB1 : Hid (Below w.heap.size w w1) := Below.andThen (w := w) (by go_grown) hb1
    have hs1 := hb1.size
    simp only [World.size_alloc] at hs1
    have qp : Hid (Blk w1 (w.heap.size) 27 #[.int .i64 key, .slice A n c, .int .i64 sum]) := Blk.below (w' := w1) (by repeat' (first | (refine Blk.at_ _ _ _ ?_; first | rfl | (simp; done)) | refine Blk.alloc ?_ _ | assumption)) (Nat.le_refl _) hb1
    have qr : Hid (Blk w1 (w.heap.size + 1) 27 #[.int .i64 0, .slice none 0 0, .int .i64 0]) := Blk.below (w' := w1) (by repeat' (first | (refine Blk.at_ _ _ _ ?_; first | rfl | (simp; done)) | refine Blk.alloc ?_ _ | assumption)) (Nat.le_refl _) hb1
    have HO := Lib.hid ho1
    have kp_0 : w1.cell? ⟨w.heap.size, 0, none⟩ = some (.int .i64 key) := qp.out.cell 0 rfl
    have fp_0 := qp.out.frozen 0
    have kp_1 : w1.cell? ⟨w.heap.size, 1, none⟩ = some (.slice A n c) := qp.out.cell 1 rfl
    have fp_1 := qp.out.frozen 1
    have kp_2 : w1.cell? ⟨w.heap.size, 2, none⟩ = some (.int .i64 sum) := qp.out.cell 2 rfl
    have fp_2 := qp.out.frozen 2
    have lp := qp.out.lt
    have kr_0 : w1.cell? ⟨w.heap.size + 1, 0, none⟩ = some (.int .i64 0) := qr.out.cell 0 rfl
    have fr_0 := qr.out.frozen 0
    have kr_1 : w1.cell? ⟨w.heap.size + 1, 1, none⟩ = some (.slice none 0 0) := qr.out.cell 1 rfl
    have fr_1 := qr.out.frozen 1
    have kr_2 : w1.cell? ⟨w.heap.size + 1, 2, none⟩ = some (.int .i64 0) := qr.out.cell 2 rfl
    have fr_2 := qr.out.frozen 2
    have lr := qr.out.lt
    clear hb1 ho1
    go_wp2_with fail
    refine (sAuditValid_is h1 _ (by omega) (Rd.of_own (ownFar (ownFar (ownFar HO.out (by first | (simp; done) | (simp; omega)) _) (by first | (simp; done) | (simp; omega)) _) (by first | (simp; done) | (simp; omega)) _))).mono ?_
    rintro e0 w2 ⟨rfl, hb2⟩
    have HB2 : Hid (Below w.heap.size w w2) := Below.andThen (((HB1.out.setCell (by first | (simp; done) | (simp; omega)) _).setCell (by first | (simp; done) | (simp; omega)) _).setCell (by first | (simp; done) | (simp; omega)) _) hb2
    have hs2 := hb2.size
    simp only [setCellA_size] at hs2
    clear lp kp_0 fp_0 kp_1 fp_1 kp_2 fp_2 lr kr_0 fr_0 kr_1 fr_1 kr_2 fr_2
    have qp : Hid (Blk w2 (w.heap.size) 27 #[.int .i64 key, .slice A1 zs.length c1, .int .i64 sum]) := (((qp.out.set_ 0 _).set_ 1 _).set_ 2 _).below (Nat.le_refl _) hb2
    have qr : Hid (Blk w2 (w.heap.size + 1) 27 #[.int .i64 0, .slice none 0 0, .int .i64 0]) := (((qr.out.far (by first | (simp; done) | (simp; omega)) _).far (by first | (simp; done) | (simp; omega)) _).far (by first | (simp; done) | (simp; omega)) _).below (Nat.le_refl _) hb2
    have HO : Hid (w2.ownsRow (w.heap.size + 1 + 1) 3 1 (.slice A1 zs.length c1) zs.length (ints zs)) := own_below hb2 (Nat.le_refl _) (ownFar (ownFar (ownFar HO.out (by first | (simp; done) | (simp; omega)) _) (by first | (simp; done) | (simp; omega)) _) (by first | (simp; done) | (simp; omega)) _)
    clear hb2
    have kp_0 : w2.cell? ⟨w.heap.size, 0, none⟩ = some (.int .i64 key) := qp.out.cell 0 rfl
    have fp_0 := qp.out.frozen 0
    have kp_1 : w2.cell? ⟨w.heap.size, 1, none⟩ = some (.slice A1 zs.length c1) := qp.out.cell 1 rfl
    have fp_1 := qp.out.frozen 1
    have kp_2 : w2.cell? ⟨w.heap.size, 2, none⟩ = some (.int .i64 sum) := qp.out.cell 2 rfl
    have fp_2 := qp.out.frozen 2
    have lp := qp.out.lt
    have kr_0 : w2.cell? ⟨w.heap.size + 1, 0, none⟩ = some (.int .i64 0) := qr.out.cell 0 rfl
    have fr_0 := qr.out.frozen 0
    have kr_1 : w2.cell? ⟨w.heap.size + 1, 1, none⟩ = some (.slice none 0 0) := qr.out.cell 1 rfl
    have fr_1 := qr.out.frozen 1
    have kr_2 : w2.cell? ⟨w.heap.size + 1, 2, none⟩ = some (.int .i64 0) := qr.out.cell 2 rfl
    have fr_2 := qr.out.frozen 2
    have lr := qr.out.lt
    go_wp2
    refine bodyPost_ret (v := .tuple #[.agg #[.int .i64 0, .slice none 0 0, .int .i64 0], .bool false]) (by simp [results, Try.results17, go_sem, *]) rfl ?_
    exact ⟨none, 0, rfl, Fr.nil_, fun _ => ⟨rfl, rfl⟩, ((HB2.out.setCell (by first | (simp; done) | (simp; omega)) _).setCell (by first | (simp; done) | (simp; omega)) _).setCell (by first | (simp; done) | (simp; omega)) _⟩
  · have h60 := auditOk_len h1
    have H1 := Lib.hid h1
    have hk := Lib.hid (auditOk_key h1)
    clear h1
    rw [show appK key zs sum = key by unfold appK; rw [H1.out]; rfl]
    by_cases hlt : zs.length < 60
    · skip
      rw [show appS key zs sum entry = mixStep sum entry by unfold appS; rw [if_pos H1.out, if_pos hlt], show appB key zs sum = true by unfold appB; rw [H1.out, decide_eq_true hlt]; rfl]
      obtain ⟨R4, hR4⟩ : ∃ R4, R4 = zs ++ [entry] := ⟨_, rfl⟩
      rw [show appL key zs sum entry = R4 by unfold appL; rw [if_pos H1.out, if_pos hlt, hR4]]
      have HR4 := Lib.hid hR4
      have hl4 : R4.length ≤ 60 := by rw [hR4]; simp; omega
      clear hR4
      go_enter Try.func17, Try.ntmps17
      go_wp2_with fail
      refine (l1OwnAudit_any key A n c zs sum _ hm (HR.out.below (Nat.le_refl _) (by go_grown))).mono ?_
      rintro e0 w1 ⟨A1, c1, rfl, ho1, hb1⟩
      simp only [World.size_alloc] at ho1
      have HB1 : Hid (Below w.heap.size w w1) := Below.andThen (w := w) (by go_grown) hb1
      have hs1 := hb1.size
      simp only [World.size_alloc] at hs1
      have qp : Hid (Blk w1 (w.heap.size) 27 #[.int .i64 key, .slice A n c, .int .i64 sum]) := Blk.below (w' := w1) (by repeat' (first | (refine Blk.at_ _ _ _ ?_; first | rfl | (simp; done)) | refine Blk.alloc ?_ _ | assumption)) (Nat.le_refl _) hb1
      have qr : Hid (Blk w1 (w.heap.size + 1) 27 #[.int .i64 0, .slice none 0 0, .int .i64 0]) := Blk.below (w' := w1) (by repeat' (first | (refine Blk.at_ _ _ _ ?_; first | rfl | (simp; done)) | refine Blk.alloc ?_ _ | assumption)) (Nat.le_refl _) hb1
      have HO := Lib.hid ho1
      have kp_0 : w1.cell? ⟨w.heap.size, 0, none⟩ = some (.int .i64 key) := qp.out.cell 0 rfl
      have fp_0 := qp.out.frozen 0
      have kp_1 : w1.cell? ⟨w.heap.size, 1, none⟩ = some (.slice A n c) := qp.out.cell 1 rfl
      have fp_1 := qp.out.frozen 1
      have kp_2 : w1.cell? ⟨w.heap.size, 2, none⟩ = some (.int .i64 sum) := qp.out.cell 2 rfl
      have fp_2 := qp.out.frozen 2
      have lp := qp.out.lt
      have kr_0 : w1.cell? ⟨w.heap.size + 1, 0, none⟩ = some (.int .i64 0) := qr.out.cell 0 rfl
      have fr_0 := qr.out.frozen 0
      have kr_1 : w1.cell? ⟨w.heap.size + 1, 1, none⟩ = some (.slice none 0 0) := qr.out.cell 1 rfl
      have fr_1 := qr.out.frozen 1
      have kr_2 : w1.cell? ⟨w.heap.size + 1, 2, none⟩ = some (.int .i64 0) := qr.out.cell 2 rfl
      have fr_2 := qr.out.frozen 2
      have lr := qr.out.lt
      clear hb1 ho1
      go_wp2_with fail
      refine (sAuditValid_is H1.out _ (by omega) (Rd.of_own (ownFar (ownFar (ownFar HO.out (by first | (simp; done) | (simp; omega)) _) (by first | (simp; done) | (simp; omega)) _) (by first | (simp; done) | (simp; omega)) _))).mono ?_
      rintro e0 w2 ⟨rfl, hb2⟩
      have HB2 : Hid (Below w.heap.size w w2) := Below.andThen (((HB1.out.setCell (by first | (simp; done) | (simp; omega)) _).setCell (by first | (simp; done) | (simp; omega)) _).setCell (by first | (simp; done) | (simp; omega)) _) hb2
      have hs2 := hb2.size
      simp only [setCellA_size] at hs2
      clear lp kp_0 fp_0 kp_1 fp_1 kp_2 fp_2 lr kr_0 fr_0 kr_1 fr_1 kr_2 fr_2
      have qp : Hid (Blk w2 (w.heap.size) 27 #[.int .i64 key, .slice A1 zs.length c1, .int .i64 sum]) := (((qp.out.set_ 0 _).set_ 1 _).set_ 2 _).below (Nat.le_refl _) hb2
      have qr : Hid (Blk w2 (w.heap.size + 1) 27 #[.int .i64 0, .slice none 0 0, .int .i64 0]) := (((qr.out.far (by first | (simp; done) | (simp; omega)) _).far (by first | (simp; done) | (simp; omega)) _).far (by first | (simp; done) | (simp; omega)) _).below (Nat.le_refl _) hb2
      have HO : Hid (w2.ownsRow (w.heap.size + 1 + 1) 3 1 (.slice A1 zs.length c1) zs.length (ints zs)) := own_below hb2 (Nat.le_refl _) (ownFar (ownFar (ownFar HO.out (by first | (simp; done) | (simp; omega)) _) (by first | (simp; done) | (simp; omega)) _) (by first | (simp; done) | (simp; omega)) _)
      clear hb2
      have kp_0 : w2.cell? ⟨w.heap.size, 0, none⟩ = some (.int .i64 key) := qp.out.cell 0 rfl
      have fp_0 := qp.out.frozen 0
      have kp_1 : w2.cell? ⟨w.heap.size, 1, none⟩ = some (.slice A1 zs.length c1) := qp.out.cell 1 rfl
      have fp_1 := qp.out.frozen 1
      have kp_2 : w2.cell? ⟨w.heap.size, 2, none⟩ = some (.int .i64 sum) := qp.out.cell 2 rfl
      have fp_2 := qp.out.frozen 2
      have lp := qp.out.lt
      have kr_0 : w2.cell? ⟨w.heap.size + 1, 0, none⟩ = some (.int .i64 0) := qr.out.cell 0 rfl
      have fr_0 := qr.out.frozen 0
      have kr_1 : w2.cell? ⟨w.heap.size + 1, 1, none⟩ = some (.slice none 0 0) := qr.out.cell 1 rfl
      have fr_1 := qr.out.frozen 1
      have kr_2 : w2.cell? ⟨w.heap.size + 1, 2, none⟩ = some (.int .i64 0) := qr.out.cell 2 rfl
      have fr_2 := qr.out.frozen 2
      have lr := qr.out.lt
      have hq0 := hs1
      go_upto_region 4 with fail
      go_cut [6] (fun s6 wx => ∃ (gx : Nat) (A2 : Option Addr) (c2 : Nat), s6 = .pointer (some ⟨gx, 0, none⟩) ∧ w.heap.size + 1 < gx ∧ (A2 = none → zs.length = 0 ∧ c2 = 0) ∧ Hid (Blk wx gx 27 #[.int .i64 key, .slice A2 zs.length c2, .int .i64 sum]) ∧ Hid (Blk wx w.heap.size 27 #[.int .i64 key, .slice A1 zs.length c1, .int .i64 sum]) ∧ Hid (Blk wx (w.heap.size + 1) 27 #[.int .i64 0, .slice none 0 0, .int .i64 0]) ∧ Hid (wx.ownsRow (w.heap.size + 1 + 1) 3 1 (.slice A2 zs.length c2) zs.length (ints zs)) ∧ Hid (∀ k, (Value.slice A2 zs.length c2).ownBlock = some k → k ≠ gx) ∧ Hid (Below w.heap.size w wx))
      case first =>
        have HW : Hid (Below w2.heap.size w2 w2) := Below.refl _ _
        have KP0 := Lib.hid kp_0
        have KP1 := Lib.hid kp_1
        have KP2 := Lib.hid kp_2
        go_region_held3 (fun w' => w'.cell? ⟨w.heap.size, 0, none⟩ = some (.int .i64 key) ∧ w'.cell? ⟨w.heap.size, 1, none⟩ = some (.slice A1 zs.length c1) ∧ w'.cell? ⟨w.heap.size, 2, none⟩ = some (.int .i64 sum)) (refine ⟨?_, ?_, ?_⟩ <;> (repeat' (first | with_reducible exact kp_0 | with_reducible exact kp_1 | with_reducible exact kp_2 | (with_reducible refine keepS ?_ (by dsimp only; first | exact Nat.ne_of_lt (by assumption) | omega) _) | with_reducible refine keepA ?_ _ | with_reducible refine keepD ?_)))
          ((refine step_append_rd (by rfl) _ _ _ (by rfl) w2.heap.size 3 i0 _ 1 8 Try.underlying22 hi hz0 hz1 hz2 rfl (by omega) _ 0 (ints []) (by rfl) (by first | exact ownD (lit0 _ (Nat.le_refl _)) | exact ownD ((lit0 _ (Nat.le_refl _)).alloc _) | exact ownD (lit1 _ (by simp) (by omega)) | exact lit0 _ (Nat.le_refl _) | exact (lit0 _ (Nat.le_refl _)).alloc _ | exact lit1 _ (by simp) (by omega)) A1 zs.length c1 (ints zs) (by rfl) (by exact (Rd.of_own HO.out).wid1 (by go_grown)) (ints_one _) (by unfold maxLen; omega) (by omega) (by first | (simp; done) | (simp; omega)) ?_; intro vA wA hoA hgA hatA; rw [Nat.zero_add] at hoA; obtain ⟨A2, c2, rfl, hlA, hoA2, hnA⟩ := own_slice (show wA.ownsRow w2.heap.size 3 1 vA zs.length (ints zs) from hoA); have hBx : Below w2.heap.size w2 wA := below_own (size := 1) (by go_grown) (by first | exact ownD (lit0 _ (Nat.le_refl _)) | exact ownD ((lit0 _ (Nat.le_refl _)).alloc _) | exact ownD (lit1 _ (by simp) (by omega)) | exact lit0 _ (Nat.le_refl _) | exact (lit0 _ (Nat.le_refl _)).alloc _ | exact lit1 _ (by simp) (by omega)) (Nat.le_refl _) (by first | (simp; done) | (simp; omega)) hgA; have hsA := hBx.size; have hgs := hgA.size; (try (have qx : Hid (Blk wA (w2.heap.size + 1) 27 #[.int .i64 0, .slice none 0 0, .int .i64 0]) := (hgA.block _ (by first | (simp; done) | (simp; omega)) (fun e => by have e2 := Option.some.inj e; dsimp only at e2; omega)).trans (by first | exact Blk.at_ _ _ _ (by simp) | exact Blk.drew (Blk.at_ _ _ _ (by simp))); have kx_0 := qx.out.cell 0 rfl; have kx_1 := qx.out.cell 1 rfl; have kx_2 := qx.out.cell 2 rfl; have fx_0 := qx.out.frozen 0; have fx_1 := qx.out.frozen 1; have fx_2 := qx.out.frozen 2; have lx := qx.out.lt; have HDX : Hid (∀ k, (Value.slice A2 zs.length c2).ownBlock = some k → k ≠ w2.heap.size + 1) := own_ne (b := w2.heap.size) (h := w2.heap.size + 1 + 1) hatA rfl (by simp) (by omega) (by omega))); (try (have qy : Hid (Blk wA w2.heap.size 27 #[.int .i64 0, .slice none 0 0, .int .i64 0]) := (hgA.block _ (by first | (simp; done) | (simp; omega)) (fun e => by have e2 := Option.some.inj e; dsimp only at e2; omega)).trans (by first | exact (Blk.at_ _ _ _ rfl).alloc _ | exact Blk.drew ((Blk.at_ _ _ _ rfl).alloc _)); have ky_0 := qy.out.cell 0 rfl; have ky_1 := qy.out.cell 1 rfl; have ky_2 := qy.out.cell 2 rfl; have fy_0 := qy.out.frozen 0; have fy_1 := qy.out.frozen 1; have fy_2 := qy.out.frozen 2; have ly := qy.out.lt; have HDY : Hid (∀ k, (Value.slice A2 zs.length c2).ownBlock = some k → k ≠ w2.heap.size) := own_ne (b := w2.heap.size + 1) (h := w2.heap.size + 1 + 1) hatA rfl (by simp) (by omega) (by omega))); skip; have HOA := Lib.hid hoA2; have HNA := Lib.hid hnA; have HLA := Lib.hid hlA; clear kp_0 kp_1 kp_2; have kp_0 := (hBx.cell (p := ⟨w.heap.size, 0, none⟩) lp).trans KP0.out; have kp_1 := (hBx.cell (p := ⟨w.heap.size, 1, none⟩) lp).trans KP1.out; have kp_2 := (hBx.cell (p := ⟨w.heap.size, 2, none⟩) lp).trans KP2.out; have HBX := Lib.hid hBx; clear hBx hoA hoA2 hnA hlA hatA hgA))
        · go_wp2_with fail
          go_meet
          exact ⟨wA.heap.size, A2, c2, rfl, by omega, HNA.out, (by exact Blk.at_ _ _ _ rfl), (by exact (qp.out.below (Nat.le_refl _) HBX.out).alloc _), (by exact (qr.out.below (Nat.le_refl _) HBX.out).alloc _), (by exact (own_baseS HOA.out (by omega)).alloc _), (by intro k hk; have := (HOA.out.lt k hk).2; omega), (by exact (Below.andThen HB2.out HBX.out).alloc (by omega) _)⟩
        · go_wp2_with fail
          go_meet
          exact ⟨w2.heap.size + 1, A2, c2, rfl, by omega, HNA.out, (by exact ((qx.out.set_ 0 _).set_ 1 _).set_ 2 _), (by exact (((qp.out.below (Nat.le_refl _) HBX.out).far (by dsimp only; omega) _).far (by dsimp only; omega) _).far (by dsimp only; omega) _), (by exact (((qr.out.below (Nat.le_refl _) HBX.out).far (by dsimp only; omega) _).far (by dsimp only; omega) _).far (by dsimp only; omega) _), (by exact own_baseS (ownFar' (ownFar' (ownFar' HOA.out (fun k hk => HDX.out k hk) _) (fun k hk => HDX.out k hk) _) (fun k hk => HDX.out k hk) _) (by omega)), (by exact HDX.out), (by exact (((Below.andThen HB2.out HBX.out).setCell (by first | (simp; done) | (simp; omega)) _).setCell (by first | (simp; done) | (simp; omega)) _).setCell (by first | (simp; done) | (simp; omega)) _)⟩
        · go_wp2_with fail
          go_meet
          exact ⟨w2.heap.size, A2, c2, rfl, by omega, HNA.out, (by exact ((qy.out.set_ 0 _).set_ 1 _).set_ 2 _), (by exact (((qp.out.below (Nat.le_refl _) HBX.out).far (by dsimp only; omega) _).far (by dsimp only; omega) _).far (by dsimp only; omega) _), (by exact (((qr.out.below (Nat.le_refl _) HBX.out).far (by dsimp only; omega) _).far (by dsimp only; omega) _).far (by dsimp only; omega) _), (by exact own_baseS (ownFar' (ownFar' (ownFar' HOA.out (fun k hk => HDY.out k hk) _) (fun k hk => HDY.out k hk) _) (fun k hk => HDY.out k hk) _) (by omega)), (by exact HDY.out), (by exact (((Below.andThen HB2.out HBX.out).setCell (by first | (simp; done) | (simp; omega)) _).setCell (by first | (simp; done) | (simp; omega)) _).setCell (by first | (simp; done) | (simp; omega)) _)⟩
      case rest =>
        obtain ⟨gx, A2, c2, rfl, hgx, hnA, qx, qp, qr, HO2, HD, HBC⟩ := hcut
        obtain ⟨w3, rfl⟩ : ∃ x, x = wc := ⟨_, rfl⟩
        clear lp kp_0 fp_0 kp_1 fp_1 kp_2 fp_2 lr kr_0 fr_0 kr_1 fr_1 kr_2 fr_2
        have kx_0 : w3.cell? ⟨gx, 0, none⟩ = some (.int .i64 key) := qx.out.cell 0 rfl
        have fx_0 := qx.out.frozen 0
        have kx_1 : w3.cell? ⟨gx, 1, none⟩ = some (.slice A2 zs.length c2) := qx.out.cell 1 rfl
        have fx_1 := qx.out.frozen 1
        have kx_2 : w3.cell? ⟨gx, 2, none⟩ = some (.int .i64 sum) := qx.out.cell 2 rfl
        have fx_2 := qx.out.frozen 2
        have lx := qx.out.lt
        have kp_0 : w3.cell? ⟨w.heap.size, 0, none⟩ = some (.int .i64 key) := qp.out.cell 0 rfl
        have fp_0 := qp.out.frozen 0
        have kp_1 : w3.cell? ⟨w.heap.size, 1, none⟩ = some (.slice A1 zs.length c1) := qp.out.cell 1 rfl
        have fp_1 := qp.out.frozen 1
        have kp_2 : w3.cell? ⟨w.heap.size, 2, none⟩ = some (.int .i64 sum) := qp.out.cell 2 rfl
        have fp_2 := qp.out.frozen 2
        have lp := qp.out.lt
        have kr_0 : w3.cell? ⟨w.heap.size + 1, 0, none⟩ = some (.int .i64 0) := qr.out.cell 0 rfl
        have fr_0 := qr.out.frozen 0
        have kr_1 : w3.cell? ⟨w.heap.size + 1, 1, none⟩ = some (.slice none 0 0) := qr.out.cell 1 rfl
        have fr_1 := qr.out.frozen 1
        have kr_2 : w3.cell? ⟨w.heap.size + 1, 2, none⟩ = some (.int .i64 0) := qr.out.cell 2 rfl
        have fr_2 := qr.out.frozen 2
        have lr := qr.out.lt
        have hq : ((zs.length : Int) == 60) = false := by simp; omega
        have hks : Hid (inB sum 0 1048572 = true) := by show _ = _; rw [auditOk_sum H1.out]; have := inB_true.1 hk.out; exact inB_true.2 (mixAll_rng zs key this.1 this.2)
        go_wp2_with (first | (at_builtin; refine wpList_append_rd _ rfl _ _ 22 rfl (w.heap.size + 1 + 1) 3 i0 (.int .i64 0) 1 8 Try.underlying22 hi hz0 hz1 hz2 rfl (by omega) _ zs.length (ints zs) rfl (HO2.out.alloc _) _ 1 1 (ints [entry]) rfl (rd_new rfl rfl) (ints_one _) (by unfold maxLen; omega) (by omega) (by simp; omega) ?_; intro v4 w4 ho4 hg4 hat4; obtain ⟨A3, c3, rfl, hl5, ho5, hn5⟩ := own_slice (show w4.ownsRow (w.heap.size + 1 + 1) 3 1 v4 (zs.length + 1) (ints R4) from (by rw [HR4.out, ints_app]; exact ho4)); have HO4 := Lib.hid ho5; have HN4 := Lib.hid hn5; have HG4 := Lib.hid hg4; have HD4 : Hid (∀ k, (Value.slice A3 R4.length c3).ownBlock = some k → k ≠ gx) := (by intro k hk9; rcases hat4 with e | e <;> first | exact HD.out k (e.symm.trans hk9) | (have := Option.some.inj (hk9.symm.trans e); simp at this; omega)); have HB4 : Hid (Below w.heap.size w w4) := below_own (size := 1) (base := w.heap.size + 1 + 1) (HBC.out.alloc (by omega) _) (HO2.out.alloc _) (by omega) (by simp; omega) hg4; have hs4 := HG4.out.size; simp only [World.size_alloc] at hs4; clear lx kx_0 fx_0 kx_1 fx_1 kx_2 fx_2 lp kp_0 fp_0 kp_1 fp_1 kp_2 fp_2 lr kr_0 fr_0 kr_1 fr_1 kr_2 fr_2; have qx := Lib.hid (Blk.grown (qx.out.alloc _) HG4.out HD.out); have qp := Lib.hid (Blk.grown (qp.out.alloc _) HG4.out (fun k hk9 => by have := (HO2.out.lt k hk9).1; omega)); have qr := Lib.hid (Blk.grown (qr.out.alloc _) HG4.out (fun k hk9 => by have := (HO2.out.lt k hk9).1; omega)); clear ho4 hg4 hat4 ho5 hn5 hl5; have kx_0 : w4.cell? ⟨gx, 0, none⟩ = some (.int .i64 key) := qx.out.cell 0 rfl; have fx_0 := qx.out.frozen 0; have kx_1 : w4.cell? ⟨gx, 1, none⟩ = some (.slice A2 zs.length c2) := qx.out.cell 1 rfl; have fx_1 := qx.out.frozen 1; have kx_2 : w4.cell? ⟨gx, 2, none⟩ = some (.int .i64 sum) := qx.out.cell 2 rfl; have fx_2 := qx.out.frozen 2; have lx := qx.out.lt; have kp_0 : w4.cell? ⟨w.heap.size, 0, none⟩ = some (.int .i64 key) := qp.out.cell 0 rfl; have fp_0 := qp.out.frozen 0; have kp_1 : w4.cell? ⟨w.heap.size, 1, none⟩ = some (.slice A1 zs.length c1) := qp.out.cell 1 rfl; have fp_1 := qp.out.frozen 1; have kp_2 : w4.cell? ⟨w.heap.size, 2, none⟩ = some (.int .i64 sum) := qp.out.cell 2 rfl; have fp_2 := qp.out.frozen 2; have lp := qp.out.lt; have kr_0 : w4.cell? ⟨w.heap.size + 1, 0, none⟩ = some (.int .i64 0) := qr.out.cell 0 rfl; have fr_0 := qr.out.frozen 0; have kr_1 : w4.cell? ⟨w.heap.size + 1, 1, none⟩ = some (.slice none 0 0) := qr.out.cell 1 rfl; have fr_1 := qr.out.frozen 1; have kr_2 : w4.cell? ⟨w.heap.size + 1, 2, none⟩ = some (.int .i64 0) := qr.out.cell 2 rfl; have fr_2 := qr.out.frozen 2; have lr := qr.out.lt) | fail)
        refine (sMix_yes sum _ 1 1 [entry] _ (by omega) hks.out (rd_new (by simp) rfl)).mono ?_
        rintro e0 w5 ⟨rfl, hb5⟩
        have HB5 : Hid (Below w.heap.size w w5) := Below.andThen ((HB4.out.setCell (by first | (simp; done) | (simp; omega)) _).alloc (by simp; omega) _) hb5
        have hs5 := hb5.size
        simp only [World.size_alloc, setCellA_size] at hs5
        clear lx kx_0 fx_0 kx_1 fx_1 kx_2 fx_2 lp kp_0 fp_0 kp_1 fp_1 kp_2 fp_2 lr kr_0 fr_0 kr_1 fr_1 kr_2 fr_2
        have qx : Hid (Blk w5 gx 27 #[.int .i64 key, .slice A3 R4.length c3, .int .i64 sum]) := ((qx.out.set_ 1 _).alloc _).below (Nat.le_refl _) hb5
        have qp : Hid (Blk w5 (w.heap.size) 27 #[.int .i64 key, .slice A1 zs.length c1, .int .i64 sum]) := ((qp.out.far (by first | (simp; done) | (simp; omega)) _).alloc _).below (Nat.le_refl _) hb5
        have qr : Hid (Blk w5 (w.heap.size + 1) 27 #[.int .i64 0, .slice none 0 0, .int .i64 0]) := ((qr.out.far (by first | (simp; done) | (simp; omega)) _).alloc _).below (Nat.le_refl _) hb5
        have HO5 : Hid (w5.ownsRow (w.heap.size + 1 + 1) 3 1 (.slice A3 R4.length c3) R4.length (ints R4)) := own_below hb5 (Nat.le_refl _) ((ownFar' HO4.out (fun k hk => HD4.out k hk) _).alloc _)
        clear hb5
        have kx_0 : w5.cell? ⟨gx, 0, none⟩ = some (.int .i64 key) := qx.out.cell 0 rfl
        have fx_0 := qx.out.frozen 0
        have kx_1 : w5.cell? ⟨gx, 1, none⟩ = some (.slice A3 R4.length c3) := qx.out.cell 1 rfl
        have fx_1 := qx.out.frozen 1
        have kx_2 : w5.cell? ⟨gx, 2, none⟩ = some (.int .i64 sum) := qx.out.cell 2 rfl
        have fx_2 := qx.out.frozen 2
        have lx := qx.out.lt
        have kp_0 : w5.cell? ⟨w.heap.size, 0, none⟩ = some (.int .i64 key) := qp.out.cell 0 rfl
        have fp_0 := qp.out.frozen 0
        have kp_1 : w5.cell? ⟨w.heap.size, 1, none⟩ = some (.slice A1 zs.length c1) := qp.out.cell 1 rfl
        have fp_1 := qp.out.frozen 1
        have kp_2 : w5.cell? ⟨w.heap.size, 2, none⟩ = some (.int .i64 sum) := qp.out.cell 2 rfl
        have fp_2 := qp.out.frozen 2
        have lp := qp.out.lt
        have kr_0 : w5.cell? ⟨w.heap.size + 1, 0, none⟩ = some (.int .i64 0) := qr.out.cell 0 rfl
        have fr_0 := qr.out.frozen 0
        have kr_1 : w5.cell? ⟨w.heap.size + 1, 1, none⟩ = some (.slice none 0 0) := qr.out.cell 1 rfl
        have fr_1 := qr.out.frozen 1
        have kr_2 : w5.cell? ⟨w.heap.size + 1, 2, none⟩ = some (.int .i64 0) := qr.out.cell 2 rfl
        have fr_2 := qr.out.frozen 2
        have lr := qr.out.lt
        go_wp2
        refine bodyPost_ret (v := .tuple #[.agg #[.int .i64 key, .slice A3 R4.length c3, .int .i64 (mixAll sum [entry])], .bool true]) (by simp [results, Try.results17, go_sem, *]) rfl ?_
        refine ⟨A3, c3, rfl, Fr.of_own (c := c3) ?_, HN4.out, ?_⟩
        · exact own_baseS (ownFar (ownFar (ownFar (ownFar' HO5.out (fun k hk => HD4.out k hk) _) (by first | (simp; done) | (simp; omega)) _) (by first | (simp; done) | (simp; omega)) _) (by first | (simp; done) | (simp; omega)) _) (by omega)
        · exact (((HB5.out.setCell (by first | (simp; done) | (simp; omega)) _).setCell (by first | (simp; done) | (simp; omega)) _).setCell (by first | (simp; done) | (simp; omega)) _).setCell (by first | (simp; done) | (simp; omega)) _
    · skip
      rw [show appS key zs sum entry = sum by unfold appS; rw [if_pos H1.out, if_neg hlt], show appB key zs sum = false by unfold appB; rw [H1.out, decide_eq_false hlt]; rfl, show appL key zs sum entry = zs by unfold appL; rw [if_pos H1.out, if_neg hlt]]
      go_enter Try.func17, Try.ntmps17
      go_wp2_with fail
      refine (l1OwnAudit_any key A n c zs sum _ hm (HR.out.below (Nat.le_refl _) (by go_grown))).mono ?_
      rintro e0 w1 ⟨A1, c1, rfl, ho1, hb1⟩
      simp only [World.size_alloc] at ho1
      have HB1 : Hid (Below w.heap.size w w1) := Below.andThen (w := w) (by go_grown) hb1
      have hs1 := hb1.size
      simp only [World.size_alloc] at hs1
      have qp : Hid (Blk w1 (w.heap.size) 27 #[.int .i64 key, .slice A n c, .int .i64 sum]) := Blk.below (w' := w1) (by repeat' (first | (refine Blk.at_ _ _ _ ?_; first | rfl | (simp; done)) | refine Blk.alloc ?_ _ | assumption)) (Nat.le_refl _) hb1
      have qr : Hid (Blk w1 (w.heap.size + 1) 27 #[.int .i64 0, .slice none 0 0, .int .i64 0]) := Blk.below (w' := w1) (by repeat' (first | (refine Blk.at_ _ _ _ ?_; first | rfl | (simp; done)) | refine Blk.alloc ?_ _ | assumption)) (Nat.le_refl _) hb1
      have HO := Lib.hid ho1
      have kp_0 : w1.cell? ⟨w.heap.size, 0, none⟩ = some (.int .i64 key) := qp.out.cell 0 rfl
      have fp_0 := qp.out.frozen 0
      have kp_1 : w1.cell? ⟨w.heap.size, 1, none⟩ = some (.slice A n c) := qp.out.cell 1 rfl
      have fp_1 := qp.out.frozen 1
      have kp_2 : w1.cell? ⟨w.heap.size, 2, none⟩ = some (.int .i64 sum) := qp.out.cell 2 rfl
      have fp_2 := qp.out.frozen 2
      have lp := qp.out.lt
      have kr_0 : w1.cell? ⟨w.heap.size + 1, 0, none⟩ = some (.int .i64 0) := qr.out.cell 0 rfl
      have fr_0 := qr.out.frozen 0
      have kr_1 : w1.cell? ⟨w.heap.size + 1, 1, none⟩ = some (.slice none 0 0) := qr.out.cell 1 rfl
      have fr_1 := qr.out.frozen 1
      have kr_2 : w1.cell? ⟨w.heap.size + 1, 2, none⟩ = some (.int .i64 0) := qr.out.cell 2 rfl
      have fr_2 := qr.out.frozen 2
      have lr := qr.out.lt
      clear hb1 ho1
      go_wp2_with fail
      refine (sAuditValid_is H1.out _ (by omega) (Rd.of_own (ownFar (ownFar (ownFar HO.out (by first | (simp; done) | (simp; omega)) _) (by first | (simp; done) | (simp; omega)) _) (by first | (simp; done) | (simp; omega)) _))).mono ?_
      rintro e0 w2 ⟨rfl, hb2⟩
      have HB2 : Hid (Below w.heap.size w w2) := Below.andThen (((HB1.out.setCell (by first | (simp; done) | (simp; omega)) _).setCell (by first | (simp; done) | (simp; omega)) _).setCell (by first | (simp; done) | (simp; omega)) _) hb2
      have hs2 := hb2.size
      simp only [setCellA_size] at hs2
      clear lp kp_0 fp_0 kp_1 fp_1 kp_2 fp_2 lr kr_0 fr_0 kr_1 fr_1 kr_2 fr_2
      have qp : Hid (Blk w2 (w.heap.size) 27 #[.int .i64 key, .slice A1 zs.length c1, .int .i64 sum]) := (((qp.out.set_ 0 _).set_ 1 _).set_ 2 _).below (Nat.le_refl _) hb2
      have qr : Hid (Blk w2 (w.heap.size + 1) 27 #[.int .i64 0, .slice none 0 0, .int .i64 0]) := (((qr.out.far (by first | (simp; done) | (simp; omega)) _).far (by first | (simp; done) | (simp; omega)) _).far (by first | (simp; done) | (simp; omega)) _).below (Nat.le_refl _) hb2
      have HO : Hid (w2.ownsRow (w.heap.size + 1 + 1) 3 1 (.slice A1 zs.length c1) zs.length (ints zs)) := own_below hb2 (Nat.le_refl _) (ownFar (ownFar (ownFar HO.out (by first | (simp; done) | (simp; omega)) _) (by first | (simp; done) | (simp; omega)) _) (by first | (simp; done) | (simp; omega)) _)
      clear hb2
      have kp_0 : w2.cell? ⟨w.heap.size, 0, none⟩ = some (.int .i64 key) := qp.out.cell 0 rfl
      have fp_0 := qp.out.frozen 0
      have kp_1 : w2.cell? ⟨w.heap.size, 1, none⟩ = some (.slice A1 zs.length c1) := qp.out.cell 1 rfl
      have fp_1 := qp.out.frozen 1
      have kp_2 : w2.cell? ⟨w.heap.size, 2, none⟩ = some (.int .i64 sum) := qp.out.cell 2 rfl
      have fp_2 := qp.out.frozen 2
      have lp := qp.out.lt
      have kr_0 : w2.cell? ⟨w.heap.size + 1, 0, none⟩ = some (.int .i64 0) := qr.out.cell 0 rfl
      have fr_0 := qr.out.frozen 0
      have kr_1 : w2.cell? ⟨w.heap.size + 1, 1, none⟩ = some (.slice none 0 0) := qr.out.cell 1 rfl
      have fr_1 := qr.out.frozen 1
      have kr_2 : w2.cell? ⟨w.heap.size + 1, 2, none⟩ = some (.int .i64 0) := qr.out.cell 2 rfl
      have fr_2 := qr.out.frozen 2
      have lr := qr.out.lt
      have hq0 := hs1
      go_upto_region 4 with fail
      go_cut [6] (fun s6 wx => ∃ (gx : Nat) (A2 : Option Addr) (c2 : Nat), s6 = .pointer (some ⟨gx, 0, none⟩) ∧ w.heap.size + 1 < gx ∧ (A2 = none → zs.length = 0 ∧ c2 = 0) ∧ Hid (Blk wx gx 27 #[.int .i64 key, .slice A2 zs.length c2, .int .i64 sum]) ∧ Hid (Blk wx w.heap.size 27 #[.int .i64 key, .slice A1 zs.length c1, .int .i64 sum]) ∧ Hid (Blk wx (w.heap.size + 1) 27 #[.int .i64 0, .slice none 0 0, .int .i64 0]) ∧ Hid (wx.ownsRow (w.heap.size + 1 + 1) 3 1 (.slice A2 zs.length c2) zs.length (ints zs)) ∧ Hid (∀ k, (Value.slice A2 zs.length c2).ownBlock = some k → k ≠ gx) ∧ Hid (Below w.heap.size w wx))
      case first =>
        have HW : Hid (Below w2.heap.size w2 w2) := Below.refl _ _
        have KP0 := Lib.hid kp_0
        have KP1 := Lib.hid kp_1
        have KP2 := Lib.hid kp_2
        go_region_held3 (fun w' => w'.cell? ⟨w.heap.size, 0, none⟩ = some (.int .i64 key) ∧ w'.cell? ⟨w.heap.size, 1, none⟩ = some (.slice A1 zs.length c1) ∧ w'.cell? ⟨w.heap.size, 2, none⟩ = some (.int .i64 sum)) (refine ⟨?_, ?_, ?_⟩ <;> (repeat' (first | with_reducible exact kp_0 | with_reducible exact kp_1 | with_reducible exact kp_2 | (with_reducible refine keepS ?_ (by dsimp only; first | exact Nat.ne_of_lt (by assumption) | omega) _) | with_reducible refine keepA ?_ _ | with_reducible refine keepD ?_)))
          ((refine step_append_rd (by rfl) _ _ _ (by rfl) w2.heap.size 3 i0 _ 1 8 Try.underlying22 hi hz0 hz1 hz2 rfl (by omega) _ 0 (ints []) (by rfl) (by first | exact ownD (lit0 _ (Nat.le_refl _)) | exact ownD ((lit0 _ (Nat.le_refl _)).alloc _) | exact ownD (lit1 _ (by simp) (by omega)) | exact lit0 _ (Nat.le_refl _) | exact (lit0 _ (Nat.le_refl _)).alloc _ | exact lit1 _ (by simp) (by omega)) A1 zs.length c1 (ints zs) (by rfl) (by exact (Rd.of_own HO.out).wid1 (by go_grown)) (ints_one _) (by unfold maxLen; omega) (by omega) (by first | (simp; done) | (simp; omega)) ?_; intro vA wA hoA hgA hatA; rw [Nat.zero_add] at hoA; obtain ⟨A2, c2, rfl, hlA, hoA2, hnA⟩ := own_slice (show wA.ownsRow w2.heap.size 3 1 vA zs.length (ints zs) from hoA); have hBx : Below w2.heap.size w2 wA := below_own (size := 1) (by go_grown) (by first | exact ownD (lit0 _ (Nat.le_refl _)) | exact ownD ((lit0 _ (Nat.le_refl _)).alloc _) | exact ownD (lit1 _ (by simp) (by omega)) | exact lit0 _ (Nat.le_refl _) | exact (lit0 _ (Nat.le_refl _)).alloc _ | exact lit1 _ (by simp) (by omega)) (Nat.le_refl _) (by first | (simp; done) | (simp; omega)) hgA; have hsA := hBx.size; have hgs := hgA.size; (try (have qx : Hid (Blk wA (w2.heap.size + 1) 27 #[.int .i64 0, .slice none 0 0, .int .i64 0]) := (hgA.block _ (by first | (simp; done) | (simp; omega)) (fun e => by have e2 := Option.some.inj e; dsimp only at e2; omega)).trans (by first | exact Blk.at_ _ _ _ (by simp) | exact Blk.drew (Blk.at_ _ _ _ (by simp))); have kx_0 := qx.out.cell 0 rfl; have kx_1 := qx.out.cell 1 rfl; have kx_2 := qx.out.cell 2 rfl; have fx_0 := qx.out.frozen 0; have fx_1 := qx.out.frozen 1; have fx_2 := qx.out.frozen 2; have lx := qx.out.lt; have HDX : Hid (∀ k, (Value.slice A2 zs.length c2).ownBlock = some k → k ≠ w2.heap.size + 1) := own_ne (b := w2.heap.size) (h := w2.heap.size + 1 + 1) hatA rfl (by simp) (by omega) (by omega))); (try (have qy : Hid (Blk wA w2.heap.size 27 #[.int .i64 0, .slice none 0 0, .int .i64 0]) := (hgA.block _ (by first | (simp; done) | (simp; omega)) (fun e => by have e2 := Option.some.inj e; dsimp only at e2; omega)).trans (by first | exact (Blk.at_ _ _ _ rfl).alloc _ | exact Blk.drew ((Blk.at_ _ _ _ rfl).alloc _)); have ky_0 := qy.out.cell 0 rfl; have ky_1 := qy.out.cell 1 rfl; have ky_2 := qy.out.cell 2 rfl; have fy_0 := qy.out.frozen 0; have fy_1 := qy.out.frozen 1; have fy_2 := qy.out.frozen 2; have ly := qy.out.lt; have HDY : Hid (∀ k, (Value.slice A2 zs.length c2).ownBlock = some k → k ≠ w2.heap.size) := own_ne (b := w2.heap.size + 1) (h := w2.heap.size + 1 + 1) hatA rfl (by simp) (by omega) (by omega))); skip; have HOA := Lib.hid hoA2; have HNA := Lib.hid hnA; have HLA := Lib.hid hlA; clear kp_0 kp_1 kp_2; have kp_0 := (hBx.cell (p := ⟨w.heap.size, 0, none⟩) lp).trans KP0.out; have kp_1 := (hBx.cell (p := ⟨w.heap.size, 1, none⟩) lp).trans KP1.out; have kp_2 := (hBx.cell (p := ⟨w.heap.size, 2, none⟩) lp).trans KP2.out; have HBX := Lib.hid hBx; clear hBx hoA hoA2 hnA hlA hatA hgA))
        · go_wp2_with fail
          go_meet
          exact ⟨wA.heap.size, A2, c2, rfl, by omega, HNA.out, (by exact Blk.at_ _ _ _ rfl), (by exact (qp.out.below (Nat.le_refl _) HBX.out).alloc _), (by exact (qr.out.below (Nat.le_refl _) HBX.out).alloc _), (by exact (own_baseS HOA.out (by omega)).alloc _), (by intro k hk; have := (HOA.out.lt k hk).2; omega), (by exact (Below.andThen HB2.out HBX.out).alloc (by omega) _)⟩
        · go_wp2_with fail
          go_meet
          exact ⟨w2.heap.size + 1, A2, c2, rfl, by omega, HNA.out, (by exact ((qx.out.set_ 0 _).set_ 1 _).set_ 2 _), (by exact (((qp.out.below (Nat.le_refl _) HBX.out).far (by dsimp only; omega) _).far (by dsimp only; omega) _).far (by dsimp only; omega) _), (by exact (((qr.out.below (Nat.le_refl _) HBX.out).far (by dsimp only; omega) _).far (by dsimp only; omega) _).far (by dsimp only; omega) _), (by exact own_baseS (ownFar' (ownFar' (ownFar' HOA.out (fun k hk => HDX.out k hk) _) (fun k hk => HDX.out k hk) _) (fun k hk => HDX.out k hk) _) (by omega)), (by exact HDX.out), (by exact (((Below.andThen HB2.out HBX.out).setCell (by first | (simp; done) | (simp; omega)) _).setCell (by first | (simp; done) | (simp; omega)) _).setCell (by first | (simp; done) | (simp; omega)) _)⟩
        · go_wp2_with fail
          go_meet
          exact ⟨w2.heap.size, A2, c2, rfl, by omega, HNA.out, (by exact ((qy.out.set_ 0 _).set_ 1 _).set_ 2 _), (by exact (((qp.out.below (Nat.le_refl _) HBX.out).far (by dsimp only; omega) _).far (by dsimp only; omega) _).far (by dsimp only; omega) _), (by exact (((qr.out.below (Nat.le_refl _) HBX.out).far (by dsimp only; omega) _).far (by dsimp only; omega) _).far (by dsimp only; omega) _), (by exact own_baseS (ownFar' (ownFar' (ownFar' HOA.out (fun k hk => HDY.out k hk) _) (fun k hk => HDY.out k hk) _) (fun k hk => HDY.out k hk) _) (by omega)), (by exact HDY.out), (by exact (((Below.andThen HB2.out HBX.out).setCell (by first | (simp; done) | (simp; omega)) _).setCell (by first | (simp; done) | (simp; omega)) _).setCell (by first | (simp; done) | (simp; omega)) _)⟩
      case rest =>
        obtain ⟨gx, A2, c2, rfl, hgx, hnA, qx, qp, qr, HO2, HD, HBC⟩ := hcut
        obtain ⟨w3, rfl⟩ : ∃ x, x = wc := ⟨_, rfl⟩
        clear lp kp_0 fp_0 kp_1 fp_1 kp_2 fp_2 lr kr_0 fr_0 kr_1 fr_1 kr_2 fr_2
        have kx_0 : w3.cell? ⟨gx, 0, none⟩ = some (.int .i64 key) := qx.out.cell 0 rfl
        have fx_0 := qx.out.frozen 0
        have kx_1 : w3.cell? ⟨gx, 1, none⟩ = some (.slice A2 zs.length c2) := qx.out.cell 1 rfl
        have fx_1 := qx.out.frozen 1
        have kx_2 : w3.cell? ⟨gx, 2, none⟩ = some (.int .i64 sum) := qx.out.cell 2 rfl
        have fx_2 := qx.out.frozen 2
        have lx := qx.out.lt
        have kp_0 : w3.cell? ⟨w.heap.size, 0, none⟩ = some (.int .i64 key) := qp.out.cell 0 rfl
        have fp_0 := qp.out.frozen 0
        have kp_1 : w3.cell? ⟨w.heap.size, 1, none⟩ = some (.slice A1 zs.length c1) := qp.out.cell 1 rfl
        have fp_1 := qp.out.frozen 1
        have kp_2 : w3.cell? ⟨w.heap.size, 2, none⟩ = some (.int .i64 sum) := qp.out.cell 2 rfl
        have fp_2 := qp.out.frozen 2
        have lp := qp.out.lt
        have kr_0 : w3.cell? ⟨w.heap.size + 1, 0, none⟩ = some (.int .i64 0) := qr.out.cell 0 rfl
        have fr_0 := qr.out.frozen 0
        have kr_1 : w3.cell? ⟨w.heap.size + 1, 1, none⟩ = some (.slice none 0 0) := qr.out.cell 1 rfl
        have fr_1 := qr.out.frozen 1
        have kr_2 : w3.cell? ⟨w.heap.size + 1, 2, none⟩ = some (.int .i64 0) := qr.out.cell 2 rfl
        have fr_2 := qr.out.frozen 2
        have lr := qr.out.lt
        have hq : ((zs.length : Int) == 60) = true := by have := auditOk_len H1.out; simp; omega
        go_wp2
        refine bodyPost_ret (v := .tuple #[.agg #[.int .i64 key, .slice A2 zs.length c2, .int .i64 sum], .bool false]) (by simp [results, Try.results17, go_sem, *]) rfl ?_
        refine ⟨A2, c2, rfl, Fr.of_own (c := c2) ?_, hnA, ?_⟩
        · exact own_baseS (ownFar (ownFar (ownFar HO2.out (by first | (simp; done) | (simp; omega)) _) (by first | (simp; done) | (simp; omega)) _) (by first | (simp; done) | (simp; omega)) _) (by omega)
        · exact ((HBC.out.setCell (by first | (simp; done) | (simp; omega)) _).setCell (by first | (simp; done) | (simp; omega)) _).setCell (by first | (simp; done) | (simp; omega)) _
end Go.Proofs.Ytboejpljjhgflaa
