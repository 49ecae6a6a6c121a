/-
  MARKS in nested rows of Part, and in a Setup.
  Conditions: none beyond those that each states.
-/
import Derived.Test.YtlckjhbgdbhdmaaSetup
import Derived.Test.YtlckjhbgdbhdmaaMWindow
import Derived.Test.YtlckjhbgdbhdmaaMChannel
import Derived.Test.YtlckjhbgdbhdmaaMSlot
namespace Go.Proofs.Ytlckjhbgdbhdmaa
open Go.ChangeShapes Go.WideShapes Go.ChangeAt Go.RowKit Go.Joins
set_option linter.unusedVariables false

theorem FrI.tight {α β : Type} {m : Nat} {e : TypeId} {f : α → List Value} {inn : β → List α} {w : World} {lo hi : Nat} {p : Hdr × β} (h : FrI m e f inn w lo hi p) : ∃ g, p.1.1 = some ⟨g, 0, none⟩ ∧ lo ≤ g ∧ g < hi ∧ FrI m e f inn w g (g + 1) p ∧ (inn p.2).length = p.1.2.1 ∧ Fr w g (g + 1) e m p.1.1 p.1.2.1 ((inn p.2).flatMap f) := by
  obtain ⟨g, h1, h2, h3, h4, h5, h6, h7⟩ := h
  exact ⟨g, h1, h2, h3, ⟨g, h1, Nat.le_refl _, Nat.lt_succ_self _, h4, h5, h6, h7⟩, h4, h7⟩
theorem apart_at {β : Type} {hx : List (Hdr × β)} (h : Apart hx) {i j : Nat} {p q : Hdr × β} (hi : hx[i]? = some p) (hj : hx[j]? = some q) (hne : i ≠ j) : p.1.1 ≠ q.1.1 := by
  obtain ⟨hi1, hi2⟩ := List.getElem?_eq_some_iff.1 hi
  obtain ⟨hj1, hj2⟩ := List.getElem?_eq_some_iff.1 hj
  have hp := List.pairwise_iff_getElem.1 h
  rcases Nat.lt_or_ge i j with hl | hl
  · have := hp i j hi1 hj1 hl; rw [hi2, hj2] at this; exact this
  · have := hp j i hj1 hi1 (by omega); rw [hi2, hj2] at this; exact fun e => this e.symm
def markPN : List (List (Int × Int × Bool) × Int) → Nat
  | [] => 0
  | x :: xs => (partI x).length * 3 + 1 + markPN xs
theorem markPN_app : ∀ (a b : List (List (Int × Int × Bool) × Int)), markPN (a ++ b) = markPN a + markPN b
  | [], b => by simp [markPN]
  | x :: a, b => by rw [List.cons_append, markPN, markPN, markPN_app a b]; omega
theorem markPN_take {xs : List (List (Int × Int × Bool) × Int)} {j : Nat} {x : List (Int × Int × Bool) × Int} (h : xs[j]? = some x) : markPN (xs.take (j + 1)) = markPN (xs.take j) + ((partI x).length * 3 + 1) := by
  rw [take_snoc h, markPN_app]; simp [markPN]
theorem markPN_le (xs : List (List (Int × Int × Bool) × Int)) (j : Nat) : markPN (xs.take j) ≤ markPN xs := by
  have h := markPN_app (xs.take j) (xs.drop j)
  rw [List.take_append_drop] at h
  omega
theorem markPN_of : ∀ xs : List (List (Int × Int × Bool) × Int), markPN xs = partN xs * 3 + xs.length
  | [] => rfl
  | x :: xs => by
    have h := markPN_of xs
    have e : partN (x :: xs) = (partI x).length + partN xs := by simp [partN, totN]
    rw [markPN, h, e, List.length_cons]; omega
set_option maxRecDepth 100000 in
set_option maxHeartbeats 4000000 in
theorem markPartS_any (g hh n : Nat) (xs : List (List (Int × Int × Bool) × Int)) (k : Int) (w : World) (hm : n ≤ 1048577) (hN : markPN xs ≤ 3145728) (h0 : 0 ≤ k) (h1 : k ≤ 1048576) (hgh : g < hh) (hf : FrO_part w g hh n xs) :
    Calls Try.prog 44 #[.slice (some ⟨g, 0, none⟩) n n, .int .i64 k] w fun e w' => e = .returned (.int .i64 (k + ((markPN xs : Nat) : Int))) ∧ Touch g hh w w' := by
  have hlx0 : xs.length = n := Rd_part.len (FrNO.rd hf)
  obtain ⟨hx, hxs, ho, hap, hin⟩ := hf
  have hlx : Hid (hx.length = n) := by show _ = n; rw [← hlx0, ← hxs, List.length_map]
  have hL0 : Hid (∀ i p, hx[i]? = some p → (hx.flatMap (fun p => partC p.1 p.2))[i * 2]? = some (.slice p.1.1 p.1.2.1 p.1.2.2)) := by
    intro i p hp
    have h := rows_at (f := fun p : Hdr × (List (Int × Int × Bool) × Int) => partC p.1 p.2) (s := 2) (fun _ => rfl) hx i 0 (by omega)
    rw [hp] at h
    simpa [partC] using h
  have HAp := Lib.hid hap
  have HXS := Lib.hid hxs
  have hI0 : Hid (∀ i p, 0 ≤ i → hx[i]? = some p → FrI 3 71 winC partI w (g + 1) hh p) := fun i p _ hp => hin p (List.mem_of_getElem? hp)
  have HO0 := Lib.hid ho
  have HN := Lib.hid hN
  clear ho hap hin hxs hlx0 hN
  go_enter Try.func44, Try.ntmps44
  go_wp2
  go_loopw [1, 5] (fun kk i wr => ∃ (j : Nat) (L : List Value), j ≤ n ∧ i = .int .i64 j ∧ kk = .int .i64 (k + ((markPN (xs.take j) : Nat) : Int)) ∧ Hid (wr.ownsRow g 69 2 (.slice (some ⟨g, 0, none⟩) n n) n L) ∧ Hid (∀ i p, hx[i]? = some p → L[i * 2]? = some (.slice p.1.1 p.1.2.1 p.1.2.2)) ∧ Hid (∀ i p, j ≤ i → hx[i]? = some p → FrI 3 71 winC partI wr (g + 1) hh p) ∧ Touch g hh w wr)
    (fun _ i _ => n - (intOf i).toNat)
  case atStart => exact ⟨0, _, Nat.zero_le _, rfl, by simp [markPN], HO0, hL0, hI0, Touch.refl _ _ _⟩
  case round =>
    obtain ⟨j, L, hj, rfl, rfl, HO, HL, HI, hb⟩ := hrel
    obtain ⟨M, hM⟩ : ∃ M, M = markPN (xs.take j) := ⟨_, rfl⟩
    have hM1 : M ≤ 3145728 := by rw [hM]; exact Nat.le_trans (markPN_le xs j) HN.out
    rw [← hM]
    have HM := Lib.hid hM
    clear hM
    by_cases hlt : j < n
    · obtain ⟨p, hp⟩ : ∃ p, hx[j]? = some p := ⟨_, List.getElem?_eq_getElem (by rw [hlx.out]; exact hlt)⟩
      obtain ⟨⟨Ai, ni, ci⟩, x⟩ := p
      have hxx : xs[j]? = some x := by rw [← HXS.out, List.getElem?_map, hp]; rfl
      have hMj := markPN_take hxx
      have hMl := markPN_le xs (j + 1)
      obtain ⟨gi, e1, hg1, hg2, hft, hni, hfi⟩ := (HI.out j _ (Nat.le_refl _) hp).tight
      dsimp only at e1 hni hfi
      subst e1
      have hni2 : ni ≤ 1048577 := by have := HN.out; omega
      have hkk : M + (ni * 3 + 1) ≤ 3145728 := by have := HN.out; have := HM.out; rw [hni] at hMj; omega
      have hMj2 : Hid (markPN (xs.take (j + 1)) = M + (ni * 3 + 1)) := by show _ = _; rw [hMj, hni, HM.out]
      have t0 : wr.cell? ⟨g, j * 2, none⟩ = some (.slice (some ⟨gi, 0, none⟩) ni ci) := (HO.out.cellAt (j * 2) (by omega)).trans (HL.out j _ hp)
      have HFi := Lib.hid hfi
      have HP := Lib.hid hp
      have HB := Lib.hid hb
      clear hft hni hfi hMj hMl hxx hb hp
      go_wp2_with fail
      refine (markWindowS_any _ _ _ (partI x) _ gi (gi + 1) _ hni2 (by omega) (by omega) (by exact HFi.out)).mono ?_
      rintro e w1 ⟨rfl, _, ht1⟩
      have HO1 : Hid (w1.ownsRow g 69 2 (.slice (some ⟨g, 0, none⟩) n n) n L) := ht1.own HO.out (fun q hq => by have : q = g := (Option.some.inj hq).symm; omega)
      have HT1 := Lib.hid ht1
      have hll := HO1.out.1
      have t1 : ∃ u, w1.cell? ⟨g, j * 2 + 1, none⟩ = some u := ⟨_, (HO1.out.cellAt (j * 2 + 1) (by omega)).trans (List.getElem?_eq_getElem (by omega))⟩
      obtain ⟨u1, t1⟩ := t1
      have g1 := HO1.out.frozenAt (j * 2 + 1)
      clear t0 ht1 hll
      go_wp2
      go_roundw
      case rel =>
        refine ⟨j + 1, L.set (j * 2 + 1) (.int .i64 (k + (M : Int) + ((ni * 3 : Nat) : Int))), by omega, by go_num, congrArg (Value.int .i64) (by rw [hMj2.out]; omega), (HO1.out.stored _ _).1, ?_, ?_, (HB.out.trans (HT1.out.wide (by omega) (by omega))).setCell (Nat.le_refl _) hgh _⟩
        · intro i q hq
          rw [List.getElem?_set_ne (by omega)]
          exact HL.out i q hq
        · intro i q hi hq
          obtain ⟨gq, e2, hq1, hq2, hfq, _, _⟩ := (HI.out i q (by omega) hq).tight
          have hne := apart_at HAp.out hq HP.out (by omega)
          have hgg : gq ≠ gi := by
            intro e3
            subst e3
            exact hne e2
          exact ((hfq.touch HT1.out (by omega)).setFar (a := ⟨g, j * 2 + 1, none⟩) (by left; dsimp only; omega) _).wide (by omega) (by omega)
      case measure => simp [intOf]; omega
    · have hjn : j = n := by omega
      have e : xs.take j = xs := by rw [hjn, ← hlx.out, ← List.length_map (f := Prod.snd), HXS.out, List.take_length]
      have hMx : M = markPN xs := by rw [HM.out, e]
      have HMx := Lib.hid hMx
      clear hMx e
      go_wp2
      go_ret
      exact ⟨ret_int (by rw [HMx.out]), hb⟩
set_option maxRecDepth 100000 in
set_option maxHeartbeats 2000000 in
theorem markSetup_any (g1 g2 g3 lo hh : Nat) (n m q : Nat) (ps : List PartL) (cs : List Chan) (ss : List Slot2) (k : Int) (w : World) (hn : n ≤ 1048577) (hm : m ≤ 1048577) (hq : q ≤ 1048577) (hN : markPN ps ≤ 3145728) (h0 : 0 ≤ k) (h1 : k ≤ 1048576) (hlt : hh ≤ w.heap.size) (hf : Fr_set w lo hh g1 g2 g3 n ps m cs q ss) :
    Calls Try.prog 15 #[.agg #[.slice (some ⟨g1, 0, none⟩) n n, .slice (some ⟨g2, 0, none⟩) m m, .slice (some ⟨g3, 0, none⟩) q q], .int .i64 k] w fun e w' => e = .returned (.int .i64 (k + ((markPN ps + m * 4 + q * 2 : Nat) : Int))) ∧ Touch lo hh w w' := by
  have hl1 := hf.l1
  have hl2 := hf.l2
  have hl3 := hf.l3
  have hl4 := hf.l4
  have HF := Lib.hid hf
  have HN := Lib.hid hN
  clear hf
  go_enter Try.func15, Try.ntmps15
  go_wp2_with fail
  refine (markPartS_any g1 g2 n ps _ _ hn HN.out h0 h1 hl2 (HF.out.alloc _).p).mono ?_
  rintro e w1 ⟨rfl, ht1⟩
  have hs1 := ht1.size
  simp only [World.size_alloc] at hs1
  have qb : Hid (Blk w1 w.heap.size 33 #[.slice (some ⟨g1, 0, none⟩) n n, .slice (some ⟨g2, 0, none⟩) m m, .slice (some ⟨g3, 0, none⟩) q q]) := (Blk.at_ _ _ _ rfl).touch ht1 (.inr (by omega))
  have kb_0 : w1.cell? ⟨w.heap.size, 0, none⟩ = some (.slice (some ⟨g1, 0, none⟩) n n) := qb.out.cell 0 rfl
  have kb_1 : w1.cell? ⟨w.heap.size, 1, none⟩ = some (.slice (some ⟨g2, 0, none⟩) m m) := qb.out.cell 1 rfl
  have kb_2 : w1.cell? ⟨w.heap.size, 2, none⟩ = some (.slice (some ⟨g3, 0, none⟩) q q) := qb.out.cell 2 rfl
  have lb := qb.out.lt
  have HC := Lib.hid ((HF.out.alloc _).c.touch ht1 (.inr (Nat.le_refl _)))
  have HS := Lib.hid ((HF.out.alloc _).s.touch ht1 (.inr (by omega)))
  have HT1 : Hid (Touch lo hh w w1) := Touch.trans (Touch.of_below (B := w.heap.size) ((Below.refl _ _).alloc (Nat.le_refl _) _) (Nat.le_refl _)) (ht1.wide (by omega) (by omega))
  clear ht1
  go_wp2_with fail
  refine (markChannelS_any _ m m cs _ g2 (g2 + 1) _ hm (by omega) (by omega) HC.out).mono ?_
  rintro e w2 ⟨rfl, _, ht2⟩
  have hs2 := ht2.size
  clear kb_0 kb_1 kb_2 lb
  have qb : Hid (Blk w2 w.heap.size 33 #[.slice (some ⟨g1, 0, none⟩) n n, .slice (some ⟨g2, 0, none⟩) m m, .slice (some ⟨g3, 0, none⟩) q q]) := qb.out.touch ht2 (.inr (by omega))
  have kb_0 : w2.cell? ⟨w.heap.size, 0, none⟩ = some (.slice (some ⟨g1, 0, none⟩) n n) := qb.out.cell 0 rfl
  have kb_1 : w2.cell? ⟨w.heap.size, 1, none⟩ = some (.slice (some ⟨g2, 0, none⟩) m m) := qb.out.cell 1 rfl
  have kb_2 : w2.cell? ⟨w.heap.size, 2, none⟩ = some (.slice (some ⟨g3, 0, none⟩) q q) := qb.out.cell 2 rfl
  have lb := qb.out.lt
  have HS2 := Lib.hid (HS.out.touch ht2 (.inr (by omega)))
  have HT2 : Hid (Touch lo hh w w2) := Touch.trans HT1.out (ht2.wide (by omega) (by omega))
  clear ht2
  go_wp2_with fail
  refine (markSlotS_any _ q q ss _ g3 (g3 + 1) _ hq (by omega) (by omega) HS2.out).mono ?_
  rintro e w3 ⟨rfl, _, ht3⟩
  have HT3 : Hid (Touch lo hh w w3) := Touch.trans HT2.out (ht3.wide (by omega) (by omega))
  clear ht3 kb_0 kb_1 kb_2 lb
  go_wp2
  go_ret
  exact ⟨ret_int (by omega), HT3.out⟩
end Go.Proofs.Ytlckjhbgdbhdmaa
