/-
  MARKS in tables of slots, and in Modes.
  Conditions: none beyond those that each states.
-/
import Derived.Test.YtdccgflkhgnflaaModes
import Derived.Test.YtdccgflkhgnflaaMSlot
namespace Go.Proofs.Ytdccgflkhgnflaa
open Go.ChangeShapes Go.WideShapes Go.ChangeAt Go.RowKit Go.Joins
set_option linter.unusedVariables false

theorem FrI.tight {α β : Type} {m : Nat} {e : TypeId} {f : α → List Value} {inn : β → List α} {w : World} {lo hi : Nat} {p : Hdr × β} (h : FrI m e f inn w lo hi p) : ∃ g, p.1.1 = some ⟨g, 0, none⟩ ∧ lo ≤ g ∧ g < hi ∧ FrI m e f inn w g (g + 1) p ∧ (inn p.2).length = p.1.2.1 ∧ Fr w g (g + 1) e m p.1.1 p.1.2.1 ((inn p.2).flatMap f) := by
  obtain ⟨g, h1, h2, h3, h4, h5, h6, h7⟩ := h
  exact ⟨g, h1, h2, h3, ⟨g, h1, Nat.le_refl _, Nat.lt_succ_self _, h4, h5, h6, h7⟩, h4, h7⟩
theorem apart_at {β : Type} {hx : List (Hdr × β)} (h : Apart hx) {i j : Nat} {p q : Hdr × β} (hi : hx[i]? = some p) (hj : hx[j]? = some q) (hne : i ≠ j) : p.1.1 ≠ q.1.1 := by
  obtain ⟨hi1, hi2⟩ := List.getElem?_eq_some_iff.1 hi
  obtain ⟨hj1, hj2⟩ := List.getElem?_eq_some_iff.1 hj
  have hp := List.pairwise_iff_getElem.1 h
  rcases Nat.lt_or_ge i j with hl | hl
  · have := hp i j hi1 hj1 hl; rw [hi2, hj2] at this; exact this
  · have := hp j i hj1 hi1 (by omega); rw [hi2, hj2] at this; exact fun e => this e.symm
theorem tabN_take {xs : List (List (Int × Int))} {j : Nat} {x : List (Int × Int)} (h : xs[j]? = some x) : tabN (xs.take (j + 1)) = tabN (xs.take j) + x.length := totN_snoc h
theorem tabN_le (xs : List (List (Int × Int))) (j : Nat) : tabN (xs.take j) ≤ tabN xs := totN_take _ _ _
set_option maxRecDepth 100000 in
set_option maxHeartbeats 4000000 in
theorem markSlotSS_any (g hh n c : Nat) (xs : List (List (Int × Int))) (k : Int) (w : World) (hm : n ≤ 1048577) (hN : tabN xs ≤ 1048576) (h0 : 0 ≤ k) (h1 : k ≤ 1048576) (hf : Fr_tab w (g + 1) hh (some ⟨g, 0, none⟩) n xs) :
    Calls Try.prog 27 #[.slice (some ⟨g, 0, none⟩) n c, .int .i64 k] w fun e w' => e = .returned (.int .i64 (k + ((tabN xs * 2 : Nat) : Int))) ∧ Touch (g + 1) hh w w' := by
  have hlx0 : xs.length = n := Rd_tab.len (Fr_tab.rd hf)
  obtain ⟨hx, hxs, ho, hblk, hap, hin⟩ := hf
  have hlx : Hid (hx.length = n) := by show _ = n; rw [← hlx0, ← hxs, List.length_map]
  have HC : Hid (∀ i p, hx[i]? = some p → g < w.heap.size ∧ w.cell? ⟨g, i, none⟩ = some (.slice p.1.1 p.1.2.1 p.1.2.2)) := by
    intro i p hp
    have hi : i < n := by have := (List.getElem?_eq_some_iff.1 hp).1; rw [hlx.out] at this; exact this
    obtain ⟨b, o, e, hb, hc⟩ := ho.2 (by omega)
    injection e with e
    injection e with e1 e2
    subst e1 e2
    have h := rows_at (f := fun p : Hdr × List (Int × Int) => tabC p.1 p.2) (s := 1) (fun _ => rfl) hx i 0 (by omega)
    rw [hp] at h
    have h2 := hc (i * 1 + 0) _ h
    rw [Nat.zero_add, Nat.mul_one, Nat.add_zero] at h2
    exact ⟨hb, h2⟩
  have HAp := Lib.hid hap
  have HXS := Lib.hid hxs
  have hI0 : Hid (∀ i p, 0 ≤ i → hx[i]? = some p → FrI 2 58 slotC tabI w (g + 1) hh p) := fun i p _ hp => hin p (List.mem_of_getElem? hp)
  have HN := Lib.hid hN
  clear ho hap hin hxs hlx0 hN hblk
  go_enter Try.func27, Try.ntmps27
  go_wp2
  go_loopw [1, 5] (fun kk i wr => ∃ (j : Nat), j ≤ n ∧ i = .int .i64 j ∧ kk = .int .i64 (k + ((tabN (xs.take j) * 2 : Nat) : Int)) ∧ Hid (∀ i p, j ≤ i → hx[i]? = some p → FrI 2 58 slotC tabI wr (g + 1) hh p) ∧ Touch (g + 1) hh w wr)
    (fun _ i _ => n - (intOf i).toNat)
  case atStart => exact ⟨0, Nat.zero_le _, rfl, by simp [tabN, totN], hI0, Touch.refl _ _ _⟩
  case round =>
    obtain ⟨j, hj, rfl, rfl, HI, hb⟩ := hrel
    obtain ⟨M, hM⟩ : ∃ M, M = tabN (xs.take j) := ⟨_, rfl⟩
    have hM1 : M ≤ 1048576 := by rw [hM]; exact Nat.le_trans (tabN_le xs j) HN.out
    rw [← hM]
    have HM := Lib.hid hM
    clear hM
    by_cases hlt : j < n
    · obtain ⟨p, hp⟩ : ∃ p, hx[j]? = some p := ⟨_, List.getElem?_eq_getElem (by rw [hlx.out]; exact hlt)⟩
      obtain ⟨⟨Ai, ni, ci⟩, x⟩ := p
      have hxx : xs[j]? = some x := by rw [← HXS.out, List.getElem?_map, hp]; rfl
      have hMj := tabN_take hxx
      have hMl := tabN_le xs (j + 1)
      obtain ⟨gi, e1, hg1, hg2, hft, hni, hfi⟩ := (HI.out j _ (Nat.le_refl _) hp).tight
      dsimp only at e1 hni hfi
      subst e1
      have hni3 : x.length = ni := hni
      have hkk : M + ni ≤ 1048576 := by have := HN.out; have := HM.out; rw [hni3] at hMj; omega
      have hni2 : ni ≤ 1048577 := by omega
      have hMj2 : Hid (tabN (xs.take (j + 1)) = M + ni) := by show _ = _; rw [hMj, hni3, HM.out]
      obtain ⟨hgw, hcw⟩ := HC.out j _ hp
      have t0 : wr.cell? ⟨g, j, none⟩ = some (.slice (some ⟨gi, 0, none⟩) ni ci) := (hb.cell (p := ⟨g, j, none⟩) hgw (.inl (Nat.lt_succ_self _))).trans hcw
      have HFi := Lib.hid hfi
      have HP := Lib.hid hp
      have HB := Lib.hid hb
      clear hft hni hni3 hfi hMj hMl hxx hb hp hcw
      go_wp2_with fail
      refine (markSlotS_any _ _ _ (tabI x) _ gi (gi + 1) _ hni2 (by omega) (by omega) (by exact HFi.out)).mono ?_
      rintro e w1 ⟨rfl, _, ht1⟩
      have HT1 := Lib.hid ht1
      clear t0 ht1
      go_wp2
      go_roundw
      case rel =>
        refine ⟨j + 1, by omega, by go_num, congrArg (Value.int .i64) (by rw [hMj2.out]; omega), ?_, HB.out.trans (HT1.out.wide (by omega) (by omega))⟩
        intro i q hi hq
        obtain ⟨gq, e2, hq1, hq2, hfq, _, _⟩ := (HI.out i q (by omega) hq).tight
        have hne := apart_at HAp.out hq HP.out (by omega)
        have hgg : gq ≠ gi := by
          intro e3
          subst e3
          exact hne e2
        exact (hfq.touch HT1.out (by omega)).wide (by omega) (by omega)
      case measure => simp [intOf]; omega
    · have hjn : j = n := by omega
      have e : xs.take j = xs := by rw [hjn, ← hlx.out, ← List.length_map (f := Prod.snd), HXS.out, List.take_length]
      have hMx : M = tabN xs := by rw [HM.out, e]
      have HMx := Lib.hid hMx
      clear hMx e
      go_wp2
      go_ret
      exact ⟨ret_int (by rw [HMx.out]), hb⟩
set_option maxRecDepth 100000 in
set_option maxHeartbeats 2000000 in
theorem markModes_any (g hh n c : Nat) (ts : List Slots) (now asked : Int) (k : Int) (w : World) (hm : n ≤ 1048577) (hN : tabN ts ≤ 1048576) (h0 : 0 ≤ k) (h1 : k ≤ 1048576) (hf : Fr_tab w (g + 1) hh (some ⟨g, 0, none⟩) n ts) (hlt : hh ≤ w.heap.size) :
    Calls Try.prog 11 #[.agg #[.slice (some ⟨g, 0, none⟩) n c, .int .i64 now, .int .i64 asked], .int .i64 k] w fun e w' => e = .returned (.int .i64 (k + ((tabN ts * 2 : Nat) : Int))) ∧ Touch (g + 1) hh w w' := by
  have HF := Lib.hid hf
  clear hf
  go_enter Try.func11, Try.ntmps11
  go_wp2_with fail
  refine (markSlotSS_any g hh n c ts k _ hm hN h0 h1 (HF.out.alloc _)).mono ?_
  rintro e w1 ⟨rfl, ht1⟩
  have HT1 : Hid (Touch (g + 1) hh w w1) := Touch.trans (Touch.of_below (B := w.heap.size) ((Below.refl _ _).alloc (Nat.le_refl _) _) (Nat.le_refl _)) ht1
  clear ht1
  go_wp2
  go_ret
  exact ⟨rfl, HT1.out⟩
end Go.Proofs.Ytdccgflkhgnflaa
