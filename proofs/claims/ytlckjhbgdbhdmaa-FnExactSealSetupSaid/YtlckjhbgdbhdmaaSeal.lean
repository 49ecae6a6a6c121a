/-
  SEALS OF A SETUP: the contracts of SealSetup.
  Conditions: none beyond those that each states.
-/
import Derived.Test.YtlckjhbgdbhdmaaNums3
import Derived.Test.YtlckjhbgdbhdmaaMix
import Derived.ArgAppend
namespace Go.Proofs.Ytlckjhbgdbhdmaa
open Go.ChangeShapes Go.WideShapes Go.ChangeAt Go.RowKit Go.Joins
set_option linter.unusedVariables false

def sealL (key : Int) (ps : List PartL) (cs : List Chan) (ss : List Slot2) : List Int :=
  if setupOk ps cs ss = true then (if inB key 0 1048572 = true then setupNums ps cs ss ++ [mixAll key (setupNums ps cs ss)] else []) else []
theorem sealL_len (key : Int) (ps : List PartL) (cs : List Chan) (ss : List Slot2) : (sealL key ps cs ss).length ≤ 301 := by
  have := setupNums_len ps cs ss
  unfold sealL
  split
  · split
    · simp; omega
    · simp
  · simp
theorem below_none {W W' : World} (h : W.grownBy W' none) : Below W.heap.size W W' := ⟨h.os, h.tape, h.output, h.size, fun k hk => h.block k hk (by simp)⟩
theorem rd_holds {w : World} {A : Option Addr} {n : Nat} {xs : List Value} (h : Rd w 1 A n xs) : ∀ b, A = some b → ∀ j u, xs[j]? = some u → w.cell? (b.add j) = some u := by
  intro b hb j u hu
  have hn : 0 < n := by
    rcases Nat.eq_zero_or_pos n with h0 | h0
    · have e : xs = [] := List.eq_nil_of_length_eq_zero (by rw [h.1, h0])
      rw [e] at hu; simp at hu
    · exact h0
  obtain ⟨g, o, hA, _, hc⟩ := h.2 hn
  obtain rfl : b = ⟨g, o, none⟩ := Option.some.inj (hb.symm.trans hA)
  rw [Addr.add_lit]
  exact hc j u hu
theorem own_slice {w : World} {base n : Nat} {v : Value} {zs : List Int} (h : w.ownsRow base 3 1 v n (ints zs)) : ∃ A c, v = .slice A zs.length c ∧ zs.length = n ∧ w.ownsRow base 3 1 (.slice A zs.length c) zs.length (ints zs) ∧ (A = none → zs.length = 0 ∧ c = 0) := by
  have hl : zs.length = n := by have := h.1; simpa [ints] using this
  subst hl
  rcases h.2 with ⟨rfl, h0⟩ | ⟨g, cap, cur, rfl, r⟩
  · refine ⟨none, 0, by rw [h0], rfl, ?_, fun _ => ⟨h0, rfl⟩⟩
    have e : zs = [] := List.eq_nil_of_length_eq_zero h0
    subst e
    exact World.ownsRow_nil _ _ _ _
  · exact ⟨_, _, rfl, rfl, h, (fun ha => by cases ha)⟩
set_option maxRecDepth 100000 in
set_option maxHeartbeats 4000000 in
theorem sSealSetup_any (A : Option Addr) (n c : Nat) (ps : List PartL) (B : Option Addr) (m d : Nat) (cs : List Chan) (C : Option Addr) (q e0 : Nat) (ss : List Slot2) (key : Int) (w : World) (hn : n ≤ 1048577) (hm : m ≤ 1048577) (hq : q ≤ 1048577) (ht : ∀ x ∈ ps, (partI x).length ≤ 1048577) (hr : Rd_set w A n ps B m cs C q ss) :
    Calls Try.prog 20 #[.agg #[.slice A n c, .slice B m d, .slice C q e0], .int .i64 key] w (fun e w' => RetI w (sealL key ps cs ss) e w') := by
  obtain ⟨i0, hi, hz0, hz1, hz2⟩ := info_parts Try.infoInt
  have HR := Lib.hid hr
  have HT := Lib.hid ht
  clear hr ht
  cases hok : setupOk ps cs ss
  · rw [show sealL key ps cs ss = [] by unfold sealL; rw [if_neg (by rw [hok]; simp)]]
    go_enter Try.func20, Try.ntmps20
    go_wp2_with fail
    refine (sSetupValid_is hok _ hn hm hq HT.out (HR.out.alloc _)).mono ?_
    rintro e w1 ⟨rfl, hb1⟩
    have HB1 : Hid (Below w.heap.size w w1) := Below.andThen (by go_grown) hb1
    clear hb1
    go_wp2
    go_ret
    exact ⟨_, _, rfl, Fr.nil_, HB1.out.alloc (by have := HB1.out.size; omega) _⟩
  · have HOK := Lib.hid hok
    clear hok
    cases hk : inB key 0 1048572
    · rw [show sealL key ps cs ss = [] by unfold sealL; rw [if_pos HOK.out, if_neg (by rw [hk]; simp)]]
      go_enter Try.func20, Try.ntmps20
      go_wp2_with fail
      refine (sSetupValid_is HOK.out _ hn hm hq HT.out (HR.out.alloc _)).mono ?_
      rintro e w1 ⟨rfl, hb1⟩
      have HB1 : Hid (Below w.heap.size w w1) := Below.andThen (by go_grown) hb1
      clear hb1
      go_wp2_with (go_at_call 48; refine (l1In_any _ _ _ _).mono ?_; rw [hk]; rintro e w2 ⟨rfl, rfl⟩)
      go_ret
      exact ⟨_, _, rfl, Fr.nil_, HB1.out.alloc (by have := HB1.out.size; omega) _⟩
    · obtain ⟨R, hR⟩ : ∃ R : List Int, R = setupNums ps cs ss := ⟨_, rfl⟩
      obtain ⟨S, hS⟩ : ∃ S : Int, S = mixAll key R := ⟨_, rfl⟩
      rw [show sealL key ps cs ss = R ++ [S] by unfold sealL; rw [if_pos HOK.out, if_pos hk, hS, hR]]
      have hRl : R.length ≤ 300 := by rw [hR]; exact setupNums_len ps cs ss
      have HRR := Lib.hid hR
      have HS := Lib.hid hS
      have HK := Lib.hid hk
      clear hR hS
      go_enter Try.func20, Try.ntmps20
      go_wp2_with fail
      refine (sSetupValid_is HOK.out _ hn hm hq HT.out (HR.out.alloc _)).mono ?_
      rintro e w1 ⟨rfl, hb1⟩
      have HB1 : Hid (Below w.heap.size w w1) := Below.andThen (by go_grown) hb1
      have qb : Hid (Blk w1 w.heap.size 33 #[.slice A n c, .slice B m d, .slice C q e0]) := Blk.below (w' := w1) (Blk.at_ _ _ _ rfl) (Nat.le_refl _) hb1
      have kb_0 : w1.cell? ⟨w.heap.size, 0, none⟩ = some (.slice A n c) := qb.out.cell 0 rfl
      have kb_1 : w1.cell? ⟨w.heap.size, 1, none⟩ = some (.slice B m d) := qb.out.cell 1 rfl
      have kb_2 : w1.cell? ⟨w.heap.size, 2, none⟩ = some (.slice C q e0) := qb.out.cell 2 rfl
      have lb := qb.out.lt
      clear hb1
      go_wp2_with (go_at_call 48; refine (l1In_any _ _ _ _).mono ?_; rw [hk]; rintro e w2 ⟨rfl, rfl⟩)
      clear hk
      refine (sSetupNumbers_own _ _ _ ps _ _ _ cs _ _ _ ss _ hn hm hq HT.out (HR.out.below (Nat.le_refl _) HB1.out)).mono ?_
      rw [← HRR.out]
      rintro e w2 ⟨v2, rfl, ho2, hb2⟩
      obtain ⟨A2, c2, rfl, hl2, ho3, hn3⟩ := own_slice ho2
      have HO2 := Lib.hid ho3
      have HB2 := Lib.hid (Below.andThen HB1.out hb2)
      have hs2 := hb2.size
      clear kb_0 kb_1 kb_2 lb ho2 hl2 ho3 hn3 hb2
      go_wp2_with fail
      refine (sMix_yes key _ _ _ R _ (by omega) HK.out (Rd.of_own HO2.out)).mono ?_
      rw [← HS.out]
      rintro e w3 ⟨rfl, hb3⟩
      have HO3 := Lib.hid (own_below hb3 (Nat.le_refl _) HO2.out)
      have HB3 := Lib.hid (Below.andThen HB2.out hb3)
      have hs3 := hb3.size
      have hsw := HB1.out.size
      clear hb3
      go_wp2_with (at_builtin; refine wpList_append_rd _ rfl _ _ 37 rfl w1.heap.size 3 i0 (.int .i64 0) 1 8 Try.underlying37 hi hz0 hz1 hz2 rfl (by omega) _ R.length (ints R) rfl (HO3.out.alloc _) _ 1 1 (ints [S]) rfl (rd_new (by first | rfl | simp) rfl) (ints_one _) (by unfold maxLen; omega) (by omega) (by first | (simp; done) | (simp; omega)) ?_; intro v4 w4 ho4 hg4 hat4; have HO4 := Lib.hid (own_ints ho4); have HB4 : Hid (Below w.heap.size w w4) := below_own (size := 1) (base := w1.heap.size) (HB3.out.alloc (by omega) _) (HO3.out.alloc _) (by omega) (by simp; omega) hg4; clear ho4 hg4 hat4)
      go_ret
      exact retI_own HO4.out hsw HB4.out
set_option maxRecDepth 100000 in
set_option maxHeartbeats 4000000 in
theorem iSealSetup_any (A : Option Addr) (n c : Nat) (ps : List PartL) (B : Option Addr) (m d : Nat) (cs : List Chan) (C : Option Addr) (q e0 : Nat) (ss : List Slot2) (key : Int) (w : World) (hn : n ≤ 1048577) (hm : m ≤ 1048577) (hq : q ≤ 1048577) (ht : ∀ x ∈ ps, (partI x).length ≤ 1048577) (hr : Rd_set w A n ps B m cs C q ss) :
    Calls Try.prog 21 #[.agg #[.slice A n c, .slice B m d, .slice C q e0], .int .i64 key] w (fun e w' => RetI w (sealL key ps cs ss) e w') := by
  obtain ⟨i0, hi, hz0, hz1, hz2⟩ := info_parts Try.infoInt
  have HR := Lib.hid hr
  have HT := Lib.hid ht
  clear hr ht
  cases hok : setupOk ps cs ss
  · rw [show sealL key ps cs ss = [] by unfold sealL; rw [if_neg (by rw [hok]; simp)]]
    go_enter Try.func21, Try.ntmps21
    go_wp2_with fail
    refine (iSetupValid_is hok _ hn hm hq HT.out (HR.out.alloc _)).mono ?_
    rintro e w1 ⟨rfl, hb1⟩
    have HB1 : Hid (Below w.heap.size w w1) := Below.andThen (by go_grown) hb1
    clear hb1
    go_wp2
    go_ret
    exact ⟨_, _, rfl, Fr.nil_, HB1.out⟩
  · have HOK := Lib.hid hok
    clear hok
    cases hk : inB key 0 1048572
    · rw [show sealL key ps cs ss = [] by unfold sealL; rw [if_pos HOK.out, if_neg (by rw [hk]; simp)]]
      go_enter Try.func21, Try.ntmps21
      go_wp2_with fail
      refine (iSetupValid_is HOK.out _ hn hm hq HT.out (HR.out.alloc _)).mono ?_
      rintro e w1 ⟨rfl, hb1⟩
      have HB1 : Hid (Below w.heap.size w w1) := Below.andThen (by go_grown) hb1
      clear hb1
      go_wp2_with (go_at_call 50; refine (isKey_any _ _).mono ?_; rw [hk]; rintro e w2 ⟨rfl, rfl⟩)
      go_ret
      exact ⟨_, _, rfl, Fr.nil_, HB1.out⟩
    · obtain ⟨R, hR⟩ : ∃ R : List Int, R = setupNums ps cs ss := ⟨_, rfl⟩
      obtain ⟨S, hS⟩ : ∃ S : Int, S = mixAll key R := ⟨_, rfl⟩
      obtain ⟨Z, hZ⟩ : ∃ Z : List Int, Z = R ++ [S] := ⟨_, rfl⟩
      rw [show sealL key ps cs ss = Z by unfold sealL; rw [if_pos HOK.out, if_pos hk, hZ, hS, hR]]
      have hRl : R.length ≤ 300 := by rw [hR]; exact setupNums_len ps cs ss
      have hZl : Z.length ≤ 301 := by rw [hZ]; simp; omega
      have HRR := Lib.hid hR
      have HS := Lib.hid hS
      have HZ := Lib.hid hZ
      have HK := Lib.hid hk
      clear hR hS hZ
      go_enter Try.func21, Try.ntmps21
      go_wp2_with fail
      refine (iSetupValid_is HOK.out _ hn hm hq HT.out (HR.out.alloc _)).mono ?_
      rintro e w1 ⟨rfl, hb1⟩
      have HB1 : Hid (Below w.heap.size w w1) := Below.andThen (by go_grown) hb1
      have qb : Hid (Blk w1 w.heap.size 33 #[.slice A n c, .slice B m d, .slice C q e0]) := Blk.below (w' := w1) (Blk.at_ _ _ _ rfl) (Nat.le_refl _) hb1
      have kb_0 : w1.cell? ⟨w.heap.size, 0, none⟩ = some (.slice A n c) := qb.out.cell 0 rfl
      have kb_1 : w1.cell? ⟨w.heap.size, 1, none⟩ = some (.slice B m d) := qb.out.cell 1 rfl
      have kb_2 : w1.cell? ⟨w.heap.size, 2, none⟩ = some (.slice C q e0) := qb.out.cell 2 rfl
      have lb := qb.out.lt
      clear hb1
      go_wp2_with (go_at_call 50; refine (isKey_any _ _).mono ?_; rw [hk]; rintro e w2 ⟨rfl, rfl⟩)
      clear hk
      refine (iSetupNumbers_clip _ _ _ ps _ _ _ cs _ _ _ ss _ hn hm hq HT.out (HR.out.below (Nat.le_refl _) HB1.out)).mono ?_
      rw [← HRR.out]
      rintro e w2 ⟨A2, rfl, hf2, hn2, hb2⟩
      have HF2 := Lib.hid hf2
      have HN2 := Lib.hid hn2
      have HB2 := Lib.hid (Below.andThen HB1.out hb2)
      have hs2 := hb2.size
      clear kb_0 kb_1 kb_2 lb hf2 hn2 hb2
      go_wp2_with fail
      refine (iMix_yes key _ _ _ R _ (by omega) HK.out HF2.out.rd).mono ?_
      rw [← HS.out]
      rintro e w3 ⟨rfl, hb3⟩
      have HF3 := Lib.hid (HF2.out.below (Nat.le_refl _) hb3)
      have HB3 := Lib.hid (Below.andThen HB2.out hb3)
      have hs3 := hb3.size
      have hsw := HB1.out.size
      clear hb3
      go_wp2_with (at_builtin; refine wpList_append_grows _ rfl _ _ 37 rfl 3 i0 (.int .i64 0) 1 8 Try.underlying37 hi hz0 hz1 hz2 rfl (by omega) A2 R.length R.length (ints R) rfl (fun h => ⟨HN2.out h, HN2.out h⟩) (by simp [ints]) (rd_holds (HF3.out.rd.alloc _)) _ 1 1 (ints [S]) rfl (by simp [ints]) (rd_holds (rd_new rfl rfl) _ rfl) (ints_one _) (by omega) (by unfold maxLen; omega) (by omega) ?_; intro v4 w4 ho4 hg4; obtain ⟨A4, c4, rfl, hl4, ho5, hn5⟩ := own_slice (show w4.ownsRow _ 3 1 v4 (R.length + 1) (ints Z) from (by rw [HZ.out, show ints (R ++ [S]) = ints R ++ ints [S] by simp [ints]]; exact ho4)); have HO4 := Lib.hid ho5; have HN4 := Lib.hid hn5; have hb4 := below_none hg4; have HB4 : Hid (Below w.heap.size w w4) := Below.andThen (HB3.out.alloc (by omega) _) hb4; clear ho4 hg4 ho5 hn5 hl4 hb4)
      refine (cloneI_any A4 Z.length c4 Z _ (by omega) (Rd.of_own HO4.out) HN4.out).mono ?_
      rintro e w5 ⟨A5, c5, rfl, hf5, hb5⟩
      have HF5 := Lib.hid hf5
      have HB5 := Lib.hid (Below.andThen HB4.out hb5)
      have hs5 := HB4.out.size
      clear hf5 hb5
      go_wp2
      go_ret
      exact ⟨A5, c5, rfl, HF5.out.wide hs5 (Nat.le_refl _), HB5.out⟩
end Go.Proofs.Ytlckjhbgdbhdmaa
