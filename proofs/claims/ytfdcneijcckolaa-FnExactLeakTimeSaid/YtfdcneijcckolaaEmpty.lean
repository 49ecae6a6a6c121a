/-
  CONTRACTS of EmptyCache.
  Conditions: none beyond those that each states.
-/
import Derived.Test.YtfdcneijcckolaaRepeat
import Derived.Deep.AppendLies
namespace Go.Proofs.Ytfdcneijcckolaa
open Go.ChangeShapes Go.WideShapes Go.ChangeAt Go.RowKit Go.Joins
set_option linter.unusedVariables false

def emptyOf (m : Int) : List Int := if lined m = true then List.replicate m.toNat (-1) else []
theorem emptyOf_len (m : Int) : (emptyOf m).length ≤ 16 := by
  unfold emptyOf
  split
  · rename_i h; have := lined_le h; simp; omega
  · simp
theorem cacheOk_rep (n : Nat) : cacheOk (List.replicate n (-1)) = lined n := by
  unfold cacheOk
  rw [List.length_replicate]
  have : okUp n (List.replicate n (-1)) n = true := by
    unfold okUp
    rw [List.all_eq_true]
    intro i hi
    have := List.mem_range.1 hi
    simp [lineOk, this]
  rw [this, Bool.and_true]
theorem own_setFar {w : World} {base size n : Nat} {e : TypeId} {v : Value} {xs : List Value} (h : w.ownsRow base e size v n xs) {p : Addr} (hp : p.block < base) (u : Value) : (w.setCell p u).ownsRow base e size v n xs := by
  refine ⟨h.1, ?_⟩
  rcases h.2 with h0 | ⟨g, cap, cur, hv, hb, hg, r⟩
  · exact .inl h0
  · exact .inr ⟨g, cap, cur, hv, hb, (Below.heap_setCell w p u g (by omega)).trans hg, r⟩

theorem own_parts {w : World} {base size n : Nat} {e : TypeId} {v : Value} {xs : List Value} (h : w.ownsRow base e size v n xs) : ∃ A c, v = .slice A n c ∧ (A = none → n = 0 ∧ c = 0) := by
  rcases h.2 with ⟨rfl, rfl⟩ | ⟨g, cap, cur, rfl, _⟩
  · exact ⟨none, 0, rfl, fun _ => ⟨rfl, rfl⟩⟩
  · exact ⟨_, _, rfl, fun h => by cases h⟩
set_option maxRecDepth 100000 in
set_option maxHeartbeats 1000000 in
theorem iEmptyCache_any (m : Int) (w : World) : Calls Try.prog 44 #[.int .i64 m] w (fun e w' => RetCache w (emptyOf m) e w') := by
  unfold emptyOf
  cases hk : lined m
  · rw [if_neg (by simp)]
    go_enter Try.func44, Try.ntmps44
    go_wp2_with (go_at_call 62; refine (lined_any _ _).mono ?_; rw [hk]; rintro e w1 ⟨rfl, rfl⟩)
    go_returns
    exact ⟨none, 0, rfl, Fr.nil_, fun _ => ⟨rfl, rfl⟩, by go_grown⟩
  · rw [if_pos rfl]
    obtain ⟨hm1, hm16⟩ := lined_le hk
    obtain ⟨n, rfl⟩ : ∃ n : Nat, m = n := ⟨m.toNat, by omega⟩
    have e1 : (n : Int).toNat = n := by omega
    rw [e1]
    clear e1
    go_enter Try.func44, Try.ntmps44
    go_wp2_with (go_at_call 62; refine (lined_any _ _).mono ?_; rw [hk]; rintro e w1 ⟨rfl, rfl⟩)
    refine (repeat_any n (w.heap.size + 1) (by omega) (by omega) _ (by simp) (by first | (simp [go_sem]; done) | exact (Blk.at_ _ _ _ (by simp)).cell 0 rfl)).mono ?_
    rintro e w1 ⟨g, rfl, ho1, hb1⟩
    have hs1 := hb1.size
    simp only [World.size_alloc] at hs1
    have qb : Blk w1 w.heap.size 50 #[.slice none 0 0] := Blk.below (w' := w1) (by repeat' (first | (refine Blk.at_ _ _ _ ?_; first | rfl | (simp; done)) | refine Blk.alloc ?_ _ | assumption)) (Nat.le_refl _) hb1
    have kb_0 := qb.cell 0 rfl
    have fb_0 := qb.frozen 0
    have lb := qb.lt
    clear qb
    have HO := Lib.hid (Fr.of_own ho1)
    have HB := Lib.hid (Below.andThen (w := w) (by go_grown) hb1)
    clear ho1 hb1
    go_wp2
    refine bodyPost_ret (v := .agg #[.slice (some ⟨g, 0, none⟩) n n]) (by simp [results, Try.results44, go_sem, *]) rfl ?_
    refine ⟨some ⟨g, 0, none⟩, n, by rw [List.length_replicate], ?_, (fun h => by cases h), ?_⟩
    · have h := HO.out
      simp only [World.size_alloc] at h
      rw [List.length_replicate]
      refine Fr.wide (lo := w.heap.size + 1 + 1) (hi := w1.heap.size) ?_ (by omega) (by simp)
      repeat (refine Fr.setFar ?_ (by first | (left; simp; omega) | (left; simp; done)) _)
      exact h
    · have h := HB.out
      repeat (refine Below.setCell ?_ (by first | (simp; done) | (simp; omega)) _)
      exact h
set_option maxRecDepth 100000 in
set_option maxHeartbeats 2000000 in
theorem sEmptyCache_lo (m : Int) (n : Nat) (R : List Int) (hR : Hid (R = if lined n = true then List.replicate n (-1) else [])) (w : World) (hn : n ≤ 17) (hm : m ≤ 17) (hmn : m = n ∨ (m < 0 ∧ n = 0)) : Calls Try.prog 43 #[.int .i64 m] w (fun e w' => RetCache w R e w') := by
  obtain ⟨i0, hi, hz0, hz1, hz2⟩ := info_parts Try.infoInt
  have hm1 : (ints [(-1)]).length = 1 := rfl
  go_enter Try.func43, Try.ntmps43
  go_wp2
  go_loopw [4] (fun i wr => ∃ (k : Nat) (v : Value), k ≤ n ∧ i = .int .i64 k ∧ Hid (Blk wr w.heap.size 50 #[.slice none 0 0]) ∧ Hid (Blk wr (w.heap.size + 1) 50 #[v]) ∧ wr.ownsRow (w.heap.size + 2) 3 1 v k (ints (List.replicate k (-1))) ∧ Below w.heap.size w wr) (fun i _ => n - (intOf i).toNat)
  case atStart =>
    refine ⟨0, .slice none 0 0, Nat.zero_le _, rfl, ?_, ?_, by simpa [ints] using World.ownsRow_nil _ _ _ _, by go_grown⟩
    · show Blk _ _ _ _
      repeat' (first | (refine Blk.far ?_ (by simp) _) | (refine Blk.at_ _ _ _ ?_; first | rfl | (simp; done)) | refine Blk.alloc ?_ _ | assumption)
    · show Blk _ _ _ _
      have h : Blk ((w.alloc (.cells #[.slice none 0 0] 50)).alloc (.cells #[.slice none 0 0] 50)) (w.heap.size + 1) 50 #[.slice none 0 0] := Blk.at_ _ _ _ (by simp)
      first | exact h | exact h.set_ 0 (.slice none 0 0)
  case round =>
    obtain ⟨k, v, hkn, rfl, HQ, HC, ho, hb⟩ := hrel
    have hs := hb.size
    have HB := Lib.hid hb
    have kc_0 := HC.out.cell 0 rfl
    have lc := HC.out.lt
    clear hb
    by_cases hlt : k < n
    · have hd : (k : Int) < m := by omega
      go_wp2_with (at_builtin; refine wpList_append_rd _ rfl _ _ 22 rfl (w.heap.size + 2) 3 i0 (.int .i64 0) 1 8 Try.underlying22 hi hz0 hz1 hz2 rfl (by omega) _ k _ rfl (ho.alloc _) _ 1 1 (ints [-1]) rfl (rd_new rfl rfl) (ints_one _) (by unfold maxLen; omega) (by omega) (by simp; omega) ?_; intro v2 w2 ho2 hg2 hat2; clear hat2; obtain ⟨g2, c2, rfl, hlo2, hhi2⟩ := ho2.form (by omega); have hb3 := below_own (HB.out.alloc hs _) (ho.alloc _) (by omega) (by simp; omega) hg2; have hb4 := below_own ((Below.refl (w.heap.size + 2) wr).alloc (by omega) _) (ho.alloc _) (by omega) (by simp; omega) hg2; have HQ2 := Lib.hid ((hb4.block w.heap.size (by omega)).trans HQ.out); have HC2 : Hid (Blk w2 (w.heap.size + 1) 50 #[v]) := (hb4.block (w.heap.size + 1) (by omega)).trans HC.out; have kd_0 := HC2.out.cell 0 rfl; have fd_0 := HC2.out.frozen 0; have ld := HC2.out.lt)
      go_roundw
      case rel =>
        refine ⟨k + 1, .slice (some ⟨g2, 0, none⟩) (k + 1) c2, by omega, by go_num, Blk.far HQ2.out (by simp) _, HC2.out.set_ 0 _, own_setFar ?_ (by show w.heap.size + 1 < w.heap.size + 2; omega) _, hb3.setCell (by simp) _⟩
        have e : ints (List.replicate (k + 1) (-1)) = ints (List.replicate k (-1)) ++ ints [-1] := by rw [← ints_app, ← List.replicate_succ']
        rw [e]; exact ho2
      case measure => simp [intOf]; omega
    · have hkn : k = n := by omega
      have hd : ¬ (k : Int) < m := by omega
      rw [hkn] at ho
      obtain ⟨A, c, rfl, hA⟩ := own_parts ho
      clear hkn
      have HR := Lib.hid (Rd.of_own ho)
      have HO := Lib.hid (Fr.of_own ho)
      clear ho
      cases hl : lined n
      · have e : R = [] := by rw [hR.out, if_neg (by simp [hl])]
        have hR := Lib.hid e
        clear e
        go_wp2_with (go_at_call 39; refine (sCacheValid_any A n c (List.replicate n (-1)) _ (by omega) HR.out).mono ?_; rw [cacheOk_rep, hl]; rintro e w1 ⟨rfl, hb1⟩; have HQ2 : Hid (Blk w1 w.heap.size 50 #[.slice none 0 0]) := Blk.below HQ.out (Nat.le_refl _) hb1; have kd_0 := HQ2.out.cell 0 rfl; have fd_0 := HQ2.out.frozen 0; have ld := HQ2.out.lt; have HB2 := Lib.hid (Below.andThen HB.out hb1))
        refine bodyPost_ret (v := .agg #[.slice none 0 0]) (by simp [results, Try.results43, go_sem, *]) rfl ?_
        rw [hR.out]
        exact ⟨none, 0, rfl, Fr.nil_, fun _ => ⟨rfl, rfl⟩, by first | exact HB2.out.setCell (by simp) _ | exact HB2.out⟩
      · have e : R = List.replicate n (-1) := by rw [hR.out, if_pos hl]
        have hR := Lib.hid e
        clear e
        go_wp2_with (go_at_call 39; refine (sCacheValid_any A n c (List.replicate n (-1)) _ (by omega) HR.out).mono ?_; rw [cacheOk_rep, hl]; rintro e w1 ⟨rfl, hb1⟩; have HQ2 : Hid (Blk w1 w.heap.size 50 #[.slice none 0 0]) := Blk.below HQ.out (Nat.le_refl _) hb1; have kd_0 := HQ2.out.cell 0 rfl; have fd_0 := HQ2.out.frozen 0; have ld := HQ2.out.lt; have HC2 : Hid (Blk w1 (w.heap.size + 1) 50 #[.slice A n c]) := Blk.below HC.out (Nat.le_refl _) hb1; have ke_0 := HC2.out.cell 0 rfl; have le := HC2.out.lt; have HB2 := Lib.hid (Below.andThen HB.out hb1); have HO2 := Lib.hid (HO.out.below (Nat.le_refl _) hb1); have hs2 := hb1.size)
        refine bodyPost_ret (v := .agg #[.slice A n c]) (by simp [results, Try.results43, go_sem, *]) rfl ?_
        rw [hR.out]
        refine ⟨A, c, by rw [List.length_replicate], ?_, fun h => by rw [List.length_replicate]; exact hA h, HB2.out.setCell (by simp) _⟩
        rw [List.length_replicate]
        exact (HO2.out.wide (lo' := w.heap.size + 1) (by omega) (Nat.le_refl _)).setFar (by left; simp) _ |>.wide (by omega) (by simp; omega)
set_option maxRecDepth 100000 in
set_option maxHeartbeats 2000000 in
theorem sEmptyCache_hi (m : Int) (n : Nat) (R : List Int) (hR : Hid (R = if lined n = true then List.replicate n (-1) else [])) (w : World) (hn : n ≤ 17) (hn2 : 17 ≤ n) (hm : 17 < m) : Calls Try.prog 43 #[.int .i64 m] w (fun e w' => RetCache w R e w') := by
  obtain ⟨i0, hi, hz0, hz1, hz2⟩ := info_parts Try.infoInt
  have hm1 : (ints [(-1)]).length = 1 := rfl
  go_enter Try.func43, Try.ntmps43
  go_wp2
  go_loopw [4] (fun i wr => ∃ (k : Nat) (v : Value), k ≤ n ∧ i = .int .i64 k ∧ Hid (Blk wr w.heap.size 50 #[.slice none 0 0]) ∧ Hid (Blk wr (w.heap.size + 1) 50 #[v]) ∧ wr.ownsRow (w.heap.size + 2) 3 1 v k (ints (List.replicate k (-1))) ∧ Below w.heap.size w wr) (fun i _ => n - (intOf i).toNat)
  case atStart =>
    refine ⟨0, .slice none 0 0, Nat.zero_le _, rfl, ?_, ?_, by simpa [ints] using World.ownsRow_nil _ _ _ _, by go_grown⟩
    · show Blk _ _ _ _
      repeat' (first | (refine Blk.far ?_ (by simp) _) | (refine Blk.at_ _ _ _ ?_; first | rfl | (simp; done)) | refine Blk.alloc ?_ _ | assumption)
    · show Blk _ _ _ _
      have h : Blk ((w.alloc (.cells #[.slice none 0 0] 50)).alloc (.cells #[.slice none 0 0] 50)) (w.heap.size + 1) 50 #[.slice none 0 0] := Blk.at_ _ _ _ (by simp)
      first | exact h | exact h.set_ 0 (.slice none 0 0)
  case round =>
    obtain ⟨k, v, hkn, rfl, HQ, HC, ho, hb⟩ := hrel
    have hs := hb.size
    have HB := Lib.hid hb
    have kc_0 := HC.out.cell 0 rfl
    have lc := HC.out.lt
    clear hb
    by_cases hlt : k < n
    · have hd : (k : Int) < 17 := by omega
      go_wp2_with (at_builtin; refine wpList_append_rd _ rfl _ _ 22 rfl (w.heap.size + 2) 3 i0 (.int .i64 0) 1 8 Try.underlying22 hi hz0 hz1 hz2 rfl (by omega) _ k _ rfl (ho.alloc _) _ 1 1 (ints [-1]) rfl (rd_new rfl rfl) (ints_one _) (by unfold maxLen; omega) (by omega) (by simp; omega) ?_; intro v2 w2 ho2 hg2 hat2; clear hat2; obtain ⟨g2, c2, rfl, hlo2, hhi2⟩ := ho2.form (by omega); have hb3 := below_own (HB.out.alloc hs _) (ho.alloc _) (by omega) (by simp; omega) hg2; have hb4 := below_own ((Below.refl (w.heap.size + 2) wr).alloc (by omega) _) (ho.alloc _) (by omega) (by simp; omega) hg2; have HQ2 := Lib.hid ((hb4.block w.heap.size (by omega)).trans HQ.out); have HC2 : Hid (Blk w2 (w.heap.size + 1) 50 #[v]) := (hb4.block (w.heap.size + 1) (by omega)).trans HC.out; have kd_0 := HC2.out.cell 0 rfl; have fd_0 := HC2.out.frozen 0; have ld := HC2.out.lt)
      go_roundw
      case rel =>
        refine ⟨k + 1, .slice (some ⟨g2, 0, none⟩) (k + 1) c2, by omega, by go_num, Blk.far HQ2.out (by simp) _, HC2.out.set_ 0 _, own_setFar ?_ (by show w.heap.size + 1 < w.heap.size + 2; omega) _, hb3.setCell (by simp) _⟩
        have e : ints (List.replicate (k + 1) (-1)) = ints (List.replicate k (-1)) ++ ints [-1] := by rw [← ints_app, ← List.replicate_succ']
        rw [e]; exact ho2
      case measure => simp [intOf]; omega
    · have hkn : k = n := by omega
      have hd : ¬ (k : Int) < 17 := by omega
      rw [hkn] at ho
      obtain ⟨A, c, rfl, hA⟩ := own_parts ho
      clear hkn
      have HR := Lib.hid (Rd.of_own ho)
      have HO := Lib.hid (Fr.of_own ho)
      clear ho
      cases hl : lined n
      · have e : R = [] := by rw [hR.out, if_neg (by simp [hl])]
        have hR := Lib.hid e
        clear e
        go_wp2_with (go_at_call 39; refine (sCacheValid_any A n c (List.replicate n (-1)) _ (by omega) HR.out).mono ?_; rw [cacheOk_rep, hl]; rintro e w1 ⟨rfl, hb1⟩; have HQ2 : Hid (Blk w1 w.heap.size 50 #[.slice none 0 0]) := Blk.below HQ.out (Nat.le_refl _) hb1; have kd_0 := HQ2.out.cell 0 rfl; have fd_0 := HQ2.out.frozen 0; have ld := HQ2.out.lt; have HB2 := Lib.hid (Below.andThen HB.out hb1))
        refine bodyPost_ret (v := .agg #[.slice none 0 0]) (by simp [results, Try.results43, go_sem, *]) rfl ?_
        rw [hR.out]
        exact ⟨none, 0, rfl, Fr.nil_, fun _ => ⟨rfl, rfl⟩, by first | exact HB2.out.setCell (by simp) _ | exact HB2.out⟩
      · have e : R = List.replicate n (-1) := by rw [hR.out, if_pos hl]
        have hR := Lib.hid e
        clear e
        go_wp2_with (go_at_call 39; refine (sCacheValid_any A n c (List.replicate n (-1)) _ (by omega) HR.out).mono ?_; rw [cacheOk_rep, hl]; rintro e w1 ⟨rfl, hb1⟩; have HQ2 : Hid (Blk w1 w.heap.size 50 #[.slice none 0 0]) := Blk.below HQ.out (Nat.le_refl _) hb1; have kd_0 := HQ2.out.cell 0 rfl; have fd_0 := HQ2.out.frozen 0; have ld := HQ2.out.lt; have HC2 : Hid (Blk w1 (w.heap.size + 1) 50 #[.slice A n c]) := Blk.below HC.out (Nat.le_refl _) hb1; have ke_0 := HC2.out.cell 0 rfl; have le := HC2.out.lt; have HB2 := Lib.hid (Below.andThen HB.out hb1); have HO2 := Lib.hid (HO.out.below (Nat.le_refl _) hb1); have hs2 := hb1.size)
        refine bodyPost_ret (v := .agg #[.slice A n c]) (by simp [results, Try.results43, go_sem, *]) rfl ?_
        rw [hR.out]
        refine ⟨A, c, by rw [List.length_replicate], ?_, fun h => by rw [List.length_replicate]; exact hA h, HB2.out.setCell (by simp) _⟩
        rw [List.length_replicate]
        exact (HO2.out.wide (lo' := w.heap.size + 1) (by omega) (Nat.le_refl _)).setFar (by left; simp) _ |>.wide (by omega) (by simp; omega)
theorem sEmptyCache_any (m : Int) (w : World) : Calls Try.prog 43 #[.int .i64 m] w (fun e w' => RetCache w (emptyOf m) e w') := by
  by_cases h17 : 17 < m
  · refine sEmptyCache_hi m 17 _ ?_ w (Nat.le_refl _) (Nat.le_refl _) h17
    have e1 : lined m = false := by
      cases h : lined m
      · rfl
      · have := lined_le h; omega
    show _ = _
    rw [emptyOf, if_neg (by simp [e1]), if_neg (by decide)]
  · by_cases h0 : m < 0
    · refine sEmptyCache_lo m 0 _ ?_ w (by omega) (by omega) (.inr ⟨h0, rfl⟩)
      have e1 : lined m = false := by
        cases h : lined m
        · rfl
        · have := lined_le h; omega
      show _ = _
      rw [emptyOf, if_neg (by simp [e1]), if_neg (by decide)]
    · refine sEmptyCache_lo m m.toNat _ ?_ w (by omega) (by omega) (.inl (by omega))
      have e1 : ((m.toNat : Nat) : Int) = m := by omega
      show _ = _
      rw [emptyOf, e1]
end Go.Proofs.Ytfdcneijcckolaa
