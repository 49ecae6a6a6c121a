/-
  CONTRACTS of the padding functions with needs: the spec's, and those over 'PadRuns'.
  Conditions: none beyond those that each states.
-/
import Derived.Test.YtjdhfehffgccmaaPad2
import Derived.Deep.RegionHeld3
import Derived.Deep.AppendLies
namespace Go.Proofs.Ytjdhfehffgccmaa
open Go.ChangeShapes Go.WideShapes Go.ChangeAt Go.RowKit Go.Joins
set_option linter.unusedVariables false

theorem runsOf_atL {ts ns : List Int} {k : Nat} {x y : Int} (hx : ts[k]? = some x) (hy : ns[k]? = some y) : (runsOf ts ns)[k]? = some (if x < y then x else y) := by
  rw [runsOf_at hx hy]; congr 1; split <;> split <;> omega
theorem padStarts_len0 {ts : List Int} (h : padOk ts = false) : padStarts ts = [] ∧ 0 < ts.length := by
  refine ⟨by rw [padStarts, if_neg (by simp [h])], ?_⟩
  cases ts with
  | nil => simp [padOk] at h
  | cons _ _ => simp
theorem padStarts_lenY {ts : List Int} (h : padOk ts = true) : (padStarts ts).length = ts.length := by rw [padStarts, if_pos h, startsOf_len]
theorem sumOf_bd {zs : List Int} (hz : ∀ (k : Nat) (x : Int), zs[k]? = some x → 0 ≤ x ∧ x ≤ 20) : ∀ k, k ≤ zs.length → 0 ≤ sumOf (zs.take k) ∧ sumOf (zs.take k) ≤ 20 * k
  | 0, _ => by simp [sumOf]
  | k + 1, h => by
    have h1 := sumOf_bd hz k (by omega)
    have e := List.getElem?_eq_getElem (show k < zs.length by omega)
    have h2 := hz k _ e
    rw [sumOf_snoc e]; omega
theorem sumOf_bd' {zs : List Int} (hz : ∀ (k : Nat) (x : Int), zs[k]? = some x → 0 ≤ x ∧ x ≤ 20) : 0 ≤ sumOf zs ∧ sumOf zs ≤ 20 * zs.length := by
  have := sumOf_bd hz zs.length (Nat.le_refl _)
  rwa [List.take_length] at this
theorem padRuns_bd (ts ns : List Int) : ∀ (k : Nat) (x : Int), (padRuns ts ns)[k]? = some x → 0 ≤ x ∧ x ≤ 20 := by
  unfold padRuns
  split
  · rename_i h; exact runs_bd h
  · intro k x h; simp at h
theorem Rd.grown {w w' : World} {size n : Nat} {A : Option Addr} {xs : List Value} {ob : Option Nat} (h : Rd w size A n xs) (hg : w.grownBy w' ob) (hne : ∀ b o, A = some ⟨b, o, none⟩ → some b ≠ ob) (hs : w.heap.size ≤ w'.heap.size) : Rd w' size A n xs :=
  ⟨h.1, fun hn => by
    obtain ⟨b, o, e, hlt, hc⟩ := h.2 hn
    exact ⟨b, o, e, by omega, fun j u hu => (hg.cell_far ⟨b, o + j, none⟩ hlt (hne b o e)).trans (hc j u hu)⟩⟩

theorem sPadStarts_len (A : Option Addr) (n c : Nat) (ts : List Int) (w : World) (hm : n ≤ 1048577) (hr : Rd w 1 A n (ints ts)) :
    Calls Try.prog 25 #[.slice A n c] w (fun e w' => ∃ B d, e = .returned (.slice B (if padOk ts = true then n else 0) d) ∧ Below w.heap.size w w') := by
  refine (sPadStarts_any A n c ts w hm hr).mono ?_
  rintro e w' ⟨B, d, rfl, _, hb⟩
  refine ⟨B, d, ?_, hb⟩
  congr 2
  cases hp : padOk ts
  · rw [(padStarts_len0 hp).1]; simp
  · rw [padStarts_lenY hp, if_pos rfl]; exact hr.len
set_option maxRecDepth 100000 in
set_option maxHeartbeats 4000000 in
theorem sPadRuns_any (A : Option Addr) (n c : Nat) (ts : List Int) (B : Option Addr) (m d : Nat) (ns : List Int) (w : World) (hn : n ≤ 1048577) (hm : m ≤ 1048577) (hr : Rd w 1 A n (ints ts)) (hs : Rd w 1 B m (ints ns)) :
    Calls Try.prog 29 #[.slice A n c, .slice B m d] w (fun e w' => RetI w (padRuns ts ns) e w') := by
  have hl1 := Lib.hid hr.len
  have hl2 := Lib.hid hs.len
  have HR := Lib.hid hr
  obtain ⟨i0, hi, hz0, hz1, hz2⟩ := info_parts Try.infoInt
  cases hp : padOk ts
  · have e : padRuns ts ns = [] := by
      rw [padRuns, if_neg]; rw [needOk, hp]; simp
    rw [e]
    have hn0 : 0 < n := by have := (padStarts_len0 hp).2; rw [hl1.out] at this; exact this
    have hd : ((0 : Int) == (n : Int)) = false := by simp; omega
    have hd2 : ¬ (0 : Int) = (n : Int) := by omega
    clear hr hs
    go_enter Try.func29, Try.ntmps29
    go_wp2_with (go_at_call 25; refine (sPadStarts_len A n c ts _ (by omega) (HR.out.below (Nat.le_refl _) (by go_grown))).mono ?_; rw [if_neg (by simp [hp])]; rintro e w1 ⟨B1, d1, rfl, hb1⟩)
    go_ret
    exact ⟨_, _, rfl, Fr.nil_, Below.andThen (by go_grown) hb1⟩
  · by_cases hnm : n = m
    · subst hnm
      have H2 : Hid (ts.length = ns.length) := by show ts.length = ns.length; rw [hl1.out, hl2.out]
      have h12 : n ≤ 12 := by have := padOk_len hp; rw [hl1.out] at this; exact this
      have hI : (n : Int) ≤ 12 := by omega
      have HS := Lib.hid hs
      clear hr hs
      go_enter Try.func29, Try.ntmps29
      go_wp2_with (go_at_call 25; refine (sPadStarts_len A n c ts _ (by omega) (HR.out.below (Nat.le_refl _) (by go_grown))).mono ?_; rw [if_pos hp]; rintro e w1 ⟨B1, d1, rfl, hb1⟩)
      have hB1 : Below w.heap.size w w1 := Below.andThen (by go_grown) hb1
      have hown1 : w1.ownsRow w.heap.size 3 1 (.slice (some ⟨w.heap.size, 0, none⟩) 0 0) 0 (ints []) := own_below hb1 (Nat.le_refl _) (own_lit0 w)
      clear hb1
      go_loopw [5, 6] (fun v i wr => ∃ (k : Nat), k ≤ n ∧ i = .int .i64 k ∧ Hid ((ns.take k).all (fun z => decide (0 ≤ z)) = true) ∧ wr.ownsRow w.heap.size 3 1 v k (ints ((runsOf ts ns).take k)) ∧ Below w.heap.size w wr) (fun _ i _ => n - (intOf i).toNat)
      case atStart => exact ⟨0, Nat.zero_le _, rfl, by show _ = true; simp, by simpa using hown1, hB1⟩
      case round =>
        obtain ⟨k, hkn, rfl, HA, ho, hb⟩ := hrel
        clear hown1 hB1
        by_cases hlt : k < n
        · obtain ⟨b, o, x, rfl, hbl, hx, hc⟩ := HR.out.int_ hlt
          obtain ⟨b', o', y, rfl, hbl', hy, hc'⟩ := HS.out.int_ hlt
          have hc1 := (hb.cell (p := ⟨b, o + k, none⟩) hbl).trans hc
          have hc3 := (hb.cell (p := ⟨b', o' + k, none⟩) hbl').trans hc'
          have HX := Lib.hid hx
          have HY := Lib.hid hy
          have HB := Lib.hid hb
          have HC := Lib.hid hc
          have HC' := Lib.hid hc'
          have hs := hb.size
          clear hx hy hc hc' hb
          by_cases hy0 : y < 0
          · go_wp2
            go_ret
            have e : padRuns ts ns = [] := by
              rw [padRuns, if_neg]
              intro h
              have := all0_at (needOk_parts h).2.2 HY.out
              omega
            rw [e]
            exact ⟨_, _, rfl, Fr.nil_, HB.out.alloc hs _⟩
          · go_wp2
            go_region_held3 (fun w' => w'.cell? ⟨b, o + k, none⟩ = some (.int .i64 x) ∧ w'.cell? ⟨b', o' + k, none⟩ = some (.int .i64 y)) (first | exact ⟨kc1, kc3⟩ | go_keep)
              ((refine step_append_lies _ (by rfl) _ _ _ (by rfl) w.heap.size 3 i0 _ 1 8 Try.underlying24 hi hz0 hz1 hz2 rfl (by omega) _ k _ (by rfl) ((ho.alloc _).drew) ⟨wr.heap.size, 0, none⟩ 1 1 [.int .i64 (if x < y then x else y)] (by rfl) (by rfl) (World.news_of_block (cs := #[.int .i64 (if x < y then x else y)]) (t := 3) (fr := (0, 0)) (heap_alloc_new wr _)) (by simp [Value.oneCell']) (by omega) (by unfold maxLen; omega) (by omega) (by simp; omega) (wr.heap.size + 1) (by simp) ?_; intro gg cap w2 ho2 hg2 hat2 hlt2; have hb3 := below_own ((HB.out.alloc hs _).drew) ((ho.alloc _).drew) (Nat.le_refl _) (by simp; omega) hg2; have kc1 := (hb3.cell (p := ⟨b, o + k, none⟩) hbl).trans HC.out; have kc3 := (hb3.cell (p := ⟨b', o' + k, none⟩) hbl').trans HC'.out))
            go_wp2
            go_roundw
            case rel =>
              refine ⟨k + 1, by omega, by go_num, ?_, ?_, hb3⟩
              · show _ = true
                exact all_snoc HY.out HA.out (by simp; omega)
              · rw [take_snoc (runsOf_atL HX.out HY.out), ints_app]
                exact ho2
            case measure => simp [intOf]; omega
        · have hkn : k = n := by omega
          go_wp2
          go_ret
          have hall := HA.out
          rw [hkn, ← hl2.out, List.take_length] at hall
          have e : padRuns ts ns = runsOf ts ns := by
            rw [padRuns, if_pos]
            rw [needOk, hp, hall, H2.out]; simp
          rw [e]
          refine RetI.own (n := k) ?_ hb
          rw [hkn, ← hl1.out, ← runsOf_len H2.out, List.take_length] at ho
          rw [hkn, ← hl1.out, ← runsOf_len H2.out]
          exact ho
    · have hd : ((m : Int) == (n : Int)) = false := by simp; omega
      have e : padRuns ts ns = [] := by
        rw [padRuns, if_neg]; rw [needOk, hl1.out, hl2.out]; simp [hnm]
      rw [e]
      clear hr hs
      go_enter Try.func29, Try.ntmps29
      go_wp2_with (go_at_call 25; refine (sPadStarts_len A n c ts _ (by omega) (HR.out.below (Nat.le_refl _) (by go_grown))).mono ?_; rw [if_pos hp]; rintro e w1 ⟨B1, d1, rfl, hb1⟩)
      go_ret
      exact ⟨_, _, rfl, Fr.nil_, Below.andThen (by go_grown) hb1⟩
set_option maxRecDepth 100000 in
set_option maxHeartbeats 1000000 in
theorem iPadWaste_any (A : Option Addr) (n c : Nat) (ts : List Int) (B : Option Addr) (m d : Nat) (ns : List Int) (w : World) (hn : n ≤ 1048577) (hm : m ≤ 1048577) (hr : Rd w 1 A n (ints ts)) (hs : Rd w 1 B m (ints ns)) :
    Calls Try.prog 32 #[.slice A n c, .slice B m d] w fun e w' => e = .returned (.int .i64 (padWaste ts ns)) ∧ Below w.heap.size w w' := by
  have HP := Lib.hid (needed_any A n c ts B m d ns w hn hm hr hs)
  have hl1 := Lib.hid hr.len
  have HR := Lib.hid hr
  have HS := Lib.hid hs
  clear hr hs
  unfold padWaste
  cases hp : needOk ts ns
  · rw [if_neg (by simp)]
    go_enter Try.func32, Try.ntmps32
    go_wp2_with (go_at_call 71; refine HP.out.mono ?_; rw [hp]; rintro e w1 ⟨rfl, hb1⟩)
    go_ret
    exact ⟨rfl, hb1⟩
  · rw [if_pos rfl]
    obtain ⟨R, hR⟩ : ∃ R, R = padRuns ts ns := ⟨_, rfl⟩
    have hR2 : runsOf ts ns = R := by rw [hR, padRuns, if_pos hp]
    rw [hR2]
    have HRR := Lib.hid hR
    obtain ⟨h1, h2, h3⟩ := needOk_parts hp
    have hbd1 : ∀ (k : Nat) (x : Int), ts[k]? = some x → 0 ≤ x ∧ x ≤ 20 := fun k x h => by have := padOk_at h1 h; omega
    have hbd2 : ∀ (k : Nat) (x : Int), R[k]? = some x → 0 ≤ x ∧ x ≤ 20 := by rw [← hR2]; exact runs_bd hp
    have hl12 := padOk_len h1
    have hlr : R.length ≤ 12 := by rw [hR]; exact padRuns_len ts ns
    have b1 := sumOf_bd' hbd1
    have b2 := sumOf_bd' hbd2
    obtain ⟨S1, hS1⟩ : ∃ S1, S1 = sumOf ts := ⟨_, rfl⟩
    obtain ⟨S2, hS2⟩ : ∃ S2, S2 = sumOf R := ⟨_, rfl⟩
    rw [← hS1] at b1
    rw [← hS2] at b2
    have b3 : 0 ≤ S1 ∧ S1 ≤ 240 := by omega
    have b4 : 0 ≤ S2 ∧ S2 ≤ 240 := by omega
    rw [← hS1, ← hS2]
    have HS1 := Lib.hid hS1
    have HS2 := Lib.hid hS2
    have HB1 := Lib.hid hbd1
    have HB2 := Lib.hid hbd2
    have h12 : n ≤ 12 := by rw [← hl1.out]; exact hl12
    clear h1 h2 h3 hbd1 hbd2 hR hR2 hS1 hS2 hl12 b1 b2
    go_enter Try.func32, Try.ntmps32
    go_wp2_with fail
    refine HP.out.mono ?_
    rw [hp]
    rintro e w1 ⟨rfl, hb1⟩
    go_wp2_with fail
    refine (sum_any A n c ts _ (by omega) HB1.out (HR.out.below (Nat.le_refl _) hb1)).mono ?_
    rw [← HS1.out]
    rintro e w2 ⟨rfl, hb2⟩
    have hB2 := Below.andThen hb1 hb2
    go_wp2_with fail
    refine (iPadRuns_cap A n c ts B m d ns _ hn hm (HR.out.below (Nat.le_refl _) hB2) (HS.out.below (Nat.le_refl _) hB2)).mono ?_
    rw [← HRR.out]
    rintro e w3 ⟨A3, rfl, hf3, hb3⟩
    have hB3 := Below.andThen hB2 hb3
    have HF := Lib.hid hf3.rd
    clear hf3 hb3 hb2
    go_wp2_with fail
    refine (sum_any A3 R.length R.length R _ hlr HB2.out HF.out).mono ?_
    rw [← HS2.out]
    rintro e w4 ⟨rfl, hb4⟩
    go_wp2
    go_ret
    exact ⟨rfl, Below.andThen hB3 hb4⟩
set_option maxRecDepth 100000 in
set_option maxHeartbeats 1000000 in
theorem iPlainStarts_any (A : Option Addr) (n c : Nat) (ts : List Int) (B : Option Addr) (m d : Nat) (ns : List Int) (w : World) (hn : n ≤ 1048577) (hm : m ≤ 1048577) (hr : Rd w 1 A n (ints ts)) (hs : Rd w 1 B m (ints ns)) :
    Calls Try.prog 34 #[.slice A n c, .slice B m d] w (fun e w' => RetI w (plainStarts ts ns) e w') := by
  have HP := Lib.hid (needed_any A n c ts B m d ns w hn hm hr hs)
  have HR := Lib.hid hr
  have HS := Lib.hid hs
  clear hr hs
  unfold plainStarts
  have hlen := padRuns_len ts ns
  cases hp : needOk ts ns
  · have e : padRuns ts ns = [] := by rw [padRuns, if_neg (by simp [hp])]
    rw [e]
    go_enter Try.func34, Try.ntmps34
    go_wp2_with (go_at_call 71; refine HP.out.mono ?_; rw [hp]; rintro e w1 ⟨rfl, hb1⟩)
    go_ret
    exact ⟨none, 0, rfl, Fr.nil_, hb1⟩
  · go_enter Try.func34, Try.ntmps34
    go_wp2_with fail
    refine HP.out.mono ?_
    rw [hp]
    rintro e w1 ⟨rfl, hb1⟩
    go_wp2_with fail
    refine (iPadRuns_cap A n c ts B m d ns _ hn hm (HR.out.below (Nat.le_refl _) hb1) (HS.out.below (Nat.le_refl _) hb1)).mono ?_
    rintro e w3 ⟨A3, rfl, hf3, hb3⟩
    have hB3 := Below.andThen hb1 hb3
    go_wp2_with fail
    refine (starts_any _ _ _ (padRuns ts ns) _ (by omega) (padRuns_bd ts ns) hf3.rd (Nat.le_refl _) (by omega)).mono ?_
    rintro e w4 ⟨A4, c4, rfl, hf4, hb4⟩
    go_wp2
    go_ret
    exact ⟨A4, c4, rfl, hf4.wide hB3.size (Nat.le_refl _), Below.andThen hB3 hb4⟩
theorem waste_at {ts ns : List Int} {k : Nat} {x : Int} (h : (padRuns ts ns)[k]? = some x) : ∃ t, ts[k]? = some t ∧ 0 ≤ t - x ∧ t - x ≤ 20 ∧ 0 ≤ t ∧ t ≤ 20 := by
  unfold padRuns at h
  split at h
  · rename_i hp
    obtain ⟨h1, h2, h3⟩ := needOk_parts hp
    have hl : k < ts.length := by have := (List.getElem?_eq_some_iff.1 h).1; rwa [runsOf_len h2] at this
    have e1 := List.getElem?_eq_getElem hl
    have e2 := List.getElem?_eq_getElem (show k < ns.length by omega)
    have b1 := padOk_at h1 e1
    have b2 := all0_at h3 e2
    rw [runsOf_at e1 e2] at h
    injection h with h
    refine ⟨_, e1, ?_⟩
    split at h <;> omega
  · simp at h
theorem padWaste_eq (ts ns : List Int) : sumOf (ts.take (padRuns ts ns).length) - sumOf (padRuns ts ns) = padWaste ts ns := by
  unfold padWaste padRuns
  split
  · rename_i hp
    rw [runsOf_len (needOk_parts hp).2.1, List.take_length]
  · simp [sumOf]
set_option maxRecDepth 100000 in
set_option maxHeartbeats 1000000 in
theorem sPadWaste_any (A : Option Addr) (n c : Nat) (ts : List Int) (B : Option Addr) (m d : Nat) (ns : List Int) (w : World) (hn : n ≤ 1048577) (hm : m ≤ 1048577) (hr : Rd w 1 A n (ints ts)) (hs : Rd w 1 B m (ints ns)) :
    Calls Try.prog 31 #[.slice A n c, .slice B m d] w fun e w' => e = .returned (.int .i64 (padWaste ts ns)) ∧ Below w.heap.size w w' := by
  obtain ⟨R, hR⟩ : ∃ R, R = padRuns ts ns := ⟨_, rfl⟩
  have HR := Lib.hid hR
  have hlen : R.length ≤ 12 := by rw [hR]; exact padRuns_len ts ns
  have HW : Hid (∀ (k : Nat) (x : Int), R[k]? = some x → ∃ t, ts[k]? = some t ∧ 0 ≤ t - x ∧ t - x ≤ 20 ∧ 0 ≤ t ∧ t ≤ 20) := by
    intro k x h; rw [hR] at h; exact waste_at h
  have HE : Hid (sumOf (ts.take R.length) - sumOf R = padWaste ts ns) := by
    have := padWaste_eq ts ns; rw [← hR] at this; exact this
  have HN := Lib.hid hr.len
  have HRR := Lib.hid hr
  clear hR
  go_enter Try.func31, Try.ntmps31
  go_wp2_with fail
  refine (sPadRuns_any A n c ts B m d ns w hn hm hr hs).mono ?_
  rw [← HR.out]
  rintro e w1 ⟨A1, d1, rfl, hf1, hb1⟩
  have HF := Lib.hid hf1.rd
  have hsz := hb1.size
  clear hr hs
  go_wp2
  go_loopw [5, 7] (fun mm i wr => ∃ (k : Nat) (z : Int), k ≤ R.length ∧ i = .int .i64 k ∧ mm = .int .i64 z ∧ 0 ≤ z ∧ z ≤ 20 * k ∧ Hid (z = sumOf (ts.take k) - sumOf (R.take k)) ∧ Below w1.heap.size w1 wr) (fun _ i _ => R.length - (intOf i).toNat)
  case atStart => exact ⟨0, 0, Nat.zero_le _, rfl, rfl, by omega, by omega, by show (0 : Int) = _; simp [sumOf], Below.refl _ _⟩
  case round =>
    obtain ⟨k, z, hkn, rfl, rfl, hz0, hz1, HZ, hb⟩ := hrel
    clear hf1
    by_cases hlt : k < R.length
    · obtain ⟨b', o', y, rfl, hbl', hy, hc'⟩ := HF.out.int_ hlt
      obtain ⟨t, ht, ht0, ht1, ht2, ht3⟩ := HW.out k y hy
      have hkn : k < n := by
        have := (List.getElem?_eq_some_iff.1 ht).1
        rw [HN.out] at this; exact this
      obtain ⟨b, o, x, rfl, hbl, hx, hc⟩ := HRR.out.int_ hkn
      rw [ht] at hx
      injection hx with hx
      subst hx
      have hc1 := ((Below.andThen hb1 hb).cell (p := ⟨b, o + k, none⟩) hbl).trans hc
      have hc3 := (hb.cell (p := ⟨b', o' + k, none⟩) hbl').trans hc'
      have HT := Lib.hid ht
      have HY := Lib.hid hy
      clear ht hy hc hc'
      go_wp2
      go_region
      go_wp2
      go_roundw
      case rel =>
        refine ⟨k + 1, z + t - y, by omega, by go_num, rfl, by omega, by omega, ?_, hb.drew⟩
        show z + t - y = _
        rw [sumOf_snoc HT.out, sumOf_snoc HY.out, HZ.out]; omega
      case measure => simp [intOf]; omega
    · have hkn : k = R.length := by omega
      go_wp2
      go_ret
      refine ⟨ret_int ?_, Below.andThen hb1 hb⟩
      rw [← HE.out, HZ.out, hkn, List.take_length]
set_option maxRecDepth 100000 in
set_option maxHeartbeats 1000000 in
theorem sPlainStarts_any (A : Option Addr) (n c : Nat) (ts : List Int) (B : Option Addr) (m d : Nat) (ns : List Int) (w : World) (hn : n ≤ 1048577) (hm : m ≤ 1048577) (hr : Rd w 1 A n (ints ts)) (hs : Rd w 1 B m (ints ns)) :
    Calls Try.prog 33 #[.slice A n c, .slice B m d] w (fun e w' => RetI w (plainStarts ts ns) e w') := by
  unfold plainStarts
  obtain ⟨R, hR⟩ : ∃ R, R = padRuns ts ns := ⟨_, rfl⟩
  rw [← hR]
  have HR := Lib.hid hR
  have hlen : R.length ≤ 12 := by rw [hR]; exact padRuns_len ts ns
  have HW : Hid (∀ (k : Nat) (x : Int), R[k]? = some x → 0 ≤ x ∧ x ≤ 20) := by
    intro k x h; rw [hR] at h; exact padRuns_bd ts ns k x h
  obtain ⟨i0, hi, hz0, hz1, hz2⟩ := info_parts Try.infoInt
  have HRR := Lib.hid hr
  have HSS := Lib.hid hs
  clear hR hr hs
  go_enter Try.func33, Try.ntmps33
  go_wp2_with fail
  refine (sPadRuns_any A n c ts B m d ns _ hn hm (HRR.out.below (Nat.le_refl _) (by go_grown)) (HSS.out.below (Nat.le_refl _) (by go_grown))).mono ?_
  rw [← HR.out]
  rintro e w1 ⟨A1, d1, rfl, hf1, hb1⟩
  have hown1 : w1.ownsRow w.heap.size 3 1 (.slice (some ⟨w.heap.size, 0, none⟩) 0 0) 0 (ints []) := own_below hb1 (Nat.le_refl _) (own_lit0 w)
  have hB1 : Below w.heap.size w w1 := Below.andThen (by go_grown) hb1
  have hq : ∀ b o, A1 = some ⟨b, o, none⟩ → 0 < R.length → w.heap.size < b ∧ b < w1.heap.size := by
    intro b o h h0
    obtain ⟨g, cur, hA, hlo, hhi, _⟩ := hf1.2 h0
    rw [hA] at h; injection h with h; injection h with h
    subst h
    simp only [World.size_alloc] at hlo
    exact ⟨by omega, hhi⟩
  have HQ := Lib.hid hq
  have HF := Lib.hid hf1.rd
  have hsz := hB1.size
  clear hf1 hb1 hq
  go_wp2
  go_loopw [5, 6, 8] (fun v aa i wr => ∃ (k : Nat) (z : Int), k ≤ R.length ∧ i = .int .i64 k ∧ aa = .int .i64 z ∧ 0 ≤ z ∧ z ≤ 20 * k ∧ Hid (z = sumOf (R.take k)) ∧ wr.ownsRow w.heap.size 3 1 v k (ints ((startsOf 0 R).take k)) ∧ Hid (Rd wr 1 A1 R.length (ints R)) ∧ w1.heap.size ≤ wr.heap.size ∧ (v.ownBlock = some w.heap.size ∨ ∃ q, v.ownBlock = some q ∧ w1.heap.size ≤ q) ∧ Below w.heap.size w wr) (fun _ _ i _ => R.length - (intOf i).toNat)
  case atStart => exact ⟨0, 0, Nat.zero_le _, rfl, rfl, by omega, by omega, by show (0 : Int) = _; simp [sumOf], by simpa using hown1, HF, Nat.le_refl _, .inl rfl, hB1⟩
  case round =>
    obtain ⟨k, z, hkn, rfl, rfl, hq0, hq1, HZ, ho, HD, hsr, hob, hb⟩ := hrel
    clear hown1 hB1 HF
    by_cases hlt : k < R.length
    · obtain ⟨b, o, x, rfl, hbl, hx, hc⟩ := HD.out.int_ hlt
      obtain ⟨hx0, hx1⟩ := HW.out k x hx
      have HX := Lib.hid hx
      have HB := Lib.hid hb
      have hs := hb.size
      have HC := Lib.hid hc
      have HO := Lib.hid hob
      have hqb := HQ.out b o rfl (by omega)
      clear hx hb hc hob
      go_wp2_with (at_builtin; refine wpList_append_rd _ rfl _ _ 24 rfl w.heap.size 3 i0 (.int .i64 0) 1 8 Try.underlying24 hi hz0 hz1 hz2 rfl (by omega) _ k _ rfl (ho.alloc _) _ 1 1 (ints [z]) rfl (rd_new rfl rfl) (ints_one _) (by unfold maxLen; omega) (by omega) (by simp; omega) ?_; intro v2 w2 ho2 hg2 hat2; have hb3 := below_own (HB.out.alloc hs _) (ho.alloc _) (Nat.le_refl _) (by simp; omega) hg2; have hne : some b ≠ u5.ownBlock := (by rcases HO.out with h | ⟨q, h, hq⟩ <;> rw [h] <;> intro h' <;> injection h' with h' <;> omega); have hc4 := (hg2.cell_far ⟨b, o + k, none⟩ (by simp; omega) hne).trans ((World.cell?_of_block (Below.heap_alloc wr _ b hbl)).trans HC.out))
      go_roundw
      case rel =>
        refine ⟨k + 1, z + x, by omega, by go_num, rfl, by omega, by omega, ?_, ?_, ?_, ?_, ?_, hb3⟩
        · show z + x = _
          rw [sumOf_snoc HX.out, HZ.out]
        · have hat := startsOf_at R 0 k hlt
          rw [Int.zero_add, ← HZ.out] at hat
          rw [take_snoc hat, ints_app]
          exact ho2
        · refine (HD.out.alloc _).grown hg2 (fun b' o' h => ?_) hg2.size
          injection h with h; injection h with h
          subst h; exact hne
        · have := hg2.size
          simp at this
          omega
        · rcases hat2 with h | h
          · rw [h]; exact HO.out
          · exact .inr ⟨_, h, by simp; omega⟩
      case measure => simp [intOf]; omega
    · have hkn : k = R.length := by omega
      go_wp2
      go_ret
      refine RetI.own (n := k) ?_ hb
      rw [hkn, ← startsOf_len R 0, List.take_length] at ho
      rw [hkn, ← startsOf_len R 0]
      exact ho
end Go.Proofs.Ytjdhfehffgccmaa
