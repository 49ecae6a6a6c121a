/-
  CONTRACTS of ChainSums, l12Sum and chain.
  Conditions: keys in range, as each states.
-/
import Derived.Test.YtboejpljjhgflaaMix
namespace Go.Proofs.Ytboejpljjhgflaa
open Go.ChangeShapes Go.WideShapes Go.ChangeAt Go.RowKit Go.Joins
set_option linter.unusedVariables false

theorem mixAll_one (k x : Int) : mixAll k [x] = mixStep k x := rfl
theorem RetI.mk {w w' : World} {zs : List Int} {A : Option Addr} {n c : Nat} (h : zs.length = n) (hf : Fr w' w.heap.size w'.heap.size 3 1 A n (ints zs)) (hb : Below w.heap.size w w') : RetI w zs (.returned (.slice A n c)) w' := by
  subst h; exact ⟨A, c, rfl, hf, hb⟩
theorem RetI.own {w w' : World} {zs : List Int} {v : Value} {n : Nat} (ho : w'.ownsRow w.heap.size 3 1 v n (ints zs)) (hb : Below w.heap.size w w') : RetI w zs (.returned v) w' := by
  have hl : zs.length = n := by have := ho.1; simpa [ints] using this
  subst hl
  rcases ho.2 with ⟨rfl, h0⟩ | ⟨g, cap, cur, rfl, r⟩
  · have e : zs = [] := List.eq_nil_of_length_eq_zero h0
    subst e
    exact ⟨none, 0, rfl, Fr.nil_, hb⟩
  · exact ⟨_, _, rfl, Fr.of_own ho, hb⟩
theorem ints_app (xs ys : List Int) : ints (xs ++ ys) = ints xs ++ ints ys := by simp [ints]

set_option maxRecDepth 100000 in
set_option maxHeartbeats 1000000 in
theorem iChain_any (key : Int) (A : Option Addr) (n c : Nat) (zs : List Int) (w : World) (hm : n ≤ 1048577) (hk : inB key 0 1048572 = true) (hr : Rd w 1 A n (ints zs)) :
    Calls Try.prog 29 #[.int .i64 key, .slice A n c] w fun e w' => e = .returned (.int .i64 (mixAll key zs)) ∧ Below w.heap.size w w' := by
  obtain ⟨hk0, hk1⟩ := inB_true.1 hk
  have hlz := Lib.hid hr.len
  go_enter Try.func29, Try.ntmps29
  go_wp2
  go_loopw [0, 9] (fun kk i wr => ∃ (k : Nat) (m : Int), k ≤ n ∧ i = .int .i64 k ∧ kk = .int .i64 m ∧ 0 ≤ m ∧ m ≤ 1048572 ∧ Hid (m = mixAll key (zs.take k)) ∧ Below w.heap.size w wr) (fun _ i _ => n - (intOf i).toNat)
  case atStart => exact ⟨0, key, Nat.zero_le _, rfl, rfl, hk0, hk1, by show key = _; simp [mixAll], Below.refl _ _⟩
  case round =>
    obtain ⟨k, m, hkn, rfl, rfl, hm0, hm1, HM, hb⟩ := hrel
    by_cases hlt : k < n
    · obtain ⟨b, o, x, rfl, hbl, hx, hc⟩ := hr.int_ hlt
      have hc1 := (hb.cell (p := ⟨b, o + k, none⟩) hbl).trans hc
      have HX := Lib.hid hx
      have HB := Lib.hid hb
      have hs := hb.size
      clear hx hc hb hr
      go_wp2_with fail
      refine (iMix_yes m _ 1 1 [x] _ (by omega) (inB_true.2 ⟨hm0, hm1⟩) (rd_new rfl rfl)).mono ?_
      rintro e w1 ⟨rfl, hb1⟩
      have HB1 := Lib.hid (Below.andThen (HB.out) (Below.andThen (by go_grown) hb1))
      clear hb1
      go_wp2
      go_roundw
      case rel =>
        refine ⟨k + 1, mixStep m x, by omega, by go_num, rfl, (mixStep_rng m x).1, (mixStep_rng m x).2, ?_, HB1.out⟩
        show mixStep m x = _
        rw [mixAll_snoc HX.out, HM.out]
      case measure => simp [intOf]; omega
    · have hkn : k = n := by omega
      go_wp2
      go_ret
      refine ⟨ret_int ?_, hb⟩
      rw [HM.out, hkn, ← hlz.out, List.take_length]
set_option maxRecDepth 100000 in
set_option maxHeartbeats 1000000 in
theorem sChainSums_no (key : Int) (A : Option Addr) (n c : Nat) (w : World) (hk : inB key 0 1048572 = false) :
    Calls Try.prog 34 #[.int .i64 key, .slice A n c] w (fun e w' => RetI w [] e w') := by
  go_enter Try.func34, Try.ntmps34
  go_wp2
  refine wp_loop_rounds 1 ?_
  rw [rounds_succ]
  go_wp2_with (go_at_call 25; refine (l1In_any _ _ _ _).mono ?_; rintro e w1 ⟨rfl, rfl⟩)
  all_goals
    go_ret
    exact ⟨_, _, rfl, Fr.nil_, by go_grown⟩
set_option maxRecDepth 100000 in
set_option maxHeartbeats 1000000 in
theorem sChainSums_yes (key : Int) (A : Option Addr) (n c : Nat) (zs : List Int) (w : World) (hm : n ≤ 1048577) (hk : inB key 0 1048572 = true) (hr : Rd w 1 A n (ints zs)) :
    Calls Try.prog 34 #[.int .i64 key, .slice A n c] w (fun e w' => RetI w (sumsOf key zs) e w') := by
  obtain ⟨hk0, hk1⟩ := inB_true.1 hk
  have hlz := Lib.hid hr.len
  obtain ⟨i0, hi, hz0, hz1, hz2⟩ := info_parts Try.infoInt
  go_enter Try.func34, Try.ntmps34
  go_wp2
  go_loopw [0, 5, 6] (fun kk v i wr => ∃ (k : Nat) (m : Int), k ≤ n ∧ i = .int .i64 k ∧ kk = .int .i64 m ∧ 0 ≤ m ∧ m ≤ 1048572 ∧ Hid (m = mixAll key (zs.take k)) ∧ wr.ownsRow w.heap.size 3 1 v k (ints ((sumsOf key zs).take k)) ∧ Below w.heap.size w wr) (fun _ _ i _ => n - (intOf i).toNat)
  case atStart => exact ⟨0, key, Nat.zero_le _, rfl, rfl, hk0, hk1, by show key = _; simp [mixAll], by simpa [ints] using World.ownsRow_lit w #[] 0 (Nat.le_refl _) (Nat.zero_le _) (by simp), by go_grown⟩
  case round =>
    obtain ⟨k, m, hkn, rfl, rfl, hm0, hm1, HM, ho, hb⟩ := hrel
    have hin : inB m 0 1048572 = true := inB_true.2 ⟨hm0, hm1⟩
    by_cases hlt : k < n
    · obtain ⟨b, o, x, rfl, hbl, hx, hc⟩ := hr.int_ hlt
      have hc1 := (hb.cell (p := ⟨b, o + k, none⟩) hbl).trans hc
      have HX := Lib.hid hx
      have HB := Lib.hid hb
      have hs := hb.size
      clear hx hc hb hr
      go_wp2_with (go_at_call 25; refine (l1In_any _ _ _ _).mono ?_; rintro e w1 ⟨rfl, rfl⟩)
      refine (sMix_yes m _ 1 1 [x] _ (by omega) hin (rd_new rfl rfl)).mono ?_
      rintro e w1 ⟨rfl, hb1⟩
      have hb2 := Below.andThen (w := wr) (by go_grown) hb1
      have HB1 := Lib.hid (Below.andThen HB.out hb2)
      have ho1 := own_below hb2 (Nat.le_refl _) ho
      have hs1 := HB1.out.size
      clear hb1 hb2 ho
      go_wp2_with (at_builtin; refine wpList_append_rd _ rfl _ _ 22 rfl w.heap.size 3 i0 (.int .i64 0) 1 8 Try.underlying22 hi hz0 hz1 hz2 rfl (by omega) _ k _ rfl (ho1.alloc _) _ 1 1 (ints [mixStep m x]) rfl (rd_new rfl rfl) (ints_one _) (by unfold maxLen; omega) (by omega) (by simp; omega) ?_; intro v2 w2 ho2 hg2 hat2)
      have hb3 := below_own (HB1.out.alloc hs1 _) (ho1.alloc _) (Nat.le_refl _) (by simp; omega) hg2
      go_roundw
      case rel =>
        refine ⟨k + 1, mixStep m x, by omega, by go_num, rfl, (mixStep_rng m x).1, (mixStep_rng m x).2, ?_, ?_, hb3⟩
        · show mixStep m x = _
          rw [mixAll_snoc HX.out, HM.out]
        · have hl : k < zs.length := by rw [hlz.out]; exact hlt
          have hat := sumsOf_at zs key k hl
          rw [mixAll_snoc HX.out, ← HM.out] at hat
          rw [take_snoc hat, ints_app]
          exact ho2
      case measure => simp [intOf]; omega
    · have hkn : k = n := by omega
      go_wp2_with (go_at_call 25; refine (l1In_any _ _ _ _).mono ?_; rintro e w1 ⟨rfl, rfl⟩)
      go_ret
      refine RetI.own (n := k) ?_ hb
      rw [hkn, ← hlz.out, ← sumsOf_len zs key, List.take_length] at ho
      rw [hkn, ← hlz.out, ← sumsOf_len zs key]
      exact ho
set_option maxRecDepth 100000 in
set_option maxHeartbeats 1000000 in
theorem l12Sum_any (key : Int) (A : Option Addr) (n c : Nat) (zs : List Int) (w : World) (hm : n ≤ 1048577) (hk : inB key 0 1048572 = true) (hr : Rd w 1 A n (ints zs)) :
    Calls Try.prog 26 #[.int .i64 key, .slice A n c] w fun e w' => e = .returned (.int .i64 (mixAll key zs)) ∧ Below w.heap.size w w' := by
  have hlz := Lib.hid hr.len
  have HC := Lib.hid (sChainSums_yes key A n c zs w hm hk hr)
  clear hr
  go_enter Try.func26, Try.ntmps26
  go_wp2_with fail
  refine HC.out.mono ?_
  rintro e w1 ⟨B, d, rfl, hf, hb⟩
  have hln := Lib.hid ((sumsOf_len zs key).trans hlz.out)
  rw [hln.out] at hf ⊢
  by_cases h0 : n = 0
  · subst h0
    go_wp2
    go_ret
    have e : zs = [] := List.eq_nil_of_length_eq_zero hlz.out
    subst e
    exact ⟨rfl, hb⟩
  · have hd : ((n : Int) == 0) = false := by simp; omega
    obtain ⟨b, o, x, rfl, hbl, hx, hc⟩ := hf.rd.int_ (k := n - 1) (by omega)
    rw [sumsOf_at zs key (n - 1) (by rw [hlz.out]; omega)] at hx
    injection hx with hx
    have HX := Lib.hid hx
    clear hx hf
    have hi0 : (0 : Int) ≤ (n : Int) - 1 := by omega
    have hi1 : (n : Int) - 1 < n := by omega
    have hi2 : ((n : Int) - 1).toNat = n - 1 := by omega
    go_wp2
    go_ret
    refine ⟨ret_int ?_, hb⟩
    rw [← HX.out, show n - 1 + 1 = n by omega, ← hlz.out, List.take_length]
end Go.Proofs.Ytboejpljjhgflaa
