/-
  CONTRACTS of MixNumbers, ChainSums and the sums of a chain.
  Conditions: keys in range, as each states.
-/
import Derived.Test.YtlckjhbgdbhdmaaSlices
namespace Go.Proofs.Ytlckjhbgdbhdmaa
open Go.ChangeShapes Go.WideShapes Go.ChangeAt Go.RowKit Go.Joins
set_option linter.unusedVariables false

def mixStep (k n : Int) : Int := (1000003 * k + n % 1048573 + 1) % 1048573
def mixAll (k : Int) (zs : List Int) : Int := zs.foldl mixStep k
def sumsOf : Int → List Int → List Int
  | _, [] => []
  | k, z :: zs => mixStep k z :: sumsOf (mixStep k z) zs
theorem mixStep_rng (k n : Int) : 0 ≤ mixStep k n ∧ mixStep k n ≤ 1048572 := by unfold mixStep; omega
theorem mixAll_rng : ∀ (zs : List Int) (k : Int), 0 ≤ k → k ≤ 1048572 → 0 ≤ mixAll k zs ∧ mixAll k zs ≤ 1048572
  | [], k, h0, h1 => ⟨h0, h1⟩
  | z :: zs, k, h0, h1 => mixAll_rng zs (mixStep k z) (mixStep_rng k z).1 (mixStep_rng k z).2
theorem mixAll_snoc {zs : List Int} {k : Nat} {x key : Int} (h : zs[k]? = some x) : mixAll key (zs.take (k + 1)) = mixStep (mixAll key (zs.take k)) x := by
  rw [take_snoc h, mixAll, List.foldl_append]; rfl
theorem sumsOf_len : ∀ (zs : List Int) (k : Int), (sumsOf k zs).length = zs.length
  | [], _ => rfl
  | z :: zs, k => by rw [sumsOf, List.length_cons, sumsOf_len zs, List.length_cons]
theorem sumsOf_at : ∀ (zs : List Int) (key : Int) (k : Nat), k < zs.length → (sumsOf key zs)[k]? = some (mixAll key (zs.take (k + 1)))
  | [], _, _, h => absurd h (by simp)
  | z :: zs, key, 0, _ => by simp [sumsOf, mixAll]
  | z :: zs, key, k + 1, h => by
    rw [sumsOf, List.getElem?_cons_succ, sumsOf_at zs _ k (by simpa using h)]
    simp [mixAll]
theorem tmod_neg_ (n : Int) : n.tmod 1048573 = if 0 ≤ n then n % 1048573 else -((-n) % 1048573) := by
  by_cases h : 0 ≤ n
  · rw [if_pos h, Int.tmod_eq_emod_of_nonneg h]
  · rw [if_neg h]
    have e : n.tmod 1048573 = -((-n).tmod 1048573) := by rw [Int.neg_tmod, Int.neg_neg]
    rw [e, Int.tmod_eq_emod_of_nonneg (by omega)]
theorem tmod_bd (n : Int) : -1048573 < n.tmod 1048573 ∧ n.tmod 1048573 < 1048573 := by rw [tmod_neg_]; split <;> omega
theorem tmod_pos {n : Int} (h : ¬ n.tmod 1048573 < 0) : n.tmod 1048573 = n % 1048573 := by rw [tmod_neg_] at h ⊢; split <;> split at h <;> omega
theorem tmod_add {n : Int} (h : n.tmod 1048573 < 0) : n.tmod 1048573 + 1048573 = n % 1048573 := by rw [tmod_neg_] at h ⊢; split <;> split at h <;> omega
theorem tmod_mod2 (n : Int) : n.tmod 1048573 % 1048573 = n % 1048573 := by rw [tmod_neg_]; split <;> omega
theorem tmod_mod (n : Int) : (n.tmod 1048573 + 1048573) % 1048573 = n % 1048573 := by rw [tmod_neg_]; split <;> omega

set_option maxRecDepth 100000 in
set_option maxHeartbeats 400000 in
theorem isKey_any (n : Int) (w : World) : Calls Try.prog 50 #[.int .i64 n] w fun e w' => e = .returned (.bool (inB n 0 1048572)) ∧ w = w' := by
  go_enter Try.func50, Try.ntmps50
  go_wp2_with (go_at_call 61; refine (in_any _ _ _ _).mono ?_; rintro e w1 ⟨rfl, rfl⟩)
  go_ret
  exact ⟨rfl, rfl⟩
set_option maxRecDepth 100000 in
set_option maxHeartbeats 400000 in
theorem iMix_no (key : Int) (A : Option Addr) (n c : Nat) (w : World) (hk : inB key 0 1048572 = false) :
    Calls Try.prog 52 #[.int .i64 key, .slice A n c] w fun e w' => e = .returned (.int .i64 (-1)) ∧ Below w.heap.size w w' := by
  go_enter Try.func52, Try.ntmps52
  go_wp2_with (go_at_call 50; refine (isKey_any _ _).mono ?_; rintro e w1 ⟨rfl, rfl⟩)
  go_ret
  exact ⟨rfl, Below.refl _ _⟩
set_option maxRecDepth 100000 in
set_option maxHeartbeats 400000 in
theorem iMix_yes (key : Int) (A : Option Addr) (n c : Nat) (zs : List Int) (w : World) (hm : n ≤ 1048577) (hk : inB key 0 1048572 = true) (hr : Rd w 1 A n (ints zs)) :
    Calls Try.prog 52 #[.int .i64 key, .slice A n c] w fun e w' => e = .returned (.int .i64 (mixAll key zs)) ∧ Below w.heap.size w w' := by
  obtain ⟨hk0, hk1⟩ := inB_true.1 hk
  have hlz := Lib.hid hr.len
  go_enter Try.func52, Try.ntmps52
  go_wp2_with (go_at_call 50; refine (isKey_any _ _).mono ?_; rintro e w1 ⟨rfl, rfl⟩)
  go_loopw [0, 12] (fun kk i wr => ∃ (k : Nat) (m : Int), k ≤ n ∧ i = .int .i64 k ∧ kk = .int .i64 m ∧ 0 ≤ m ∧ m ≤ 1048572 ∧ Hid (m = mixAll key (zs.take k)) ∧ Below w.heap.size w wr) (fun _ i _ => n - (intOf i).toNat)
  case atStart => exact ⟨0, key, Nat.zero_le _, rfl, rfl, hk0, hk1, by show key = _; simp [mixAll], Below.refl _ _⟩
  case round =>
    obtain ⟨k, m, hkn, rfl, rfl, hm0, hm1, HM, hb⟩ := hrel
    by_cases hlt : k < n
    · obtain ⟨b, o, x, rfl, hbl, hx, hc⟩ := hr.int_ hlt
      have hc1 := (hb.cell (p := ⟨b, o + k, none⟩) hbl).trans hc
      have HX := Lib.hid hx
      clear hx hc
      obtain ⟨ht0, ht1⟩ := tmod_bd x
      go_wp2
      go_roundw
      case rel =>
        refine ⟨k + 1, mixStep m x, by omega, by go_num, ?_, (mixStep_rng m x).1, (mixStep_rng m x).2, ?_, hb⟩
        · show Value.int .i64 _ = Value.int .i64 _
          congr 1
          unfold mixStep
          first | rw [tmod_mod] | rw [tmod_mod2]
        · show mixStep m x = _
          rw [mixAll_snoc HX.out, HM.out]
      case measure => simp [intOf]; omega
    · have hkn : k = n := by omega
      go_wp2
      go_ret
      refine ⟨ret_int ?_, hb⟩
      rw [HM.out, hkn, ← hlz.out, List.take_length]
set_option maxRecDepth 100000 in
set_option maxHeartbeats 400000 in
theorem sMix_no (key : Int) (A : Option Addr) (n c : Nat) (w : World) (hk : inB key 0 1048572 = false) :
    Calls Try.prog 49 #[.int .i64 key, .slice A n c] w fun e w' => e = .returned (.int .i64 (-1)) ∧ Below w.heap.size w w' := by
  go_enter Try.func49, Try.ntmps49
  go_wp2_with (go_at_call 48; refine (l1In_any _ _ _ _).mono ?_; rintro e w1 ⟨rfl, rfl⟩)
  go_ret
  exact ⟨rfl, Below.refl _ _⟩
set_option maxRecDepth 100000 in
set_option maxHeartbeats 400000 in
theorem sMix_yes (key : Int) (A : Option Addr) (n c : Nat) (zs : List Int) (w : World) (hm : n ≤ 1048577) (hk : inB key 0 1048572 = true) (hr : Rd w 1 A n (ints zs)) :
    Calls Try.prog 49 #[.int .i64 key, .slice A n c] w fun e w' => e = .returned (.int .i64 (mixAll key zs)) ∧ Below w.heap.size w w' := by
  obtain ⟨hk0, hk1⟩ := inB_true.1 hk
  have hlz := Lib.hid hr.len
  go_enter Try.func49, Try.ntmps49
  go_wp2_with (go_at_call 48; refine (l1In_any _ _ _ _).mono ?_; rintro e w1 ⟨rfl, rfl⟩)
  go_loopw [5, 6] (fun kk i wr => ∃ (k : Nat) (m : Int), k ≤ n ∧ i = .int .i64 k ∧ kk = .int .i64 m ∧ 0 ≤ m ∧ m ≤ 1048572 ∧ Hid (m = mixAll key (zs.take k)) ∧ Below w.heap.size w wr) (fun _ i _ => n - (intOf i).toNat)
  case atStart => exact ⟨0, key, Nat.zero_le _, rfl, rfl, hk0, hk1, by show key = _; simp [mixAll], Below.refl _ _⟩
  case round =>
    obtain ⟨k, m, hkn, rfl, rfl, hm0, hm1, HM, hb⟩ := hrel
    by_cases hlt : k < n
    · obtain ⟨b, o, x, rfl, hbl, hx, hc⟩ := hr.int_ hlt
      have hc1 := (hb.cell (p := ⟨b, o + k, none⟩) hbl).trans hc
      have HX := Lib.hid hx
      clear hx hc
      obtain ⟨ht0, ht1⟩ := tmod_bd x
      by_cases hneg : x.tmod 1048573 < 0
      · have HN := Lib.hid (tmod_add hneg)
        go_wp2
        go_roundw
        case rel =>
          refine ⟨k + 1, mixStep m x, by omega, by go_num, ?_, (mixStep_rng m x).1, (mixStep_rng m x).2, ?_, hb⟩
          · show Value.int .i64 _ = Value.int .i64 _
            congr 1
            unfold mixStep
            rw [← HN.out]
          · show mixStep m x = _
            rw [mixAll_snoc HX.out, HM.out]
        case measure => simp [intOf]; omega
      · have HN := Lib.hid (tmod_pos hneg)
        go_wp2
        go_roundw
        case rel =>
          refine ⟨k + 1, mixStep m x, by omega, by go_num, ?_, (mixStep_rng m x).1, (mixStep_rng m x).2, ?_, hb⟩
          · show Value.int .i64 _ = Value.int .i64 _
            congr 1
            unfold mixStep
            rw [← HN.out]
          · show mixStep m x = _
            rw [mixAll_snoc HX.out, HM.out]
        case measure => simp [intOf]; omega
    · have hkn : k = n := by omega
      go_wp2
      go_ret
      refine ⟨ret_int ?_, hb⟩
      rw [HM.out, hkn, ← hlz.out, List.take_length]
end Go.Proofs.Ytlckjhbgdbhdmaa
