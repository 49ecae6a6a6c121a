/-
  CONTRACTS of the caches: lined, CacheValid.
  Conditions: none beyond those that each states.
-/
import Derived.Test.YtfdcneijcckolaaChain
import Derived.Test.YtfdcneijcckolaaAgg1
import Derived.Test.YtfdcneijcckolaaSCache
import Derived.Deep.RegionHeld3
namespace Go.Proofs.Ytfdcneijcckolaa
open Go.ChangeShapes Go.WideShapes Go.ChangeAt Go.RowKit Go.Joins
set_option linter.unusedVariables false

def lined (n : Int) : Bool := n == 1 || n == 2 || n == 4 || n == 8 || n == 16
def lineOk (n k : Nat) (z : Int) : Bool := decide (z = -1) || (inB z 0 255 && decide (z % (n : Int) = k))
def okUp (n : Nat) (zs : List Int) (k : Nat) : Bool := (List.range k).all fun i => lineOk n i (zs.getD i 0)
def cacheOk (zs : List Int) : Bool := lined zs.length && okUp zs.length zs zs.length
theorem okUp_succ {n : Nat} {zs : List Int} {k : Nat} {x : Int} (hx : zs[k]? = some x) : okUp n zs (k + 1) = (okUp n zs k && lineOk n k x) := by
  simp [okUp, List.range_succ, hx]
theorem okUp_miss {n m : Nat} {zs : List Int} {k : Nat} {x : Int} (hx : zs[k]? = some x) (hk : k < m) (h : lineOk n k x = false) : okUp n zs m = false := by
  unfold okUp
  rw [List.all_eq_false]
  exact ⟨k, List.mem_range.2 hk, by simp [hx, h]⟩
theorem lined_bits : ∀ n : Nat, n < 17 → 1 ≤ n → (bits BinOp.and IntKind.i64 (n : Int) ((n : Int) - 1) == 0) = lined n := by decide
theorem lined_le {n : Int} (h : lined n = true) : 1 ≤ n ∧ n ≤ 16 := by
  unfold lined at h
  simp only [Bool.or_eq_true, beq_iff_eq] at h
  omega

set_option maxRecDepth 100000 in
set_option maxHeartbeats 1000000 in
theorem lined_any (n : Int) (w : World) : Calls Try.prog 62 #[.int .i64 n] w fun e w' => e = .returned (.bool (lined n)) ∧ w = w' := by
  go_enter Try.func62, Try.ntmps62
  go_wp2
  all_goals
    go_ret
    exact ⟨by simp [lined, *], rfl⟩
set_option maxRecDepth 100000 in
set_option maxHeartbeats 2000000 in
theorem iCacheValid_any (A : Option Addr) (n c : Nat) (zs : List Int) (w : World) (hm : n ≤ 1048577) (hr : Rd w 1 A n (ints zs)) :
    Calls Try.prog 41 #[.agg #[.slice A n c]] w fun e w' => e = .returned (.bool (cacheOk zs)) ∧ Below w.heap.size w w' := by
  have hlz := Lib.hid hr.len
  have HR := Lib.hid hr
  unfold cacheOk
  rw [hlz.out]
  clear hr
  go_enter Try.func41, Try.ntmps41
  go_wp2
  go_loopw [8] (fun i wr => ∃ k : Nat, k ≤ n ∧ i = .int .i64 k ∧ Hid (okUp n zs k = true) ∧ wr = w.alloc (.cells #[.slice A n c] 50)) (fun i _ => n - (intOf i).toNat)
  case atStart => exact ⟨0, Nat.zero_le _, rfl, by show _ = true; simp [okUp], rfl⟩
  case round =>
    obtain ⟨k, hkn, rfl, HO, rfl⟩ := hrel
    by_cases hlt : k < n
    · obtain ⟨b, o, x, rfl, hbl, hx, hc⟩ := HR.out.int_ hlt
      have hc1 : (w.alloc (.cells #[.slice (some ⟨b, o, none⟩) n c] 50)).cell? ⟨b, o + k, none⟩ = some (.int .i64 x) := (World.cell?_of_block (Below.heap_alloc w _ b hbl)).trans hc
      have HX := Lib.hid hx
      clear hx hc
      by_cases h1 : x = -1
      · subst h1
        go_wp2
        go_roundw
        case rel => exact ⟨k + 1, by omega, by go_num, by show _ = true; rw [okUp_succ HX.out, HO.out]; simp [lineOk], by first | trivial | rfl⟩
        case measure => simp [intOf]; omega
      · have hd : (x == -1) = false := by simp [h1]
        cases hv : inB x 0 255
        · go_wp2_with (go_at_call 59; refine (in_any _ _ _ _).mono ?_; rw [hv]; rintro e w1 ⟨rfl, rfl⟩)
          go_ret
          refine ⟨?_, by go_grown⟩
          rw [okUp_miss HX.out hlt (by simp [lineOk, hv, h1])]; simp
        · obtain ⟨hx0, hx1⟩ := inB_true.1 hv
          have hk0 : ((n : Nat) : Int) ≠ 0 := by omega
          have hd2 : (x != -1) = true := by simp [h1]
          by_cases hk : x % (n : Int) = k
          · go_wp2_with (go_at_call 59; refine (in_any _ _ _ _).mono ?_; rw [hv]; rintro e w1 ⟨rfl, rfl⟩)
            go_roundw
            case rel => exact ⟨k + 1, by omega, by go_num, by show _ = true; rw [okUp_succ HX.out, HO.out]; simp [lineOk, hv, hk], by first | trivial | rfl⟩
            case measure => simp [intOf]; omega
          · have hke : (x % (n : Int) != k) = true := by simp [hk]
            go_wp2_with (go_at_call 59; refine (in_any _ _ _ _).mono ?_; rw [hv]; rintro e w1 ⟨rfl, rfl⟩)
            go_ret
            refine ⟨?_, by go_grown⟩
            rw [okUp_miss HX.out hlt (by simp [lineOk, hv, h1, hk])]; simp
    · have hkn : k = n := by omega
      go_wp2_with (go_at_call 62; refine (lined_any n _).mono ?_; rintro e w1 ⟨rfl, rfl⟩)
      go_ret
      have hO := HO.out
      rw [hkn] at hO
      rw [hO]
      exact ⟨by simp, by go_grown⟩
set_option maxRecDepth 100000 in
set_option maxHeartbeats 2000000 in
theorem sCacheValid_any (A : Option Addr) (n c : Nat) (zs : List Int) (w : World) (hm : n ≤ 1048577) (hr : Rd w 1 A n (ints zs)) :
    Calls Try.prog 39 #[.agg #[.slice A n c]] w fun e w' => e = .returned (.bool (cacheOk zs)) ∧ Below w.heap.size w w' := by
  have hlz := Lib.hid hr.len
  have HR := Lib.hid hr
  unfold cacheOk
  rw [hlz.out]
  clear hr
  cases hin : inB n 1 16
  · have hl : lined n = false := by
      cases h : lined n
      · rfl
      · have := lined_le h
        have : inB n 1 16 = true := inB_true.2 this
        rw [hin] at this; cases this
    go_enter Try.func39, Try.ntmps39
    go_wp2_with (go_at_call 53; refine (l1In_any _ _ _ _).mono ?_; rw [hin]; rintro e w1 ⟨rfl, rfl⟩)
    go_ret
    exact ⟨by simp [hl], by go_grown⟩
  · obtain ⟨hn1, hn16⟩ := inB_true.1 hin
    have hb := lined_bits n (by omega) (by omega)
    cases hl : lined n
    · rw [hl] at hb
      go_enter Try.func39, Try.ntmps39
      go_wp2_with (go_at_call 53; refine (l1In_any _ _ _ _).mono ?_; rw [hin]; rintro e w1 ⟨rfl, rfl⟩)
      go_ret
      exact ⟨by simp, by go_grown⟩
    · rw [hl] at hb
      have hb0 : bits BinOp.and IntKind.i64 (n : Int) ((n : Int) - 1) = 0 := by simpa using hb
      clear hb
      go_enter Try.func39, Try.ntmps39
      go_wp2_with (go_at_call 53; refine (l1In_any _ _ _ _).mono ?_; rw [hin]; rintro e w1 ⟨rfl, rfl⟩)
      go_loopw [4] (fun i wr => ∃ k : Nat, k ≤ n ∧ i = .int .i64 k ∧ Hid (okUp n zs k = true) ∧ wr = w.alloc (.cells #[.slice A n c] 50)) (fun i _ => n - (intOf i).toNat)
      case atStart => exact ⟨0, Nat.zero_le _, rfl, by show _ = true; simp [okUp], rfl⟩
      case round =>
        obtain ⟨k, hkn, rfl, HO, rfl⟩ := hrel
        by_cases hlt : k < n
        · obtain ⟨b, o, x, rfl, hbl, hx, hc⟩ := HR.out.int_ hlt
          have hc1 : (w.alloc (.cells #[.slice (some ⟨b, o, none⟩) n c] 50)).cell? ⟨b, o + k, none⟩ = some (.int .i64 x) := (World.cell?_of_block (Below.heap_alloc w _ b hbl)).trans hc
          have HX := Lib.hid hx
          clear hx hc
          have hk0 : ((n : Nat) : Int) ≠ 0 := by omega
          cases hv : inB x (-1) 255
          · go_wp2_with (go_at_call 53; refine (l1In_any _ _ _ _).mono ?_; rw [hv]; rintro e w1 ⟨rfl, rfl⟩)
            go_ret
            refine ⟨?_, by go_grown⟩
            rw [okUp_miss HX.out hlt (by
              have : ¬ (-1 ≤ x ∧ x ≤ 255) := fun h => by rw [inB_true.2 h] at hv; cases hv
              have h0 : inB x 0 255 = false := by
                cases h : inB x 0 255
                · rfl
                · have := inB_true.1 h; omega
              simp [lineOk, h0]; omega)]; simp
          · obtain ⟨hx0, hx1⟩ := inB_true.1 hv
            by_cases h1 : x = -1
            · subst h1
              go_wp2_with (go_at_call 53; refine (l1In_any _ _ _ _).mono ?_; rw [hv]; rintro e w1 ⟨rfl, rfl⟩)
              go_roundw
              case rel => exact ⟨k + 1, by omega, by go_num, by show _ = true; rw [okUp_succ HX.out, HO.out]; simp [lineOk], by first | trivial | rfl⟩
              case measure => simp [intOf]; omega
            · have hge : 0 ≤ x := by omega
              have hv2 : inB x 0 255 = true := inB_true.2 ⟨hge, hx1⟩
              have hd2 : decide (x ≥ 0) = true := by simp [hge]
              by_cases hk : x % (n : Int) = k
              · go_wp2_with (go_at_call 53; refine (l1In_any _ _ _ _).mono ?_; rw [hv]; rintro e w1 ⟨rfl, rfl⟩)
                go_roundw
                case rel => exact ⟨k + 1, by omega, by go_num, by show _ = true; rw [okUp_succ HX.out, HO.out]; simp [lineOk, hv2, hk], by first | trivial | rfl⟩
                case measure => simp [intOf]; omega
              · have hke : (x % (n : Int) != k) = true := by simp [hk]
                go_wp2_with (go_at_call 53; refine (l1In_any _ _ _ _).mono ?_; rw [hv]; rintro e w1 ⟨rfl, rfl⟩)
                go_ret
                refine ⟨?_, by go_grown⟩
                rw [okUp_miss HX.out hlt (by simp [lineOk, hv2, h1, hk])]; simp
        · have hkn : k = n := by omega
          go_wp2
          go_ret
          have hO := HO.out
          rw [hkn] at hO
          rw [hO]
          exact ⟨by simp, by go_grown⟩
end Go.Proofs.Ytfdcneijcckolaa
