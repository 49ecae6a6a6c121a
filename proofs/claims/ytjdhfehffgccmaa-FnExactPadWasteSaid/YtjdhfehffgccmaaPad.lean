/-
  CONTRACTS of the padding functions.
  Conditions: none beyond those that each states.
-/
import Derived.Test.YtjdhfehffgccmaaAppend
import Derived.Test.YtjdhfehffgccmaaHealth
namespace Go.Proofs.Ytjdhfehffgccmaa
open Go.ChangeShapes Go.WideShapes Go.ChangeAt Go.RowKit Go.Joins
set_option linter.unusedVariables false

def sumOf (zs : List Int) : Int := zs.foldl (· + ·) 0
def startsOf : Int → List Int → List Int
  | _, [] => []
  | a, t :: ts => a :: startsOf (a + t) ts
def padOk (zs : List Int) : Bool := decide (zs.length ≤ 12) && zs.all (fun z => inB z 1 20)
def padStarts (zs : List Int) : List Int := if padOk zs = true then startsOf 0 zs else []
theorem foldl_add : ∀ (zs : List Int) (a : Int), zs.foldl (· + ·) a = a + zs.foldl (· + ·) 0
  | [], a => by simp
  | z :: zs, a => by rw [List.foldl_cons, List.foldl_cons, foldl_add zs (a + z), foldl_add zs (0 + z)]; omega
theorem sumOf_snoc {zs : List Int} {k : Nat} {x : Int} (h : zs[k]? = some x) : sumOf (zs.take (k + 1)) = sumOf (zs.take k) + x := by
  rw [take_snoc h, sumOf, List.foldl_append]; rfl
theorem startsOf_len : ∀ (zs : List Int) (a : Int), (startsOf a zs).length = zs.length
  | [], _ => rfl
  | z :: zs, a => by rw [startsOf, List.length_cons, startsOf_len zs, List.length_cons]
theorem startsOf_at : ∀ (zs : List Int) (a : Int) (k : Nat), k < zs.length → (startsOf a zs)[k]? = some (a + sumOf (zs.take k))
  | [], _, _, h => absurd h (by simp)
  | z :: zs, a, 0, _ => by simp [startsOf, sumOf]
  | z :: zs, a, k + 1, h => by
    rw [startsOf, List.getElem?_cons_succ, startsOf_at zs _ k (by simpa using h)]
    simp only [List.take_succ_cons, sumOf, List.foldl_cons]
    rw [foldl_add _ (0 + z)]
    congr 1; omega
theorem padOk_len {zs : List Int} (h : padOk zs = true) : zs.length ≤ 12 := by
  unfold padOk at h; rw [Bool.and_eq_true] at h; exact of_decide_eq_true h.1
theorem padOk_at {zs : List Int} (h : padOk zs = true) {k : Nat} {x : Int} (hx : zs[k]? = some x) : 1 ≤ x ∧ x ≤ 20 := by
  unfold padOk at h; rw [Bool.and_eq_true] at h
  exact inB_true.1 (List.all_eq_true.1 h.2 x (List.mem_of_getElem? hx))
theorem RetI.mk {w w' : World} {zs : List Int} {A : Option Addr} {n c : Nat} (h : zs.length = n) (hf : Fr w' w.heap.size w'.heap.size 3 1 A n (ints zs)) (hb : Below w.heap.size w w') : RetI w zs (.returned (.slice A n c)) w' := by
  subst h; exact ⟨A, c, rfl, hf, hb⟩
theorem RetI.own {w w' : World} {zs : List Int} {v : Value} {n : Nat} (ho : w'.ownsRow w.heap.size 3 1 v n (ints zs)) (hb : Below w.heap.size w w') : RetI w zs (.returned v) w' := by
  have hl : zs.length = n := by have := ho.1; simpa [ints] using this
  subst hl
  rcases ho.2 with ⟨rfl, h0⟩ | ⟨g, cap, cur, rfl, r⟩
  · have e : zs = [] := List.eq_nil_of_length_eq_zero h0
    subst e
    exact ⟨none, 0, rfl, Fr.nil_, hb⟩
  · exact ⟨_, _, rfl, Fr.of_own ho, hb⟩
theorem ints_app (xs ys : List Int) : ints (xs ++ ys) = ints xs ++ ints ys := by simp [ints]
theorem ints_one (zs : List Int) : ∀ u ∈ ints zs, u.oneCell' = true := ints_oneCell _ _
theorem own_lit0 (w : World) : (w.alloc (.cells #[] 3)).ownsRow w.heap.size 3 1 (.slice (some ⟨w.heap.size, 0, none⟩) 0 0) 0 (ints []) := by
  simpa [ints] using World.ownsRow_lit w #[] 0 (Nat.le_refl _) (Nat.zero_le _) (by simp)

set_option maxRecDepth 100000 in
set_option maxHeartbeats 1000000 in
theorem sum_any (A : Option Addr) (n c : Nat) (zs : List Int) (w : World) (hm : n ≤ 12) (hz : ∀ (k : Nat) (x : Int), zs[k]? = some x → 0 ≤ x ∧ x ≤ 20) (hr : Rd w 1 A n (ints zs)) :
    Calls Try.prog 72 #[.slice A n c] w fun e w' => e = .returned (.int .i64 (sumOf zs)) ∧ Below w.heap.size w w' := by
  have hlz := Lib.hid hr.len
  have HZ := Lib.hid hz
  clear hz
  go_enter Try.func72, Try.ntmps72
  go_wp2
  go_loopw [3, 8] (fun kk i wr => ∃ (k : Nat) (m : Int), k ≤ n ∧ i = .int .i64 k ∧ kk = .int .i64 m ∧ 0 ≤ m ∧ m ≤ 20 * k ∧ Hid (m = sumOf (zs.take k)) ∧ Below w.heap.size w wr) (fun _ i _ => n - (intOf i).toNat)
  case atStart => exact ⟨0, 0, Nat.zero_le _, rfl, rfl, by omega, by omega, by show (0 : Int) = _; simp [sumOf], Below.refl _ _⟩
  case round =>
    obtain ⟨k, m, hkn, rfl, rfl, hm0, hm1, HM, hb⟩ := hrel
    by_cases hlt : k < n
    · obtain ⟨b, o, x, rfl, hbl, hx, hc⟩ := hr.int_ hlt
      have hc1 := (hb.cell (p := ⟨b, o + k, none⟩) hbl).trans hc
      obtain ⟨hx0, hx1⟩ := HZ.out k x hx
      have HX := Lib.hid hx
      clear hx hc
      go_wp2
      go_roundw
      case rel => exact ⟨k + 1, m + x, by omega, by go_num, rfl, by omega, by omega, by show m + x = _; rw [sumOf_snoc HX.out, HM.out], hb⟩
      case measure => simp [intOf]; omega
    · have hkn : k = n := by omega
      go_wp2
      go_ret
      refine ⟨ret_int ?_, hb⟩
      rw [HM.out, hkn, ← hlz.out, List.take_length]
set_option maxRecDepth 100000 in
set_option maxHeartbeats 400000 in
theorem padded1_any (w : World) : Pred Try.prog 90 #[] (Value.int .i64) (fun z => !inB z 1 20) w := by
  intro x W hb
  go_enter Try.func90, Try.ntmps90
  go_wp2_with (go_at_call 75; refine (in_any _ _ _ _).mono ?_; rintro e w1 ⟨rfl, rfl⟩)
  go_ret
  exact ⟨rfl, by go_grown⟩
set_option maxRecDepth 100000 in
set_option maxHeartbeats 400000 in
theorem padded_any (A : Option Addr) (n c : Nat) (zs : List Int) (w : World) (hm : n ≤ 1048577) (hr : Rd w 1 A n (ints zs)) :
    Calls Try.prog 69 #[.slice A n c] w fun e w' => e = .returned (.bool (padOk zs)) ∧ Below w.heap.size w w' := by
  have hlz := Lib.hid hr.len
  have HC := Lib.hid (ContainsFuncI_any 90 #[] (fun z => !inB z 1 20) A n c zs w hm hr (padded1_any w) (enters_of Try.func90 (by kernel_rfl) rfl))
  have HE : Hid (padOk zs = (decide (n ≤ 12) && !zs.any (fun z => !inB z 1 20))) := by
    show padOk zs = _
    rw [padOk, hlz.out, List.all_eq_not_any_not]
  by_cases h3 : n ≤ 12
  · have hI : (n : Int) ≤ 12 := by omega
    go_enter Try.func69, Try.ntmps69
    go_wp2_with (go_at_call 67; refine HC.out.mono ?_; rintro e w1 ⟨rfl, hb1⟩)
    go_ret
    exact ⟨by rw [HE.out]; simp [h3], hb1⟩
  · have hd : decide ((n : Int) ≤ 12) = false := by simp; omega
    go_enter Try.func69, Try.ntmps69
    go_wp2
    go_ret
    exact ⟨by rw [HE.out]; simp [h3], Below.refl _ _⟩
set_option maxRecDepth 100000 in
set_option maxHeartbeats 1000000 in
theorem starts_any (A : Option Addr) (n c : Nat) (zs : List Int) (w : World) (hm : n ≤ 12) (hz : ∀ (k : Nat) (x : Int), zs[k]? = some x → 0 ≤ x ∧ x ≤ 20) (hr : Rd w 1 A n (ints zs)) (hcap : n ≤ c) (hc2 : c ≤ 9223372036854775807) :
    Calls Try.prog 70 #[.slice A n c] w (fun e w' => RetI w (startsOf 0 zs) e w') := by
  have hlz := Lib.hid hr.len
  have HZ := Lib.hid hz
  clear hz
  obtain ⟨i0, hi, hz0, hz1, hz2⟩ := info_parts Try.infoInt
  go_enter Try.func70, Try.ntmps70
  go_wp2_with (at_make; refine wpList_make_full _ rfl _ _ 24 rfl w.heap.size 3 i0 (.int .i64 0) 1 Try.underlying24 hi hz0 hz1 _ _ _ _ n rfl rfl rfl rfl (by rw [hz2]; omega) (by unfold maxLen; omega) (Nat.le_refl _) ?_; intro w0 hown0 hgrow0)
  have hown1 : w0.ownsRow w.heap.size 3 1 (.slice (some ⟨w.heap.size, 0, none⟩) n n) n (ints (List.replicate n 0)) := by
    first | rwa [made_ints] at hown0 | rwa [made_ints2] at hown0
  clear hown0
  have hb0 : Below w.heap.size w w0 := (Below.refl _ _).grown hgrow0 (Nat.le_refl _) (fun k h => by cases h)
  clear hgrow0
  go_loopw [10] (fun i wr => ∃ (k : Nat) (ys : List Int), k ≤ n ∧ i = .int .i64 k ∧ ys.length = n ∧ ys.take k = (startsOf 0 zs).take k ∧
      wr.ownsRow w.heap.size 3 1 (.slice (some ⟨w.heap.size, 0, none⟩) n n) n (ints ys) ∧ Below w.heap.size w wr) (fun i _ => n - (intOf i).toNat)
  case atStart => exact ⟨0, _, Nat.zero_le _, rfl, by simp, by simp, hown1, hb0⟩
  case round =>
    obtain ⟨k, ys, hkn, rfl, hyl, hyt, ho, hb⟩ := hrel
    have HY := Lib.hid hyl
    have HT := Lib.hid hyt
    clear hyl hyt hown1 hb0
    by_cases hlt : k < n
    · obtain ⟨b, o, rfl, hbl, hcl⟩ := hr.2 (by omega)
      have HR := Lib.hid hr
      have HB := Lib.hid hb
      have HCL := Lib.hid hcl
      clear hcl hr
      have hs := hb.size
      clear hb
      go_wp2_with fail
      refine (sum_any (some ⟨b, o, none⟩) k c (zs.take k) _ (by omega) (fun j x hj => HZ.out j x (by rw [List.getElem?_take] at hj; split at hj; exact hj; cases hj)) ⟨by simp [ints]; rw [hlz.out]; omega, fun _ => ⟨b, o, rfl, by omega, fun j u hu => (HB.out.cell (p := ⟨b, o + j, none⟩) hbl).trans (HCL.out j u (by simp only [ints, List.map_take, List.getElem?_take] at hu; split at hu; exact hu; cases hu))⟩⟩).mono ?_
      rintro e w1 ⟨rfl, hb1⟩
      have ho1 := own_below hb1 (Nat.le_refl _) ho
      have HB1 := Lib.hid (Below.andThen HB.out hb1)
      clear hb1 ho
      have hyk : k < ys.length := by rw [HY.out]; exact hlt
      have hc2 : w1.cell? ⟨w.heap.size, k, none⟩ = some (.int .i64 ys[k]) := by
        rw [ho1.cellAt k (by omega), ints_at, List.getElem?_eq_getElem hyk]; rfl
      have hf2 := ho1.frozenAt k
      go_wp2
      go_roundw
      case rel =>
        refine ⟨k + 1, ys.set k (sumOf (zs.take k)), by omega, by go_num, by rw [List.length_set]; exact HY.out, ?_, ?_, HB1.out.setCell (Nat.le_refl _) _⟩
        · have hl : k < zs.length := by rw [hlz.out]; exact hlt
          have hat := startsOf_at zs 0 k hl
          rw [Int.zero_add] at hat
          exact set_take hat hyk HT.out
        · have := (ho1.stored k (.int .i64 (sumOf (zs.take k)))).1
          rwa [ints_set] at this
      case measure => simp [intOf]; omega
    · have hkn : k = n := by omega
      have e : ys = startsOf 0 zs := take_all HY.out (by rw [startsOf_len]; exact hlz.out) (by have ht := HT.out; rw [hkn] at ht; exact ht)
      subst e
      go_wp2
      go_ret
      exact RetI.own ho hb
set_option maxRecDepth 100000 in
set_option maxHeartbeats 1000000 in
theorem iPadStarts_any (A : Option Addr) (n c : Nat) (zs : List Int) (w : World) (hm : n ≤ 1048577) (hr : Rd w 1 A n (ints zs)) (hcap : n ≤ c) (hc2 : c ≤ 9223372036854775807) :
    Calls Try.prog 26 #[.slice A n c] w (fun e w' => RetI w (padStarts zs) e w') := by
  have HP := Lib.hid (padded_any A n c zs w hm hr)
  have hlz := Lib.hid hr.len
  unfold padStarts
  cases hp : padOk zs
  · rw [if_neg (by simp)]
    go_enter Try.func26, Try.ntmps26
    go_wp2_with (go_at_call 69; refine HP.out.mono ?_; rw [hp]; rintro e w1 ⟨rfl, hb1⟩)
    go_ret
    exact ⟨none, 0, rfl, Fr.nil_, hb1⟩
  · rw [if_pos rfl]
    go_enter Try.func26, Try.ntmps26
    go_wp2_with (go_at_call 69; refine HP.out.mono ?_; rw [hp]; rintro e w1 ⟨rfl, hb1⟩)
    refine (starts_any A n c zs _ (by rw [← hlz.out]; exact padOk_len hp) (fun k x hx => by have := padOk_at hp hx; omega) (hr.below (Nat.le_refl _) hb1) hcap hc2).mono ?_
    rintro e w2 ⟨B, d, rfl, hf, hb2⟩
    go_wp2
    go_ret
    exact ⟨B, d, rfl, hf.wide hb1.size (Nat.le_refl _), Below.andThen hb1 hb2⟩
set_option maxRecDepth 100000 in
set_option maxHeartbeats 1000000 in
theorem sPadStarts_any (A : Option Addr) (n c : Nat) (zs : List Int) (w : World) (hm : n ≤ 1048577) (hr : Rd w 1 A n (ints zs)) :
    Calls Try.prog 25 #[.slice A n c] w (fun e w' => RetI w (padStarts zs) e w') := by
  have hlz := Lib.hid hr.len
  obtain ⟨i0, hi, hz0, hz1, hz2⟩ := info_parts Try.infoInt
  by_cases h12 : n ≤ 12
  · have hI : (n : Int) ≤ 12 := by omega
    go_enter Try.func25, Try.ntmps25
    go_wp2
    go_loopw [3, 4, 5] (fun v aa i wr => ∃ (k : Nat) (m : Int), k ≤ n ∧ i = .int .i64 k ∧ aa = .int .i64 m ∧ 0 ≤ m ∧ m ≤ 20 * k ∧ Hid (m = sumOf (zs.take k)) ∧ Hid ((zs.take k).all (fun z => inB z 1 20) = true) ∧ wr.ownsRow w.heap.size 3 1 v k (ints ((startsOf 0 zs).take k)) ∧ Below w.heap.size w wr) (fun _ _ i _ => n - (intOf i).toNat)
    case atStart => exact ⟨0, 0, Nat.zero_le _, rfl, rfl, by omega, by omega, by show (0 : Int) = _; simp [sumOf], by show _ = true; simp, by simpa using own_lit0 w, by go_grown⟩
    case round =>
      obtain ⟨k, m, hkn, rfl, rfl, hm0, hm1, HM, HA, ho, hb⟩ := hrel
      by_cases hlt : k < n
      · obtain ⟨b, o, x, rfl, hbl, hx, hc⟩ := hr.int_ hlt
        have hc1 := (hb.cell (p := ⟨b, o + k, none⟩) hbl).trans hc
        have HX := Lib.hid hx
        have hs := hb.size
        clear hx
        cases hv : inB x 1 20
        · clear hr
          go_wp2_with (go_at_call 62; refine (l1In_any _ _ _ _).mono ?_; rintro e w1 ⟨rfl, rfl⟩)
          go_ret
          have e : padStarts zs = [] := by
            rw [padStarts, if_neg]
            rw [padOk, all_miss HX.out hv]; simp
          rw [e]
          exact ⟨_, _, rfl, Fr.nil_, hb.alloc hs _⟩
        · obtain ⟨hx0, hx1⟩ := inB_true.1 hv
          have hc3 := fun (q : Nat) (hq : wr.heap.size ≤ q) => hc1
          clear hr hc3
          have HB := Lib.hid hb
          go_wp2_with (first
            | (go_at_call 62; refine (l1In_any _ _ _ _).mono ?_; rintro e w1 ⟨rfl, rfl⟩)
            | (at_builtin; refine wpList_append_rd _ rfl _ _ 24 rfl w.heap.size 3 i0 (.int .i64 0) 1 8 Try.underlying24 hi hz0 hz1 hz2 rfl (by omega) _ k _ rfl (ho.alloc _) _ 1 1 (ints [m]) rfl (rd_new rfl rfl) (ints_one _) (by unfold maxLen; omega) (by omega) (by simp; omega) ?_; intro v2 w2 ho2 hg2 hat2; have hb3 := below_own (HB.out.alloc hs _) (ho.alloc _) (Nat.le_refl _) (by simp; omega) hg2; have hc4 := (hb3.cell (p := ⟨b, o + k, none⟩) hbl).trans hc))
          go_roundw
          case rel =>
            refine ⟨k + 1, m + x, by omega, by go_num, rfl, by omega, by omega, ?_, ?_, ?_, hb3⟩
            · show m + x = _
              rw [sumOf_snoc HX.out, HM.out]
            · show _ = true
              exact all_snoc HX.out HA.out hv
            · have hl : k < zs.length := by rw [hlz.out]; exact hlt
              have hat := startsOf_at zs 0 k hl
              rw [Int.zero_add, ← HM.out] at hat
              rw [take_snoc hat, ints_app]
              exact ho2
          case measure => simp [intOf]; omega
      · have hkn : k = n := by omega
        go_wp2
        go_ret
        have hall := HA.out
        rw [hkn, ← hlz.out, List.take_length] at hall
        have e : padStarts zs = startsOf 0 zs := by
          rw [padStarts, if_pos]
          rw [padOk, hall, hlz.out]; simp [h12]
        rw [e]
        refine RetI.own (n := k) ?_ hb
        rw [hkn, ← hlz.out, ← startsOf_len zs 0, List.take_length] at ho
        rw [hkn, ← hlz.out, ← startsOf_len zs 0]
        exact ho
  · have hI : (12 : Int) < n := by omega
    have e : padStarts zs = [] := by
      rw [padStarts, if_neg]
      rw [padOk, hlz.out]; simp [h12]
    rw [e]
    clear e hr hlz hm h12
    go_enter Try.func25, Try.ntmps25
    go_wp2
    go_loopw [3, 5] (fun v i wr => i = .int .i64 0 ∧ v = .slice (some ⟨w.heap.size, 0, none⟩) 0 0 ∧ Below w.heap.size w wr) (fun _ _ _ => 0)
    case atStart => exact ⟨rfl, rfl, by go_grown⟩
    case round =>
      obtain ⟨rfl, rfl, hb⟩ := hrel
      go_wp2_with fail
      go_ret
      exact ⟨_, _, rfl, Fr.nil_, hb⟩
end Go.Proofs.Ytjdhfehffgccmaa
