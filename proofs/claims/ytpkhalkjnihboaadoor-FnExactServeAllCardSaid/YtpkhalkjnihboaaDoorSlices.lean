/-
  CONTRACTS of slices.Equal, Clip, Clone and the program's own clone at []int.
  Conditions: none beyond those that each states.
-/
import Derived.Test.YtpkhalkjnihboaaDoorAppend
namespace Go.Proofs.YtpkhalkjnihboaaDoor
open Go.ChangeShapes Go.WideShapes Go.ChangeAt Go.RowKit Go.Joins
set_option linter.unusedVariables false

theorem below_of_grown {w w' : World} (h : w.grownBy w' none) : Below w.heap.size w w' := (Below.refl _ _).grown h (Nat.le_refl _) (fun k e => by cases e)
/-- what Clone gives back -/
def RetC (w : World) (n : Nat) (zs : List Int) (e : Ending) (w' : World) : Prop := ∃ v, e = .returned v ∧ w'.ownsRow w.heap.size 3 1 v n (ints zs) ∧ Below w.heap.size w w'
theorem ints_one (zs : List Int) : ∀ u ∈ ints zs, u.oneCell' = true := ints_oneCell _ _

set_option maxRecDepth 100000 in
set_option maxHeartbeats 400000 in
theorem ClipI_any (A : Option Addr) (n c : Nat) (w : World) (hn : n ≤ 1048577) (hc : n ≤ c) (hc2 : c ≤ maxLen) (hA : A = none → n = 0 ∧ c = 0) :
    Calls Tryd.prog 25 #[.slice A n c] w fun e w' => e = .returned (.slice A n n) ∧ w = w' := by
  unfold maxLen at hc2
  cases A with
  | none =>
    obtain ⟨rfl, rfl⟩ := hA rfl
    go_enter Tryd.func25, Tryd.ntmps25
    go_wp2
    go_ret
    exact ⟨rfl, rfl⟩
  | some a =>
    clear hA
    go_enter Tryd.func25, Tryd.ntmps25
    go_wp2
    go_ret
    exact ⟨rfl, rfl⟩
set_option maxRecDepth 100000 in
set_option maxHeartbeats 400000 in
theorem CloneI_any (A : Option Addr) (n c : Nat) (zs : List Int) (w : World) (hn : n ≤ 1048577) (hr : Rd w 1 A n (ints zs)) (hA : A = none → n = 0 ∧ c = 0) :
    Calls Tryd.prog 26 #[.slice A n c] w (fun e w' => RetC w n zs e w') := by
  cases A with
  | none =>
    obtain ⟨rfl, rfl⟩ := hA rfl
    have hz := Lib.hid hr.len
    have hq := fun (W : World) => Lib.run_eql_slice_nil (P := Tryd.prog) W 31 3 none 0 0 0 0 Tryd.underlying31
    go_enter Tryd.func26, Tryd.ntmps26
    go_wp2
    go_ret
    have e : zs = [] := List.eq_nil_of_length_eq_zero hz.out
    subst e
    exact ⟨_, rfl, World.ownsRow_nil _ _ _ _, Below.refl _ _⟩
  | some a =>
    have hq := fun (W : World) => Lib.run_eql_slice_nil (P := Tryd.prog) W 31 3 (some a) n c 0 0 Tryd.underlying31
    obtain ⟨i0, hi, hz0, hz1, hz2⟩ := info_parts Tryd.infoInt
    clear hA
    go_enter Tryd.func26, Tryd.ntmps26
    go_wp2_with (at_builtin; refine wpList_append_rd _ rfl _ _ 31 rfl w.heap.size 3 i0 (.int .i64 0) 1 8 Tryd.underlying31 hi hz0 hz1 hz2 rfl (by omega) _ 0 [] rfl (World.ownsRow_lit w #[] 0 (Nat.le_refl _) (Nat.zero_le _) (by simp)) (some a) n c (ints zs) rfl (hr.alloc _) (ints_one zs) (by unfold maxLen; omega) (by omega) (by simp) ?_; intro v1 w1 hown1 hg1 hat1)
    go_ret
    exact ⟨v1, rfl, by simpa using hown1, below_own (size := 1) ((Below.refl _ _).alloc (Nat.le_refl _) _) (World.ownsRow_lit w #[] 0 (Nat.le_refl _) (Nat.zero_le _) (by simp)) (Nat.le_refl _) (by simp) hg1⟩
set_option maxRecDepth 100000 in
set_option maxHeartbeats 400000 in
theorem cloneI_any (A : Option Addr) (n c : Nat) (zs : List Int) (w : World) (hn : n ≤ 1048577) (hr : Rd w 1 A n (ints zs)) (hA : A = none → n = 0 ∧ c = 0) :
    Calls Tryd.prog 20 #[.slice A n c] w (fun e w' => RetI w zs e w') := by
  have hlz := Lib.hid hr.len
  have HC := Lib.hid (CloneI_any A n c zs w hn hr hA)
  clear hr hA
  go_enter Tryd.func20, Tryd.ntmps20
  go_wp2_with (go_at_call 26; refine HC.out.mono ?_; rintro e w1 ⟨v, rfl, ho1, hb1⟩)
  have HB := Lib.hid hb1
  have HO := Lib.hid ho1
  rcases ho1.2 with ⟨rfl, h0⟩ | ⟨g, cap, cur, rfl, hg1, hg2, hg3, hg4, _⟩
  · subst h0
    clear hb1 ho1
    go_wp2_with (go_at_call 25; refine (ClipI_any none 0 0 _ (by omega) (by omega) (by omega) (fun _ => ⟨rfl, rfl⟩)).mono ?_; rintro e w2 ⟨rfl, rfl⟩)
    go_ret
    have e : zs = [] := List.eq_nil_of_length_eq_zero hlz.out
    subst e
    exact ⟨none, 0, rfl, Fr.nil_, HB.out⟩
  · clear hb1 ho1 hg2
    go_wp2_with (go_at_call 25; refine (ClipI_any (some ⟨g, 0, none⟩) n cap _ (by omega) hg3 hg4 (fun h => by cases h)).mono ?_; rintro e w2 ⟨rfl, rfl⟩)
    go_ret
    have h := hlz.out
    subst h
    exact ⟨_, _, rfl, Fr.of_own HO.out, HB.out⟩
end Go.Proofs.YtpkhalkjnihboaaDoor
