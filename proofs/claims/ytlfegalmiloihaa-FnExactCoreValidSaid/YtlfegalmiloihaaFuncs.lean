/-
  CONTRACTS of slices.IndexFunc and slices.ContainsFunc at []int, over whatever predicate the caller hands in.
  Conditions: the predicate's own contract, in every world in which what lay in the caller's world lies unturned.
-/
import Derived.Test.YtlfegalmiloihaaInts
import Derived.Shelf.Abstract
namespace Go.Proofs.Ytlfegalmiloihaa
open Go.ChangeShapes Go.WideShapes Go.ChangeAt Go.RowKit Go.Joins
set_option linter.unusedVariables false

/-- the first place at which p holds, or -1 -/
def idxP {α : Type} (p : α → Bool) (xs : List α) : Int := match xs.findIdx? p with | some i => (i : Int) | none => -1
theorem idxP_any {α : Type} (p : α → Bool) (xs : List α) : decide (0 ≤ idxP p xs) = xs.any p := by
  unfold idxP
  cases h : xs.findIdx? p with
  | some i =>
    rw [List.findIdx?_eq_some_iff_getElem] at h
    obtain ⟨hi, hp, _⟩ := h
    have : xs.any p = true := List.any_eq_true.2 ⟨_, List.getElem_mem hi, hp⟩
    simp [this]
  | none =>
    rw [List.findIdx?_eq_none_iff] at h
    have : xs.any p = false := by rw [List.any_eq_false]; intro x hx; simpa using h x hx
    simp [this]
theorem idxP_hit {α : Type} {p : α → Bool} {xs : List α} {k : Nat} {x : α} (hx : xs[k]? = some x) (hk : ∀ y ∈ xs.take k, p y = false) (hp : p x = true) : idxP p xs = k := by
  unfold idxP
  obtain ⟨hl, rfl⟩ := List.getElem?_eq_some_iff.1 hx
  have : xs.findIdx? p = some k := by
    rw [List.findIdx?_eq_some_iff_getElem]
    refine ⟨hl, hp, fun j hj => ?_⟩
    have h1 := hk xs[j] (List.mem_take_iff_getElem.2 ⟨j, by omega, rfl⟩)
    simp [h1]
  rw [this]
theorem idxP_miss {α : Type} {p : α → Bool} {xs : List α} (hk : ∀ y ∈ xs, p y = false) : idxP p xs = -1 := by
  unfold idxP
  have : xs.findIdx? p = none := List.findIdx?_eq_none_iff.2 hk
  rw [this]
theorem miss_snoc {α : Type} {p : α → Bool} {xs : List α} {k : Nat} {x : α} (hx : xs[k]? = some x) (hk : ∀ y ∈ xs.take k, p y = false) (hp : p x = false) : ∀ y ∈ xs.take (k + 1), p y = false := by
  rw [take_snoc hx]
  intro y hy
  rcases List.mem_append.1 hy with h | h
  · exact hk y h
  · rw [List.mem_singleton.1 h]; exact hp

/-- what a predicate on one value must give -/
def Pred {α : Type} (P : Program) (g : FuncId) (lb : Array Value) (enc : α → Value) (p : α → Bool) (w : World) : Prop :=
  ∀ (x : α) (W : World), Below w.heap.size w W → Calls P g (#[enc x] ++ lb) W fun e W' => e = .returned (.bool (p x)) ∧ Below W.heap.size W W'

set_option maxRecDepth 100000 in
set_option maxHeartbeats 400000 in
theorem IndexFuncI_any (g : FuncId) (lb : Array Value) (p : Int → Bool) (A : Option Addr) (n c : Nat) (zs : List Int) (w : World) (hm : n ≤ 1048577) (hr : Rd w 1 A n (ints zs)) (hp : Pred Try.prog g lb (Value.int .i64) p w)
    (eg : ∀ args w, (callFunc g args).run Try.prog w = .ok (.enter g args) w) :
    Calls Try.prog 41 #[.slice A n c, .func (.func g) #[] lb] w fun e w' => e = .returned (.int .i64 (idxP p zs)) ∧ Below w.heap.size w w' := by
  have hlz := Lib.hid hr.len
  have HP := Lib.hid hp
  clear hp
  go_enter Try.func41, Try.ntmps41
  go_wp2
  go_loopw [5, 8] (fun j i wr => ∃ (k : Nat), k ≤ n ∧ i = .int .i64 k ∧ (∀ y ∈ zs.take k, p y = false) ∧ Below w.heap.size w wr) (fun _ i _ => n - (intOf i).toNat)
  case atStart => exact ⟨0, Nat.zero_le _, rfl, by simp, Below.refl _ _⟩
  case round =>
    obtain ⟨k, hk, rfl, hxy, hb⟩ := hrel
    have HT := Lib.hid hxy
    clear hxy
    by_cases hlt : k < n
    · obtain ⟨b, o, x, rfl, hbl, hx, hc⟩ := hr.int_ hlt
      have hc1 := (hb.cell (p := ⟨b, o + k, none⟩) hbl).trans hc
      have HX := Lib.hid hx
      clear hx hc
      cases hv : p x
      · go_wp2_with (go_at_fn g; refine (HP.out x _ hb).mono ?_; rintro e w1 ⟨rfl, hb1⟩)
        go_roundw
        case rel => exact ⟨k + 1, by omega, by go_num, miss_snoc HX.out HT.out hv, Below.andThen hb hb1⟩
        case measure => simp [intOf]; omega
      · go_wp2_with (go_at_fn g; refine (HP.out x _ hb).mono ?_; rintro e w1 ⟨rfl, hb1⟩)
        go_ret
        exact ⟨ret_int (idxP_hit HX.out HT.out hv).symm, Below.andThen hb hb1⟩
    · have hkn : k = n := by omega
      go_wp2
      go_ret
      refine ⟨ret_int (idxP_miss ?_).symm, hb⟩
      have := HT.out
      rw [hkn, ← hlz.out, List.take_length] at this
      exact this
set_option maxRecDepth 100000 in
set_option maxHeartbeats 400000 in
theorem ContainsFuncI_any (g : FuncId) (lb : Array Value) (p : Int → Bool) (A : Option Addr) (n c : Nat) (zs : List Int) (w : World) (hm : n ≤ 1048577) (hr : Rd w 1 A n (ints zs)) (hp : Pred Try.prog g lb (Value.int .i64) p w)
    (eg : ∀ args w, (callFunc g args).run Try.prog w = .ok (.enter g args) w) :
    Calls Try.prog 38 #[.slice A n c, .func (.func g) #[] lb] w fun e w' => e = .returned (.bool (zs.any p)) ∧ Below w.heap.size w w' := by
  have HP := Lib.hid hp
  clear hp
  rw [← idxP_any]
  have hi := IndexFuncI_any g lb p A n c zs w hm hr HP.out eg
  have HI := Lib.hid hi
  clear hi eg hr
  go_enter Try.func38, Try.ntmps38
  go_wp2_with (go_at_call 41; refine HI.out.mono ?_; rintro e w1 ⟨rfl, hb1⟩)
  go_ret
  exact ⟨rfl, hb1⟩
end Go.Proofs.Ytlfegalmiloihaa
