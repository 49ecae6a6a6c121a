/-
  CONTRACTS of slices.IndexFunc and slices.ContainsFunc at []int, over whatever predicate the caller hands in.
  Conditions: the predicate's own contract, in every world in which what lay in the caller's world lies unturned.
-/
import Derived.Test.YtpaknpjdamoibaaInts
import Derived.Shelf.Abstract
namespace Go.Proofs.Ytpaknpjdamoibaa
open Go.ChangeShapes Go.WideShapes Go.ChangeAt Go.RowKit Go.Joins
set_option linter.unusedVariables false

/-- the first place at which p holds, or -1 -/
def idxP {α : Type} (p : α → Bool) (xs : List α) : Int := match xs.findIdx? p with | some i => (i : Int) | none => -1
theorem idxP_any {α : Type} (p : α → Bool) (xs : List α) : decide (0 ≤ idxP p xs) = xs.any p := by
  unfold idxP
  cases h : xs.findIdx? p with
  | some i =>
    rw [List.findIdx?_eq_some_iff_getElem] at h
    obtain ⟨hi, hp, _⟩ := h
    have : xs.any p = true := List.any_eq_true.2 ⟨_, List.getElem_mem hi, hp⟩
    simp [this]
  | none =>
    rw [List.findIdx?_eq_none_iff] at h
    have : xs.any p = false := by rw [List.any_eq_false]; intro x hx; simpa using h x hx
    simp [this]
theorem idxP_hit {α : Type} {p : α → Bool} {xs : List α} {k : Nat} {x : α} (hx : xs[k]? = some x) (hk : ∀ y ∈ xs.take k, p y = false) (hp : p x = true) : idxP p xs = k := by
  unfold idxP
  obtain ⟨hl, rfl⟩ := List.getElem?_eq_some_iff.1 hx
  have : xs.findIdx? p = some k := by
    rw [List.findIdx?_eq_some_iff_getElem]
    refine ⟨hl, hp, fun j hj => ?_⟩
    have h1 := hk xs[j] (List.mem_take_iff_getElem.2 ⟨j, by omega, rfl⟩)
    simp [h1]
  rw [this]
theorem idxP_miss {α : Type} {p : α → Bool} {xs : List α} (hk : ∀ y ∈ xs, p y = false) : idxP p xs = -1 := by
  unfold idxP
  have : xs.findIdx? p = none := List.findIdx?_eq_none_iff.2 hk
  rw [this]
theorem miss_snoc {α : Type} {p : α → Bool} {xs : List α} {k : Nat} {x : α} (hx : xs[k]? = some x) (hk : ∀ y ∈ xs.take k, p y = false) (hp : p x = false) : ∀ y ∈ xs.take (k + 1), p y = false := by
  rw [take_snoc hx]
  intro y hy
  rcases List.mem_append.1 hy with h | h
  · exact hk y h
  · rw [List.mem_singleton.1 h]; exact hp

/-- what a predicate on one value must give -/
def Pred {α : Type} (P : Program) (g : FuncId) (lb : Array Value) (enc : α → Value) (p : α → Bool) (w : World) : Prop :=
  ∀ (x : α) (W : World), Below w.heap.size w W → Calls P g (#[enc x] ++ lb) W fun e W' => e = .returned (.bool (p x)) ∧ Below W.heap.size W W'

end Go.Proofs.Ytpaknpjdamoibaa
