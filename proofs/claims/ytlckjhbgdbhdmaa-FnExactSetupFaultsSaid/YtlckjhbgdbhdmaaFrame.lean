/-
  CONTRACTS of frame and FrameTicks.
  Conditions: none beyond those that each states.
-/
import Derived.Test.YtlckjhbgdbhdmaaRep
import Derived.Test.YtlckjhbgdbhdmaaSlots
namespace Go.Proofs.Ytlckjhbgdbhdmaa
open Go.ChangeShapes Go.WideShapes Go.ChangeAt Go.RowKit Go.Joins
set_option linter.unusedVariables false

theorem RetI.mk {w w' : World} {zs : List Int} {A : Option Addr} {n c : Nat} (h : zs.length = n) (hf : Fr w' w.heap.size w'.heap.size 3 1 A n (ints zs)) (hb : Below w.heap.size w w') : RetI w zs (.returned (.slice A n c)) w' := by
  subst h; exact ⟨A, c, rfl, hf, hb⟩
theorem RetI.own {w w' : World} {zs : List Int} {v : Value} {n : Nat} (ho : w'.ownsRow w.heap.size 3 1 v n (ints zs)) (hb : Below w.heap.size w w') : RetI w zs (.returned v) w' := by
  have hl : zs.length = n := by have := ho.1; simpa [ints] using this
  subst hl
  rcases ho.2 with ⟨rfl, h0⟩ | ⟨g, cap, cur, rfl, r⟩
  · have e : zs = [] := List.eq_nil_of_length_eq_zero h0
    subst e
    exact ⟨none, 0, rfl, Fr.nil_, hb⟩
  · exact ⟨_, _, rfl, Fr.of_own ho, hb⟩
theorem ints_app (xs ys : List Int) : ints (xs ++ ys) = ints xs ++ ints ys := by simp [ints]
/-- who runs in each tick of a frame -/
def frameL (zs : List (Int × Int)) : List Int := zs.flatMap fun x => List.replicate x.2.toNat x.1
def ticksOk (zs : List (Int × Int)) : Prop := ∀ (k : Nat) (p q : Int), zs[k]? = some (p, q) → 1 ≤ q ∧ q ≤ 20
theorem frameL_snoc {zs : List (Int × Int)} {k : Nat} {p q : Int} (h : zs[k]? = some (p, q)) : frameL (zs.take (k + 1)) = frameL (zs.take k) ++ List.replicate q.toNat p := by
  rw [take_snoc h]; simp [frameL]
theorem frameL_take (zs : List (Int × Int)) (h : ticksOk zs) : ∀ k, k ≤ zs.length → k ≤ (frameL (zs.take k)).length ∧ (frameL (zs.take k)).length ≤ 20 * k
  | 0, _ => by simp [frameL]
  | k + 1, hk => by
    obtain ⟨p, q⟩ : Int × Int := zs[k]
    have hx : zs[k]? = some (zs[k].1, zs[k].2) := List.getElem?_eq_getElem (by omega)
    have h1 := frameL_take zs h k (by omega)
    have h2 := h k _ _ hx
    rw [frameL_snoc hx, List.length_append, List.length_replicate]
    omega
theorem slotsOk_use {parts : Int} {zs : List (Int × Int)} (h : slotsOk parts zs = true) : 0 ≤ parts ∧ parts ≤ 5 ∧ 1 ≤ zs.length ∧ zs.length ≤ 12 ∧ ticksOk zs := by
  unfold slotsOk at h
  rw [Bool.and_eq_true, Bool.and_eq_true, List.all_eq_true] at h
  obtain ⟨h1, h2, h3⟩ := h
  have := inB_true.1 h1
  have := inB_true.1 h2
  refine ⟨by omega, by omega, by omega, by omega, fun k p q hx => ?_⟩
  have := h3 _ (List.mem_of_getElem? hx)
  unfold slotOk at this
  rw [Bool.and_eq_true] at this
  exact inB_true.1 this.1
theorem frameL_bd {zs : List (Int × Int)} (h : ticksOk zs) : zs.length ≤ (frameL zs).length ∧ (frameL zs).length ≤ 20 * zs.length := by
  have := frameL_take zs h zs.length (Nat.le_refl _)
  rwa [List.take_length] at this

end Go.Proofs.Ytlckjhbgdbhdmaa
