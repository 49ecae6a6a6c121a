/-
  MARKS in rows, said in plain Lean; one cell of a slice of one's own, set.
  Conditions: none.
-/
import Derived.Test.YtpaknpjdamoibaaRows2
namespace Go.Proofs.Ytpaknpjdamoibaa
open Go.ChangeShapes Go.WideShapes Go.ChangeAt Go.RowKit Go.Joins
set_option linter.unusedVariables false

theorem Fr.set {w : World} {lo hi : Nat} {e : TypeId} {size g n : Nat} {xs : List Value} (h : Fr w lo hi e size (some ⟨g, 0, none⟩) n xs) (j : Nat) (u : Value) : Fr (w.setCell ⟨g, j, none⟩ u) lo hi e size (some ⟨g, 0, none⟩) n (xs.set j u) := by
  refine ⟨by simpa using h.1, fun hn => ?_⟩
  obtain ⟨g', hA, _, _, _, _, hst⟩ := h.use hn
  injection hA with hA
  injection hA with hA
  subst hA
  exact (hst j u).2 hn
/-- rows of marks: r k, r (k + m), .. -/
def rowsM {α : Type} (r : Int → α) (m : Int) : Int → Nat → List α
  | _, 0 => []
  | k, n + 1 => r k :: rowsM r m (k + m) n
theorem rowsM_len {α : Type} (r : Int → α) (m : Int) : ∀ (n : Nat) (k : Int), (rowsM r m k n).length = n
  | 0, _ => rfl
  | n + 1, k => by rw [rowsM, List.length_cons, rowsM_len r m n]
theorem rowsM_at {α : Type} (r : Int → α) (m : Int) : ∀ (n : Nat) (k : Int) (i : Nat), i < n → (rowsM r m k n)[i]? = some (r (k + (i : Int) * m))
  | 0, _, _, h => absurd h (by omega)
  | n + 1, k, 0, _ => by simp [rowsM]
  | n + 1, k, i + 1, h => by
    have e : k + ((i + 1 : Nat) : Int) * m = k + m + (i : Int) * m := by rw [Int.natCast_add, Int.add_mul]; omega
    rw [rowsM, List.getElem?_cons_succ, rowsM_at r m n (k + m) i (by omega), e]
def k3 (k : Int) : Bool := k % 3 == 0
end Go.Proofs.Ytpaknpjdamoibaa
