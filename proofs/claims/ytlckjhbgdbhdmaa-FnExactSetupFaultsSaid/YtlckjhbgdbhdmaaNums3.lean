/-
  THE NUMBERS OF A SETUP: how many.
  Conditions: none.
-/
import Derived.Test.YtlckjhbgdbhdmaaNums2
namespace Go.Proofs.Ytlckjhbgdbhdmaa
open Go.ChangeShapes Go.WideShapes Go.ChangeAt Go.RowKit Go.Joins
set_option linter.unusedVariables false
theorem flat_len {α : Type} (f : α → List Int) (s : Nat) (hf : ∀ x, (f x).length = s) : ∀ xs : List α, (xs.flatMap f).length = xs.length * s
  | [] => by simp
  | x :: xs => by rw [List.flatMap_cons, List.length_append, hf, flat_len f s hf xs, List.length_cons, Nat.add_mul]; omega
theorem numP_len : ∀ ps : List PartL, (∀ x ∈ ps, x.1.length ≤ 12) → (ps.flatMap numP).length ≤ 38 * ps.length
  | [], _ => by simp
  | x :: ps, h => by
    have h1 := numP_len ps (fun y hy => h y (List.mem_cons_of_mem _ hy))
    have h2 := h x (List.mem_cons_self ..)
    have h3 := flat_len numW 3 (fun _ => rfl) x.1
    rw [List.flatMap_cons, List.length_append, List.length_cons]
    have h4 : (numP x).length = (x.1.flatMap numW).length + 2 := by simp [numP]
    omega
theorem setupNums_len (ps : List PartL) (cs : List Chan) (ss : List Slot2) : (setupNums ps cs ss).length ≤ 300 := by
  cases h : setupOk ps cs ss
  · unfold setupNums; rw [if_neg (by rw [h]; simp)]; simp
  · obtain ⟨h1, h2, h3, h4⟩ := setupOk_use h
    have h5 := numP_len ps h4
    have h6 := flat_len numC 4 (fun _ => rfl) cs
    have h7 := flat_len numS 2 (fun _ => rfl) ss
    have e : (setupNums ps cs ss).length = 1 + (ps.flatMap numP).length + 1 + (cs.flatMap numC).length + 1 + (ss.flatMap numS).length := by
      unfold setupNums; rw [if_pos h]; simp only [List.length_cons, List.length_append]; omega
    omega
theorem markSetup_any2 (g1 g2 g3 lo hh : Nat) (n m q : Nat) (ps : List PartL) (cs : List Chan) (ss : List Slot2) (k : Int) (w : World) (hn : n ≤ 1048577) (hm : m ≤ 1048577) (hq : q ≤ 1048577) (hN : markPN ps ≤ 3145728) (h0 : 0 ≤ k) (h1 : k ≤ 1048576) (hf : Fr_set w lo hh g1 g2 g3 n ps m cs q ss) (hlt : hh ≤ w.heap.size) :
    Calls Try.prog 15 #[.agg #[.slice (some ⟨g1, 0, none⟩) n n, .slice (some ⟨g2, 0, none⟩) m m, .slice (some ⟨g3, 0, none⟩) q q], .int .i64 k] w fun e w' => e = .returned (.int .i64 (k + ((markPN ps + m * 4 + q * 2 : Nat) : Int))) ∧ Touch lo hh w w' := markSetup_any g1 g2 g3 lo hh n m q ps cs ss k w hn hm hq hN h0 h1 hlt hf
end Go.Proofs.Ytlckjhbgdbhdmaa
