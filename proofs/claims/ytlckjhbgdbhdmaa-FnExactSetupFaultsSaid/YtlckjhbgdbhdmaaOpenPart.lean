/-
  A list of partitions, read out of an argument.
  Conditions: none.
-/
import Derived.Test.YtlckjhbgdbhdmaaNPartS
namespace Go.Proofs.Ytlckjhbgdbhdmaa
open Go.ChangeShapes Go.WideShapes Go.ChangeAt Go.RowKit Go.Joins
set_option linter.unusedVariables false

section
variable {H : Type} {enc : TypeId × Value → H} {w : World} {base : Nat} {spare : Nat → Bool} {held : Bool}
set_option maxRecDepth 100000 in
set_option maxHeartbeats 400000 in
theorem win_el : ∀ (q : Nat) (r : List Value) (d : DataW H × List MemPlace), DataW.trod enc Try.prog w base spare held q 110 r = some d → ∃ x, r = winC x := by
  intro q r d hd
  obtain ⟨c0, c1, c2, y0, y1, y2, q2, rfl, t0, t1, t2⟩ := trod_row3 Try.underlying110 (by kernel_rfl) (by kernel_rfl) hd
  obtain ⟨z0, e0, _⟩ := DataW.trod_int Try.underlying3 t0
  obtain ⟨z1, e1, _⟩ := DataW.trod_int Try.underlying3 t1
  obtain ⟨z2, e2, _⟩ := DataW.trod_bool Try.underlying4 t2
  simp only [List.cons.injEq, and_true] at e0 e1 e2
  exact ⟨(z0, z1, z2), by rw [e0, e1, e2]; rfl⟩
set_option maxRecDepth 100000 in
set_option maxHeartbeats 400000 in
theorem part_el : ∀ (q : Nat) (r : List Value) (d : DataW H × List MemPlace), DataW.trod enc Try.prog w base spare held q 79 r = some d →
    ∃ p : Hdr × (List (Int × Int × Bool) × Int), r = partC p.1 p.2 ∧ (partI p.2).length = p.1.2.1 ∧ p.1.2.1 ≤ maxLen ∧ Rd w 3 p.1.1 p.1.2.1 ((partI p.2).flatMap winC) := by
  intro q r d hd
  obtain ⟨c0, c1, y0, y1, q2, rfl, t0, t1⟩ := trod_row2 Try.underlying79 (by kernel_rfl) (by kernel_rfl) hd
  obtain ⟨z1, e1, _⟩ := DataW.trod_int Try.underlying3 t1
  obtain ⟨A, n, c, zs, hv', hn, hm, hr⟩ := rd_enc winC Try.underlying77 (show Try.prog.cellsOf 110 = 3 by kernel_rfl) (by omega) win_el t0
  simp only [List.cons.injEq, and_true] at e1
  exact ⟨((A, n, c), (zs, z1)), by rw [hv', e1]; rfl, hn, hm, hr⟩
set_option maxRecDepth 100000 in
set_option maxHeartbeats 400000 in
theorem open_rdPart {r : Reach} {b0 : Nat} {v : Value} {d : DataW H} {ps : List MemPlace} (ht : Try.prog.underlying 22 = some (.slice 79))
    (hv : Value.okWide Try.prog w r b0 22 v) (h : DataW.Trod enc Try.prog w base spare held 22 v d ps) :
    ∃ (A : Option Addr) (n c : Nat) (zs : List (List (Int × Int × Bool) × Int)), v = .slice A n c ∧ zs.length = n ∧ n ≤ maxLen ∧ Rd_part w A n zs := by
  obtain ⟨a0, len, cap, rfl⟩ := okWide_slice ht hv
  obtain ⟨fuel, hf⟩ := h
  obtain ⟨A, n, c, zs, hv', hn, hm, hr⟩ := rdN_of (inn := partI) ht (show Try.prog.cellsOf 79 = 2 by kernel_rfl) (by omega) part_el (by simpa [Value.cells] using hf)
  exact ⟨A, n, c, zs, hv', hn, hm, hr⟩
end
end Go.Proofs.Ytlckjhbgdbhdmaa
