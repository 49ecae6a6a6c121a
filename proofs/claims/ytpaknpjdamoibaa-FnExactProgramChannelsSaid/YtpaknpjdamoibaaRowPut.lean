/-
  A row of one's own behind the library's sort and compact.
  Conditions: none beyond those that each states.
-/
import Derived.Test.YtpaknpjdamoibaaChS
import Derived.Sort.Grow
namespace Go.Proofs.Ytpaknpjdamoibaa
open Go.ChangeShapes Go.WideShapes Go.ChangeAt Go.RowKit Go.Joins
set_option linter.unusedVariables false

section
variable {w a : World} {base g n c B : Nat} {zs ys : List Int}
theorem own_some (ho : w.ownsRow base 3 1 (.slice (some ⟨g, 0, none⟩) n c) n (ints zs)) : ∃ cur, w.heap[g]? = some (.cells cur 3 (0, 0)) ∧ base ≤ g ∧ n ≤ c ∧ c ≤ maxLen ∧ cur.size = c * 1 ∧ cur.toList.take (n * 1) = ints zs := by
  rcases ho.2 with ⟨hv, _⟩ | ⟨g', cap, cur, hv, hbg, hg, hnc, hcm, hcs, ht⟩
  · cases hv
  · injection hv with h1 h2 h3
    injection h1 with h1
    injection h1 with h1
    subst h1 h3
    exact ⟨cur, hg, hbg, hnc, hcm, hcs, ht⟩
theorem holds_own (ho : w.ownsRow base 3 1 (.slice (some ⟨g, 0, none⟩) n c) n (ints zs)) : Sort.Holds (Value.int .i64) w g 0 zs.toArray := by
  intro j hj
  have hj2 : j < zs.length := by simpa using hj
  have hl : zs.length = n := by have := ho.1; simpa [ints] using this
  rw [Nat.zero_add]
  refine ⟨?_, ho.frozenAt j⟩
  rw [ho.cellAt j (by omega), ints_at, List.getElem?_eq_getElem hj2, getElem!_pos zs.toArray j hj]
  simp
theorem put_heap (w : World) (g q : Nat) (d : Array Int) (os : Array Obj) {cur : Array Value} (hg : w.heap[g]? = some (.cells cur 3 (0, 0))) :
    (Sort.grow (Sort.putRow (Value.int .i64) (Sort.ahead w q) g 0 d) os).heap[g]? = some (.cells (Sort.putCells (Value.int .i64) 0 d cur) 3 (0, 0)) := by
  have hlt := (Array.getElem?_eq_some_iff.1 hg).1
  show (w.heap.modify g (Sort.onCells (Sort.putCells (Value.int .i64) 0 d)) ++ os)[g]? = _
  rw [Array.getElem?_append_left (by simpa using hlt), Array.getElem?_modify, if_pos rfl, hg]; rfl
theorem row_put (ho : w.ownsRow base 3 1 (.slice (some ⟨g, 0, none⟩) n c) n (ints zs)) (hl : ys.length = n) (q : Nat) (os : Array Obj) :
    (Sort.grow (Sort.putRow (Value.int .i64) (Sort.ahead w q) g 0 ys.toArray) os).ownsRow base 3 1 (.slice (some ⟨g, 0, none⟩) n c) n (ints ys) := by
  obtain ⟨cur, hg, hbg, hnc, hcm, hcs, ht⟩ := own_some ho
  refine ⟨by simp [ints, hl], .inr ⟨g, c, _, rfl, hbg, put_heap w g q ys.toArray os hg, hnc, hcm, by simpa [Sort.putCells] using hcs, ?_⟩⟩
  apply List.ext_getElem?
  intro k
  rw [List.getElem?_take, Array.getElem?_toList]
  unfold Sort.putCells
  by_cases hk : k < n
  · rw [if_pos (by omega), Array.getElem?_mapIdx, Array.getElem?_eq_getElem (by omega), ints_at, List.getElem?_eq_getElem (by omega)]
    simp only [Option.map_some, Nat.sub_zero, Nat.zero_le, true_and, Nat.zero_add]
    rw [if_pos (by simpa using (by omega : k < ys.length)), getElem!_pos ys.toArray k (by simpa using (by omega : k < ys.length))]
    simp
  · rw [if_neg (by omega), ints_at, List.getElem?_eq_none (by omega)]; rfl
theorem below_put (hb : Below B a w) (hg : B ≤ g) (hgw : g < w.heap.size) (q : Nat) (d : Array Int) (os : Array Obj) : Below B a (Sort.grow (Sort.putRow (Value.int .i64) (Sort.ahead w q) g 0 d) os) := by
  refine ⟨hb.os, hb.tape, hb.output, ?_, ?_⟩
  · show a.heap.size ≤ (w.heap.modify g (Sort.onCells (Sort.putCells (Value.int .i64) 0 d)) ++ os).size
    have := hb.size
    simp; omega
  · intro k hk
    show (w.heap.modify g (Sort.onCells (Sort.putCells (Value.int .i64) 0 d)) ++ os)[k]? = _
    rw [Array.getElem?_append_left (by simp; omega), Array.getElem?_modify, if_neg (by omega)]
    exact hb.block k hk
end
end Go.Proofs.Ytpaknpjdamoibaa
