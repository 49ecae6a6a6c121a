/-
  PLAIN LAWS of the channels of a program: sorted, each once.
  Conditions: none.
-/
import Derived.Test.YtpaknpjdamoibaaOrdV
import Derived.Lib.SlicesCompact
import Derived.Sort.Grow
namespace Go.Proofs.Ytpaknpjdamoibaa
open Go.ChangeShapes Go.WideShapes Go.ChangeAt Go.RowKit Go.Joins
set_option linter.unusedVariables false

theorem lt_ext : ∀ (l1 l2 : List Int), l1.Pairwise (· < ·) → l2.Pairwise (· < ·) → (∀ x, x ∈ l1 ↔ x ∈ l2) → l1 = l2
  | [], [], _, _, _ => rfl
  | [], y :: l2, _, _, h => by have := (h y).2 (List.mem_cons_self ..); cases this
  | x :: l1, [], _, _, h => by have := (h x).1 (List.mem_cons_self ..); cases this
  | x :: l1, y :: l2, h1, h2, h => by
    obtain ⟨a1, b1⟩ := List.pairwise_cons.1 h1
    obtain ⟨a2, b2⟩ := List.pairwise_cons.1 h2
    have e : x = y := by
      rcases List.mem_cons.1 ((h x).1 (List.mem_cons_self ..)) with e | e
      · exact e
      · rcases List.mem_cons.1 ((h y).2 (List.mem_cons_self ..)) with e2 | e2
        · exact e2.symm
        · have := a2 x e; have := a1 y e2; omega
    subst e
    rw [lt_ext l1 l2 b1 b2 fun z => ?_]
    have hz := h z
    simp only [List.mem_cons] at hz
    constructor
    · intro hm
      rcases hz.1 (.inr hm) with e | e
      · have := a1 z hm; omega
      · exact e
    · intro hm
      rcases hz.2 (.inr hm) with e | e
      · have := a2 z hm; omega
      · exact e
theorem keeps_iff (d : Array Int) (j : Nat) : Lib.keeps d j = true ↔ (j = 0 ∨ d[j]! ≠ d[j - 1]!) := by unfold Lib.keeps; rw [decide_eq_true_eq]
theorem compact_mem (l : List Int) (x : Int) : x ∈ Lib.compact l ↔ x ∈ l := by
  have hget : ∀ j, j < l.length → l.toArray[j]! = l[j]! := fun j hj => by simp
  unfold Lib.compact Lib.compactUpTo
  simp only [List.mem_map, List.mem_filter, List.mem_range]
  constructor
  · rintro ⟨j, ⟨hj, _⟩, rfl⟩
    rw [getElem!_pos l.toArray j (by simpa using hj)]
    simp
  · intro hx
    obtain ⟨j, hj⟩ := List.getElem?_of_mem hx
    obtain ⟨hjl, hje⟩ := List.getElem?_eq_some_iff.1 hj
    have key : ∀ j, j < l.length → ∃ i, (i < l.length ∧ Lib.keeps l.toArray i = true) ∧ l.toArray[i]! = l.toArray[j]! := by
      intro j
      induction j with
      | zero => intro h0; exact ⟨0, ⟨h0, (keeps_iff _ _).2 (.inl rfl)⟩, rfl⟩
      | succ j ih =>
        intro hj1
        by_cases hk : Lib.keeps l.toArray (j + 1) = true
        · exact ⟨j + 1, ⟨hj1, hk⟩, rfl⟩
        · obtain ⟨i, hi, he⟩ := ih (by omega)
          refine ⟨i, hi, ?_⟩
          rw [he]
          have : ¬ (j + 1 = 0 ∨ l.toArray[j + 1]! ≠ l.toArray[j + 1 - 1]!) := fun h => hk ((keeps_iff _ _).2 h)
          have h2 : l.toArray[j + 1]! = l.toArray[j + 1 - 1]! := Classical.byContradiction fun h => this (.inr h)
          rw [h2]; rfl
    obtain ⟨i, hi, he⟩ := key j hjl
    refine ⟨i, hi, ?_⟩
    rw [he, getElem!_pos l.toArray j (by simpa using hjl)]
    simpa using hje
theorem compact_lt {l : List Int} (h : l.Pairwise (· ≤ ·)) : (Lib.compact l).Pairwise (· < ·) := by
  have hle : ∀ i j, i ≤ j → j < l.length → l.toArray[i]! ≤ l.toArray[j]! := by
    intro i j hij hj
    rw [getElem!_pos l.toArray i (by simp; omega), getElem!_pos l.toArray j (by simpa using hj)]
    rcases Nat.lt_or_eq_of_le hij with h1 | h1
    · have := List.pairwise_iff_getElem.1 h i j (by omega) hj h1
      simpa using this
    · subst h1; omega
  unfold Lib.compact Lib.compactUpTo
  rw [List.pairwise_map]
  refine List.Pairwise.imp_of_mem ?_ (List.Pairwise.filter _ List.pairwise_lt_range)
  intro i j hi hj hij
  have hj2 := (List.mem_filter.1 hj)
  have hjl := List.mem_range.1 hj2.1
  rcases (keeps_iff _ _).1 hj2.2 with h0 | h0
  · omega
  · have h1 := hle i (j - 1) (by omega) (by omega)
    have h2 := hle (j - 1) j (by omega) hjl
    omega
/-- the channels that the orders of one operation name -/
def opL (op : Int) (zs : List Ord3) : List Int := (zs.filter fun o => o.1 == op).map fun o => o.2.1
def hasCh (op : Int) (zs : List Ord3) (c : Nat) : Bool := zs.any fun o => o.1 == op && o.2.1 == (c : Int)
def chL (op : Int) (zs : List Ord3) (k : Nat) : List Int := ((List.range k).filter (hasCh op zs)).map fun (c : Nat) => (c : Int)
theorem chL_len (op : Int) (zs : List Ord3) (k : Nat) : (chL op zs k).length ≤ k := by
  unfold chL
  rw [List.length_map]
  exact Nat.le_trans (List.length_filter_le _ _) (by simp)
theorem chL_yes {op : Int} {zs : List Ord3} {k : Nat} (h : hasCh op zs k = true) : chL op zs (k + 1) = chL op zs k ++ [(k : Int)] := by
  unfold chL; rw [List.range_succ, List.filter_append, List.map_append]; simp [h]
theorem chL_no {op : Int} {zs : List Ord3} {k : Nat} (h : hasCh op zs k = false) : chL op zs (k + 1) = chL op zs k := by
  unfold chL; rw [List.range_succ, List.filter_append, List.map_append]; simp [h]
def chRes (zs : List Ord3) (cells : Int) (sends : Bool) : List Int := if progOk zs cells = true then chL (if sends = true then 5 else 6) zs 8 else []
theorem chRes_len (zs : List Ord3) (cells : Int) (sends : Bool) : (chRes zs cells sends).length ≤ 8 := by
  unfold chRes
  split
  · exact chL_len _ _ _
  · simp
theorem progOk_ch {zs : List Ord3} {cells op : Int} (h : progOk zs cells = true) (hop : op = 5 ∨ op = 6) : ∀ o ∈ zs, o.1 = op → 0 ≤ o.2.1 ∧ o.2.1 ≤ 7 := by
  unfold progOk at h
  rw [Bool.and_eq_true, Bool.and_eq_true, List.all_eq_true] at h
  intro o ho he
  have h1 := h.2.2 o ho
  unfold ordC_ ordG at h1
  rcases hop with rfl | rfl
  all_goals
    simp [he] at h1
    exact inB_true.1 h1.1
theorem sorted_ch {zs : List Ord3} {cells op : Int} (h : progOk zs cells = true) (hop : op = 5 ∨ op = 6) : Lib.compact ((opL op zs).mergeSort fun x y => decide (x ≤ y)) = chL op zs 8 := by
  refine lt_ext _ _ (compact_lt ?_) ?_ ?_
  · have := List.pairwise_mergeSort (le := fun x y : Int => decide (x ≤ y)) (fun a b c h1 h2 => by simp at *; omega) (fun a b => by simp; omega) (opL op zs)
    exact this.imp fun h => by simpa using h
  · unfold chL
    rw [List.pairwise_map]
    exact (List.Pairwise.filter _ List.pairwise_lt_range).imp fun h => by omega
  · intro x
    rw [compact_mem, List.mem_mergeSort]
    unfold opL chL hasCh
    simp only [List.mem_map, List.mem_filter, List.mem_range, List.any_eq_true, Bool.and_eq_true, beq_iff_eq]
    constructor
    · rintro ⟨o, ⟨ho, he⟩, rfl⟩
      have := progOk_ch h hop o ho he
      exact ⟨o.2.1.toNat, ⟨by omega, o, ho, he, by omega⟩, by omega⟩
    · rintro ⟨c, ⟨_, o, ho, he, hc⟩, rfl⟩
      exact ⟨o, ⟨ho, he⟩, hc⟩
theorem opL_next {op : Int} {zs : List Ord3} {k : Nat} {o : Ord3} (h : zs[k]? = some o) : opL op (zs.take (k + 1)) = opL op (zs.take k) ++ (if o.1 = op then [o.2.1] else []) := by
  unfold opL
  rw [take_snoc h, List.filter_append, List.map_append]
  by_cases h1 : o.1 = op <;> simp [h1]
theorem opL_len (op : Int) (zs : List Ord3) : (opL op zs).length ≤ zs.length := by
  unfold opL; rw [List.length_map]; exact List.length_filter_le _ _
theorem progOk_len {zs : List Ord3} {cells : Int} (h : progOk zs cells = true) : 1 ≤ zs.length ∧ zs.length ≤ 20 := by
  unfold progOk at h
  rw [Bool.and_eq_true] at h
  have := inB_true.1 h.1
  omega
end Go.Proofs.Ytpaknpjdamoibaa
