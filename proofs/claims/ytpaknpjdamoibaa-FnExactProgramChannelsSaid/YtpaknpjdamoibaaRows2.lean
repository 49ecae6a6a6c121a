/-
  ROWS: a list of structs as cells, some cells a struct.
  Conditions: none.
-/
import Derived.Test.YtpaknpjdamoibaaKeep
namespace Go.Proofs.Ytpaknpjdamoibaa
open Go.ChangeShapes Go.WideShapes Go.ChangeAt Go.RowKit Go.Joins
set_option linter.unusedVariables false

section
variable {α : Type} {f : α → List Value} {s : Nat}
theorem rows_len (hf : ∀ x, (f x).length = s) : ∀ xs : List α, (xs.flatMap f).length = xs.length * s
  | [] => by simp
  | x :: xs => by rw [List.flatMap_cons, List.length_append, hf, rows_len hf xs, List.length_cons, Nat.add_mul]; omega
theorem rows_at (hf : ∀ x, (f x).length = s) : ∀ (xs : List α) (k j : Nat), j < s → (xs.flatMap f)[k * s + j]? = (xs[k]?).bind (fun x => (f x)[j]?)
  | [], k, j, _ => by simp
  | x :: xs, 0, j, hj => by
    rw [List.flatMap_cons, Nat.zero_mul, Nat.zero_add, List.getElem?_append_left (by rw [hf]; exact hj)]
    simp
  | x :: xs, k + 1, j, hj => by
    have e : (k + 1) * s + j = (f x).length + (k * s + j) := by rw [hf, Nat.add_mul]; omega
    rw [List.flatMap_cons, e, List.getElem?_append_right (by omega), Nat.add_sub_cancel_left, rows_at hf xs k j hj]
    simp
theorem Rd.rowsLen {w : World} {A : Option Addr} {n : Nat} {xs : List α} (h : Rd w s A n (xs.flatMap f)) (hf : ∀ x, (f x).length = s) (hs : 0 < s) : xs.length = n := by
  have := h.1
  rw [rows_len hf] at this
  exact Nat.eq_of_mul_eq_mul_right hs this
theorem Rd.row {w : World} {A : Option Addr} {n k : Nat} {xs : List α} (h : Rd w s A n (xs.flatMap f)) (hf : ∀ x, (f x).length = s) (hs : 0 < s) (hk : k < n) :
    ∃ b o x, A = some ⟨b, o, none⟩ ∧ b < w.heap.size ∧ xs[k]? = some x ∧ ∀ j u, (f x)[j]? = some u → w.cell? ⟨b, o + (k * s + j), none⟩ = some u := by
  obtain ⟨b, o, e, hb, hc⟩ := h.2 (by omega)
  have hl := h.rowsLen hf hs
  refine ⟨b, o, xs[k]'(by omega), e, hb, List.getElem?_eq_getElem (by omega), fun j u hu => hc _ _ ?_⟩
  have hj : j < s := by
    have := (List.getElem?_eq_some_iff.1 hu).1
    rw [hf] at this
    exact this
  rw [rows_at hf xs k j hj, List.getElem?_eq_getElem (by omega)]
  exact hu
/-- cells put one behind the other from i on -/
def putAt : List Value → Nat → List Value → List Value
  | l, _, [] => l
  | l, i, c :: cs => putAt (l.set i c) (i + 1) cs
theorem putAt_len : ∀ (cs l : List Value) (i : Nat), (putAt l i cs).length = l.length
  | [], l, i => rfl
  | c :: cs, l, i => by rw [putAt, putAt_len cs]; simp
theorem putAt_at : ∀ (cs l : List Value) (i m : Nat), i + cs.length ≤ l.length → (putAt l i cs)[m]? = if i ≤ m ∧ m < i + cs.length then cs[m - i]? else l[m]?
  | [], l, i, m, h => by
    rw [putAt, if_neg (by simp)]
  | c :: cs, l, i, m, h => by
    simp only [List.length_cons] at h
    rw [putAt, putAt_at cs (l.set i c) (i + 1) m (by simp; omega)]
    by_cases h1 : m = i
    · subst h1
      rw [if_neg (by omega), if_pos (by simp), List.getElem?_set_self (by omega)]
      simp
    · by_cases h2 : i < m ∧ m < i + (cs.length + 1)
      · rw [if_pos (by omega), if_pos (by simp; omega)]
        obtain ⟨d, hd⟩ : ∃ d, m = i + 1 + d := ⟨m - (i + 1), by omega⟩
        subst hd
        rw [show i + 1 + d - (i + 1) = d by omega, show i + 1 + d - i = d + 1 by omega, List.getElem?_cons_succ]
      · rw [if_neg (by omega), if_neg (by simp; omega), List.getElem?_set_ne (by omega)]
theorem put_row (hf : ∀ x, (f x).length = s) (hs : 0 < s) (xs : List α) (k : Nat) (x : α) (hk : k < xs.length) : putAt (xs.flatMap f) (k * s) (f x) = (xs.set k x).flatMap f := by
  have hkl : k * s + s ≤ xs.length * s := by
    have : (k + 1) * s ≤ xs.length * s := Nat.mul_le_mul_right _ hk
    rw [Nat.add_mul] at this; omega
  apply List.ext_getElem?
  intro m
  rw [putAt_at _ _ _ _ (by rw [hf, rows_len hf]; exact hkl)]
  obtain ⟨q, r, hr, rfl⟩ : ∃ q r, r < s ∧ m = q * s + r := ⟨m / s, m % s, Nat.mod_lt _ hs, by have := Nat.div_add_mod m s; rw [Nat.mul_comm] at this; omega⟩
  rw [rows_at hf _ _ _ hr, rows_at hf _ _ _ hr, hf]
  by_cases hq : q = k
  · subst hq
    rw [if_pos (by omega), List.getElem?_set_self hk, show q * s + r - q * s = r by omega]
    simp
  · rw [List.getElem?_set_ne (fun h => hq h.symm), if_neg]
    rintro ⟨h1, h2⟩
    apply hq
    rcases Nat.lt_or_gt_of_ne hq with h | h
    · have : (q + 1) * s ≤ k * s := Nat.mul_le_mul_right _ h
      rw [Nat.add_mul] at this; omega
    · have : (k + 1) * s ≤ q * s := Nat.mul_le_mul_right _ h
      rw [Nat.add_mul] at this; omega
end
theorem cells_append {α : Type} (f : α → List Value) (xs ys : List α) : (xs ++ ys).flatMap f = xs.flatMap f ++ ys.flatMap f := by simp
theorem rep_cells {α : Type} (f : α → List Value) (x : α) : ∀ n, (List.replicate (n + 1) x).flatMap f = f x ++ (List.replicate n x).flatMap f := fun n => by rw [List.replicate_succ, List.flatMap_cons]
theorem made_rows {α : Type} {f : α → List Value} {s : Nat} (hf : ∀ x, (f x).length = s) (hs : 0 < s) (x0 : α) (z : Array Value) (hz : z.toList = f x0) (n : Nat) : (madeCells z (n * s)).toList = (List.replicate n x0).flatMap f := by
  have hzs : z.size = s := by rw [← Array.length_toList, hz, hf]
  apply List.ext_getElem?
  intro m
  obtain ⟨q, r, hr, rfl⟩ : ∃ q r, r < s ∧ m = q * s + r := ⟨m / s, m % s, Nat.mod_lt _ hs, by have := Nat.div_add_mod m s; rw [Nat.mul_comm] at this; omega⟩
  rw [rows_at hf _ _ _ hr]
  have hmod : (q * s + r) % s = r := by rw [Nat.mul_comm, Nat.mul_add_mod, Nat.mod_eq_of_lt hr]
  by_cases hq : q < n
  · have hlt : q * s + r < n * s := by
      have : (q + 1) * s ≤ n * s := Nat.mul_le_mul_right _ hq
      rw [Nat.add_mul] at this; omega
    rw [List.getElem?_replicate, if_pos hq]
    simp only [madeCells, Option.bind_some, Array.toList_map, Array.toList_range, List.getElem?_map, List.getElem?_range hlt, Option.map_some, hzs, hmod]
    rw [← hz, Array.getElem?_toList]
    have hrz : r < z.size := by omega
    rw [Array.getElem?_eq_getElem hrz, getElem!_pos z r hrz]
  · have hge : n * s ≤ q * s + r := by
      have : n * s ≤ q * s := Nat.mul_le_mul_right _ (by omega)
      omega
    rw [List.getElem?_replicate, if_neg hq]
    simp only [madeCells, Option.bind_none, Array.toList_map, Array.toList_range, List.getElem?_map]
    rw [List.getElem?_eq_none (by simpa using hge)]
    rfl
end Go.Proofs.Ytpaknpjdamoibaa
