/-
  PLAIN LAWS of frames: who runs, how often, which slot.
  Conditions: none beyond those that each states.
-/
import Derived.Test.YtdccgflkhgnflaaFrame
namespace Go.Proofs.Ytdccgflkhgnflaa
open Go.ChangeShapes Go.WideShapes Go.ChangeAt Go.RowKit Go.Joins
set_option linter.unusedVariables false

abbrev Slots := List (Int × Int)
/-- the ticks of the first k slots -/
def upto (zs : Slots) (k : Nat) : Nat := (frameL (zs.take k)).length
theorem upto_zero (zs : Slots) : upto zs 0 = 0 := by simp [upto, frameL]
theorem upto_succ {zs : Slots} {k : Nat} {p q : Int} (h : zs[k]? = some (p, q)) : upto zs (k + 1) = upto zs k + q.toNat := by
  unfold upto; rw [frameL_snoc h, List.length_append, List.length_replicate]
theorem upto_all (zs : Slots) : upto zs zs.length = (frameL zs).length := by unfold upto; rw [List.take_length]
theorem upto_bd {zs : Slots} (h : ticksOk zs) {k : Nat} (hk : k ≤ zs.length) : k ≤ upto zs k ∧ upto zs k ≤ 20 * k := frameL_take zs h k hk
theorem frameL_split (zs : Slots) (k : Nat) : frameL zs = frameL (zs.take k) ++ frameL (zs.drop k) := by
  unfold frameL; rw [← List.flatMap_append, List.take_append_drop]
theorem who_at {zs : Slots} {k r : Nat} {p q : Int} (h : zs[k]? = some (p, q)) (h1 : upto zs k ≤ r) (h2 : r < upto zs k + q.toNat) : (frameL zs)[r]? = some p := by
  unfold upto at h1 h2
  rw [frameL_split zs (k + 1), frameL_snoc h, List.getElem?_append_left (by simp; omega), List.getElem?_append_right h1, List.getElem?_replicate, if_pos (by omega)]
/-- who runs at tick r of a frame -/
def frameAt (zs : Slots) (r : Nat) : Int := (frameL zs).getD r 0
theorem frameAt_of {zs : Slots} {r : Nat} {p : Int} (h : (frameL zs)[r]? = some p) : frameAt zs r = p := by unfold frameAt; rw [List.getD_eq_getElem?_getD, h]; rfl
theorem frame_at {zs : Slots} {N r : Nat} (hN : N = (frameL zs).length) (hr : r < N) : (frameL zs)[r]? = some (frameAt zs r) := by
  unfold frameAt
  rw [List.getD_eq_getElem?_getD, List.getElem?_eq_getElem (by omega)]; rfl

/-- how often n stands in a list -/
def cnt (n : Int) (l : List Int) : Nat := l.count n
theorem cnt_le (n : Int) (l : List Int) : cnt n l ≤ l.length := List.count_le_length ..
theorem cnt_snoc (n x : Int) (l : List Int) : cnt n (l ++ [x]) = cnt n l + if x = n then 1 else 0 := by
  unfold cnt; rw [List.count_append, List.count_singleton]; congr 1; simp
theorem cnt_slot {zs : Slots} {k : Nat} {p q : Int} (n : Int) (h : zs[k]? = some (p, q)) : cnt n (frameL (zs.take (k + 1))) = cnt n (frameL (zs.take k)) + if p = n then q.toNat else 0 := by
  unfold cnt; rw [frameL_snoc h, List.count_append, List.count_replicate]; congr 1; simp
theorem cnt_rest {zs : Slots} {k : Nat} {p q : Int} (n : Int) (r : Nat) (h : zs[k]? = some (p, q)) :
    cnt n ((frameL (zs.take (k + 1))).take r) = cnt n ((frameL (zs.take k)).take r) + if p = n then min q.toNat (r - upto zs k) else 0 := by
  unfold cnt upto; rw [frameL_snoc h, List.take_append, List.count_append, List.take_replicate, List.count_replicate, Nat.min_comm]; congr 1; simp
/-- the clock that n sees at a tick -/
def ownV (zs : Slots) (n tick : Int) : Int :=
  tick / ((frameL zs).length : Int) * (cnt n (frameL zs) : Int) + (cnt n ((frameL zs).take (tick % ((frameL zs).length : Int)).toNat) : Int)
/-- who runs at tick, tick + 1, .., a frame long -/
def turnL (zs : Slots) (tick : Int) : List Int := (List.range (frameL zs).length).map fun (i : Nat) => frameAt zs ((tick + (i : Int)) % ((frameL zs).length : Int)).toNat
def nextV (zs : Slots) (n tick : Int) : Int := if idxP (fun v => v == n) (turnL zs tick) < 0 then -1 else tick + idxP (fun v => v == n) (turnL zs tick)
theorem turnL_at {zs : Slots} {tick : Int} {N j r : Nat} (hN : N = (frameL zs).length) (hj : j < N) (hr : (tick + (j : Int)) % (N : Int) = (r : Int)) : (turnL zs tick)[j]? = some (frameAt zs r) := by
  unfold turnL
  subst hN
  rw [List.getElem?_map, List.getElem?_range hj, Option.map_some, hr]; rfl
theorem turnL_len (zs : Slots) (tick : Int) : (turnL zs tick).length = (frameL zs).length := by simp [turnL]
def slotK : Slots → Int → Nat
  | [], _ => 0
  | x :: zs, t => if x.2 ≤ t then slotK zs (t - x.2) + 1 else 0
def slotT : Slots → Int → Int
  | [], t => t
  | x :: zs, t => if x.2 ≤ t then slotT zs (t - x.2) else x.2 - t
theorem drop_at {zs : Slots} {k : Nat} {p q : Int} (h : zs[k]? = some (p, q)) : zs.drop k = (p, q) :: zs.drop (k + 1) := by
  obtain ⟨hl, he⟩ := List.getElem?_eq_some_iff.1 h
  rw [List.drop_eq_getElem_cons hl, he]
/-- the gap that is open behind t ticks, and the longest gap till then -/
def gapF (zs : Slots) (n : Int) : Nat → Int × Int
  | 0 => (0, 0)
  | t + 1 => (if frameAt zs (t % (frameL zs).length) = n then 0 else (gapF zs n t).1 + 1, max (gapF zs n t).2 (if frameAt zs (t % (frameL zs).length) = n then 0 else (gapF zs n t).1 + 1))
theorem gapF_bd (zs : Slots) (n : Int) : ∀ t, 0 ≤ (gapF zs n t).1 ∧ (gapF zs n t).1 ≤ t ∧ 0 ≤ (gapF zs n t).2 ∧ (gapF zs n t).2 ≤ t
  | 0 => by simp [gapF]
  | t + 1 => by
    have := gapF_bd zs n t
    rw [gapF]
    simp only
    split <;> omega
def whoB (parts : Int) (zs : Slots) (tick : Int) : Bool := slotsOk parts zs && inB tick 0 1000000
def ownB (parts : Int) (zs : Slots) (n tick : Int) : Bool := slotsOk parts zs && (inB n 0 (parts - 1) && inB tick 0 1000000)
def shareB (parts : Int) (zs : Slots) (n : Int) : Bool := slotsOk parts zs && inB n 0 (parts - 1)
def whoV (parts : Int) (zs : Slots) (tick : Int) : Int := if whoB parts zs tick = true then frameAt zs (tick % ((frameL zs).length : Int)).toNat else -2
theorem mod_nat {a : Int} {N : Nat} (hN : 1 ≤ N) : ∃ r : Nat, a % (N : Int) = (r : Int) ∧ r < N := by
  have h1 := Int.emod_nonneg a (show (N : Int) ≠ 0 by omega)
  have h2 := Int.emod_lt_of_pos a (show (0 : Int) < (N : Int) by omega)
  exact ⟨(a % (N : Int)).toNat, by omega, by omega⟩
end Go.Proofs.Ytdccgflkhgnflaa
