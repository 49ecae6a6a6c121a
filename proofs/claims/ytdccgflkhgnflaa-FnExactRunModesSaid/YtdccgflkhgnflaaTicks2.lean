/-
  CONTRACTS of NextOwn and LongestGap.
  Conditions: none beyond those that each states.
-/
import Derived.Test.YtdccgflkhgnflaaTicks
namespace Go.Proofs.Ytdccgflkhgnflaa
open Go.ChangeShapes Go.WideShapes Go.ChangeAt Go.RowKit Go.Joins
set_option linter.unusedVariables false

theorem sWhoRuns_at {A : Option Addr} {n c N r : Nat} {zs : Slots} {parts : Int} (tick : Int) (h0 : slotsOk parts zs = true) (h : N = (frameL zs).length) (ht0 : 0 ≤ tick) (ht1 : tick ≤ 1000000) (hr' : tick % (N : Int) = (r : Int)) (w : World) (hm : n ≤ 1048576) (hr : Rd w 2 A n (slots zs)) :
    Calls Try.prog 32 #[.slice A n c, .int .i64 parts, .int .i64 tick] w fun e w' => e = .returned (.int .i64 (frameAt zs r)) ∧ Below w.heap.size w w' := by
  have := sWhoRuns_any A n c zs parts tick w hm hr
  unfold whoV whoB at this
  rwa [h0, inB_true.2 ⟨ht0, ht1⟩, Bool.and_true, if_pos rfl, ← h, hr', Int.toNat_natCast] at this
theorem miss_all {zs : Slots} {p tick : Int} {N : Nat} (hN : N = (frameL zs).length) (h : ∀ y ∈ (turnL zs tick).take N, (y == p) = false) : nextV zs p tick = -1 := by
  have hl := turnL_len zs tick
  rw [List.take_of_length_le (by omega)] at h
  unfold nextV
  rw [idxP_miss h, if_pos (by omega)]
theorem hit_at {zs : Slots} {p tick : Int} {j : Nat} {x : Int} (hx : (turnL zs tick)[j]? = some x) (h : ∀ y ∈ (turnL zs tick).take j, (y == p) = false) (he : (x == p) = true) : nextV zs p tick = tick + j := by
  unfold nextV
  rw [idxP_hit hx h he, if_neg (by omega)]

end Go.Proofs.Ytdccgflkhgnflaa
