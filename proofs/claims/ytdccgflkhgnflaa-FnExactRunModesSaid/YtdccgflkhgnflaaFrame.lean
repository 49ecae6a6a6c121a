/-
  CONTRACTS of frame and FrameTicks.
  Conditions: none beyond those that each states.
-/
import Derived.Test.YtdccgflkhgnflaaRep
import Derived.Test.YtdccgflkhgnflaaSlots
namespace Go.Proofs.Ytdccgflkhgnflaa
open Go.ChangeShapes Go.WideShapes Go.ChangeAt Go.RowKit Go.Joins
set_option linter.unusedVariables false

theorem RetI.mk {w w' : World} {zs : List Int} {A : Option Addr} {n c : Nat} (h : zs.length = n) (hf : Fr w' w.heap.size w'.heap.size 3 1 A n (ints zs)) (hb : Below w.heap.size w w') : RetI w zs (.returned (.slice A n c)) w' := by
  subst h; exact ⟨A, c, rfl, hf, hb⟩
theorem RetI.own {w w' : World} {zs : List Int} {v : Value} {n : Nat} (ho : w'.ownsRow w.heap.size 3 1 v n (ints zs)) (hb : Below w.heap.size w w') : RetI w zs (.returned v) w' := by
  have hl : zs.length = n := by have := ho.1; simpa [ints] using this
  subst hl
  rcases ho.2 with ⟨rfl, h0⟩ | ⟨g, cap, cur, rfl, r⟩
  · have e : zs = [] := List.eq_nil_of_length_eq_zero h0
    subst e
    exact ⟨none, 0, rfl, Fr.nil_, hb⟩
  · exact ⟨_, _, rfl, Fr.of_own ho, hb⟩
theorem ints_app (xs ys : List Int) : ints (xs ++ ys) = ints xs ++ ints ys := by simp [ints]
/-- who runs in each tick of a frame -/
def frameL (zs : List (Int × Int)) : List Int := zs.flatMap fun x => List.replicate x.2.toNat x.1
def ticksOk (zs : List (Int × Int)) : Prop := ∀ (k : Nat) (p q : Int), zs[k]? = some (p, q) → 1 ≤ q ∧ q ≤ 20
theorem frameL_snoc {zs : List (Int × Int)} {k : Nat} {p q : Int} (h : zs[k]? = some (p, q)) : frameL (zs.take (k + 1)) = frameL (zs.take k) ++ List.replicate q.toNat p := by
  rw [take_snoc h]; simp [frameL]
theorem frameL_take (zs : List (Int × Int)) (h : ticksOk zs) : ∀ k, k ≤ zs.length → k ≤ (frameL (zs.take k)).length ∧ (frameL (zs.take k)).length ≤ 20 * k
  | 0, _ => by simp [frameL]
  | k + 1, hk => by
    obtain ⟨p, q⟩ : Int × Int := zs[k]
    have hx : zs[k]? = some (zs[k].1, zs[k].2) := List.getElem?_eq_getElem (by omega)
    have h1 := frameL_take zs h k (by omega)
    have h2 := h k _ _ hx
    rw [frameL_snoc hx, List.length_append, List.length_replicate]
    omega
theorem slotsOk_use {parts : Int} {zs : List (Int × Int)} (h : slotsOk parts zs = true) : 0 ≤ parts ∧ parts ≤ 5 ∧ 1 ≤ zs.length ∧ zs.length ≤ 12 ∧ ticksOk zs := by
  unfold slotsOk at h
  rw [Bool.and_eq_true, Bool.and_eq_true, List.all_eq_true] at h
  obtain ⟨h1, h2, h3⟩ := h
  have := inB_true.1 h1
  have := inB_true.1 h2
  refine ⟨by omega, by omega, by omega, by omega, fun k p q hx => ?_⟩
  have := h3 _ (List.mem_of_getElem? hx)
  unfold slotOk at this
  rw [Bool.and_eq_true] at this
  exact inB_true.1 this.1
theorem frameL_bd {zs : List (Int × Int)} (h : ticksOk zs) : zs.length ≤ (frameL zs).length ∧ (frameL zs).length ≤ 20 * zs.length := by
  have := frameL_take zs h zs.length (Nat.le_refl _)
  rwa [List.take_length] at this

set_option maxRecDepth 100000 in
set_option maxHeartbeats 2000000 in
theorem frame_any (A : Option Addr) (n c : Nat) (zs : List (Int × Int)) (w : World) (hm : n ≤ 12) (ht : ticksOk zs) (hr : Rd w 2 A n (slots zs)) :
    Calls Try.prog 22 #[.slice A n c] w (fun e w' => RetI w (frameL zs) e w') := by
  obtain ⟨i0, hi, hz0, hz1, hz2⟩ := info_parts Try.infoInt
  have hlz := Lib.hid hr.slotsLen
  have HR := Lib.hid hr
  have HT := Lib.hid ht
  clear hr ht
  go_enter Try.func22, Try.ntmps22
  go_wp2
  go_loopw [3, 8] (fun v i wr => ∃ (k L : Nat), k ≤ n ∧ i = .int .i64 k ∧ L ≤ 240 ∧ Hid ((frameL (zs.take k)).length = L) ∧ wr.ownsRow w.heap.size 3 1 v L (ints (frameL (zs.take k))) ∧ Below w.heap.size w wr) (fun _ i _ => n - (intOf i).toNat)
  case atStart => exact ⟨0, 0, Nat.zero_le _, rfl, by omega, by show _ = 0; simp [frameL], by simpa [ints, frameL] using World.ownsRow_nil w w.heap.size 3 1, Below.refl _ _⟩
  case round =>
    obtain ⟨k, L, hkn, rfl, hL, HL, ho, hb⟩ := hrel
    have hs := hb.size
    by_cases hlt : k < n
    · obtain ⟨b, o, p0, p1, rfl, hbl, hx, h0, h1⟩ := HR.out.slot hlt
      have j0 := (hb.cell (p := ⟨b, o + k * 2, none⟩) hbl).trans h0
      have j1 := (hb.cell (p := ⟨b, o + k * 2 + 1, none⟩) hbl).trans h1
      obtain ⟨hq1, hq2⟩ := HT.out k p0 p1 hx
      obtain ⟨q, rfl⟩ : ∃ q : Nat, p1 = (q : Int) := ⟨p1.toNat, by omega⟩
      have hL2 : (frameL (zs.take (k + 1))).length = L + q := by rw [frameL_snoc hx, List.length_append, List.length_replicate, HL.out]; omega
      have hb3 := (frameL_take zs HT.out (k + 1) (by rw [hlz.out]; omega)).2
      have hLq : L + q ≤ 240 := by omega
      have HL2 := Lib.hid hL2
      have HX := Lib.hid hx
      clear h0 h1 hx hL2 hb3
      go_wp2_with fail
      refine (repeat_any p0 q _ (by omega) (by omega) _ ?_ ?_).mono ?_
      · simp
      · simp [go_sem]
      rintro e w1 ⟨g, rfl, ho1, hb1⟩
      have hb2 : Below wr.heap.size wr w1 := Below.andThen (by go_grown) hb1
      have hb4 := Below.andThen hb hb2
      have ho2 := own_below hb2 (Nat.le_refl _) ho
      have hs2 := hb4.size
      have hrd := Rd.of_own ho1
      clear hb1 ho1 ho
      go_wp2_with (at_builtin; refine wpList_append_rd _ rfl _ _ 25 rfl w.heap.size 3 i0 (.int .i64 0) 1 8 Try.underlying25 hi hz0 hz1 hz2 rfl (by omega) _ L _ rfl ho2 _ q q (ints (List.replicate q p0)) rfl hrd (ints_one _) (by unfold maxLen; omega) (by omega) (by omega) ?_; intro v3 w3 ho3 hg3 hat3; clear hat3)
      have hb5 := below_own hb4 ho2 (Nat.le_refl _) hs2 hg3
      go_roundw
      case rel =>
        refine ⟨k + 1, L + q, by omega, by go_num, hLq, HL2, ?_, hb5⟩
        rw [frameL_snoc HX.out, ints_app]
        exact ho3
      case measure => simp [intOf]; omega
    · have hkn : k = n := by omega
      go_wp2
      go_ret
      have e : zs.take k = zs := by rw [hkn, ← hlz.out, List.take_length]
      have hl := HL.out
      rw [e] at ho hl
      rw [← hl] at ho
      exact RetI.own ho hb
end Go.Proofs.Ytdccgflkhgnflaa
