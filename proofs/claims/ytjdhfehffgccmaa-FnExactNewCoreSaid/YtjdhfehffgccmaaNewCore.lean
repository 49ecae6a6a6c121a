/-
  CONTRACTS of NewCore.
  Conditions: none.
-/
import Derived.Test.YtjdhfehffgccmaaHold
import Derived.Test.YtjdhfehffgccmaaSCore
import Derived.Test.YtjdhfehffgccmaaSlices
namespace Go.Proofs.Ytjdhfehffgccmaa
open Go.ChangeShapes Go.WideShapes Go.ChangeAt Go.RowKit Go.Joins
set_option linter.unusedVariables false

def newC (m : Int) : List Int := if inB m 1 8 = true then List.replicate m.toNat 0 else []

set_option maxRecDepth 100000 in
set_option maxHeartbeats 2000000 in
theorem sNewCore_any (m : Int) (w : World) : Calls Try.prog 56 #[.int .i64 m] w (fun e w' => RetCore w 0 false (newC m) e w') := by
  obtain ⟨i0, hi, hz0, hz1, hz2⟩ := info_parts Try.infoInt
  cases hk : inB m 1 8
  · rw [show newC m = [] by unfold newC; rw [hk]; rfl]
    go_enter Try.func56, Try.ntmps56
    go_wp2_with (go_at_call 62; refine (l1In_is3 hk _).mono ?_; rintro e w1 ⟨rfl, rfl⟩)
    go_returns
    exact ⟨none, 0, rfl, Fr.nil_, fun _ => ⟨rfl, rfl⟩, by go_grown⟩
  · obtain ⟨h0, h1⟩ := inB_true.1 hk
    obtain ⟨n, rfl⟩ : ∃ n : Nat, m = (n : Int) := ⟨m.toNat, by omega⟩
    obtain ⟨R, hR⟩ : ∃ R, R = newC (n : Int) := ⟨_, rfl⟩
    have hR2 : R = List.replicate n 0 := by rw [hR]; unfold newC; rw [hk, if_pos rfl, Int.toNat_natCast]
    have HRl : Hid (R.length = n) := by show _ = _; rw [hR2]; simp
    rw [← hR]
    have HR2 := Lib.hid hR2
    clear hR hR2
    go_enter Try.func56, Try.ntmps56
    go_wp2_with fail
    refine (l1In_is3 hk _).mono ?_
    rintro e w1 ⟨rfl, rfl⟩
    go_wp2_with (at_make; refine wpList_make_full _ rfl _ _ 24 rfl (w.heap.size + 1) 3 i0 (.int .i64 0) 1 Try.underlying24 hi hz0 hz1 _ _ _ _ n rfl rfl rfl rfl (by rw [hz2]; omega) (by unfold maxLen; omega) (by simp) ?_; intro w0 hown0 hgrow0; have hb0 := below_of_grown hgrow0; have qb : Hid (Blk w0 w.heap.size 68 #[.slice none 0 0, .int .i64 0, .bool false]) := Blk.below (w' := w0) (Blk.at_ _ _ _ rfl) (Nat.le_refl _) hb0; have hown1 : w0.ownsRow (w.heap.size + 1) 3 1 (.slice (some ⟨w.heap.size + 1, 0, none⟩) n n) n (ints (List.replicate n 0)) := (by simp only [World.size_alloc] at hown0; first | rwa [made_ints] at hown0 | rwa [made_ints2] at hown0); have HO := Lib.hid (Fr.of_own hown1); have HB0 : Hid (Below w.heap.size w w0) := Below.andThen (by go_grown) hb0; have hs0 := hb0.size; simp only [World.size_alloc] at hs0; have kb_0 := qb.out.cell 0 rfl; have kb_1 := qb.out.cell 1 rfl; have kb_2 := qb.out.cell 2 rfl; have fb_0 := qb.out.frozen 0; have fb_1 := qb.out.frozen 1; have fb_2 := qb.out.frozen 2; have lb := qb.out.lt; clear hown0 hown1 hgrow0 hb0)
    refine bodyPost_ret (v := .agg #[.slice (some ⟨w.heap.size + 1, 0, none⟩) n n, .int .i64 0, .bool false]) (by simp [results, Try.results56, go_sem, *]) rfl ?_
    refine ⟨some ⟨w.heap.size + 1, 0, none⟩, n, by rw [HRl.out], ?_, (fun h => by cases h), ((HB0.out.setCell (by simp) _).setCell (by simp) _).setCell (by simp) _⟩
    rw [HRl.out, HR2.out]
    exact (((HO.out.setFar (by left; simp) _).setFar (by left; simp) _).setFar (by left; simp) _).wide (by omega) (by simp)
set_option maxRecDepth 100000 in
set_option maxHeartbeats 2000000 in
theorem iNewCore_any (m : Int) (w : World) : Calls Try.prog 57 #[.int .i64 m] w (fun e w' => RetCore w 0 false (newC m) e w') := by
  obtain ⟨i0, hi, hz0, hz1, hz2⟩ := info_parts Try.infoInt
  cases hk : inB m 1 8
  · rw [show newC m = [] by unfold newC; rw [hk]; rfl]
    go_enter Try.func57, Try.ntmps57
    go_wp2_with (go_at_call 75; refine (in_is3 hk _).mono ?_; rintro e w1 ⟨rfl, rfl⟩)
    go_returns
    exact ⟨none, 0, rfl, Fr.nil_, fun _ => ⟨rfl, rfl⟩, by go_grown⟩
  · obtain ⟨h0, h1⟩ := inB_true.1 hk
    obtain ⟨n, rfl⟩ : ∃ n : Nat, m = (n : Int) := ⟨m.toNat, by omega⟩
    obtain ⟨R, hR⟩ : ∃ R, R = newC (n : Int) := ⟨_, rfl⟩
    have hR2 : R = List.replicate n 0 := by rw [hR]; unfold newC; rw [hk, if_pos rfl, Int.toNat_natCast]
    have HRl : Hid (R.length = n) := by show _ = _; rw [hR2]; simp
    rw [← hR]
    have HR2 := Lib.hid hR2
    clear hR hR2
    go_enter Try.func57, Try.ntmps57
    go_wp2_with fail
    refine (in_is3 hk _).mono ?_
    rintro e w1 ⟨rfl, rfl⟩
    go_wp2_with (at_make; refine wpList_make_full _ rfl _ _ 24 rfl (w.heap.size + 1) 3 i0 (.int .i64 0) 1 Try.underlying24 hi hz0 hz1 _ _ _ _ n rfl rfl rfl rfl (by rw [hz2]; omega) (by unfold maxLen; omega) (by simp) ?_; intro w0 hown0 hgrow0; have hb0 := below_of_grown hgrow0; have qb : Hid (Blk w0 w.heap.size 68 #[.slice none 0 0, .int .i64 0, .bool false]) := Blk.below (w' := w0) (Blk.at_ _ _ _ rfl) (Nat.le_refl _) hb0; have hown1 : w0.ownsRow (w.heap.size + 1) 3 1 (.slice (some ⟨w.heap.size + 1, 0, none⟩) n n) n (ints (List.replicate n 0)) := (by simp only [World.size_alloc] at hown0; first | rwa [made_ints] at hown0 | rwa [made_ints2] at hown0); have HO := Lib.hid (Fr.of_own hown1); have HB0 : Hid (Below w.heap.size w w0) := Below.andThen (by go_grown) hb0; have hs0 := hb0.size; simp only [World.size_alloc] at hs0; have kb_0 := qb.out.cell 0 rfl; have kb_1 := qb.out.cell 1 rfl; have kb_2 := qb.out.cell 2 rfl; have fb_0 := qb.out.frozen 0; have fb_1 := qb.out.frozen 1; have fb_2 := qb.out.frozen 2; have lb := qb.out.lt; clear hown0 hown1 hgrow0 hb0)
    refine bodyPost_ret (v := .agg #[.slice (some ⟨w.heap.size + 1, 0, none⟩) n n, .int .i64 0, .bool false]) (by simp [results, Try.results57, go_sem, *]) rfl ?_
    refine ⟨some ⟨w.heap.size + 1, 0, none⟩, n, by rw [HRl.out], ?_, (fun h => by cases h), ((HB0.out.setCell (by simp) _).setCell (by simp) _).setCell (by simp) _⟩
    rw [HRl.out, HR2.out]
    exact (((HO.out.setFar (by left; simp) _).setFar (by left; simp) _).setFar (by left; simp) _).wide (by omega) (by simp)
end Go.Proofs.Ytjdhfehffgccmaa
