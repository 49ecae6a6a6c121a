/-
  The walk of FnExactMaskLine: the law returns true.
  Conditions: none.
-/
import Derived.Test.YtihdggdajeekgaaOrders
namespace Go.Proofs.Ytihdggdajeekgaa
open Go.ChangeShapes Go.WideShapes Go.ChangeAt Go.RowKit Go.Joins
set_option maxHeartbeats 1000000 in
theorem lawMaskLine_walk (W : World) (r m n : Int) (on : Bool) : Calls Try.prog 11 #[.agg #[.int .i64 r, .int .i64 m], .int .i64 n, .bool on] W fun e w' => e = .returned (.bool true) ∧ Below W.heap.size W w' := by
  cases hv : (linesValid r m && inB n 0 7) <;> cases on
  · skip
    go_enter Try.func11, Try.ntmps11
    have hB0 : Below W.heap.size W W := Below.refl _ _
    go_wp2_with (first
      | (go_at_call 34; refine (sMaskLine_no _ _ _ _ _ hv).mono ?_; rintro e w1 ⟨rfl, hb1⟩; have hB1 : Below W.heap.size W w1 := Below.andThen (by go_grown) hb1; have hS1 := hB1.size; have hz1 := hb1.size; (try simp only [World.size_alloc] at hz1); (try have hlW_1 : W.heap.size < w1.heap.size := by (have h := hb1.size; simp only [World.size_alloc] at h; omega)); obtain ⟨hc1, hf1⟩ := bcell hb1; clear hb1)
      | (go_at_call 35; refine (iMaskLine_no _ _ _ _ _ hv).mono ?_; rintro e w2 ⟨rfl, hb2⟩; have hB2 : Below W.heap.size W w2 := Below.andThen (by go_grown) hb2; have hS2 := hB2.size; have hz2 := hb2.size; (try simp only [World.size_alloc] at hz2); (try have hlW_2 : W.heap.size < w2.heap.size := by (have h := hb2.size; simp only [World.size_alloc] at h; omega)); (try have hlw1_2 : w1.heap.size < w2.heap.size := by (have h := hb2.size; simp only [World.size_alloc] at h; omega)); obtain ⟨hc2, hf2⟩ := bcell hb2; clear hb2)
      | (go_at_call 29; refine (eqLines_same _ _ _).mono ?_; rintro e w3 ⟨rfl, hb3⟩; have hB3 : Below W.heap.size W w3 := Below.andThen (by go_grown) hb3; have hS3 := hB3.size; have hz3 := hb3.size; (try simp only [World.size_alloc] at hz3); (try have hlW_3 : W.heap.size < w3.heap.size := by (have h := hb3.size; simp only [World.size_alloc] at h; omega)); (try have hlw1_3 : w1.heap.size < w3.heap.size := by (have h := hb3.size; simp only [World.size_alloc] at h; omega)); (try have hlw2_3 : w2.heap.size < w3.heap.size := by (have h := hb3.size; simp only [World.size_alloc] at h; omega)); obtain ⟨hc3, hf3⟩ := bcell hb3; clear hb3)
      | go_in)
    go_returns
    exact ⟨rfl, by go_grown⟩
  · skip
    go_enter Try.func11, Try.ntmps11
    have hB0 : Below W.heap.size W W := Below.refl _ _
    go_wp2_with (first
      | (go_at_call 34; refine (sMaskLine_no _ _ _ _ _ hv).mono ?_; rintro e w1 ⟨rfl, hb1⟩; have hB1 : Below W.heap.size W w1 := Below.andThen (by go_grown) hb1; have hS1 := hB1.size; have hz1 := hb1.size; (try simp only [World.size_alloc] at hz1); (try have hlW_1 : W.heap.size < w1.heap.size := by (have h := hb1.size; simp only [World.size_alloc] at h; omega)); obtain ⟨hc1, hf1⟩ := bcell hb1; clear hb1)
      | (go_at_call 35; refine (iMaskLine_no _ _ _ _ _ hv).mono ?_; rintro e w2 ⟨rfl, hb2⟩; have hB2 : Below W.heap.size W w2 := Below.andThen (by go_grown) hb2; have hS2 := hB2.size; have hz2 := hb2.size; (try simp only [World.size_alloc] at hz2); (try have hlW_2 : W.heap.size < w2.heap.size := by (have h := hb2.size; simp only [World.size_alloc] at h; omega)); (try have hlw1_2 : w1.heap.size < w2.heap.size := by (have h := hb2.size; simp only [World.size_alloc] at h; omega)); obtain ⟨hc2, hf2⟩ := bcell hb2; clear hb2)
      | (go_at_call 29; refine (eqLines_same _ _ _).mono ?_; rintro e w3 ⟨rfl, hb3⟩; have hB3 : Below W.heap.size W w3 := Below.andThen (by go_grown) hb3; have hS3 := hB3.size; have hz3 := hb3.size; (try simp only [World.size_alloc] at hz3); (try have hlW_3 : W.heap.size < w3.heap.size := by (have h := hb3.size; simp only [World.size_alloc] at h; omega)); (try have hlw1_3 : w1.heap.size < w3.heap.size := by (have h := hb3.size; simp only [World.size_alloc] at h; omega)); (try have hlw2_3 : w2.heap.size < w3.heap.size := by (have h := hb3.size; simp only [World.size_alloc] at h; omega)); obtain ⟨hc3, hf3⟩ := bcell hb3; clear hb3)
      | go_in)
    go_returns
    exact ⟨rfl, by go_grown⟩
  · obtain ⟨hl, hn⟩ := Bool.and_eq_true_iff.1 hv
    go_enter Try.func11, Try.ntmps11
    have hB0 : Below W.heap.size W W := Below.refl _ _
    go_wp2_with (first
      | (go_at_call 34; refine (sMaskLine_off _ _ _ _ hl hn).mono ?_; rintro e w1 ⟨rfl, hb1⟩; have hB1 : Below W.heap.size W w1 := Below.andThen (by go_grown) hb1; have hS1 := hB1.size; have hz1 := hb1.size; (try simp only [World.size_alloc] at hz1); (try have hlW_1 : W.heap.size < w1.heap.size := by (have h := hb1.size; simp only [World.size_alloc] at h; omega)); obtain ⟨hc1, hf1⟩ := bcell hb1; clear hb1)
      | (go_at_call 35; refine (iMaskLine_off _ _ _ _ hl hn).mono ?_; rintro e w2 ⟨rfl, hb2⟩; have hB2 : Below W.heap.size W w2 := Below.andThen (by go_grown) hb2; have hS2 := hB2.size; have hz2 := hb2.size; (try simp only [World.size_alloc] at hz2); (try have hlW_2 : W.heap.size < w2.heap.size := by (have h := hb2.size; simp only [World.size_alloc] at h; omega)); (try have hlw1_2 : w1.heap.size < w2.heap.size := by (have h := hb2.size; simp only [World.size_alloc] at h; omega)); obtain ⟨hc2, hf2⟩ := bcell hb2; clear hb2)
      | (go_at_call 29; refine (eqLines_same _ _ _).mono ?_; rintro e w3 ⟨rfl, hb3⟩; have hB3 : Below W.heap.size W w3 := Below.andThen (by go_grown) hb3; have hS3 := hB3.size; have hz3 := hb3.size; (try simp only [World.size_alloc] at hz3); (try have hlW_3 : W.heap.size < w3.heap.size := by (have h := hb3.size; simp only [World.size_alloc] at h; omega)); (try have hlw1_3 : w1.heap.size < w3.heap.size := by (have h := hb3.size; simp only [World.size_alloc] at h; omega)); (try have hlw2_3 : w2.heap.size < w3.heap.size := by (have h := hb3.size; simp only [World.size_alloc] at h; omega)); obtain ⟨hc3, hf3⟩ := bcell hb3; clear hb3)
      | go_in)
    go_returns
    exact ⟨rfl, by go_grown⟩
  · obtain ⟨hl, hn⟩ := Bool.and_eq_true_iff.1 hv
    go_enter Try.func11, Try.ntmps11
    have hB0 : Below W.heap.size W W := Below.refl _ _
    go_wp2_with (first
      | (go_at_call 34; refine (sMaskLine_on _ _ _ _ hl hn).mono ?_; rintro e w1 ⟨rfl, hb1⟩; have hB1 : Below W.heap.size W w1 := Below.andThen (by go_grown) hb1; have hS1 := hB1.size; have hz1 := hb1.size; (try simp only [World.size_alloc] at hz1); (try have hlW_1 : W.heap.size < w1.heap.size := by (have h := hb1.size; simp only [World.size_alloc] at h; omega)); obtain ⟨hc1, hf1⟩ := bcell hb1; clear hb1)
      | (go_at_call 35; refine (iMaskLine_on _ _ _ _ hl hn).mono ?_; rintro e w2 ⟨rfl, hb2⟩; have hB2 : Below W.heap.size W w2 := Below.andThen (by go_grown) hb2; have hS2 := hB2.size; have hz2 := hb2.size; (try simp only [World.size_alloc] at hz2); (try have hlW_2 : W.heap.size < w2.heap.size := by (have h := hb2.size; simp only [World.size_alloc] at h; omega)); (try have hlw1_2 : w1.heap.size < w2.heap.size := by (have h := hb2.size; simp only [World.size_alloc] at h; omega)); obtain ⟨hc2, hf2⟩ := bcell hb2; clear hb2)
      | (go_at_call 29; refine (eqLines_same _ _ _).mono ?_; rintro e w3 ⟨rfl, hb3⟩; have hB3 : Below W.heap.size W w3 := Below.andThen (by go_grown) hb3; have hS3 := hB3.size; have hz3 := hb3.size; (try simp only [World.size_alloc] at hz3); (try have hlW_3 : W.heap.size < w3.heap.size := by (have h := hb3.size; simp only [World.size_alloc] at h; omega)); (try have hlw1_3 : w1.heap.size < w3.heap.size := by (have h := hb3.size; simp only [World.size_alloc] at h; omega)); (try have hlw2_3 : w2.heap.size < w3.heap.size := by (have h := hb3.size; simp only [World.size_alloc] at h; omega)); obtain ⟨hc3, hf3⟩ := bcell hb3; clear hb3)
      | go_in)
    go_returns
    exact ⟨rfl, by go_grown⟩
end Go.Proofs.Ytihdggdajeekgaa
