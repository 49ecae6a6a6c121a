/-
  CONTRACTS of SplitTransfer.
  Conditions: none beyond those that each states.
-/
import Derived.Test.YtlfegalmiloihaaMTransfer
import Derived.Test.YtlfegalmiloihaaAppend
namespace Go.Proofs.Ytlfegalmiloihaa
open Go.ChangeShapes Go.WideShapes Go.ChangeAt Go.RowKit Go.Joins
set_option linter.unusedVariables false

abbrev Tran := Int × Int × Bool
def tranOk (x : Tran) : Bool := inB x.2.1 1 64 && inB x.1 0 (4096 - x.2.1)
/-- the parts from place n on, with fuel -/
def splitF (p c s : Int) (u : Bool) : Nat → Int → List Tran
  | 0, _ => []
  | f + 1, n => if n < c then (p + n, min s (c - n), u) :: splitF p c s u f (n + s) else []
def splitL (x : Tran) (s : Int) : List Tran := if (tranOk x && inB s 1 64) = true then splitF x.1 x.2.1 s x.2.2 65 0 else []
theorem splitF_len (p c s : Int) (u : Bool) : ∀ (f : Nat) (n : Int), (splitF p c s u f n).length ≤ f
  | 0, _ => Nat.le_refl _
  | f + 1, n => by
    rw [splitF]
    split
    · rw [List.length_cons]; have := splitF_len p c s u f (n + s); omega
    · simp
theorem splitF_end {p c s n : Int} {u : Bool} (h : ¬ n < c) (f : Nat) : splitF p c s u f n = [] := by
  cases f with
  | zero => rfl
  | succ f => rw [splitF, if_neg h]
theorem splitL_len (x : Tran) (s : Int) : (splitL x s).length ≤ 65 := by
  unfold splitL
  split
  · exact splitF_len _ _ _ _ _ _
  · simp
theorem splitL_yes {x : Tran} {s : Int} (h1 : tranOk x = true) (h2 : inB s 1 64 = true) : splitL x s = splitF x.1 x.2.1 s x.2.2 65 0 := by
  unfold splitL; rw [if_pos (by rw [h1, h2]; rfl)]
theorem splitL_no {x : Tran} {s : Int} (h : (tranOk x && inB s 1 64) = false) : splitL x s = [] := by
  unfold splitL; rw [if_neg (by rw [h]; simp)]
theorem trans_app (xs ys : List Tran) : trans (xs ++ ys) = trans xs ++ trans ys := by simp [trans]
theorem own_base {w : World} {base base' : Nat} {e : TypeId} {size : Nat} {v : Value} {n : Nat} {xs : List Value} (h : w.ownsRow base e size v n xs) (hb : base' ≤ base) : w.ownsRow base' e size v n xs := by
  refine ⟨h.1, ?_⟩
  rcases h.2 with h2 | ⟨g, cap, cur, hv, hbg, r⟩
  · exact .inl h2
  · exact .inr ⟨g, cap, cur, hv, by omega, r⟩
/-- what a function gives back that makes a slice of transfers -/
def RetT (w : World) (zs : List Tran) (e : Ending) (w' : World) : Prop := ∃ A c, e = .returned (.slice A zs.length c) ∧ Fr w' w.heap.size w'.heap.size 26 3 A zs.length (trans zs) ∧ Below w.heap.size w w'
theorem RetT.own {w w' : World} {zs : List Tran} {v : Value} {n : Nat} (ho : w'.ownsRow w.heap.size 26 3 v n (trans zs)) (hb : Below w.heap.size w w') : RetT w zs (.returned v) w' := by
  have hl : zs.length = n := by have := ho.1; rw [trans_len] at this; omega
  subst hl
  rcases ho.2 with ⟨rfl, h0⟩ | ⟨g, cap, cur, rfl, r⟩
  · have e : zs = [] := List.eq_nil_of_length_eq_zero h0
    subst e
    exact ⟨none, 0, rfl, Fr.nil_, hb⟩
  · exact ⟨_, _, rfl, Fr.of_own ho, hb⟩
theorem l1In_is {n lo hi : Int} {b : Bool} (h : inB n lo hi = b) (w : World) : Calls Try.prog 23 #[.int .i64 n, .int .i64 lo, .int .i64 hi] w fun e w' => e = .returned (.bool b) ∧ w = w' := h ▸ l1In_any n lo hi w
theorem in_is {n lo hi : Int} {b : Bool} (h : inB n lo hi = b) (w : World) : Calls Try.prog 25 #[.int .i64 n, .int .i64 lo, .int .i64 hi] w fun e w' => e = .returned (.bool b) ∧ w = w' := h ▸ in_any n lo hi w
theorem tranOk_use {p c : Int} {u : Bool} (h : tranOk (p, c, u) = true) : 1 ≤ c ∧ c ≤ 64 ∧ 0 ≤ p ∧ p ≤ 4096 - c := by
  unfold tranOk at h
  rw [Bool.and_eq_true] at h
  have := inB_true.1 h.1
  have := inB_true.1 h.2
  simp only at *
  omega
set_option maxRecDepth 100000 in
set_option maxHeartbeats 1000000 in
theorem sTransferValid_any (p c : Int) (u : Bool) (w : World) : Calls Try.prog 22 #[.agg #[.int .i64 p, .int .i64 c, .bool u]] w fun e w' => e = .returned (.bool (tranOk (p, c, u))) ∧ Below w.heap.size w w' := by
  cases h0 : inB c 1 64
  · rw [show tranOk (p, c, u) = false by unfold tranOk; simp only; rw [h0]; rfl]
    go_enter Try.func22, Try.ntmps22
    go_wp2_with fail
    refine (l1In_is h0 _).mono ?_
    rintro e _ ⟨rfl, rfl⟩
    go_wp2
    go_ret
    exact ⟨rfl, by go_grown⟩
  · obtain ⟨hb0, hb1⟩ := inB_true.1 h0
    rw [show tranOk (p, c, u) = inB p 0 (4096 - c) by unfold tranOk; simp only; rw [h0]; rfl]
    go_enter Try.func22, Try.ntmps22
    go_wp2_with fail
    refine (l1In_is h0 _).mono ?_
    rintro e _ ⟨rfl, rfl⟩
    go_wp2_with fail
    refine (l1In_any _ _ _ _).mono ?_
    rintro e _ ⟨rfl, rfl⟩
    go_wp2
    go_ret
    exact ⟨rfl, by go_grown⟩
theorem sTransferValid_is {p c : Int} {u b : Bool} (h : tranOk (p, c, u) = b) (w : World) : Calls Try.prog 22 #[.agg #[.int .i64 p, .int .i64 c, .bool u]] w fun e w' => e = .returned (.bool b) ∧ Below w.heap.size w w' := h ▸ sTransferValid_any p c u w
set_option maxRecDepth 100000 in
set_option maxHeartbeats 1000000 in
theorem iTransferValid_any (p c : Int) (u : Bool) (w : World) : Calls Try.prog 24 #[.agg #[.int .i64 p, .int .i64 c, .bool u]] w fun e w' => e = .returned (.bool (tranOk (p, c, u))) ∧ Below w.heap.size w w' := by
  cases h0 : inB c 1 64
  · rw [show tranOk (p, c, u) = false by unfold tranOk; simp only; rw [h0]; rfl]
    go_enter Try.func24, Try.ntmps24
    go_wp2_with fail
    refine (in_is h0 _).mono ?_
    rintro e _ ⟨rfl, rfl⟩
    go_wp2
    go_ret
    exact ⟨rfl, by go_grown⟩
  · obtain ⟨hb0, hb1⟩ := inB_true.1 h0
    rw [show tranOk (p, c, u) = inB p 0 (4096 - c) by unfold tranOk; simp only; rw [h0]; rfl]
    go_enter Try.func24, Try.ntmps24
    go_wp2_with fail
    refine (in_is h0 _).mono ?_
    rintro e _ ⟨rfl, rfl⟩
    go_wp2_with fail
    refine (in_any _ _ _ _).mono ?_
    rintro e _ ⟨rfl, rfl⟩
    go_wp2
    go_ret
    exact ⟨rfl, by go_grown⟩
theorem iTransferValid_is {p c : Int} {u b : Bool} (h : tranOk (p, c, u) = b) (w : World) : Calls Try.prog 24 #[.agg #[.int .i64 p, .int .i64 c, .bool u]] w fun e w' => e = .returned (.bool b) ∧ Below w.heap.size w w' := h ▸ iTransferValid_any p c u w
set_option maxRecDepth 100000 in
set_option maxHeartbeats 400000 in
theorem ClipT_any (A : Option Addr) (n c : Nat) (w : World) (hn : n ≤ 1048577) (hc : n ≤ c) (hc2 : c ≤ maxLen) (hA : A = none → n = 0 ∧ c = 0) :
    Calls Try.prog 26 #[.slice A n c] w fun e w' => e = .returned (.slice A n n) ∧ w = w' := by
  unfold maxLen at hc2
  cases A with
  | none =>
    obtain ⟨rfl, rfl⟩ := hA rfl
    go_enter Try.func26, Try.ntmps26
    go_wp2
    go_ret
    exact ⟨rfl, rfl⟩
  | some a =>
    clear hA
    go_enter Try.func26, Try.ntmps26
    go_wp2
    go_ret
    exact ⟨rfl, rfl⟩
set_option maxRecDepth 100000 in
set_option maxHeartbeats 4000000 in
theorem sSplitTransfer_any (p c : Int) (u : Bool) (s : Int) (w : World) :
    Calls Try.prog 6 #[.agg #[.int .i64 p, .int .i64 c, .bool u], .int .i64 s] w (fun e w' => RetT w (splitL (p, c, u) s) e w') := by
  obtain ⟨i0, hi, hz0, hz1, hz2⟩ := info_parts Try.infoTransfer
  cases h1 : tranOk (p, c, u)
  · rw [splitL_no (by rw [h1]; rfl)]
    go_enter Try.func6, Try.ntmps6
    go_wp2_with fail
    refine (sTransferValid_is h1 _).mono ?_
    rintro e w1 ⟨rfl, hb1⟩
    have HB1 : Hid (Below w.heap.size w w1) := Below.andThen (by go_grown) hb1
    clear hb1
    go_wp2
    go_ret
    exact ⟨_, _, rfl, Fr.nil_, HB1.out⟩
  · cases h2 : inB s 1 64
    · rw [splitL_no (by rw [h2]; simp)]
      go_enter Try.func6, Try.ntmps6
      go_wp2_with fail
      refine (sTransferValid_is h1 _).mono ?_
      rintro e w1 ⟨rfl, hb1⟩
      have HB1 : Hid (Below w.heap.size w w1) := Below.andThen (by go_grown) hb1
      clear hb1
      go_wp2_with fail
      refine (l1In_is h2 _).mono ?_
      rintro e _ ⟨rfl, rfl⟩
      go_wp2
      go_ret
      exact ⟨_, _, rfl, Fr.nil_, HB1.out⟩
    · obtain ⟨hc0, hc1, hp0, hp1⟩ := tranOk_use h1
      obtain ⟨hs0, hs1⟩ := inB_true.1 h2
      have HV := Lib.hid (splitL_yes h1 h2)
      go_enter Try.func6, Try.ntmps6
      go_wp2_with fail
      refine (sTransferValid_is h1 _).mono ?_
      rintro e w1 ⟨rfl, hb1⟩
      have hT1 : Below w.heap.size w w1 := Below.andThen (by go_grown) hb1
      have q0 : Hid (Blk w1 w.heap.size 26 #[.int .i64 p, .int .i64 c, .bool u]) := Blk.below (w' := w1) ((Blk.at_ _ _ _ rfl).alloc _) (Nat.le_refl _) hb1
      have hown1 : w1.ownsRow (w.heap.size + 1) 26 3 (.slice (some ⟨w.heap.size + 1, 0, none⟩) 0 0) 0 (trans []) := own_below hb1 (Nat.le_refl _) (by simpa [trans] using World.ownsRow_lit (w.alloc (.cells #[.int .i64 p, .int .i64 c, .bool u] 26)) #[] 0 (by simp) (Nat.zero_le _) (by simp))
      have hSb1 := hb1.size
      simp only [World.size_alloc] at hSb1
      clear hb1
      have k0 : w1.cell? ⟨w.heap.size, 0, none⟩ = some (.int .i64 p) := q0.out.cell 0 rfl
      have k1 : w1.cell? ⟨w.heap.size, 1, none⟩ = some (.int .i64 c) := q0.out.cell 1 rfl
      have k2 : w1.cell? ⟨w.heap.size, 2, none⟩ = some (.bool u) := q0.out.cell 2 rfl
      have l0 := q0.out.lt
      go_wp2_with fail
      refine (l1In_is h2 _).mono ?_
      rintro e _ ⟨rfl, rfl⟩
      go_wp2
      clear k0 k1 k2
      go_loopw [5, 6] (fun v i wr => ∃ (xs : List Tran) (f : Nat) (m : Int), 0 ≤ m ∧ m ≤ 128 ∧ c ≤ m + (f : Int) ∧ i = .int .i64 m ∧ xs.length + f ≤ 65 ∧ wr.ownsRow (w.heap.size + 1) 26 3 v xs.length (trans xs) ∧ Hid (xs ++ splitF p c s u f m = splitL (p, c, u) s) ∧ Hid (Blk wr w.heap.size 26 #[.int .i64 p, .int .i64 c, .bool u]) ∧ w.heap.size + 1 < wr.heap.size ∧ Below w.heap.size w wr)
        (fun _ i _ => (c - intOf i).toNat)
      case atStart => exact ⟨[], 65, 0, by omega, by omega, by omega, rfl, by simp, hown1, by show _ = _; rw [HV.out]; rfl, q0, by omega, hT1⟩
      case round =>
        obtain ⟨xs, f, m, hm0, hm1, hf, rfl, hxl, hown, HX, HQ, hgt, hb⟩ := hrel
        clear hown1 hT1 q0 l0
        have k0 : wr.cell? ⟨w.heap.size, 0, none⟩ = some (.int .i64 p) := HQ.out.cell 0 rfl
        have k1 : wr.cell? ⟨w.heap.size, 1, none⟩ = some (.int .i64 c) := HQ.out.cell 1 rfl
        have k2 : wr.cell? ⟨w.heap.size, 2, none⟩ = some (.bool u) := HQ.out.cell 2 rfl
        have l0 := HQ.out.lt
        have hs := hb.size
        by_cases hlt : m < c
        · obtain ⟨f, rfl⟩ : ∃ f', f = f' + 1 := ⟨f - 1, by omega⟩
          have HN : Hid ((xs ++ [(p + m, min s (c - m), u)]) ++ splitF p c s u f (m + s) = splitL (p, c, u) s) := by
            show _ = _
            rw [← HX.out, splitF, if_pos hlt]; simp
          by_cases hmn : c - m < s
          all_goals
            first | (have hq : min s (c - m) = c - m := by omega) | (have hq : min s (c - m) = s := by omega)
            rw [hq] at HN
            clear hq
            go_wp2_with (at_builtin; refine wpList_append_rd _ rfl _ _ 24 rfl (w.heap.size + 1) 26 i0 _ 3 24 Try.underlying24 hi hz0 hz1 hz2 rfl (by omega) _ _ _ rfl (hown.alloc _) (some ⟨wr.heap.size, 0, none⟩) 1 1 _ rfl (rd_new rfl rfl) (by intro u9 h9; simp at h9; rcases h9 with rfl | rfl | rfl <;> rfl) (by unfold maxLen; omega) (by omega) (by simp; omega) ?_; intro v2 w2 ho2 hg2 hat2)
            have hb2 : Below w.heap.size w w2 := below_own (hb.alloc hs _) (hown.alloc _) (by omega) (by simp; omega) hg2
            have HQ2 : Hid (Blk w2 w.heap.size 26 #[.int .i64 p, .int .i64 c, .bool u]) := by
              exact (hg2.block _ (by simp; omega) (fun e => by have := (hown.lt _ e.symm).1; omega)).trans (HQ.out.alloc _)
            go_wp2
            go_roundw
            case rel => exact ⟨_, f, m + s, by omega, by omega, by omega, by go_num, by simp; omega, by rw [List.length_append, trans_app]; exact ho2, HN, HQ2, by have := hg2.size; simp at this; omega, hb2⟩
            case measure => simp [intOf]; omega
        · have e : xs = splitL (p, c, u) s := by rw [← HX.out, splitF_end hlt]; simp
          have HE := Lib.hid e
          clear e
          go_wp2
          go_ret
          exact RetT.own (by rw [← HE.out]; exact own_base hown (by omega)) hb
set_option maxRecDepth 100000 in
set_option maxHeartbeats 4000000 in
theorem iSplitTransfer_any (p c : Int) (u : Bool) (s : Int) (w : World) :
    Calls Try.prog 8 #[.agg #[.int .i64 p, .int .i64 c, .bool u], .int .i64 s] w (fun e w' => RetT w (splitL (p, c, u) s) e w') := by
  obtain ⟨i0, hi, hz0, hz1, hz2⟩ := info_parts Try.infoTransfer
  cases h1 : tranOk (p, c, u)
  · rw [splitL_no (by rw [h1]; rfl)]
    go_enter Try.func8, Try.ntmps8
    go_wp2_with fail
    refine (iTransferValid_is h1 _).mono ?_
    rintro e w1 ⟨rfl, hb1⟩
    have HB1 : Hid (Below w.heap.size w w1) := Below.andThen (by go_grown) hb1
    clear hb1
    go_wp2
    go_ret
    exact ⟨_, _, rfl, Fr.nil_, HB1.out⟩
  · cases h2 : inB s 1 64
    · rw [splitL_no (by rw [h2]; simp)]
      go_enter Try.func8, Try.ntmps8
      go_wp2_with fail
      refine (iTransferValid_is h1 _).mono ?_
      rintro e w1 ⟨rfl, hb1⟩
      have HB1 : Hid (Below w.heap.size w w1) := Below.andThen (by go_grown) hb1
      clear hb1
      go_wp2_with fail
      refine (in_is h2 _).mono ?_
      rintro e _ ⟨rfl, rfl⟩
      go_wp2
      go_ret
      exact ⟨_, _, rfl, Fr.nil_, HB1.out⟩
    · obtain ⟨hc0, hc1, hp0, hp1⟩ := tranOk_use h1
      obtain ⟨hs0, hs1⟩ := inB_true.1 h2
      have HV := Lib.hid (splitL_yes h1 h2)
      go_enter Try.func8, Try.ntmps8
      go_wp2_with fail
      refine (iTransferValid_is h1 _).mono ?_
      rintro e w1 ⟨rfl, hb1⟩
      have hT1 : Below w.heap.size w w1 := Below.andThen (by go_grown) hb1
      have q0 : Hid (Blk w1 w.heap.size 26 #[.int .i64 p, .int .i64 c, .bool u]) := Blk.below (w' := w1) (Blk.at_ _ _ _ rfl) (Nat.le_refl _) hb1
      have hown1 : w1.ownsRow (w.heap.size + 1) 26 3 (.slice none 0 0) 0 (trans []) := World.ownsRow_nil _ _ _ _
      have hSb1 := hb1.size
      simp only [World.size_alloc] at hSb1
      clear hb1
      have k0 : w1.cell? ⟨w.heap.size, 0, none⟩ = some (.int .i64 p) := q0.out.cell 0 rfl
      have k1 : w1.cell? ⟨w.heap.size, 1, none⟩ = some (.int .i64 c) := q0.out.cell 1 rfl
      have k2 : w1.cell? ⟨w.heap.size, 2, none⟩ = some (.bool u) := q0.out.cell 2 rfl
      have l0 := q0.out.lt
      go_wp2_with fail
      refine (in_is h2 _).mono ?_
      rintro e _ ⟨rfl, rfl⟩
      go_wp2
      clear k0 k1 k2
      go_loopw [5, 6] (fun v i wr => ∃ (xs : List Tran) (f : Nat) (m : Int), 0 ≤ m ∧ m ≤ 128 ∧ c ≤ m + (f : Int) ∧ i = .int .i64 m ∧ xs.length + f ≤ 65 ∧ wr.ownsRow (w.heap.size + 1) 26 3 v xs.length (trans xs) ∧ Hid (xs ++ splitF p c s u f m = splitL (p, c, u) s) ∧ Hid (Blk wr w.heap.size 26 #[.int .i64 p, .int .i64 c, .bool u]) ∧ w.heap.size < wr.heap.size ∧ Below w.heap.size w wr)
        (fun _ i _ => (c - intOf i).toNat)
      case atStart => exact ⟨[], 65, 0, by omega, by omega, by omega, rfl, by simp, hown1, by show _ = _; rw [HV.out]; rfl, q0, by omega, hT1⟩
      case round =>
        obtain ⟨xs, f, m, hm0, hm1, hf, rfl, hxl, hown, HX, HQ, hgt, hb⟩ := hrel
        clear hown1 hT1 q0 l0
        have k0 : wr.cell? ⟨w.heap.size, 0, none⟩ = some (.int .i64 p) := HQ.out.cell 0 rfl
        have k1 : wr.cell? ⟨w.heap.size, 1, none⟩ = some (.int .i64 c) := HQ.out.cell 1 rfl
        have k2 : wr.cell? ⟨w.heap.size, 2, none⟩ = some (.bool u) := HQ.out.cell 2 rfl
        have l0 := HQ.out.lt
        have hs := hb.size
        by_cases hlt : m < c
        · obtain ⟨f, rfl⟩ : ∃ f', f = f' + 1 := ⟨f - 1, by omega⟩
          have HN : Hid ((xs ++ [(p + m, min s (c - m), u)]) ++ splitF p c s u f (m + s) = splitL (p, c, u) s) := by
            show _ = _
            rw [← HX.out, splitF, if_pos hlt]; simp
          by_cases hmn : c - m < s
          all_goals
            first | (have hq : min s (c - m) = c - m := by omega) | (have hq : min s (c - m) = s := by omega)
            rw [hq] at HN
            clear hq
            go_wp2_with (at_builtin; refine wpList_append_rd _ rfl _ _ 24 rfl (w.heap.size + 1) 26 i0 _ 3 24 Try.underlying24 hi hz0 hz1 hz2 rfl (by omega) _ _ _ rfl (hown.alloc _) (some ⟨wr.heap.size, 0, none⟩) 1 1 _ rfl (rd_new rfl rfl) (by intro u9 h9; simp at h9; rcases h9 with rfl | rfl | rfl <;> rfl) (by unfold maxLen; omega) (by omega) (by simp; omega) ?_; intro v2 w2 ho2 hg2 hat2)
            have hb2 : Below w.heap.size w w2 := below_own (hb.alloc hs _) (hown.alloc _) (by omega) (by simp; omega) hg2
            have HQ2 : Hid (Blk w2 w.heap.size 26 #[.int .i64 p, .int .i64 c, .bool u]) := by
              exact (hg2.block _ (by simp; omega) (fun e => by have := (hown.lt _ e.symm).1; omega)).trans (HQ.out.alloc _)
            go_wp2
            go_roundw
            case rel => exact ⟨_, f, m + s, by omega, by omega, by omega, by go_num, by simp; omega, by rw [List.length_append, trans_app]; exact ho2, HN, HQ2, by have := hg2.size; simp at this; omega, hb2⟩
            case measure => simp [intOf]; omega
        · have e : xs = splitL (p, c, u) s := by rw [← HX.out, splitF_end hlt]; simp
          have HE := Lib.hid e
          clear e
          have hl := HE.out
          have HO := Lib.hid hown
          have hlen : xs.length ≤ 65 := by omega
          rcases hown.2 with ⟨rfl, h0⟩ | ⟨g, cap, cur, rfl, hg1, hg2, hg3, hg4, _⟩
          · have HZ := Lib.hid h0
            clear h0 hown hl
            go_wp2_with fail
            refine (ClipT_any none 0 0 _ (by omega) (by omega) (by omega) (fun _ => ⟨rfl, rfl⟩)).mono ?_
            rintro e w2 ⟨rfl, rfl⟩
            go_wp2
            go_ret
            have e : xs = [] := List.eq_nil_of_length_eq_zero HZ.out
            rw [← HE.out, e]
            exact ⟨none, 0, rfl, Fr.nil_, hb⟩
          · clear hown hl hg2
            go_wp2_with fail
            refine (ClipT_any (some ⟨g, 0, none⟩) xs.length cap _ (by omega) hg3 hg4 (fun h => by cases h)).mono ?_
            rintro e w2 ⟨rfl, rfl⟩
            go_wp2
            go_ret
            rw [← HE.out]
            exact ⟨_, _, rfl, Fr.of_own (own_base HO.out (by omega)), hb⟩
end Go.Proofs.Ytlfegalmiloihaa
