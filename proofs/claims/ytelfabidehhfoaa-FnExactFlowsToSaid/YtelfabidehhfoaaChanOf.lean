/-
  CONTRACTS of ChannelsOf, FlowDirect.
  Conditions: none beyond those that each states.
-/
import Derived.Test.YtelfabidehhfoaaChan
import Derived.Test.YtelfabidehhfoaaMChannel
import Derived.Test.YtelfabidehhfoaaSlices
namespace Go.Proofs.Ytelfabidehhfoaa
open Go.ChangeShapes Go.WideShapes Go.ChangeAt Go.RowKit Go.Joins
set_option linter.unusedVariables false

theorem RetI.own {w w' : World} {zs : List Int} {v : Value} {n : Nat} (ho : w'.ownsRow w.heap.size 3 1 v n (ints zs)) (hb : Below w.heap.size w w') : RetI w zs (.returned v) w' := by
  have hl : zs.length = n := by have := ho.1; simpa [ints] using this
  subst hl
  rcases ho.2 with ⟨rfl, h0⟩ | ⟨g, cap, cur, rfl, r⟩
  · have e : zs = [] := List.eq_nil_of_length_eq_zero h0
    subst e
    exact ⟨none, 0, rfl, Fr.nil_, hb⟩
  · exact ⟨_, _, rfl, Fr.of_own ho, hb⟩
theorem ints_app (xs ys : List Int) : ints (xs ++ ys) = ints xs ++ ints ys := by simp [ints]
/-- is partition n the sender, or the receiver -/
def endB (n : Int) (sends : Bool) (c : Chan) : Bool := if sends = true then (c.2.1 == n) else (c.2.2.1 == n)
/-- the numbers of those that hold, from i on -/
def numsF (n : Int) (sends : Bool) : Int → List Chan → List Int
  | _, [] => []
  | i, c :: cs => if endB n sends c = true then i :: numsF n sends (i + 1) cs else numsF n sends (i + 1) cs
def chansOfL (zs : List Chan) (parts n : Int) (sends : Bool) : List Int := if chansOk parts zs = true then numsF n sends 0 zs else []
theorem numsF_len (n : Int) (sends : Bool) : ∀ (cs : List Chan) (i : Int), (numsF n sends i cs).length ≤ cs.length
  | [], _ => Nat.le_refl _
  | c :: cs, i => by
    rw [numsF]
    have := numsF_len n sends cs (i + 1)
    split
    · simp only [List.length_cons]; omega
    · simp only [List.length_cons]; omega
theorem drop_at {α : Type} {zs : List α} {k : Nat} {x : α} (h : zs[k]? = some x) : zs.drop k = x :: zs.drop (k + 1) := by
  obtain ⟨hl, rfl⟩ := List.getElem?_eq_some_iff.1 h
  exact List.drop_eq_getElem_cons hl
theorem numsF_yes {n : Int} {sends : Bool} {zs : List Chan} {k : Nat} {x : Chan} (h : zs[k]? = some x) (he : endB n sends x = true) : numsF n sends (k : Int) (zs.drop k) = (k : Int) :: numsF n sends ((k + 1 : Nat) : Int) (zs.drop (k + 1)) := by
  rw [drop_at h, numsF, if_pos he]; rfl
theorem numsF_no {n : Int} {sends : Bool} {zs : List Chan} {k : Nat} {x : Chan} (h : zs[k]? = some x) (he : endB n sends x = false) : numsF n sends (k : Int) (zs.drop k) = numsF n sends ((k + 1 : Nat) : Int) (zs.drop (k + 1)) := by
  rw [drop_at h, numsF, if_neg (by rw [he]; simp)]; rfl
theorem chansOf_len (zs : List Chan) (parts n : Int) (sends : Bool) : (chansOfL zs parts n sends).length ≤ zs.length := by
  unfold chansOfL
  split
  · exact numsF_len _ _ _ _
  · simp
theorem chansOk_len {parts : Int} {zs : List Chan} (h : chansOk parts zs = true) : zs.length ≤ 8 := by
  unfold chansOk at h
  rw [Bool.and_eq_true, Bool.and_eq_true, decide_eq_true_eq] at h
  exact h.2.1
theorem chansOk_parts {parts : Int} {zs : List Chan} (h : chansOk parts zs = true) : 0 ≤ parts ∧ parts ≤ 5 := by
  unfold chansOk at h
  rw [Bool.and_eq_true] at h
  exact inB_true.1 h.1
set_option maxRecDepth 100000 in
set_option maxHeartbeats 8000000 in
theorem sChannelsOf_any (A : Option Addr) (n c : Nat) (zs : List Chan) (parts p : Int) (sends : Bool) (w : World) (hm : n ≤ 1048577) (hr : Rd w 4 A n (chans zs)) :
    Calls Try.prog 35 #[.slice A n c, .int .i64 parts, .int .i64 p, .bool sends] w (fun e w' => RetI w (chansOfL zs parts p sends) e w') := by
  obtain ⟨i0, hi, hz0, hz1, hz2⟩ := info_parts Try.infoInt
  have hlz := Lib.hid hr.chansLen
  have HR := Lib.hid hr
  clear hr
  have hown0 : (w.alloc (.cells #[] 3)).ownsRow w.heap.size 3 1 (.slice (some ⟨w.heap.size, 0, none⟩) 0 0) 0 (ints []) := by simpa [ints] using World.ownsRow_lit w #[] 0 (Nat.le_refl _) (Nat.zero_le _) (by simp)
  cases hok : chansOk parts zs
  · have HE : Hid (chansOfL zs parts p sends = []) := by show _ = _; unfold chansOfL; rw [if_neg (by rw [hok]; simp)]
    rw [HE.out]
    by_cases hn0 : 0 < n
    · have hI : (0 : Int) < (n : Int) := by omega
      go_enter Try.func35, Try.ntmps35
      go_wp2
      go_loopw [9, 10] (fun v i wr => i = .int .i64 0 ∧ v = .slice (some ⟨w.heap.size, 0, none⟩) 0 0 ∧ Below w.heap.size w wr) (fun _ i _ => n - (intOf i).toNat)
      case atStart => exact ⟨rfl, rfl, by go_grown⟩
      case round =>
        obtain ⟨rfl, rfl, hb⟩ := hrel
        go_wp2_with fail
        refine (sChannelsValid_is hok _ hm (HR.out.below (Nat.le_refl _) hb)).mono ?_
        rintro e w1 ⟨rfl, hb1⟩
        have HB1 := Lib.hid (Below.andThen hb hb1)
        clear hb1 hb
        go_wp2
        go_ret
        exact ⟨_, _, rfl, Fr.nil_, HB1.out⟩
    · have hI : decide ((0 : Int) < (n : Int)) = false := by simp; omega
      go_enter Try.func35, Try.ntmps35
      go_wp2
      go_loopw [9, 10] (fun v i wr => i = .int .i64 0 ∧ v = .slice (some ⟨w.heap.size, 0, none⟩) 0 0 ∧ Below w.heap.size w wr) (fun _ i _ => n - (intOf i).toNat)
      case atStart => exact ⟨rfl, rfl, by go_grown⟩
      case round =>
        obtain ⟨rfl, rfl, hb⟩ := hrel
        go_wp2
        go_ret
        exact ⟨_, _, rfl, Fr.nil_, hb⟩
  · have h8 : n ≤ 8 := by have := chansOk_len hok; rw [hlz.out] at this; exact this
    have HE : Hid (chansOfL zs parts p sends = numsF p sends 0 zs) := by show _ = _; unfold chansOfL; rw [if_pos hok]
    have HOK := Lib.hid hok
    clear hok
    go_enter Try.func35, Try.ntmps35
    go_wp2
    go_loopw [9, 10] (fun v i wr => ∃ (k : Nat) (ys : List Int), k ≤ n ∧ i = .int .i64 k ∧ ys.length ≤ k ∧ wr.ownsRow w.heap.size 3 1 v ys.length (ints ys) ∧ Hid (ys ++ numsF p sends (k : Int) (zs.drop k) = numsF p sends 0 zs) ∧ Below w.heap.size w wr) (fun _ i _ => n - (intOf i).toNat)
    case atStart => exact ⟨0, [], Nat.zero_le _, rfl, by simp, hown0, by show _ = _; simp, by go_grown⟩
    case round =>
      obtain ⟨k, ys, hk, rfl, hyl, hown, HY, hb⟩ := hrel
      clear hown0
      by_cases hlt : k < n
      · obtain ⟨b, o, p0, p1, p2, p3, rfl, hbl, hx, g0, g1, g2, g3⟩ := HR.out.chan hlt
        have HX := Lib.hid hx
        have G1 := Lib.hid g1
        have G2 := Lib.hid g2
        clear g0 g1 g2 g3 hx
        go_wp2_with fail
        refine (sChannelsValid_is HOK.out _ hm (HR.out.below (Nat.le_refl _) hb)).mono ?_
        rintro e w1 ⟨rfl, hb1⟩
        have HB1 := Lib.hid (Below.andThen hb hb1)
        have hown1 := own_below hb1 (Nat.le_refl _) hown
        have hs1 := HB1.out.size
        clear hb1 hb hown
        have j1 := (HB1.out.cell (p := ⟨b, o + k * 4 + 1, none⟩) hbl).trans G1.out
        have j2 := (HB1.out.cell (p := ⟨b, o + k * 4 + 2, none⟩) hbl).trans G2.out
        cases he : endB p sends (p0, p1, p2, p3)
        · have HN := Lib.hid (HY.out.symm.trans (by rw [numsF_no HX.out he] : _ = ys ++ numsF p sends ((k + 1 : Nat) : Int) (zs.drop (k + 1))))
          cases sends
          · have hq : (p2 == p) = false := he
            clear he
            go_wp2
            go_roundw
            case rel => exact ⟨k + 1, ys, by omega, by go_num, by omega, hown1, HN.out.symm, HB1.out⟩
            case measure => simp [intOf]; omega
          · have hq : (p1 == p) = false := he
            clear he
            go_wp2
            go_roundw
            case rel => exact ⟨k + 1, ys, by omega, by go_num, by omega, hown1, HN.out.symm, HB1.out⟩
            case measure => simp [intOf]; omega
        · have HN := Lib.hid (HY.out.symm.trans (by rw [numsF_yes HX.out he]; simp : _ = (ys ++ [(k : Int)]) ++ numsF p sends ((k + 1 : Nat) : Int) (zs.drop (k + 1))))
          cases sends
          · have hq : (p2 == p) = true := he
            clear he
            go_wp2_with (at_builtin; refine wpList_append_rd _ rfl _ _ 52 rfl w.heap.size 3 i0 (.int .i64 0) 1 8 Try.underlying52 hi hz0 hz1 hz2 rfl (by omega) _ _ _ rfl (hown1.alloc _) _ 1 1 (ints [(k : Int)]) rfl (rd_new rfl rfl) (ints_one _) (by unfold maxLen; omega) (by omega) (by simp; omega) ?_; intro v2 w2 ho2 hg2 hat2)
            have hb2 := below_own (HB1.out.alloc hs1 _) (hown1.alloc _) (Nat.le_refl _) (by simp; omega) hg2
            go_wp2
            go_roundw
            case rel => exact ⟨k + 1, ys ++ [(k : Int)], by omega, by go_num, by simp; omega, by rw [ints_app, List.length_append]; exact ho2, HN.out.symm, hb2⟩
            case measure => simp [intOf]; omega
          · have hq : (p1 == p) = true := he
            clear he
            go_wp2_with (at_builtin; refine wpList_append_rd _ rfl _ _ 52 rfl w.heap.size 3 i0 (.int .i64 0) 1 8 Try.underlying52 hi hz0 hz1 hz2 rfl (by omega) _ _ _ rfl (hown1.alloc _) _ 1 1 (ints [(k : Int)]) rfl (rd_new rfl rfl) (ints_one _) (by unfold maxLen; omega) (by omega) (by simp; omega) ?_; intro v2 w2 ho2 hg2 hat2)
            have hb2 := below_own (HB1.out.alloc hs1 _) (hown1.alloc _) (Nat.le_refl _) (by simp; omega) hg2
            go_wp2
            go_roundw
            case rel => exact ⟨k + 1, ys ++ [(k : Int)], by omega, by go_num, by simp; omega, by rw [ints_app, List.length_append]; exact ho2, HN.out.symm, hb2⟩
            case measure => simp [intOf]; omega
      · have hkn : k = n := by omega
        have h9 := HY.out
        rw [hkn, ← hlz.out, List.drop_length] at h9
        have H9 : Hid (ys = chansOfL zs parts p sends) := by show _ = _; rw [HE.out, ← h9, numsF, List.append_nil]
        clear h9
        go_wp2
        go_ret
        exact RetI.own (by rw [← H9.out]; exact hown) hb
set_option maxRecDepth 100000 in
set_option maxHeartbeats 8000000 in
theorem iChannelsOf_any (A : Option Addr) (n c : Nat) (zs : List Chan) (parts p : Int) (sends : Bool) (w : World) (hm : n ≤ 1048577) (hr : Rd w 4 A n (chans zs)) :
    Calls Try.prog 36 #[.slice A n c, .int .i64 parts, .int .i64 p, .bool sends] w (fun e w' => RetI w (chansOfL zs parts p sends) e w') := by
  obtain ⟨i0, hi, hz0, hz1, hz2⟩ := info_parts Try.infoInt
  have hlz := Lib.hid hr.chansLen
  have HR := Lib.hid hr
  clear hr
  cases hok : chansOk parts zs
  · have HE : Hid (chansOfL zs parts p sends = []) := by show _ = _; unfold chansOfL; rw [if_neg (by rw [hok]; simp)]
    rw [HE.out]
    go_enter Try.func36, Try.ntmps36
    go_wp2_with fail
    refine (iChannelsValid_is hok _ hm HR.out).mono ?_
    rintro e w1 ⟨rfl, hb1⟩
    go_wp2
    go_ret
    exact ⟨_, _, rfl, Fr.nil_, hb1⟩
  · have h8 : n ≤ 8 := by have := chansOk_len hok; rw [hlz.out] at this; exact this
    have HE : Hid (chansOfL zs parts p sends = numsF p sends 0 zs) := by show _ = _; unfold chansOfL; rw [if_pos hok]
    have HOK := Lib.hid hok
    go_enter Try.func36, Try.ntmps36
    go_wp2_with fail
    refine (iChannelsValid_is hok _ hm HR.out).mono ?_
    rintro e w1 ⟨rfl, hb1⟩
    have HB0 := Lib.hid hb1
    clear hb1 hok
    go_wp2
    go_loopw [9, 18] (fun v i wr => ∃ (k : Nat) (ys : List Int), k ≤ n ∧ i = .int .i64 k ∧ ys.length ≤ k ∧ wr.ownsRow w.heap.size 3 1 v ys.length (ints ys) ∧ Hid (ys ++ numsF p sends (k : Int) (zs.drop k) = numsF p sends 0 zs) ∧ Below w.heap.size w wr) (fun _ i _ => n - (intOf i).toNat)
    case atStart => exact ⟨0, [], Nat.zero_le _, rfl, by simp, World.ownsRow_nil _ _ _ _, by show _ = _; simp, HB0.out⟩
    case round =>
      obtain ⟨k, ys, hk, rfl, hyl, hown, HY, hb⟩ := hrel
      by_cases hlt : k < n
      · obtain ⟨b, o, p0, p1, p2, p3, rfl, hbl, hx, g0, g1, g2, g3⟩ := HR.out.chan hlt
        have HX := Lib.hid hx
        have j0 := (hb.cell (p := ⟨b, o + k * 4, none⟩) hbl).trans g0
        have j1 := (hb.cell (p := ⟨b, o + k * 4 + 1, none⟩) hbl).trans g1
        have j2 := (hb.cell (p := ⟨b, o + k * 4 + 2, none⟩) hbl).trans g2
        have j3 := (hb.cell (p := ⟨b, o + k * 4 + 3, none⟩) hbl).trans g3
        clear g0 g1 g2 g3 hx
        have HB1 := Lib.hid (hb.alloc hb.size (.cells #[.int .i64 p0, .int .i64 p1, .int .i64 p2, .int .i64 p3] 80))
        have hs1 := hb.size
        have HO := Lib.hid (hown.alloc (.cells #[.int .i64 p0, .int .i64 p1, .int .i64 p2, .int .i64 p3] 80))
        clear hb hown
        cases he : endB p sends (p0, p1, p2, p3)
        · have HN := Lib.hid (HY.out.symm.trans (by rw [numsF_no HX.out he] : _ = ys ++ numsF p sends ((k + 1 : Nat) : Int) (zs.drop (k + 1))))
          cases sends
          · have hq : (p2 == p) = false := he
            clear he
            go_wp2
            go_roundw
            case rel => exact ⟨k + 1, ys, by omega, by go_num, by omega, HO.out, HN.out.symm, HB1.out⟩
            case measure => simp [intOf]; omega
          · have hq : (p1 == p) = false := he
            clear he
            go_wp2
            go_roundw
            case rel => exact ⟨k + 1, ys, by omega, by go_num, by omega, HO.out, HN.out.symm, HB1.out⟩
            case measure => simp [intOf]; omega
        · have HN := Lib.hid (HY.out.symm.trans (by rw [numsF_yes HX.out he]; simp : _ = (ys ++ [(k : Int)]) ++ numsF p sends ((k + 1 : Nat) : Int) (zs.drop (k + 1))))
          cases sends
          · have hq : (p2 == p) = true := he
            clear he
            go_wp2_with (at_builtin; refine wpList_append_rd _ rfl _ _ 52 rfl w.heap.size 3 i0 (.int .i64 0) 1 8 Try.underlying52 hi hz0 hz1 hz2 rfl (by omega) _ _ _ rfl (HO.out.alloc _) _ 1 1 (ints [(k : Int)]) rfl (rd_new (by simp) rfl) (ints_one _) (by unfold maxLen; omega) (by omega) (by simp; omega) ?_; intro v2 w2 ho2 hg2 hat2)
            have hb2 := below_own (HB1.out.alloc (by simp; omega) _) (HO.out.alloc _) (Nat.le_refl _) (by simp; omega) hg2
            go_wp2
            go_roundw
            case rel => exact ⟨k + 1, ys ++ [(k : Int)], by omega, by go_num, by simp; omega, by rw [ints_app, List.length_append]; exact ho2, HN.out.symm, hb2⟩
            case measure => simp [intOf]; omega
          · have hq : (p1 == p) = true := he
            clear he
            go_wp2_with (at_builtin; refine wpList_append_rd _ rfl _ _ 52 rfl w.heap.size 3 i0 (.int .i64 0) 1 8 Try.underlying52 hi hz0 hz1 hz2 rfl (by omega) _ _ _ rfl (HO.out.alloc _) _ 1 1 (ints [(k : Int)]) rfl (rd_new (by simp) rfl) (ints_one _) (by unfold maxLen; omega) (by omega) (by simp; omega) ?_; intro v2 w2 ho2 hg2 hat2)
            have hb2 := below_own (HB1.out.alloc (by simp; omega) _) (HO.out.alloc _) (Nat.le_refl _) (by simp; omega) hg2
            go_wp2
            go_roundw
            case rel => exact ⟨k + 1, ys ++ [(k : Int)], by omega, by go_num, by simp; omega, by rw [ints_app, List.length_append]; exact ho2, HN.out.symm, hb2⟩
            case measure => simp [intOf]; omega
      · have hkn : k = n := by omega
        have h9 := HY.out
        rw [hkn, ← hlz.out, List.drop_length] at h9
        have H9 : Hid (chansOfL zs parts p sends = ys) := by show _ = _; rw [HE.out, ← h9, numsF, List.append_nil]
        clear h9
        have HO := Lib.hid hown
        rcases hown.2 with ⟨rfl, h0⟩ | ⟨g, cap, cur, rfl, hg1, hg2, hg3, hg4, _⟩
        · have HZ := Lib.hid h0
          clear h0 hown
          go_wp2_with fail
          refine (ClipI_any none 0 0 _ (by omega) (by omega) (by omega) (fun _ => ⟨rfl, rfl⟩)).mono ?_
          rintro e w2 ⟨rfl, rfl⟩
          go_wp2
          go_ret
          have e : ys = [] := List.eq_nil_of_length_eq_zero HZ.out
          rw [H9.out, e]
          exact ⟨none, 0, rfl, Fr.nil_, hb⟩
        · clear hown hg2
          go_wp2_with fail
          refine (ClipI_any (some ⟨g, 0, none⟩) ys.length cap _ (by omega) hg3 hg4 (fun h => by cases h)).mono ?_
          rintro e w2 ⟨rfl, rfl⟩
          go_wp2
          go_ret
          rw [H9.out]
          exact ⟨_, _, rfl, Fr.of_own HO.out, hb⟩
end Go.Proofs.Ytelfabidehhfoaa
