/-
  CONTRACTS of FlowDirect.
  Conditions: none beyond those that each states.
-/
import Derived.Test.YtelfabidehhfoaaChanOf
namespace Go.Proofs.Ytelfabidehhfoaa
open Go.ChangeShapes Go.WideShapes Go.ChangeAt Go.RowKit Go.Joins
set_option linter.unusedVariables false

/-- does a channel let something flow from f to t -/
def flowC (f t : Int) (c : Chan) : Bool := ((c.2.1 == f) && (c.2.2.1 == t)) || ((c.1 == 3) && ((c.2.1 == t) && (c.2.2.1 == f)))
def directB (zs : List Chan) (f t : Int) : Bool := (f == t) || zs.any (flowC f t)
def flowB (zs : List Chan) (parts f t : Int) : Bool := chansOk parts zs && (inB f 0 (parts - 1) && (inB t 0 (parts - 1) && directB zs f t))
theorem any_snocE {α : Type} {zs : List α} {p : α → Bool} {k : Nat} {x : α} (hx : zs[k]? = some x) : (zs.take (k + 1)).any p = ((zs.take k).any p || p x) := by
  rw [take_snoc hx, List.any_append]; simp
set_option maxRecDepth 100000 in
set_option maxHeartbeats 4000000 in
theorem direct1_any (a b : Addr) (f t : Int) (w : World) (hc : w.cell? a = some (.int .i64 f)) (hd : w.cell? b = some (.int .i64 t)) : Pred Try.prog 73 #[.pointer (some a), .pointer (some b)] chanV (flowC f t) w := by
  intro x W hb
  have ha : a.block < w.heap.size := World.block_lt_of_cell? w a hc
  have hb2 : b.block < w.heap.size := World.block_lt_of_cell? w b hd
  obtain ⟨p0, p1, p2, p3⟩ := x
  have hcW : W.cell? a = some (.int .i64 f) := (hb.cell ha).trans hc
  have hdW : W.cell? b = some (.int .i64 t) := (hb.cell hb2).trans hd
  have hz := hb.size
  have hk := fun (o : Obj) => keepA hcW o
  have hk2 := fun (o : Obj) => keepA hdW o
  show Calls Try.prog 73 #[.agg #[.int .i64 p0, .int .i64 p1, .int .i64 p2, .int .i64 p3], .pointer (some a), .pointer (some b)] W fun e W' => e = .returned (.bool (flowC f t (p0, p1, p2, p3))) ∧ Below W.heap.size W W'
  have HV : Hid (flowC f t (p0, p1, p2, p3) = (((p1 == f) && (p2 == t)) || ((p0 == 3) && ((p1 == t) && (p2 == f))))) := rfl
  cases h1 : (p1 == f)
  · cases h3 : (p0 == 3)
    · rw [show flowC f t (p0, p1, p2, p3) = false by rw [HV.out, h1, h3]; rfl]
      go_enter Try.func73, Try.ntmps73
      go_wp2
      go_ret
      exact ⟨rfl, by go_grown⟩
    · cases h4 : (p1 == t)
      · rw [show flowC f t (p0, p1, p2, p3) = false by rw [HV.out, h1, h3, h4]; rfl]
        go_enter Try.func73, Try.ntmps73
        go_wp2
        go_ret
        exact ⟨rfl, by go_grown⟩
      · cases h5 : (p2 == f)
        all_goals
          rw [show flowC f t (p0, p1, p2, p3) = (p2 == f) by rw [HV.out, h1, h3, h4]; simp, h5]
          go_enter Try.func73, Try.ntmps73
          go_wp2
          go_ret
          exact ⟨rfl, by go_grown⟩
  · cases h2 : (p2 == t)
    · cases h3 : (p0 == 3)
      · rw [show flowC f t (p0, p1, p2, p3) = false by rw [HV.out, h2, h3]; simp]
        go_enter Try.func73, Try.ntmps73
        go_wp2
        go_ret
        exact ⟨rfl, by go_grown⟩
      · cases h4 : (p1 == t)
        · rw [show flowC f t (p0, p1, p2, p3) = false by rw [HV.out, h2, h3, h4]; simp]
          go_enter Try.func73, Try.ntmps73
          go_wp2
          go_ret
          exact ⟨rfl, by go_grown⟩
        · cases h5 : (p2 == f)
          all_goals
            rw [show flowC f t (p0, p1, p2, p3) = (p2 == f) by rw [HV.out, h2, h3, h4]; simp, h5]
            go_enter Try.func73, Try.ntmps73
            go_wp2
            go_ret
            exact ⟨rfl, by go_grown⟩
    · rw [show flowC f t (p0, p1, p2, p3) = true by rw [HV.out, h1, h2]; rfl]
      go_enter Try.func73, Try.ntmps73
      go_wp2
      go_ret
      exact ⟨rfl, by go_grown⟩
set_option maxRecDepth 100000 in
set_option maxHeartbeats 2000000 in
theorem idirect_any (A : Option Addr) (n c : Nat) (zs : List Chan) (f t : Int) (w : World) (hm : n ≤ 1048577) (hr : Rd w 4 A n (chans zs)) :
    Calls Try.prog 68 #[.slice A n c, .int .i64 f, .int .i64 t] w fun e w' => e = .returned (.bool (directB zs f t)) ∧ Below w.heap.size w w' := by
  have HR := Lib.hid hr
  clear hr
  cases h : (f == t)
  · rw [show directB zs f t = zs.any (flowC f t) by unfold directB; rw [h]; rfl]
    go_enter Try.func68, Try.ntmps68
    go_wp2_with fail
    refine (ContainsFuncChannel_any 73 _ (flowC f t) A n c zs _ hm ((HR.out.alloc _).alloc _) (direct1_any _ _ f t _ (by simp [go_sem]) (by simp [go_sem])) (enters_of Try.func73 (by kernel_rfl) rfl)).mono ?_
    rintro e w1 ⟨rfl, hb1⟩
    have HB1 : Hid (Below w.heap.size w w1) := Below.andThen (by go_grown) hb1
    clear hb1
    go_wp2
    go_ret
    exact ⟨rfl, HB1.out⟩
  · rw [show directB zs f t = true by unfold directB; rw [h]; rfl]
    go_enter Try.func68, Try.ntmps68
    go_wp2
    go_ret
    exact ⟨rfl, by go_grown⟩
theorem idirect_is {A : Option Addr} {n c : Nat} {zs : List Chan} {f t : Int} {b : Bool} (h : directB zs f t = b) (w : World) (hm : n ≤ 1048577) (hr : Rd w 4 A n (chans zs)) :
    Calls Try.prog 68 #[.slice A n c, .int .i64 f, .int .i64 t] w fun e w' => e = .returned (.bool b) ∧ Below w.heap.size w w' := h ▸ idirect_any A n c zs f t w hm hr
set_option maxRecDepth 100000 in
set_option maxHeartbeats 4000000 in
theorem iFlowDirect_any (A : Option Addr) (n c : Nat) (zs : List Chan) (parts f t : Int) (w : World) (hm : n ≤ 1048577) (hr : Rd w 4 A n (chans zs)) :
    Calls Try.prog 42 #[.slice A n c, .int .i64 parts, .int .i64 f, .int .i64 t] w fun e w' => e = .returned (.bool (flowB zs parts f t)) ∧ Below w.heap.size w w' := by
  have HR := Lib.hid hr
  clear hr
  cases hok : chansOk parts zs
  · rw [show flowB zs parts f t = false by unfold flowB; rw [hok]; rfl]
    go_enter Try.func42, Try.ntmps42
    go_wp2_with fail
    refine (iChannelsValid_is hok _ hm HR.out).mono ?_
    rintro e w1 ⟨rfl, hb1⟩
    go_wp2
    go_ret
    exact ⟨rfl, hb1⟩
  · obtain ⟨hp0, hp1⟩ := chansOk_parts hok
    cases h1 : inB f 0 (parts - 1)
    · rw [show flowB zs parts f t = false by unfold flowB; rw [hok, h1]; rfl]
      go_enter Try.func42, Try.ntmps42
      go_wp2_with fail
      refine (iChannelsValid_is hok _ hm HR.out).mono ?_
      rintro e w1 ⟨rfl, hb1⟩
      go_wp2_with fail
      refine (in_is h1 _).mono ?_
      rintro e _ ⟨rfl, rfl⟩
      go_wp2
      go_ret
      exact ⟨rfl, hb1⟩
    · cases h2 : inB t 0 (parts - 1)
      · rw [show flowB zs parts f t = false by unfold flowB; rw [hok, h1, h2]; rfl]
        go_enter Try.func42, Try.ntmps42
        go_wp2_with fail
        refine (iChannelsValid_is hok _ hm HR.out).mono ?_
        rintro e w1 ⟨rfl, hb1⟩
        go_wp2_with fail
        refine (in_is h1 _).mono ?_
        rintro e _ ⟨rfl, rfl⟩
        go_wp2_with fail
        refine (in_is h2 _).mono ?_
        rintro e _ ⟨rfl, rfl⟩
        go_wp2
        go_ret
        exact ⟨rfl, hb1⟩
      · cases hd : directB zs f t
        all_goals
          rw [show flowB zs parts f t = directB zs f t by unfold flowB; rw [hok, h1, h2]; rfl, hd]
          go_enter Try.func42, Try.ntmps42
          go_wp2_with fail
          refine (iChannelsValid_is hok _ hm HR.out).mono ?_
          rintro e w1 ⟨rfl, hb1⟩
          have HB1 := Lib.hid hb1
          clear hb1
          go_wp2_with fail
          refine (in_is h1 _).mono ?_
          rintro e _ ⟨rfl, rfl⟩
          go_wp2_with fail
          refine (in_is h2 _).mono ?_
          rintro e _ ⟨rfl, rfl⟩
          go_wp2_with fail
          refine (idirect_is hd _ hm (HR.out.below (Nat.le_refl _) HB1.out)).mono ?_
          rintro e w2 ⟨rfl, hb2⟩
          have HB2 := Lib.hid (Below.andThen HB1.out hb2)
          clear hb2
          go_wp2
          go_ret
          exact ⟨rfl, HB2.out⟩
set_option maxRecDepth 100000 in
set_option maxHeartbeats 8000000 in
theorem sFlowDirect_any (A : Option Addr) (n c : Nat) (zs : List Chan) (parts f t : Int) (w : World) (hm : n ≤ 1048577) (hr : Rd w 4 A n (chans zs)) :
    Calls Try.prog 41 #[.slice A n c, .int .i64 parts, .int .i64 f, .int .i64 t] w fun e w' => e = .returned (.bool (flowB zs parts f t)) ∧ Below w.heap.size w w' := by
  have hlz := Lib.hid hr.chansLen
  have HR := Lib.hid hr
  clear hr
  cases hok : chansOk parts zs
  · rw [show flowB zs parts f t = false by unfold flowB; rw [hok]; rfl]
    go_enter Try.func41, Try.ntmps41
    go_wp2_with fail
    refine (sChannelsValid_is hok _ hm HR.out).mono ?_
    rintro e w1 ⟨rfl, hb1⟩
    go_wp2
    go_ret
    exact ⟨rfl, hb1⟩
  · obtain ⟨hp0, hp1⟩ := chansOk_parts hok
    cases h1 : inB f 0 (parts - 1)
    · rw [show flowB zs parts f t = false by unfold flowB; rw [hok, h1]; rfl]
      go_enter Try.func41, Try.ntmps41
      go_wp2_with fail
      refine (sChannelsValid_is hok _ hm HR.out).mono ?_
      rintro e w1 ⟨rfl, hb1⟩
      go_wp2_with fail
      refine (l1In_is h1 _).mono ?_
      rintro e _ ⟨rfl, rfl⟩
      go_wp2
      go_ret
      exact ⟨rfl, hb1⟩
    · cases h2 : inB t 0 (parts - 1)
      · rw [show flowB zs parts f t = false by unfold flowB; rw [hok, h1, h2]; rfl]
        go_enter Try.func41, Try.ntmps41
        go_wp2_with fail
        refine (sChannelsValid_is hok _ hm HR.out).mono ?_
        rintro e w1 ⟨rfl, hb1⟩
        go_wp2_with fail
        refine (l1In_is h1 _).mono ?_
        rintro e _ ⟨rfl, rfl⟩
        go_wp2_with fail
        refine (l1In_is h2 _).mono ?_
        rintro e _ ⟨rfl, rfl⟩
        go_wp2
        go_ret
        exact ⟨rfl, hb1⟩
      · have HE : Hid (flowB zs parts f t = ((f == t) || zs.any (flowC f t))) := by show _ = _; unfold flowB directB; rw [hok, h1, h2]; rfl
        go_enter Try.func41, Try.ntmps41
        go_wp2_with fail
        refine (sChannelsValid_is hok _ hm HR.out).mono ?_
        rintro e w1 ⟨rfl, hb1⟩
        have HB1 := Lib.hid hb1
        clear hb1
        go_wp2_with fail
        refine (l1In_is h1 _).mono ?_
        rintro e _ ⟨rfl, rfl⟩
        go_wp2_with fail
        refine (l1In_is h2 _).mono ?_
        rintro e _ ⟨rfl, rfl⟩
        clear hok h1 h2
        go_wp2
        go_loopw [9, 10] (fun v i wr => ∃ (k : Nat) (V : Bool), k ≤ n ∧ i = .int .i64 k ∧ v = .bool V ∧ Hid (V = ((f == t) || (zs.take k).any (flowC f t))) ∧ Below w.heap.size w wr) (fun _ i _ => n - (intOf i).toNat)
        case atStart => exact ⟨0, (f == t), Nat.zero_le _, rfl, rfl, by show _ = _; simp, HB1.out⟩
        case round =>
          obtain ⟨k, V, hk, rfl, rfl, HV, hb⟩ := hrel
          by_cases hlt : k < n
          · obtain ⟨b, o, p0, p1, p2, p3, rfl, hbl, hx, g0, g1, g2, g3⟩ := HR.out.chan hlt
            have HX := Lib.hid hx
            have j0 := (hb.cell (p := ⟨b, o + k * 4, none⟩) hbl).trans g0
            have j1 := (hb.cell (p := ⟨b, o + k * 4 + 1, none⟩) hbl).trans g1
            have j2 := (hb.cell (p := ⟨b, o + k * 4 + 2, none⟩) hbl).trans g2
            have j3 := (hb.cell (p := ⟨b, o + k * 4 + 3, none⟩) hbl).trans g3
            have hs1 := hb.size
            have HB2 := Lib.hid (hb.alloc hs1 (.cells #[.int .i64 p0, .int .i64 p1, .int .i64 p2, .int .i64 p3] 80))
            clear g0 g1 g2 g3 hx hb
            have HN : Hid (((f == t) || (zs.take (k + 1)).any (flowC f t)) = (V || (((p1 == f) && (p2 == t)) || ((p0 == 3) && ((p1 == t) && (p2 == f)))))) := by
              show _ = _
              rw [any_snocE HX.out, HV.out, Bool.or_assoc]; rfl
            cases V
            · cases q1 : (p1 == f)
              · cases q3 : (p0 == 3)
                · have HM : Hid (false = ((f == t) || (zs.take (k + 1)).any (flowC f t))) := by show _ = _; rw [HN.out, q1, q3]; rfl
                  go_wp2
                  go_roundw
                  case rel => exact ⟨k + 1, false, by omega, by go_num, rfl, HM, HB2.out⟩
                  case measure => simp [intOf]; omega
                · cases q4 : (p1 == t)
                  · have HM : Hid (false = ((f == t) || (zs.take (k + 1)).any (flowC f t))) := by show _ = _; rw [HN.out, q1, q3, q4]; rfl
                    go_wp2
                    go_roundw
                    case rel => exact ⟨k + 1, false, by omega, by go_num, rfl, HM, HB2.out⟩
                    case measure => simp [intOf]; omega
                  · cases q5 : (p2 == f)
                    · have HM : Hid (false = ((f == t) || (zs.take (k + 1)).any (flowC f t))) := by show _ = _; rw [HN.out, q1, q3, q4, q5]; rfl
                      go_wp2
                      go_roundw
                      case rel => exact ⟨k + 1, false, by omega, by go_num, rfl, HM, HB2.out⟩
                      case measure => simp [intOf]; omega
                    · have HM : Hid (true = ((f == t) || (zs.take (k + 1)).any (flowC f t))) := by show _ = _; rw [HN.out, q1, q3, q4, q5]; rfl
                      go_wp2
                      go_roundw
                      case rel => exact ⟨k + 1, true, by omega, by go_num, rfl, HM, HB2.out⟩
                      case measure => simp [intOf]; omega
              · cases q2 : (p2 == t)
                · cases q3 : (p0 == 3)
                  · have HM : Hid (false = ((f == t) || (zs.take (k + 1)).any (flowC f t))) := by show _ = _; rw [HN.out, q2, q3]; simp
                    go_wp2
                    go_roundw
                    case rel => exact ⟨k + 1, false, by omega, by go_num, rfl, HM, HB2.out⟩
                    case measure => simp [intOf]; omega
                  · cases q4 : (p1 == t)
                    · have HM : Hid (false = ((f == t) || (zs.take (k + 1)).any (flowC f t))) := by show _ = _; rw [HN.out, q2, q3, q4]; simp
                      go_wp2
                      go_roundw
                      case rel => exact ⟨k + 1, false, by omega, by go_num, rfl, HM, HB2.out⟩
                      case measure => simp [intOf]; omega
                    · cases q5 : (p2 == f)
                      · have HM : Hid (false = ((f == t) || (zs.take (k + 1)).any (flowC f t))) := by show _ = _; rw [HN.out, q2, q3, q4, q5]; simp
                        go_wp2
                        go_roundw
                        case rel => exact ⟨k + 1, false, by omega, by go_num, rfl, HM, HB2.out⟩
                        case measure => simp [intOf]; omega
                      · have HM : Hid (true = ((f == t) || (zs.take (k + 1)).any (flowC f t))) := by show _ = _; rw [HN.out, q2, q3, q4, q5]; simp
                        go_wp2
                        go_roundw
                        case rel => exact ⟨k + 1, true, by omega, by go_num, rfl, HM, HB2.out⟩
                        case measure => simp [intOf]; omega
                · have HM : Hid (true = ((f == t) || (zs.take (k + 1)).any (flowC f t))) := by show _ = _; rw [HN.out, q1, q2]; rfl
                  go_wp2
                  go_roundw
                  case rel => exact ⟨k + 1, true, by omega, by go_num, rfl, HM, HB2.out⟩
                  case measure => simp [intOf]; omega
            · have HM : Hid (true = ((f == t) || (zs.take (k + 1)).any (flowC f t))) := by show _ = _; rw [HN.out]; rfl
              go_wp2
              go_roundw
              case rel => exact ⟨k + 1, true, by omega, by go_num, rfl, HM, HB2.out⟩
              case measure => simp [intOf]; omega
          · have hkn : k = n := by omega
            have h9 := HV.out
            rw [hkn, ← hlz.out, List.take_length, ← HE.out] at h9
            have H9 := Lib.hid h9
            clear h9
            go_wp2
            go_ret
            exact ⟨by rw [H9.out] <;> rfl, hb⟩
theorem sFlowDirect_is {A : Option Addr} {n c : Nat} {zs : List Chan} {parts f t : Int} {b : Bool} (h : flowB zs parts f t = b) (w : World) (hm : n ≤ 1048577) (hr : Rd w 4 A n (chans zs)) :
    Calls Try.prog 41 #[.slice A n c, .int .i64 parts, .int .i64 f, .int .i64 t] w fun e w' => e = .returned (.bool b) ∧ Below w.heap.size w w' := h ▸ sFlowDirect_any A n c zs parts f t w hm hr
end Go.Proofs.Ytelfabidehhfoaa
