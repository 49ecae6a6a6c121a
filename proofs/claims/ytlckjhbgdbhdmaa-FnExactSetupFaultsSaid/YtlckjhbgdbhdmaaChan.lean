/-
  CONTRACTS of ChannelsValid.
  Conditions: none beyond those that each states.
-/
import Derived.Test.YtlckjhbgdbhdmaaRChannel
import Derived.Test.YtlckjhbgdbhdmaaWin
namespace Go.Proofs.Ytlckjhbgdbhdmaa
open Go.ChangeShapes Go.WideShapes Go.ChangeAt Go.RowKit Go.Joins
set_option linter.unusedVariables false

abbrev Chan := Int × Int × Int × Int
def sizedB (kind size : Int) : Bool := if kind = 1 then decide (size = 1) else (decide (kind = 2) || decide (kind = 3)) && inB size 1 4
def chanOk (parts : Int) (x : Chan) : Bool := sizedB x.1 x.2.2.2 && (inB x.2.1 0 (parts - 1) && (inB x.2.2.1 0 (parts - 1) && !decide (x.2.1 = x.2.2.1)))
def chansOk (parts : Int) (zs : List Chan) : Bool := inB parts 0 5 && (decide (zs.length ≤ 8) && zs.all (chanOk parts))
theorem sizedB_1 {size : Int} : sizedB 1 size = decide (size = 1) := if_pos rfl
theorem sizedB_n {kind size : Int} (h : ¬ kind = 1) : sizedB kind size = ((decide (kind = 2) || decide (kind = 3)) && inB size 1 4) := if_neg h
theorem sizedB_k {kind size : Int} (h : inB kind 1 3 = false) : sizedB kind size = false := by
  rw [inB_false] at h
  rw [sizedB_n (by omega), decide_eq_false (by omega), decide_eq_false (by omega)]; rfl
theorem sizedB_s {kind size : Int} (h : inB size 1 4 = false) : sizedB kind size = false := by
  have h' := inB_false.1 h
  unfold sizedB
  split
  · rw [decide_eq_false (by omega)]
  · rw [h]; simp
theorem sizedB_y {kind size : Int} (h1 : inB kind 1 3 = true) (h2 : inB size 1 4 = true) (h3 : ¬ kind = 1) : sizedB kind size = true := by
  have := inB_true.1 h1
  rw [sizedB_n h3, h2]
  by_cases h : kind = 2
  · rw [decide_eq_true h]; rfl
  · rw [decide_eq_true (show kind = 3 by omega)]; simp
theorem chanOk_no {parts p0 p1 p2 p3 : Int} (h : sizedB p0 p3 = false ∨ inB p1 0 (parts - 1) = false ∨ inB p2 0 (parts - 1) = false ∨ p1 = p2) : chanOk parts (p0, p1, p2, p3) = false := by
  unfold chanOk
  rcases h with h | h | h | h <;> simp [h]
theorem chanOk_yes {parts p0 p1 p2 p3 : Int} (h0 : sizedB p0 p3 = true) (h1 : inB p1 0 (parts - 1) = true) (h2 : inB p2 0 (parts - 1) = true) (h3 : ¬ p1 = p2) : chanOk parts (p0, p1, p2, p3) = true := by
  unfold chanOk
  simp [h0, h1, h2, h3]
theorem chanOk_use {parts p0 p1 p2 p3 : Int} (h : chanOk parts (p0, p1, p2, p3) = true) : 0 ≤ p1 ∧ p1 < parts ∧ 0 ≤ p2 ∧ p2 < parts ∧ ¬ p1 = p2 := by
  unfold chanOk at h
  rw [Bool.and_eq_true, Bool.and_eq_true, Bool.and_eq_true] at h
  obtain ⟨_, h1, h2, h3⟩ := h
  have h1 := inB_true.1 h1
  have h2 := inB_true.1 h2
  simp at h1 h2 h3
  omega
set_option maxRecDepth 100000 in
set_option maxHeartbeats 1000000 in
theorem sized_any (kind size : Int) (w : World) : Calls Try.prog 64 #[.int .i64 kind, .int .i64 size] w fun e w' => e = .returned (.bool (sizedB kind size)) ∧ w = w' := by
  by_cases h1 : kind = 1
  · subst h1
    rw [sizedB_1]
    by_cases h2 : size = 1
    · subst h2
      rw [decide_eq_true rfl]
      go_enter Try.func64, Try.ntmps64
      go_wp2
      go_ret
      exact ⟨rfl, rfl⟩
    · rw [decide_eq_false h2]
      have hq : (size == 1) = false := by simpa using h2
      go_enter Try.func64, Try.ntmps64
      go_wp2
      go_ret
      exact ⟨rfl, rfl⟩
  · rw [sizedB_n h1]
    by_cases h2 : kind = 2
    · subst h2
      rw [decide_eq_true rfl, Bool.true_or, Bool.true_and]
      go_enter Try.func64, Try.ntmps64
      go_wp2_with fail
      refine (in_any size 1 4 _).mono ?_
      rintro e _ ⟨rfl, rfl⟩
      go_wp2
      go_ret
      exact ⟨rfl, rfl⟩
    · by_cases h3 : kind = 3
      · subst h3
        rw [decide_eq_true (rfl : (3 : Int) = 3), Bool.or_true, Bool.true_and]
        go_enter Try.func64, Try.ntmps64
        go_wp2_with fail
        refine (in_any size 1 4 _).mono ?_
        rintro e _ ⟨rfl, rfl⟩
        go_wp2
        go_ret
        exact ⟨rfl, rfl⟩
      · rw [decide_eq_false h2, decide_eq_false h3, Bool.or_false, Bool.false_and]
        go_enter Try.func64, Try.ntmps64
        go_wp2
        go_ret
        exact ⟨rfl, rfl⟩
theorem sized_is {kind size : Int} {b : Bool} (h : sizedB kind size = b) (w : World) : Calls Try.prog 64 #[.int .i64 kind, .int .i64 size] w fun e w' => e = .returned (.bool b) ∧ w = w' := h ▸ sized_any kind size w
set_option maxRecDepth 100000 in
set_option maxHeartbeats 4000000 in
theorem sChannelsValid_any (A : Option Addr) (n c : Nat) (zs : List Chan) (parts : Int) (w : World) (hm : n ≤ 1048577) (hr : Rd w 4 A n (chans zs)) :
    Calls Try.prog 26 #[.slice A n c, .int .i64 parts] w fun e w' => e = .returned (.bool (chansOk parts zs)) ∧ Below w.heap.size w w' := by
  have hlz := Lib.hid hr.chansLen
  cases hp : inB parts 0 5
  · have e1 : chansOk parts zs = false := by unfold chansOk; rw [hp]; rfl
    rw [e1]; clear e1
    go_enter Try.func26, Try.ntmps26
    go_wp2
    go_loopw [5] (fun i wr => ∃ (k : Nat), k ≤ n ∧ i = .int .i64 k ∧ Below w.heap.size w wr) (fun i _ => n - (intOf i).toNat)
    case atStart => exact ⟨0, Nat.zero_le _, rfl, Below.refl _ _⟩
    case round =>
      obtain ⟨k, hk, rfl, hb⟩ := hrel
      by_cases hlt : k < n
      · obtain ⟨b, o, p0, p1, p2, p3, rfl, hbl, hx, g0, g1, g2, g3⟩ := hr.chan hlt
        have j0 := (hb.cell (p := ⟨b, o + k * 4, none⟩) hbl).trans g0
        have j1 := (hb.cell (p := ⟨b, o + k * 4 + 1, none⟩) hbl).trans g1
        have j2 := (hb.cell (p := ⟨b, o + k * 4 + 2, none⟩) hbl).trans g2
        have j3 := (hb.cell (p := ⟨b, o + k * 4 + 3, none⟩) hbl).trans g3
        have HX := Lib.hid hx
        clear g0 g1 g2 g3 hx
        go_wp2_with fail
        refine (l1In_any _ _ _ _).mono ?_
        rintro e _ ⟨rfl, rfl⟩
        generalize h0 : inB p0 _ _ = bb
        cases bb
        · skip
          go_wp2
          go_ret
          exact ⟨rfl, by first | exact hb | exact hb.alloc hb.size _⟩
        · have Hh0 := Lib.hid h0
          clear h0
          go_wp2_with fail
          refine (l1In_any _ _ _ _).mono ?_
          rintro e _ ⟨rfl, rfl⟩
          generalize h1 : inB p1 _ _ = bb
          cases bb
          · skip
            go_wp2
            go_ret
            exact ⟨rfl, by first | exact hb | exact hb.alloc hb.size _⟩
          · have Hh1 := Lib.hid h1
            clear h1
            go_wp2_with fail
            refine (l1In_any _ _ _ _).mono ?_
            rintro e _ ⟨rfl, rfl⟩
            generalize h2 : inB p2 _ _ = bb
            cases bb
            · skip
              go_wp2
              go_ret
              exact ⟨rfl, by first | exact hb | exact hb.alloc hb.size _⟩
            · have Hh2 := Lib.hid h2
              clear h2
              by_cases h3 : p1 = p2
              · skip
                go_wp2
                go_ret
                exact ⟨rfl, by first | exact hb | exact hb.alloc hb.size _⟩
              · have hq3 : (p1 == p2) = false := by simpa using h3
                have H3 := Lib.hid h3
                clear h3
                go_wp2_with fail
                refine (l1In_any _ _ _ _).mono ?_
                rintro e _ ⟨rfl, rfl⟩
                generalize h4 : inB p3 _ _ = bb
                cases bb
                · skip
                  go_wp2
                  go_ret
                  exact ⟨rfl, by first | exact hb | exact hb.alloc hb.size _⟩
                · have Hh4 := Lib.hid h4
                  clear h4
                  by_cases h5 : p0 = 1
                  · have hq5 : (p0 == 1) = true := by simpa using h5
                    have H5 := Lib.hid h5
                    clear h5
                    by_cases h6 : p3 = 1
                    · have hq6 : (p3 == 1) = true := by simpa using h6
                      have H6 := Lib.hid h6
                      clear h6
                      go_wp2
                      go_roundw
                      case rel => exact ⟨k + 1, by omega, by go_num, by first | exact hb | exact hb.alloc hb.size _⟩
                      case measure => simp [intOf]; omega
                    · skip
                      go_wp2
                      go_ret
                      exact ⟨rfl, by first | exact hb | exact hb.alloc hb.size _⟩
                  · skip
                    go_wp2
                    go_roundw
                    case rel => exact ⟨k + 1, by omega, by go_num, by first | exact hb | exact hb.alloc hb.size _⟩
                    case measure => simp [intOf]; omega
      · have hkn : k = n := by omega
        by_cases h8 : n ≤ 8
        · have hI : (n : Int) ≤ 8 := by omega
          go_wp2_with fail
          refine (l1In_is hp _).mono ?_
          rintro e _ ⟨rfl, rfl⟩
          go_wp2
          go_ret
          exact ⟨rfl, hb⟩
        · have hI : decide ((n : Int) ≤ 8) = false := by simp; omega
          go_wp2
          go_ret
          exact ⟨rfl, hb⟩
  · obtain ⟨hp0, hp1⟩ := inB_true.1 hp
    have HV : Hid (chansOk parts zs = (decide (n ≤ 8) && zs.all (chanOk parts))) := by show _ = _; unfold chansOk; rw [hp, hlz.out]; rfl
    go_enter Try.func26, Try.ntmps26
    go_wp2
    go_loopw [5] (fun i wr => ∃ (k : Nat), k ≤ n ∧ i = .int .i64 k ∧ Hid ((zs.take k).all (chanOk parts) = true) ∧ Below w.heap.size w wr) (fun i _ => n - (intOf i).toNat)
    case atStart => exact ⟨0, Nat.zero_le _, rfl, by show _ = true; simp, Below.refl _ _⟩
    case round =>
      obtain ⟨k, hk, rfl, HA, hb⟩ := hrel
      by_cases hlt : k < n
      · obtain ⟨b, o, p0, p1, p2, p3, rfl, hbl, hx, g0, g1, g2, g3⟩ := hr.chan hlt
        have j0 := (hb.cell (p := ⟨b, o + k * 4, none⟩) hbl).trans g0
        have j1 := (hb.cell (p := ⟨b, o + k * 4 + 1, none⟩) hbl).trans g1
        have j2 := (hb.cell (p := ⟨b, o + k * 4 + 2, none⟩) hbl).trans g2
        have j3 := (hb.cell (p := ⟨b, o + k * 4 + 3, none⟩) hbl).trans g3
        have HX := Lib.hid hx
        clear g0 g1 g2 g3 hx
        go_wp2_with fail
        refine (l1In_any _ _ _ _).mono ?_
        rintro e _ ⟨rfl, rfl⟩
        generalize h0 : inB p0 _ _ = bb
        cases bb
        · skip
          go_wp2
          go_ret
          exact ⟨by rw [HV.out, all_missB HX.out (chanOk_no (.inl (sizedB_k h0)))]; simp, by first | exact hb | exact hb.alloc hb.size _⟩
        · have Hh0 := Lib.hid h0
          clear h0
          go_wp2_with fail
          refine (l1In_any _ _ _ _).mono ?_
          rintro e _ ⟨rfl, rfl⟩
          generalize h1 : inB p1 _ _ = bb
          cases bb
          · skip
            go_wp2
            go_ret
            exact ⟨by rw [HV.out, all_missB HX.out (chanOk_no (.inr (.inl h1)))]; simp, by first | exact hb | exact hb.alloc hb.size _⟩
          · have Hh1 := Lib.hid h1
            clear h1
            go_wp2_with fail
            refine (l1In_any _ _ _ _).mono ?_
            rintro e _ ⟨rfl, rfl⟩
            generalize h2 : inB p2 _ _ = bb
            cases bb
            · skip
              go_wp2
              go_ret
              exact ⟨by rw [HV.out, all_missB HX.out (chanOk_no (.inr (.inr (.inl h2))))]; simp, by first | exact hb | exact hb.alloc hb.size _⟩
            · have Hh2 := Lib.hid h2
              clear h2
              by_cases h3 : p1 = p2
              · skip
                go_wp2
                go_ret
                exact ⟨by rw [HV.out, all_missB HX.out (chanOk_no (.inr (.inr (.inr h3))))]; simp, by first | exact hb | exact hb.alloc hb.size _⟩
              · have hq3 : (p1 == p2) = false := by simpa using h3
                have H3 := Lib.hid h3
                clear h3
                go_wp2_with fail
                refine (l1In_any _ _ _ _).mono ?_
                rintro e _ ⟨rfl, rfl⟩
                generalize h4 : inB p3 _ _ = bb
                cases bb
                · skip
                  go_wp2
                  go_ret
                  exact ⟨by rw [HV.out, all_missB HX.out (chanOk_no (.inl (sizedB_s h4)))]; simp, by first | exact hb | exact hb.alloc hb.size _⟩
                · have Hh4 := Lib.hid h4
                  clear h4
                  by_cases h5 : p0 = 1
                  · have hq5 : (p0 == 1) = true := by simpa using h5
                    have H5 := Lib.hid h5
                    clear h5
                    by_cases h6 : p3 = 1
                    · have hq6 : (p3 == 1) = true := by simpa using h6
                      have H6 := Lib.hid h6
                      clear h6
                      go_wp2
                      go_roundw
                      case rel => exact ⟨k + 1, by omega, by go_num, all_snocB HX.out HA.out (chanOk_yes (by rw [H5.out, sizedB_1, decide_eq_true H6.out]) Hh1.out Hh2.out H3.out), by first | exact hb | exact hb.alloc hb.size _⟩
                      case measure => simp [intOf]; omega
                    · skip
                      go_wp2
                      go_ret
                      exact ⟨by rw [HV.out, all_missB HX.out (chanOk_no (.inl (by rw [H5.out, sizedB_1, decide_eq_false h6])))]; simp, by first | exact hb | exact hb.alloc hb.size _⟩
                  · skip
                    go_wp2
                    go_roundw
                    case rel => exact ⟨k + 1, by omega, by go_num, all_snocB HX.out HA.out (chanOk_yes (sizedB_y Hh0.out Hh4.out h5) Hh1.out Hh2.out H3.out), by first | exact hb | exact hb.alloc hb.size _⟩
                    case measure => simp [intOf]; omega
      · have hkn : k = n := by omega
        have h9 := HA.out
        rw [hkn, ← hlz.out, List.take_length] at h9
        have H9 := Lib.hid h9
        clear h9
        by_cases h8 : n ≤ 8
        · have hI : (n : Int) ≤ 8 := by omega
          go_wp2_with fail
          refine (l1In_is hp _).mono ?_
          rintro e _ ⟨rfl, rfl⟩
          go_wp2
          go_ret
          exact ⟨by rw [HV.out, H9.out, decide_eq_true h8]; first | rfl | (simp; omega), hb⟩
        · have hI : decide ((n : Int) ≤ 8) = false := by simp; omega
          go_wp2
          go_ret
          exact ⟨by rw [HV.out, decide_eq_false h8]; first | rfl | (simp; omega), hb⟩
theorem sChannelsValid_is {A : Option Addr} {n c : Nat} {zs : List Chan} {parts : Int} {b : Bool} (h : chansOk parts zs = b) (w : World) (hm : n ≤ 1048577) (hr : Rd w 4 A n (chans zs)) :
    Calls Try.prog 26 #[.slice A n c, .int .i64 parts] w fun e w' => e = .returned (.bool b) ∧ Below w.heap.size w w' := h ▸ sChannelsValid_any A n c zs parts w hm hr
set_option maxRecDepth 100000 in
set_option maxHeartbeats 2000000 in
theorem channelsValid1_any (a : Addr) (parts : Int) (w : World) (h0 : 0 ≤ parts) (h5 : parts ≤ 5) (hc : w.cell? a = some (.int .i64 parts)) : Pred Try.prog 63 #[.pointer (some a)] chanV (fun x => !chanOk parts x) w := by
  intro x W hb
  have ha : a.block < w.heap.size := World.block_lt_of_cell? w a hc
  obtain ⟨p0, p1, p2, p3⟩ := x
  have hcW : W.cell? a = some (.int .i64 parts) := (hb.cell ha).trans hc
  have hz := hb.size
  have hk := fun (o : Obj) => keepA hcW o
  have hne : ¬ W.heap.size = a.block := by omega
  show Calls Try.prog 63 #[.agg #[.int .i64 p0, .int .i64 p1, .int .i64 p2, .int .i64 p3], .pointer (some a)] W fun e W' => e = .returned (.bool (!chanOk parts (p0, p1, p2, p3))) ∧ Below W.heap.size W W'
  cases h1 : sizedB p0 p3
  · rw [chanOk_no (.inl h1)]
    go_enter Try.func63, Try.ntmps63
    go_wp2_with fail
    refine (sized_is h1 _).mono ?_
    rintro e _ ⟨rfl, rfl⟩
    go_wp2
    go_ret
    exact ⟨rfl, by go_grown⟩
  · cases h2 : inB p1 0 (parts - 1)
    · rw [chanOk_no (.inr (.inl h2))]
      go_enter Try.func63, Try.ntmps63
      go_wp2_with fail
      refine (sized_is h1 _).mono ?_
      rintro e _ ⟨rfl, rfl⟩
      go_wp2_with fail
      refine (in_is h2 _).mono ?_
      rintro e _ ⟨rfl, rfl⟩
      go_wp2
      go_ret
      exact ⟨rfl, by go_grown⟩
    · cases h3 : inB p2 0 (parts - 1)
      · rw [chanOk_no (.inr (.inr (.inl h3)))]
        go_enter Try.func63, Try.ntmps63
        go_wp2_with fail
        refine (sized_is h1 _).mono ?_
        rintro e _ ⟨rfl, rfl⟩
        go_wp2_with fail
        refine (in_is h2 _).mono ?_
        rintro e _ ⟨rfl, rfl⟩
        go_wp2_with fail
        refine (in_is h3 _).mono ?_
        rintro e _ ⟨rfl, rfl⟩
        go_wp2
        go_ret
        exact ⟨rfl, by go_grown⟩
      · by_cases h4 : p1 = p2
        · rw [chanOk_no (.inr (.inr (.inr h4)))]
          subst h4
          go_enter Try.func63, Try.ntmps63
          go_wp2_with fail
          refine (sized_is h1 _).mono ?_
          rintro e _ ⟨rfl, rfl⟩
          go_wp2_with fail
          refine (in_is h2 _).mono ?_
          rintro e _ ⟨rfl, rfl⟩
          go_wp2_with fail
          refine (in_is h3 _).mono ?_
          rintro e _ ⟨rfl, rfl⟩
          go_wp2
          go_ret
          exact ⟨rfl, by go_grown⟩
        · rw [chanOk_yes h1 h2 h3 h4]
          have hq : (p1 == p2) = false := by simpa using h4
          go_enter Try.func63, Try.ntmps63
          go_wp2_with fail
          refine (sized_is h1 _).mono ?_
          rintro e _ ⟨rfl, rfl⟩
          go_wp2_with fail
          refine (in_is h2 _).mono ?_
          rintro e _ ⟨rfl, rfl⟩
          go_wp2_with fail
          refine (in_is h3 _).mono ?_
          rintro e _ ⟨rfl, rfl⟩
          go_wp2
          go_ret
          exact ⟨rfl, by go_grown⟩
set_option maxRecDepth 100000 in
set_option maxHeartbeats 2000000 in
theorem iChannelsValid_any (A : Option Addr) (n c : Nat) (zs : List Chan) (parts : Int) (w : World) (hm : n ≤ 1048577) (hr : Rd w 4 A n (chans zs)) :
    Calls Try.prog 32 #[.slice A n c, .int .i64 parts] w fun e w' => e = .returned (.bool (chansOk parts zs)) ∧ Below w.heap.size w w' := by
  have hlz := Lib.hid hr.chansLen
  have HV : Hid (chansOk parts zs = (inB parts 0 5 && (decide (n ≤ 8) && zs.all (chanOk parts)))) := by show _ = _; unfold chansOk; rw [hlz.out]
  have HR := Lib.hid hr
  clear hr
  cases hp : inB parts 0 5
  · rw [show chansOk parts zs = false by rw [HV.out, hp]; rfl]
    go_enter Try.func32, Try.ntmps32
    go_wp2_with fail
    refine (in_is hp _).mono ?_
    rintro e _ ⟨rfl, rfl⟩
    go_wp2
    go_ret
    exact ⟨rfl, by go_grown⟩
  · obtain ⟨hp0, hp1⟩ := inB_true.1 hp
    by_cases h8 : n ≤ 8
    · have hI : (n : Int) ≤ 8 := by omega
      rw [show chansOk parts zs = !(zs.any fun x => !chanOk parts x) by rw [HV.out, hp, decide_eq_true h8, List.all_eq_not_any_not]; rfl]
      go_enter Try.func32, Try.ntmps32
      go_wp2_with fail
      refine (in_is hp _).mono ?_
      rintro e _ ⟨rfl, rfl⟩
      go_wp2_with fail
      refine (ContainsFuncChannel_any 63 _ (fun x => !chanOk parts x) A n c zs _ hm (HR.out.alloc _) (channelsValid1_any _ parts _ hp0 hp1 (by simp [go_sem])) (enters_of Try.func63 (by kernel_rfl) rfl)).mono ?_
      rintro e w1 ⟨rfl, hb1⟩
      have HB1 : Hid (Below w.heap.size w w1) := Below.andThen (by go_grown) hb1
      clear hb1
      go_wp2
      go_ret
      exact ⟨rfl, HB1.out⟩
    · have hI : decide ((n : Int) ≤ 8) = false := by simp; omega
      rw [show chansOk parts zs = false by rw [HV.out, decide_eq_false h8]; simp]
      go_enter Try.func32, Try.ntmps32
      go_wp2_with fail
      refine (in_is hp _).mono ?_
      rintro e _ ⟨rfl, rfl⟩
      go_wp2
      go_ret
      exact ⟨rfl, by go_grown⟩
theorem iChannelsValid_is {A : Option Addr} {n c : Nat} {zs : List Chan} {parts : Int} {b : Bool} (h : chansOk parts zs = b) (w : World) (hm : n ≤ 1048577) (hr : Rd w 4 A n (chans zs)) :
    Calls Try.prog 32 #[.slice A n c, .int .i64 parts] w fun e w' => e = .returned (.bool b) ∧ Below w.heap.size w w' := h ▸ iChannelsValid_any A n c zs parts w hm hr
end Go.Proofs.Ytlckjhbgdbhdmaa
