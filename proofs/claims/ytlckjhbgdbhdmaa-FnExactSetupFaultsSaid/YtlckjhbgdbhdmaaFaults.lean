/-
  FAULTS OF A SETUP: plain laws, and the contracts of the program's slotless, tight, twice.
  Conditions: none beyond those that each states.
-/
import Derived.Test.YtlckjhbgdbhdmaaNums3
import Derived.Test.YtlckjhbgdbhdmaaTicks2
import Derived.Deep.RegionHeld3
import Derived.IntWalk
namespace Go.Proofs.Ytlckjhbgdbhdmaa
open Go.ChangeShapes Go.WideShapes Go.ChangeAt Go.RowKit Go.Joins
set_option linter.unusedVariables false

/-- partition p has a slot -/
def hasRow (ss : List Slot2) (p : Nat) : Bool := ss.any (fun x => x.1 == (p : Int))
def hasAll (n : Nat) (ss : List Slot2) : Bool := (List.range n).all (hasRow ss)
def tightAt (a b : Int) : Bool := decide (0 ≤ a) && (decide (0 ≤ b) && !decide (a = b))
/-- slot k and the next one do not follow each other too closely -/
def calmRow (ss : List Slot2) (k : Nat) : Bool := match ss[k]?, ss[(k + 1) % ss.length]? with | some x, some y => !tightAt x.1 y.1 | _, _ => true
def calmAll (ss : List Slot2) : Bool := (List.range ss.length).all (calmRow ss)
def sameCh (c d : Chan) : Bool := decide (c.1 = d.1) && (decide (c.2.1 = d.2.1) && decide (c.2.2.1 = d.2.2.1))
def uniqRow (cs : List Chan) (j : Nat) : Bool := match cs[j]? with | some c => !(cs.take j).any (sameCh c) | none => true
def uniqAll (cs : List Chan) : Bool := (List.range cs.length).all (uniqRow cs)
/-- the places, from k + 1 on, at which a list says yes -/
def yesAt : Int → List Bool → List Int
  | _, [] => []
  | k, b :: bs => if b then (k + 1) :: yesAt (k + 1) bs else yesAt (k + 1) bs
theorem yesAt_app : ∀ (bs cs : List Bool) (k : Int), yesAt k (bs ++ cs) = yesAt k bs ++ yesAt (k + (bs.length : Int)) cs
  | [], cs, k => by simp [yesAt]
  | b :: bs, cs, k => by
    have e : k + ((b :: bs).length : Int) = k + 1 + (bs.length : Int) := by rw [List.length_cons]; omega
    rw [List.cons_append, yesAt, yesAt, yesAt_app bs cs (k + 1), e]
    cases b <;> simp
theorem yesAt_len : ∀ (bs : List Bool) (k : Int), (yesAt k bs).length ≤ bs.length
  | [], _ => by simp [yesAt]
  | b :: bs, k => by
    have := yesAt_len bs (k + 1)
    rw [yesAt]
    cases b <;> simp <;> omega
theorem yesAt_yes {bs : List Bool} {j : Nat} (h : bs[j]? = some true) (hl : j ≤ bs.length) : yesAt 0 (bs.take (j + 1)) = yesAt 0 (bs.take j) ++ [(j : Int) + 1] := by
  rw [take_snoc h, yesAt_app, List.length_take, Nat.min_eq_left hl]; simp [yesAt]
theorem yesAt_no {bs : List Bool} {j : Nat} (h : bs[j]? = some false) : yesAt 0 (bs.take (j + 1)) = yesAt 0 (bs.take j) := by
  rw [take_snoc h, yesAt_app]; simp [yesAt]
def faultBs (ps : List PartL) (cs : List Chan) (ss : List Slot2) : List Bool := [!apartB ps, !hasAll ps.length ss, !calmAll ss, !uniqAll cs]
def faultsL (ps : List PartL) (cs : List Chan) (ss : List Slot2) : List Int := if setupOk ps cs ss = true then yesAt 0 (faultBs ps cs ss) else []
theorem faultsL_len (ps : List PartL) (cs : List Chan) (ss : List Slot2) : (faultsL ps cs ss).length ≤ 4 := by
  unfold faultsL
  split
  · exact yesAt_len _ _
  · simp
theorem calmRow_at {ss : List Slot2} {k : Nat} {x y : Slot2} (hx : ss[k]? = some x) (hy : ss[(k + 1) % ss.length]? = some y) : calmRow ss k = !tightAt x.1 y.1 := by
  unfold calmRow; rw [hx, hy]
theorem uniqRow_at {cs : List Chan} {j : Nat} {c : Chan} (hc : cs[j]? = some c) : uniqRow cs j = !(cs.take j).any (sameCh c) := by
  unfold uniqRow; rw [hc]
theorem mem_frame {zs : Slots} (h : ticksOk zs) (p : Int) : p ∈ frameL zs ↔ ∃ x ∈ zs, x.1 = p := by
  unfold frameL
  rw [List.mem_flatMap]
  constructor
  · rintro ⟨x, hx, hp⟩
    exact ⟨x, hx, (List.eq_of_mem_replicate hp).symm⟩
  · rintro ⟨x, hx, rfl⟩
    refine ⟨x, hx, List.mem_replicate.2 ⟨?_, rfl⟩⟩
    obtain ⟨k, hk⟩ := List.getElem?_of_mem hx
    have := (h k x.1 x.2 hk).1
    omega
theorem turnL_zero (zs : Slots) : turnL zs 0 = frameL zs := by
  apply List.ext_getElem?
  intro j
  by_cases hj : j < (frameL zs).length
  · rw [turnL_at rfl hj (r := j) (by rw [Int.zero_add]; exact Int.emod_eq_of_lt (by omega) (by omega)), frame_at rfl hj]
  · rw [List.getElem?_eq_none (by rw [turnL_len]; omega), List.getElem?_eq_none (by omega)]
theorem nextV_neg {zs : Slots} (h : ticksOk zs) (p : Nat) : decide (nextV zs (p : Int) 0 < 0) = !hasRow zs p := by
  have h1 := idxP_any (fun v => v == (p : Int)) (turnL zs 0)
  rw [turnL_zero] at h1
  have h2 : (frameL zs).any (fun v => v == (p : Int)) = hasRow zs p := by
    rw [Bool.eq_iff_iff]
    unfold hasRow
    simp only [List.any_eq_true, beq_iff_eq]
    constructor
    · rintro ⟨x, hx, rfl⟩
      obtain ⟨y, hy, hp⟩ := (mem_frame h _).1 hx
      exact ⟨y, hy, hp⟩
    · rintro ⟨y, hy, hp⟩
      exact ⟨_, (mem_frame h _).2 ⟨y, hy, hp⟩, rfl⟩
  rw [← h2, ← h1]
  unfold nextV
  rw [turnL_zero]
  by_cases h3 : idxP (fun v => v == (p : Int)) (frameL zs) < 0
  · rw [if_pos h3]
    have : ¬ 0 ≤ idxP (fun v => v == (p : Int)) (frameL zs) := by omega
    simp [this]
  · rw [if_neg h3]
    have : 0 ≤ idxP (fun v => v == (p : Int)) (frameL zs) := by omega
    simp [this]
theorem Rd.rowsPre {α : Type} {f : α → List Value} {s : Nat} {w : World} {A : Option Addr} {n k : Nat} {xs : List α} (h : Rd w s A n (xs.flatMap f)) (hf : ∀ x, (f x).length = s) (hs : 0 < s) (hk : k ≤ n) : Rd w s A k ((xs.take k).flatMap f) := by
  have hl := h.rowsLen hf hs
  refine ⟨by rw [rows_len hf, List.length_take, Nat.min_eq_left (by omega)], fun h0 => ?_⟩
  obtain ⟨b, o, e, hb, hc⟩ := h.2 (by omega)
  refine ⟨b, o, e, hb, fun j u hu => hc j u ?_⟩
  have hj := (List.getElem?_eq_some_iff.1 hu).1
  rw [← List.take_append_drop k xs, List.flatMap_append, List.getElem?_append_left hj]
  exact hu
theorem bools_at {bs : List Bool} {w : World} {A : Option Addr} {n k : Nat} (h : Rd w 1 A n (bs.map Value.bool)) (hk : k < n) : ∃ b o x, A = some ⟨b, o, none⟩ ∧ b < w.heap.size ∧ bs[k]? = some x ∧ w.cell? ⟨b, o + k, none⟩ = some (.bool x) := by
  obtain ⟨b, o, u, hA, hb, hu, hc⟩ := h.at_ hk
  rw [List.getElem?_map] at hu
  obtain ⟨x, hx, rfl⟩ := Option.map_eq_some_iff.1 hu
  exact ⟨b, o, x, hA, hb, hx, hc⟩
set_option maxRecDepth 100000 in
set_option maxHeartbeats 1000000 in
theorem slotless1_any (a : Addr) (v : Int) (w : World) (hc : w.cell? a = some (.int .i64 v)) : Pred Try.prog 74 #[.pointer (some a)] slotV (fun x => x.1 == v) w := by
  intro x W hb
  have ha : a.block < w.heap.size := World.block_lt_of_cell? w a hc
  obtain ⟨p0, p1⟩ := x
  have hcW : W.cell? a = some (.int .i64 v) := (hb.cell ha).trans hc
  have hz := hb.size
  have hk := fun (o : Obj) => keepA hcW o
  show Calls Try.prog 74 #[.agg #[.int .i64 p0, .int .i64 p1], .pointer (some a)] W fun e W' => e = .returned (.bool (p0 == v)) ∧ Below W.heap.size W W'
  by_cases hv : p0 = v
  · have e1 : (p0 == v) = true := by simpa using hv
    rw [e1]
    go_enter Try.func74, Try.ntmps74
    go_wp2
    go_ret
    exact ⟨by first | rfl | simp [e1], by go_grown⟩
  · have e1 : (p0 == v) = false := by simpa using hv
    rw [e1]
    go_enter Try.func74, Try.ntmps74
    go_wp2
    go_ret
    exact ⟨by first | rfl | simp [e1], by go_grown⟩
set_option maxRecDepth 100000 in
set_option maxHeartbeats 4000000 in
theorem slotless_any (A : Option Addr) (n c : Nat) (ps : List PartL) (B : Option Addr) (m d : Nat) (cs : List Chan) (C : Option Addr) (q e0 : Nat) (ss : List Slot2) (w : World) (hn : n ≤ 5) (hq : q ≤ 12) (hr : Rd_set w A n ps B m cs C q ss) :
    Calls Try.prog 40 #[.agg #[.slice A n c, .slice B m d, .slice C q e0]] w fun e w' => e = .returned (.bool (!hasAll n ss)) ∧ Below w.heap.size w w' := by
  have HR := Lib.hid hr
  clear hr
  go_enter Try.func40, Try.ntmps40
  go_wp2
  go_loopw [7] (fun i wr => ∃ (k : Nat), k ≤ n ∧ i = .int .i64 k ∧ Hid ((List.range k).all (hasRow ss) = true) ∧ Hid (Blk wr w.heap.size 33 #[.slice A n c, .slice B m d, .slice C q e0]) ∧ Hid (Below w.heap.size w wr)) (fun i _ => n - (intOf i).toNat)
  case atStart => exact ⟨0, Nat.zero_le _, rfl, by show _ = true; simp, Blk.at_ _ _ _ rfl, (Below.refl _ _).alloc (Nat.le_refl _) _⟩
  case round =>
    obtain ⟨k, hk, rfl, HA, qb, HB⟩ := hrel
    obtain ⟨wo, rfl⟩ : ∃ wo : World, wo = wr := ⟨_, rfl⟩
    by_cases hlt : k < n
    · have kb_2 : wo.cell? ⟨w.heap.size, 2, none⟩ = some (.slice C q e0) := qb.out.cell 2 rfl
      have lb := qb.out.lt
      have hs0 := HB.out.size
      cases hv : ss.any (fun x => x.1 == (k : Int))
      · have HV := Lib.hid hv
        go_wp2_with fail
        refine (ContainsFuncSlot_any 74 _ (fun x => x.1 == (k : Int)) C q e0 ss _ (by omega) (HR.out.s.below (Nat.le_refl _) (HB.out.alloc hs0 _)) (slotless1_any _ (k : Int) _ (by simp [go_sem])) (enters_of Try.func74 (by kernel_rfl) rfl)).mono ?_
        rw [hv]
        rintro e w1 ⟨rfl, hb1⟩
        have HB1 : Hid (Below w.heap.size w w1) := Below.andThen (HB.out.alloc hs0 _) hb1
        clear hb1 hv kb_2 lb
        go_wp2
        go_ret
        exact ⟨by rw [show hasAll n ss = false from range_miss hlt HV.out] <;> rfl, HB1.out⟩
      · have HV := Lib.hid hv
        go_wp2_with fail
        refine (ContainsFuncSlot_any 74 _ (fun x => x.1 == (k : Int)) C q e0 ss _ (by omega) (HR.out.s.below (Nat.le_refl _) (HB.out.alloc hs0 _)) (slotless1_any _ (k : Int) _ (by simp [go_sem])) (enters_of Try.func74 (by kernel_rfl) rfl)).mono ?_
        rw [hv]
        rintro e w1 ⟨rfl, hb1⟩
        have HB1 : Hid (Below w.heap.size w w1) := Below.andThen (HB.out.alloc hs0 _) hb1
        have qb1 : Hid (Blk w1 w.heap.size 33 #[.slice A n c, .slice B m d, .slice C q e0]) := (qb.out.alloc _).below (Nat.le_refl _) hb1
        clear hb1 hv kb_2 lb
        go_wp2
        go_roundw
        case rel => exact ⟨k + 1, by omega, by go_num, range_snoc HA.out HV.out, qb1, HB1⟩
        case measure => simp [intOf]; omega
    · have hkn : k = n := by omega
      have h9 := HA.out
      rw [hkn] at h9
      have H9 := Lib.hid h9
      clear h9
      go_wp2
      go_ret
      exact ⟨by rw [show hasAll n ss = true from H9.out] <;> rfl, HB.out⟩
set_option maxRecDepth 100000 in
set_option maxHeartbeats 1000000 in
theorem twice1_any (g : Nat) (c : Chan) (w : World) (hc : Blk w g 60 #[.int .i64 c.1, .int .i64 c.2.1, .int .i64 c.2.2.1, .int .i64 c.2.2.2]) : Pred Try.prog 75 #[.pointer (some ⟨g, 0, none⟩)] chanV (sameCh c) w := by
  intro x W hb
  obtain ⟨p0, p1, p2, p3⟩ := x
  obtain ⟨c0, c1, c2, c3⟩ := c
  have HC : Hid (Blk W g 60 #[.int .i64 c0, .int .i64 c1, .int .i64 c2, .int .i64 c3]) := hc.below (Nat.le_refl _) hb
  have k0 : W.cell? ⟨g, 0, none⟩ = some (.int .i64 c0) := HC.out.cell 0 rfl
  have k1 : W.cell? ⟨g, 1, none⟩ = some (.int .i64 c1) := HC.out.cell 1 rfl
  have k2 : W.cell? ⟨g, 2, none⟩ = some (.int .i64 c2) := HC.out.cell 2 rfl
  have l0 := HC.out.lt
  clear hc
  show Calls Try.prog 75 #[.agg #[.int .i64 p0, .int .i64 p1, .int .i64 p2, .int .i64 p3], .pointer (some ⟨g, 0, none⟩)] W fun e W' => e = .returned (.bool (sameCh (c0, c1, c2, c3) (p0, p1, p2, p3))) ∧ Below W.heap.size W W'
  by_cases h0 : c0 = p0
  · by_cases h1 : c1 = p1
    · by_cases h2 : c2 = p2
      · have e1 : sameCh (c0, c1, c2, c3) (p0, p1, p2, p3) = true := by simp [sameCh, h0, h1, h2]
        rw [e1]
        clear e1
        subst h0 h1 h2
        go_enter Try.func75, Try.ntmps75
        go_wp2
        go_ret
        exact ⟨by first | rfl | simp, by go_grown⟩
      · have e1 : sameCh (c0, c1, c2, c3) (p0, p1, p2, p3) = false := by simp [sameCh, h2]
        rw [e1]
        clear e1
        subst h0 h1
        have e2 : (c2 == p2) = false := by simpa using h2
        go_enter Try.func75, Try.ntmps75
        go_wp2
        go_ret
        exact ⟨by first | rfl | simp [e2], by go_grown⟩
    · have e1 : sameCh (c0, c1, c2, c3) (p0, p1, p2, p3) = false := by simp [sameCh, h1]
      rw [e1]
      clear e1
      subst h0
      have e2 : (c1 == p1) = false := by simpa using h1
      go_enter Try.func75, Try.ntmps75
      go_wp2
      go_ret
      exact ⟨by first | rfl | simp [e2], by go_grown⟩
  · have e1 : sameCh (c0, c1, c2, c3) (p0, p1, p2, p3) = false := by simp [sameCh, h0]
    rw [e1]
    clear e1
    have e2 : (c0 == p0) = false := by simpa using h0
    go_enter Try.func75, Try.ntmps75
    go_wp2
    go_ret
    exact ⟨by first | rfl | simp [e2], by go_grown⟩
set_option maxRecDepth 100000 in
set_option maxHeartbeats 4000000 in
theorem twice_any (A : Option Addr) (n c : Nat) (ps : List PartL) (B : Option Addr) (m d : Nat) (cs : List Chan) (C : Option Addr) (q e0 : Nat) (ss : List Slot2) (w : World) (hm : m ≤ 8) (hmd : m ≤ d) (hr : Rd_set w A n ps B m cs C q ss) :
    Calls Try.prog 42 #[.agg #[.slice A n c, .slice B m d, .slice C q e0]] w fun e w' => e = .returned (.bool (!uniqAll cs)) ∧ Below w.heap.size w w' := by
  have HR := Lib.hid hr
  have hlc := Lib.hid hr.c.chansLen
  clear hr
  go_enter Try.func42, Try.ntmps42
  go_wp2
  go_loopw [8] (fun i wr => ∃ (k : Nat), k ≤ m ∧ i = .int .i64 k ∧ Hid ((List.range k).all (uniqRow cs) = true) ∧ Hid (Blk wr w.heap.size 33 #[.slice A n c, .slice B m d, .slice C q e0]) ∧ Hid (Below w.heap.size w wr)) (fun i _ => m - (intOf i).toNat)
  case atStart => exact ⟨0, Nat.zero_le _, rfl, by show _ = true; simp, Blk.at_ _ _ _ rfl, (Below.refl _ _).alloc (Nat.le_refl _) _⟩
  case round =>
    obtain ⟨k, hk, rfl, HA, qb, HB⟩ := hrel
    obtain ⟨wo, rfl⟩ : ∃ wo : World, wo = wr := ⟨_, rfl⟩
    by_cases hlt : k < m
    · obtain ⟨b3, o3, p0, p1, p2, p3, rfl, hbl3, hwx, f0, f1, f2, f3⟩ := HR.out.c.chan hlt
      have kb_1 : wo.cell? ⟨w.heap.size, 1, none⟩ = some (.slice (some ⟨b3, o3, none⟩) m d) := qb.out.cell 1 rfl
      have lb := qb.out.lt
      have hs0 := HB.out.size
      have d0 := (HB.out.cell (p := ⟨b3, o3 + k * 4, none⟩) hbl3).trans f0
      have d1 := (HB.out.cell (p := ⟨b3, o3 + k * 4 + 1, none⟩) hbl3).trans f1
      have d2 := (HB.out.cell (p := ⟨b3, o3 + k * 4 + 2, none⟩) hbl3).trans f2
      have d3 := (HB.out.cell (p := ⟨b3, o3 + k * 4 + 3, none⟩) hbl3).trans f3
      have HX := Lib.hid hwx
      have hkc : (k : Int) ≤ (d : Int) := by omega
      clear f0 f1 f2 f3 hwx
      cases hv : (cs.take k).any (sameCh (p0, p1, p2, p3))
      · have HV := Lib.hid hv
        go_wp2_with fail
        refine (ContainsFuncChannel_any 75 _ (sameCh (p0, p1, p2, p3)) (some ⟨b3, o3, none⟩) k _ (cs.take k) _ (by omega) (Rd.rowsPre (f := chanC) (HR.out.c.below (Nat.le_refl _) (HB.out.alloc hs0 _)) chanC_len (by omega) hk) (twice1_any wo.heap.size (p0, p1, p2, p3) _ (Blk.at_ _ _ _ rfl)) (enters_of Try.func75 (by kernel_rfl) rfl)).mono ?_
        rw [hv]
        rintro e w1 ⟨rfl, hb1⟩
        have HB1 : Hid (Below w.heap.size w w1) := Below.andThen (HB.out.alloc hs0 _) hb1
        have qb1 : Hid (Blk w1 w.heap.size 33 #[.slice A n c, .slice (some ⟨b3, o3, none⟩) m d, .slice C q e0]) := (qb.out.alloc _).below (Nat.le_refl _) hb1
        clear hb1 hv kb_1 lb d0 d1 d2 d3
        go_wp2
        go_roundw
        case rel => exact ⟨k + 1, by omega, by go_num, range_snoc HA.out (by rw [uniqRow_at HX.out, HV.out]; rfl), qb1, HB1⟩
        case measure => simp [intOf]; omega
      · have HV := Lib.hid hv
        go_wp2_with fail
        refine (ContainsFuncChannel_any 75 _ (sameCh (p0, p1, p2, p3)) (some ⟨b3, o3, none⟩) k _ (cs.take k) _ (by omega) (Rd.rowsPre (f := chanC) (HR.out.c.below (Nat.le_refl _) (HB.out.alloc hs0 _)) chanC_len (by omega) hk) (twice1_any wo.heap.size (p0, p1, p2, p3) _ (Blk.at_ _ _ _ rfl)) (enters_of Try.func75 (by kernel_rfl) rfl)).mono ?_
        rw [hv]
        rintro e w1 ⟨rfl, hb1⟩
        have HB1 : Hid (Below w.heap.size w w1) := Below.andThen (HB.out.alloc hs0 _) hb1
        clear hb1 hv kb_1 lb d0 d1 d2 d3
        go_wp2
        go_ret
        exact ⟨by rw [show uniqAll cs = false from range_miss (by rw [hlc.out]; exact hlt) (by rw [uniqRow_at HX.out, HV.out]; rfl)] <;> rfl, HB1.out⟩
    · have hkn : k = m := by omega
      have h9 := HA.out
      rw [hkn, ← hlc.out] at h9
      have H9 := Lib.hid h9
      clear h9
      go_wp2
      go_ret
      exact ⟨by rw [show uniqAll cs = true from H9.out] <;> rfl, HB.out⟩
set_option maxRecDepth 100000 in
set_option maxHeartbeats 4000000 in
theorem tight_any (A : Option Addr) (n c : Nat) (ps : List PartL) (B : Option Addr) (m d : Nat) (cs : List Chan) (C : Option Addr) (q e0 : Nat) (ss : List Slot2) (w : World) (hq : q ≤ 12) (hr : Rd_set w A n ps B m cs C q ss) :
    Calls Try.prog 41 #[.agg #[.slice A n c, .slice B m d, .slice C q e0]] w fun e w' => e = .returned (.bool (!calmAll ss)) ∧ Below w.heap.size w w' := by
  have HR := Lib.hid hr
  have hls := Lib.hid hr.s.slotsLen
  clear hr
  go_enter Try.func41, Try.ntmps41
  go_wp2
  go_loopw [9] (fun i wr => ∃ (k : Nat), k ≤ q ∧ i = .int .i64 k ∧ Hid ((List.range k).all (calmRow ss) = true) ∧ Hid (Blk wr w.heap.size 33 #[.slice A n c, .slice B m d, .slice C q e0]) ∧ Hid (Below w.heap.size w wr)) (fun i _ => q - (intOf i).toNat)
  case atStart => exact ⟨0, Nat.zero_le _, rfl, by show _ = true; simp, Blk.at_ _ _ _ rfl, (Below.refl _ _).alloc (Nat.le_refl _) _⟩
  case round =>
    obtain ⟨k, hk, rfl, HA, qb, HB⟩ := hrel
    obtain ⟨wo, rfl⟩ : ∃ wo : World, wo = wr := ⟨_, rfl⟩
    by_cases hlt : k < q
    · obtain ⟨b4, o4, p0, p1, rfl, hbl4, hwx, f0, f1⟩ := HR.out.s.slot hlt
      obtain ⟨r, hrr, hrq⟩ : ∃ r : Nat, r = (k + 1) % q ∧ r < q := ⟨_, rfl, Nat.mod_lt _ (by omega)⟩
      obtain ⟨b5, o5, y0, y1, hAe, hbl5, hwy, g0, g1⟩ := HR.out.s.slot hrq
      injection hAe with hAe
      injection hAe with e1 e2
      subst e1 e2
      have kb_2 : wo.cell? ⟨w.heap.size, 2, none⟩ = some (.slice (some ⟨b4, o4, none⟩) q e0) := qb.out.cell 2 rfl
      have lb := qb.out.lt
      have hs0 := HB.out.size
      have d0 := (HB.out.cell (p := ⟨b4, o4 + k * 2, none⟩) hbl4).trans f0
      have d1 := (HB.out.cell (p := ⟨b4, o4 + k * 2 + 1, none⟩) hbl4).trans f1
      have j0 := (HB.out.cell (p := ⟨b4, o4 + r * 2, none⟩) hbl4).trans g0
      have j1 := (HB.out.cell (p := ⟨b4, o4 + r * 2 + 1, none⟩) hbl4).trans g1
      have HT : Hid (calmRow ss k = !tightAt p0 y0) := calmRow_at (x := (p0, p1)) (y := (y0, y1)) hwx (by rw [hls.out, ← hrr]; exact hwy)
      have htm : ((k : Int) + 1).tmod (q : Int) = (r : Int) := by rw [Int.tmod_eq_emod_of_nonneg (by omega), hrr, Int.natCast_emod]; rfl
      have hwr : IntKind.i64.wrap ((k : Int) + 1) = (k : Int) + 1 := IntWalk.i64_in _ (by omega)
      have hr0 : (0 : Int) ≤ (r : Int) := by omega
      have hr1 : (r : Int) < (q : Int) := by omega
      have hq0 : ((q : Int) == 0) = false := by simp; omega
      have hq1 : ¬ q = 0 := by omega
      have hwr2 : IntKind.i64.wrap (r : Int) = (r : Int) := IntWalk.i64_in _ (by omega)
      clear f0 f1 g0 g1 hwx hwy hrr
      by_cases ha : 0 ≤ p0
      · by_cases hb : 0 ≤ y0
        · by_cases he : p0 = y0
          · have HTA : Hid (tightAt p0 y0 = false) := by show _ = _; simp [tightAt, he]
            obtain rfl : y0 = p0 := he.symm
            go_wp2
            go_region_held3 (fun w' => w'.cell? ⟨w.heap.size, 2, none⟩ = some (.slice (some ⟨b4, o4, none⟩) q e0) ∧ w'.cell? ⟨b4, o4 + r * 2, none⟩ = some (.int .i64 y0) ∧ w'.cell? ⟨b4, o4 + r * 2 + 1, none⟩ = some (.int .i64 y1)) (refine ⟨?_, ?_, ?_⟩ <;> (repeat' (first | with_reducible exact kb_2 | with_reducible exact j0 | with_reducible exact j1 | (with_reducible refine keepS ?_ (by dsimp only; first | exact Nat.ne_of_lt (by assumption) | omega) _) | with_reducible refine keepA ?_ _ | with_reducible refine keepD ?_))) (fail)
            all_goals
              clear j0 j1 d0 d1 kb_2
              go_wp2
              go_roundw
              case rel => exact ⟨k + 1, by omega, by go_num, range_snoc HA.out (by rw [HT.out, HTA.out]; rfl), by first | exact ((qb.out.alloc _).alloc _) | exact ((qb.out.alloc _).drew.alloc _) | exact ((qb.out.alloc _).alloc _).drew, by first | exact ((HB.out.alloc hs0 _).alloc (by simp; omega) _) | exact ((HB.out.alloc hs0 _).alloc (by simp; omega) _).drew⟩
              case measure => simp [intOf]; omega
          · have HTA : Hid (tightAt p0 y0 = true) := by show _ = _; simp [tightAt, ha, hb, he]
            have he2 : (p0 != y0) = true := by simpa using he
            go_wp2
            go_region_held3 (fun w' => w'.cell? ⟨w.heap.size, 2, none⟩ = some (.slice (some ⟨b4, o4, none⟩) q e0) ∧ w'.cell? ⟨b4, o4 + r * 2, none⟩ = some (.int .i64 y0) ∧ w'.cell? ⟨b4, o4 + r * 2 + 1, none⟩ = some (.int .i64 y1)) (refine ⟨?_, ?_, ?_⟩ <;> (repeat' (first | with_reducible exact kb_2 | with_reducible exact j0 | with_reducible exact j1 | (with_reducible refine keepS ?_ (by dsimp only; first | exact Nat.ne_of_lt (by assumption) | omega) _) | with_reducible refine keepA ?_ _ | with_reducible refine keepD ?_))) (fail)
            all_goals
              clear j0 j1 d0 d1 kb_2
              go_wp2
              go_ret
              exact ⟨by rw [show calmAll ss = false from range_miss (by rw [hls.out]; exact hlt) (by rw [HT.out, HTA.out]; rfl)] <;> rfl, by first | exact ((HB.out.alloc hs0 _).alloc (by simp; omega) _) | exact ((HB.out.alloc hs0 _).alloc (by simp; omega) _).drew⟩
        · have HTA : Hid (tightAt p0 y0 = false) := by show _ = _; simp [tightAt, hb]
          go_wp2
          go_region_held3 (fun w' => w'.cell? ⟨w.heap.size, 2, none⟩ = some (.slice (some ⟨b4, o4, none⟩) q e0) ∧ w'.cell? ⟨b4, o4 + r * 2, none⟩ = some (.int .i64 y0) ∧ w'.cell? ⟨b4, o4 + r * 2 + 1, none⟩ = some (.int .i64 y1)) (refine ⟨?_, ?_, ?_⟩ <;> (repeat' (first | with_reducible exact kb_2 | with_reducible exact j0 | with_reducible exact j1 | (with_reducible refine keepS ?_ (by dsimp only; first | exact Nat.ne_of_lt (by assumption) | omega) _) | with_reducible refine keepA ?_ _ | with_reducible refine keepD ?_))) (fail)
          all_goals
            clear j0 j1 d0 d1 kb_2
            go_wp2
            go_roundw
            case rel => exact ⟨k + 1, by omega, by go_num, range_snoc HA.out (by rw [HT.out, HTA.out]; rfl), by first | exact ((qb.out.alloc _).alloc _) | exact ((qb.out.alloc _).drew.alloc _) | exact ((qb.out.alloc _).alloc _).drew, by first | exact ((HB.out.alloc hs0 _).alloc (by simp; omega) _) | exact ((HB.out.alloc hs0 _).alloc (by simp; omega) _).drew⟩
            case measure => simp [intOf]; omega
      · have HTA : Hid (tightAt p0 y0 = false) := by show _ = _; simp [tightAt, ha]
        go_wp2
        go_region_held3 (fun w' => w'.cell? ⟨w.heap.size, 2, none⟩ = some (.slice (some ⟨b4, o4, none⟩) q e0) ∧ w'.cell? ⟨b4, o4 + r * 2, none⟩ = some (.int .i64 y0) ∧ w'.cell? ⟨b4, o4 + r * 2 + 1, none⟩ = some (.int .i64 y1)) (refine ⟨?_, ?_, ?_⟩ <;> (repeat' (first | with_reducible exact kb_2 | with_reducible exact j0 | with_reducible exact j1 | (with_reducible refine keepS ?_ (by dsimp only; first | exact Nat.ne_of_lt (by assumption) | omega) _) | with_reducible refine keepA ?_ _ | with_reducible refine keepD ?_))) (fail)
        all_goals
          clear j0 j1 d0 d1 kb_2
          go_wp2
          go_roundw
          case rel => exact ⟨k + 1, by omega, by go_num, range_snoc HA.out (by rw [HT.out, HTA.out]; rfl), by first | exact ((qb.out.alloc _).alloc _) | exact ((qb.out.alloc _).drew.alloc _) | exact ((qb.out.alloc _).alloc _).drew, by first | exact ((HB.out.alloc hs0 _).alloc (by simp; omega) _) | exact ((HB.out.alloc hs0 _).alloc (by simp; omega) _).drew⟩
          case measure => simp [intOf]; omega
    · have hkn : k = q := by omega
      have h9 := HA.out
      rw [hkn, ← hls.out] at h9
      have H9 := Lib.hid h9
      clear h9
      go_wp2
      go_ret
      exact ⟨by rw [show calmAll ss = true from H9.out] <;> rfl, HB.out⟩
end Go.Proofs.Ytlckjhbgdbhdmaa
