/-
  CONTRACTS of the padding functions with needs.
  Conditions: none beyond those that each states.
-/
import Derived.Test.YtjdhfehffgccmaaPad
namespace Go.Proofs.Ytjdhfehffgccmaa
open Go.ChangeShapes Go.WideShapes Go.ChangeAt Go.RowKit Go.Joins
set_option linter.unusedVariables false

def needOk (ts ns : List Int) : Bool := padOk ts && (decide (ts.length = ns.length) && ns.all (fun z => decide (0 ≤ z)))
def lesser (x y : Int) : Int := if y < x then y else x
def runsOf (ts ns : List Int) : List Int := List.zipWith lesser ts ns
def padRuns (ts ns : List Int) : List Int := if needOk ts ns = true then runsOf ts ns else []
def plainStarts (ts ns : List Int) : List Int := startsOf 0 (padRuns ts ns)
def padWaste (ts ns : List Int) : Int := if needOk ts ns = true then sumOf ts - sumOf (runsOf ts ns) else 0

theorem needOk_parts {ts ns : List Int} (h : needOk ts ns = true) : padOk ts = true ∧ ts.length = ns.length ∧ ns.all (fun z => decide (0 ≤ z)) = true := by
  unfold needOk at h
  simp only [Bool.and_eq_true] at h
  exact ⟨h.1, of_decide_eq_true h.2.1, h.2.2⟩
theorem runsOf_len {ts ns : List Int} (h : ts.length = ns.length) : (runsOf ts ns).length = ts.length := by simp [runsOf, h]
theorem runsOf_at {ts ns : List Int} {k : Nat} {x y : Int} (hx : ts[k]? = some x) (hy : ns[k]? = some y) : (runsOf ts ns)[k]? = some (if y < x then y else x) := by
  show _ = some (lesser x y)
  simp [runsOf, List.getElem?_zipWith, hx, hy]
theorem all0_at {ns : List Int} (h : ns.all (fun z => decide (0 ≤ z)) = true) {k : Nat} {x : Int} (hx : ns[k]? = some x) : 0 ≤ x := by
  have := List.all_eq_true.1 h x (List.mem_of_getElem? hx)
  simpa using this
theorem runs_bd {ts ns : List Int} (h : needOk ts ns = true) : ∀ (k : Nat) (x : Int), (runsOf ts ns)[k]? = some x → 0 ≤ x ∧ x ≤ 20 := by
  intro k x hx
  obtain ⟨h1, h2, h3⟩ := needOk_parts h
  have hl : k < ts.length := by have := (List.getElem?_eq_some_iff.1 hx).1; rwa [runsOf_len h2] at this
  have e1 := List.getElem?_eq_getElem hl
  have e2 := List.getElem?_eq_getElem (show k < ns.length by omega)
  rw [runsOf_at e1 e2] at hx
  injection hx with hx
  have b1 := padOk_at h1 e1
  have b2 := all0_at h3 e2
  split at hx <;> omega
theorem padRuns_len (ts ns : List Int) : (padRuns ts ns).length ≤ 12 := by
  unfold padRuns
  split
  · rename_i h
    obtain ⟨h1, h2, _⟩ := needOk_parts h
    rw [runsOf_len h2]; exact padOk_len h1
  · simp

set_option maxRecDepth 100000 in
set_option maxHeartbeats 400000 in
theorem needed1_any (w : World) : Pred Try.prog 91 #[] (Value.int .i64) (fun z => decide (z < 0)) w := by
  intro x W hb
  go_enter Try.func91, Try.ntmps91
  go_wp2
  go_ret
  exact ⟨rfl, by go_grown⟩
set_option maxRecDepth 100000 in
set_option maxHeartbeats 1000000 in
theorem needed_any (A : Option Addr) (n c : Nat) (ts : List Int) (B : Option Addr) (m d : Nat) (ns : List Int) (w : World) (hn : n ≤ 1048577) (hm : m ≤ 1048577) (hr : Rd w 1 A n (ints ts)) (hs : Rd w 1 B m (ints ns)) :
    Calls Try.prog 71 #[.slice A n c, .slice B m d] w fun e w' => e = .returned (.bool (needOk ts ns)) ∧ Below w.heap.size w w' := by
  have hl1 := Lib.hid hr.len
  have hl2 := Lib.hid hs.len
  have HP := Lib.hid (padded_any A n c ts w hn hr)
  have HE : Hid (needOk ts ns = (padOk ts && (decide (n = m) && !ns.any (fun z => decide (z < 0))))) := by
    show needOk ts ns = _
    rw [needOk, hl1.out, hl2.out, List.all_eq_not_any_not]
    have hf : (fun z : Int => !decide (0 ≤ z)) = (fun z : Int => decide (z < 0)) := by
      funext z
      by_cases hz : 0 ≤ z
      · simp [hz]
      · simp [hz]; omega
    rw [hf]
  cases hp : padOk ts
  · go_enter Try.func71, Try.ntmps71
    go_wp2_with (go_at_call 69; refine HP.out.mono ?_; rw [hp]; rintro e w1 ⟨rfl, hb1⟩)
    go_ret
    exact ⟨by rw [HE.out, hp]; simp, hb1⟩
  · by_cases hnm : n = m
    · subst hnm
      clear hr
      go_enter Try.func71, Try.ntmps71
      go_wp2_with (first
        | (go_at_call 69; refine HP.out.mono ?_; rw [hp]; rintro e w1 ⟨rfl, hb1⟩)
        | (go_at_call 67; refine (ContainsFuncI_any 91 #[] (fun z => decide (z < 0)) B n d ns _ hm (hs.below (Nat.le_refl _) hb1) (needed1_any _) (enters_of Try.func91 (by kernel_rfl) rfl)).mono ?_; rintro e w2 ⟨rfl, hb2⟩))
      go_ret
      exact ⟨by rw [HE.out, hp]; simp, Below.andThen hb1 hb2⟩
    · have hd : ((n : Int) == (m : Int)) = false := by simp; omega
      go_enter Try.func71, Try.ntmps71
      go_wp2_with (go_at_call 69; refine HP.out.mono ?_; rw [hp]; rintro e w1 ⟨rfl, hb1⟩)
      go_ret
      exact ⟨by rw [HE.out, hp]; simp [hnm], hb1⟩
/-- as 'RetI', and the capacity is the length -/
def RetC (w : World) (zs : List Int) (e : Ending) (w' : World) : Prop := ∃ A, e = .returned (.slice A zs.length zs.length) ∧ Fr w' w.heap.size w'.heap.size 3 1 A zs.length (ints zs) ∧ Below w.heap.size w w'
theorem RetC.own {w w' : World} {zs : List Int} {g n : Nat} (ho : w'.ownsRow w.heap.size 3 1 (.slice (some ⟨g, 0, none⟩) n n) n (ints zs)) (hb : Below w.heap.size w w') : RetC w zs (.returned (.slice (some ⟨g, 0, none⟩) n n)) w' := by
  have hl : zs.length = n := by have := ho.1; simpa [ints] using this
  subst hl
  exact ⟨_, rfl, Fr.of_own ho, hb⟩
theorem RetC.ret {w w' : World} {zs : List Int} {e : Ending} (h : RetC w zs e w') : RetI w zs e w' := by
  obtain ⟨A, h1, h2, h3⟩ := h
  exact ⟨A, _, h1, h2, h3⟩
set_option maxRecDepth 100000 in
set_option maxHeartbeats 1000000 in
theorem iPadRuns_cap (A : Option Addr) (n c : Nat) (ts : List Int) (B : Option Addr) (m d : Nat) (ns : List Int) (w : World) (hn : n ≤ 1048577) (hm : m ≤ 1048577) (hr : Rd w 1 A n (ints ts)) (hs : Rd w 1 B m (ints ns)) :
    Calls Try.prog 30 #[.slice A n c, .slice B m d] w (fun e w' => RetC w (padRuns ts ns) e w') := by
  have HP := Lib.hid (needed_any A n c ts B m d ns w hn hm hr hs)
  have hl1 := Lib.hid hr.len
  have hl2 := Lib.hid hs.len
  unfold padRuns
  obtain ⟨i0, hi, hz0, hz1, hz2⟩ := info_parts Try.infoInt
  cases hp : needOk ts ns
  · rw [if_neg (by simp)]
    go_enter Try.func30, Try.ntmps30
    go_wp2_with (go_at_call 71; refine HP.out.mono ?_; rw [hp]; rintro e w1 ⟨rfl, hb1⟩)
    go_ret
    exact ⟨none, rfl, Fr.nil_, hb1⟩
  · rw [if_pos rfl]
    obtain ⟨h1, h2, h3⟩ := needOk_parts hp
    have hnm : n = m := by rw [← hl1.out, ← hl2.out]; exact h2
    subst hnm
    have H2 := Lib.hid h2
    clear h2
    go_enter Try.func30, Try.ntmps30
    go_wp2_with (first
      | (go_at_call 71; refine HP.out.mono ?_; rw [hp]; rintro e w1 ⟨rfl, hb1⟩)
      | (at_make; refine wpList_make_full _ rfl _ _ 24 rfl w.heap.size 3 i0 (.int .i64 0) 1 Try.underlying24 hi hz0 hz1 _ _ _ _ n rfl rfl rfl rfl (by rw [hz2]; omega) (by unfold maxLen; omega) hb1.size ?_; intro w0 hown0 hgrow0))
    have hs1 := hb1.size
    have hown1 : w0.ownsRow w.heap.size 3 1 (.slice (some ⟨w1.heap.size, 0, none⟩) n n) n (ints (List.replicate n 0)) := by
      first | rwa [made_ints] at hown0 | rwa [made_ints2] at hown0
    clear hown0
    have hb0 : Below w.heap.size w w0 := hb1.grown hgrow0 hs1 (fun k h => by cases h)
    clear hgrow0 hb1
    go_loopw [16] (fun i wr => ∃ (k : Nat) (ys : List Int), k ≤ n ∧ i = .int .i64 k ∧ ys.length = n ∧ ys.take k = (runsOf ts ns).take k ∧
        wr.ownsRow w.heap.size 3 1 (.slice (some ⟨w1.heap.size, 0, none⟩) n n) n (ints ys) ∧ Below w.heap.size w wr) (fun i _ => n - (intOf i).toNat)
    case atStart => exact ⟨0, _, Nat.zero_le _, rfl, by simp, by simp, hown1, hb0⟩
    case round =>
      obtain ⟨k, ys, hkn, rfl, hyl, hyt, ho, hb⟩ := hrel
      have HY := Lib.hid hyl
      have HT := Lib.hid hyt
      clear hyl hyt hown1 hb0
      by_cases hlt : k < n
      · obtain ⟨b, o, x, rfl, hbl, hx, hc⟩ := hr.int_ hlt
        obtain ⟨b', o', y, rfl, hbl', hy, hc'⟩ := hs.int_ hlt
        have hc1 := (hb.cell (p := ⟨b, o + k, none⟩) hbl).trans hc
        have hc3 := (hb.cell (p := ⟨b', o' + k, none⟩) hbl').trans hc'
        have HXY := Lib.hid (runsOf_at hx hy)
        clear hx hy hc hc' hr hs
        have hyk : k < ys.length := by rw [HY.out]; exact hlt
        have hc2 : wr.cell? ⟨w1.heap.size, k, none⟩ = some (.int .i64 ys[k]) := by
          rw [ho.cellAt k (by omega), ints_at, List.getElem?_eq_getElem hyk]; rfl
        have hf2 := ho.frozenAt k
        go_wp2
        go_region
        go_wp2
        go_roundw
        case rel =>
          refine ⟨k + 1, ys.set k (if y < x then y else x), by omega, by go_num, by rw [List.length_set]; exact HY.out, ?_, ?_, (hb.setCell (p := ⟨w1.heap.size, k, none⟩) (by exact hs1) _).drew⟩
          · exact set_take HXY.out hyk HT.out
          · have := (ho.stored k (.int .i64 (if y < x then y else x))).1
            rw [ints_set] at this
            exact this.drew
        case measure => simp [intOf]; omega
      · have hkn : k = n := by omega
        have e : ys = runsOf ts ns := take_all HY.out (by rw [runsOf_len H2.out]; exact hl1.out) (by have ht := HT.out; rw [hkn] at ht; exact ht)
        subst e
        go_wp2
        go_ret
        exact RetC.own ho hb
theorem iPadRuns_any (A : Option Addr) (n c : Nat) (ts : List Int) (B : Option Addr) (m d : Nat) (ns : List Int) (w : World) (hn : n ≤ 1048577) (hm : m ≤ 1048577) (hr : Rd w 1 A n (ints ts)) (hs : Rd w 1 B m (ints ns)) :
    Calls Try.prog 30 #[.slice A n c, .slice B m d] w (fun e w' => RetI w (padRuns ts ns) e w') :=
  (iPadRuns_cap A n c ts B m d ns w hn hm hr hs).mono fun _ _ h => h.ret
end Go.Proofs.Ytjdhfehffgccmaa
