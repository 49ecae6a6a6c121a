/-
  CONTRACTS of PartsValid, PartsApart.
  Conditions: none beyond those that each states.
-/
import Derived.Test.YtlckjhbgdbhdmaaNPartS
import Derived.Test.YtlckjhbgdbhdmaaClash
namespace Go.Proofs.Ytlckjhbgdbhdmaa
open Go.ChangeShapes Go.WideShapes Go.ChangeAt Go.RowKit Go.Joins
set_option linter.unusedVariables false

abbrev PartL := List (Int × Int × Bool) × Int
def partOk (p : PartL) : Bool := winsOk p.1 && inB p.2 1 8
def partsOk (ps : List PartL) : Bool := decide (ps.length ≤ 5) && ps.all partOk
theorem partOk_wins {p : PartL} (h : partOk p = true) : winsOk p.1 = true := by
  unfold partOk at h
  rw [Bool.and_eq_true] at h
  exact h.1
theorem partsOk_at {ps : List PartL} {k : Nat} {x : PartL} (h : partsOk ps = true) (hx : ps[k]? = some x) : winsOk x.1 = true := by
  unfold partsOk at h
  rw [Bool.and_eq_true] at h
  exact partOk_wins (List.all_eq_true.1 h.2 x (List.mem_of_getElem? hx))
theorem partsOk_len {ps : List PartL} (h : partsOk ps = true) : ps.length ≤ 5 := by
  unfold partsOk at h
  rw [Bool.and_eq_true, decide_eq_true_eq] at h
  exact h.1
/-- no earlier partition clashes with partition j -/
def apRow (ps : List PartL) (j : Nat) : Bool := match ps[j]? with | some y => (ps.take j).all (fun x => !clashB x.1 y.1) | none => true
def apartB (ps : List PartL) : Bool := (List.range ps.length).all (apRow ps)
def partsApart (ps : List PartL) : Bool := partsOk ps && apartB ps
theorem apRow_at {ps : List PartL} {j : Nat} {y : PartL} (hy : ps[j]? = some y) : apRow ps j = (ps.take j).all (fun x => !clashB x.1 y.1) := by
  unfold apRow; rw [hy]
theorem range_snoc {p : Nat → Bool} {k : Nat} (h : (List.range k).all p = true) (hp : p k = true) : (List.range (k + 1)).all p = true := by
  rw [List.range_succ, List.all_append, h]; simp [hp]
theorem range_miss {p : Nat → Bool} {n k : Nat} (hk : k < n) (hp : p k = false) : (List.range n).all p = false := by
  rw [List.all_eq_false]
  exact ⟨k, List.mem_range.2 hk, by simp [hp]⟩
theorem apartB_miss {ps : List PartL} {i j : Nat} {x y : PartL} (hij : i < j) (hx : ps[i]? = some x) (hy : ps[j]? = some y) (h : clashB x.1 y.1 = true) : apartB ps = false := by
  refine range_miss (List.getElem?_eq_some_iff.1 hy).1 ?_
  rw [apRow_at hy, List.all_eq_false]
  exact ⟨x, List.mem_of_getElem? (i := i) (by rw [List.getElem?_take, if_pos hij]; exact hx), by simp [h]⟩
theorem loW_comm (x y : Win) : loW x y = loW y x := by unfold loW; split <;> split <;> omega
theorem hiW_comm (x y : Win) : hiW x y = hiW y x := by unfold hiW; split <;> split <;> omega
theorem clashP_comm (x y : Win) : clashP x y = clashP y x := by
  unfold clashP meetB
  rw [loW_comm x y, hiW_comm x y, Bool.or_comm]
theorem clashB_comm (a b : List Win) : clashB a b = clashB b a := by
  unfold clashB
  rw [Bool.eq_iff_iff]
  simp only [List.any_eq_true]
  constructor
  · rintro ⟨x, hx, y, hy, h⟩
    exact ⟨y, hy, x, hx, by rw [clashP_comm]; exact h⟩
  · rintro ⟨x, hx, y, hy, h⟩
    exact ⟨y, hy, x, hx, by rw [clashP_comm]; exact h⟩
set_option maxRecDepth 100000 in
set_option maxHeartbeats 4000000 in
theorem sPartsValid_any (A : Option Addr) (n c : Nat) (ps : List PartL) (w : World) (hm : n ≤ 1048577) (ht : ∀ x ∈ ps, (partI x).length ≤ 1048577) (hr : Rd_part w A n ps) :
    Calls Try.prog 25 #[.slice A n c] w fun e w' => e = .returned (.bool (partsOk ps)) ∧ Below w.heap.size w w' := by
  have hlz := Lib.hid hr.len
  have HR := Lib.hid hr
  have HT := Lib.hid ht
  clear hr ht
  have HV : Hid (partsOk ps = (decide (n ≤ 5) && ps.all partOk)) := by show _ = _; unfold partsOk; rw [hlz.out]
  go_enter Try.func25, Try.ntmps25
  go_wp2
  go_loopw [3] (fun i wr => ∃ (k : Nat), k ≤ n ∧ i = .int .i64 k ∧ Hid ((ps.take k).all partOk = true) ∧ Below w.heap.size w wr) (fun i _ => n - (intOf i).toNat)
  case atStart => exact ⟨0, Nat.zero_le _, rfl, by show _ = true; simp, Below.refl _ _⟩
  case round =>
    obtain ⟨k, hk, rfl, HA, hb⟩ := hrel
    by_cases hlt : k < n
    · obtain ⟨b, oo, Ai, ni, ci, x, rfl, hbl, hx, h0, h1, hn1, hn2, hrd⟩ := HR.out.at_ hlt
      have j0 := (hb.cell (p := ⟨b, oo + k * 2, none⟩) hbl).trans h0
      have j1 := (hb.cell (p := ⟨b, oo + k * 2 + 1, none⟩) hbl).trans h1
      have hmi : ni ≤ 1048577 := by have := HT.out x (List.mem_of_getElem? hx); rw [← hn1]; exact this
      have HX := Lib.hid hx
      have HRi := Lib.hid (hrd.below (Nat.le_refl _) hb)
      have HB := Lib.hid hb
      have H1 := Lib.hid h1
      clear hx h0 h1 hn1 hrd hb
      cases hv : winsOk x.1
      · go_wp2_with fail
        refine (sWindowsValid_is hv _ hmi (by exact HRi.out)).mono ?_
        rintro e w1 ⟨rfl, hb1⟩
        have HB1 := Lib.hid (Below.andThen HB.out hb1)
        clear hb1
        go_wp2
        go_ret
        exact ⟨by rw [HV.out, all_missB HX.out (by unfold partOk; rw [hv]; rfl)]; simp, HB1.out⟩
      · have HVV := Lib.hid hv
        go_wp2_with fail
        refine (sWindowsValid_is hv _ hmi (by exact HRi.out)).mono ?_
        rintro e w1 ⟨rfl, hb1⟩
        have HB1 := Lib.hid (Below.andThen HB.out hb1)
        clear hb1 j0 j1
        have j1 := (HB1.out.cell (p := ⟨b, oo + k * 2 + 1, none⟩) hbl).trans H1.out
        clear hv
        cases hv2 : inB x.2 1 8
        · go_wp2_with fail
          refine (l1In_is hv2 _).mono ?_
          rintro e _ ⟨rfl, rfl⟩
          go_wp2
          go_ret
          exact ⟨by rw [HV.out, all_missB HX.out (by unfold partOk; rw [hv2]; simp)]; simp, HB1.out⟩
        · have HV2 := Lib.hid hv2
          go_wp2_with fail
          refine (l1In_is hv2 _).mono ?_
          rintro e _ ⟨rfl, rfl⟩
          go_wp2
          go_roundw
          case rel => exact ⟨k + 1, by omega, by go_num, all_snocB HX.out HA.out (by unfold partOk; rw [HVV.out, HV2.out]; rfl), HB1.out⟩
          case measure => simp [intOf]; omega
    · have hkn : k = n := by omega
      have h7 := HA.out
      rw [hkn, ← hlz.out, List.take_length] at h7
      have H7 := Lib.hid h7
      clear h7
      by_cases h5 : n ≤ 5
      · have hI : (n : Int) ≤ 5 := by omega
        go_wp2
        go_ret
        exact ⟨by rw [HV.out, H7.out, decide_eq_true h5]; first | rfl | (simp; omega), hb⟩
      · have hI : decide ((n : Int) ≤ 5) = false := by simp; omega
        go_wp2
        go_ret
        exact ⟨by rw [HV.out, decide_eq_false h5]; first | rfl | (simp; omega), hb⟩
theorem sPartsValid_is {A : Option Addr} {n c : Nat} {ps : List PartL} {b : Bool} (h : partsOk ps = b) (w : World) (hm : n ≤ 1048577) (ht : ∀ x ∈ ps, (partI x).length ≤ 1048577) (hr : Rd_part w A n ps) :
    Calls Try.prog 25 #[.slice A n c] w fun e w' => e = .returned (.bool b) ∧ Below w.heap.size w w' := h ▸ sPartsValid_any A n c ps w hm ht hr
/-- what a predicate on a partition must give -/
def PredP (g : FuncId) (lb : Array Value) (p : PartL → Bool) (w : World) : Prop :=
  ∀ (Ai : Option Addr) (ni ci : Nat) (x : PartL) (W : World), Below w.heap.size w W → ni ≤ 1048577 → Rd W 3 Ai ni (wins x.1) → Calls Try.prog g (#[.agg #[.slice Ai ni ci, .int .i64 x.2]] ++ lb) W fun e W' => e = .returned (.bool (p x)) ∧ Below W.heap.size W W'
set_option maxRecDepth 100000 in
set_option maxHeartbeats 1000000 in
theorem IndexFuncP_any (g : FuncId) (lb : Array Value) (p : PartL → Bool) (A : Option Addr) (n c : Nat) (ps : List PartL) (w : World) (hm : n ≤ 1048577) (ht : ∀ x ∈ ps, (partI x).length ≤ 1048577) (hr : Rd_part w A n ps) (hp : PredP g lb p w)
    (eg : ∀ args w, (callFunc g args).run Try.prog w = .ok (.enter g args) w) :
    Calls Try.prog 81 #[.slice A n c, .func (.func g) #[] lb] w fun e w' => e = .returned (.int .i64 (idxP p ps)) ∧ Below w.heap.size w w' := by
  have hlz := Lib.hid hr.len
  have HP := Lib.hid hp
  have HT := Lib.hid ht
  have HR := Lib.hid hr
  clear hp ht hr
  go_enter Try.func81, Try.ntmps81
  go_wp2
  go_loopw [5, 8] (fun j i wr => ∃ (k : Nat), k ≤ n ∧ i = .int .i64 k ∧ Hid (∀ y ∈ ps.take k, p y = false) ∧ Below w.heap.size w wr) (fun _ i _ => n - (intOf i).toNat)
  case atStart => exact ⟨0, Nat.zero_le _, rfl, by show ∀ y ∈ ps.take 0, p y = false; simp, Below.refl _ _⟩
  case round =>
    obtain ⟨k, hk, rfl, HM, hb⟩ := hrel
    by_cases hlt : k < n
    · obtain ⟨b, oo, Ai, ni, ci, x, rfl, hbl, hx, h0, h1, hn1, hn2, hrd⟩ := HR.out.at_ hlt
      have j0 := (hb.cell (p := ⟨b, oo + k * 2, none⟩) hbl).trans h0
      have j1 := (hb.cell (p := ⟨b, oo + k * 2 + 1, none⟩) hbl).trans h1
      have hmi : ni ≤ 1048577 := by have := HT.out x (List.mem_of_getElem? hx); rw [← hn1]; exact this
      have HX := Lib.hid hx
      have HRi := Lib.hid (hrd.below (Nat.le_refl _) hb)
      clear hx h0 h1 hn1 hrd
      cases hv : p x
      · have hv' := Lib.hid hv
        clear hv
        go_wp2_with (go_at_fn g; refine (HP.out Ai ni ci x _ hb hmi HRi.out).mono ?_; rw [hv'.out]; rintro e w1 ⟨rfl, hb1⟩)
        go_roundw
        case rel => exact ⟨k + 1, by omega, by go_num, miss_snoc HX.out HM.out hv'.out, Below.andThen hb hb1⟩
        case measure => simp [intOf]; omega
      · have hv' := Lib.hid hv
        clear hv
        go_wp2_with (go_at_fn g; refine (HP.out Ai ni ci x _ hb hmi HRi.out).mono ?_; rw [hv'.out]; rintro e w1 ⟨rfl, hb1⟩)
        go_ret
        exact ⟨ret_int (idxP_hit HX.out HM.out hv'.out).symm, Below.andThen hb hb1⟩
    · have hkn : k = n := by omega
      go_wp2
      go_ret
      refine ⟨ret_int (idxP_miss ?_).symm, hb⟩
      have := HM.out
      rw [hkn, ← hlz.out, List.take_length] at this
      exact this
set_option maxRecDepth 100000 in
set_option maxHeartbeats 400000 in
theorem ContainsFuncP_any (g : FuncId) (lb : Array Value) (p : PartL → Bool) (A : Option Addr) (n c : Nat) (ps : List PartL) (w : World) (hm : n ≤ 1048577) (ht : ∀ x ∈ ps, (partI x).length ≤ 1048577) (hr : Rd_part w A n ps) (hp : PredP g lb p w)
    (eg : ∀ args w, (callFunc g args).run Try.prog w = .ok (.enter g args) w) :
    Calls Try.prog 58 #[.slice A n c, .func (.func g) #[] lb] w fun e w' => e = .returned (.bool (ps.any p)) ∧ Below w.heap.size w w' := by
  have HP := Lib.hid hp
  clear hp
  rw [← idxP_any]
  have HI := Lib.hid (IndexFuncP_any g lb p A n c ps w hm ht hr HP.out eg)
  clear eg hr ht
  go_enter Try.func58, Try.ntmps58
  go_wp2_with (go_at_call 81; refine HI.out.mono ?_; rintro e w1 ⟨rfl, hb1⟩)
  go_ret
  exact ⟨rfl, hb1⟩
set_option maxRecDepth 100000 in
set_option maxHeartbeats 1000000 in
theorem partsValid1_any (w : World) : PredP 59 #[] (fun x => !partOk x) w := by
  intro Ai ni ci x W hb hmi hrd
  obtain ⟨zs, cl⟩ := x
  replace hrd : Rd W 3 Ai ni (wins zs) := hrd
  have HRD := Lib.hid hrd
  clear hrd
  show Calls Try.prog 59 #[.agg #[.slice Ai ni ci, .int .i64 cl]] W fun e W' => e = .returned (.bool (!partOk (zs, cl))) ∧ Below W.heap.size W W'
  cases hv : winsOk zs
  · rw [show partOk (zs, cl) = false by unfold partOk; simp only; rw [hv]; rfl]
    go_enter Try.func59, Try.ntmps59
    go_wp2_with fail
    refine (iWindowsValid_is hv _ hmi (HRD.out.alloc _)).mono ?_
    rintro e w1 ⟨rfl, hb1⟩
    have HB1 : Hid (Below W.heap.size W w1) := Below.andThen (by go_grown) hb1
    clear hb1
    go_wp2
    go_ret
    exact ⟨rfl, HB1.out⟩
  · rw [show partOk (zs, cl) = inB cl 1 8 by unfold partOk; simp only; rw [hv]; rfl]
    go_enter Try.func59, Try.ntmps59
    go_wp2_with fail
    refine (iWindowsValid_is hv _ hmi (HRD.out.alloc _)).mono ?_
    rintro e w1 ⟨rfl, hb1⟩
    have HB1 : Hid (Below W.heap.size W w1) := Below.andThen (by go_grown) hb1
    have HQ1 : Hid (Blk w1 W.heap.size 69 #[.slice Ai ni ci, .int .i64 cl]) := Blk.below (w' := w1) (Blk.at_ _ _ _ rfl) (Nat.le_refl _) hb1
    clear hb1
    have k0 : w1.cell? ⟨W.heap.size, 0, none⟩ = some (.slice Ai ni ci) := HQ1.out.cell 0 rfl
    have k1 : w1.cell? ⟨W.heap.size, 1, none⟩ = some (.int .i64 cl) := HQ1.out.cell 1 rfl
    have l0 := HQ1.out.lt
    go_wp2_with fail
    refine (in_any _ _ _ _).mono ?_
    rintro e _ ⟨rfl, rfl⟩
    go_wp2
    go_ret
    exact ⟨rfl, HB1.out⟩
set_option maxRecDepth 100000 in
set_option maxHeartbeats 1000000 in
theorem iPartsValid_any (A : Option Addr) (n c : Nat) (ps : List PartL) (w : World) (hm : n ≤ 1048577) (ht : ∀ x ∈ ps, (partI x).length ≤ 1048577) (hr : Rd_part w A n ps) :
    Calls Try.prog 31 #[.slice A n c] w fun e w' => e = .returned (.bool (partsOk ps)) ∧ Below w.heap.size w w' := by
  have hlz := Lib.hid hr.len
  have HC := Lib.hid (ContainsFuncP_any 59 #[] (fun x => !partOk x) A n c ps w hm ht hr (partsValid1_any w) (enters_of Try.func59 (by kernel_rfl) rfl))
  have HV : Hid (partsOk ps = (decide (n ≤ 5) && !ps.any fun x => !partOk x)) := by show _ = _; unfold partsOk; rw [hlz.out, List.all_eq_not_any_not]
  clear hr ht
  by_cases h5 : n ≤ 5
  · have hI : (n : Int) ≤ 5 := by omega
    go_enter Try.func31, Try.ntmps31
    go_wp2_with fail
    refine HC.out.mono ?_
    rintro e w1 ⟨rfl, hb1⟩
    go_wp2
    go_ret
    exact ⟨by rw [HV.out, decide_eq_true h5]; rfl, hb1⟩
  · have hI : decide ((n : Int) ≤ 5) = false := by simp; omega
    go_enter Try.func31, Try.ntmps31
    go_wp2
    go_ret
    exact ⟨by rw [HV.out, decide_eq_false h5]; rfl, Below.refl _ _⟩
theorem iPartsValid_is {A : Option Addr} {n c : Nat} {ps : List PartL} {b : Bool} (h : partsOk ps = b) (w : World) (hm : n ≤ 1048577) (ht : ∀ x ∈ ps, (partI x).length ≤ 1048577) (hr : Rd_part w A n ps) :
    Calls Try.prog 31 #[.slice A n c] w fun e w' => e = .returned (.bool b) ∧ Below w.heap.size w w' := h ▸ iPartsValid_any A n c ps w hm ht hr
set_option maxRecDepth 100000 in
set_option maxHeartbeats 4000000 in
theorem iapart_any (A : Option Addr) (n c : Nat) (ps : List PartL) (w : World) (hc : n ≤ c) (hok : partsOk ps = true) (hr : Rd_part w A n ps) :
    Calls Try.prog 39 #[.slice A n c] w fun e w' => e = .returned (.bool (apartB ps)) ∧ Below w.heap.size w w' := by
  have hlz := Lib.hid hr.len
  have HR := Lib.hid hr
  have HOK := Lib.hid hok
  have hn5 : n ≤ 5 := by have := partsOk_len hok; rw [hlz.out] at this; exact this
  clear hr hok
  go_enter Try.func39, Try.ntmps39
  go_wp2
  go_loopw [9] (fun i wr => ∃ (k : Nat), k ≤ n ∧ i = .int .i64 k ∧ Hid ((List.range k).all (apRow ps) = true) ∧ Below w.heap.size w wr) (fun i _ => n - (intOf i).toNat)
  case atStart => exact ⟨0, Nat.zero_le _, rfl, by show _ = true; simp, Below.refl _ _⟩
  case round =>
    obtain ⟨k, hk, rfl, HA, hb⟩ := hrel
    obtain ⟨wo, rfl⟩ : ∃ wo : World, wo = wr := ⟨_, rfl⟩
    by_cases hlt : k < n
    · obtain ⟨b, oo, Ai, ni, ci, x, rfl, hbl, hx, h0, h1, hn1, hn2, hrd⟩ := HR.out.at_ hlt
      have j0 := (hb.cell (p := ⟨b, oo + k * 2, none⟩) hbl).trans h0
      have j1 := (hb.cell (p := ⟨b, oo + k * 2 + 1, none⟩) hbl).trans h1
      have HX := Lib.hid hx
      have HRi := Lib.hid hrd
      have HB0 := Lib.hid hb
      have hs0 := hb.size
      have hkc : (k : Int) ≤ (c : Int) := by omega
      clear hx h0 h1 hn1 hrd hb
      go_wp2
      clear j0 j1
      go_loopw [18] (fun j wi => ∃ q : Nat, q ≤ k ∧ j = .int .i64 q ∧ Hid ((ps.take q).all (fun y => !clashB y.1 x.1) = true) ∧ Hid (Blk wi wo.heap.size 69 #[.slice Ai ni ci, .int .i64 x.2]) ∧ Below w.heap.size w wi) (fun j _ => k - (intOf j).toNat)
      case atStart => exact ⟨0, Nat.zero_le _, rfl, by show _ = true; simp, Blk.at_ _ _ _ rfl, HB0.out.alloc hs0 _⟩
      case round =>
        obtain ⟨q, hq, rfl, HQ, HBX, hb⟩ := hrel
        obtain ⟨wi, rfl⟩ : ∃ wi : World, wi = wr := ⟨_, rfl⟩
        have x0 : wi.cell? ⟨wo.heap.size, 0, none⟩ = some (.slice Ai ni ci) := HBX.out.cell 0 rfl
        have x1 : wi.cell? ⟨wo.heap.size, 1, none⟩ = some (.int .i64 x.2) := HBX.out.cell 1 rfl
        have lx := HBX.out.lt
        by_cases hqt : q < k
        · obtain ⟨b', oo', Bi, mi, di, y, hAe, hbl', hy, h0, h1, hm1, hm2, hrd'⟩ := HR.out.at_ (show q < n by omega)
          injection hAe with hAe
          injection hAe with e1 e2
          subst e1 e2
          have j0 := (hb.cell (p := ⟨b, oo + q * 2, none⟩) hbl').trans h0
          have j1 := (hb.cell (p := ⟨b, oo + q * 2 + 1, none⟩) hbl').trans h1
          have HY := Lib.hid hy
          have HBI := Lib.hid hb
          have HRy := Lib.hid hrd'
          have hs1 := hb.size
          clear h0 h1 hy hb hm1 hrd'
          cases hv : clashB y.1 x.1
          · have HVV := Lib.hid hv
            go_wp2_with fail
            refine (iclash_is ((clashB_comm _ _).trans hv) _ (partsOk_at HOK.out HX.out) (partsOk_at HOK.out HY.out) (HRi.out.below (Nat.le_refl _) (HBI.out.alloc hs1 _)) (HRy.out.below (Nat.le_refl _) (HBI.out.alloc hs1 _))).mono ?_
            rintro e w1 ⟨rfl, hb1⟩
            have hT1 : Below wi.heap.size wi w1 := Below.andThen (by go_grown) hb1
            have HB1 : Hid (Below w.heap.size w w1) := Below.andThen HBI.out hT1
            have HX1 : Hid (Blk w1 wo.heap.size 69 #[.slice Ai ni ci, .int .i64 x.2]) := HBX.out.below (Nat.le_refl _) hT1
            clear hb1 hT1 x0 x1 lx j0 j1
            go_wp2
            go_roundw
            case rel => exact ⟨q + 1, by omega, by go_num, all_snocB (p := fun (y : PartL) => !clashB y.1 x.1) HY.out HQ.out (by rw [HVV.out]; rfl), HX1, HB1.out⟩
            case measure => simp [intOf]; omega
          · go_wp2_with fail
            refine (iclash_is ((clashB_comm _ _).trans hv) _ (partsOk_at HOK.out HX.out) (partsOk_at HOK.out HY.out) (HRi.out.below (Nat.le_refl _) (HBI.out.alloc hs1 _)) (HRy.out.below (Nat.le_refl _) (HBI.out.alloc hs1 _))).mono ?_
            rintro e w1 ⟨rfl, hb1⟩
            have hT1 : Below wi.heap.size wi w1 := Below.andThen (by go_grown) hb1
            have HB1 : Hid (Below w.heap.size w w1) := Below.andThen HBI.out hT1
            clear hb1 hT1 x0 x1 lx j0 j1
            go_wp2
            go_ret
            exact ⟨by rw [apartB_miss hqt HY.out HX.out hv] <;> rfl, HB1.out⟩
        · have hqk : q = k := by omega
          have h9 := HQ.out
          rw [hqk] at h9
          have H9 := Lib.hid h9
          clear h9
          go_wp2
          go_roundw
          case rel => exact ⟨k + 1, by omega, by go_num, range_snoc HA.out (by rw [apRow_at HX.out]; exact H9.out), hb⟩
          case measure => simp [intOf]; omega
    · have hkn : k = n := by omega
      have h9 := HA.out
      rw [hkn, ← hlz.out] at h9
      have H9 := Lib.hid h9
      clear h9
      go_wp2
      go_ret
      exact ⟨by rw [show apartB ps = true from H9.out] <;> rfl, hb⟩
theorem sWindowsClash_is {A : Option Addr} {n c : Nat} {xs : List Win} {B : Option Addr} {m d : Nat} {ys : List Win} {b : Bool} (h : clashB xs ys = b) (h1 : winsOk xs = true) (h2 : winsOk ys = true) (w : World) (hn : n ≤ 1048577) (hm : m ≤ 1048577) (hra : Rd w 3 A n (wins xs)) (hrb : Rd w 3 B m (wins ys)) :
    Calls Try.prog 70 #[.slice A n c, .slice B m d] w fun e w' => e = .returned (.bool b) ∧ Below w.heap.size w w' := by
  have e : winsClash xs ys = b := by unfold winsClash; rw [h1, h2, h]; rfl
  exact e ▸ sWindowsClash_any A n c xs B m d ys w hn hm hra hrb
set_option maxRecDepth 100000 in
set_option maxHeartbeats 4000000 in
theorem sPartsApart_any (A : Option Addr) (n c : Nat) (ps : List PartL) (w : World) (hm : n ≤ 1048577) (ht : ∀ x ∈ ps, (partI x).length ≤ 1048577) (hr : Rd_part w A n ps) :
    Calls Try.prog 37 #[.slice A n c] w fun e w' => e = .returned (.bool (partsApart ps)) ∧ Below w.heap.size w w' := by
  have hlz := Lib.hid hr.len
  have HR := Lib.hid hr
  have HT := Lib.hid ht
  clear hr ht
  cases hp : partsOk ps
  · rw [show partsApart ps = false by unfold partsApart; rw [hp]; rfl]
    go_enter Try.func37, Try.ntmps37
    go_wp2_with fail
    refine (sPartsValid_is hp _ hm HT.out HR.out).mono ?_
    rintro e w1 ⟨rfl, hb1⟩
    go_wp2
    go_ret
    exact ⟨rfl, hb1⟩
  · have HOK := Lib.hid hp
    have hn5 : n ≤ 5 := by have := partsOk_len hp; rw [hlz.out] at this; exact this
    obtain ⟨V, hV⟩ : ∃ V, V = apartB ps := ⟨_, rfl⟩
    rw [show partsApart ps = V by unfold partsApart; rw [hp, hV]; rfl]
    have HV := Lib.hid hV
    clear hV
    go_enter Try.func37, Try.ntmps37
    go_wp2_with fail
    refine (sPartsValid_is hp _ hm HT.out HR.out).mono ?_
    rintro e w1 ⟨rfl, hb1⟩
    have HB1 := Lib.hid hb1
    clear hb1 hp
    go_wp2
    go_loopw [3] (fun i wr => ∃ (k : Nat), k ≤ n ∧ i = .int .i64 k ∧ Hid ((List.range k).all (apRow ps) = true) ∧ Below w.heap.size w wr) (fun i _ => n - (intOf i).toNat)
    case atStart => exact ⟨0, Nat.zero_le _, rfl, by show _ = true; simp, HB1.out⟩
    case round =>
      obtain ⟨k, hk, rfl, HA, hb⟩ := hrel
      obtain ⟨wo, rfl⟩ : ∃ wo : World, wo = wr := ⟨_, rfl⟩
      by_cases hlt : k < n
      · obtain ⟨b, oo, Ai, ni, ci, x, rfl, hbl, hx, h0, h1, hn1, hn2, hrd⟩ := HR.out.at_ hlt
        have hni : ni ≤ 1048577 := by have := HT.out x (List.mem_of_getElem? hx); rw [← hn1]; exact this
        have HX := Lib.hid hx
        have HRi := Lib.hid hrd
        have HB0 := Lib.hid hb
        have G0 := Lib.hid h0
        clear hx h0 h1 hn1 hrd hb
        go_wp2
        go_loopw [4] (fun j wi => ∃ q : Nat, q ≤ k ∧ j = .int .i64 q ∧ Hid ((ps.take q).all (fun y => !clashB y.1 x.1) = true) ∧ Below w.heap.size w wi) (fun j _ => k - (intOf j).toNat)
        case atStart => exact ⟨0, Nat.zero_le _, rfl, by show _ = true; simp, HB0.out⟩
        case round =>
          obtain ⟨q, hq, rfl, HQ, hb⟩ := hrel
          obtain ⟨wi, rfl⟩ : ∃ wi : World, wi = wr := ⟨_, rfl⟩
          by_cases hqt : q < k
          · obtain ⟨b', oo', Bi, mi, di, y, hAe, hbl', hy, h0, h1, hm1, hm2, hrd'⟩ := HR.out.at_ (show q < n by omega)
            injection hAe with hAe
            injection hAe with e1 e2
            subst e1 e2
            have hmi : mi ≤ 1048577 := by have := HT.out y (List.mem_of_getElem? hy); rw [← hm1]; exact this
            have i0 := (hb.cell (p := ⟨b, oo + k * 2, none⟩) hbl).trans G0.out
            have j0 := (hb.cell (p := ⟨b, oo + q * 2, none⟩) hbl').trans h0
            have HY := Lib.hid hy
            have HBI := Lib.hid hb
            have HRy := Lib.hid hrd'
            have F0 := Lib.hid h0
            have hs1 := hb.size
            clear h0 h1 hy hb hm1 hrd'
            have hk0 : (0 : Int) ≤ (k : Int) := by omega
            have hk1 : (k : Int) < (n : Int) := by omega
            have hq0 : (0 : Int) ≤ (q : Int) := by omega
            have hq1 : (q : Int) < (n : Int) := by omega
            cases hv : clashB y.1 x.1
            all_goals
              have HVV := Lib.hid hv
              clear hv
              go_wp2
              go_region_held3 (fun w' => w'.cell? ⟨b, oo + k * 2, none⟩ = some (.slice Ai ni ci) ∧ w'.cell? ⟨b, oo + q * 2, none⟩ = some (.slice Bi mi di)) (refine ⟨?_, ?_⟩ <;> (repeat' (first | with_reducible exact i0 | with_reducible exact j0 | with_reducible refine keepD ?_))) ((go_at_call 70; refine (sWindowsClash_is HVV.out (partsOk_at HOK.out HY.out) (partsOk_at HOK.out HX.out) _ hmi hni (by exact (HRy.out.below (Nat.le_refl _) HBI.out).drew) (by exact (HRi.out.below (Nat.le_refl _) HBI.out).drew)).mono ?_; rintro e w3 ⟨rfl, hb3⟩; clear i0 j0; have HB3 : Hid (Below w.heap.size w w3) := Below.andThen HBI.out (Below.andThen (by go_grown) hb3); have i0 := (HB3.out.cell (p := ⟨b, oo + k * 2, none⟩) hbl).trans G0.out; have j0 := (HB3.out.cell (p := ⟨b, oo + q * 2, none⟩) hbl').trans F0.out; clear hb3))
              go_wp2
              first
                | (go_roundw
                   case rel => exact ⟨q + 1, by omega, by go_num, all_snocB (p := fun (y : PartL) => !clashB y.1 x.1) HY.out HQ.out (by rw [HVV.out]; rfl), HB3.out⟩
                   case measure => simp [intOf]; omega)
                | (go_ret
                   exact ⟨by rw [HV.out, apartB_miss hqt HY.out HX.out HVV.out] <;> rfl, HB3.out⟩)
          · have hqk : q = k := by omega
            have h9 := HQ.out
            rw [hqk] at h9
            have H9 := Lib.hid h9
            clear h9
            go_wp2
            go_roundw
            case rel => exact ⟨k + 1, by omega, by go_num, range_snoc HA.out (by rw [apRow_at HX.out]; exact H9.out), hb⟩
            case measure => simp [intOf]; omega
      · have hkn : k = n := by omega
        have h9 := HA.out
        rw [hkn, ← hlz.out] at h9
        have H9 := Lib.hid h9
        clear h9
        go_wp2
        go_ret
        exact ⟨by rw [HV.out, show apartB ps = true from H9.out] <;> rfl, hb⟩
end Go.Proofs.Ytlckjhbgdbhdmaa
