/-
  CONTRACTS of FlowsTo.
  Conditions: none beyond those that each states.
-/
import Derived.Test.YtelfabidehhfoaaFlow
import Derived.Test.YtelfabidehhfoaaBools
import Derived.Test.YtelfabidehhfoaaNest2
namespace Go.Proofs.Ytelfabidehhfoaa
open Go.ChangeShapes Go.WideShapes Go.ChangeAt Go.RowKit Go.Joins
set_option linter.unusedVariables false

def stepB (zs : List Chan) (a : Nat) (l : List Bool) (b : Nat) : List Bool := l.set a (l.getD a false || (l.getD b false && directB zs a b))
def rowB (zs : List Chan) (p : Nat) (l : List Bool) (a : Nat) : List Bool := (List.range p).foldl (stepB zs a) l
def roundB (zs : List Chan) (p : Nat) (l : List Bool) (_ : Nat) : List Bool := (List.range p).foldl (rowB zs p) l
def flowsB (zs : List Chan) (p n : Nat) : List Bool := (List.range p).foldl (roundB zs p) ((List.replicate p false).set n true)
def flowsL (zs : List Chan) (parts n : Int) : List Bool := if (chansOk parts zs && inB n 0 (parts - 1)) = true then flowsB zs parts.toNat n.toNat else []
theorem foldl_snoc {α : Type} (f : α → Nat → α) (a : α) (k : Nat) : (List.range (k + 1)).foldl f a = f ((List.range k).foldl f a) k := by rw [List.range_succ, List.foldl_append]; rfl
theorem foldl_len {f : List Bool → Nat → List Bool} (h : ∀ l k, (f l k).length = l.length) : ∀ (ks : List Nat) (l : List Bool), (ks.foldl f l).length = l.length
  | [], l => rfl
  | k :: ks, l => by rw [List.foldl_cons, foldl_len h ks, h]
theorem stepB_len (zs : List Chan) (a : Nat) (l : List Bool) (b : Nat) : (stepB zs a l b).length = l.length := by unfold stepB; simp
theorem rowB_len (zs : List Chan) (p : Nat) (l : List Bool) (a : Nat) : (rowB zs p l a).length = l.length := foldl_len (stepB_len zs a) _ _
theorem roundB_len (zs : List Chan) (p : Nat) (l : List Bool) (a : Nat) : (roundB zs p l a).length = l.length := foldl_len (rowB_len zs p) _ _
theorem flowsB_len (zs : List Chan) (p n : Nat) : (flowsB zs p n).length = p := by unfold flowsB; rw [foldl_len (roundB_len zs p)]; simp
theorem flowsL_len (zs : List Chan) (parts n : Int) : (flowsL zs parts n).length ≤ parts.toNat := by
  unfold flowsL
  split
  · rw [flowsB_len]; omega
  · simp
theorem stepB_val {zs : List Chan} {a b : Nat} {l : List Bool} {x y V : Bool} (hx : l[a]? = some x) (hy : l[b]? = some y) (h : (x || (y && directB zs a b)) = V) : stepB zs a l b = l.set a V := by
  unfold stepB
  rw [List.getD_eq_getElem?_getD, List.getD_eq_getElem?_getD, hx, hy]
  simp only [Option.getD_some]
  rw [h]
theorem flowB_at {zs : List Chan} {p a b : Nat} (hok : chansOk (p : Int) zs = true) (ha : a < p) (hb : b < p) : flowB zs p a b = directB zs a b := by
  unfold flowB
  rw [hok, inB_true.2 ⟨by omega, by omega⟩, inB_true.2 ⟨by omega, by omega⟩]; rfl
theorem RetB.own {w w' : World} {zs : List Bool} {g n : Nat} (ho : w'.ownsRow w.heap.size 4 1 (.slice (some ⟨g, 0, none⟩) n n) n (bools zs)) (hb : Below w.heap.size w w') : RetB w zs (.returned (.slice (some ⟨g, 0, none⟩) n n)) w' := by
  have hl : zs.length = n := by have := ho.1; rw [bools_len] at this; omega
  subst hl
  exact ⟨_, _, rfl, Fr.of_own ho, hb⟩
theorem own_baseB {w : World} {base base' : Nat} {e : TypeId} {size : Nat} {v : Value} {n : Nat} {xs : List Value} (h : w.ownsRow base e size v n xs) (hb : base' ≤ base) : w.ownsRow base' e size v n xs := by
  refine ⟨h.1, ?_⟩
  rcases h.2 with h2 | ⟨g, cap, cur, hv, hbg, r⟩
  · exact .inl h2
  · exact .inr ⟨g, cap, cur, hv, by omega, r⟩
theorem made_bools (n : Nat) : (madeCells (Value.bool false).cells (n * 1)).toList = bools (List.replicate n false) := made_rows (f := boolC) boolC_len (by omega) false _ rfl n
theorem made_bools2 (n : Nat) : (madeCells #[Value.bool false] n).toList = bools (List.replicate n false) := by have := made_bools n; rwa [Nat.mul_one] at this
set_option maxRecDepth 100000 in
set_option maxHeartbeats 8000000 in
theorem iflows_any (A : Option Addr) (na c : Nat) (zs : List Chan) (p n : Nat) (w : World) (hm : na ≤ 1048577) (hp5 : p ≤ 5) (hnp : n < p) (hr : Rd w 4 A na (chans zs)) :
    Calls Try.prog 69 #[.slice A na c, .int .i64 (p : Int), .int .i64 (n : Int)] w (fun e w' => RetB w (flowsB zs p n) e w') := by
  obtain ⟨i0, hi, hz0, hz1, hz2⟩ := info_parts Try.infoBool
  have HR := Lib.hid hr
  clear hr
  have HB0 : Hid (Below w.heap.size w w) := Below.refl _ _
  go_enter Try.func69, Try.ntmps69
  obtain ⟨L0, hL0⟩ : ∃ L0, L0 = (List.replicate p false).set n true := ⟨_, rfl⟩
  have HL0 := Lib.hid hL0
  clear hL0
  go_wp2_with (at_make; refine wpList_make_full _ rfl _ _ 60 rfl w.heap.size 4 i0 (.bool false) 1 Try.underlying60 hi hz0 hz1 _ _ _ _ p rfl rfl rfl rfl ?b2 ?b3 (Nat.le_refl _) ?_)
  case b2 => first | omega | (rw [hz2]; omega)
  case b3 => unfold maxLen; omega
  intro w2 hown2 hgrow2
  have HG2 := Lib.hid hgrow2
  have hown3 : w2.ownsRow w.heap.size 4 1 (.slice (some ⟨w.heap.size, 0, none⟩) p p) p (bools (List.replicate p false)) := by
    first | (rw [← made_bools]; exact hown2) | (rw [← made_bools2]; exact hown2)
  have HO2 := Lib.hid hown3
  have hl2 := (own_one hown3).2.1
  have t2 : w2.cell? ⟨w.heap.size, n, none⟩ = some (.bool false) := by rw [hown3.cellAt n (by omega), bools_at, List.getElem?_replicate, if_pos hnp]; rfl
  have f2 := hown3.frozenAt n
  clear hown2 hown3 hgrow2
  go_wp2
  have HB2 : Hid (Below w.heap.size w w2) := Below.grown (HB0.out) HG2.out (by have := (HB0.out).size; omega) (fun k h => by cases h)
  have HO3 : Hid ((w2.setCell ⟨w.heap.size, n, none⟩ (.bool true)).ownsRow w.heap.size 4 1 (.slice (some ⟨w.heap.size, 0, none⟩) p p) p (bools L0)) := by
    show World.ownsRow _ _ _ _ _ _ _
    have h := (HO2.out.stored n (.bool true)).1
    rw [bools_set _ n true (by simp; omega)] at h
    rw [HL0.out]; exact h
  have HB3 : Hid (Below w.heap.size w (w2.setCell ⟨w.heap.size, n, none⟩ (.bool true))) := HB2.out.setCell (by have := (HB0.out).size; first | (simp; done) | (simp; omega)) _
  have HLL0 : Hid (L0.length = p) := by show _ = _; rw [HL0.out]; simp
  clear t2 f2 hl2
  go_loopw [16] (fun r wr => ∃ (k : Nat) (l : List Bool), k ≤ p ∧ r = .int .i64 k ∧ Hid (l = (List.range k).foldl (roundB zs p) L0) ∧ Hid (l.length = p) ∧ Hid (wr.ownsRow w.heap.size 4 1 (.slice (some ⟨w.heap.size, 0, none⟩) p p) p (bools l)) ∧ Hid (Below w.heap.size w wr)) (fun r _ => p - (intOf r).toNat)
  case atStart => exact ⟨0, L0, Nat.zero_le _, rfl, by show _ = _; rfl, HLL0, HO3, HB3⟩
  case round =>
    obtain ⟨k, l, hk, rfl, HL, HLL, HO, HB⟩ := hrel
    obtain ⟨wo, rfl⟩ : ∃ wo : World, wo = wr := ⟨_, rfl⟩
    by_cases hlt : k < p
    · go_wp2
      go_loopw [19] (fun a wi => ∃ (i : Nat) (m : List Bool), i ≤ p ∧ a = .int .i64 i ∧ Hid (m = (List.range i).foldl (rowB zs p) l) ∧ Hid (m.length = p) ∧ Hid (wi.ownsRow w.heap.size 4 1 (.slice (some ⟨w.heap.size, 0, none⟩) p p) p (bools m)) ∧ Hid (Below w.heap.size w wi)) (fun a _ => p - (intOf a).toNat)
      case atStart => exact ⟨0, l, Nat.zero_le _, rfl, by show _ = _; rfl, HLL, HO, HB⟩
      case round =>
        obtain ⟨i, m, hi0, rfl, HM, HML, HOi, HBi⟩ := hrel
        obtain ⟨wi, rfl⟩ : ∃ wi : World, wi = wr := ⟨_, rfl⟩
        by_cases hit : i < p
        · go_wp2
          go_loopw [23] (fun b wj => ∃ (j : Nat) (q : List Bool), j ≤ p ∧ b = .int .i64 j ∧ Hid (q = (List.range j).foldl (stepB zs i) m) ∧ Hid (q.length = p) ∧ Hid (wj.ownsRow w.heap.size 4 1 (.slice (some ⟨w.heap.size, 0, none⟩) p p) p (bools q)) ∧ Hid (Below w.heap.size w wj)) (fun b _ => p - (intOf b).toNat)
          case atStart => exact ⟨0, m, Nat.zero_le _, rfl, by show _ = _; rfl, HML, HOi, HBi⟩
          case round =>
            obtain ⟨j, q, hj0, rfl, HQ, HQL, HOj, HBj⟩ := hrel
            obtain ⟨wj, rfl⟩ : ∃ wj : World, wj = wr := ⟨_, rfl⟩
            by_cases hjt : j < p
            · obtain ⟨x, hx⟩ : ∃ x, q[i]? = some x := ⟨_, List.getElem?_eq_getElem (by rw [HQL.out]; exact hit)⟩
              obtain ⟨y, hy⟩ : ∃ y, q[j]? = some y := ⟨_, List.getElem?_eq_getElem (by rw [HQL.out]; exact hjt)⟩
              have HX := Lib.hid hx
              have HY := Lib.hid hy
              clear hx hy
              have c1 : wj.cell? ⟨w.heap.size, i, none⟩ = some (.bool x) := by rw [HOj.out.cellAt i (by omega), bools_at, HX.out]; rfl
              have c2 : wj.cell? ⟨w.heap.size, j, none⟩ = some (.bool y) := by rw [HOj.out.cellAt j (by omega), bools_at, HY.out]; rfl
              have f1 := HOj.out.frozenAt i
              have lb := (own_one HOj.out).2.1
              have hsb : w.heap.size ≤ w.heap.size := by have := (HB0.out).size; omega
              cases x
              · cases y
                · have HN : Hid (q.set i false = (List.range (j + 1)).foldl (stepB zs i) m) := by show _ = _; rw [foldl_snoc, ← HQ.out, stepB_val HX.out HY.out (V := false) rfl]
                  go_wp2
                  go_roundw
                  case rel => exact ⟨j + 1, q.set i false, by omega, by go_num, HN, by show _ = _; rw [List.length_set]; exact HQL.out, by show World.ownsRow _ _ _ _ _ _ _; rw [← bools_set q i false (by rw [HQL.out]; exact hit)]; exact (HOj.out.stored i (.bool false)).1, HBj.out.setCell hsb _⟩
                  case measure => simp [intOf]; omega
                · cases hd : directB zs i j
                  all_goals
                    have HD := Lib.hid hd
                    clear hd
                    go_wp2_with fail
                    refine (idirect_is HD.out _ hm (HR.out.below (Nat.le_refl _) HBj.out)).mono ?_
                    rintro e w5 ⟨rfl, hb5⟩
                    have HO5 := Lib.hid (own_below hb5 (Nat.le_refl _) HOj.out)
                    have HB5 := Lib.hid (Below.andThen HBj.out hb5)
                    clear hb5 c1 c2 f1 lb
                    have c1 : w5.cell? ⟨w.heap.size, i, none⟩ = some (.bool false) := by rw [HO5.out.cellAt i (by omega), bools_at, HX.out]; rfl
                    have f1 := HO5.out.frozenAt i
                    have lb := (own_one HO5.out).2.1
                  · have HN : Hid (q.set i false = (List.range (j + 1)).foldl (stepB zs i) m) := by show _ = _; rw [foldl_snoc, ← HQ.out, stepB_val HX.out HY.out (V := false) (by rw [HD.out]; rfl)]
                    go_wp2
                    go_roundw
                    case rel => exact ⟨j + 1, q.set i false, by omega, by go_num, HN, by show _ = _; rw [List.length_set]; exact HQL.out, by show World.ownsRow _ _ _ _ _ _ _; rw [← bools_set q i false (by rw [HQL.out]; exact hit)]; exact (HO5.out.stored i (.bool false)).1, HB5.out.setCell hsb _⟩
                    case measure => simp [intOf]; omega
                  · have HN : Hid (q.set i true = (List.range (j + 1)).foldl (stepB zs i) m) := by show _ = _; rw [foldl_snoc, ← HQ.out, stepB_val HX.out HY.out (V := true) (by rw [HD.out]; rfl)]
                    go_wp2
                    go_roundw
                    case rel => exact ⟨j + 1, q.set i true, by omega, by go_num, HN, by show _ = _; rw [List.length_set]; exact HQL.out, by show World.ownsRow _ _ _ _ _ _ _; rw [← bools_set q i true (by rw [HQL.out]; exact hit)]; exact (HO5.out.stored i (.bool true)).1, HB5.out.setCell hsb _⟩
                    case measure => simp [intOf]; omega
              · have HN : Hid (q.set i true = (List.range (j + 1)).foldl (stepB zs i) m) := by show _ = _; rw [foldl_snoc, ← HQ.out, stepB_val HX.out HY.out (V := true) rfl]
                go_wp2
                go_roundw
                case rel => exact ⟨j + 1, q.set i true, by omega, by go_num, HN, by show _ = _; rw [List.length_set]; exact HQL.out, by show World.ownsRow _ _ _ _ _ _ _; rw [← bools_set q i true (by rw [HQL.out]; exact hit)]; exact (HOj.out.stored i (.bool true)).1, HBj.out.setCell hsb _⟩
                case measure => simp [intOf]; omega
            · have hjp : j = p := by omega
              have h9 := HQ.out
              rw [hjp] at h9
              have H9 : Hid (q = (List.range (i + 1)).foldl (rowB zs p) l) := by show _ = _; rw [foldl_snoc, ← HM.out]; exact h9
              clear h9
              go_wp2
              go_roundw
              case rel => exact ⟨i + 1, q, by omega, by go_num, H9, HQL, HOj, HBj⟩
              case measure => simp [intOf]; omega
        · have hip : i = p := by omega
          have h9 := HM.out
          rw [hip] at h9
          have H9 : Hid (m = (List.range (k + 1)).foldl (roundB zs p) L0) := by show _ = _; rw [foldl_snoc, ← HL.out]; exact h9
          clear h9
          go_wp2
          go_roundw
          case rel => exact ⟨k + 1, m, by omega, by go_num, H9, HML, HOi, HBi⟩
          case measure => simp [intOf]; omega
    · have hkp : k = p := by omega
      have h9 := HL.out
      rw [hkp, HL0.out] at h9
      have H9 : Hid (l = flowsB zs p n) := h9
      clear h9
      go_wp2
      go_ret
      rw [← H9.out]
      exact RetB.own (own_baseB HO.out (by have := (HB0.out).size; omega)) HB.out
set_option maxRecDepth 100000 in
set_option maxHeartbeats 4000000 in
theorem iFlowsTo_any (A : Option Addr) (na c : Nat) (zs : List Chan) (parts n : Int) (w : World) (hm : na ≤ 1048577) (hr : Rd w 4 A na (chans zs)) :
    Calls Try.prog 44 #[.slice A na c, .int .i64 parts, .int .i64 n] w (fun e w' => RetB w (flowsL zs parts n) e w') := by
  have HR := Lib.hid hr
  clear hr
  cases hok : chansOk parts zs
  · have HE : Hid (flowsL zs parts n = []) := by show _ = _; unfold flowsL; rw [if_neg (by rw [hok]; simp)]
    rw [HE.out]
    go_enter Try.func44, Try.ntmps44
    go_wp2_with fail
    refine (iChannelsValid_is hok _ hm HR.out).mono ?_
    rintro e w1 ⟨rfl, hb1⟩
    go_wp2
    go_ret
    exact ⟨_, _, rfl, Fr.nil_, hb1⟩
  · obtain ⟨hp0, hp1⟩ := chansOk_parts hok
    cases h1 : inB n 0 (parts - 1)
    · have HE : Hid (flowsL zs parts n = []) := by show _ = _; unfold flowsL; rw [if_neg (by rw [h1]; simp)]
      rw [HE.out]
      go_enter Try.func44, Try.ntmps44
      go_wp2_with fail
      refine (iChannelsValid_is hok _ hm HR.out).mono ?_
      rintro e w1 ⟨rfl, hb1⟩
      go_wp2_with fail
      refine (in_is h1 _).mono ?_
      rintro e _ ⟨rfl, rfl⟩
      go_wp2
      go_ret
      exact ⟨_, _, rfl, Fr.nil_, hb1⟩
    · obtain ⟨hn0, hn1⟩ := inB_true.1 h1
      have hE : flowsL zs parts n = flowsB zs parts.toNat n.toNat := by unfold flowsL; rw [if_pos (by rw [hok, h1]; rfl)]
      obtain ⟨p, rfl⟩ : ∃ p : Nat, parts = (p : Int) := ⟨parts.toNat, by omega⟩
      obtain ⟨m, rfl⟩ : ∃ m : Nat, n = (m : Int) := ⟨n.toNat, by omega⟩
      simp only [Int.toNat_natCast] at hE
      obtain ⟨R, hR⟩ : ∃ R, R = flowsB zs p m := ⟨_, rfl⟩
      rw [hE, ← hR]
      have HRR := Lib.hid hR
      clear hR hE
      go_enter Try.func44, Try.ntmps44
      go_wp2_with fail
      refine (iChannelsValid_is hok _ hm HR.out).mono ?_
      rintro e w1 ⟨rfl, hb1⟩
      have HB1 := Lib.hid hb1
      clear hb1
      go_wp2_with fail
      refine (in_is h1 _).mono ?_
      rintro e _ ⟨rfl, rfl⟩
      go_wp2_with fail
      refine (iflows_any A na c zs p m _ hm (by omega) (by omega) (HR.out.below (Nat.le_refl _) HB1.out)).mono ?_
      rw [← HRR.out]
      rintro e w2 ⟨A2, c2, rfl, hf2, hb2⟩
      have HF2 := Lib.hid (hf2.wide (lo' := w.heap.size) (hi' := w2.heap.size) HB1.out.size (Nat.le_refl _))
      have HB2 := Lib.hid (Below.andThen HB1.out hb2)
      clear hb2 hf2
      go_wp2
      go_ret
      exact ⟨_, _, rfl, HF2.out, HB2.out⟩
set_option maxRecDepth 100000 in
set_option maxHeartbeats 8000000 in
theorem sFlowsTo_any (A : Option Addr) (na c : Nat) (zs : List Chan) (parts nn : Int) (w : World) (hm : na ≤ 1048577) (hr : Rd w 4 A na (chans zs)) :
    Calls Try.prog 43 #[.slice A na c, .int .i64 parts, .int .i64 nn] w (fun e w' => RetB w (flowsL zs parts nn) e w') := by
  obtain ⟨i0, hi, hz0, hz1, hz2⟩ := info_parts Try.infoBool
  have HR := Lib.hid hr
  clear hr
  cases hok : chansOk parts zs
  · have HE : Hid (flowsL zs parts nn = []) := by show _ = _; unfold flowsL; rw [if_neg (by rw [hok]; simp)]
    rw [HE.out]
    go_enter Try.func43, Try.ntmps43
    go_wp2_with fail
    refine (sChannelsValid_is hok _ hm HR.out).mono ?_
    rintro e w1 ⟨rfl, hb1⟩
    have HB1 := Lib.hid hb1
    have hs1 := hb1.size
    clear hb1
    go_wp2
    go_ret
    exact ⟨_, _, rfl, Fr.nil_, HB1.out.alloc hs1 _⟩
  · obtain ⟨hp0, hp1⟩ := chansOk_parts hok
    cases h1 : inB nn 0 (parts - 1)
    · have HE : Hid (flowsL zs parts nn = []) := by show _ = _; unfold flowsL; rw [if_neg (by rw [h1]; simp)]
      rw [HE.out]
      go_enter Try.func43, Try.ntmps43
      go_wp2_with fail
      refine (sChannelsValid_is hok _ hm HR.out).mono ?_
      rintro e w1 ⟨rfl, hb1⟩
      have HB1 := Lib.hid hb1
      have hs1 := hb1.size
      clear hb1
      go_wp2_with fail
      refine (l1In_is h1 _).mono ?_
      rintro e _ ⟨rfl, rfl⟩
      go_wp2
      go_ret
      exact ⟨_, _, rfl, Fr.nil_, HB1.out.alloc hs1 _⟩
    · obtain ⟨hn0, hn1⟩ := inB_true.1 h1
      have hE : flowsL zs parts nn = flowsB zs parts.toNat nn.toNat := by unfold flowsL; rw [if_pos (by rw [hok, h1]; rfl)]
      obtain ⟨p, rfl⟩ : ∃ p : Nat, parts = (p : Int) := ⟨parts.toNat, by omega⟩
      obtain ⟨n, rfl⟩ : ∃ m : Nat, nn = (m : Int) := ⟨nn.toNat, by omega⟩
      simp only [Int.toNat_natCast] at hE
      have HE := Lib.hid hE
      have HOK := Lib.hid hok
      have hp5 : p ≤ 5 := by omega
      have hnp : n < p := by omega
      clear hE
      go_enter Try.func43, Try.ntmps43
      go_wp2_with fail
      refine (sChannelsValid_is hok _ hm HR.out).mono ?_
      rintro e w1 ⟨rfl, hb1⟩
      have HB1 := Lib.hid hb1
      clear hb1
      go_wp2_with fail
      refine (l1In_is h1 _).mono ?_
      rintro e _ ⟨rfl, rfl⟩
      clear h1 hok
      obtain ⟨L0, hL0⟩ : ∃ L0, L0 = (List.replicate p false).set n true := ⟨_, rfl⟩
      have HL0 := Lib.hid hL0
      clear hL0
      go_wp2_with (at_make; refine wpList_make_full _ rfl _ _ 60 rfl w1.heap.size 4 i0 (.bool false) 1 Try.underlying60 hi hz0 hz1 _ _ _ _ p rfl rfl rfl rfl ?b2 ?b3 (Nat.le_refl _) ?_)
      case b2 => first | omega | (rw [hz2]; omega)
      case b3 => unfold maxLen; omega
      intro w2 hown2 hgrow2
      have HG2 := Lib.hid hgrow2
      have hown3 : w2.ownsRow w1.heap.size 4 1 (.slice (some ⟨w1.heap.size, 0, none⟩) p p) p (bools (List.replicate p false)) := by
        first | (rw [← made_bools]; exact hown2) | (rw [← made_bools2]; exact hown2)
      have HO2 := Lib.hid hown3
      have hl2 := (own_one hown3).2.1
      have t2 : w2.cell? ⟨w1.heap.size, n, none⟩ = some (.bool false) := by rw [hown3.cellAt n (by omega), bools_at, List.getElem?_replicate, if_pos hnp]; rfl
      have f2 := hown3.frozenAt n
      clear hown2 hown3 hgrow2
      go_wp2
      have HB2 : Hid (Below w.heap.size w w2) := Below.grown (HB1.out) HG2.out (by have := (HB1.out).size; omega) (fun k h => by cases h)
      have HO3 : Hid ((w2.setCell ⟨w1.heap.size, n, none⟩ (.bool true)).ownsRow w1.heap.size 4 1 (.slice (some ⟨w1.heap.size, 0, none⟩) p p) p (bools L0)) := by
        show World.ownsRow _ _ _ _ _ _ _
        have h := (HO2.out.stored n (.bool true)).1
        rw [bools_set _ n true (by simp; omega)] at h
        rw [HL0.out]; exact h
      have HB3 : Hid (Below w.heap.size w (w2.setCell ⟨w1.heap.size, n, none⟩ (.bool true))) := HB2.out.setCell (by have := (HB1.out).size; first | (simp; done) | (simp; omega)) _
      have HLL0 : Hid (L0.length = p) := by show _ = _; rw [HL0.out]; simp
      clear t2 f2 hl2
      go_loopw [8] (fun r wr => ∃ (k : Nat) (l : List Bool), k ≤ p ∧ r = .int .i64 k ∧ Hid (l = (List.range k).foldl (roundB zs p) L0) ∧ Hid (l.length = p) ∧ Hid (wr.ownsRow w1.heap.size 4 1 (.slice (some ⟨w1.heap.size, 0, none⟩) p p) p (bools l)) ∧ Hid (Below w.heap.size w wr)) (fun r _ => p - (intOf r).toNat)
      case atStart => exact ⟨0, L0, Nat.zero_le _, rfl, by show _ = _; rfl, HLL0, HO3, HB3⟩
      case round =>
        obtain ⟨k, l, hk, rfl, HL, HLL, HO, HB⟩ := hrel
        obtain ⟨wo, rfl⟩ : ∃ wo : World, wo = wr := ⟨_, rfl⟩
        by_cases hlt : k < p
        · go_wp2
          go_loopw [9] (fun a wi => ∃ (i : Nat) (m : List Bool), i ≤ p ∧ a = .int .i64 i ∧ Hid (m = (List.range i).foldl (rowB zs p) l) ∧ Hid (m.length = p) ∧ Hid (wi.ownsRow w1.heap.size 4 1 (.slice (some ⟨w1.heap.size, 0, none⟩) p p) p (bools m)) ∧ Hid (Below w.heap.size w wi)) (fun a _ => p - (intOf a).toNat)
          case atStart => exact ⟨0, l, Nat.zero_le _, rfl, by show _ = _; rfl, HLL, HO, HB⟩
          case round =>
            obtain ⟨i, m, hi0, rfl, HM, HML, HOi, HBi⟩ := hrel
            obtain ⟨wi, rfl⟩ : ∃ wi : World, wi = wr := ⟨_, rfl⟩
            by_cases hit : i < p
            · go_wp2
              go_loopw [10] (fun b wj => ∃ (j : Nat) (q : List Bool), j ≤ p ∧ b = .int .i64 j ∧ Hid (q = (List.range j).foldl (stepB zs i) m) ∧ Hid (q.length = p) ∧ Hid (wj.ownsRow w1.heap.size 4 1 (.slice (some ⟨w1.heap.size, 0, none⟩) p p) p (bools q)) ∧ Hid (Below w.heap.size w wj)) (fun b _ => p - (intOf b).toNat)
              case atStart => exact ⟨0, m, Nat.zero_le _, rfl, by show _ = _; rfl, HML, HOi, HBi⟩
              case round =>
                obtain ⟨j, q, hj0, rfl, HQ, HQL, HOj, HBj⟩ := hrel
                obtain ⟨wj, rfl⟩ : ∃ wj : World, wj = wr := ⟨_, rfl⟩
                by_cases hjt : j < p
                · obtain ⟨x, hx⟩ : ∃ x, q[i]? = some x := ⟨_, List.getElem?_eq_getElem (by rw [HQL.out]; exact hit)⟩
                  obtain ⟨y, hy⟩ : ∃ y, q[j]? = some y := ⟨_, List.getElem?_eq_getElem (by rw [HQL.out]; exact hjt)⟩
                  have HX := Lib.hid hx
                  have HY := Lib.hid hy
                  clear hx hy
                  have c1 : wj.cell? ⟨w1.heap.size, i, none⟩ = some (.bool x) := by rw [HOj.out.cellAt i (by omega), bools_at, HX.out]; rfl
                  have c2 : wj.cell? ⟨w1.heap.size, j, none⟩ = some (.bool y) := by rw [HOj.out.cellAt j (by omega), bools_at, HY.out]; rfl
                  have f1 := HOj.out.frozenAt i
                  have lb := (own_one HOj.out).2.1
                  have hsb : w.heap.size ≤ w1.heap.size := by have := (HB1.out).size; omega
                  cases x
                  · cases y
                    · have HN : Hid (q.set i false = (List.range (j + 1)).foldl (stepB zs i) m) := by show _ = _; rw [foldl_snoc, ← HQ.out, stepB_val HX.out HY.out (V := false) rfl]
                      go_wp2
                      go_roundw
                      case rel => exact ⟨j + 1, q.set i false, by omega, by go_num, HN, by show _ = _; rw [List.length_set]; exact HQL.out, by show World.ownsRow _ _ _ _ _ _ _; rw [← bools_set q i false (by rw [HQL.out]; exact hit)]; exact (HOj.out.stored i (.bool false)).1, HBj.out.setCell hsb _⟩
                      case measure => simp [intOf]; omega
                    · cases hd : directB zs i j
                      all_goals
                        have HD := Lib.hid hd
                        clear hd
                        go_wp2_with fail
                        refine (sFlowDirect_is ((flowB_at HOK.out hit hjt).trans HD.out) _ hm (HR.out.below (Nat.le_refl _) HBj.out)).mono ?_
                        rintro e w5 ⟨rfl, hb5⟩
                        have HO5 := Lib.hid (own_below hb5 (Nat.le_refl _) HOj.out)
                        have HB5 := Lib.hid (Below.andThen HBj.out hb5)
                        clear hb5 c1 c2 f1 lb
                        have c1 : w5.cell? ⟨w1.heap.size, i, none⟩ = some (.bool false) := by rw [HO5.out.cellAt i (by omega), bools_at, HX.out]; rfl
                        have f1 := HO5.out.frozenAt i
                        have lb := (own_one HO5.out).2.1
                      · have HN : Hid (q.set i false = (List.range (j + 1)).foldl (stepB zs i) m) := by show _ = _; rw [foldl_snoc, ← HQ.out, stepB_val HX.out HY.out (V := false) (by rw [HD.out]; rfl)]
                        go_wp2
                        go_roundw
                        case rel => exact ⟨j + 1, q.set i false, by omega, by go_num, HN, by show _ = _; rw [List.length_set]; exact HQL.out, by show World.ownsRow _ _ _ _ _ _ _; rw [← bools_set q i false (by rw [HQL.out]; exact hit)]; exact (HO5.out.stored i (.bool false)).1, HB5.out.setCell hsb _⟩
                        case measure => simp [intOf]; omega
                      · have HN : Hid (q.set i true = (List.range (j + 1)).foldl (stepB zs i) m) := by show _ = _; rw [foldl_snoc, ← HQ.out, stepB_val HX.out HY.out (V := true) (by rw [HD.out]; rfl)]
                        go_wp2
                        go_roundw
                        case rel => exact ⟨j + 1, q.set i true, by omega, by go_num, HN, by show _ = _; rw [List.length_set]; exact HQL.out, by show World.ownsRow _ _ _ _ _ _ _; rw [← bools_set q i true (by rw [HQL.out]; exact hit)]; exact (HO5.out.stored i (.bool true)).1, HB5.out.setCell hsb _⟩
                        case measure => simp [intOf]; omega
                  · have HN : Hid (q.set i true = (List.range (j + 1)).foldl (stepB zs i) m) := by show _ = _; rw [foldl_snoc, ← HQ.out, stepB_val HX.out HY.out (V := true) rfl]
                    go_wp2
                    go_roundw
                    case rel => exact ⟨j + 1, q.set i true, by omega, by go_num, HN, by show _ = _; rw [List.length_set]; exact HQL.out, by show World.ownsRow _ _ _ _ _ _ _; rw [← bools_set q i true (by rw [HQL.out]; exact hit)]; exact (HOj.out.stored i (.bool true)).1, HBj.out.setCell hsb _⟩
                    case measure => simp [intOf]; omega
                · have hjp : j = p := by omega
                  have h9 := HQ.out
                  rw [hjp] at h9
                  have H9 : Hid (q = (List.range (i + 1)).foldl (rowB zs p) l) := by show _ = _; rw [foldl_snoc, ← HM.out]; exact h9
                  clear h9
                  go_wp2
                  go_roundw
                  case rel => exact ⟨i + 1, q, by omega, by go_num, H9, HQL, HOj, HBj⟩
                  case measure => simp [intOf]; omega
            · have hip : i = p := by omega
              have h9 := HM.out
              rw [hip] at h9
              have H9 : Hid (m = (List.range (k + 1)).foldl (roundB zs p) L0) := by show _ = _; rw [foldl_snoc, ← HL.out]; exact h9
              clear h9
              go_wp2
              go_roundw
              case rel => exact ⟨k + 1, m, by omega, by go_num, H9, HML, HOi, HBi⟩
              case measure => simp [intOf]; omega
        · have hkp : k = p := by omega
          have h9 := HL.out
          rw [hkp, HL0.out] at h9
          have H9 : Hid (l = flowsB zs p n) := h9
          clear h9
          go_wp2
          go_ret
          rw [HE.out, ← H9.out]
          exact RetB.own (own_baseB HO.out (by have := (HB1.out).size; omega)) HB.out
end Go.Proofs.Ytelfabidehhfoaa
