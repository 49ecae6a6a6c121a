/-
  CONTRACTS of WindowsClash.
  Conditions: none beyond those that each states.
-/
import Derived.Test.YtlckjhbgdbhdmaaMeet2
import Derived.Deep.DeepCutAuto
namespace Go.Proofs.Ytlckjhbgdbhdmaa
open Go.ChangeShapes Go.WideShapes Go.ChangeAt Go.RowKit Go.Joins
set_option linter.unusedVariables false

def clashP (x y : Win) : Bool := meetB x y && (x.2.2 || y.2.2)
def clashB (a b : List Win) : Bool := a.any fun x => b.any fun y => clashP x y
def winsClash (a b : List Win) : Bool := winsOk a && (winsOk b && clashB a b)
theorem winsOk_len {zs : List Win} (h : winsOk zs = true) : zs.length ≤ 12 := by
  unfold winsOk at h
  rw [Bool.and_eq_true, decide_eq_true_eq] at h
  exact h.1
theorem winsOk_at {zs : List Win} {k : Nat} {x : Win} (h : winsOk zs = true) (hx : zs[k]? = some x) : winOk x = true := by
  unfold winsOk at h
  rw [Bool.and_eq_true] at h
  exact List.all_eq_true.1 h.2 x (List.mem_of_getElem? hx)
theorem any_snocB {α : Type} {zs : List α} {p : α → Bool} {k : Nat} {x : α} (hx : zs[k]? = some x) (hk : (zs.take k).any p = false) (hp : p x = false) : (zs.take (k + 1)).any p = false := by
  rw [take_snoc hx, List.any_append, hk]; simp [hp]
theorem any_hitB {α : Type} {zs : List α} {p : α → Bool} {k : Nat} {x : α} (hx : zs[k]? = some x) (hp : p x = true) : zs.any p = true :=
  List.any_eq_true.2 ⟨x, List.mem_of_getElem? hx, hp⟩
theorem clash_hit {xs ys : List Win} {k q : Nat} {x y : Win} (hx : xs[k]? = some x) (hy : ys[q]? = some y) (h : clashP x y = true) : clashB xs ys = true :=
  any_hitB (p := fun x => ys.any fun y => clashP x y) hx (any_hitB hy h)
set_option maxRecDepth 100000 in
set_option maxHeartbeats 8000000 in
theorem iclash_any (A : Option Addr) (n c : Nat) (xs : List Win) (B : Option Addr) (m d : Nat) (ys : List Win) (w : World) (h1 : winsOk xs = true) (h2 : winsOk ys = true) (hra : Rd w 3 A n (wins xs)) (hrb : Rd w 3 B m (wins ys)) :
    Calls Try.prog 73 #[.slice A n c, .slice B m d] w fun e w' => e = .returned (.bool (clashB xs ys)) ∧ Below w.heap.size w w' := by
  have hla := Lib.hid hra.winsLen
  have hlb := Lib.hid hrb.winsLen
  have hn : n ≤ 12 := by have := winsOk_len h1; rw [hla.out] at this; exact this
  have hm : m ≤ 12 := by have := winsOk_len h2; rw [hlb.out] at this; exact this
  have HA := Lib.hid hra
  have HB := Lib.hid hrb
  have H1 := Lib.hid h1
  have H2 := Lib.hid h2
  clear hra hrb h1 h2
  go_enter Try.func73, Try.ntmps73
  go_wp2
  go_loopw [13] (fun i wr => ∃ k : Nat, k ≤ n ∧ i = .int .i64 k ∧ Hid ((xs.take k).any (fun x => ys.any fun y => clashP x y) = false) ∧ Below w.heap.size w wr) (fun i _ => n - (intOf i).toNat)
  case atStart => exact ⟨0, Nat.zero_le _, rfl, by show _ = false; simp, Below.refl _ _⟩
  case round =>
    obtain ⟨k, hk, rfl, HK, hb⟩ := hrel
    obtain ⟨wo, rfl⟩ : ∃ wo : World, wo = wr := ⟨_, rfl⟩
    by_cases hlt : k < n
    · obtain ⟨g, o, a, s, u, rfl, hgl, hx, h0, h1, h2⟩ := HA.out.win hlt
      have j0 := (hb.cell (p := ⟨g, o + k * 3, none⟩) hgl).trans h0
      have j1 := (hb.cell (p := ⟨g, o + k * 3 + 1, none⟩) hgl).trans h1
      have j2 := (hb.cell (p := ⟨g, o + k * 3 + 2, none⟩) hgl).trans h2
      have HX := Lib.hid hx
      have HB0 := Lib.hid hb
      have hs0 := hb.size
      clear h0 h1 h2 hx hb
      go_wp2
      clear j0 j1 j2
      go_loopw [19] (fun j wi => ∃ q : Nat, q ≤ m ∧ j = .int .i64 q ∧ Hid ((ys.take q).any (clashP (a, s, u)) = false) ∧ Hid (Blk wi wo.heap.size 71 #[.int .i64 a, .int .i64 s, .bool u]) ∧ Below w.heap.size w wi) (fun j _ => m - (intOf j).toNat)
      case atStart => exact ⟨0, Nat.zero_le _, rfl, by show _ = false; simp, Blk.at_ _ _ _ rfl, HB0.out.alloc hs0 _⟩
      case round =>
        obtain ⟨q, hq, rfl, HQ, HBX, hb⟩ := hrel
        obtain ⟨wi, rfl⟩ : ∃ wi : World, wi = wr := ⟨_, rfl⟩
        have x0 : wi.cell? ⟨wo.heap.size, 0, none⟩ = some (.int .i64 a) := HBX.out.cell 0 rfl
        have x1 : wi.cell? ⟨wo.heap.size, 1, none⟩ = some (.int .i64 s) := HBX.out.cell 1 rfl
        have x2 : wi.cell? ⟨wo.heap.size, 2, none⟩ = some (.bool u) := HBX.out.cell 2 rfl
        have lx := HBX.out.lt
        by_cases hqt : q < m
        · obtain ⟨g', o', b, t, v, rfl, hgl', hy, h0, h1, h2⟩ := HB.out.win hqt
          have j0 := (hb.cell (p := ⟨g', o' + q * 3, none⟩) hgl').trans h0
          have j1 := (hb.cell (p := ⟨g', o' + q * 3 + 1, none⟩) hgl').trans h1
          have j2 := (hb.cell (p := ⟨g', o' + q * 3 + 2, none⟩) hgl').trans h2
          have HY := Lib.hid hy
          have HBI := Lib.hid hb
          have hs1 := hb.size
          clear h0 h1 h2 hy hb
          obtain ⟨⟨m0, m1, m2⟩, hM⟩ : ∃ M, M = meetV (a, s, u) (b, t, v) := ⟨_, rfl⟩
          have HM := Lib.hid hM
          obtain ⟨K, hK⟩ : ∃ K, K = meetB (a, s, u) (b, t, v) := ⟨_, rfl⟩
          have HKK := Lib.hid hK
          clear hM hK
          go_wp2_with fail
          refine (meet_yes a s b t u v _ (winsOk_at H1.out HX.out) (winsOk_at H2.out HY.out)).mono ?_
          rw [← HM.out, ← HKK.out]
          rintro e w1 ⟨rfl, hb1⟩
          have hT1 : Below wi.heap.size wi w1 := Below.andThen (by go_grown) hb1
          have HB1 : Hid (Below w.heap.size w w1) := Below.andThen HBI.out hT1
          have HY1 : Hid (Blk w1 wi.heap.size 71 #[.int .i64 b, .int .i64 t, .bool v]) := Blk.below (w' := w1) (Blk.at_ _ _ _ rfl) (Nat.le_refl _) hb1
          have HX1 : Hid (Blk w1 wo.heap.size 71 #[.int .i64 a, .int .i64 s, .bool u]) := HBX.out.below (Nat.le_refl _) hT1
          clear x0 x1 x2 lx j0 j1 j2 hb1 hT1
          have x0 : w1.cell? ⟨wo.heap.size, 0, none⟩ = some (.int .i64 a) := HX1.out.cell 0 rfl
          have x1 : w1.cell? ⟨wo.heap.size, 1, none⟩ = some (.int .i64 s) := HX1.out.cell 1 rfl
          have x2 : w1.cell? ⟨wo.heap.size, 2, none⟩ = some (.bool u) := HX1.out.cell 2 rfl
          have lx := HX1.out.lt
          have y0 : w1.cell? ⟨wi.heap.size, 0, none⟩ = some (.int .i64 b) := HY1.out.cell 0 rfl
          have y1 : w1.cell? ⟨wi.heap.size, 1, none⟩ = some (.int .i64 t) := HY1.out.cell 1 rfl
          have y2 : w1.cell? ⟨wi.heap.size, 2, none⟩ = some (.bool v) := HY1.out.cell 2 rfl
          have ly := HY1.out.lt
          have hs2 := HB1.out.size
          cases K
          · have hP : clashP (a, s, u) (b, t, v) = false := by unfold clashP; rw [← HKK.out]; rfl
            have HP := Lib.hid hP
            clear hP
            go_wp2
            go_roundw
            case rel => exact ⟨q + 1, by omega, by go_num, any_snocB HY.out HQ.out HP.out, HX1.out.alloc _, HB1.out.alloc hs2 _⟩
            case measure => simp [intOf]; omega
          · cases u
            · cases v
              · have hP : clashP (a, s, false) (b, t, false) = false := by unfold clashP; simp
                have HP := Lib.hid hP
                clear hP
                go_wp2
                go_roundw
                case rel => exact ⟨q + 1, by omega, by go_num, any_snocB HY.out HQ.out HP.out, HX1.out.alloc _, HB1.out.alloc hs2 _⟩
                case measure => simp [intOf]; omega
              · have hP : clashP (a, s, false) (b, t, true) = true := by unfold clashP; rw [← HKK.out]; rfl
                have HP := Lib.hid hP
                clear hP
                go_wp2
                go_ret
                exact ⟨by rw [clash_hit HX.out HY.out HP.out] <;> rfl, HB1.out.alloc hs2 _⟩
            · have hP : clashP (a, s, true) (b, t, v) = true := by unfold clashP; rw [← HKK.out]; rfl
              have HP := Lib.hid hP
              clear hP
              go_wp2
              go_ret
              exact ⟨by rw [clash_hit HX.out HY.out HP.out] <;> rfl, HB1.out.alloc hs2 _⟩
        · have hqm : q = m := by omega
          have h9 := HQ.out
          rw [hqm, ← hlb.out, List.take_length] at h9
          have H9 := Lib.hid h9
          clear h9
          go_wp2
          go_roundw
          case rel => exact ⟨k + 1, by omega, by go_num, any_snocB (p := fun x => ys.any fun y => clashP x y) HX.out HK.out H9.out, hb⟩
          case measure => simp [intOf]; omega
    · have hkn : k = n := by omega
      have h9 := HK.out
      rw [hkn, ← hla.out, List.take_length] at h9
      have H9 := Lib.hid h9
      clear h9
      go_wp2
      go_ret
      exact ⟨by rw [show clashB xs ys = false from H9.out] <;> rfl, hb⟩
theorem iclash_is {A : Option Addr} {n c : Nat} {xs : List Win} {B : Option Addr} {m d : Nat} {ys : List Win} {b : Bool} (h : clashB xs ys = b) (w : World) (h1 : winsOk xs = true) (h2 : winsOk ys = true) (hra : Rd w 3 A n (wins xs)) (hrb : Rd w 3 B m (wins ys)) :
    Calls Try.prog 73 #[.slice A n c, .slice B m d] w fun e w' => e = .returned (.bool b) ∧ Below w.heap.size w w' := h ▸ iclash_any A n c xs B m d ys w h1 h2 hra hrb
set_option maxRecDepth 100000 in
set_option maxHeartbeats 8000000 in
theorem sWindowsClash_any (A : Option Addr) (n c : Nat) (xs : List Win) (B : Option Addr) (m d : Nat) (ys : List Win) (w : World) (hn : n ≤ 1048577) (hm : m ≤ 1048577) (hra : Rd w 3 A n (wins xs)) (hrb : Rd w 3 B m (wins ys)) :
    Calls Try.prog 70 #[.slice A n c, .slice B m d] w fun e w' => e = .returned (.bool (winsClash xs ys)) ∧ Below w.heap.size w w' := by
  have hla := Lib.hid hra.winsLen
  have hlb := Lib.hid hrb.winsLen
  have HA := Lib.hid hra
  have HB := Lib.hid hrb
  clear hra hrb
  cases h1 : winsOk xs
  · rw [show winsClash xs ys = false by unfold winsClash; rw [h1]; rfl]
    go_enter Try.func70, Try.ntmps70
    go_wp2_with fail
    refine (sWindowsValid_is h1 _ (by omega) HA.out).mono ?_
    rintro e w1 ⟨rfl, hb1⟩
    go_wp2
    go_ret
    exact ⟨rfl, hb1⟩
  · cases h2 : winsOk ys
    · rw [show winsClash xs ys = false by unfold winsClash; rw [h1, h2]; rfl]
      go_enter Try.func70, Try.ntmps70
      go_wp2_with fail
      refine (sWindowsValid_is h1 _ (by omega) HA.out).mono ?_
      rintro e w1 ⟨rfl, hb1⟩
      have HB1 := Lib.hid hb1
      clear hb1
      go_wp2_with fail
      refine (sWindowsValid_is h2 _ (by omega) (HB.out.below (Nat.le_refl _) HB1.out)).mono ?_
      rintro e w2 ⟨rfl, hb2⟩
      have HB2 := Lib.hid (Below.andThen HB1.out hb2)
      clear hb2
      go_wp2
      go_ret
      exact ⟨rfl, HB2.out⟩
    · have hn : n ≤ 12 := by have := winsOk_len h1; rw [hla.out] at this; exact this
      have hm : m ≤ 12 := by have := winsOk_len h2; rw [hlb.out] at this; exact this
      obtain ⟨V, hV⟩ : ∃ V, V = clashB xs ys := ⟨_, rfl⟩
      rw [show winsClash xs ys = V by unfold winsClash; rw [h1, h2, hV]; rfl]
      have HV := Lib.hid hV
      clear hV
      go_enter Try.func70, Try.ntmps70
      go_wp2_with fail
      refine (sWindowsValid_is h1 _ (by omega) HA.out).mono ?_
      rintro e w1 ⟨rfl, hb1⟩
      have HB1 := Lib.hid hb1
      clear hb1
      go_wp2_with fail
      refine (sWindowsValid_is h2 _ (by omega) (HB.out.below (Nat.le_refl _) HB1.out)).mono ?_
      rintro e w2 ⟨rfl, hb2⟩
      have HB2 := Lib.hid (Below.andThen HB1.out hb2)
      have H1 := Lib.hid h1
      have H2 := Lib.hid h2
      clear hb2 h1 h2
      go_wp2
      go_loopw [5] (fun i wr => ∃ k : Nat, k ≤ n ∧ i = .int .i64 k ∧ Hid ((xs.take k).any (fun x => ys.any fun y => clashP x y) = false) ∧ Below w.heap.size w wr) (fun i _ => n - (intOf i).toNat)
      case atStart => exact ⟨0, Nat.zero_le _, rfl, by show _ = false; simp, HB2.out⟩
      case round =>
        obtain ⟨k, hk, rfl, HK, hb⟩ := hrel
        obtain ⟨wo, rfl⟩ : ∃ wo : World, wo = wr := ⟨_, rfl⟩
        by_cases hlt : k < n
        · obtain ⟨g, o, a, s, u, rfl, hgl, hx, h0, h1, h2⟩ := HA.out.win hlt
          have HX := Lib.hid hx
          have HB0 := Lib.hid hb
          have G0 := Lib.hid h0
          have G1 := Lib.hid h1
          have G2 := Lib.hid h2
          clear h0 h1 h2 hx hb
          go_wp2
          go_loopw [6] (fun j wi => ∃ q : Nat, q ≤ m ∧ j = .int .i64 q ∧ Hid ((ys.take q).any (clashP (a, s, u)) = false) ∧ Below w.heap.size w wi) (fun j _ => m - (intOf j).toNat)
          case atStart => exact ⟨0, Nat.zero_le _, rfl, by show _ = false; simp, HB0.out⟩
          case round =>
            obtain ⟨q, hq, rfl, HQ, hb⟩ := hrel
            obtain ⟨wi, rfl⟩ : ∃ wi : World, wi = wr := ⟨_, rfl⟩
            by_cases hqt : q < m
            · obtain ⟨g', o', b, t, v, rfl, hgl', hy, h0, h1, h2⟩ := HB.out.win hqt
              have i0 := (hb.cell (p := ⟨g, o + k * 3, none⟩) hgl).trans G0.out
              have i1 := (hb.cell (p := ⟨g, o + k * 3 + 1, none⟩) hgl).trans G1.out
              have i2 := (hb.cell (p := ⟨g, o + k * 3 + 2, none⟩) hgl).trans G2.out
              have j0 := (hb.cell (p := ⟨g', o' + q * 3, none⟩) hgl').trans h0
              have j1 := (hb.cell (p := ⟨g', o' + q * 3 + 1, none⟩) hgl').trans h1
              have j2 := (hb.cell (p := ⟨g', o' + q * 3 + 2, none⟩) hgl').trans h2
              have HY := Lib.hid hy
              have HBI := Lib.hid hb
              have hs1 := hb.size
              have F0 := Lib.hid h0
              have F1 := Lib.hid h1
              have F2 := Lib.hid h2
              clear h0 h1 h2 hy hb
              obtain ⟨⟨m0, m1, m2⟩, hM⟩ : ∃ M, M = wmV (a, s, u) (b, t, v) := ⟨_, rfl⟩
              have HM := Lib.hid hM
              obtain ⟨K, hK⟩ : ∃ K, K = wmB (a, s, u) (b, t, v) := ⟨_, rfl⟩
              have HKK := Lib.hid hK
              clear hM hK
              have hk0 : (0 : Int) ≤ (k : Int) := by omega
              have hk1 : (k : Int) < (n : Int) := by omega
              have hq0 : (0 : Int) ≤ (q : Int) := by omega
              have hq1 : (q : Int) < (m : Int) := by omega
              go_upto_region 9 with fail
              go_cut [7, 8] (fun s7 s8 wx => s8 = .bool K ∧ Hid (Below w.heap.size w wx))
              case first =>
                go_region_held3 (fun w' => w'.cell? ⟨g, o + k * 3, none⟩ = some (.int .i64 a) ∧ w'.cell? ⟨g, o + k * 3 + 1, none⟩ = some (.int .i64 s) ∧ w'.cell? ⟨g, o + k * 3 + 2, none⟩ = some (.bool u) ∧ w'.cell? ⟨g', o' + q * 3, none⟩ = some (.int .i64 b) ∧ w'.cell? ⟨g', o' + q * 3 + 1, none⟩ = some (.int .i64 t) ∧ w'.cell? ⟨g', o' + q * 3 + 2, none⟩ = some (.bool v)) (refine ⟨?_, ?_, ?_, ?_, ?_, ?_⟩ <;> (repeat' (first | with_reducible exact i0 | with_reducible exact i1 | with_reducible exact i2 | with_reducible exact j0 | with_reducible exact j1 | with_reducible exact j2 | (with_reducible refine keepS ?_ (by dsimp only; first | exact Nat.ne_of_lt (by assumption) | omega) _) | with_reducible refine keepA ?_ _ | with_reducible refine keepD ?_))) ((go_at_call 88; refine (sWindowsMeet_any a s b t u v _).mono ?_; rw [← HM.out, ← HKK.out]; rintro e w3 ⟨rfl, hb3⟩; clear i0 i1 i2 j0 j1 j2; have hT3 : Below wi.heap.size wi w3 := Below.andThen (by go_grown) hb3; have hS3 := hT3.size; have HB3 : Hid (Below w.heap.size w w3) := Below.andThen HBI.out hT3; have i0 := (HB3.out.cell (p := ⟨g, o + k * 3, none⟩) hgl).trans G0.out; have i1 := (HB3.out.cell (p := ⟨g, o + k * 3 + 1, none⟩) hgl).trans G1.out; have i2 := (HB3.out.cell (p := ⟨g, o + k * 3 + 2, none⟩) hgl).trans G2.out; have j0 := (HB3.out.cell (p := ⟨g', o' + q * 3, none⟩) hgl').trans F0.out; have j1 := (HB3.out.cell (p := ⟨g', o' + q * 3 + 1, none⟩) hgl').trans F1.out; have j2 := (HB3.out.cell (p := ⟨g', o' + q * 3 + 2, none⟩) hgl').trans F2.out; have ng : g < wi.heap.size := Nat.lt_of_lt_of_le hgl hs1; have ng' : g' < wi.heap.size := Nat.lt_of_lt_of_le hgl' hs1; (try (have qx0 : Hid (Blk w3 (wi.heap.size) 71 #[.int .i64 0, .int .i64 0, .bool false]) := Blk.below (w' := w3) (by exact Blk.at_ _ _ _ (by first | rfl | (simp; done))) (Nat.le_refl _) hb3; have kx0_0 := qx0.out.cell 0 rfl; have fx0_0 := qx0.out.frozen 0; have kx0_1 := qx0.out.cell 1 rfl; have fx0_1 := qx0.out.frozen 1; have kx0_2 := qx0.out.cell 2 rfl; have fx0_2 := qx0.out.frozen 2; have lx0 := qx0.out.lt)); clear hb3 hT3))
                · go_wp2_with fail
                  go_meet
                  exact ⟨rfl, HB3.out.alloc (by have := HB3.out.size; omega) _⟩
                · go_wp2_with fail
                  go_meet
                  exact ⟨rfl, ((HB3.out.setCell (by simp; omega) _).setCell (by simp; omega) _).setCell (by simp; omega) _⟩
              case rest =>
                obtain ⟨rfl, HBC⟩ := hcut
                obtain ⟨wd, rfl⟩ : ∃ x, x = wc := ⟨_, rfl⟩
                clear i0 i1 i2 j0 j1 j2
                have i2 : wd.cell? ⟨g, o + k * 3 + 2, none⟩ = some (.bool u) := (HBC.out.cell (p := ⟨g, o + k * 3 + 2, none⟩) hgl).trans G2.out
                have j2 : wd.cell? ⟨g', o' + q * 3 + 2, none⟩ = some (.bool v) := (HBC.out.cell (p := ⟨g', o' + q * 3 + 2, none⟩) hgl').trans F2.out
                have HKM : Hid (meetB (a, s, u) (b, t, v) = K) := by show _ = _; rw [HKK.out, wmB_yes (winsOk_at H1.out HX.out) (winsOk_at H2.out HY.out)]
                cases K
                · skip
                  have hP : clashP (a, s, u) (b, t, v) = false := by unfold clashP; rw [HKM.out]; rfl
                  have HP := Lib.hid hP
                  clear hP
                  go_wp2
                  go_roundw
                  case rel => exact ⟨q + 1, by omega, by go_num, any_snocB HY.out HQ.out HP.out, HBC.out⟩
                  case measure => simp [intOf]; omega
                · cases u
                  · cases v
                    · skip
                      have hP : clashP (a, s, false) (b, t, false) = false := by unfold clashP; simp
                      have HP := Lib.hid hP
                      clear hP
                      go_wp2
                      go_roundw
                      case rel => exact ⟨q + 1, by omega, by go_num, any_snocB HY.out HQ.out HP.out, HBC.out⟩
                      case measure => simp [intOf]; omega
                    · skip
                      have hP : clashP (a, s, false) (b, t, true) = true := by unfold clashP; rw [HKM.out]; rfl
                      have HP := Lib.hid hP
                      clear hP
                      go_wp2
                      go_ret
                      exact ⟨by rw [HV.out, clash_hit HX.out HY.out HP.out] <;> rfl, HBC.out⟩
                  · skip
                    have hP : clashP (a, s, true) (b, t, v) = true := by unfold clashP; rw [HKM.out]; rfl
                    have HP := Lib.hid hP
                    clear hP
                    go_wp2
                    go_ret
                    exact ⟨by rw [HV.out, clash_hit HX.out HY.out HP.out] <;> rfl, HBC.out⟩
            · have hqm : q = m := by omega
              have h9 := HQ.out
              rw [hqm, ← hlb.out, List.take_length] at h9
              have H9 := Lib.hid h9
              clear h9
              go_wp2
              go_roundw
              case rel => exact ⟨k + 1, by omega, by go_num, any_snocB (p := fun x => ys.any fun y => clashP x y) HX.out HK.out H9.out, hb⟩
              case measure => simp [intOf]; omega
        · have hkn : k = n := by omega
          have h9 := HK.out
          rw [hkn, ← hla.out, List.take_length] at h9
          have H9 := Lib.hid h9
          clear h9
          go_wp2
          go_ret
          exact ⟨by rw [HV.out, show clashB xs ys = false from H9.out] <;> rfl, hb⟩
end Go.Proofs.Ytlckjhbgdbhdmaa
