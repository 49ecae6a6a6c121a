/-
  CONTRACTS of TouchTime.
  Conditions: none beyond those that each states.
-/
import Derived.Test.YtfdcneijcckolaaTouch2
import Derived.Deep.RegionHeld3
namespace Go.Proofs.Ytfdcneijcckolaa
open Go.ChangeShapes Go.WideShapes Go.ChangeAt Go.RowKit Go.Joins
set_option linter.unusedVariables false

def placesB (ps : List Int) : Bool := decide (ps.length ≤ 60) && !ps.any (fun p => !inB p 0 4095)
def runF (zs ps : List Int) : List Int := ps.foldl touchF zs
def runT : List Int → List Int → Int
  | _, [] => 0
  | zs, p :: ps => touchT zs p + runT (touchF zs p) ps
theorem runF_snoc (zs ps : List Int) (x : Int) : runF zs (ps ++ [x]) = touchF (runF zs ps) x := by simp [runF]
theorem runT_snoc : ∀ (ps zs : List Int) (x : Int), runT zs (ps ++ [x]) = runT zs ps + touchT (runF zs ps) x
  | [], zs, x => by simp [runT, runF]
  | p :: ps, zs, x => by
    rw [List.cons_append, runT, runT, runT_snoc ps (touchF zs p) x]
    simp only [runF, List.foldl_cons]
    omega
theorem runF_len : ∀ (ps zs : List Int), (runF zs ps).length = zs.length
  | [], zs => rfl
  | p :: ps, zs => by
    have := runF_len ps (touchF zs p)
    rw [touchF_len] at this
    simpa [runF] using this
theorem touchT_bd (zs : List Int) (p : Int) : 1 ≤ touchT zs p ∧ touchT zs p ≤ 8 := by unfold touchT; split <;> omega
theorem cacheOk_iff {zs : List Int} : cacheOk zs = true ↔ lined zs.length = true ∧ ∀ i, i < zs.length → lineOk zs.length i (zs.getD i 0) = true := by
  unfold cacheOk okUp
  rw [Bool.and_eq_true, List.all_eq_true]
  simp
theorem cacheOk_touch {zs : List Int} {p : Int} (h : cacheOk zs = true) (hp : inB p 0 4095 = true) : cacheOk (touchF zs p) = true := by
  obtain ⟨hn1, _⟩ := cacheOk_le h
  obtain ⟨h0, h1⟩ := inB_true.1 hp
  obtain ⟨b, hb, hb2, hl, hln⟩ := line_parts hn1 h0 h1
  rw [cacheOk_iff] at h ⊢
  rw [touchF_len]
  refine ⟨h.1, fun i hi => ?_⟩
  have h2 := h.2 i hi
  unfold touchF
  rw [List.getD_eq_getElem?_getD, List.getElem?_set]
  split
  · rename_i e
    subst e
    rw [hb]
    simp only [Option.getD_some]
    unfold lineOk inB
    rw [hl]
    simp
    omega
  · rw [List.getD_eq_getElem?_getD] at h2
    exact h2
theorem cacheOk_run : ∀ (ps zs : List Int), cacheOk zs = true → (∀ p ∈ ps, inB p 0 4095 = true) → cacheOk (runF zs ps) = true
  | [], _, h, _ => h
  | p :: ps, zs, h, hp => by
    have := cacheOk_run ps (touchF zs p) (cacheOk_touch h (hp p (List.mem_cons_self ..))) (fun q hq => hp q (List.mem_cons_of_mem _ hq))
    simpa [runF] using this
def ttV (zs ps : List Int) : Int := if (cacheOk zs && placesB ps) = true then runT zs ps else -1
theorem all_snoc {α : Type} {p : α → Bool} {xs : List α} {k : Nat} {x : α} (hx : xs[k]? = some x) (hk : ∀ y ∈ xs.take k, p y = true) (hp : p x = true) : ∀ y ∈ xs.take (k + 1), p y = true := by
  rw [take_snoc hx]
  intro y hy
  rcases List.mem_append.1 hy with h | h
  · exact hk y h
  · rw [List.mem_singleton.1 h]; exact hp
theorem placesB_all {ps : List Int} (h : ps.length ≤ 60) (hp : ∀ p ∈ ps, inB p 0 4095 = true) : placesB ps = true := by
  unfold placesB
  rw [decide_eq_true h, Bool.true_and, Bool.not_eq_true', List.any_eq_false]
  intro x hx
  simp [hp x hx]
theorem placesB_not {ps : List Int} {k : Nat} {x : Int} (hx : ps[k]? = some x) (h : inB x 0 4095 = false) : placesB ps = false := by
  unfold placesB
  have : ps.any (fun p => !inB p 0 4095) = true := List.any_eq_true.2 ⟨x, List.mem_of_getElem? hx, by simp [h]⟩
  rw [this]; simp

theorem keepA {w : World} {p : Addr} {v : Value} (h : w.cell? p = some v) (o : Obj) : (w.alloc o).cell? p = some v :=
  (World.cell?_of_block (Below.heap_alloc w o p.block (World.block_lt_of_cell? w p h))).trans h
theorem keepD {w : World} {p : Addr} {v : Value} (h : w.cell? p = some v) : w.drew.cell? p = some v := h
theorem keepS {w : World} {p q : Addr} {v : Value} (h : w.cell? p = some v) (hn : p.block ≠ q.block) (u : Value) : (w.setCell q u).cell? p = some v :=
  (World.cell?_of_block (Below.heap_setCell w q u p.block hn)).trans h
theorem Rd.setNe {w : World} {size : Nat} {A : Option Addr} {n : Nat} {xs : List Value} (h : Rd w size A n xs) {p : Addr} (hA : ∀ a, A = some a → a.block ≠ p.block) (u : Value) : Rd (w.setCell p u) size A n xs :=
  ⟨h.1, fun hn => by
    obtain ⟨b, o, e, hb, hc⟩ := h.2 hn
    have := hA _ e
    exact ⟨b, o, e, by simpa [World.setCell] using hb, fun j u' hu => (World.cell?_of_block (Below.heap_setCell w p u b (by simpa using this))).trans (hc j u' hu)⟩⟩

set_option maxRecDepth 100000 in
set_option maxHeartbeats 4000000 in
theorem sTouchTime_any (A : Option Addr) (n c : Nat) (zs : List Int) (B : Option Addr) (m d : Nat) (ps : List Int) (w : World) (hm : n ≤ 1048576) (hr : Rd w 1 A n (ints zs)) (hm2 : m ≤ 1048576) (hp : Rd w 1 B m (ints ps)) :
    Calls Try.prog 49 #[.agg #[.slice A n c], .slice B m d] w fun e w' => e = .returned (.int .i64 (ttV zs ps)) ∧ Below w.heap.size w w' := by
  have hlz := Lib.hid hr.len
  have hlp := Lib.hid hp.len
  have HR := Lib.hid hr
  have HP := Lib.hid hp
  clear hr hp
  cases hv : cacheOk zs
  · have e1 : ttV zs ps = -1 := by unfold ttV; rw [hv]; rfl
    rw [e1]; clear e1
    go_enter Try.func49, Try.ntmps49
    go_wp2_with fail
    refine (sCacheValid_any A n c zs _ (by omega) (HR.out.below (Nat.le_refl _) (by go_grown))).mono ?_
    rw [hv]
    rintro e w1 ⟨rfl, hb1⟩
    have HB := Lib.hid (Below.andThen (w := w) (by go_grown) hb1)
    clear hb1
    go_wp2
    go_ret
    exact ⟨rfl, HB.out⟩
  · by_cases h60 : m ≤ 60
    · obtain ⟨hn1, hn16⟩ := cacheOk_le hv
      rw [hlz.out] at hn1 hn16
      have hI : ¬ (60 : Int) < (m : Int) := by omega
      have hA0 : Hid (∀ a, A = some a → a.block ≠ w.heap.size) := by
        show ∀ a, A = some a → a.block ≠ w.heap.size
        obtain ⟨b, o, hA, hb, _⟩ := HR.out.2 (by omega)
        intro a ha
        rw [hA] at ha
        injection ha with ha
        subst ha
        simp; omega
      go_enter Try.func49, Try.ntmps49
      go_wp2_with fail
      refine (sCacheValid_any A n c zs _ (by omega) (HR.out.below (Nat.le_refl _) (by go_grown))).mono ?_
      rw [hv]
      rintro e w1 ⟨rfl, hb1⟩
      have hs1 := hb1.size
      simp only [World.size_alloc] at hs1
      have HB := Lib.hid (Below.andThen (w := w) (by go_grown) hb1)
      have q2 : Hid (Blk w1 w.heap.size 50 #[.slice A n c]) := Blk.below (w' := w1) (Blk.at_ _ _ _ rfl) (Nat.le_refl _) hb1
      clear hb1
      go_wp2
      go_loopw [5, 6] (fun nn i wr => ∃ (k : Nat) (A' : Option Addr) (c' : Nat) (ys : List Int) (t : Int), k ≤ m ∧ i = .int .i64 k ∧ nn = .int .i64 t ∧ 0 ≤ t ∧ t ≤ 8 * k ∧ Hid (t = runT zs (ps.take k)) ∧ Hid (ys = runF zs (ps.take k)) ∧ Hid (∀ p ∈ ps.take k, inB p 0 4095 = true) ∧
        Hid (Blk wr w.heap.size 50 #[.slice A' n c']) ∧ Hid (Rd wr 1 A' n (ints ys)) ∧ Hid (∀ a, A' = some a → a.block ≠ w.heap.size) ∧ Hid (Below w.heap.size w wr)) (fun _ i _ => m - (intOf i).toNat)
      case atStart => exact ⟨0, A, c, zs, 0, Nat.zero_le _, rfl, rfl, by omega, by omega, by show (0 : Int) = _; simp [runT], by show zs = _; simp [runF], by show ∀ p ∈ ps.take 0, _; simp, q2, HR.out.below (Nat.le_refl _) HB.out, hA0, HB⟩
      case round =>
        obtain ⟨k, A', c', ys, t, hk, rfl, rfl, ht0, ht1, HT, HY, HA, HQ, HRk, HN, HBk⟩ := hrel
        clear q2 HB
        have hs := HBk.out.size
        have hlt2 := HQ.out.lt
        have kb_0 := HQ.out.cell 0 rfl
        have fb_0 := HQ.out.frozen 0
        by_cases hlt : k < m
        · obtain ⟨b, o, x, rfl, hbl, hx, hc⟩ := HP.out.int_ hlt
          have hc1 := (HBk.out.cell (p := ⟨b, o + k, none⟩) hbl).trans hc
          have HX := Lib.hid hx
          have HC := Lib.hid hc
          have hk0 : (0 : Int) ≤ (k : Int) := by omega
          have hk1 : (k : Int) < (m : Int) := by omega
          clear hx hc
          cases hin : inB x 0 4095
          · have e1 : tcF ys x = [] := by unfold tcF touchOk; rw [hin]; simp
            have e2 : tcT ys x = -1 := by unfold tcT touchOk; rw [hin]; simp
            have HE1 := Lib.hid e1
            have HE2 := Lib.hid e2
            clear e1 e2
            go_wp2
            go_region_held3 (fun w' => w'.cell? ⟨w.heap.size, 0, none⟩ = some (.slice A' n c') ∧ w'.cell? ⟨b, o + k, none⟩ = some (.int .i64 x)) (refine ⟨?_, ?_⟩ <;> (repeat' (first | exact k0 | exact k1 | exact kb_0 | exact hc1 | refine keepA ?_ _ | refine keepS ?_ (by simp; omega) _ | refine keepD ?_))) ((go_at_call 47; refine (sTouchCache_any A' n c' ys x _ (by omega) (by first | exact HRk.out | exact HRk.out.alloc _)).mono ?_; rw [HE1.out, HE2.out]; rintro e w2 ⟨A2, c2, rfl, hf2, hA2, hb2⟩; have hs2 : wr.heap.size ≤ w2.heap.size := (by have := hb2.size; simp at this; omega); have q2 : Hid (Blk w2 w.heap.size 50 #[.slice A' n c']) := Blk.below (w' := w2) (by first | exact HQ.out | exact HQ.out.alloc _) (Nat.le_refl _) hb2; have hs3 : w.heap.size ≤ w2.heap.size := (by omega); have HB2 : Hid (Below w.heap.size w w2) := Below.andThen HBk.out (Below.andThen (w := wr) (by go_grown) hb2); (try (have qx : Hid (Blk w2 wr.heap.size 50 #[.slice none 0 0]) := Blk.below (w' := w2) (by exact Blk.at_ _ _ _ rfl) (Nat.le_refl _) hb2; have kx_0 := qx.out.cell 0 rfl; have fx_0 := qx.out.frozen 0; have lx := qx.out.lt)); have k0 := q2.out.cell 0 rfl; have k1 := (HB2.out.cell (p := ⟨b, o + k, none⟩) hbl).trans HC.out; clear hf2 hA2 hb2))
            all_goals
              go_wp2
              go_ret
              refine ⟨ret_int ?_, by first | exact HB2.out.alloc hs3 _ | exact HB2.out.setCell hs _⟩
              unfold ttV
              rw [placesB_not HX.out hin]
              simp
          · have hys : ys.length = n := by rw [HY.out, runF_len]; exact hlz.out
            have hcok : cacheOk ys = true := by rw [HY.out]; exact cacheOk_run _ _ hv HA.out
            have e0 : touchOk ys x = true := by unfold touchOk; rw [hcok, hin]; rfl
            obtain ⟨F, hF⟩ : ∃ F, F = touchF ys x := ⟨_, rfl⟩
            obtain ⟨T, hT⟩ : ∃ T, T = touchT ys x := ⟨_, rfl⟩
            have e1 : tcF ys x = F := by unfold tcF; rw [if_pos e0, hF]
            have e2 : tcT ys x = T := by unfold tcT; rw [if_pos e0, hT]
            have hTb := touchT_bd ys x
            rw [← hT] at hTb
            obtain ⟨hTb1, hTb2⟩ := hTb
            have HFl : Hid (F.length = n) := by show _ = _; rw [hF, touchF_len, hys]
            have HF := Lib.hid hF
            have HTT := Lib.hid hT
            have HE1 := Lib.hid e1
            have HE2 := Lib.hid e2
            clear e0 e1 e2 hF hT hys hcok
            go_wp2
            go_region_held3 (fun w' => w'.cell? ⟨w.heap.size, 0, none⟩ = some (.slice A' n c') ∧ w'.cell? ⟨b, o + k, none⟩ = some (.int .i64 x)) (refine ⟨?_, ?_⟩ <;> (repeat' (first | exact k0 | exact k1 | exact kb_0 | exact hc1 | refine keepA ?_ _ | refine keepS ?_ (by simp; omega) _ | refine keepD ?_))) ((go_at_call 47; refine (sTouchCache_any A' n c' ys x _ (by omega) (by first | exact HRk.out | exact HRk.out.alloc _)).mono ?_; rw [HE1.out, HE2.out]; rintro e w2 ⟨A2, c2, he, hf2, hA2, hb2⟩; rw [HFl.out] at he hf2 hA2; subst he; have hs2 : wr.heap.size ≤ w2.heap.size := (by have := hb2.size; simp at this; omega); have q2 : Hid (Blk w2 w.heap.size 50 #[.slice A' n c']) := Blk.below (w' := w2) (by first | exact HQ.out | exact HQ.out.alloc _) (Nat.le_refl _) hb2; have hs3 : w.heap.size ≤ w2.heap.size := (by omega); have HB2 : Hid (Below w.heap.size w w2) := Below.andThen HBk.out (Below.andThen (w := wr) (by go_grown) hb2); (try (have qx : Hid (Blk w2 wr.heap.size 50 #[.slice none 0 0]) := Blk.below (w' := w2) (by exact Blk.at_ _ _ _ rfl) (Nat.le_refl _) hb2; have kx_0 := qx.out.cell 0 rfl; have fx_0 := qx.out.frozen 0; have lx := qx.out.lt)); have k0 := q2.out.cell 0 rfl; have g0 := q2.out.frozen 0; have l0 := q2.out.lt; have k1 := (HB2.out.cell (p := ⟨b, o + k, none⟩) hbl).trans HC.out; have HF2 := Lib.hid hf2; clear hf2 hA2 hb2))
            all_goals
              go_wp2
              go_roundw
              case rel =>
                refine ⟨k + 1, A2, c2, F, t + T, by omega, by go_num, rfl, by omega, by omega, ?_, ?_, all_snoc HX.out HA.out hin, ?_, ?_, ?_, ?_⟩
                · show t + T = _
                  rw [take_snoc HX.out, runT_snoc, ← HT.out, ← HY.out, HTT.out]
                · show F = _
                  rw [take_snoc HX.out, runF_snoc, ← HY.out, HF.out]
                · first
                    | exact (q2.out.set_ 0 _).alloc _
                    | exact Blk.set_ (Blk.far q2.out (by simp; omega) _) 0 _
                · first
                    | exact ((HF2.out.setFar (by left; simp; omega) _).alloc _).rd
                    | exact ((HF2.out.setFar (by left; simp) _).setFar (by left; simp; omega) _).rd
                · show ∀ a, A2 = some a → a.block ≠ w.heap.size
                  obtain ⟨g, hg, hlo, _⟩ := HF2.out.use (by omega)
                  intro a ha
                  rw [hg] at ha
                  injection ha with ha
                  subst ha
                  simp at hlo ⊢
                  omega
                · show Below w.heap.size w _
                  first
                    | exact (HB2.out.setCell (by simp) _).alloc (by simp; omega) _
                    | exact (HB2.out.setCell (by simp; omega) _).setCell (by simp) _
              case measure => simp [intOf]; omega
        · have hkm : k = m := by omega
          go_wp2
          go_ret
          refine ⟨ret_int ?_, HBk.out⟩
          have e1 : ps.take k = ps := by rw [hkm, ← hlp.out, List.take_length]
          have h1 := HT.out
          have h2 := HA.out
          rw [e1] at h1 h2
          rw [h1, ttV, hv, placesB_all (by rw [hlp.out]; exact h60) h2]
          rfl
    · have hI : (60 : Int) < (m : Int) := by omega
      have e1 : ttV zs ps = -1 := by
        unfold ttV placesB
        rw [hlp.out, decide_eq_false h60]
        simp
      rw [e1]; clear e1
      go_enter Try.func49, Try.ntmps49
      go_wp2_with fail
      refine (sCacheValid_any A n c zs _ (by omega) (HR.out.below (Nat.le_refl _) (by go_grown))).mono ?_
      rw [hv]
      rintro e w1 ⟨rfl, hb1⟩
      have HB := Lib.hid (Below.andThen (w := w) (by go_grown) hb1)
      clear hb1
      go_wp2
      go_ret
      exact ⟨rfl, HB.out⟩
end Go.Proofs.Ytfdcneijcckolaa
