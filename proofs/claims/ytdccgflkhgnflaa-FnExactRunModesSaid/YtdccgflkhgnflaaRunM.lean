/-
  CONTRACTS of RunModes.
  Conditions: none beyond those that each states.
-/
import Derived.Test.YtdccgflkhgnflaaModes3
import Derived.Test.YtdccgflkhgnflaaMTab
import Derived.Deep.DeepCutAuto
namespace Go.Proofs.Ytdccgflkhgnflaa
open Go.ChangeShapes Go.WideShapes Go.ChangeAt Go.RowKit Go.Joins
set_option linter.unusedVariables false

/-- one frame: who runs in it, and the modes behind it -/
def rmStep (ts : List Slots) (s : List Int × Int × Int) (a : Int) : List Int × Int × Int := (s.1 ++ frameL (cur ts s.2.1), endN s.2.1 (askN ts.length s.2.2 a), -1)
def rmAll (ts : List Slots) (now asked : Int) (asks : List Int) : List Int × Int × Int := asks.foldl (rmStep ts) ([], now, asked)
def runL (parts : Int) (ts : List Slots) (now asked : Int) (asks : List Int) : List Int := if modesOk parts ts now asked = true then (if asks.length ≤ 10 then (rmAll ts now asked asks).1 else []) else []
theorem rmAll_next {ts : List Slots} {now asked : Int} {asks : List Int} {k : Nat} {a : Int} (h : asks[k]? = some a) : rmAll ts now asked (asks.take (k + 1)) = rmStep ts (rmAll ts now asked (asks.take k)) a := by
  unfold rmAll; rw [take_snoc h, List.foldl_append]; rfl
theorem modesOk_mk {parts : Int} {ts : List Slots} {now asked now' asked' : Int} (h : modesOk parts ts now asked = true) (h1 : 0 ≤ now' ∧ now' ≤ (ts.length : Int) - 1) (h2 : -1 ≤ asked' ∧ asked' ≤ (ts.length : Int) - 1) : modesOk parts ts now' asked' = true := by
  unfold modesOk at h ⊢
  rw [Bool.and_eq_true, Bool.and_eq_true, Bool.and_eq_true] at h ⊢
  exact ⟨h.1, inB_true.2 h1, inB_true.2 h2, h.2.2.2⟩
theorem modesOk_ask {parts : Int} {ts : List Slots} {now asked : Int} (a : Int) (h : modesOk parts ts now asked = true) : modesOk parts ts now (askN ts.length asked a) = true := by
  obtain ⟨_, _, ⟨k, rfl, hk⟩, h1, h2, _⟩ := modesOk_use h
  refine modesOk_mk h ⟨by omega, by omega⟩ ?_
  unfold askN
  cases hi : inB a 0 ((ts.length : Int) - 1)
  · rw [if_neg (by simp)]; exact ⟨h1, h2⟩
  · have := inB_true.1 hi
    rw [if_pos rfl]; omega
theorem modesOk_end {parts : Int} {ts : List Slots} {now asked : Int} (h : modesOk parts ts now asked = true) : modesOk parts ts (endN now asked) (-1) = true := by
  obtain ⟨_, _, ⟨k, rfl, hk⟩, h1, h2, _⟩ := modesOk_use h
  refine modesOk_mk h ?_ ⟨by omega, by omega⟩
  unfold endN
  split <;> omega
theorem cur_frame {parts : Int} {ts : List Slots} {now asked : Int} (h : modesOk parts ts now asked = true) : ∃ (j : Nat) (x : Slots), now = (j : Int) ∧ j < ts.length ∧ ts[j]? = some x ∧ cur ts now = x ∧ slotsOk parts x = true ∧ x.length ≤ 12 ∧ ticksOk x ∧ 1 ≤ (frameL x).length ∧ (frameL x).length ≤ 240 := by
  obtain ⟨_, _, ⟨j, rfl, hj⟩, _, _, hs⟩ := modesOk_use h
  have hx : ts[j]? = some ts[j] := List.getElem?_eq_getElem hj
  have hok := hs _ (List.getElem_mem hj)
  obtain ⟨_, _, h1, h12, ht⟩ := slotsOk_use hok
  have hb := frameL_bd ht
  exact ⟨j, ts[j], rfl, hj, hx, cur_at hx, hok, h12, ht, by omega, by omega⟩
theorem mtV_at {parts : Int} {ts : List Slots} {now asked : Int} {x : Slots} {N t : Nat} (h : modesOk parts ts now asked = true) (hx : cur ts now = x) (hN : N = (frameL x).length) (ht : t < N) : (frameL x)[t]? = some (mtV parts ts now asked (t : Int)) := by
  have h1 : mtB parts ts now asked (t : Int) = true := by
    unfold mtB
    rw [h, hx, inB_true.2 ⟨by omega, by omega⟩]; rfl
  unfold mtV
  rw [if_pos h1, hx, Int.toNat_natCast]
  exact frame_at hN ht
theorem rmAll_len {parts : Int} {ts : List Slots} {now asked : Int} (h : modesOk parts ts now asked = true) : ∀ (asks : List Int) (k : Nat), k ≤ asks.length → (rmAll ts now asked (asks.take k)).1.length ≤ 240 * k ∧ modesOk parts ts (rmAll ts now asked (asks.take k)).2.1 (rmAll ts now asked (asks.take k)).2.2 = true
  | asks, 0, _ => by simp [rmAll]; exact h
  | asks, k + 1, hk => by
    have hx : asks[k]? = some asks[k] := List.getElem?_eq_getElem (by omega)
    obtain ⟨h1, h2⟩ := rmAll_len h asks k (by omega)
    obtain ⟨_, x, _, _, _, hcx, _, _, _, _, h240⟩ := cur_frame h2
    rw [rmAll_next hx]
    refine ⟨?_, modesOk_end (modesOk_ask _ h2)⟩
    simp only [rmStep, List.length_append, hcx]
    omega
theorem runL_len (parts : Int) (ts : List Slots) (now asked : Int) (asks : List Int) : (runL parts ts now asked asks).length ≤ 2400 := by
  unfold runL
  split
  · rename_i h
    split
    · have := (rmAll_len h asks asks.length (Nat.le_refl _)).1
      rw [List.take_length] at this
      omega
    · simp
  · simp
/-- a slice that can be read, and in whose block v does not lie -/
def RdO (w : World) (v : Value) (size : Nat) (A : Option Addr) (n : Nat) (xs : List Value) : Prop := Rd w size A n xs ∧ (0 < n → ∀ a, A = some a → v.ownBlock ≠ some a.block)
theorem RdO.keep {w w' : World} {v v' : Value} {size n : Nat} {A : Option Addr} {xs : List Value} (h : RdO w v size A n xs) (hs : w.heap.size ≤ w'.heap.size) (hk : ∀ g, g < w.heap.size → v.ownBlock ≠ some g → w'.heap[g]? = w.heap[g]?) (hv : ∀ g, g < w.heap.size → v.ownBlock ≠ some g → v'.ownBlock ≠ some g) : RdO w' v' size A n xs := by
  refine ⟨⟨h.1.1, fun hn => ?_⟩, fun hn a ha => ?_⟩
  · obtain ⟨b, o, e, hb, hc⟩ := h.1.2 hn
    exact ⟨b, o, e, Nat.lt_of_lt_of_le hb hs, fun j u hu => (World.cell?_of_block (hk b hb (h.2 hn _ e))).trans (hc j u hu)⟩
  · obtain ⟨b, o, e, hb, hc⟩ := h.1.2 hn
    subst ha
    injection e with e
    subst e
    exact hv _ hb (h.2 hn _ rfl)
def TabO (w : World) (v : Value) (A : Option Addr) (n : Nat) (ts : List Slots) : Prop :=
  ∃ hx : List (Hdr × Slots), hx.map Prod.snd = ts ∧ RdO w v 1 A n (hx.flatMap fun p => tabC p.1 p.2) ∧ ∀ p ∈ hx, (tabI p.2).length = p.1.2.1 ∧ p.1.2.1 ≤ maxLen ∧ RdO w v 2 p.1.1 p.1.2.1 (slots (tabI p.2))
section
variable {w w' : World} {v v' : Value} {A : Option Addr} {n c base : Nat} {ts : List Slots}
theorem TabO.rd (h : TabO w v A n ts) : Rd_tab w A n ts := by
  obtain ⟨hx, hs, hr, hi⟩ := h
  exact ⟨hx, hs, hr.1, fun p hp => ⟨(hi p hp).1, (hi p hp).2.1, (hi p hp).2.2.1⟩⟩
theorem TabO.keep (h : TabO w v A n ts) (hs : w.heap.size ≤ w'.heap.size) (hk : ∀ g, g < w.heap.size → v.ownBlock ≠ some g → w'.heap[g]? = w.heap[g]?) (hv : ∀ g, g < w.heap.size → v.ownBlock ≠ some g → v'.ownBlock ≠ some g) : TabO w' v' A n ts := by
  obtain ⟨hx, he, hr, hi⟩ := h
  exact ⟨hx, he, hr.keep hs hk hv, fun p hp => ⟨(hi p hp).1, (hi p hp).2.1, (hi p hp).2.2.keep hs hk hv⟩⟩
theorem TabO.below (h : TabO w v A n ts) {B : Nat} (hB : w.heap.size ≤ B) (hb : Below B w w') : TabO w' v A n ts := h.keep hb.size (fun g hg _ => hb.block g (by omega)) (fun _ _ h => h)
theorem TabO.grown (h : TabO w v A n ts) {o : Obj} (hg : (w.alloc o).grownBy w' v.ownBlock) (hat : v'.ownBlock = v.ownBlock ∨ v'.ownBlock = some (w.alloc o).heap.size) : TabO w' v' A n ts := by
  have hs := hg.size
  simp only [World.size_alloc] at hs hat
  refine h.keep (by omega) (fun g h1 h2 => (hg.block g (by simp; omega) (fun e => h2 e.symm)).trans (Below.heap_alloc w o g h1)) (fun g h1 h2 e => ?_)
  rcases hat with h3 | h3
  · exact h2 (h3.symm.trans e)
  · have := Option.some.inj (h3.symm.trans e); omega
theorem TabO.of_rd (h : Rd_tab w A n ts) (hb : Below w.heap.size w w') (hv : ∀ g, v.ownBlock = some g → w.heap.size ≤ g) : TabO w' v A n ts := by
  obtain ⟨hx, he, hr, hi⟩ := h
  have key : ∀ {size n : Nat} {A : Option Addr} {xs : List Value}, Rd w size A n xs → RdO w' v size A n xs := fun {size n A xs} h => by
    refine ⟨h.below (Nat.le_refl _) hb, fun hn a ha e => ?_⟩
    obtain ⟨b, o, e1, hlt, _⟩ := h.2 hn
    have := hv _ e
    subst ha
    injection e1 with e1
    subst e1
    dsimp only at this
    omega
  exact ⟨hx, he, key hr, fun p hp => ⟨(hi p hp).1, (hi p hp).2.1, key (hi p hp).2.2⟩⟩
theorem TabO.of_own (h : Own_tab w base A n c ts) (hv : ∀ g, v.ownBlock = some g → g < base) : TabO w v A n ts := by
  obtain ⟨hx, he, ho, hi⟩ := h
  refine ⟨hx, he, ⟨Rd.of_own ho, fun _ a ha e => ?_⟩, fun p hp => ⟨(hi p hp).1, (hi p hp).2.1, (hi p hp).2.2.1, fun _ a ha e => ?_⟩⟩
  · subst ha
    have := (ho.lt a.block rfl).1
    have := hv _ e
    omega
  · have := ((hi p hp).2.2.2 a ha).1
    have := hv _ e
    omega
end
theorem tab_cell {w : World} {b o n k : Nat} {ts : List Slots} {x : Slots} (h : Rd_tab w (some ⟨b, o, none⟩) n ts) (hk : k < n) (hx : ts[k]? = some x) : ∃ Ai ci, w.cell? ⟨b, o + k, none⟩ = some (.slice Ai x.length ci) ∧ Rd w 2 Ai x.length (slots x) := by
  obtain ⟨b', o', Ai, ni, ci, y, e, _, hy, hc, hl, _, hr⟩ := h.at_ hk
  injection e with e
  injection e with e1 e2
  subst e1 e2
  obtain rfl : y = x := Option.some.inj (hy.symm.trans hx)
  subst hl
  exact ⟨Ai, ci, hc, hr⟩
set_option maxRecDepth 100000 in
set_option maxHeartbeats 8000000 in
theorem iRunModes_any (A : Option Addr) (n c : Nat) (ts : List Slots) (now asked parts : Int) (B : Option Addr) (m d : Nat) (asks : List Int) (w : World) (hm : n ≤ 1048576) (ht : ∀ x ∈ ts, (tabI x).length ≤ 1048576) (hr : Rd_tab w A n ts) (hma : m ≤ 1048577) (hra : Rd w 1 B m (ints asks)) :
    Calls Try.prog 8 #[.agg #[.slice A n c, .int .i64 now, .int .i64 asked], .int .i64 parts, .slice B m d] w (fun e w' => RetI w (runL parts ts now asked asks) e w') := by
  obtain ⟨i0, hi, hz0, hz1, hz2⟩ := info_parts Try.infoInt
  have hlt0 := Lib.hid hr.len
  have hla := Lib.hid hra.len
  have HR := Lib.hid hr
  have HT := Lib.hid ht
  have HRA := Lib.hid hra
  clear hr ht hra
  cases hok : modesOk parts ts now asked
  · rw [show runL parts ts now asked asks = [] by unfold runL; rw [if_neg (by rw [hok]; simp)]]
    go_enter Try.func8, Try.ntmps8
    go_wp2_with fail
    refine (iModesValid_is hok _ hm HT.out (HR.out.alloc _)).mono ?_
    rintro e w1 ⟨rfl, hb1⟩
    have HB1 : Hid (Below w.heap.size w w1) := Below.andThen (by go_grown) hb1
    clear hb1
    go_wp2
    go_ret
    exact ⟨none, 0, rfl, Fr.nil_, HB1.out⟩
  · have HOK := Lib.hid hok
    clear hok
    by_cases h10 : m ≤ 10
    · have HE : Hid (runL parts ts now asked asks = (rmAll ts now asked asks).1) := by show _ = _; unfold runL; rw [if_pos HOK.out, if_pos (by rw [hla.out]; exact h10)]
      go_enter Try.func8, Try.ntmps8
      go_wp2_with fail
      refine (iModesValid_is HOK.out _ hm HT.out (HR.out.alloc _)).mono ?_
      rintro e w1 ⟨rfl, hb1⟩
      have HB1 : Hid (Below w.heap.size w w1) := Below.andThen (by go_grown) hb1
      have qb : Hid (Blk w1 w.heap.size 30 #[.slice A n c, .int .i64 now, .int .i64 asked]) := Blk.below (w' := w1) (Blk.at_ _ _ _ rfl) (Nat.le_refl _) hb1
      clear hb1
      go_wp2_with fail
      go_loopw [7, 21] (fun v i wr => ∃ (k : Nat) (ys : List Int) (nw ak : Int), k ≤ m ∧ i = .int .i64 k ∧ ys.length ≤ 240 * k ∧ Hid ((ys, nw, ak) = rmAll ts now asked (asks.take k)) ∧ Hid (modesOk parts ts nw ak = true) ∧ Hid (wr.ownsRow (w.heap.size + 1) 3 1 v ys.length (ints ys)) ∧ Hid (Blk wr w.heap.size 30 #[.slice A n c, .int .i64 nw, .int .i64 ak]) ∧ Hid (Below w.heap.size w wr)) (fun _ i _ => m - (intOf i).toNat)
      case atStart => exact ⟨0, [], now, asked, Nat.zero_le _, rfl, by simp, rfl, HOK, World.ownsRow_nil _ _ _ _, qb, HB1⟩
      case round =>
        obtain ⟨k, ys, nw, ak, hk, rfl, hyl, HS, HM, HO, qb, HB⟩ := hrel
        obtain ⟨wo, rfl⟩ : ∃ wo : World, wo = wr := ⟨_, rfl⟩
        by_cases hlt : k < m
        · obtain ⟨ba, oa, a, rfl, hba, hax, hac⟩ := HRA.out.int_ hlt
          obtain ⟨jn, x, rfl, hj, hx, hcx, hxo, hx12, htk, hN1, hN2⟩ := cur_frame HM.out
          rw [hlt0.out] at hj
          obtain ⟨bA, oA, _, _, _, _, rfl, _⟩ := HR.out.at_ hj
          obtain ⟨Ai, ci, hcc, hrx⟩ := tab_cell HR.out hj hx
          have hbA : bA < w.heap.size := by
            obtain ⟨b', o', _, _, _, _, e, hlt', _⟩ := HR.out.at_ hj
            injection e with e
            injection e with e1 e2
            subst e1
            exact hlt'
          obtain ⟨N, hN⟩ : ∃ N, N = (frameL x).length := ⟨_, rfl⟩
          rw [← hN] at hN1 hN2
          have HN := Lib.hid hN
          have HCU := Lib.hid hcx
          have HM2 := Lib.hid (modesOk_ask a HM.out)
          obtain ⟨a2, ha2⟩ : ∃ z, z = askN n ak a := ⟨_, rfl⟩
          have hge2 : -1 ≤ a2 := by have h := HM2.out; rw [hlt0.out, ← ha2] at h; exact (modesOk_use h).2.2.2.1
          have HA2 := Lib.hid ha2
          have HE6 : Hid ((if 0 ≤ a2 then (-1 : Int) else a2) = -1) := by show _ = _; split <;> omega
          obtain ⟨n2, hn2⟩ : ∃ z, z = endN (jn : Int) a2 := ⟨_, rfl⟩
          have HN2 := Lib.hid hn2
          clear ha2 hn2
          have HNX := Lib.hid (rmAll_next (ts := ts) (now := now) (asked := asked) hax)
          have HTK := Lib.hid htk
          have HRX := Lib.hid hrx
          have HCX := Lib.hid hcx
          have HXX := Lib.hid hx
          have HAC := Lib.hid hac
          have j0 := (HB.out.cell (p := ⟨bA, oA + jn, none⟩) hbA).trans hcc
          have ja := (HB.out.cell (p := ⟨ba, oa + k, none⟩) hba).trans hac
          have hj0 : (0 : Int) ≤ (jn : Int) := by omega
          have hj1 : (jn : Int) < (n : Int) := by omega
          have hs0 := HB.out.size
          have hlX : x.length ≤ 12 := hx12
          have kb_0 : wo.cell? ⟨w.heap.size, 0, none⟩ = some (.slice (some ⟨bA, oA, none⟩) n c) := qb.out.cell 0 rfl
          have fb_0 := qb.out.frozen 0
          have kb_1 : wo.cell? ⟨w.heap.size, 1, none⟩ = some (.int .i64 (jn : Int)) := qb.out.cell 1 rfl
          have fb_1 := qb.out.frozen 1
          have kb_2 : wo.cell? ⟨w.heap.size, 2, none⟩ = some (.int .i64 ak) := qb.out.cell 2 rfl
          have fb_2 := qb.out.frozen 2
          have lb := qb.out.lt
          obtain ⟨X, hX⟩ : ∃ X, X = x.length := ⟨_, rfl⟩
          rw [← hX] at hlX j0
          have HXL := Lib.hid hX
          clear hX hax hx hcx hxo hx12 htk hN hrx hac hcc
          obtain ⟨ys2, hy2⟩ : ∃ z, z = ys ++ frameL x := ⟨_, rfl⟩
          have hyl2 : ys2.length ≤ 240 * k + N := by rw [hy2, List.length_append, ← HN.out]; omega
          have HY2 := Lib.hid hy2
          clear hy2
          go_wp2_with (first
            | (go_at_call 22; refine (frame_is HN.out _ hlX HTK.out (by rw [HXL.out]; exact HRX.out.below (Nat.le_refl _) HB.out)).mono ?_; rintro e w2 ⟨B2, d2, rfl, hf2, hb2⟩; have HF2 := Lib.hid hf2; have HO2 := Lib.hid (own_below hb2 (Nat.le_refl _) HO.out); have HB2 := Lib.hid (Below.andThen HB.out hb2); have hs2 := hb2.size; have qb : Hid (Blk w2 w.heap.size 30 #[.slice (some ⟨bA, oA, none⟩) n c, .int .i64 (jn : Int), .int .i64 ak]) := qb.out.below (Nat.le_refl _) hb2; clear lb kb_0 fb_0 kb_1 fb_1 kb_2 fb_2; clear j0 ja hf2 hb2; have kb_0 : w2.cell? ⟨w.heap.size, 0, none⟩ = some (.slice (some ⟨bA, oA, none⟩) n c) := qb.out.cell 0 rfl; have fb_0 := qb.out.frozen 0; have kb_1 : w2.cell? ⟨w.heap.size, 1, none⟩ = some (.int .i64 (jn : Int)) := qb.out.cell 1 rfl; have fb_1 := qb.out.frozen 1; have kb_2 : w2.cell? ⟨w.heap.size, 2, none⟩ = some (.int .i64 ak) := qb.out.cell 2 rfl; have fb_2 := qb.out.frozen 2; have lb := qb.out.lt)
            | (at_builtin; refine wpList_append_rd _ rfl _ _ 25 rfl (w.heap.size + 1) 3 i0 (.int .i64 0) 1 8 Try.underlying25 hi hz0 hz1 hz2 rfl (by omega) _  ys.length (ints ys) rfl HO2.out B2 N d2 (ints (frameL x)) rfl HF2.out.rd (ints_one _) (by unfold maxLen; omega) (by omega) (by omega) ?_; intro v4 w4 ho4 hg4 hat4; have HO4 : Hid (w4.ownsRow (w.heap.size + 1) 3 1 v4 ys2.length (ints ys2)) := (by rw [HY2.out]; exact own_ints ho4); have hs4 := hg4.size; have HB4 : Hid (Below w.heap.size w w4) := below_own (size := 1) (base := w.heap.size + 1) HB2.out HO2.out (by omega) (by omega) hg4; have qb : Hid (Blk w4 w.heap.size 30 #[.slice (some ⟨bA, oA, none⟩) n c, .int .i64 (jn : Int), .int .i64 ak]) := Blk.grown qb.out hg4 (fun k9 hk9 => by have := (HO2.out.lt k9 hk9).1; omega); clear lb kb_0 fb_0 kb_1 fb_1 kb_2 fb_2; clear ho4 hg4 hat4; have kb_0 : w4.cell? ⟨w.heap.size, 0, none⟩ = some (.slice (some ⟨bA, oA, none⟩) n c) := qb.out.cell 0 rfl; have fb_0 := qb.out.frozen 0; have kb_1 : w4.cell? ⟨w.heap.size, 1, none⟩ = some (.int .i64 (jn : Int)) := qb.out.cell 1 rfl; have fb_1 := qb.out.frozen 1; have kb_2 : w4.cell? ⟨w.heap.size, 2, none⟩ = some (.int .i64 ak) := qb.out.cell 2 rfl; have fb_2 := qb.out.frozen 2; have lb := qb.out.lt))
          refine (ask_any (some ⟨bA, oA, none⟩) n c (jn : Int) ak a _ (by omega)).mono ?_
          rw [← HA2.out]
          rintro e w5 ⟨⟨b5, rfl⟩, hb5⟩
          have HO5 := Lib.hid (own_below hb5 (Nat.le_refl _) HO4.out)
          have HB5 := Lib.hid (Below.andThen HB4.out hb5)
          have hs5 := hb5.size
          have qb : Hid (Blk w5 w.heap.size 30 #[.slice (some ⟨bA, oA, none⟩) n c, .int .i64 (jn : Int), .int .i64 ak]) := qb.out.below (Nat.le_refl _) hb5
          clear lb kb_0 fb_0 kb_1 fb_1 kb_2 fb_2
          clear hb5
          have kb_0 : w5.cell? ⟨w.heap.size, 0, none⟩ = some (.slice (some ⟨bA, oA, none⟩) n c) := qb.out.cell 0 rfl
          have fb_0 := qb.out.frozen 0
          have kb_1 : w5.cell? ⟨w.heap.size, 1, none⟩ = some (.int .i64 (jn : Int)) := qb.out.cell 1 rfl
          have fb_1 := qb.out.frozen 1
          have kb_2 : w5.cell? ⟨w.heap.size, 2, none⟩ = some (.int .i64 ak) := qb.out.cell 2 rfl
          have fb_2 := qb.out.frozen 2
          have lb := qb.out.lt
          go_wp2_with fail
          refine (end_any (some ⟨bA, oA, none⟩) n c (jn : Int) a2 _ (by omega)).mono ?_
          rw [HE6.out, ← HN2.out]
          rintro e w6 ⟨rfl, hb6⟩
          have HO6 := Lib.hid (own_below hb6 (Nat.le_refl _) (ownFar (ownFar (ownFar HO5.out (by dsimp only; omega) _) (by dsimp only; omega) _) (by dsimp only; omega) _))
          have HB6 := Lib.hid (Below.andThen (((HB5.out.setCell (by dsimp only; omega) _).setCell (by dsimp only; omega) _).setCell (by dsimp only; omega) _) hb6)
          have qb : Hid (Blk w6 w.heap.size 30 #[.slice (some ⟨bA, oA, none⟩) n c, .int .i64 (jn : Int), .int .i64 a2]) := (((qb.out.set_ 0 _).set_ 1 _).set_ 2 _).below (Nat.le_refl _) hb6
          clear lb kb_0 fb_0 kb_1 fb_1 kb_2 fb_2
          clear hb6
          have kb_0 : w6.cell? ⟨w.heap.size, 0, none⟩ = some (.slice (some ⟨bA, oA, none⟩) n c) := qb.out.cell 0 rfl
          have fb_0 := qb.out.frozen 0
          have kb_1 : w6.cell? ⟨w.heap.size, 1, none⟩ = some (.int .i64 (jn : Int)) := qb.out.cell 1 rfl
          have fb_1 := qb.out.frozen 1
          have kb_2 : w6.cell? ⟨w.heap.size, 2, none⟩ = some (.int .i64 a2) := qb.out.cell 2 rfl
          have fb_2 := qb.out.frozen 2
          have lb := qb.out.lt
          go_wp2
          go_roundw
          case rel =>
            refine ⟨k + 1, ys2, n2, -1, by omega, by go_num, by omega, ?_, ?_, ownFar (ownFar (ownFar HO6.out (by dsimp only; omega) _) (by dsimp only; omega) _) (by dsimp only; omega) _, ((qb.out.set_ 0 _).set_ 1 _).set_ 2 _, (((HB6.out.setCell (by dsimp only; omega) _).setCell (by dsimp only; omega) _).setCell (by dsimp only; omega) _)⟩
            · show _ = _
              rw [HNX.out, ← HS.out]
              simp only [rmStep]
              rw [HCU.out, hlt0.out, ← HA2.out, ← HN2.out, ← HY2.out]
            · show _ = true
              have h := HM2.out
              rw [hlt0.out, ← HA2.out] at h
              rw [HN2.out]
              exact modesOk_end h
          case measure => simp [intOf]; omega
        · have hkm : k = m := by omega
          have HZ : Hid (ys = runL parts ts now asked asks) := by
            show _ = _
            have h := HS.out
            rw [hkm, ← hla.out, List.take_length] at h
            rw [HE.out, ← h]
          have hsc := HB.out.size
          rcases HO.out.2 with ⟨rfl, h0⟩ | ⟨gg, cap, cur, rfl, hg1, hg2, hg3, hg4, _⟩
          · go_wp2_with (go_at_call 25; refine (ClipI_any none 0 0 _ (by omega) (by omega) (by omega) (fun _ => ⟨rfl, rfl⟩)).mono ?_; rintro e w2 ⟨rfl, rfl⟩)
            go_ret
            have e : ys = [] := List.eq_nil_of_length_eq_zero h0
            rw [← HZ.out, e]
            exact ⟨none, 0, rfl, Fr.nil_, HB.out⟩
          · clear hg2
            go_wp2_with (go_at_call 25; refine (ClipI_any (some ⟨gg, 0, none⟩) ys.length cap _ (by omega) hg3 hg4 (fun h => by cases h)).mono ?_; rintro e w2 ⟨rfl, rfl⟩)
            go_ret
            rw [← HZ.out]
            exact ⟨_, _, rfl, (Fr.of_own HO.out).wide (by omega) (Nat.le_refl _), HB.out⟩
    · rw [show runL parts ts now asked asks = [] by unfold runL; rw [if_pos HOK.out, if_neg (by rw [hla.out]; exact h10)]]
      have h11 : ¬ (m : Int) ≤ 10 := by omega
      have h12 : (10 : Int) < (m : Int) := by omega
      go_enter Try.func8, Try.ntmps8
      go_wp2_with fail
      refine (iModesValid_is HOK.out _ hm HT.out (HR.out.alloc _)).mono ?_
      rintro e w1 ⟨rfl, hb1⟩
      have HB1 : Hid (Below w.heap.size w w1) := Below.andThen (by go_grown) hb1
      clear hb1
      go_wp2
      go_ret
      exact ⟨none, 0, rfl, Fr.nil_, HB1.out⟩
end Go.Proofs.Ytdccgflkhgnflaa
