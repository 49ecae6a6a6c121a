/-
  CONTRACTS of an access to a cache.
  Conditions: none beyond those that each states.
-/
import Derived.Test.YtfdcneijcckolaaEmpty
namespace Go.Proofs.Ytfdcneijcckolaa
open Go.ChangeShapes Go.WideShapes Go.ChangeAt Go.RowKit Go.Joins
set_option linter.unusedVariables false

def lineAt (n : Nat) (p : Int) : Nat := (p / 16 % (n : Int)).toNat
def touchF (zs : List Int) (p : Int) : List Int := zs.set (lineAt zs.length p) (p / 16)
def touchT (zs : List Int) (p : Int) : Int := if zs[lineAt zs.length p]? = some (p / 16) then 1 else 8
theorem touchF_len (zs : List Int) (p : Int) : (touchF zs p).length = zs.length := by simp [touchF]
theorem line_parts {n : Nat} {p : Int} (hn : 1 ≤ n) (h0 : 0 ≤ p) (h1 : p ≤ 4095) : ∃ b : Nat, p / 16 = (b : Int) ∧ b ≤ 255 ∧ (b : Int) % (n : Int) = (lineAt n p : Int) ∧ lineAt n p < n := by
  refine ⟨(p / 16).toNat, by omega, by omega, ?_, ?_⟩
  · have e : (((p / 16).toNat : Nat) : Int) = p / 16 := by omega
    rw [e, lineAt, Int.toNat_of_nonneg (Int.emod_nonneg _ (by omega))]
  · have := Int.emod_lt_of_pos (p / 16) (show (0 : Int) < (n : Int) by omega)
    have := Int.emod_nonneg (p / 16) (show (n : Int) ≠ 0 by omega)
    unfold lineAt
    omega
theorem List.set_getElem?_self' {α : Type} {l : List α} {i : Nat} {x : α} (h : l[i]? = some x) : l.set i x = l := by
  apply List.ext_getElem?
  intro j
  rw [List.getElem?_set]
  split
  · rename_i e; subst e
    split
    · exact h.symm
    · rename_i h2; rw [List.getElem?_eq_none (by omega)]
  · rfl
set_option maxRecDepth 100000 in
set_option maxHeartbeats 2000000 in
theorem touch_any (A : Option Addr) (n c : Nat) (zs : List Int) (p : Int) (lo hi : Nat) (w : World) (hn : 1 ≤ n) (hm : n ≤ 16) (h0 : 0 ≤ p) (h1 : p ≤ 4095) (hf : Fr w lo hi 3 1 A n (ints zs)) (hhi : hi ≤ w.heap.size) :
    Calls Try.prog 66 #[.agg #[.slice A n c], .int .i64 p] w fun e w' => e = .returned (.int .i64 (touchT zs p)) ∧ Fr w' lo hi 3 1 A n (ints (touchF zs p)) ∧ Touch lo hi w w' := by
  have hlz := Lib.hid (show zs.length = n by have := hf.1; simpa [ints] using this)
  obtain ⟨b, hb, hb2, hl, hln⟩ := line_parts hn h0 h1
  obtain ⟨l, hl2⟩ : ∃ l, l = lineAt n p := ⟨_, rfl⟩
  rw [← hl2] at hl hln
  have hk0 : ((n : Nat) : Int) ≠ 0 := by omega
  have HL := Lib.hid hl2
  have HB := Lib.hid hb
  clear hl2
  obtain ⟨g, rfl, hlo, hghi, hcell, hfroz, hset⟩ := hf.use (by omega)
  have hlz2 : l < zs.length := by rw [hlz.out]; exact hln
  have hx := hcell l _ (by rw [ints_at, List.getElem?_eq_getElem hlz2]; rfl)
  have hfz := hfroz l
  obtain ⟨x, hxe⟩ : ∃ x, x = zs[l] := ⟨_, rfl⟩
  rw [← hxe] at hx
  have HX : Hid (zs[l]? = some x) := by show zs[l]? = some x; rw [hxe]; exact List.getElem?_eq_getElem hlz2
  have HS := Lib.hid (hset l (.int .i64 (b : Int)))
  have HF := Lib.hid hf
  clear hcell hfroz hset hxe hf
  have hgb : g < w.heap.size := by omega
  have hx2 := fun (o : Obj) => (World.cell?_of_block (Below.heap_alloc w o g hgb) (a := ⟨g, l, none⟩)).trans hx
  have hfz2 := fun (o : Obj) => (World.frozen?_of_block (Below.heap_alloc w o g hgb) (a := ⟨g, l, none⟩)).trans hfz
  by_cases hxb : x = b
  · have hd : (x == (b : Int)) = true := by simp [hxb]
    subst hxb
    go_enter Try.func66, Try.ntmps66
    go_wp2
    go_ret
    have e1 : touchT zs p = 1 := by rw [touchT, hlz.out, ← HL.out, HX.out, HB.out, if_pos rfl]
    have e2 : touchF zs p = zs := by
      rw [touchF, hlz.out, ← HL.out, HB.out]
      exact List.set_getElem?_self' HX.out
    rw [e1, e2]
    exact ⟨rfl, HF.out.alloc _, Touch.of_below (w := w) (B := w.heap.size) (by go_grown) (Nat.le_refl _)⟩
  · have hd : (x == (b : Int)) = false := by simp [hxb]
    go_enter Try.func66, Try.ntmps66
    go_wp2
    go_ret
    have e1 : touchT zs p = 8 := by rw [touchT, hlz.out, ← HL.out, HX.out, HB.out, if_neg (by simpa using hxb)]
    have e2 : ints (touchF zs p) = (ints zs).set l (.int .i64 (b : Int)) := by rw [touchF, hlz.out, ← HL.out, HB.out, ints_set]
    rw [e1, e2]
    exact ⟨rfl, HS.out.alloc _, Touch.trans ((Touch.refl lo hi w).setCell hlo hghi _) (Touch.of_below (w := w.setCell ⟨g, l, none⟩ (.int .i64 (b : Int))) (B := (w.setCell ⟨g, l, none⟩ (.int .i64 (b : Int))).heap.size) (by go_grown) (Nat.le_refl _))⟩
def touchOk (zs : List Int) (p : Int) : Bool := cacheOk zs && inB p 0 4095
def tcF (zs : List Int) (p : Int) : List Int := if touchOk zs p = true then touchF zs p else []
def tcT (zs : List Int) (p : Int) : Int := if touchOk zs p = true then touchT zs p else -1
def RetTouch (w : World) (zs : List Int) (t : Int) (e : Ending) (w' : World) : Prop :=
  ∃ A c, e = .returned (.tuple #[.agg #[.slice A zs.length c], .int .i64 t]) ∧ Fr w' w.heap.size w'.heap.size 3 1 A zs.length (ints zs) ∧ (A = none → zs.length = 0 ∧ c = 0) ∧ Below w.heap.size w w'
theorem cacheOk_le {zs : List Int} (h : cacheOk zs = true) : 1 ≤ zs.length ∧ zs.length ≤ 16 := by
  unfold cacheOk at h
  rw [Bool.and_eq_true] at h
  have := lined_le h.1
  omega
set_option maxRecDepth 100000 in
set_option maxHeartbeats 400000 in
theorem isPlace_any (n : Int) (w : World) : Calls Try.prog 65 #[.int .i64 n] w fun e w' => e = .returned (.bool (inB n 0 4095)) ∧ w = w' := by
  go_enter Try.func65, Try.ntmps65
  go_wp2_with (go_at_call 59; refine (in_any _ _ _ _).mono ?_; rintro e w1 ⟨rfl, rfl⟩)
  go_ret
  exact ⟨rfl, rfl⟩
set_option maxRecDepth 100000 in
set_option maxHeartbeats 2000000 in
theorem iTouchCache_any (A : Option Addr) (n c : Nat) (zs : List Int) (p : Int) (w : World) (hm : n ≤ 1048577) (hr : Rd w 1 A n (ints zs)) :
    Calls Try.prog 48 #[.agg #[.slice A n c], .int .i64 p] w (fun e w' => RetTouch w (tcF zs p) (tcT zs p) e w') := by
  have hlz := Lib.hid hr.len
  have HR := Lib.hid hr
  have HI : Hid (touchOk zs p = (cacheOk zs && inB p 0 4095)) := rfl
  clear hr
  cases hv : cacheOk zs
  · have e1 : touchOk zs p = false := by rw [HI.out, hv]; rfl
    rw [tcF, tcT, if_neg (by simp [e1]), if_neg (by simp [e1])]
    go_enter Try.func48, Try.ntmps48
    go_wp2_with (go_at_call 41; refine (iCacheValid_any A n c zs _ hm (HR.out.below (Nat.le_refl _) (by go_grown))).mono ?_; rw [hv]; rintro e w1 ⟨rfl, hb1⟩; have qb : Blk w1 (w.heap.size + 1) 50 #[.slice none 0 0] := Blk.below (w' := w1) (by repeat' (first | (refine Blk.at_ _ _ _ ?_; first | rfl | (simp; done)) | refine Blk.alloc ?_ _ | assumption)) (Nat.le_refl _) hb1; have kb_0 := qb.cell 0 rfl; have fb_0 := qb.frozen 0; have lb := qb.lt; have HB := Lib.hid (Below.andThen (w := w) (by go_grown) hb1); clear qb hb1)
    refine bodyPost_ret (v := .tuple #[.agg #[.slice none 0 0], .int .i64 (-1)]) (by simp [results, Try.results48, go_sem, *]) rfl ?_
    exact ⟨none, 0, rfl, Fr.nil_, fun _ => ⟨rfl, rfl⟩, by first | exact HB.out.setCell (by simp) _ | exact HB.out⟩
  · cases hp : inB p 0 4095
    · have e1 : touchOk zs p = false := by rw [HI.out, hp]; simp
      rw [tcF, tcT, if_neg (by simp [e1]), if_neg (by simp [e1])]
      go_enter Try.func48, Try.ntmps48
      go_wp2_with (first
        | (go_at_call 65; refine (isPlace_any _ _).mono ?_; rw [hp]; rintro e w1 ⟨rfl, rfl⟩)
        | (go_at_call 41; refine (iCacheValid_any A n c zs _ hm (HR.out.below (Nat.le_refl _) (by go_grown))).mono ?_; rw [hv]; rintro e w1 ⟨rfl, hb1⟩; have qb : Blk w1 (w.heap.size + 1) 50 #[.slice none 0 0] := Blk.below (w' := w1) (by repeat' (first | (refine Blk.at_ _ _ _ ?_; first | rfl | (simp; done)) | refine Blk.alloc ?_ _ | assumption)) (Nat.le_refl _) hb1; have kb_0 := qb.cell 0 rfl; have fb_0 := qb.frozen 0; have lb := qb.lt; have HB := Lib.hid (Below.andThen (w := w) (by go_grown) hb1); clear qb hb1))
      refine bodyPost_ret (v := .tuple #[.agg #[.slice none 0 0], .int .i64 (-1)]) (by simp [results, Try.results48, go_sem, *]) rfl ?_
      exact ⟨none, 0, rfl, Fr.nil_, fun _ => ⟨rfl, rfl⟩, by first | exact HB.out.setCell (by simp) _ | exact HB.out⟩
    · have e1 : touchOk zs p = true := by rw [HI.out, hv, hp]; rfl
      rw [tcF, tcT, if_pos e1, if_pos e1]
      have hn := cacheOk_le hv
      obtain ⟨h0, h1⟩ := inB_true.1 hp
      have hzl := hlz.out
      subst hzl
      obtain ⟨hn1, hn16⟩ := hn
      obtain ⟨F, hF⟩ : ∃ F, F = touchF zs p := ⟨_, rfl⟩
      obtain ⟨T, hT⟩ : ∃ T, T = touchT zs p := ⟨_, rfl⟩
      rw [← hF, ← hT]
      have HFl : Hid (F.length = zs.length) := by show _ = _; rw [hF, touchF_len]
      have HF := Lib.hid hF
      have HT := Lib.hid hT
      clear hF hT
      go_enter Try.func48, Try.ntmps48
      go_wp2_with (first
        | (go_at_call 65; refine (isPlace_any _ _).mono ?_; rw [hp]; rintro e w1 ⟨rfl, rfl⟩)
        | (go_at_call 41; refine (iCacheValid_any A zs.length c zs _ hm (HR.out.below (Nat.le_refl _) (by go_grown))).mono ?_; rw [hv]; rintro e w1 ⟨rfl, hb1⟩; have hs1 := hb1.size; simp only [World.size_alloc] at hs1; have qb : Hid (Blk w1 (w.heap.size + 1) 50 #[.slice none 0 0]) := Blk.below (w' := w1) (by repeat' (first | (refine Blk.at_ _ _ _ ?_; first | rfl | (simp; done)) | refine Blk.alloc ?_ _ | assumption)) (Nat.le_refl _) hb1; have qa : Hid (Blk w1 w.heap.size 50 #[.slice A zs.length c]) := Blk.below (w' := w1) (by repeat' (first | (refine Blk.at_ _ _ _ ?_; first | rfl | (simp; done)) | refine Blk.alloc ?_ _ | assumption)) (Nat.le_refl _) hb1; have ka_0 := qa.out.cell 0 rfl; have la := qa.out.lt; have HB := Lib.hid (Below.andThen (w := w) (by go_grown) hb1); clear hb1)
        | (go_at_call 60; refine (cloneI_any A zs.length c zs _ hm (HR.out.below (Nat.le_refl _) HB.out) (fun h => by obtain ⟨b, o, h2, _⟩ := HR.out.2 hn1; rw [h] at h2; cases h2)).mono ?_; rintro e w2 ⟨A2, c2, rfl, hf2, hb2⟩; have hs2 := hb2.size; have qb2 := Lib.hid (qb.out.below (Nat.le_refl _) hb2); have HB2 := Lib.hid (Below.andThen HB.out hb2); have HF2 := Lib.hid hf2; clear hf2 hb2)
        | (go_at_call 66; refine (touch_any A2 zs.length c2 zs p w1.heap.size w2.heap.size _ hn1 hn16 h0 h1 (HF2.out.alloc _) (by simp)).mono ?_; rw [← HF.out, ← HT.out]; rintro e w3 ⟨rfl, hf3, ht3⟩; have hs3 := ht3.size; simp only [World.size_alloc] at hs3; have qb3 := Lib.hid (Blk.touch (w' := w3) (Blk.alloc qb2.out _) ht3 (by left; omega)); have qx3 : Hid (Blk w3 w2.heap.size 50 #[.slice A2 zs.length c2]) := Blk.touch (w' := w3) (Blk.at_ _ _ _ rfl) ht3 (by right; omega); have kb_0 := qb3.out.cell 0 rfl; have fb_0 := qb3.out.frozen 0; have lb := qb3.out.lt; have kx_0 := qx3.out.cell 0 rfl; have lx := qx3.out.lt; have HF3 := Lib.hid hf3; have HB3 : Hid (Below w.heap.size w w3) := Below.trans (HB2.out.alloc (by omega) _) (ht3.below (by omega) (by simp; omega)); clear hf3 ht3))
      refine bodyPost_ret (v := .tuple #[.agg #[.slice A2 zs.length c2], .int .i64 T]) (by simp [results, Try.results48, go_sem, *]) rfl ?_
      refine ⟨A2, c2, by rw [HFl.out], ?_, fun h => ?_, HB3.out.setCell (by simp) _⟩
      · rw [HFl.out]
        exact (HF3.out.setFar (by left; simp; omega) _).wide (by omega) (by simp; omega)
      · obtain ⟨g, _, h2, _⟩ := HF2.out.2 hn1
        rw [h] at h2; cases h2
end Go.Proofs.Ytfdcneijcckolaa
