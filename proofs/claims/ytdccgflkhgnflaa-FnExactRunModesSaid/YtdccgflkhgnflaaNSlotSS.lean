/-
  NESTED ROWS of SlotSS: how a list of them lies in memory, and the laws' helpers over them.
  Conditions: none beyond those that each states.
-/
import Derived.Test.YtdccgflkhgnflaaRSlot
import Derived.Test.YtdccgflkhgnflaaNest2
namespace Go.Proofs.Ytdccgflkhgnflaa
open Go.ChangeShapes Go.WideShapes Go.ChangeAt Go.RowKit Go.Joins
set_option linter.unusedVariables false


def tabC : Hdr → List (Int × Int) → List Value := fun h _ => [.slice h.1 h.2.1 h.2.2]
def tabI : List (Int × Int) → List (Int × Int) := fun x => x
theorem tabC_len (h : Hdr) (x : List (Int × Int)) : (tabC h x).length = 1 := rfl
def Rd_tab (w : World) (A : Option Addr) (n : Nat) (xs : List (List (Int × Int))) : Prop := RdN 1 2 slotC tabC tabI w A n xs
def Fr_tab (w : World) (lo hi : Nat) (A : Option Addr) (n : Nat) (xs : List (List (Int × Int))) : Prop := FrN 1 2 58 slotC tabC tabI w lo hi A n xs
def FrO_tab (w : World) (g hi n : Nat) (xs : List (List (Int × Int))) : Prop := FrNO 1 2 43 58 slotC tabC tabI w g hi n xs
section
variable {w w' : World} {A : Option Addr} {n k lo hi : Nat} {xs : List (List (Int × Int))}
theorem Rd_tab.len (h : Rd_tab w A n xs) : xs.length = n := RdN.len h tabC_len (by omega)
theorem Rd_tab.below (h : Rd_tab w A n xs) {B : Nat} (hB : w.heap.size ≤ B) (hb : Below B w w') : Rd_tab w' A n xs := RdN.below h hB hb
theorem Rd_tab.alloc (h : Rd_tab w A n xs) (o : Obj) : Rd_tab (w.alloc o) A n xs := RdN.alloc h o
theorem Fr_tab.rd (h : Fr_tab w lo hi A n xs) : Rd_tab w A n xs := FrN.rd h
theorem Fr_tab.below (h : Fr_tab w lo hi A n xs) {B : Nat} (hB : w.heap.size ≤ B) (hb : Below B w w') : Fr_tab w' lo hi A n xs := FrN.below h hB hb
theorem Fr_tab.alloc (h : Fr_tab w lo hi A n xs) (o : Obj) : Fr_tab (w.alloc o) lo hi A n xs := FrN.alloc h o
theorem Fr_tab.touch {lo' hi' b0 : Nat} (h : Fr_tab w lo hi A n xs) (hA : ∀ a, A = some a → b0 ≤ a.block ∧ a.block < w.heap.size) (ht : Touch lo' hi' w w') (hb0 : b0 ≤ lo) (hd : (hi ≤ lo' ∧ lo ≤ lo') ∨ hi' ≤ b0) : Fr_tab w' lo hi A n xs := FrN.touch h hA ht hb0 hd
theorem Rd_tab.at_ (h : Rd_tab w A n xs) (hk : k < n) : ∃ b o Ai ni ci x, A = some ⟨b, o, none⟩ ∧ b < w.heap.size ∧ xs[k]? = some x ∧ w.cell? ⟨b, o + k, none⟩ = some (.slice Ai ni ci) ∧ (x).length = ni ∧ ni ≤ maxLen ∧ Rd w 2 Ai ni (slots (x)) := by
  obtain ⟨b, o, Ai, ni, ci, x, hA, hb, hx, hcell, h1, h2, h3⟩ := RdN.at_ h tabC_len (by omega) hk
  refine ⟨b, o, Ai, ni, ci, x, hA, hb, hx, ?_, h1, h2, h3⟩
  · have := hcell 0 _ rfl; simpa using this
end
def tabN (xs : List (List (Int × Int))) : Nat := totN tabI xs
theorem Try.infoSlotSS : (Try.prog.info? 43).map (fun i => (i.zero, i.size, i.bytes)) = some (some (.slice none 0 0), 1, 24) := by kernel_rfl
theorem elemSlotSS_any (Ai : Option Addr) (ni ci : Nat) (x : List (Int × Int)) (w : World) (hm : ni ≤ 1048576) (hr : Rd w 2 Ai ni (slots x)) :
    Calls Try.prog 33 #[.slice Ai ni ci] w fun e w' => ∃ g, e = .returned (.slice (some ⟨g, 0, none⟩) ni ni) ∧ w.heap.size ≤ g ∧ g < w'.heap.size ∧ Fr w' g (g + 1) 58 2 (some ⟨g, 0, none⟩) ni (slots x) ∧ Below w.heap.size w w' := by
  refine (toSlotS_any Ai ni ci x w hm hr).mono ?_
  rintro e w' ⟨he, ho, hb⟩
  obtain ⟨h1, h2, h3⟩ := own_one ho
  exact ⟨_, he, h3, h2, h1, hb⟩
set_option maxRecDepth 100000 in
set_option maxHeartbeats 2000000 in
theorem toSlotSS_own (A : Option Addr) (n c : Nat) (xs : List (List (Int × Int))) (w : World) (hm : n ≤ 1048576) (ht : ∀ x ∈ xs, (tabI x).length ≤ 1048576) (hr : Rd_tab w A n xs) :
    Calls Try.prog 20 #[.slice A n c] w fun e w' => e = .returned (.slice (some ⟨w.heap.size, 0, none⟩) n n) ∧ w.heap.size < w'.heap.size ∧ FrO_tab w' w.heap.size w'.heap.size n xs ∧ Below w.heap.size w w' := by
  obtain ⟨i0, hi, hz0, hz1, hz2⟩ := info_parts Try.infoSlotSS
  have hlz := Lib.hid hr.len
  have HR := Lib.hid hr
  have HT := Lib.hid ht
  clear hr ht
  go_enter Try.func20, Try.ntmps20
  go_wp2_with (at_make; refine wpList_make_full _ rfl _ _ 28 rfl w.heap.size 43 i0 (.slice none 0 0) 1 Try.underlying28 hi hz0 hz1 _ _ _ _ n rfl rfl rfl rfl ?b2 ?b3 (Nat.le_refl _) ?_)
  case b2 => rw [hz2]; omega
  case b3 => unfold maxLen; omega
  intro w0 hown0 hgrow0
  have hown1 : w0.ownsRow w.heap.size 43 1 (.slice (some ⟨w.heap.size, 0, none⟩) n n) n ((List.replicate n ()).flatMap (fun _ => ([.slice none 0 0] : List Value))) := by
    have e : (madeCells (Value.cells (.slice none 0 0)) (n * 1)).toList = (List.replicate n ()).flatMap (fun _ => ([.slice none 0 0] : List Value)) := made_rows (s := 1) (f := fun _ : Unit => ([.slice none 0 0] : List Value)) (fun _ => rfl) (by omega) () _ rfl n
    first | (rw [← e]; exact hown0) | (rw [← e, Nat.mul_one]; exact hown0)
  clear hown0
  have hs0 := (own_one hown1).2.1
  have hb0 : Below w.heap.size w w0 := (Below.refl _ _).grown hgrow0 (Nat.le_refl _) (fun k h => by cases h)
  clear hgrow0
  go_wp2
  go_loopw [4] (fun i wr => ∃ (k : Nat) (hx : List (Hdr × (List (Int × Int)))), k ≤ n ∧ i = .int .i64 k ∧ Hid (hx.length = k) ∧ Hid (hx.map Prod.snd = xs.take k) ∧ Hid (wr.ownsRow w.heap.size 43 1 (.slice (some ⟨w.heap.size, 0, none⟩) n n) n (hx.flatMap (fun p => tabC p.1 p.2) ++ (List.replicate (n - k) ()).flatMap (fun _ => ([.slice none 0 0] : List Value)))) ∧
      Hid (Apart hx) ∧ Hid (∀ p ∈ hx, FrI 2 58 slotC tabI wr (w.heap.size + 1) wr.heap.size p) ∧ w.heap.size < wr.heap.size ∧ Below w.heap.size w wr)
    (fun i _ => n - (intOf i).toNat)
  case atStart => exact ⟨0, [], Nat.zero_le _, rfl, rfl, by show _ = _; simp, hown1, List.Pairwise.nil, by show ∀ p ∈ [], _; (intro p hp; cases hp), hs0, hb0⟩
  case round =>
    obtain ⟨k, hx, hk, rfl, HL, HM, HO, HAp, HI, hgt, hb⟩ := hrel
    by_cases hlt : k < n
    · obtain ⟨b, o, Ai, ni, ci, x, rfl, hbl, hxx, h0, hn1, hn2, hrd⟩ := HR.out.at_ hlt
      have hm1 : ni ≤ 1048576 := by have := HT.out x (List.mem_of_getElem? hxx); rw [← hn1]; exact this
      have HX := Lib.hid hxx
      have HN1 := Lib.hid hn1
      have j0 := (hb.cell (p := ⟨b, o + k, none⟩) hbl).trans h0
      have HRi := Lib.hid (hrd.below (Nat.le_refl _) hb)
      clear hxx hn1 hrd h0 hown1 hb0
      have HCL : Hid ((hx.flatMap (fun p : Hdr × (List (Int × Int)) => tabC p.1 p.2) ++ (List.replicate (n - k) ()).flatMap (fun _ => ([.slice none 0 0] : List Value))).length = n * 1) := HO.out.1
      have hs := hb.size
      go_wp2_with fail
      refine (elemSlotSS_any Ai ni ci x _ hm1 (by exact HRi.out)).mono ?_
      rintro e w1 ⟨g, rfl, hg1, hg2, hf, hbc⟩
      have ho1 := own_below hbc (Nat.le_refl _) HO.out
      have hb1 := Below.andThen hb hbc
      have hs1 := hb1.size
      have HF := Lib.hid hf
      have HBC := Lib.hid hbc
      clear hf hbc j0
      obtain ⟨u0, t0⟩ : ∃ u, w1.cell? ⟨w.heap.size, k, none⟩ = some u := ⟨_, (ho1.cellAt (k) (by omega)).trans (List.getElem?_eq_getElem (by rw [HCL.out]; omega))⟩
      have g0 := ho1.frozenAt (k)
      go_wp2
      have hbc := HBC.out
      have hf := HF.out
      have ho2 := (ho1.stored (k) (.slice (some ⟨g, 0, none⟩) ni ni)).1
      have e9 := nest_step (hc := tabC) (zrow := ([.slice none 0 0] : List Value)) tabC_len rfl HL.out hlt (some ⟨g, 0, none⟩, ni, ni) x
      rw [Nat.mul_one] at e9
      go_roundw
      case rel =>
        refine ⟨k + 1, hx ++ [((some ⟨g, 0, none⟩, ni, ni), x)], by omega, by go_num, by show _ = k + 1; rw [List.length_append, HL.out]; rfl, by show _ = _; rw [List.map_append, HM.out, take_snoc HX.out]; rfl, ?_, ?_, ?_, by simp; omega, (hb1.setCell (Nat.le_refl _) _)⟩
        · show World.ownsRow _ _ _ _ _ _ _
          rw [← e9]
          exact ho2
        · refine apart_snoc HAp.out fun q hq => ?_
          obtain ⟨g', r1, _, r3, _⟩ := HI.out q hq
          rw [r1]
          simp only [ne_eq, Option.some.injEq, Addr.mk.injEq, and_true]
          omega
        · show ∀ p ∈ _, _
          intro p hp
          rcases List.mem_append.1 hp with hp | hp
          · exact (((HI.out p hp).below (Nat.le_refl _) hbc).setFar (a := ⟨w.heap.size, k, none⟩) (by left; simp) _).wide (Nat.le_refl _) (by simp; omega)
          · rw [List.mem_singleton.1 hp]
            exact ⟨g, rfl, by omega, by simp; omega, HN1.out, (show ni ≤ maxLen by unfold maxLen; omega), by simp; omega, (hf.setFar (p := ⟨w.heap.size, k, none⟩) (by left; simp; omega) _)⟩
      case measure => simp [intOf]; omega
    · have hkn : k = n := by omega
      subst hkn
      have h7 := HM.out
      rw [← hlz.out, List.take_length] at h7
      have H7 := Lib.hid h7
      have h8 := HO.out
      rw [Nat.sub_self] at h8
      have H8 := Lib.hid h8
      clear h7 h8
      go_wp2
      go_ret
      refine ⟨rfl, hgt, ⟨hx, H7.out, ?_, HAp.out, HI.out⟩, hb⟩
      have := H8.out
      simpa using this
theorem toSlotSS_any (A : Option Addr) (n c : Nat) (xs : List (List (Int × Int))) (w : World) (hm : n ≤ 1048576) (ht : ∀ x ∈ xs, (tabI x).length ≤ 1048576) (hr : Rd_tab w A n xs) :
    Calls Try.prog 20 #[.slice A n c] w fun e w' => e = .returned (.slice (some ⟨w.heap.size, 0, none⟩) n n) ∧ w.heap.size < w'.heap.size ∧ Fr_tab w' (w.heap.size + 1) w'.heap.size (some ⟨w.heap.size, 0, none⟩) n xs ∧ Below w.heap.size w w' :=
  (toSlotSS_own A n c xs w hm ht hr).mono fun _ _ ⟨h1, h2, h3, h4⟩ => ⟨h1, h2, FrNO.fr h3, h4⟩
set_option maxRecDepth 100000 in
set_option maxHeartbeats 2000000 in
theorem eqSlotSS_same (A B : Option Addr) (n c d : Nat) (xs : List (List (Int × Int))) (w : World) (hn : n ≤ 1048577) (ht : ∀ x ∈ xs, (tabI x).length ≤ 1048577) (hrx : Rd_tab w A n xs) (hry : Rd_tab w B n xs) :
    Calls Try.prog 26 #[.slice A n c, .slice B n d] w fun e w' => e = .returned (.bool true) ∧ Below w.heap.size w w' := by
  have HT := Lib.hid ht
  have HRX := Lib.hid hrx
  have HRY := Lib.hid hry
  clear ht hrx hry
  go_enter Try.func26, Try.ntmps26
  go_wp2
  go_loopw [5] (fun i wr => ∃ (k : Nat), k ≤ n ∧ i = .int .i64 k ∧ Below w.heap.size w wr) (fun i _ => n - (intOf i).toNat)
  case atStart => exact ⟨0, Nat.zero_le _, rfl, Below.refl _ _⟩
  case round =>
    obtain ⟨k, hk, rfl, hb⟩ := hrel
    by_cases hlt : k < n
    · obtain ⟨b, o, Ai, ni, ci, x, rfl, hbl, hx, h0, hn1, hn2, hrd⟩ := HRX.out.at_ hlt
      obtain ⟨b', o', Bi, mi, di, y, rfl, hbl', hy, h'0, hm1, hm2, hrd'⟩ := HRY.out.at_ hlt
      obtain rfl : x = y := by rw [hx] at hy; injection hy
      obtain rfl : ni = mi := by rw [← hn1, ← hm1]
      have hmi : ni ≤ 1048577 := by have := HT.out x (List.mem_of_getElem? hx); rw [← hn1]; exact this
      have a0 := (hb.cell (p := ⟨b, o + k, none⟩) hbl).trans h0
      have c0 := (hb.cell (p := ⟨b', o' + k, none⟩) hbl').trans h'0
      have H0 := Lib.hid h0
      have H'0 := Lib.hid h'0
      have HR1 := Lib.hid (hrd.below (Nat.le_refl _) hb)
      have HR2 := Lib.hid (hrd'.below (Nat.le_refl _) hb)
      have hs := hb.size
      have hk0 : (0 : Int) ≤ (k : Int) := by omega
      have hk1 : (k : Int) < (n : Int) := by omega
      clear hx hy hn1 hm1 hm2 hrd hrd' h0 h'0
      go_wp2
      go_region_held3 (fun w' => w'.cell? ⟨b, o + k, none⟩ = some (.slice Ai ni ci) ∧ w'.cell? ⟨b', o' + k, none⟩ = some (.slice Bi ni di)) (refine ⟨?_, ?_⟩ <;> (first | exact A0 | exact C0 | exact a0 | exact c0)) ((go_at_call 39; refine (eqSlotS_same Ai Bi ni ci di x _ hmi (by exact HR1.out) (by exact HR2.out)).mono ?_; rintro e w1 ⟨rfl, hb1⟩; have HB1 : Hid (Below w.heap.size w w1) := Below.andThen hb (Below.andThen (w := wr) (by go_grown) hb1); have A0 := (HB1.out.cell (p := ⟨b, o + k, none⟩) hbl).trans H0.out; have C0 := (HB1.out.cell (p := ⟨b', o' + k, none⟩) hbl').trans H'0.out))
      go_wp2
      go_roundw
      case rel => exact ⟨k + 1, by omega, by go_num, HB1.out⟩
      case measure => simp [intOf]; omega
    · have hkn : k = n := by omega
      go_wp2
      go_ret
      exact ⟨rfl, hb⟩
set_option maxRecDepth 100000 in
set_option maxHeartbeats 2000000 in
theorem szSlotSS_any (A : Option Addr) (n c : Nat) (xs : List (List (Int × Int))) (left : Int) (w : World) (hn : n ≤ 9223372036854775807) (h0 : 0 ≤ left) (h1 : left ≤ 1048576) (hr : Rd_tab w A n xs) :
    Calls Try.prog 14 #[.slice A n c, .int .i64 left] w fun e w' => e = .returned (.int .i64 (if ((n + tabN xs : Nat) : Int) ≤ left then left - ((n + tabN xs : Nat) : Int) else -1)) ∧ Below w.heap.size w w' := by
  have hlz := Lib.hid hr.len
  have HR := Lib.hid hr
  clear hr
  obtain ⟨T, hT⟩ : ∃ T, T = tabN xs := ⟨_, rfl⟩
  rw [← hT]
  have HT := Lib.hid hT
  clear hT
  by_cases h : (n : Int) ≤ left
  · have h2 : ¬ left - (n : Int) < 0 := by omega
    go_enter Try.func14, Try.ntmps14
    go_wp2
    go_loopw [1, 5] (fun ll i wr => ∃ (k t : Nat), k ≤ n ∧ i = .int .i64 k ∧ ll = .int .i64 (left - (n : Int) - (t : Int)) ∧ Hid (tabN (xs.take k) = t) ∧ (t : Int) ≤ left - (n : Int) ∧ Below w.heap.size w wr) (fun _ i _ => n - (intOf i).toNat)
    case atStart => exact ⟨0, 0, Nat.zero_le _, rfl, by simp, by show totN _ _ = _; simp [totN], by omega, Below.refl _ _⟩
    case round =>
      obtain ⟨k, t, hk, rfl, rfl, HK, htl, hb⟩ := hrel
      by_cases hlt : k < n
      · obtain ⟨b, o, Ai, ni, ci, x, rfl, hbl, hx, h0, hn1, hn2, hrd⟩ := HR.out.at_ hlt
        have j0 := (hb.cell (p := ⟨b, o + k, none⟩) hbl).trans h0
        have H2 : Hid (tabN (xs.take (k + 1)) = t + ni) := by show totN _ _ = _; rw [totN_snoc hx, ← hn1]; have := HK.out; unfold tabN at this; rw [this]; rfl
        have hle : t + ni ≤ T := by rw [HT.out, ← H2.out]; exact totN_take _ _ _
        unfold maxLen at hn2
        clear hx hn1 hrd h0
        by_cases hni : (ni : Int) ≤ left - (n : Int) - (t : Int)
        · have h3 : ¬ left - (n : Int) - (t : Int) - (ni : Int) < 0 := by omega
          go_wp2_with fail
          refine (szSlotS_any Ai ni ci _ _ (by omega) (by omega) (by omega)).mono ?_
          rw [if_pos (by omega)]
          rintro e w1 ⟨rfl, hb1⟩
          have hb2 := Below.andThen hb hb1
          clear hb1
          go_wp2
          go_roundw
          case rel => exact ⟨k + 1, t + ni, by omega, by go_num, congrArg (Value.int .i64) (by omega), H2, by omega, hb2⟩
          case measure => simp [intOf]; omega
        · go_wp2_with fail
          refine (szSlotS_any Ai ni ci _ _ (by omega) (by omega) (by omega)).mono ?_
          rw [if_neg (by omega)]
          rintro e w1 ⟨rfl, hb1⟩
          have hb2 := Below.andThen hb hb1
          clear hb1
          go_wp2
          go_ret
          exact ⟨by first | rfl | rw [if_neg (by omega)], hb2⟩
      · have hkn : k = n := by omega
        have h7 := HK.out
        rw [hkn, ← hlz.out, List.take_length, ← HT.out] at h7
        go_wp2
        go_ret
        exact ⟨ret_int (by first | omega | (rw [if_pos (by omega)]; omega)), hb⟩
  · have h2 : left - (n : Int) < 0 := by omega
    go_enter Try.func14, Try.ntmps14
    go_wp2
    go_ret
    exact ⟨by first | rfl | rw [if_neg (by omega)], Below.refl _ _⟩
end Go.Proofs.Ytdccgflkhgnflaa
