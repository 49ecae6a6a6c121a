/-
  THE NUMBERS OF A SETUP: the list, and the contract of spec.SetupNumbers.
  Conditions: none beyond those that each states.
-/
import Derived.Test.YtlckjhbgdbhdmaaMPart
import Derived.Test.YtlckjhbgdbhdmaaSlices
import Derived.Deep.RegionHeld3
namespace Go.Proofs.Ytlckjhbgdbhdmaa
open Go.ChangeShapes Go.WideShapes Go.ChangeAt Go.RowKit Go.Joins
set_option linter.unusedVariables false

def bitI (b : Bool) : Int := if b then 1 else 0
def numW (x : Int × Int × Bool) : List Int := [x.1, x.2.1, bitI x.2.2]
def numP (x : PartL) : List Int := x.2 :: (x.1.length : Int) :: x.1.flatMap numW
def numC (x : Chan) : List Int := [x.1, x.2.1, x.2.2.1, x.2.2.2]
def numS (x : Slot2) : List Int := [x.1 + 1, x.2]
def setupNums (ps : List PartL) (cs : List Chan) (ss : List Slot2) : List Int :=
  if setupOk ps cs ss = true then (ps.length : Int) :: (ps.flatMap numP ++ ((cs.length : Int) :: (cs.flatMap numC ++ ((ss.length : Int) :: ss.flatMap numS)))) else []
theorem flat_take {α : Type} (f : α → List Int) {xs : List α} {k : Nat} {x : α} (h : xs[k]? = some x) : (xs.take (k + 1)).flatMap f = (xs.take k).flatMap f ++ f x := by
  rw [take_snoc h]; simp
theorem setupOk_use {ps : List PartL} {cs : List Chan} {ss : List Slot2} (h : setupOk ps cs ss = true) : ps.length ≤ 5 ∧ cs.length ≤ 8 ∧ ss.length ≤ 12 ∧ ∀ x ∈ ps, x.1.length ≤ 12 := by
  unfold setupOk partsOk chansOk slotsOk at h
  simp only [Bool.and_eq_true, decide_eq_true_eq] at h
  obtain ⟨⟨h1, h2⟩, ⟨_, h4, _⟩, _, h6, _⟩ := h
  have h7 := inB_true.1 h6
  refine ⟨h1, h4, by omega, fun x hx => ?_⟩
  exact winsOk_len (partOk_wins (List.all_eq_true.1 h2 x hx))
theorem lit1n (w : World) {base g : Nat} (x : Int) (hg : w.heap.size = g) (h : base ≤ g) : (w.alloc (.cells #[.int .i64 x] 3)).ownsRow base 3 1 (.slice (some ⟨g, 0, none⟩) 1 1) 1 (ints [x]) := by
  subst hg
  simpa [ints] using World.ownsRow_lit w #[.int .i64 x] 1 h (by unfold maxLen; omega) (by simp)
theorem own_ints {w : World} {base n : Nat} {v : Value} {ys zs : List Int} (h : w.ownsRow base 3 1 v n (ints ys ++ ints zs)) : w.ownsRow base 3 1 v (ys ++ zs).length (ints (ys ++ zs)) := by
  have e : ints (ys ++ zs) = ints ys ++ ints zs := by simp [ints]
  have hl : (ys ++ zs).length = n := by have := h.1; rw [← e] at this; simpa [ints] using this
  rw [hl, e]; exact h
theorem Blk.grown {w w' : World} {g : Nat} {t : TypeId} {cs : Array Value} {row : Option Nat} (h : Blk w g t cs) (hg : w.grownBy w' row) (hne : ∀ k, row = some k → k ≠ g) : Blk w' g t cs := (hg.block g h.lt (fun e => hne g e.symm rfl)).trans h
theorem retI_own {w w' : World} {base : Nat} {v : Value} {zs : List Int} (h : w'.ownsRow base 3 1 v zs.length (ints zs)) (hb : w.heap.size ≤ base) (hB : Below w.heap.size w w') : RetI w zs (.returned v) w' := by
  rcases h.2 with ⟨rfl, h0⟩ | ⟨g, cap, cur, rfl, r⟩
  · have e : zs = [] := List.eq_nil_of_length_eq_zero h0
    subst e
    exact ⟨none, 0, rfl, Fr.nil_, hB⟩
  · exact ⟨_, _, rfl, (Fr.of_own h).wide hb (Nat.le_refl _), hB⟩
/-- a slice of numbers that is one's own, its room told -/
def RetIO (w : World) (zs : List Int) (e : Ending) (w' : World) : Prop := ∃ v, e = .returned v ∧ w'.ownsRow w.heap.size 3 1 v zs.length (ints zs) ∧ Below w.heap.size w w'
theorem retIO_own {w w' : World} {base : Nat} {v : Value} {zs : List Int} (h : w'.ownsRow base 3 1 v zs.length (ints zs)) (hb : w.heap.size ≤ base) (hB : Below w.heap.size w w') : RetIO w zs (.returned v) w' := by
  refine ⟨v, rfl, ⟨h.1, ?_⟩, hB⟩
  rcases h.2 with h2 | ⟨g, cap, cur, hv, hbg, r⟩
  · exact Or.inl h2
  · exact Or.inr ⟨g, cap, cur, hv, Nat.le_trans hb hbg, r⟩
theorem setupOk_slots {ps : List PartL} {cs : List Chan} {ss : List Slot2} (h : setupOk ps cs ss = true) : ∀ x ∈ ss, -1 ≤ x.1 ∧ x.1 ≤ 5 := by
  unfold setupOk slotsOk at h
  simp only [Bool.and_eq_true] at h
  obtain ⟨_, _, h5, _, h7⟩ := h
  have h8 := inB_true.1 h5
  intro x hx
  have h9 := List.all_eq_true.1 h7 x hx
  unfold slotOk at h9
  simp only [Bool.and_eq_true] at h9
  have := inB_true.1 h9.2
  omega
theorem ownD {w : World} {base : Nat} {e : TypeId} {size n : Nat} {v : Value} {xs : List Value} (h : w.ownsRow base e size v n xs) : w.drew.ownsRow base e size v n xs := h
theorem step_append_rd {P : Program} {w : World} {ops : Array Oper} {o : Oper} {a : Act} {K : Act → World → Prop} {Q : Exit → Act → World → Prop} {E : Prop} (hgd : o.guard = none) (s x : Operand) (t : TypeId)
    (ho : o.op = .call { callee := .builtin .append, args := #[s, x], argTypes := #[t, t] })
    (base : Nat) (e : TypeId) (i : TypeInfo) (z : Value) (size bytes : Nat) (ht : P.underlying t = some (.slice e)) (hi : P.info? e = some i) (hz : i.zero = some z)
    (hsize : i.size = size) (hby : i.bytes = bytes) (hzs : z.cells.size = size) (hsz : 0 < size)
    (v : Value) (n : Nat) (xs : List Value) (hs : a.eval s = v) (hown : w.ownsRow base e size v n xs)
    (A : Option Addr) (m c : Nat) (news : List Value) (hx : a.eval x = .slice A m c) (hr : Rd w size A m news) (h1 : ∀ u ∈ news, u.oneCell' = true)
    (h63 : n + m ≤ maxLen) (hbytes : (n + m) * bytes ≤ 140737488355328) (hbase : base ≤ w.heap.size)
    (h : ∀ v' w', w'.ownsRow base e size v' (n + m) (xs ++ news) → w.grownBy w' v.ownBlock → (v'.ownBlock = v.ownBlock ∨ v'.ownBlock = some w.heap.size) → K (a.put o.dst v') w') :
    if Region.wanted o (yielded ops a.tmps) = true then Oper.wp P o a w K Q else E := by
  have hw : Region.wanted o (yielded ops a.tmps) = true := by simp [Region.wanted, hgd]
  rw [if_pos hw]
  obtain ⟨v', w', hrun, h2, h3, h4⟩ := run_append_rd (P := P) w base t o.type e i z size bytes ht hi hz hsize hby hzs hsz v n xs hown A m c news hr h1 h63 hbytes hbase
  unfold Oper.wp execOp
  simp only [ho, resolve, invoke, builtin, Sem.run_bind, Sem.run_pure, Result.andThen_ok, List.map_toArray, List.map_cons, List.map_nil, hs, hx, hrun]
  exact h v' w' h2 h3 h4
set_option maxRecDepth 100000 in
set_option maxHeartbeats 8000000 in
theorem sSetupNumbers_own (A : Option Addr) (n c : Nat) (ps : List PartL) (B : Option Addr) (m d : Nat) (cs : List Chan) (C : Option Addr) (q e0 : Nat) (ss : List Slot2) (w : World) (hn : n ≤ 1048577) (hm : m ≤ 1048577) (hq : q ≤ 1048577) (ht : ∀ x ∈ ps, (partI x).length ≤ 1048577) (hr : Rd_set w A n ps B m cs C q ss) :
    Calls Try.prog 18 #[.agg #[.slice A n c, .slice B m d, .slice C q e0]] w (fun e w' => RetIO w (setupNums ps cs ss) e w') := by
  obtain ⟨i0, hi, hz0, hz1, hz2⟩ := info_parts Try.infoInt
  have hlp := Lib.hid hr.p.len
  have hlc := Lib.hid hr.c.chansLen
  have hls := Lib.hid hr.s.slotsLen
  have HR := Lib.hid hr
  have HT := Lib.hid ht
  clear hr ht
  cases hok : setupOk ps cs ss
  · rw [show setupNums ps cs ss = [] by unfold setupNums; rw [if_neg (by rw [hok]; simp)]]
    go_enter Try.func18, Try.ntmps18
    go_wp2_with fail
    refine (sSetupValid_is hok _ hn hm hq HT.out (HR.out.alloc _)).mono ?_
    rintro e w1 ⟨rfl, hb1⟩
    have HB1 : Hid (Below w.heap.size w w1) := Below.andThen (by go_grown) hb1
    clear hb1
    go_wp2
    go_ret
    exact retIO_own (zs := []) (World.ownsRow_lit (base := w.heap.size) w1 #[] 0 HB1.out.size (Nat.zero_le _) (by simp)) (Nat.le_refl _) (HB1.out.alloc (by have := HB1.out.size; omega) _)
  · obtain ⟨hp5, hc8, hs12, hw12⟩ := setupOk_use hok
    rw [hlp.out] at hp5
    rw [hlc.out] at hc8
    rw [hls.out] at hs12
    have HW := Lib.hid hw12
    have HE : Hid (setupNums ps cs ss = (n : Int) :: (ps.flatMap numP ++ ((m : Int) :: (cs.flatMap numC ++ ((q : Int) :: ss.flatMap numS))))) := by show _ = _; unfold setupNums; rw [if_pos hok, hlp.out, hlc.out, hls.out]
    have HSL := Lib.hid (setupOk_slots hok)
    have HOK := Lib.hid hok
    clear hw12 hok
    go_enter Try.func18, Try.ntmps18
    go_wp2_with fail
    refine (sSetupValid_is HOK.out _ hn hm hq HT.out (HR.out.alloc _)).mono ?_
    rintro e w1 ⟨rfl, hb1⟩
    have HB1 : Hid (Below w.heap.size w w1) := Below.andThen (by go_grown) hb1
    have qb : Hid (Blk w1 w.heap.size 33 #[.slice A n c, .slice B m d, .slice C q e0]) := Blk.below (w' := w1) (Blk.at_ _ _ _ rfl) (Nat.le_refl _) hb1
    have kb_0 : w1.cell? ⟨w.heap.size, 0, none⟩ = some (.slice A n c) := qb.out.cell 0 rfl
    have lb := qb.out.lt
    clear hb1
    go_wp2
    go_loopw [3, 4] (fun v i wr => ∃ (j : Nat) (ys : List Int), j ≤ n ∧ i = .int .i64 j ∧ ys.length ≤ 1 + 38 * j ∧ Hid (wr.ownsRow (w.heap.size + 1) 3 1 v ys.length (ints ys)) ∧ Hid (ys = (n : Int) :: (ps.take j).flatMap numP) ∧ Hid (Blk wr w.heap.size 33 #[.slice A n c, .slice B m d, .slice C q e0]) ∧ Hid (Below w.heap.size w wr)) (fun _ i _ => n - (intOf i).toNat)
    case atStart => exact ⟨0, [(n : Int)], Nat.zero_le _, rfl, by simp, lit1n _ _ rfl (by omega), rfl, qb.out.alloc _, HB1.out.alloc (by omega) _⟩
    case round =>
      obtain ⟨j, ys, hj, rfl, hyl, HO, HY, qb, HB⟩ := hrel
      obtain ⟨wo, rfl⟩ : ∃ x : World, x = wr := ⟨_, rfl⟩
      have kb_0 : wo.cell? ⟨w.heap.size, 0, none⟩ = some (.slice A n c) := qb.out.cell 0 rfl
      have lb := qb.out.lt
      by_cases hlt : j < n
      · obtain ⟨b, o, Ai, ni, ci, x, rfl, hbl, hxx, c0, c1, hni, hmx, hrd⟩ := HR.out.p.at_ hlt
        have hn12 : ni ≤ 12 := by have := HW.out x (List.mem_of_getElem? hxx); omega
        have HX := Lib.hid hxx
        have HNI := Lib.hid hni
        have HRi := Lib.hid hrd
        have j0 := (HB.out.cell (p := ⟨b, o + j * 2, none⟩) hbl).trans c0
        have j1 := (HB.out.cell (p := ⟨b, o + j * 2 + 1, none⟩) hbl).trans c1
        clear hxx hni hmx hrd c0 c1
        go_wp2_with (at_builtin; refine wpList_append_rd _ rfl _ _ 37 rfl (w.heap.size + 1) 3 i0 (.int .i64 0) 1 8 Try.underlying37 hi hz0 hz1 hz2 rfl (by omega) _ ys.length (ints ys) rfl ((HO.out.alloc _).alloc _) _ 2 2 (ints [x.2, (ni : Int)]) rfl (rd_new (by simp) rfl) (ints_one _) (by unfold maxLen; omega) (by omega) (by first | (simp; done) | (simp; omega)) ?_; intro v4 w4 ho4 hg4 hat4; have HO4 := Lib.hid (own_ints ho4); have HG4 := Lib.hid hg4; have hs4 := hg4.size; simp only [World.size_alloc] at hs4; have HD4 : Hid (∀ k, v4.ownBlock = some k → k ≠ wo.heap.size) := (by intro k hk9; rcases hat4 with e | e <;> first | (have := HO.out.lt k (e.symm.trans hk9); omega) | (have := Option.some.inj (hk9.symm.trans e); simp at this; omega)); have HB4 : Hid (Below w.heap.size w w4) := below_own (size := 1) (base := w.heap.size + 1) ((HB.out.alloc (by omega) _).alloc (by simp; omega) _) ((HO.out.alloc _).alloc _) (by omega) (by simp; omega) hg4; have qb4 : Hid (Blk w4 w.heap.size 33 #[.slice (some ⟨b, o, none⟩) n c, .slice B m d, .slice C q e0]) := Lib.hid (Blk.grown ((qb.out.alloc _).alloc _) hg4 (fun k hk9 => by have := (HO.out.lt k hk9).1; omega)); have q5 : Hid (Blk w4 wo.heap.size 69 #[.slice Ai ni ci, .int .i64 x.2]) := Lib.hid (Blk.grown ((Blk.at_ _ _ _ rfl).alloc _) hg4 (fun k hk9 => by have := (HO.out.lt k hk9).2; omega)); clear ho4 hg4 hat4; have k5_0 : w4.cell? ⟨wo.heap.size, 0, none⟩ = some (.slice Ai ni ci) := q5.out.cell 0 rfl)
        obtain ⟨Y2, hY2⟩ : ∃ Y2, Y2 = ys ++ [x.2, (ni : Int)] := ⟨_, rfl⟩
        rw [← hY2] at HO4
        have hyl2 : Y2.length ≤ 3 + 38 * j := by rw [hY2]; simp; omega
        have HY2 := Lib.hid hY2
        clear hY2
        go_loopw [3, 6] (fun v i wx => ∃ (k : Nat) (zs : List Int), k ≤ ni ∧ i = .int .i64 k ∧ zs.length ≤ 3 + 38 * j + 3 * k ∧ Hid (wx.ownsRow (w.heap.size + 1) 3 1 v zs.length (ints zs)) ∧ Hid (zs = Y2 ++ (x.1.take k).flatMap numW) ∧ Hid (∀ q, v.ownBlock = some q → q ≠ wo.heap.size) ∧ Hid (Blk wx w.heap.size 33 #[.slice (some ⟨b, o, none⟩) n c, .slice B m d, .slice C q e0]) ∧ Hid (Blk wx wo.heap.size 69 #[.slice Ai ni ci, .int .i64 x.2]) ∧ Hid (Below w.heap.size w wx)) (fun _ i _ => ni - (intOf i).toNat)
        case atStart => exact ⟨0, Y2, Nat.zero_le _, rfl, by omega, HO4, by show _ = _; simp, HD4, qb4, q5, HB4⟩
        case round =>
          obtain ⟨k, zs, hk, rfl, hzl, HOz, HZ, HD, qb, q5, HBx⟩ := hrel
          obtain ⟨wx, rfl⟩ : ∃ x : World, x = wr := ⟨_, rfl⟩
          clear HO4 HD4 qb4 HB4 k5_0 j0 j1 kb_0 lb hs4
          have k5_0 : wx.cell? ⟨wo.heap.size, 0, none⟩ = some (.slice Ai ni ci) := q5.out.cell 0 rfl
          have l5 := q5.out.lt
          have lb := qb.out.lt
          by_cases hkt : k < ni
          · obtain ⟨b2, o2, p0, p1, p2, rfl, hbl2, hwx, f0, f1, f2⟩ := HRi.out.win hkt
            have F0 := Lib.hid f0
            have F1 := Lib.hid f1
            have d0 := (HBx.out.cell (p := ⟨b2, o2 + k * 3, none⟩) hbl2).trans f0
            have d1 := (HBx.out.cell (p := ⟨b2, o2 + k * 3 + 1, none⟩) hbl2).trans f1
            have d2 := (HBx.out.cell (p := ⟨b2, o2 + k * 3 + 2, none⟩) hbl2).trans f2
            have hk0 : (0 : Int) ≤ (k : Int) := by omega
            have hk1 : (k : Int) < (ni : Int) := by omega
            cases p2
            · have HZ2 : Hid (zs ++ [p0, p1, 0] = Y2 ++ (x.1.take (k + 1)).flatMap numW) := by show _ = _; rw [flat_take numW hwx, ← List.append_assoc, ← HZ.out]; rfl
              clear f0 f1 f2 hwx
              go_wp2
              clear d2
              go_region_held3 (fun w' => w'.cell? ⟨wo.heap.size, 0, none⟩ = some (.slice (some ⟨b2, o2, none⟩) ni ci) ∧ w'.cell? ⟨b2, o2 + k * 3, none⟩ = some (.int .i64 p0) ∧ w'.cell? ⟨b2, o2 + k * 3 + 1, none⟩ = some (.int .i64 p1)) (refine ⟨?_, ?_, ?_⟩ <;> (repeat' (first | with_reducible exact k5_0 | with_reducible exact d0 | with_reducible exact d1 | (with_reducible refine keepS ?_ (by dsimp only; first | exact Nat.ne_of_lt (by assumption) | omega) _) | with_reducible refine keepA ?_ _ | with_reducible refine keepD ?_))) ((refine step_append_rd (by rfl) _ _ _ (by rfl) (w.heap.size + 1) 3 i0 _ 1 8 Try.underlying37 hi hz0 hz1 hz2 rfl (by omega) _ zs.length (ints zs) (by rfl) (by first | exact HOz.out.alloc _ | exact ownD (HOz.out.alloc _) | exact (HOz.out.alloc _)) _ 3 3 (ints [p0, p1, 0]) (by rfl) (by first | exact rd_new (by simp) rfl | exact (rd_new (by simp) rfl).drew) (ints_one _) (by unfold maxLen; omega) (by omega) (by first | (simp; done) | (simp; omega)) ?_; intro v6 w6 ho6 hg6 hat6; have HO6 := Lib.hid (own_ints ho6); have hs6 := hg6.size; have hgx := hg6.size; have HD6 : Hid (∀ k, v6.ownBlock = some k → k ≠ wo.heap.size) := (by intro k hk9; rcases hat6 with e | e <;> first | exact HD.out k (e.symm.trans hk9) | (have e2 := Option.some.inj (hk9.symm.trans e); simp at e2; omega)); have HB6 : Hid (Below w.heap.size w w6) := below_own (size := 1) (base := w.heap.size + 1) (by first | exact HBx.out.alloc (by omega) _ | exact Below.drew (HBx.out.alloc (by omega) _)) (by first | exact HOz.out.alloc _ | exact ownD (HOz.out.alloc _) | exact (HOz.out.alloc _)) (by omega) (by first | (simp; done) | (simp; omega)) hg6; have qb6 : Hid (Blk w6 w.heap.size 33 #[.slice (some ⟨b, o, none⟩) n c, .slice B m d, .slice C q e0]) := Lib.hid (Blk.grown (by first | exact qb.out.alloc _ | exact Blk.drew (qb.out.alloc _)) hg6 (fun k hk9 => by have := (HOz.out.lt k hk9).1; omega)); have q56 : Hid (Blk w6 wo.heap.size 69 #[.slice (some ⟨b2, o2, none⟩) ni ci, .int .i64 x.2]) := Lib.hid (Blk.grown (by first | exact q5.out.alloc _ | exact Blk.drew (q5.out.alloc _)) hg6 (fun k hk9 => HD.out k hk9)); clear ho6 hg6 hat6 k5_0 d0 d1; have k5_0 : w6.cell? ⟨wo.heap.size, 0, none⟩ = some (.slice (some ⟨b2, o2, none⟩) ni ci) := q56.out.cell 0 rfl; have d0 := (HB6.out.cell (p := ⟨b2, o2 + k * 3, none⟩) hbl2).trans F0.out; have d1 := (HB6.out.cell (p := ⟨b2, o2 + k * 3 + 1, none⟩) hbl2).trans F1.out))
              go_wp2
              go_roundw
              case rel => exact ⟨k + 1, zs ++ [p0, p1, 0], by omega, by go_num, by simp; omega, HO6, HZ2, HD6, qb6, q56, HB6⟩
              case measure => simp [intOf]; omega
            · have HZ2 : Hid (zs ++ [p0, p1, 1] = Y2 ++ (x.1.take (k + 1)).flatMap numW) := by show _ = _; rw [flat_take numW hwx, ← List.append_assoc, ← HZ.out]; rfl
              clear f0 f1 f2 hwx
              go_wp2
              clear d2
              go_region_held3 (fun w' => w'.cell? ⟨wo.heap.size, 0, none⟩ = some (.slice (some ⟨b2, o2, none⟩) ni ci) ∧ w'.cell? ⟨b2, o2 + k * 3, none⟩ = some (.int .i64 p0) ∧ w'.cell? ⟨b2, o2 + k * 3 + 1, none⟩ = some (.int .i64 p1)) (refine ⟨?_, ?_, ?_⟩ <;> (repeat' (first | with_reducible exact k5_0 | with_reducible exact d0 | with_reducible exact d1 | (with_reducible refine keepS ?_ (by dsimp only; first | exact Nat.ne_of_lt (by assumption) | omega) _) | with_reducible refine keepA ?_ _ | with_reducible refine keepD ?_))) ((refine step_append_rd (by rfl) _ _ _ (by rfl) (w.heap.size + 1) 3 i0 _ 1 8 Try.underlying37 hi hz0 hz1 hz2 rfl (by omega) _ zs.length (ints zs) (by rfl) (by first | exact HOz.out.alloc _ | exact ownD (HOz.out.alloc _) | exact (HOz.out.alloc _)) _ 3 3 (ints [p0, p1, 1]) (by rfl) (by first | exact rd_new (by simp) rfl | exact (rd_new (by simp) rfl).drew) (ints_one _) (by unfold maxLen; omega) (by omega) (by first | (simp; done) | (simp; omega)) ?_; intro v6 w6 ho6 hg6 hat6; have HO6 := Lib.hid (own_ints ho6); have hs6 := hg6.size; have hgx := hg6.size; have HD6 : Hid (∀ k, v6.ownBlock = some k → k ≠ wo.heap.size) := (by intro k hk9; rcases hat6 with e | e <;> first | exact HD.out k (e.symm.trans hk9) | (have e2 := Option.some.inj (hk9.symm.trans e); simp at e2; omega)); have HB6 : Hid (Below w.heap.size w w6) := below_own (size := 1) (base := w.heap.size + 1) (by first | exact HBx.out.alloc (by omega) _ | exact Below.drew (HBx.out.alloc (by omega) _)) (by first | exact HOz.out.alloc _ | exact ownD (HOz.out.alloc _) | exact (HOz.out.alloc _)) (by omega) (by first | (simp; done) | (simp; omega)) hg6; have qb6 : Hid (Blk w6 w.heap.size 33 #[.slice (some ⟨b, o, none⟩) n c, .slice B m d, .slice C q e0]) := Lib.hid (Blk.grown (by first | exact qb.out.alloc _ | exact Blk.drew (qb.out.alloc _)) hg6 (fun k hk9 => by have := (HOz.out.lt k hk9).1; omega)); have q56 : Hid (Blk w6 wo.heap.size 69 #[.slice (some ⟨b2, o2, none⟩) ni ci, .int .i64 x.2]) := Lib.hid (Blk.grown (by first | exact q5.out.alloc _ | exact Blk.drew (q5.out.alloc _)) hg6 (fun k hk9 => HD.out k hk9)); clear ho6 hg6 hat6 k5_0 d0 d1; have k5_0 : w6.cell? ⟨wo.heap.size, 0, none⟩ = some (.slice (some ⟨b2, o2, none⟩) ni ci) := q56.out.cell 0 rfl; have d0 := (HB6.out.cell (p := ⟨b2, o2 + k * 3, none⟩) hbl2).trans F0.out; have d1 := (HB6.out.cell (p := ⟨b2, o2 + k * 3 + 1, none⟩) hbl2).trans F1.out))
              go_wp2
              go_roundw
              case rel => exact ⟨k + 1, zs ++ [p0, p1, 1], by omega, by go_num, by simp; omega, HO6, HZ2, HD6, qb6, q56, HB6⟩
              case measure => simp [intOf]; omega
          · have hkn : k = ni := by omega
            have HZ3 : Hid (zs = (n : Int) :: (ps.take (j + 1)).flatMap numP) := by
              show _ = _
              rw [HZ.out, HY2.out, HY.out, flat_take numP HX.out, hkn, ← HNI.out, List.take_length]
              simp [numP]
            go_wp2
            go_roundw
            case rel => exact ⟨j + 1, zs, by omega, by go_num, by omega, HOz, HZ3, qb, HBx⟩
            case measure => simp [intOf]; omega
      · have hjn : j = n := by omega
        have HY1 : Hid (ys = (n : Int) :: ps.flatMap numP) := by
          show _ = _
          rw [HY.out, hjn, ← hlp.out, List.take_length]
        have kb_1 : wo.cell? ⟨w.heap.size, 1, none⟩ = some (.slice B m d) := qb.out.cell 1 rfl
        go_wp2_with (at_builtin; refine wpList_append_rd _ rfl _ _ 37 rfl (w.heap.size + 1) 3 i0 (.int .i64 0) 1 8 Try.underlying37 hi hz0 hz1 hz2 rfl (by omega) _ ys.length (ints ys) rfl (HO.out.alloc _) _ 1 1 (ints [(m : Int)]) rfl (rd_new (by first | rfl | simp) rfl) (ints_one _) (by unfold maxLen; omega) (by omega) (by first | (simp; done) | (simp; omega)) ?_; intro v4 w4 ho4 hg4 hat4; have HO4 := Lib.hid (own_ints ho4); have HB4 : Hid (Below w.heap.size w w4) := below_own (size := 1) (base := w.heap.size + 1) (HB.out.alloc (by omega) _) (HO.out.alloc _) (by omega) (by simp; omega) hg4; have qb4 : Hid (Blk w4 w.heap.size 33 #[.slice A n c, .slice B m d, .slice C q e0]) := Lib.hid (Blk.grown (qb.out.alloc _) hg4 (fun k hk9 => by have := (HO.out.lt k hk9).1; omega)); clear ho4 hg4 hat4)
        obtain ⟨Y3, hY3⟩ : ∃ Y3, Y3 = ys ++ [(m : Int)] := ⟨_, rfl⟩
        rw [← hY3] at HO4
        have hyl3 : Y3.length ≤ 192 := by rw [hY3]; simp; omega
        have HY3 := Lib.hid hY3
        clear hY3
        go_loopw [3, 8] (fun v i wx => ∃ (k : Nat) (zs : List Int), k ≤ m ∧ i = .int .i64 k ∧ zs.length ≤ 192 + 4 * k ∧ Hid (wx.ownsRow (w.heap.size + 1) 3 1 v zs.length (ints zs)) ∧ Hid (zs = Y3 ++ (cs.take k).flatMap numC) ∧ Hid (Blk wx w.heap.size 33 #[.slice A n c, .slice B m d, .slice C q e0]) ∧ Hid (Below w.heap.size w wx)) (fun _ i _ => m - (intOf i).toNat)
        case atStart => exact ⟨0, Y3, Nat.zero_le _, rfl, by omega, HO4, by show _ = _; simp, qb4, HB4⟩
        case round =>
          obtain ⟨k, zs, hk, rfl, hzl, HOz, HZ, qb, HBx⟩ := hrel
          obtain ⟨wx, rfl⟩ : ∃ x : World, x = wr := ⟨_, rfl⟩
          clear HO4 qb4 HB4 kb_0 kb_1 lb
          have kb_1 : wx.cell? ⟨w.heap.size, 1, none⟩ = some (.slice B m d) := qb.out.cell 1 rfl
          have kb_2 : wx.cell? ⟨w.heap.size, 2, none⟩ = some (.slice C q e0) := qb.out.cell 2 rfl
          have lb := qb.out.lt
          by_cases hkt : k < m
          · obtain ⟨b3, o3, p0, p1, p2, p3, rfl, hbl3, hwx, f0, f1, f2, f3⟩ := HR.out.c.chan hkt
            have d0 := (HBx.out.cell (p := ⟨b3, o3 + k * 4, none⟩) hbl3).trans f0
            have d1 := (HBx.out.cell (p := ⟨b3, o3 + k * 4 + 1, none⟩) hbl3).trans f1
            have d2 := (HBx.out.cell (p := ⟨b3, o3 + k * 4 + 2, none⟩) hbl3).trans f2
            have d3 := (HBx.out.cell (p := ⟨b3, o3 + k * 4 + 3, none⟩) hbl3).trans f3
            have HZ2 : Hid (zs ++ [p0, p1, p2, p3] = Y3 ++ (cs.take (k + 1)).flatMap numC) := by show _ = _; rw [flat_take numC hwx, ← List.append_assoc, ← HZ.out]; rfl
            clear f0 f1 f2 f3 hwx
            go_wp2_with (at_builtin; refine wpList_append_rd _ rfl _ _ 37 rfl (w.heap.size + 1) 3 i0 (.int .i64 0) 1 8 Try.underlying37 hi hz0 hz1 hz2 rfl (by omega) _ zs.length (ints zs) rfl ((HOz.out.alloc _).alloc _) _ 4 4 (ints [p0, p1, p2, p3]) rfl (rd_new (by first | rfl | simp) rfl) (ints_one _) (by unfold maxLen; omega) (by omega) (by first | (simp; done) | (simp; omega)) ?_; intro v6 w6 ho4 hg4 hat4; have HO4 := Lib.hid (own_ints ho4); have HB4 : Hid (Below w.heap.size w w6) := below_own (size := 1) (base := w.heap.size + 1) ((HBx.out.alloc (by omega) _).alloc (by simp; omega) _) ((HOz.out.alloc _).alloc _) (by omega) (by simp; omega) hg4; have qb4 : Hid (Blk w6 w.heap.size 33 #[.slice A n c, .slice (some ⟨b3, o3, none⟩) m d, .slice C q e0]) := Lib.hid (Blk.grown ((qb.out.alloc _).alloc _) hg4 (fun k hk9 => by have := (HOz.out.lt k hk9).1; omega)); clear ho4 hg4 hat4)
            go_wp2
            go_roundw
            case rel => exact ⟨k + 1, zs ++ [p0, p1, p2, p3], by omega, by go_num, by simp; omega, HO4, HZ2, qb4, HB4⟩
            case measure => simp [intOf]; omega
          · have hkn : k = m := by omega
            have HZ3 : Hid (zs = Y3 ++ cs.flatMap numC) := by
              show _ = _
              rw [HZ.out, hkn, ← hlc.out, List.take_length]
            go_wp2_with (at_builtin; refine wpList_append_rd _ rfl _ _ 37 rfl (w.heap.size + 1) 3 i0 (.int .i64 0) 1 8 Try.underlying37 hi hz0 hz1 hz2 rfl (by omega) _ zs.length (ints zs) rfl (HOz.out.alloc _) _ 1 1 (ints [(q : Int)]) rfl (rd_new (by first | rfl | simp) rfl) (ints_one _) (by unfold maxLen; omega) (by omega) (by first | (simp; done) | (simp; omega)) ?_; intro v8 w8 ho4 hg4 hat4; have HO4 := Lib.hid (own_ints ho4); have HB4 : Hid (Below w.heap.size w w8) := below_own (size := 1) (base := w.heap.size + 1) (HBx.out.alloc (by omega) _) (HOz.out.alloc _) (by omega) (by simp; omega) hg4; have qb4 : Hid (Blk w8 w.heap.size 33 #[.slice A n c, .slice B m d, .slice C q e0]) := Lib.hid (Blk.grown (qb.out.alloc _) hg4 (fun k hk9 => by have := (HOz.out.lt k hk9).1; omega)); clear ho4 hg4 hat4)
            obtain ⟨Y4, hY4⟩ : ∃ Y4, Y4 = zs ++ [(q : Int)] := ⟨_, rfl⟩
            rw [← hY4] at HO4
            have hyl4 : Y4.length ≤ 225 := by rw [hY4]; simp; omega
            have HY4 := Lib.hid hY4
            clear hY4
            go_loopw [3, 10] (fun v i wy => ∃ (t : Nat) (zy : List Int), t ≤ q ∧ i = .int .i64 t ∧ zy.length ≤ 225 + 2 * t ∧ Hid (wy.ownsRow (w.heap.size + 1) 3 1 v zy.length (ints zy)) ∧ Hid (zy = Y4 ++ (ss.take t).flatMap numS) ∧ Hid (Blk wy w.heap.size 33 #[.slice A n c, .slice B m d, .slice C q e0]) ∧ Hid (Below w.heap.size w wy)) (fun _ i _ => q - (intOf i).toNat)
            case atStart => exact ⟨0, Y4, Nat.zero_le _, rfl, by omega, HO4, by show _ = _; simp, qb4, HB4⟩
            case round =>
              obtain ⟨t, zy, ht, rfl, hzyl, HOy, HZy, qb, HBy⟩ := hrel
              obtain ⟨wy, rfl⟩ : ∃ x : World, x = wr := ⟨_, rfl⟩
              clear HO4 qb4 HB4 kb_1 kb_2 lb
              have kb_2 : wy.cell? ⟨w.heap.size, 2, none⟩ = some (.slice C q e0) := qb.out.cell 2 rfl
              have lb := qb.out.lt
              by_cases htt : t < q
              · obtain ⟨b4, o4, p0, p1, rfl, hbl4, hwx, f0, f1⟩ := HR.out.s.slot htt
                have F0 := Lib.hid f0
                have F1 := Lib.hid f1
                have d0 := (HBy.out.cell (p := ⟨b4, o4 + t * 2, none⟩) hbl4).trans f0
                have d1 := (HBy.out.cell (p := ⟨b4, o4 + t * 2 + 1, none⟩) hbl4).trans f1
                have HZ2 : Hid (zy ++ [p0 + 1, p1] = Y4 ++ (ss.take (t + 1)).flatMap numS) := by show _ = _; rw [flat_take numS hwx, ← List.append_assoc, ← HZy.out]; rfl
                have hpr := HSL.out _ (List.mem_of_getElem? hwx)
                dsimp only at hpr
                have hwr : IntKind.i64.wrap (p0 + 1) = p0 + 1 := IntWalk.i64_in _ (by omega)
                have ht0 : (0 : Int) ≤ (t : Int) := by omega
                have ht1 : (t : Int) < (q : Int) := by omega
                clear f0 f1 hwx
                go_wp2
                go_region_held3 (fun w' => w'.cell? ⟨w.heap.size, 2, none⟩ = some (.slice (some ⟨b4, o4, none⟩) q e0) ∧ w'.cell? ⟨b4, o4 + t * 2, none⟩ = some (.int .i64 p0) ∧ w'.cell? ⟨b4, o4 + t * 2 + 1, none⟩ = some (.int .i64 p1)) (refine ⟨?_, ?_, ?_⟩ <;> (repeat' (first | with_reducible exact kb_2 | with_reducible exact d0 | with_reducible exact d1 | (with_reducible refine keepS ?_ (by dsimp only; first | exact Nat.ne_of_lt (by assumption) | omega) _) | with_reducible refine keepA ?_ _ | with_reducible refine keepD ?_))) ((refine step_append_rd (by rfl) _ _ _ (by rfl) (w.heap.size + 1) 3 i0 _ 1 8 Try.underlying37 hi hz0 hz1 hz2 rfl (by omega) _ zy.length (ints zy) (by rfl) (by first | exact HOy.out.alloc _ | exact ownD (HOy.out.alloc _)) _ 2 2 (ints [p0 + 1, p1]) (by rfl) (by first | exact rd_new (by simp) rfl | exact (rd_new (by simp) rfl).drew) (ints_one _) (by unfold maxLen; omega) (by omega) (by first | (simp; done) | (simp; omega)) ?_; intro v6 w6 ho6 hg6 hat6; have HO6 := Lib.hid (own_ints ho6); have HB6 : Hid (Below w.heap.size w w6) := below_own (size := 1) (base := w.heap.size + 1) (by first | exact HBy.out.alloc (by omega) _ | exact Below.drew (HBy.out.alloc (by omega) _)) (by first | exact HOy.out.alloc _ | exact ownD (HOy.out.alloc _)) (by omega) (by first | (simp; done) | (simp; omega)) hg6; have qb6 : Hid (Blk w6 w.heap.size 33 #[.slice A n c, .slice B m d, .slice (some ⟨b4, o4, none⟩) q e0]) := Lib.hid (Blk.grown (by first | exact qb.out.alloc _ | exact Blk.drew (qb.out.alloc _)) hg6 (fun k hk9 => by have := (HOy.out.lt k hk9).1; omega)); clear ho6 hg6 hat6 kb_2 d0 d1; have kb_2 : w6.cell? ⟨w.heap.size, 2, none⟩ = some (.slice (some ⟨b4, o4, none⟩) q e0) := qb6.out.cell 2 rfl; have d0 := (HB6.out.cell (p := ⟨b4, o4 + t * 2, none⟩) hbl4).trans F0.out; have d1 := (HB6.out.cell (p := ⟨b4, o4 + t * 2 + 1, none⟩) hbl4).trans F1.out))
                go_wp2
                go_roundw
                case rel => exact ⟨t + 1, zy ++ [p0 + 1, p1], by omega, by go_num, by simp; omega, HO6, HZ2, qb6, HB6⟩
                case measure => simp [intOf]; omega
              · have htn : t = q := by omega
                have HZ4 : Hid (zy = setupNums ps cs ss) := by
                  show _ = _
                  rw [HE.out, HZy.out, HY4.out, HZ3.out, HY3.out, HY1.out, htn, ← hls.out, List.take_length]
                  simp
                go_wp2
                go_ret
                rw [← HZ4.out]
                exact retIO_own HOy.out (by omega) HBy.out
theorem sSetupNumbers_any (A : Option Addr) (n c : Nat) (ps : List PartL) (B : Option Addr) (m d : Nat) (cs : List Chan) (C : Option Addr) (q e0 : Nat) (ss : List Slot2) (w : World) (hn : n ≤ 1048577) (hm : m ≤ 1048577) (hq : q ≤ 1048577) (ht : ∀ x ∈ ps, (partI x).length ≤ 1048577) (hr : Rd_set w A n ps B m cs C q ss) :
    Calls Try.prog 18 #[.agg #[.slice A n c, .slice B m d, .slice C q e0]] w (fun e w' => RetI w (setupNums ps cs ss) e w') :=
  (sSetupNumbers_own A n c ps B m d cs C q e0 ss w hn hm hq ht hr).mono fun e w' h => by
    obtain ⟨v, rfl, h2, h3⟩ := h
    exact retI_own h2 (Nat.le_refl _) h3
end Go.Proofs.Ytlckjhbgdbhdmaa
