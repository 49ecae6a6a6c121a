/-
  CONTRACTS of AuditSince.
  Conditions: none beyond those that each states.
-/
import Derived.Test.YtboejpljjhgflaaBegins
import Derived.Deep.RegionHeld3
import Derived.IntWalk
namespace Go.Proofs.Ytboejpljjhgflaa
open Go.ChangeShapes Go.WideShapes Go.ChangeAt Go.RowKit Go.Joins
set_option linter.unusedVariables false

theorem step_append_rd {P : Program} {w : World} {ops : Array Oper} {o : Oper} {a : Act} {K : Act → World → Prop} {Q : Exit → Act → World → Prop} {E : Prop} (hgd : o.guard = none) (s x : Operand) (t : TypeId)
    (ho : o.op = .call { callee := .builtin .append, args := #[s, x], argTypes := #[t, t] })
    (base : Nat) (e : TypeId) (i : TypeInfo) (z : Value) (size bytes : Nat) (ht : P.underlying t = some (.slice e)) (hi : P.info? e = some i) (hz : i.zero = some z)
    (hsize : i.size = size) (hby : i.bytes = bytes) (hzs : z.cells.size = size) (hsz : 0 < size)
    (v : Value) (n : Nat) (xs : List Value) (hs : a.eval s = v) (hown : w.ownsRow base e size v n xs)
    (A : Option Addr) (m c : Nat) (news : List Value) (hx : a.eval x = .slice A m c) (hr : Rd w size A m news) (h1 : ∀ u ∈ news, u.oneCell' = true)
    (h63 : n + m ≤ maxLen) (hbytes : (n + m) * bytes ≤ 140737488355328) (hbase : base ≤ w.heap.size)
    (h : ∀ v' w', w'.ownsRow base e size v' (n + m) (xs ++ news) → w.grownBy w' v.ownBlock → (v'.ownBlock = v.ownBlock ∨ v'.ownBlock = some w.heap.size) → K (a.put o.dst v') w') :
    if Region.wanted o (yielded ops a.tmps) = true then Oper.wp P o a w K Q else E := by
  have hw : Region.wanted o (yielded ops a.tmps) = true := by simp [Region.wanted, hgd]
  rw [if_pos hw]
  obtain ⟨v', w', hrun, h2, h3, h4⟩ := run_append_rd (P := P) w base t o.type e i z size bytes ht hi hz hsize hby hzs hsz v n xs hown A m c news hr h1 h63 hbytes hbase
  unfold Oper.wp execOp
  simp only [ho, resolve, invoke, builtin, Sem.run_bind, Sem.run_pure, Result.andThen_ok, List.map_toArray, List.map_cons, List.map_nil, hs, hx, hrun]
  exact h v' w' h2 h3 h4
theorem lit0 (w : World) {base : Nat} (h : base ≤ w.heap.size) : (w.alloc (.cells #[] 3)).ownsRow base 3 1 (.slice (some ⟨w.heap.size, 0, none⟩) 0 0) 0 (ints []) := by
  simpa [ints] using World.ownsRow_lit w #[] 0 h (Nat.zero_le _) (by simp)
theorem lit0d (w : World) {base : Nat} (h : base ≤ w.heap.size) : (w.alloc (.cells #[] 3)).drew.ownsRow base 3 1 (.slice (some ⟨w.heap.size, 0, none⟩) 0 0) 0 (ints []) := lit0 w h
theorem lit0e (w : World) {base : Nat} (h : base ≤ w.heap.size) : (w.drew.alloc (.cells #[] 3)).ownsRow base 3 1 (.slice (some ⟨w.heap.size, 0, none⟩) 0 0) 0 (ints []) := lit0 w.drew h
theorem Rd.wid {w w1 W : World} {size n : Nat} {A : Option Addr} {xs : List Value} (h : Rd w size A n xs) (h1 : Below w.heap.size w w1) (h2 : Below w1.heap.size w1 W) : Rd W size A n xs := (h.below (Nat.le_refl _) h1).below (Nat.le_refl _) h2
theorem own_baseS {w : World} {base base' : Nat} {e : TypeId} {size : Nat} {v : Value} {n : Nat} {xs : List Value} (h : w.ownsRow base e size v n xs) (hb : base' ≤ base) : w.ownsRow base' e size v n xs := by
  refine ⟨h.1, ?_⟩
  rcases h.2 with h2 | ⟨g, cap, cur, hv, hbg, r⟩
  · exact .inl h2
  · exact .inr ⟨g, cap, cur, hv, by omega, r⟩
theorem Rd.post {w : World} {b o n k : Nat} {zs : List Int} (h : Rd w 1 (some ⟨b, o, none⟩) n (ints zs)) (hk : k ≤ n) : Rd w 1 (some ⟨b, o + k, none⟩) (n - k) (ints (zs.drop k)) := by
  have hl := h.len
  refine ⟨by simp [ints]; omega, fun h0 => ?_⟩
  obtain ⟨b', o', e, hb, hc⟩ := h.2 (by omega)
  injection e with e
  injection e with e1 e2
  subst e1 e2
  refine ⟨b, o + k, rfl, hb, fun j u hu => ?_⟩
  rw [ints, List.map_drop, List.getElem?_drop] at hu
  have := hc (k + j) u hu
  rwa [← Nat.add_assoc] at this
theorem in_is {n lo hi : Int} {b : Bool} (h : inB n lo hi = b) (w : World) : Calls Try.prog 27 #[.int .i64 n, .int .i64 lo, .int .i64 hi] w fun e w' => e = .returned (.bool b) ∧ w = w' := h ▸ in_any n lo hi w
def sinceOk (key : Int) (zs : List Int) (sum n : Int) : Bool := auditOk key zs sum && inB n 0 zs.length
def sinceL (key : Int) (zs : List Int) (sum n : Int) : List Int := if sinceOk key zs sum n = true then zs.drop n.toNat else []
def sinceK (key : Int) (zs : List Int) (sum n : Int) : Int := if sinceOk key zs sum n = true then mixAll key (zs.take n.toNat) else -1
theorem sinceL_len (key : Int) (zs : List Int) (sum n : Int) : (sinceL key zs sum n).length ≤ zs.length := by
  unfold sinceL; split <;> simp
/-- what a function gives back that makes a slice of numbers, and a number -/
def RetIK (w : World) (zs : List Int) (k : Int) (e : Ending) (w' : World) : Prop := ∃ A c, e = .returned (.tuple #[.slice A zs.length c, .int .i64 k]) ∧ Fr w' w.heap.size w'.heap.size 3 1 A zs.length (ints zs) ∧ Below w.heap.size w w'
theorem RetIK.own {w w' : World} {zs : List Int} {v : Value} {n : Nat} {k : Int} (ho : w'.ownsRow w.heap.size 3 1 v n (ints zs)) (hb : Below w.heap.size w w') : RetIK w zs k (.returned (.tuple #[v, .int .i64 k])) w' := by
  have hl : zs.length = n := by have := ho.1; simpa [ints] using this
  subst hl
  rcases ho.2 with ⟨rfl, h0⟩ | ⟨g, cap, cur, rfl, r⟩
  · have e : zs = [] := List.eq_nil_of_length_eq_zero h0
    subst e
    exact ⟨none, 0, rfl, Fr.nil_, hb⟩
  · exact ⟨_, _, rfl, Fr.of_own ho, hb⟩
set_option maxRecDepth 100000 in
set_option maxHeartbeats 8000000 in
theorem iAuditSince_any (key : Int) (g m : Nat) (zs : List Int) (sum nn : Int) (w : World) (hm : m ≤ 1048576) (hr : Rd w 1 (some ⟨g, 0, none⟩) m (ints zs)) :
    Calls Try.prog 12 #[.agg #[.int .i64 key, .slice (some ⟨g, 0, none⟩) m m, .int .i64 sum], .int .i64 nn] w (fun e w' => RetIK w (sinceL key zs sum nn) (sinceK key zs sum nn) e w') := by
  have hlz := Lib.hid hr.len
  have HR := Lib.hid hr
  clear hr
  cases h1 : auditOk key zs sum
  · rw [show sinceL key zs sum nn = [] by unfold sinceL sinceOk; rw [h1]; rfl, show sinceK key zs sum nn = -1 by unfold sinceK sinceOk; rw [h1]; rfl]
    go_enter Try.func12, Try.ntmps12
    go_wp2_with fail
    refine (iAuditValid_is h1 _ (by omega) (HR.out.alloc _)).mono ?_
    rintro e w1 ⟨rfl, hb1⟩
    have HB1 : Hid (Below w.heap.size w w1) := Below.andThen (by go_grown) hb1
    clear hb1
    go_wp2
    go_ret2
    exact ⟨_, _, rfl, Fr.nil_, HB1.out⟩
  · have h60 := auditOk_len h1
    rw [hlz.out] at h60
    have HK := Lib.hid (auditOk_key h1)
    cases h2 : inB nn 0 (m : Int)
    · have h2' : inB nn 0 (zs.length : Int) = false := by rw [hlz.out]; exact h2
      rw [show sinceL key zs sum nn = [] by unfold sinceL sinceOk; rw [h1, h2']; rfl, show sinceK key zs sum nn = -1 by unfold sinceK sinceOk; rw [h1, h2']; rfl]
      clear h2'
      go_enter Try.func12, Try.ntmps12
      go_wp2_with fail
      refine (iAuditValid_is h1 _ (by omega) (HR.out.alloc _)).mono ?_
      rintro e w1 ⟨rfl, hb1⟩
      have HB1 : Hid (Below w.heap.size w w1) := Below.andThen (by go_grown) hb1
      have q0 : Hid (Blk w1 w.heap.size 27 #[.int .i64 key, .slice (some ⟨g, 0, none⟩) m m, .int .i64 sum]) := Blk.below (w' := w1) (Blk.at_ _ _ _ rfl) (Nat.le_refl _) hb1
      clear hb1
      have k1 : w1.cell? ⟨w.heap.size, 1, none⟩ = some (.slice (some ⟨g, 0, none⟩) m m) := q0.out.cell 1 rfl
      have l0 := q0.out.lt
      go_wp2_with fail
      refine (in_is h2 _).mono ?_
      rintro e _ ⟨rfl, rfl⟩
      go_wp2
      go_ret2
      exact ⟨_, _, rfl, Fr.nil_, HB1.out⟩
    · obtain ⟨hn0, hn1⟩ := inB_true.1 h2
      obtain ⟨n, rfl⟩ : ∃ n : Nat, nn = (n : Int) := ⟨nn.toNat, by omega⟩
      have hnm : n ≤ m := by omega
      have h2' : inB (n : Int) 0 (zs.length : Int) = true := by rw [hlz.out]; exact h2
      obtain ⟨R, hR⟩ : ∃ R, R = zs.drop n := ⟨_, rfl⟩
      obtain ⟨V, hV⟩ : ∃ V, V = mixAll key (zs.take n) := ⟨_, rfl⟩
      rw [show sinceL key zs sum n = R by unfold sinceL sinceOk; rw [h1, h2', hR]; rfl, show sinceK key zs sum n = V by unfold sinceK sinceOk; rw [h1, h2', hV]; rfl]
      have HRR := Lib.hid hR
      have HVV := Lib.hid hV
      have hI0 : (0 : Int) ≤ (n : Int) := by omega
      have hI1 : (n : Int) ≤ (m : Int) := by omega
      clear h2' hR hV
      have H1 := Lib.hid h1
      have H2 := Lib.hid h2
      clear h1 h2
      rcases Nat.lt_or_eq_of_le hnm with hlt | heq
      · have hne : ¬ m = n := by omega
        go_enter Try.func12, Try.ntmps12
        go_wp2_with fail
        refine (iAuditValid_is H1.out _ (by omega) (HR.out.alloc _)).mono ?_
        rintro e w1 ⟨rfl, hb1⟩
        have HB1 : Hid (Below w.heap.size w w1) := Below.andThen (by go_grown) hb1
        have q0 : Hid (Blk w1 w.heap.size 27 #[.int .i64 key, .slice (some ⟨g, 0, none⟩) m m, .int .i64 sum]) := Blk.below (w' := w1) (Blk.at_ _ _ _ rfl) (Nat.le_refl _) hb1
        clear hb1
        have k0 : w1.cell? ⟨w.heap.size, 0, none⟩ = some (.int .i64 key) := q0.out.cell 0 rfl
        have k1 : w1.cell? ⟨w.heap.size, 1, none⟩ = some (.slice (some ⟨g, 0, none⟩) m m) := q0.out.cell 1 rfl
        have l0 := q0.out.lt
        go_wp2_with fail
        refine (in_is H2.out _).mono ?_
        rintro e _ ⟨rfl, rfl⟩
        go_wp2
        go_region_held3 (fun w' => w'.cell? ⟨w.heap.size, 0, none⟩ = some (.int .i64 key) ∧ w'.cell? ⟨w.heap.size, 1, none⟩ = some (.slice (some ⟨g, 0, none⟩) m m)) (refine ⟨?_, ?_⟩ <;> (repeat' (first | with_reducible exact k0 | with_reducible exact k1 | with_reducible refine keepD ?_))) (first | (go_at_call 28; refine (cloneI_any (some ⟨g, n, none⟩) (m - n) _ R _ (by omega) (by rw [HRR.out]; have h := HR.out.post hnm; rw [Nat.zero_add] at h; exact (h.below (Nat.le_refl _) HB1.out).drew) (fun h => by cases h)).mono ?_; rintro e w2 ⟨A2, c2, rfl, hf2, hb2⟩; have HF2 := Lib.hid hf2; have hT2 : Below w1.heap.size w1 w2 := Below.andThen (by go_grown) hb2; have HB2 := Lib.hid (Below.andThen HB1.out hT2); have q0 := Lib.hid (q0.out.below (Nat.le_refl _) hT2); clear k0 k1 l0 hb2 hf2 hT2; have k0 : w2.cell? ⟨w.heap.size, 0, none⟩ = some (.int .i64 key) := q0.out.cell 0 rfl; have k1 : w2.cell? ⟨w.heap.size, 1, none⟩ = some (.slice (some ⟨g, 0, none⟩) m m) := q0.out.cell 1 rfl; have l0 := q0.out.lt) | (go_at_call 29; refine (iChain_any key (some ⟨g, 0, none⟩) n _ (zs.take n) _ (by omega) HK.out ((HR.out.pre (by omega)).below (Nat.le_refl _) HB2.out)).mono ?_; rw [← HVV.out]; rintro e w3 ⟨rfl, hb3⟩; have HB3 := Lib.hid (Below.andThen HB2.out hb3); have HF3 := Lib.hid (HF2.out.below (Nat.le_refl _) hb3); have q0 := Lib.hid (q0.out.below (Nat.le_refl _) hb3); clear k0 k1 l0; have k0 : w3.cell? ⟨w.heap.size, 0, none⟩ = some (.int .i64 key) := q0.out.cell 0 rfl; have k1 : w3.cell? ⟨w.heap.size, 1, none⟩ = some (.slice (some ⟨g, 0, none⟩) m m) := q0.out.cell 1 rfl; have l0 := q0.out.lt; have hs3 := hb3.size; clear hb3))
        go_wp2
        go_ret2
        exact ⟨_, _, rfl, HF3.out.wide (by exact HB1.out.size) hs3, HB3.out⟩
      · subst heq
        go_enter Try.func12, Try.ntmps12
        go_wp2_with fail
        refine (iAuditValid_is H1.out _ (by omega) (HR.out.alloc _)).mono ?_
        rintro e w1 ⟨rfl, hb1⟩
        have HB1 : Hid (Below w.heap.size w w1) := Below.andThen (by go_grown) hb1
        have q0 : Hid (Blk w1 w.heap.size 27 #[.int .i64 key, .slice (some ⟨g, 0, none⟩) n n, .int .i64 sum]) := Blk.below (w' := w1) (Blk.at_ _ _ _ rfl) (Nat.le_refl _) hb1
        clear hb1
        have k0 : w1.cell? ⟨w.heap.size, 0, none⟩ = some (.int .i64 key) := q0.out.cell 0 rfl
        have k1 : w1.cell? ⟨w.heap.size, 1, none⟩ = some (.slice (some ⟨g, 0, none⟩) n n) := q0.out.cell 1 rfl
        have l0 := q0.out.lt
        go_wp2_with fail
        refine (in_is H2.out _).mono ?_
        rintro e _ ⟨rfl, rfl⟩
        go_wp2
        go_region_held3 (fun w' => w'.cell? ⟨w.heap.size, 0, none⟩ = some (.int .i64 key) ∧ w'.cell? ⟨w.heap.size, 1, none⟩ = some (.slice (some ⟨g, 0, none⟩) n n)) (refine ⟨?_, ?_⟩ <;> (repeat' (first | with_reducible exact k0 | with_reducible exact k1 | with_reducible refine keepD ?_))) (first | (go_at_call 28; refine (cloneI_any _ 0 _ R _ (by omega) (by rw [HRR.out]; have hz0 := hlz.out; have hd0 : zs.drop n = [] := List.drop_eq_nil_of_le (by omega); rw [hd0]; exact ⟨rfl, fun h => absurd h (by omega)⟩) (fun h => by cases h)).mono ?_; rintro e w2 ⟨A2, c2, rfl, hf2, hb2⟩; have HF2 := Lib.hid hf2; have hT2 : Below w1.heap.size w1 w2 := Below.andThen (by go_grown) hb2; have HB2 := Lib.hid (Below.andThen HB1.out hT2); have q0 := Lib.hid (q0.out.below (Nat.le_refl _) hT2); clear k0 k1 l0 hb2 hf2 hT2; have k0 : w2.cell? ⟨w.heap.size, 0, none⟩ = some (.int .i64 key) := q0.out.cell 0 rfl; have k1 : w2.cell? ⟨w.heap.size, 1, none⟩ = some (.slice (some ⟨g, 0, none⟩) n n) := q0.out.cell 1 rfl; have l0 := q0.out.lt) | (go_at_call 29; refine (iChain_any key (some ⟨g, 0, none⟩) n _ (zs.take n) _ (by omega) HK.out ((HR.out.pre (by omega)).below (Nat.le_refl _) HB2.out)).mono ?_; rw [← HVV.out]; rintro e w3 ⟨rfl, hb3⟩; have HB3 := Lib.hid (Below.andThen HB2.out hb3); have HF3 := Lib.hid (HF2.out.below (Nat.le_refl _) hb3); have q0 := Lib.hid (q0.out.below (Nat.le_refl _) hb3); clear k0 k1 l0; have k0 : w3.cell? ⟨w.heap.size, 0, none⟩ = some (.int .i64 key) := q0.out.cell 0 rfl; have k1 : w3.cell? ⟨w.heap.size, 1, none⟩ = some (.slice (some ⟨g, 0, none⟩) n n) := q0.out.cell 1 rfl; have l0 := q0.out.lt; have hs3 := hb3.size; clear hb3))
        go_wp2
        go_ret2
        exact ⟨_, _, rfl, HF3.out.wide (by exact HB1.out.size) hs3, HB3.out⟩
set_option maxRecDepth 100000 in
set_option maxHeartbeats 8000000 in
theorem sAuditSince_any (key : Int) (g m : Nat) (zs : List Int) (sum nn : Int) (w : World) (hm : m ≤ 1048576) (hr : Rd w 1 (some ⟨g, 0, none⟩) m (ints zs)) :
    Calls Try.prog 11 #[.agg #[.int .i64 key, .slice (some ⟨g, 0, none⟩) m m, .int .i64 sum], .int .i64 nn] w (fun e w' => RetIK w (sinceL key zs sum nn) (sinceK key zs sum nn) e w') := by
  obtain ⟨i0, hi, hz0, hz1, hz2⟩ := info_parts Try.infoInt
  have hlz := Lib.hid hr.len
  have HR := Lib.hid hr
  clear hr
  cases h1 : auditOk key zs sum
  · rw [show sinceL key zs sum nn = [] by unfold sinceL sinceOk; rw [h1]; rfl, show sinceK key zs sum nn = -1 by unfold sinceK sinceOk; rw [h1]; rfl]
    go_enter Try.func11, Try.ntmps11
    go_wp2_with fail
    refine (sAuditValid_is h1 _ (by omega) (HR.out.alloc _)).mono ?_
    rintro e w1 ⟨rfl, hb1⟩
    have HB1 : Hid (Below w.heap.size w w1) := Below.andThen (by go_grown) hb1
    clear hb1
    go_wp2
    go_ret2
    exact ⟨_, _, rfl, Fr.nil_, HB1.out.alloc HB1.out.size _⟩
  · have h60 := auditOk_len h1
    rw [hlz.out] at h60
    have HK := Lib.hid (auditOk_key h1)
    cases h2 : inB nn 0 (m : Int)
    · have h2' : inB nn 0 (zs.length : Int) = false := by rw [hlz.out]; exact h2
      rw [show sinceL key zs sum nn = [] by unfold sinceL sinceOk; rw [h1, h2']; rfl, show sinceK key zs sum nn = -1 by unfold sinceK sinceOk; rw [h1, h2']; rfl]
      clear h2'
      go_enter Try.func11, Try.ntmps11
      go_wp2_with fail
      refine (sAuditValid_is h1 _ (by omega) (HR.out.alloc _)).mono ?_
      rintro e w1 ⟨rfl, hb1⟩
      have HB1 : Hid (Below w.heap.size w w1) := Below.andThen (by go_grown) hb1
      have q0 : Hid (Blk w1 w.heap.size 27 #[.int .i64 key, .slice (some ⟨g, 0, none⟩) m m, .int .i64 sum]) := Blk.below (w' := w1) (Blk.at_ _ _ _ rfl) (Nat.le_refl _) hb1
      clear hb1
      have k1 : w1.cell? ⟨w.heap.size, 1, none⟩ = some (.slice (some ⟨g, 0, none⟩) m m) := q0.out.cell 1 rfl
      have l0 := q0.out.lt
      go_wp2_with fail
      refine (l1In_is h2 _).mono ?_
      rintro e _ ⟨rfl, rfl⟩
      go_wp2
      go_ret2
      exact ⟨_, _, rfl, Fr.nil_, HB1.out.alloc HB1.out.size _⟩
    · obtain ⟨hn0, hn1⟩ := inB_true.1 h2
      obtain ⟨n, rfl⟩ : ∃ n : Nat, nn = (n : Int) := ⟨nn.toNat, by omega⟩
      have hnm : n ≤ m := by omega
      have h2' : inB (n : Int) 0 (zs.length : Int) = true := by rw [hlz.out]; exact h2
      obtain ⟨R, hR⟩ : ∃ R, R = zs.drop n := ⟨_, rfl⟩
      obtain ⟨V, hV⟩ : ∃ V, V = mixAll key (zs.take n) := ⟨_, rfl⟩
      rw [show sinceL key zs sum n = R by unfold sinceL sinceOk; rw [h1, h2', hR]; rfl, show sinceK key zs sum n = V by unfold sinceK sinceOk; rw [h1, h2', hV]; rfl]
      have HRR := Lib.hid hR
      have HVV := Lib.hid hV
      have hI0 : (0 : Int) ≤ (n : Int) := by omega
      have hI1 : (n : Int) ≤ (m : Int) := by omega
      clear h2' hR hV
      have H1 := Lib.hid h1
      have H2 := Lib.hid h2
      clear h1 h2
      rcases Nat.lt_or_eq_of_le hnm with hlt | heq
      · have hne : ¬ m = n := by omega
        go_enter Try.func11, Try.ntmps11
        go_wp2_with fail
        refine (sAuditValid_is H1.out _ (by omega) (HR.out.alloc _)).mono ?_
        rintro e w1 ⟨rfl, hb1⟩
        have HB1 : Hid (Below w.heap.size w w1) := Below.andThen (by go_grown) hb1
        have q0 : Hid (Blk w1 w.heap.size 27 #[.int .i64 key, .slice (some ⟨g, 0, none⟩) m m, .int .i64 sum]) := Blk.below (w' := w1) (Blk.at_ _ _ _ rfl) (Nat.le_refl _) hb1
        clear hb1
        have k0 : w1.cell? ⟨w.heap.size, 0, none⟩ = some (.int .i64 key) := q0.out.cell 0 rfl
        have k1 : w1.cell? ⟨w.heap.size, 1, none⟩ = some (.slice (some ⟨g, 0, none⟩) m m) := q0.out.cell 1 rfl
        have l0 := q0.out.lt
        go_wp2_with fail
        refine (l1In_is H2.out _).mono ?_
        rintro e _ ⟨rfl, rfl⟩
        go_wp2
        have hBc := HB1
        have K0 := Lib.hid k0
        have K1 := Lib.hid k1
        have l1x := l0
        have HW1 : Hid (Below w1.heap.size w1 w1) := Below.refl _ _
        have hsw : w.heap.size ≤ w1.heap.size := HB1.out.size
        go_region_held3 (fun w' => w'.cell? ⟨w.heap.size, 0, none⟩ = some (.int .i64 key) ∧ w'.cell? ⟨w.heap.size, 1, none⟩ = some (.slice (some ⟨g, 0, none⟩) m m)) (refine ⟨?_, ?_⟩ <;> (repeat' (first | with_reducible exact k0 | with_reducible exact k1 | with_reducible refine keepD ?_ | with_reducible refine keepA ?_ _))) (first
          | (go_at_call 26; refine (l12Sum_any key (some ⟨g, 0, none⟩) n _ (zs.take n) _ (by omega) HK.out (by exact Rd.wid (HR.out.pre (by omega)) HB1.out (by first | exact HW1.out | exact HW1.out.alloc HW1.out.size _ | go_grown))).mono ?_; rw [← HVV.out]; rintro e w3 ⟨rfl, hb3⟩; have hBx : Below w1.heap.size w1 w3 := Below.andThen (w := w1) (by first | exact HW1.out | go_grown | exact HW1.out.alloc (HW1.out.size) _) hb3; clear k0 k1; have k0 := (hBx.cell (p := ⟨w.heap.size, 0, none⟩) l1x).trans K0.out; have k1 := (hBx.cell (p := ⟨w.heap.size, 1, none⟩) l1x).trans K1.out; (try (have HOA := Lib.hid (own_below hb3 (Nat.le_refl _) HOA.out))); (try (have HOL : Hid (w3.ownsRow w1.heap.size 3 1 (.slice (some ⟨w1.heap.size, 0, none⟩) 0 0) 0 (ints [])) := own_below hb3 (Nat.le_refl _) (by first | exact lit0 _ (Nat.le_refl _) | exact lit0d _ (Nat.le_refl _) | exact lit0e _ (Nat.le_refl _)))); have HW1 := Lib.hid hBx; clear hb3 hBx)
          | (refine step_append_rd (by rfl) _ _ _ (by rfl) w1.heap.size 3 i0 _ 1 8 Try.underlying22 hi hz0 hz1 hz2 rfl (by omega) _ 0 (ints []) (by rfl) (by first | exact HOL.out | exact lit0 _ (by first | exact Nat.le_refl _ | exact HW1.out.size) | exact lit0d _ (by first | exact Nat.le_refl _ | exact HW1.out.size) | exact lit0e _ (by first | exact Nat.le_refl _ | exact HW1.out.size)) _ (m - n) _ (ints (zs.drop n)) (by rfl) (by exact Rd.wid (A := _) (by have h := HR.out.post hnm; rw [Nat.zero_add] at h; exact h) HB1.out (by first | exact HW1.out | exact HW1.out.alloc HW1.out.size _ | go_grown)) (ints_one _) (by unfold maxLen; omega) (by omega) (by have := HW1.out.size; first | exact this | (simp; done) | (simp; omega)) ?_; intro vA wA hoA hgA hatA; have hBx : Below w1.heap.size w1 wA := below_own (size := 1) (by first | exact HW1.out | exact HW1.out.alloc HW1.out.size _ | go_grown) (by first | exact HOL.out | exact lit0 _ (by first | exact Nat.le_refl _ | exact HW1.out.size) | exact lit0d _ (by first | exact Nat.le_refl _ | exact HW1.out.size) | exact lit0e _ (by first | exact Nat.le_refl _ | exact HW1.out.size)) (Nat.le_refl _) (by have := HW1.out.size; first | exact this | (simp; done) | (simp; omega)) hgA; clear k0 k1; have k0 := (hBx.cell (p := ⟨w.heap.size, 0, none⟩) l1x).trans K0.out; have k1 := (hBx.cell (p := ⟨w.heap.size, 1, none⟩) l1x).trans K1.out; have HOA : Hid (wA.ownsRow w1.heap.size 3 1 vA (m - n) (ints (zs.drop n))) := (by show World.ownsRow _ _ _ _ _ _ _; simpa [ints] using hoA); have HW1 := Lib.hid hBx; clear hBx hoA hgA hatA))
        all_goals
          go_wp2
          go_ret2
          exact RetIK.own (by rw [HRR.out]; exact own_baseS HOA.out hsw) (Below.andThen HB1.out HW1.out)
      · subst heq
        go_enter Try.func11, Try.ntmps11
        go_wp2_with fail
        refine (sAuditValid_is H1.out _ (by omega) (HR.out.alloc _)).mono ?_
        rintro e w1 ⟨rfl, hb1⟩
        have HB1 : Hid (Below w.heap.size w w1) := Below.andThen (by go_grown) hb1
        have q0 : Hid (Blk w1 w.heap.size 27 #[.int .i64 key, .slice (some ⟨g, 0, none⟩) n n, .int .i64 sum]) := Blk.below (w' := w1) (Blk.at_ _ _ _ rfl) (Nat.le_refl _) hb1
        clear hb1
        have k0 : w1.cell? ⟨w.heap.size, 0, none⟩ = some (.int .i64 key) := q0.out.cell 0 rfl
        have k1 : w1.cell? ⟨w.heap.size, 1, none⟩ = some (.slice (some ⟨g, 0, none⟩) n n) := q0.out.cell 1 rfl
        have l0 := q0.out.lt
        go_wp2_with fail
        refine (l1In_is H2.out _).mono ?_
        rintro e _ ⟨rfl, rfl⟩
        go_wp2
        have hBc := HB1
        have K0 := Lib.hid k0
        have K1 := Lib.hid k1
        have l1x := l0
        have HW1 : Hid (Below w1.heap.size w1 w1) := Below.refl _ _
        have hsw : w.heap.size ≤ w1.heap.size := HB1.out.size
        go_region_held3 (fun w' => w'.cell? ⟨w.heap.size, 0, none⟩ = some (.int .i64 key) ∧ w'.cell? ⟨w.heap.size, 1, none⟩ = some (.slice (some ⟨g, 0, none⟩) n n)) (refine ⟨?_, ?_⟩ <;> (repeat' (first | with_reducible exact k0 | with_reducible exact k1 | with_reducible refine keepD ?_ | with_reducible refine keepA ?_ _))) (first
          | (go_at_call 26; refine (l12Sum_any key (some ⟨g, 0, none⟩) n _ (zs.take n) _ (by omega) HK.out (by exact Rd.wid (HR.out.pre (by omega)) HB1.out (by first | exact HW1.out | exact HW1.out.alloc HW1.out.size _ | go_grown))).mono ?_; rw [← HVV.out]; rintro e w3 ⟨rfl, hb3⟩; have hBx : Below w1.heap.size w1 w3 := Below.andThen (w := w1) (by first | exact HW1.out | go_grown | exact HW1.out.alloc (HW1.out.size) _) hb3; clear k0 k1; have k0 := (hBx.cell (p := ⟨w.heap.size, 0, none⟩) l1x).trans K0.out; have k1 := (hBx.cell (p := ⟨w.heap.size, 1, none⟩) l1x).trans K1.out; (try (have HOA := Lib.hid (own_below hb3 (Nat.le_refl _) HOA.out))); (try (have HOL : Hid (w3.ownsRow w1.heap.size 3 1 (.slice (some ⟨w1.heap.size, 0, none⟩) 0 0) 0 (ints [])) := own_below hb3 (Nat.le_refl _) (by first | exact lit0 _ (Nat.le_refl _) | exact lit0d _ (Nat.le_refl _) | exact lit0e _ (Nat.le_refl _)))); have HW1 := Lib.hid hBx; clear hb3 hBx)
          | (refine step_append_rd (by rfl) _ _ _ (by rfl) w1.heap.size 3 i0 _ 1 8 Try.underlying22 hi hz0 hz1 hz2 rfl (by omega) _ 0 (ints []) (by rfl) (by first | exact HOL.out | exact lit0 _ (by first | exact Nat.le_refl _ | exact HW1.out.size) | exact lit0d _ (by first | exact Nat.le_refl _ | exact HW1.out.size) | exact lit0e _ (by first | exact Nat.le_refl _ | exact HW1.out.size)) _ (n - n) _ (ints (zs.drop n)) (by rfl) (by exact Rd.wid (A := _) (by have hz9 := hlz.out; have hd9 : zs.drop n = [] := List.drop_eq_nil_of_le (by omega); rw [hd9, Nat.sub_self]; exact ⟨rfl, fun h => absurd h (by omega)⟩) HB1.out (by first | exact HW1.out | exact HW1.out.alloc HW1.out.size _ | go_grown)) (ints_one _) (by unfold maxLen; omega) (by omega) (by have := HW1.out.size; first | exact this | (simp; done) | (simp; omega)) ?_; intro vA wA hoA hgA hatA; have hBx : Below w1.heap.size w1 wA := below_own (size := 1) (by first | exact HW1.out | exact HW1.out.alloc HW1.out.size _ | go_grown) (by first | exact HOL.out | exact lit0 _ (by first | exact Nat.le_refl _ | exact HW1.out.size) | exact lit0d _ (by first | exact Nat.le_refl _ | exact HW1.out.size) | exact lit0e _ (by first | exact Nat.le_refl _ | exact HW1.out.size)) (Nat.le_refl _) (by have := HW1.out.size; first | exact this | (simp; done) | (simp; omega)) hgA; clear k0 k1; have k0 := (hBx.cell (p := ⟨w.heap.size, 0, none⟩) l1x).trans K0.out; have k1 := (hBx.cell (p := ⟨w.heap.size, 1, none⟩) l1x).trans K1.out; have HOA : Hid (wA.ownsRow w1.heap.size 3 1 vA (n - n) (ints (zs.drop n))) := (by show World.ownsRow _ _ _ _ _ _ _; simpa [ints] using hoA); have HW1 := Lib.hid hBx; clear hBx hoA hgA hatA))
        all_goals
          go_wp2
          go_ret2
          have hz9 := hlz.out
          have hd9 : zs.drop n = [] := List.drop_eq_nil_of_le (by omega)
          rw [HRR.out, hd9]
          exact ⟨_, _, rfl, Fr.nil_, Below.andThen HB1.out (by first | exact HW1.out | exact HW1.out.alloc HW1.out.size _)⟩
end Go.Proofs.Ytboejpljjhgflaa
