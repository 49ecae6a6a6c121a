/-
  CONTRACTS of AppendAudit.
  Conditions: none beyond those that each states.
-/
import Derived.Test.YtboejpljjhgflaaSince
import Derived.Deep.DeepCutAuto
namespace Go.Proofs.Ytboejpljjhgflaa
open Go.ChangeShapes Go.WideShapes Go.ChangeAt Go.RowKit Go.Joins
set_option linter.unusedVariables false

def appB (key : Int) (zs : List Int) (sum : Int) : Bool := auditOk key zs sum && decide (zs.length < 60)
def appL (key : Int) (zs : List Int) (sum entry : Int) : List Int := if auditOk key zs sum = true then (if zs.length < 60 then zs ++ [entry] else zs) else []
def appS (key : Int) (zs : List Int) (sum entry : Int) : Int := if auditOk key zs sum = true then (if zs.length < 60 then mixStep sum entry else sum) else 0
def appK (key : Int) (zs : List Int) (sum : Int) : Int := if auditOk key zs sum = true then key else 0
/-- an Audit whose slice is one's own, by value -/
def RetAuditO (w : World) (x0 x2 : Int) (zs : List Int) (e : Ending) (w' : World) : Prop := ∃ A c, e = .returned (.agg #[.int .i64 x0, .slice A zs.length c, .int .i64 x2]) ∧ w'.ownsRow w.heap.size 3 1 (.slice A zs.length c) zs.length (ints zs) ∧ Below w.heap.size w w'
def RetAuditB (w : World) (x0 x2 : Int) (zs : List Int) (b : Bool) (e : Ending) (w' : World) : Prop := ∃ A c, e = .returned (.tuple #[.agg #[.int .i64 x0, .slice A zs.length c, .int .i64 x2], .bool b]) ∧ Fr w' w.heap.size w'.heap.size 3 1 A zs.length (ints zs) ∧ (A = none → zs.length = 0 ∧ c = 0) ∧ Below w.heap.size w w'
theorem ownFar {w : World} {base : Nat} {e : TypeId} {size n : Nat} {v : Value} {xs : List Value} (h : w.ownsRow base e size v n xs) {p : Addr} (hp : p.block < base) (u : Value) : (w.setCell p u).ownsRow base e size v n xs :=
  (Touch.setCell (lo := p.block) (hi := p.block + 1) (Touch.refl _ _ w) (Nat.le_refl _) (Nat.lt_succ_self _) u).own h (fun k hk => by have := (h.lt k hk).1; right; omega)
theorem lit1 (w : World) {base g : Nat} (hg : w.heap.size = g) (h : base ≤ g) : (w.alloc (.cells #[] 3)).ownsRow base 3 1 (.slice (some ⟨g, 0, none⟩) 0 0) 0 (ints []) := by
  subst hg; exact lit0 w h
theorem own_slice {w : World} {base n : Nat} {v : Value} {zs : List Int} (h : w.ownsRow base 3 1 v n (ints zs)) : ∃ A c, v = .slice A zs.length c ∧ zs.length = n ∧ w.ownsRow base 3 1 (.slice A zs.length c) zs.length (ints zs) ∧ (A = none → zs.length = 0 ∧ c = 0) := by
  have hl : zs.length = n := by have := h.1; simpa [ints] using this
  subst hl
  rcases h.2 with ⟨rfl, h0⟩ | ⟨g, cap, cur, rfl, r⟩
  · refine ⟨none, 0, by rw [h0], rfl, ?_, fun _ => ⟨h0, rfl⟩⟩
    have e : zs = [] := List.eq_nil_of_length_eq_zero h0
    subst e
    exact World.ownsRow_nil _ _ _ _
  · exact ⟨_, _, rfl, rfl, h, (fun ha => by cases ha)⟩
set_option maxRecDepth 100000 in
set_option maxHeartbeats 4000000 in
theorem l1OwnAudit_any (key : Int) (A : Option Addr) (n c : Nat) (zs : List Int) (sum : Int) (w : World) (hm : n ≤ 1048576) (hr : Rd w 1 A n (ints zs)) :
    Calls Try.prog 30 #[.agg #[.int .i64 key, .slice A n c, .int .i64 sum]] w (fun e w' => RetAuditO w key sum zs e w') := by
  obtain ⟨i0, hi, hz0, hz1, hz2⟩ := info_parts Try.infoInt
  have hlz := Lib.hid hr.len
  have HR := Lib.hid hr
  clear hr
  go_enter Try.func30, Try.ntmps30
  go_wp2_with (at_builtin; refine wpList_append_rd _ rfl _ _ 22 rfl (w.heap.size + 1 + 1 + 1) 3 i0 (.int .i64 0) 1 8 Try.underlying22 hi hz0 hz1 hz2 rfl (by omega) _ 0 (ints []) rfl (lit1 _ (by simp) (by omega)) A n c (ints zs) rfl (HR.out.below (Nat.le_refl _) (by go_grown)) (ints_one zs) (by unfold maxLen; omega) (by omega) (by simp) ?_; intro v1 w1 ho1 hg1 hat1; rw [Nat.zero_add] at ho1; obtain ⟨A1, c1, rfl, hl1, ho2, hn1⟩ := own_slice (show w1.ownsRow (w.heap.size + 1 + 1 + 1) 3 1 v1 n (ints zs) from ho1); have ho3 := Lib.hid ho2; have hn3 := Lib.hid hn1; have hg3 := Lib.hid hg1; have hl3 := Lib.hid hl1; clear ho1 ho2 hn1 hg1 hat1 hl1; have HG1 := hg3; have nq : ∀ k, k < w.heap.size + 1 + 1 + 1 → w1.heap[k]? = ((((w.alloc (.cells #[.int .i64 key, .slice A n c, .int .i64 sum] 27)).alloc (.cells #[.int .i64 0, .slice none 0 0, .int .i64 0] 27)).alloc (.cells #[.int .i64 key, .slice A n c, .int .i64 sum] 27)).alloc (.cells #[] 3)).heap[k]? := (by intro k hk; exact HG1.out.block k (by simp; omega) (fun e => by have e2 := Option.some.inj e; dsimp only at e2; omega)); have qb : Hid (Blk w1 (w.heap.size + 1) 27 #[.int .i64 0, .slice none 0 0, .int .i64 0]) := (nq _ (by omega)).trans (((Blk.at_ _ _ _ (by simp)).alloc _).alloc _); have qd : Hid (Blk w1 (w.heap.size + 1 + 1) 27 #[.int .i64 key, .slice A n c, .int .i64 sum]) := (nq _ (by omega)).trans ((Blk.at_ _ _ _ (by simp)).alloc _); have hz9 := HG1.out.size; simp only [World.size_alloc] at hz9; have kb_0 : w1.cell? ⟨w.heap.size + 1, 0, none⟩ = some (.int .i64 0) := qb.out.cell 0 rfl; have kb_1 : w1.cell? ⟨w.heap.size + 1, 1, none⟩ = some (.slice none 0 0) := qb.out.cell 1 rfl; have kb_2 : w1.cell? ⟨w.heap.size + 1, 2, none⟩ = some (.int .i64 0) := qb.out.cell 2 rfl; have fb_0 := qb.out.frozen 0; have fb_1 := qb.out.frozen 1; have fb_2 := qb.out.frozen 2; have lb := qb.out.lt; have kd_0 : w1.cell? ⟨w.heap.size + 1 + 1, 0, none⟩ = some (.int .i64 key) := qd.out.cell 0 rfl; have kd_1 : w1.cell? ⟨w.heap.size + 1 + 1, 1, none⟩ = some (.slice A n c) := qd.out.cell 1 rfl; have kd_2 : w1.cell? ⟨w.heap.size + 1 + 1, 2, none⟩ = some (.int .i64 sum) := qd.out.cell 2 rfl; have fd_0 := qd.out.frozen 0; have fd_1 := qd.out.frozen 1; have fd_2 := qd.out.frozen 2; have ld := qd.out.lt; clear nq)
  have HO := ho3
  have HB : Hid (Below w.heap.size w w1) := below_own (size := 1) (base := w.heap.size + 1 + 1 + 1) (by go_grown) (lit1 _ (by simp) (by omega)) (by omega) (by simp; omega) hg3.out
  go_wp2
  refine bodyPost_ret (v := .agg #[.int .i64 key, .slice A1 zs.length c1, .int .i64 sum]) (by simp [results, Try.results30, go_sem, *]) rfl ?_
  refine ⟨A1, c1, rfl, ?_, ?_⟩
  · refine own_baseS (base := w.heap.size + 1 + 1 + 1) ?_ (by omega)
    have h := HO.out
    repeat (refine ownFar ?_ (by first | (simp; done) | (simp; omega)) _)
    exact h
  · have h := HB.out
    repeat (refine Below.setCell ?_ (by first | (simp; done) | (simp; omega)) _)
    exact h
end Go.Proofs.Ytboejpljjhgflaa
