/-
  CONTRACTS of ProgramValid.
  Conditions: none beyond those that each states.
-/
import Derived.Test.YtpaknpjdamoibaaROrder
import Derived.IntWalk
import Derived.Deep.QuietTactic
import Derived.BigQuiet
namespace Go.Proofs.Ytpaknpjdamoibaa
open Go.ChangeShapes Go.WideShapes Go.ChangeAt Go.RowKit Go.Joins
set_option linter.unusedVariables false

abbrev Ord3 := Int × Int × Int
/-- an instruction, by what is known of its cells -/
def ordG (a b : Bool) (len op x y : Int) : Bool :=
  if op = 1 then a && inB y 0 255 else if op = 2 then a && b else if op = 3 then a && b else if op = 4 then inB x 0 (len - 1) && b
  else if op = 5 then inB x 0 7 && b else if op = 6 then inB x 0 7 && b else if op = 7 then a && (y == 0) else if op = 0 then (x == 0) && (y == 0) else if op = 8 then (x == 0) && (y == 0) else false
def ordC_ (C len : Int) (o : Ord3) : Bool := ordG (inB o.2.1 0 C) (inB o.2.2 0 C) len o.1 o.2.1 o.2.2
def progOk (zs : List Ord3) (cells : Int) : Bool := inB (zs.length : Int) 1 20 && (inB cells 1 8 && zs.all (ordC_ (cells - 1) zs.length))
theorem l1In_is {n lo hi : Int} {b : Bool} (h : inB n lo hi = b) (w : World) : Calls Try.prog 20 #[.int .i64 n, .int .i64 lo, .int .i64 hi] w fun e w' => e = .returned (.bool b) ∧ w = w' := h ▸ l1In_any n lo hi w
theorem in_is {n lo hi : Int} {b : Bool} (h : inB n lo hi = b) (w : World) : Calls Try.prog 21 #[.int .i64 n, .int .i64 lo, .int .i64 hi] w fun e w' => e = .returned (.bool b) ∧ w = w' := h ▸ in_any n lo hi w
theorem all_snocB {α : Type} {zs : List α} {p : α → Bool} {k : Nat} {x : α} (hx : zs[k]? = some x) (hk : (zs.take k).all p = true) (hp : p x = true) : (zs.take (k + 1)).all p = true := by
  rw [take_snoc hx, List.all_append, hk]; simp [hp]
theorem all_missB {α : Type} {zs : List α} {p : α → Bool} {k : Nat} {x : α} (hx : zs[k]? = some x) (hp : p x = false) : zs.all p = false := by
  rw [List.all_eq_false]
  exact ⟨x, List.mem_of_getElem? hx, by simp [hp]⟩
set_option maxRecDepth 100000 in
set_option maxHeartbeats 8000000 in
theorem ordValid_any (p0 p1 p2 cells len : Int) (w : World) (hc0 : 1 ≤ cells) (hc1 : cells ≤ 8) (hl0 : 1 ≤ len) (hl1 : len ≤ 20) :
    Calls Try.prog 24 #[.agg #[.int .i64 p0, .int .i64 p1, .int .i64 p2], .int .i64 cells, .int .i64 len] w fun e w' => e = .returned (.bool (ordC_ (cells - 1) len (p0, p1, p2))) ∧ Below w.heap.size w w' := by
  skip
  by_cases o1 : p0 = 1
  · subst o1
    cases hia : inB p1 0 (cells - 1)
    · skip
      rw [show ordC_ (cells - 1) len (1, p1, p2) = false by show ordG (inB p1 0 (cells - 1)) (inB p2 0 (cells - 1)) len 1 p1 p2 = false; simp [ordG, hia]]
      go_enter Try.func24, Try.ntmps24
      go_wp2
      go_quiet ((go_at_call 21; exact quiet_left (in_any _ _ _ _)))
      go_wp2
      go_ret
      exact ⟨rfl, by first | exact below_drewN (by go_grown) _ | go_grown⟩
    · skip
      cases hc : inB p2 0 (255)
      · skip
        rw [show ordC_ (cells - 1) len (1, p1, p2) = false by show ordG (inB p1 0 (cells - 1)) (inB p2 0 (cells - 1)) len 1 p1 p2 = false; simp [ordG, hia, hc]]
        go_enter Try.func24, Try.ntmps24
        go_wp2
        go_quiet ((go_at_call 21; exact quiet_left (in_any _ _ _ _)))
        go_wp2_with fail
        refine (in_is hc _).mono ?_
        rintro e _ ⟨rfl, rfl⟩
        go_wp2
        go_ret
        exact ⟨rfl, by first | exact below_drewN (by go_grown) _ | go_grown⟩
      · skip
        rw [show ordC_ (cells - 1) len (1, p1, p2) = true by show ordG (inB p1 0 (cells - 1)) (inB p2 0 (cells - 1)) len 1 p1 p2 = true; simp [ordG, hia, hc]]
        go_enter Try.func24, Try.ntmps24
        go_wp2
        go_quiet ((go_at_call 21; exact quiet_left (in_any _ _ _ _)))
        go_wp2_with fail
        refine (in_is hc _).mono ?_
        rintro e _ ⟨rfl, rfl⟩
        go_wp2
        go_ret
        exact ⟨rfl, by first | exact below_drewN (by go_grown) _ | go_grown⟩
  by_cases o2 : p0 = 2
  · subst o2
    cases hia : inB p1 0 (cells - 1)
    · skip
      rw [show ordC_ (cells - 1) len (2, p1, p2) = false by show ordG (inB p1 0 (cells - 1)) (inB p2 0 (cells - 1)) len 2 p1 p2 = false; simp [ordG, hia]]
      go_enter Try.func24, Try.ntmps24
      go_wp2
      go_quiet ((go_at_call 21; exact quiet_left (in_any _ _ _ _)))
      go_wp2
      go_ret
      exact ⟨rfl, by first | exact below_drewN (by go_grown) _ | go_grown⟩
    · skip
      cases hib : inB p2 0 (cells - 1)
      · skip
        rw [show ordC_ (cells - 1) len (2, p1, p2) = false by show ordG (inB p1 0 (cells - 1)) (inB p2 0 (cells - 1)) len 2 p1 p2 = false; simp [ordG, hia, hib]]
        go_enter Try.func24, Try.ntmps24
        go_wp2
        go_quiet ((go_at_call 21; exact quiet_left (in_any _ _ _ _)))
        go_wp2
        go_ret
        exact ⟨rfl, by first | exact below_drewN (by go_grown) _ | go_grown⟩
      · skip
        rw [show ordC_ (cells - 1) len (2, p1, p2) = true by show ordG (inB p1 0 (cells - 1)) (inB p2 0 (cells - 1)) len 2 p1 p2 = true; simp [ordG, hia, hib]]
        go_enter Try.func24, Try.ntmps24
        go_wp2
        go_quiet ((go_at_call 21; exact quiet_left (in_any _ _ _ _)))
        go_wp2
        go_ret
        exact ⟨rfl, by first | exact below_drewN (by go_grown) _ | go_grown⟩
  by_cases o3 : p0 = 3
  · subst o3
    cases hia : inB p1 0 (cells - 1)
    · skip
      rw [show ordC_ (cells - 1) len (3, p1, p2) = false by show ordG (inB p1 0 (cells - 1)) (inB p2 0 (cells - 1)) len 3 p1 p2 = false; simp [ordG, hia]]
      go_enter Try.func24, Try.ntmps24
      go_wp2
      go_quiet ((go_at_call 21; exact quiet_left (in_any _ _ _ _)))
      go_wp2
      go_ret
      exact ⟨rfl, by first | exact below_drewN (by go_grown) _ | go_grown⟩
    · skip
      cases hib : inB p2 0 (cells - 1)
      · skip
        rw [show ordC_ (cells - 1) len (3, p1, p2) = false by show ordG (inB p1 0 (cells - 1)) (inB p2 0 (cells - 1)) len 3 p1 p2 = false; simp [ordG, hia, hib]]
        go_enter Try.func24, Try.ntmps24
        go_wp2
        go_quiet ((go_at_call 21; exact quiet_left (in_any _ _ _ _)))
        go_wp2
        go_ret
        exact ⟨rfl, by first | exact below_drewN (by go_grown) _ | go_grown⟩
      · skip
        rw [show ordC_ (cells - 1) len (3, p1, p2) = true by show ordG (inB p1 0 (cells - 1)) (inB p2 0 (cells - 1)) len 3 p1 p2 = true; simp [ordG, hia, hib]]
        go_enter Try.func24, Try.ntmps24
        go_wp2
        go_quiet ((go_at_call 21; exact quiet_left (in_any _ _ _ _)))
        go_wp2
        go_ret
        exact ⟨rfl, by first | exact below_drewN (by go_grown) _ | go_grown⟩
  by_cases o4 : p0 = 4
  · subst o4
    cases hc : inB p1 0 (len - 1)
    · skip
      rw [show ordC_ (cells - 1) len (4, p1, p2) = false by show ordG (inB p1 0 (cells - 1)) (inB p2 0 (cells - 1)) len 4 p1 p2 = false; simp [ordG, hc]]
      go_enter Try.func24, Try.ntmps24
      go_wp2
      go_quiet ((go_at_call 21; exact quiet_left (in_any _ _ _ _)))
      go_wp2_with fail
      refine (in_is hc _).mono ?_
      rintro e _ ⟨rfl, rfl⟩
      go_wp2
      go_ret
      exact ⟨rfl, by first | exact below_drewN (by go_grown) _ | go_grown⟩
    · skip
      cases hib : inB p2 0 (cells - 1)
      · skip
        rw [show ordC_ (cells - 1) len (4, p1, p2) = false by show ordG (inB p1 0 (cells - 1)) (inB p2 0 (cells - 1)) len 4 p1 p2 = false; simp [ordG, hc, hib]]
        go_enter Try.func24, Try.ntmps24
        go_wp2
        go_quiet ((go_at_call 21; exact quiet_left (in_any _ _ _ _)))
        go_wp2_with fail
        refine (in_is hc _).mono ?_
        rintro e _ ⟨rfl, rfl⟩
        go_wp2
        go_ret
        exact ⟨rfl, by first | exact below_drewN (by go_grown) _ | go_grown⟩
      · skip
        rw [show ordC_ (cells - 1) len (4, p1, p2) = true by show ordG (inB p1 0 (cells - 1)) (inB p2 0 (cells - 1)) len 4 p1 p2 = true; simp [ordG, hc, hib]]
        go_enter Try.func24, Try.ntmps24
        go_wp2
        go_quiet ((go_at_call 21; exact quiet_left (in_any _ _ _ _)))
        go_wp2_with fail
        refine (in_is hc _).mono ?_
        rintro e _ ⟨rfl, rfl⟩
        go_wp2
        go_ret
        exact ⟨rfl, by first | exact below_drewN (by go_grown) _ | go_grown⟩
  by_cases o5 : p0 = 5
  · subst o5
    cases hc : inB p1 0 (7)
    · skip
      rw [show ordC_ (cells - 1) len (5, p1, p2) = false by show ordG (inB p1 0 (cells - 1)) (inB p2 0 (cells - 1)) len 5 p1 p2 = false; simp [ordG, hc]]
      go_enter Try.func24, Try.ntmps24
      go_wp2
      go_quiet ((go_at_call 21; exact quiet_left (in_any _ _ _ _)))
      go_wp2_with fail
      refine (in_is hc _).mono ?_
      rintro e _ ⟨rfl, rfl⟩
      go_wp2
      go_ret
      exact ⟨rfl, by first | exact below_drewN (by go_grown) _ | go_grown⟩
    · skip
      cases hib : inB p2 0 (cells - 1)
      · skip
        rw [show ordC_ (cells - 1) len (5, p1, p2) = false by show ordG (inB p1 0 (cells - 1)) (inB p2 0 (cells - 1)) len 5 p1 p2 = false; simp [ordG, hc, hib]]
        go_enter Try.func24, Try.ntmps24
        go_wp2
        go_quiet ((go_at_call 21; exact quiet_left (in_any _ _ _ _)))
        go_wp2_with fail
        refine (in_is hc _).mono ?_
        rintro e _ ⟨rfl, rfl⟩
        go_wp2
        go_ret
        exact ⟨rfl, by first | exact below_drewN (by go_grown) _ | go_grown⟩
      · skip
        rw [show ordC_ (cells - 1) len (5, p1, p2) = true by show ordG (inB p1 0 (cells - 1)) (inB p2 0 (cells - 1)) len 5 p1 p2 = true; simp [ordG, hc, hib]]
        go_enter Try.func24, Try.ntmps24
        go_wp2
        go_quiet ((go_at_call 21; exact quiet_left (in_any _ _ _ _)))
        go_wp2_with fail
        refine (in_is hc _).mono ?_
        rintro e _ ⟨rfl, rfl⟩
        go_wp2
        go_ret
        exact ⟨rfl, by first | exact below_drewN (by go_grown) _ | go_grown⟩
  by_cases o6 : p0 = 6
  · subst o6
    cases hc : inB p1 0 (7)
    · skip
      rw [show ordC_ (cells - 1) len (6, p1, p2) = false by show ordG (inB p1 0 (cells - 1)) (inB p2 0 (cells - 1)) len 6 p1 p2 = false; simp [ordG, hc]]
      go_enter Try.func24, Try.ntmps24
      go_wp2
      go_quiet ((go_at_call 21; exact quiet_left (in_any _ _ _ _)))
      go_wp2_with fail
      refine (in_is hc _).mono ?_
      rintro e _ ⟨rfl, rfl⟩
      go_wp2
      go_ret
      exact ⟨rfl, by first | exact below_drewN (by go_grown) _ | go_grown⟩
    · skip
      cases hib : inB p2 0 (cells - 1)
      · skip
        rw [show ordC_ (cells - 1) len (6, p1, p2) = false by show ordG (inB p1 0 (cells - 1)) (inB p2 0 (cells - 1)) len 6 p1 p2 = false; simp [ordG, hc, hib]]
        go_enter Try.func24, Try.ntmps24
        go_wp2
        go_quiet ((go_at_call 21; exact quiet_left (in_any _ _ _ _)))
        go_wp2_with fail
        refine (in_is hc _).mono ?_
        rintro e _ ⟨rfl, rfl⟩
        go_wp2
        go_ret
        exact ⟨rfl, by first | exact below_drewN (by go_grown) _ | go_grown⟩
      · skip
        rw [show ordC_ (cells - 1) len (6, p1, p2) = true by show ordG (inB p1 0 (cells - 1)) (inB p2 0 (cells - 1)) len 6 p1 p2 = true; simp [ordG, hc, hib]]
        go_enter Try.func24, Try.ntmps24
        go_wp2
        go_quiet ((go_at_call 21; exact quiet_left (in_any _ _ _ _)))
        go_wp2_with fail
        refine (in_is hc _).mono ?_
        rintro e _ ⟨rfl, rfl⟩
        go_wp2
        go_ret
        exact ⟨rfl, by first | exact below_drewN (by go_grown) _ | go_grown⟩
  by_cases o7 : p0 = 7
  · subst o7
    cases hia : inB p1 0 (cells - 1)
    · skip
      rw [show ordC_ (cells - 1) len (7, p1, p2) = false by show ordG (inB p1 0 (cells - 1)) (inB p2 0 (cells - 1)) len 7 p1 p2 = false; simp [ordG, hia]]
      go_enter Try.func24, Try.ntmps24
      go_wp2
      go_quiet ((go_at_call 21; exact quiet_left (in_any _ _ _ _)))
      go_wp2
      go_ret
      exact ⟨rfl, by first | exact below_drewN (by go_grown) _ | go_grown⟩
    · skip
      cases hzy : (p2 == 0)
      · skip
        rw [show ordC_ (cells - 1) len (7, p1, p2) = false by show ordG (inB p1 0 (cells - 1)) (inB p2 0 (cells - 1)) len 7 p1 p2 = false; simp [ordG, hia, hzy]]
        go_enter Try.func24, Try.ntmps24
        go_wp2
        go_quiet ((go_at_call 21; exact quiet_left (in_any _ _ _ _)))
        go_wp2
        go_ret
        exact ⟨rfl, by first | exact below_drewN (by go_grown) _ | go_grown⟩
      · skip
        rw [show ordC_ (cells - 1) len (7, p1, p2) = true by show ordG (inB p1 0 (cells - 1)) (inB p2 0 (cells - 1)) len 7 p1 p2 = true; simp [ordG, hia, hzy]]
        go_enter Try.func24, Try.ntmps24
        go_wp2
        go_quiet ((go_at_call 21; exact quiet_left (in_any _ _ _ _)))
        go_wp2
        go_ret
        exact ⟨rfl, by first | exact below_drewN (by go_grown) _ | go_grown⟩
  by_cases o0 : p0 = 0
  · subst o0
    cases hzx : (p1 == 0)
    · skip
      rw [show ordC_ (cells - 1) len (0, p1, p2) = false by show ordG (inB p1 0 (cells - 1)) (inB p2 0 (cells - 1)) len 0 p1 p2 = false; simp [ordG, hzx]]
      go_enter Try.func24, Try.ntmps24
      go_wp2
      go_quiet ((go_at_call 21; exact quiet_left (in_any _ _ _ _)))
      go_wp2
      go_ret
      exact ⟨rfl, by first | exact below_drewN (by go_grown) _ | go_grown⟩
    · skip
      cases hzy : (p2 == 0)
      · skip
        rw [show ordC_ (cells - 1) len (0, p1, p2) = false by show ordG (inB p1 0 (cells - 1)) (inB p2 0 (cells - 1)) len 0 p1 p2 = false; simp [ordG, hzx, hzy]]
        go_enter Try.func24, Try.ntmps24
        go_wp2
        go_quiet ((go_at_call 21; exact quiet_left (in_any _ _ _ _)))
        go_wp2
        go_ret
        exact ⟨rfl, by first | exact below_drewN (by go_grown) _ | go_grown⟩
      · skip
        rw [show ordC_ (cells - 1) len (0, p1, p2) = true by show ordG (inB p1 0 (cells - 1)) (inB p2 0 (cells - 1)) len 0 p1 p2 = true; simp [ordG, hzx, hzy]]
        go_enter Try.func24, Try.ntmps24
        go_wp2
        go_quiet ((go_at_call 21; exact quiet_left (in_any _ _ _ _)))
        go_wp2
        go_ret
        exact ⟨rfl, by first | exact below_drewN (by go_grown) _ | go_grown⟩
  by_cases o8 : p0 = 8
  · subst o8
    cases hzx : (p1 == 0)
    · skip
      rw [show ordC_ (cells - 1) len (8, p1, p2) = false by show ordG (inB p1 0 (cells - 1)) (inB p2 0 (cells - 1)) len 8 p1 p2 = false; simp [ordG, hzx]]
      go_enter Try.func24, Try.ntmps24
      go_wp2
      go_quiet ((go_at_call 21; exact quiet_left (in_any _ _ _ _)))
      go_wp2
      go_ret
      exact ⟨rfl, by first | exact below_drewN (by go_grown) _ | go_grown⟩
    · skip
      cases hzy : (p2 == 0)
      · skip
        rw [show ordC_ (cells - 1) len (8, p1, p2) = false by show ordG (inB p1 0 (cells - 1)) (inB p2 0 (cells - 1)) len 8 p1 p2 = false; simp [ordG, hzx, hzy]]
        go_enter Try.func24, Try.ntmps24
        go_wp2
        go_quiet ((go_at_call 21; exact quiet_left (in_any _ _ _ _)))
        go_wp2
        go_ret
        exact ⟨rfl, by first | exact below_drewN (by go_grown) _ | go_grown⟩
      · skip
        rw [show ordC_ (cells - 1) len (8, p1, p2) = true by show ordG (inB p1 0 (cells - 1)) (inB p2 0 (cells - 1)) len 8 p1 p2 = true; simp [ordG, hzx, hzy]]
        go_enter Try.func24, Try.ntmps24
        go_wp2
        go_quiet ((go_at_call 21; exact quiet_left (in_any _ _ _ _)))
        go_wp2
        go_ret
        exact ⟨rfl, by first | exact below_drewN (by go_grown) _ | go_grown⟩
  rw [show ordC_ (cells - 1) len (p0, p1, p2) = false by show ordG (inB p1 0 (cells - 1)) (inB p2 0 (cells - 1)) len p0 p1 p2 = false; simp [ordG, *]]
  have q1 : (p0 == 1) = false := by simpa using o1
  have q2 : (p0 == 2) = false := by simpa using o2
  have q3 : (p0 == 3) = false := by simpa using o3
  have q4 : (p0 == 4) = false := by simpa using o4
  have q5 : (p0 == 5) = false := by simpa using o5
  have q6 : (p0 == 6) = false := by simpa using o6
  have q7 : (p0 == 7) = false := by simpa using o7
  have q0 : (p0 == 0) = false := by simpa using o0
  have q8 : (p0 == 8) = false := by simpa using o8
  go_enter Try.func24, Try.ntmps24
  go_wp2
  go_quiet ((go_at_call 21; exact quiet_left (in_any _ _ _ _)))
  go_wp2
  go_ret
  exact ⟨rfl, by first | exact below_drewN (by go_grown) _ | go_grown⟩
set_option maxRecDepth 100000 in
set_option maxHeartbeats 2000000 in
theorem programValid1_any (a a2 : Addr) (cells : Int) (A : Option Addr) (n c : Nat) (w : World) (hc0 : 1 ≤ cells) (hc1 : cells ≤ 8) (hl0 : 1 ≤ n) (hl1 : n ≤ 20) (hc : w.cell? a = some (.int .i64 cells)) (hc2 : w.cell? a2 = some (.slice A n c)) :
    Pred Try.prog 23 #[.pointer (some a), .pointer (some a2)] ordV (fun x => !ordC_ (cells - 1) n x) w := by
  intro x W hb
  have ha : a.block < w.heap.size := World.block_lt_of_cell? w a hc
  have ha2 : a2.block < w.heap.size := World.block_lt_of_cell? w a2 hc2
  obtain ⟨p0, p1, p2⟩ := x
  have hcW : W.cell? a = some (.int .i64 cells) := (hb.cell ha).trans hc
  have hcW2 : W.cell? a2 = some (.slice A n c) := (hb.cell ha2).trans hc2
  have hz := hb.size
  have hk := fun (o : Obj) => keepA hcW o
  have hk2 := fun (o : Obj) => keepA hcW2 o
  show Calls Try.prog 23 #[.agg #[.int .i64 p0, .int .i64 p1, .int .i64 p2], .pointer (some a), .pointer (some a2)] W fun e W' => e = .returned (.bool (!ordC_ (cells - 1) n (p0, p1, p2))) ∧ Below W.heap.size W W'
  obtain ⟨V, hV⟩ : ∃ V, V = ordC_ (cells - 1) n (p0, p1, p2) := ⟨_, rfl⟩
  rw [← hV]
  have HV := Lib.hid hV
  clear hV
  go_enter Try.func23, Try.ntmps23
  go_wp2_with fail
  refine (ordValid_any p0 p1 p2 cells n _ hc0 hc1 (by omega) (by omega)).mono ?_
  rw [← HV.out]
  rintro e w1 ⟨rfl, hb1⟩
  have HB1 := Lib.hid (Below.andThen (w := W) (by go_grown) hb1)
  clear hb1
  go_wp2
  go_ret
  exact ⟨rfl, HB1.out⟩
set_option maxRecDepth 100000 in
set_option maxHeartbeats 2000000 in
theorem iProgramValid_any (A : Option Addr) (n c : Nat) (zs : List Ord3) (cells : Int) (w : World) (hm : n ≤ 1048577) (hr : Rd w 3 A n (ords zs)) :
    Calls Try.prog 15 #[.slice A n c, .int .i64 cells] w fun e w' => e = .returned (.bool (progOk zs cells)) ∧ Below w.heap.size w w' := by
  have hlz := Lib.hid hr.ordsLen
  have HV : Hid (progOk zs cells = (inB (n : Int) 1 20 && (inB cells 1 8 && zs.all (ordC_ (cells - 1) n)))) := by show _ = _; unfold progOk; rw [hlz.out]
  have HR := Lib.hid hr
  clear hr
  cases hp : inB (n : Int) 1 20
  · rw [show progOk zs cells = false by rw [HV.out, hp]; rfl]
    go_enter Try.func15, Try.ntmps15
    go_wp2_with fail
    refine (in_is hp _).mono ?_
    rintro e _ ⟨rfl, rfl⟩
    go_wp2
    go_ret
    exact ⟨rfl, by go_grown⟩
  · obtain ⟨hp0, hp1⟩ := inB_true.1 hp
    cases hq : inB cells 1 8
    · rw [show progOk zs cells = false by rw [HV.out, hq]; simp]
      go_enter Try.func15, Try.ntmps15
      go_wp2_with fail
      refine (in_is hp _).mono ?_
      rintro e _ ⟨rfl, rfl⟩
      go_wp2_with fail
      refine (in_is hq _).mono ?_
      rintro e _ ⟨rfl, rfl⟩
      go_wp2
      go_ret
      exact ⟨rfl, by go_grown⟩
    · obtain ⟨hq0, hq1⟩ := inB_true.1 hq
      rw [show progOk zs cells = !(zs.any fun x => !ordC_ (cells - 1) n x) by rw [HV.out, hp, hq, List.all_eq_not_any_not]; rfl]
      go_enter Try.func15, Try.ntmps15
      go_wp2_with fail
      refine (in_is hp _).mono ?_
      rintro e _ ⟨rfl, rfl⟩
      go_wp2_with fail
      refine (in_is hq _).mono ?_
      rintro e _ ⟨rfl, rfl⟩
      go_wp2_with fail
      refine (ContainsFuncOrder_any 23 _ (fun x => !ordC_ (cells - 1) n x) A n c zs _ hm ((HR.out.alloc _).alloc _) (programValid1_any _ _ cells A n c _ hq0 hq1 (by omega) (by omega) (by simp [go_sem]) (by simp [go_sem])) (enters_of Try.func23 (by kernel_rfl) rfl)).mono ?_
      rintro e w1 ⟨rfl, hb1⟩
      have HB1 : Hid (Below w.heap.size w w1) := Below.andThen (by go_grown) hb1
      clear hb1
      go_wp2
      go_ret
      exact ⟨rfl, HB1.out⟩
theorem iProgramValid_is {A : Option Addr} {n c : Nat} {zs : List Ord3} {cells : Int} {b : Bool} (h : progOk zs cells = b) (w : World) (hm : n ≤ 1048577) (hr : Rd w 3 A n (ords zs)) :
    Calls Try.prog 15 #[.slice A n c, .int .i64 cells] w fun e w' => e = .returned (.bool b) ∧ Below w.heap.size w w' := h ▸ iProgramValid_any A n c zs cells w hm hr
set_option maxRecDepth 100000 in
set_option maxHeartbeats 16000000 in
theorem sProgramValid_any (A : Option Addr) (n c : Nat) (zs : List Ord3) (cells : Int) (w : World) (hm : n ≤ 1048577) (hr : Rd w 3 A n (ords zs)) :
    Calls Try.prog 13 #[.slice A n c, .int .i64 cells] w fun e w' => e = .returned (.bool (progOk zs cells)) ∧ Below w.heap.size w w' := by
  have hlz := Lib.hid hr.ordsLen
  obtain ⟨C, hC⟩ : ∃ C, C = IntKind.i64.wrap (cells - 1) := ⟨_, rfl⟩
  have HV : Hid (progOk zs cells = (zs.all (ordC_ C n) && (inB (n : Int) 1 20 && inB cells 1 8))) := by
    show _ = _
    unfold progOk
    rw [hlz.out]
    cases hq : inB cells 1 8
    · simp
    · obtain ⟨hq0, hq1⟩ := inB_true.1 hq
      have e : C = cells - 1 := by rw [hC]; exact IntWalk.i64_in _ (by omega)
      rw [e]
      cases zs.all (ordC_ (cells - 1) n) <;> cases inB (n : Int) 1 20 <;> rfl
  have HR := Lib.hid hr
  clear hr
  have hC2 := hC.symm
  clear hC
  go_enter Try.func13, Try.ntmps13
  go_wp2
  go_loopw [5] (fun i wr => ∃ (k : Nat), k ≤ n ∧ i = .int .i64 k ∧ Hid ((zs.take k).all (ordC_ C n) = true) ∧ Below w.heap.size w wr) (fun i _ => n - (intOf i).toNat)
  case atStart => exact ⟨0, Nat.zero_le _, rfl, by show _ = true; simp, Below.refl _ _⟩
  case round =>
    obtain ⟨k, hk, rfl, HA, hb⟩ := hrel
    by_cases hlt : k < n
    · obtain ⟨b, o, p0, p1, p2, rfl, hbl, hx, g0, g1, g2⟩ := HR.out.ord hlt
      have j0 := (hb.cell (p := ⟨b, o + k * 3, none⟩) hbl).trans g0
      have j1 := (hb.cell (p := ⟨b, o + k * 3 + 1, none⟩) hbl).trans g1
      have j2 := (hb.cell (p := ⟨b, o + k * 3 + 2, none⟩) hbl).trans g2
      have HX := Lib.hid hx
      clear g0 g1 g2 hx
      by_cases o1 : p0 = 1
      · subst o1
        cases hia : inB p1 0 C
        · skip
          have HP : Hid (ordC_ C n (1, p1, p2) = false) := by show ordG (inB p1 0 C) (inB p2 0 C) n 1 p1 p2 = false; simp [ordG, hia]
          go_wp2_with fail
          refine (l1In_any _ _ _ _).mono ?_
          rintro e _ ⟨rfl, rfl⟩
          go_wp2_with fail
          refine (l1In_any _ _ _ _).mono ?_
          rintro e _ ⟨rfl, rfl⟩
          go_wp2
          go_ret
          exact ⟨by rw [HV.out, all_missB HX.out HP.out]; rfl, by first | exact hb | exact hb.alloc hb.size _⟩
        · skip
          cases hc : inB p2 0 (255)
          · skip
            have HP : Hid (ordC_ C n (1, p1, p2) = false) := by show ordG (inB p1 0 C) (inB p2 0 C) n 1 p1 p2 = false; simp [ordG, hia, hc]
            go_wp2_with fail
            refine (l1In_any _ _ _ _).mono ?_
            rintro e _ ⟨rfl, rfl⟩
            go_wp2_with fail
            refine (l1In_any _ _ _ _).mono ?_
            rintro e _ ⟨rfl, rfl⟩
            go_wp2_with fail
            refine (l1In_is hc _).mono ?_
            rintro e _ ⟨rfl, rfl⟩
            go_wp2
            go_ret
            exact ⟨by rw [HV.out, all_missB HX.out HP.out]; rfl, by first | exact hb | exact hb.alloc hb.size _⟩
          · skip
            have HP : Hid (ordC_ C n (1, p1, p2) = true) := by show ordG (inB p1 0 C) (inB p2 0 C) n 1 p1 p2 = true; simp [ordG, hia, hc]
            go_wp2_with fail
            refine (l1In_any _ _ _ _).mono ?_
            rintro e _ ⟨rfl, rfl⟩
            go_wp2_with fail
            refine (l1In_any _ _ _ _).mono ?_
            rintro e _ ⟨rfl, rfl⟩
            go_wp2_with fail
            refine (l1In_is hc _).mono ?_
            rintro e _ ⟨rfl, rfl⟩
            go_wp2
            go_roundw
            case rel => exact ⟨k + 1, by omega, by go_num, all_snocB HX.out HA.out HP.out, by first | exact hb | exact hb.alloc hb.size _⟩
            case measure => simp [intOf]; omega
      by_cases o2 : p0 = 2
      · subst o2
        cases hia : inB p1 0 C
        · skip
          have HP : Hid (ordC_ C n (2, p1, p2) = false) := by show ordG (inB p1 0 C) (inB p2 0 C) n 2 p1 p2 = false; simp [ordG, hia]
          go_wp2_with fail
          refine (l1In_any _ _ _ _).mono ?_
          rintro e _ ⟨rfl, rfl⟩
          go_wp2_with fail
          refine (l1In_any _ _ _ _).mono ?_
          rintro e _ ⟨rfl, rfl⟩
          go_wp2
          go_ret
          exact ⟨by rw [HV.out, all_missB HX.out HP.out]; rfl, by first | exact hb | exact hb.alloc hb.size _⟩
        · skip
          cases hib : inB p2 0 C
          · skip
            have HP : Hid (ordC_ C n (2, p1, p2) = false) := by show ordG (inB p1 0 C) (inB p2 0 C) n 2 p1 p2 = false; simp [ordG, hia, hib]
            go_wp2_with fail
            refine (l1In_any _ _ _ _).mono ?_
            rintro e _ ⟨rfl, rfl⟩
            go_wp2_with fail
            refine (l1In_any _ _ _ _).mono ?_
            rintro e _ ⟨rfl, rfl⟩
            go_wp2
            go_ret
            exact ⟨by rw [HV.out, all_missB HX.out HP.out]; rfl, by first | exact hb | exact hb.alloc hb.size _⟩
          · skip
            have HP : Hid (ordC_ C n (2, p1, p2) = true) := by show ordG (inB p1 0 C) (inB p2 0 C) n 2 p1 p2 = true; simp [ordG, hia, hib]
            go_wp2_with fail
            refine (l1In_any _ _ _ _).mono ?_
            rintro e _ ⟨rfl, rfl⟩
            go_wp2_with fail
            refine (l1In_any _ _ _ _).mono ?_
            rintro e _ ⟨rfl, rfl⟩
            go_wp2
            go_roundw
            case rel => exact ⟨k + 1, by omega, by go_num, all_snocB HX.out HA.out HP.out, by first | exact hb | exact hb.alloc hb.size _⟩
            case measure => simp [intOf]; omega
      by_cases o3 : p0 = 3
      · subst o3
        cases hia : inB p1 0 C
        · skip
          have HP : Hid (ordC_ C n (3, p1, p2) = false) := by show ordG (inB p1 0 C) (inB p2 0 C) n 3 p1 p2 = false; simp [ordG, hia]
          go_wp2_with fail
          refine (l1In_any _ _ _ _).mono ?_
          rintro e _ ⟨rfl, rfl⟩
          go_wp2_with fail
          refine (l1In_any _ _ _ _).mono ?_
          rintro e _ ⟨rfl, rfl⟩
          go_wp2
          go_ret
          exact ⟨by rw [HV.out, all_missB HX.out HP.out]; rfl, by first | exact hb | exact hb.alloc hb.size _⟩
        · skip
          cases hib : inB p2 0 C
          · skip
            have HP : Hid (ordC_ C n (3, p1, p2) = false) := by show ordG (inB p1 0 C) (inB p2 0 C) n 3 p1 p2 = false; simp [ordG, hia, hib]
            go_wp2_with fail
            refine (l1In_any _ _ _ _).mono ?_
            rintro e _ ⟨rfl, rfl⟩
            go_wp2_with fail
            refine (l1In_any _ _ _ _).mono ?_
            rintro e _ ⟨rfl, rfl⟩
            go_wp2
            go_ret
            exact ⟨by rw [HV.out, all_missB HX.out HP.out]; rfl, by first | exact hb | exact hb.alloc hb.size _⟩
          · skip
            have HP : Hid (ordC_ C n (3, p1, p2) = true) := by show ordG (inB p1 0 C) (inB p2 0 C) n 3 p1 p2 = true; simp [ordG, hia, hib]
            go_wp2_with fail
            refine (l1In_any _ _ _ _).mono ?_
            rintro e _ ⟨rfl, rfl⟩
            go_wp2_with fail
            refine (l1In_any _ _ _ _).mono ?_
            rintro e _ ⟨rfl, rfl⟩
            go_wp2
            go_roundw
            case rel => exact ⟨k + 1, by omega, by go_num, all_snocB HX.out HA.out HP.out, by first | exact hb | exact hb.alloc hb.size _⟩
            case measure => simp [intOf]; omega
      by_cases o4 : p0 = 4
      · subst o4
        cases hc : inB p1 0 ((n : Int) - 1)
        · skip
          have HP : Hid (ordC_ C n (4, p1, p2) = false) := by show ordG (inB p1 0 C) (inB p2 0 C) n 4 p1 p2 = false; simp [ordG, hc]
          go_wp2_with fail
          refine (l1In_any _ _ _ _).mono ?_
          rintro e _ ⟨rfl, rfl⟩
          go_wp2_with fail
          refine (l1In_any _ _ _ _).mono ?_
          rintro e _ ⟨rfl, rfl⟩
          go_wp2_with fail
          refine (l1In_is hc _).mono ?_
          rintro e _ ⟨rfl, rfl⟩
          go_wp2
          go_ret
          exact ⟨by rw [HV.out, all_missB HX.out HP.out]; rfl, by first | exact hb | exact hb.alloc hb.size _⟩
        · skip
          cases hib : inB p2 0 C
          · skip
            have HP : Hid (ordC_ C n (4, p1, p2) = false) := by show ordG (inB p1 0 C) (inB p2 0 C) n 4 p1 p2 = false; simp [ordG, hc, hib]
            go_wp2_with fail
            refine (l1In_any _ _ _ _).mono ?_
            rintro e _ ⟨rfl, rfl⟩
            go_wp2_with fail
            refine (l1In_any _ _ _ _).mono ?_
            rintro e _ ⟨rfl, rfl⟩
            go_wp2_with fail
            refine (l1In_is hc _).mono ?_
            rintro e _ ⟨rfl, rfl⟩
            go_wp2
            go_ret
            exact ⟨by rw [HV.out, all_missB HX.out HP.out]; rfl, by first | exact hb | exact hb.alloc hb.size _⟩
          · skip
            have HP : Hid (ordC_ C n (4, p1, p2) = true) := by show ordG (inB p1 0 C) (inB p2 0 C) n 4 p1 p2 = true; simp [ordG, hc, hib]
            go_wp2_with fail
            refine (l1In_any _ _ _ _).mono ?_
            rintro e _ ⟨rfl, rfl⟩
            go_wp2_with fail
            refine (l1In_any _ _ _ _).mono ?_
            rintro e _ ⟨rfl, rfl⟩
            go_wp2_with fail
            refine (l1In_is hc _).mono ?_
            rintro e _ ⟨rfl, rfl⟩
            go_wp2
            go_roundw
            case rel => exact ⟨k + 1, by omega, by go_num, all_snocB HX.out HA.out HP.out, by first | exact hb | exact hb.alloc hb.size _⟩
            case measure => simp [intOf]; omega
      by_cases o5 : p0 = 5
      · subst o5
        cases hc : inB p1 0 (7)
        · skip
          have HP : Hid (ordC_ C n (5, p1, p2) = false) := by show ordG (inB p1 0 C) (inB p2 0 C) n 5 p1 p2 = false; simp [ordG, hc]
          go_wp2_with fail
          refine (l1In_any _ _ _ _).mono ?_
          rintro e _ ⟨rfl, rfl⟩
          go_wp2_with fail
          refine (l1In_any _ _ _ _).mono ?_
          rintro e _ ⟨rfl, rfl⟩
          go_wp2_with fail
          refine (l1In_is hc _).mono ?_
          rintro e _ ⟨rfl, rfl⟩
          go_wp2
          go_ret
          exact ⟨by rw [HV.out, all_missB HX.out HP.out]; rfl, by first | exact hb | exact hb.alloc hb.size _⟩
        · skip
          cases hib : inB p2 0 C
          · skip
            have HP : Hid (ordC_ C n (5, p1, p2) = false) := by show ordG (inB p1 0 C) (inB p2 0 C) n 5 p1 p2 = false; simp [ordG, hc, hib]
            go_wp2_with fail
            refine (l1In_any _ _ _ _).mono ?_
            rintro e _ ⟨rfl, rfl⟩
            go_wp2_with fail
            refine (l1In_any _ _ _ _).mono ?_
            rintro e _ ⟨rfl, rfl⟩
            go_wp2_with fail
            refine (l1In_is hc _).mono ?_
            rintro e _ ⟨rfl, rfl⟩
            go_wp2
            go_ret
            exact ⟨by rw [HV.out, all_missB HX.out HP.out]; rfl, by first | exact hb | exact hb.alloc hb.size _⟩
          · skip
            have HP : Hid (ordC_ C n (5, p1, p2) = true) := by show ordG (inB p1 0 C) (inB p2 0 C) n 5 p1 p2 = true; simp [ordG, hc, hib]
            go_wp2_with fail
            refine (l1In_any _ _ _ _).mono ?_
            rintro e _ ⟨rfl, rfl⟩
            go_wp2_with fail
            refine (l1In_any _ _ _ _).mono ?_
            rintro e _ ⟨rfl, rfl⟩
            go_wp2_with fail
            refine (l1In_is hc _).mono ?_
            rintro e _ ⟨rfl, rfl⟩
            go_wp2
            go_roundw
            case rel => exact ⟨k + 1, by omega, by go_num, all_snocB HX.out HA.out HP.out, by first | exact hb | exact hb.alloc hb.size _⟩
            case measure => simp [intOf]; omega
      by_cases o6 : p0 = 6
      · subst o6
        cases hc : inB p1 0 (7)
        · skip
          have HP : Hid (ordC_ C n (6, p1, p2) = false) := by show ordG (inB p1 0 C) (inB p2 0 C) n 6 p1 p2 = false; simp [ordG, hc]
          go_wp2_with fail
          refine (l1In_any _ _ _ _).mono ?_
          rintro e _ ⟨rfl, rfl⟩
          go_wp2_with fail
          refine (l1In_any _ _ _ _).mono ?_
          rintro e _ ⟨rfl, rfl⟩
          go_wp2_with fail
          refine (l1In_is hc _).mono ?_
          rintro e _ ⟨rfl, rfl⟩
          go_wp2
          go_ret
          exact ⟨by rw [HV.out, all_missB HX.out HP.out]; rfl, by first | exact hb | exact hb.alloc hb.size _⟩
        · skip
          cases hib : inB p2 0 C
          · skip
            have HP : Hid (ordC_ C n (6, p1, p2) = false) := by show ordG (inB p1 0 C) (inB p2 0 C) n 6 p1 p2 = false; simp [ordG, hc, hib]
            go_wp2_with fail
            refine (l1In_any _ _ _ _).mono ?_
            rintro e _ ⟨rfl, rfl⟩
            go_wp2_with fail
            refine (l1In_any _ _ _ _).mono ?_
            rintro e _ ⟨rfl, rfl⟩
            go_wp2_with fail
            refine (l1In_is hc _).mono ?_
            rintro e _ ⟨rfl, rfl⟩
            go_wp2
            go_ret
            exact ⟨by rw [HV.out, all_missB HX.out HP.out]; rfl, by first | exact hb | exact hb.alloc hb.size _⟩
          · skip
            have HP : Hid (ordC_ C n (6, p1, p2) = true) := by show ordG (inB p1 0 C) (inB p2 0 C) n 6 p1 p2 = true; simp [ordG, hc, hib]
            go_wp2_with fail
            refine (l1In_any _ _ _ _).mono ?_
            rintro e _ ⟨rfl, rfl⟩
            go_wp2_with fail
            refine (l1In_any _ _ _ _).mono ?_
            rintro e _ ⟨rfl, rfl⟩
            go_wp2_with fail
            refine (l1In_is hc _).mono ?_
            rintro e _ ⟨rfl, rfl⟩
            go_wp2
            go_roundw
            case rel => exact ⟨k + 1, by omega, by go_num, all_snocB HX.out HA.out HP.out, by first | exact hb | exact hb.alloc hb.size _⟩
            case measure => simp [intOf]; omega
      by_cases o7 : p0 = 7
      · subst o7
        cases hia : inB p1 0 C
        · skip
          have HP : Hid (ordC_ C n (7, p1, p2) = false) := by show ordG (inB p1 0 C) (inB p2 0 C) n 7 p1 p2 = false; simp [ordG, hia]
          go_wp2_with fail
          refine (l1In_any _ _ _ _).mono ?_
          rintro e _ ⟨rfl, rfl⟩
          go_wp2_with fail
          refine (l1In_any _ _ _ _).mono ?_
          rintro e _ ⟨rfl, rfl⟩
          go_wp2
          go_ret
          exact ⟨by rw [HV.out, all_missB HX.out HP.out]; rfl, by first | exact hb | exact hb.alloc hb.size _⟩
        · skip
          cases hzy : (p2 == 0)
          · skip
            have HP : Hid (ordC_ C n (7, p1, p2) = false) := by show ordG (inB p1 0 C) (inB p2 0 C) n 7 p1 p2 = false; simp [ordG, hia, hzy]
            go_wp2_with fail
            refine (l1In_any _ _ _ _).mono ?_
            rintro e _ ⟨rfl, rfl⟩
            go_wp2_with fail
            refine (l1In_any _ _ _ _).mono ?_
            rintro e _ ⟨rfl, rfl⟩
            go_wp2
            go_ret
            exact ⟨by rw [HV.out, all_missB HX.out HP.out]; rfl, by first | exact hb | exact hb.alloc hb.size _⟩
          · skip
            have HP : Hid (ordC_ C n (7, p1, p2) = true) := by show ordG (inB p1 0 C) (inB p2 0 C) n 7 p1 p2 = true; simp [ordG, hia, hzy]
            go_wp2_with fail
            refine (l1In_any _ _ _ _).mono ?_
            rintro e _ ⟨rfl, rfl⟩
            go_wp2_with fail
            refine (l1In_any _ _ _ _).mono ?_
            rintro e _ ⟨rfl, rfl⟩
            go_wp2
            go_roundw
            case rel => exact ⟨k + 1, by omega, by go_num, all_snocB HX.out HA.out HP.out, by first | exact hb | exact hb.alloc hb.size _⟩
            case measure => simp [intOf]; omega
      by_cases o0 : p0 = 0
      · subst o0
        cases hzx : (p1 == 0)
        · skip
          have HP : Hid (ordC_ C n (0, p1, p2) = false) := by show ordG (inB p1 0 C) (inB p2 0 C) n 0 p1 p2 = false; simp [ordG, hzx]
          go_wp2_with fail
          refine (l1In_any _ _ _ _).mono ?_
          rintro e _ ⟨rfl, rfl⟩
          go_wp2_with fail
          refine (l1In_any _ _ _ _).mono ?_
          rintro e _ ⟨rfl, rfl⟩
          go_wp2
          go_ret
          exact ⟨by rw [HV.out, all_missB HX.out HP.out]; rfl, by first | exact hb | exact hb.alloc hb.size _⟩
        · skip
          cases hzy : (p2 == 0)
          · skip
            have HP : Hid (ordC_ C n (0, p1, p2) = false) := by show ordG (inB p1 0 C) (inB p2 0 C) n 0 p1 p2 = false; simp [ordG, hzx, hzy]
            go_wp2_with fail
            refine (l1In_any _ _ _ _).mono ?_
            rintro e _ ⟨rfl, rfl⟩
            go_wp2_with fail
            refine (l1In_any _ _ _ _).mono ?_
            rintro e _ ⟨rfl, rfl⟩
            go_wp2
            go_ret
            exact ⟨by rw [HV.out, all_missB HX.out HP.out]; rfl, by first | exact hb | exact hb.alloc hb.size _⟩
          · skip
            have HP : Hid (ordC_ C n (0, p1, p2) = true) := by show ordG (inB p1 0 C) (inB p2 0 C) n 0 p1 p2 = true; simp [ordG, hzx, hzy]
            go_wp2_with fail
            refine (l1In_any _ _ _ _).mono ?_
            rintro e _ ⟨rfl, rfl⟩
            go_wp2_with fail
            refine (l1In_any _ _ _ _).mono ?_
            rintro e _ ⟨rfl, rfl⟩
            go_wp2
            go_roundw
            case rel => exact ⟨k + 1, by omega, by go_num, all_snocB HX.out HA.out HP.out, by first | exact hb | exact hb.alloc hb.size _⟩
            case measure => simp [intOf]; omega
      by_cases o8 : p0 = 8
      · subst o8
        cases hzx : (p1 == 0)
        · skip
          have HP : Hid (ordC_ C n (8, p1, p2) = false) := by show ordG (inB p1 0 C) (inB p2 0 C) n 8 p1 p2 = false; simp [ordG, hzx]
          go_wp2_with fail
          refine (l1In_any _ _ _ _).mono ?_
          rintro e _ ⟨rfl, rfl⟩
          go_wp2_with fail
          refine (l1In_any _ _ _ _).mono ?_
          rintro e _ ⟨rfl, rfl⟩
          go_wp2
          go_ret
          exact ⟨by rw [HV.out, all_missB HX.out HP.out]; rfl, by first | exact hb | exact hb.alloc hb.size _⟩
        · skip
          cases hzy : (p2 == 0)
          · skip
            have HP : Hid (ordC_ C n (8, p1, p2) = false) := by show ordG (inB p1 0 C) (inB p2 0 C) n 8 p1 p2 = false; simp [ordG, hzx, hzy]
            go_wp2_with fail
            refine (l1In_any _ _ _ _).mono ?_
            rintro e _ ⟨rfl, rfl⟩
            go_wp2_with fail
            refine (l1In_any _ _ _ _).mono ?_
            rintro e _ ⟨rfl, rfl⟩
            go_wp2
            go_ret
            exact ⟨by rw [HV.out, all_missB HX.out HP.out]; rfl, by first | exact hb | exact hb.alloc hb.size _⟩
          · skip
            have HP : Hid (ordC_ C n (8, p1, p2) = true) := by show ordG (inB p1 0 C) (inB p2 0 C) n 8 p1 p2 = true; simp [ordG, hzx, hzy]
            go_wp2_with fail
            refine (l1In_any _ _ _ _).mono ?_
            rintro e _ ⟨rfl, rfl⟩
            go_wp2_with fail
            refine (l1In_any _ _ _ _).mono ?_
            rintro e _ ⟨rfl, rfl⟩
            go_wp2
            go_roundw
            case rel => exact ⟨k + 1, by omega, by go_num, all_snocB HX.out HA.out HP.out, by first | exact hb | exact hb.alloc hb.size _⟩
            case measure => simp [intOf]; omega
      have HP : Hid (ordC_ C n (p0, p1, p2) = false) := by show ordG (inB p1 0 C) (inB p2 0 C) n p0 p1 p2 = false; simp [ordG, *]
      have q1 : (p0 == 1) = false := by simpa using o1
      have q2 : (p0 == 2) = false := by simpa using o2
      have q3 : (p0 == 3) = false := by simpa using o3
      have q4 : (p0 == 4) = false := by simpa using o4
      have q5 : (p0 == 5) = false := by simpa using o5
      have q6 : (p0 == 6) = false := by simpa using o6
      have q7 : (p0 == 7) = false := by simpa using o7
      have q0 : (p0 == 0) = false := by simpa using o0
      have q8 : (p0 == 8) = false := by simpa using o8
      go_wp2_with fail
      refine (l1In_any _ _ _ _).mono ?_
      rintro e _ ⟨rfl, rfl⟩
      go_wp2_with fail
      refine (l1In_any _ _ _ _).mono ?_
      rintro e _ ⟨rfl, rfl⟩
      go_wp2
      go_ret
      exact ⟨by rw [HV.out, all_missB HX.out HP.out]; rfl, by first | exact hb | exact hb.alloc hb.size _⟩
    · have hkn : k = n := by omega
      have h9 := HA.out
      rw [hkn, ← hlz.out, List.take_length, hlz.out] at h9
      have H9 := Lib.hid h9
      clear h9
      cases hv : inB (n : Int) 1 20
      · go_wp2_with fail
        refine (l1In_is hv _).mono ?_
        rintro e w1 ⟨rfl, rfl⟩
        go_wp2
        go_ret
        exact ⟨by rw [HV.out, hv]; simp, hb⟩
      · go_wp2_with fail
        refine (l1In_is hv _).mono ?_
        rintro e w1 ⟨rfl, rfl⟩
        go_wp2_with fail
        refine (l1In_any _ _ _ _).mono ?_
        rintro e w1 ⟨rfl, rfl⟩
        go_wp2
        go_ret
        exact ⟨by rw [HV.out, hv, H9.out]; rfl, hb⟩
theorem sProgramValid_is {A : Option Addr} {n c : Nat} {zs : List Ord3} {cells : Int} {b : Bool} (h : progOk zs cells = b) (w : World) (hm : n ≤ 1048577) (hr : Rd w 3 A n (ords zs)) :
    Calls Try.prog 13 #[.slice A n c, .int .i64 cells] w fun e w' => e = .returned (.bool b) ∧ Below w.heap.size w w' := h ▸ sProgramValid_any A n c zs cells w hm hr
end Go.Proofs.Ytpaknpjdamoibaa
