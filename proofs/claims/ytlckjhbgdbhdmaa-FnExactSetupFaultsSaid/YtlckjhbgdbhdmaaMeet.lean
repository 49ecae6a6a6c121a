/-
  CONTRACTS of what two windows have in common.
  Conditions: none beyond those that each states.
-/
import Derived.Test.YtlckjhbgdbhdmaaWin
import Derived.IntWalk
namespace Go.Proofs.Ytlckjhbgdbhdmaa
open Go.ChangeShapes Go.WideShapes Go.ChangeAt Go.RowKit Go.Joins
set_option linter.unusedVariables false

def loW (x y : Win) : Int := if x.1 < y.1 then y.1 else x.1
def hiW (x y : Win) : Int := if y.1 + y.2.1 < x.1 + x.2.1 then y.1 + y.2.1 else x.1 + x.2.1
def meetB (x y : Win) : Bool := decide (loW x y < hiW x y)
def meetV (x y : Win) : Win := if meetB x y = true then (loW x y, hiW x y - loW x y, x.2.2 && y.2.2) else (0, 0, false)
def meetOk (x y : Win) : Bool := winOk x && (winOk y && meetB x y)
theorem meetV_yes {a s b t : Int} {u v : Bool} {L H : Int} (hL : (if a < b then b else a) = L) (hH : (if b + t < a + s then b + t else a + s) = H) (h : L < H) : meetB (a, s, u) (b, t, v) = true ∧ meetV (a, s, u) (b, t, v) = (L, H - L, u && v) := by
  have e : meetB (a, s, u) (b, t, v) = true := by unfold meetB loW hiW; simp only [hL, hH]; simpa using h
  refine ⟨e, ?_⟩
  unfold meetV
  rw [if_pos e]
  unfold loW hiW
  simp only [hL, hH]
theorem meetV_no {a s b t : Int} {u v : Bool} {L H : Int} (hL : (if a < b then b else a) = L) (hH : (if b + t < a + s then b + t else a + s) = H) (h : H ≤ L) : meetB (a, s, u) (b, t, v) = false ∧ meetV (a, s, u) (b, t, v) = (0, 0, false) := by
  have e : meetB (a, s, u) (b, t, v) = false := by unfold meetB loW hiW; simp only [hL, hH]; simpa using h
  refine ⟨e, ?_⟩
  unfold meetV
  rw [if_neg (by rw [e]; simp)]
/-- what a function gives back that meets two windows -/
def RetMeet (w : World) (ok : Bool) (x : Win) (e : Ending) (w' : World) : Prop := e = .returned (.tuple #[.agg #[.int .i64 x.1, .int .i64 x.2.1, .bool x.2.2], .bool ok]) ∧ Below w.heap.size w w'
set_option maxRecDepth 100000 in
set_option maxHeartbeats 8000000 in
theorem meet_yes (a s b t : Int) (u v : Bool) (w : World) (h1 : winOk (a, s, u) = true) (h2 : winOk (b, t, v) = true) :
    Calls Try.prog 89 #[.agg #[.int .i64 a, .int .i64 s, .bool u], .agg #[.int .i64 b, .int .i64 t, .bool v]] w fun e w' => RetMeet w (meetB (a, s, u) (b, t, v)) (meetV (a, s, u) (b, t, v)) e w' := by
  obtain ⟨ha0, ha1, hs0, hs1⟩ := winOk_use h1
  obtain ⟨hb0, hb1, ht0, ht1⟩ := winOk_use h2
  by_cases c1 : a < b
  · skip
    have hL : (if a < b then b else a) = b := if_pos c1
    by_cases c2 : b + t < a + s
    · skip
      have hH : (if b + t < a + s then b + t else a + s) = (b + t) := if_pos c2
      by_cases c3 : b < (b + t)
      · skip
        obtain ⟨e1, e2⟩ := meetV_yes (u := u) (v := v) hL hH c3
        rw [e1, e2]
        clear e1 e2 hL hH
        cases u
        · skip
          go_enter Try.func89, Try.ntmps89
          have hw1 : IntKind.i64.wrap (a + s) = a + s := IntWalk.i64_in _ (by omega)
          have hw2 : IntKind.i64.wrap (b + t) = b + t := IntWalk.i64_in _ (by omega)
          go_wp2
          go_quiet (fail)
          go_wp2
          clear hw1 hw2
          refine bodyPost_ret (v := .tuple #[.agg #[.int .i64 b, .int .i64 ((b + t) - b), .bool false], .bool true]) (by simp [results, Try.results89, go_sem]) rfl ?_
          exact ⟨rfl, by first | exact (((below_drewN (by go_grown) _).setCell (by first | (simp; done) | (simp; omega)) _).setCell (by first | (simp; done) | (simp; omega)) _).setCell (by first | (simp; done) | (simp; omega)) _ | exact below_drewN (by go_grown) _⟩
        · skip
          go_enter Try.func89, Try.ntmps89
          have hw1 : IntKind.i64.wrap (a + s) = a + s := IntWalk.i64_in _ (by omega)
          have hw2 : IntKind.i64.wrap (b + t) = b + t := IntWalk.i64_in _ (by omega)
          go_wp2
          go_quiet (fail)
          go_wp2
          clear hw1 hw2
          refine bodyPost_ret (v := .tuple #[.agg #[.int .i64 b, .int .i64 ((b + t) - b), .bool v], .bool true]) (by simp [results, Try.results89, go_sem]) rfl ?_
          exact ⟨rfl, by first | exact (((below_drewN (by go_grown) _).setCell (by first | (simp; done) | (simp; omega)) _).setCell (by first | (simp; done) | (simp; omega)) _).setCell (by first | (simp; done) | (simp; omega)) _ | exact below_drewN (by go_grown) _⟩
      · skip
        exfalso; omega
    · skip
      have hH : (if b + t < a + s then b + t else a + s) = (a + s) := if_neg c2
      by_cases c3 : b < (a + s)
      · skip
        obtain ⟨e1, e2⟩ := meetV_yes (u := u) (v := v) hL hH c3
        rw [e1, e2]
        clear e1 e2 hL hH
        cases u
        · skip
          go_enter Try.func89, Try.ntmps89
          have hw1 : IntKind.i64.wrap (a + s) = a + s := IntWalk.i64_in _ (by omega)
          have hw2 : IntKind.i64.wrap (b + t) = b + t := IntWalk.i64_in _ (by omega)
          go_wp2
          go_quiet (fail)
          go_wp2
          clear hw1 hw2
          refine bodyPost_ret (v := .tuple #[.agg #[.int .i64 b, .int .i64 ((a + s) - b), .bool false], .bool true]) (by simp [results, Try.results89, go_sem]) rfl ?_
          exact ⟨rfl, by first | exact (((below_drewN (by go_grown) _).setCell (by first | (simp; done) | (simp; omega)) _).setCell (by first | (simp; done) | (simp; omega)) _).setCell (by first | (simp; done) | (simp; omega)) _ | exact below_drewN (by go_grown) _⟩
        · skip
          go_enter Try.func89, Try.ntmps89
          have hw1 : IntKind.i64.wrap (a + s) = a + s := IntWalk.i64_in _ (by omega)
          have hw2 : IntKind.i64.wrap (b + t) = b + t := IntWalk.i64_in _ (by omega)
          go_wp2
          go_quiet (fail)
          go_wp2
          clear hw1 hw2
          refine bodyPost_ret (v := .tuple #[.agg #[.int .i64 b, .int .i64 ((a + s) - b), .bool v], .bool true]) (by simp [results, Try.results89, go_sem]) rfl ?_
          exact ⟨rfl, by first | exact (((below_drewN (by go_grown) _).setCell (by first | (simp; done) | (simp; omega)) _).setCell (by first | (simp; done) | (simp; omega)) _).setCell (by first | (simp; done) | (simp; omega)) _ | exact below_drewN (by go_grown) _⟩
      · skip
        obtain ⟨e1, e2⟩ := meetV_no (u := u) (v := v) hL hH (by omega)
        rw [e1, e2]
        clear e1 e2 hL hH
        go_enter Try.func89, Try.ntmps89
        have hw1 : IntKind.i64.wrap (a + s) = a + s := IntWalk.i64_in _ (by omega)
        have hw2 : IntKind.i64.wrap (b + t) = b + t := IntWalk.i64_in _ (by omega)
        go_wp2
        go_quiet (fail)
        go_wp2
        clear hw1 hw2
        refine bodyPost_ret (v := .tuple #[.agg #[.int .i64 0, .int .i64 0, .bool false], .bool false]) (by simp [results, Try.results89, go_sem]) rfl ?_
        exact ⟨rfl, by first | exact (((below_drewN (by go_grown) _).setCell (by first | (simp; done) | (simp; omega)) _).setCell (by first | (simp; done) | (simp; omega)) _).setCell (by first | (simp; done) | (simp; omega)) _ | exact below_drewN (by go_grown) _⟩
  · skip
    have hL : (if a < b then b else a) = a := if_neg c1
    by_cases c2 : b + t < a + s
    · skip
      have hH : (if b + t < a + s then b + t else a + s) = (b + t) := if_pos c2
      by_cases c3 : a < (b + t)
      · skip
        obtain ⟨e1, e2⟩ := meetV_yes (u := u) (v := v) hL hH c3
        rw [e1, e2]
        clear e1 e2 hL hH
        cases u
        · skip
          go_enter Try.func89, Try.ntmps89
          have hw1 : IntKind.i64.wrap (a + s) = a + s := IntWalk.i64_in _ (by omega)
          have hw2 : IntKind.i64.wrap (b + t) = b + t := IntWalk.i64_in _ (by omega)
          go_wp2
          go_quiet (fail)
          go_wp2
          clear hw1 hw2
          refine bodyPost_ret (v := .tuple #[.agg #[.int .i64 a, .int .i64 ((b + t) - a), .bool false], .bool true]) (by simp [results, Try.results89, go_sem]) rfl ?_
          exact ⟨rfl, by first | exact (((below_drewN (by go_grown) _).setCell (by first | (simp; done) | (simp; omega)) _).setCell (by first | (simp; done) | (simp; omega)) _).setCell (by first | (simp; done) | (simp; omega)) _ | exact below_drewN (by go_grown) _⟩
        · skip
          go_enter Try.func89, Try.ntmps89
          have hw1 : IntKind.i64.wrap (a + s) = a + s := IntWalk.i64_in _ (by omega)
          have hw2 : IntKind.i64.wrap (b + t) = b + t := IntWalk.i64_in _ (by omega)
          go_wp2
          go_quiet (fail)
          go_wp2
          clear hw1 hw2
          refine bodyPost_ret (v := .tuple #[.agg #[.int .i64 a, .int .i64 ((b + t) - a), .bool v], .bool true]) (by simp [results, Try.results89, go_sem]) rfl ?_
          exact ⟨rfl, by first | exact (((below_drewN (by go_grown) _).setCell (by first | (simp; done) | (simp; omega)) _).setCell (by first | (simp; done) | (simp; omega)) _).setCell (by first | (simp; done) | (simp; omega)) _ | exact below_drewN (by go_grown) _⟩
      · skip
        obtain ⟨e1, e2⟩ := meetV_no (u := u) (v := v) hL hH (by omega)
        rw [e1, e2]
        clear e1 e2 hL hH
        go_enter Try.func89, Try.ntmps89
        have hw1 : IntKind.i64.wrap (a + s) = a + s := IntWalk.i64_in _ (by omega)
        have hw2 : IntKind.i64.wrap (b + t) = b + t := IntWalk.i64_in _ (by omega)
        go_wp2
        go_quiet (fail)
        go_wp2
        clear hw1 hw2
        refine bodyPost_ret (v := .tuple #[.agg #[.int .i64 0, .int .i64 0, .bool false], .bool false]) (by simp [results, Try.results89, go_sem]) rfl ?_
        exact ⟨rfl, by first | exact (((below_drewN (by go_grown) _).setCell (by first | (simp; done) | (simp; omega)) _).setCell (by first | (simp; done) | (simp; omega)) _).setCell (by first | (simp; done) | (simp; omega)) _ | exact below_drewN (by go_grown) _⟩
    · skip
      have hH : (if b + t < a + s then b + t else a + s) = (a + s) := if_neg c2
      by_cases c3 : a < (a + s)
      · skip
        obtain ⟨e1, e2⟩ := meetV_yes (u := u) (v := v) hL hH c3
        rw [e1, e2]
        clear e1 e2 hL hH
        cases u
        · skip
          go_enter Try.func89, Try.ntmps89
          have hw1 : IntKind.i64.wrap (a + s) = a + s := IntWalk.i64_in _ (by omega)
          have hw2 : IntKind.i64.wrap (b + t) = b + t := IntWalk.i64_in _ (by omega)
          go_wp2
          go_quiet (fail)
          go_wp2
          clear hw1 hw2
          refine bodyPost_ret (v := .tuple #[.agg #[.int .i64 a, .int .i64 ((a + s) - a), .bool false], .bool true]) (by simp [results, Try.results89, go_sem]) rfl ?_
          exact ⟨rfl, by first | exact (((below_drewN (by go_grown) _).setCell (by first | (simp; done) | (simp; omega)) _).setCell (by first | (simp; done) | (simp; omega)) _).setCell (by first | (simp; done) | (simp; omega)) _ | exact below_drewN (by go_grown) _⟩
        · skip
          go_enter Try.func89, Try.ntmps89
          have hw1 : IntKind.i64.wrap (a + s) = a + s := IntWalk.i64_in _ (by omega)
          have hw2 : IntKind.i64.wrap (b + t) = b + t := IntWalk.i64_in _ (by omega)
          go_wp2
          go_quiet (fail)
          go_wp2
          clear hw1 hw2
          refine bodyPost_ret (v := .tuple #[.agg #[.int .i64 a, .int .i64 ((a + s) - a), .bool v], .bool true]) (by simp [results, Try.results89, go_sem]) rfl ?_
          exact ⟨rfl, by first | exact (((below_drewN (by go_grown) _).setCell (by first | (simp; done) | (simp; omega)) _).setCell (by first | (simp; done) | (simp; omega)) _).setCell (by first | (simp; done) | (simp; omega)) _ | exact below_drewN (by go_grown) _⟩
      · skip
        exfalso; omega
end Go.Proofs.Ytlckjhbgdbhdmaa
