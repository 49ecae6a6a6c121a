/-
  THE LISTED VARIABLES: what their condition gives the walks; the heap of the door's own run meets it.
  Conditions: none.
-/
import Derived.Test.YtpkhalkjnihboaaDoorServe2
import Derived.LaidMore
import Derived.OpenShut
import Derived.Stop.Joined
namespace Go.Proofs.YtpkhalkjnihboaaDoor
open Go.ChangeShapes Go.WideShapes Go.ChangeAt Go.WideElems Go.RowKit Go.Joins
set_option linter.unusedVariables false

theorem arr_cells {P : Program} {w : World} {t e : TypeId} {fuel : Nat} {cs : List Value} {tab : List Nat} {p : List MemPlace} (ht : P.underlying t = some (.array tab.length e)) (he : P.underlying e = some (.int .u8)) (hC : P.cellsOf e = 1)
    (h : DataW.trod (fun _ => ()) P w 0 (fun _ => true) false fuel t cs = some (.agg (tab.map fun (k : Nat) => .lit (.int .u8 (k : Int))), p)) : ∀ j, j < tab.length → cs[j]? = some (.int .u8 (tab.getD j 0)) := by
  intro j hj
  obtain ⟨xs, m, rfl, hx, hlen, hn, hel⟩ := DataW.trod_array ht h
  simp only [Prod.mk.injEq, DataW.agg.injEq] at hx
  have hxj : xs[j]? = some (xs[j]'(by omega)) := List.getElem?_eq_getElem (by omega)
  have h1 := hel j hj
  rw [hC, Nat.mul_one, hxj] at h1
  obtain ⟨n, e1, e2, _⟩ := DataW.trod_int he h1
  have h3 : (xs.map (·.1))[j]? = some (.lit (.int .u8 n)) := by rw [List.getElem?_map, hxj, Option.map_some, e2]
  rw [← hx.1, List.getElem?_map, List.getElem?_eq_getElem hj, Option.map_some] at h3
  have h4 : ((tab[j] : Nat) : Int) = n := by
    have := Option.some.inj h3
    injection this with this
    injection this
  have h5 : (cs.drop j)[0]? = some (.int .u8 n) := by
    have h6 : ((cs.drop j).take 1)[0]? = some (.int .u8 n) := by rw [e1]; rfl
    rwa [List.getElem?_take, if_pos (by omega)] at h6
  rw [List.getElem?_drop, Nat.add_zero] at h5
  rw [h5, List.getD_eq_getElem?_getD, List.getElem?_eq_getElem hj, ← h4]; rfl
set_option maxRecDepth 100000 in
theorem tab_laid {W : World} (h : laidMetH Tryd.prog Rows.fnExactNextLineRow.laid W) : Tab W := by
  rw [MakeChecks.laidMetH_plain _ _ _ (by kernel_rfl)] at h
  obtain ⟨ps, ⟨g0, t0, cs0, f0, p0, q0, hg0, ht0, hv0, hd0, ⟨g1, t1, cs1, f1, p1, q1, hg1, ht1, hv1, hd1, _, _⟩, _⟩, _, _⟩ := h
  obtain rfl : g1 = 1 := Option.some.inj (hg1.symm.trans (by kernel_rfl))
  obtain rfl : t1 = 45 := Option.some.inj (ht1.symm.trans (by kernel_rfl))
  have h2 := arr_cells (tab := Lib.deBruijn64tab) Tryd.underlying45 Tryd.underlying5 (by kernel_rfl) hd1
  have h3 : ∀ j, j < Lib.deBruijn64tab.length → W.cell? ⟨1, j, none⟩ = some (.int .u8 (Lib.deBruijn64tab.getD j 0)) := fun j hj => by
    rw [World.var?_cell hg1 hv1 j, ← Array.getElem?_toList]
    exact h2 j hj
  exact ⟨World.block_lt_of_cell? W ⟨1, 0, none⟩ (h3 0 (by decide)), h3⟩
set_option maxRecDepth 100000 in
theorem door_met (os : Os) (args : Array Value) : laidMetH Tryd.prog Rows.fnExactNextLineRow.laid ((World.doorLaid Tryd.prog 400 os).forCall (fun _ _ => 0) ⟨#[], args, []⟩).memory :=
  laidMetH_of_parts3 (fuel := 8) (laidMet_of_run' 8 (by kernel_rfl) (by kernel_rfl)) (by kernel_rfl) (by kernel_rfl)
end Go.Proofs.YtpkhalkjnihboaaDoor
