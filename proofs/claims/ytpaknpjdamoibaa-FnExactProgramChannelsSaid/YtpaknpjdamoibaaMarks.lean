/-
  CONTRACTS of the laws' own helpers that write marks into a slice and look for them again; the frame 'Touch'.
  Conditions: none beyond those that each states.
-/
import Derived.Test.YtpaknpjdamoibaaFuncs
namespace Go.Proofs.Ytpaknpjdamoibaa
open Go.ChangeShapes Go.WideShapes Go.ChangeAt Go.RowKit Go.Joins
set_option linter.unusedVariables false

/-- only blocks lo .. hi-1 and new ones may have turned -/
structure Touch (lo hi : Nat) (w w' : World) : Prop where
  os : w'.os = w.os
  tape : w'.tape = w.tape
  output : w'.output = w.output
  size : w.heap.size ≤ w'.heap.size
  block : ∀ k, k < w.heap.size → (k < lo ∨ hi ≤ k) → w'.heap[k]? = w.heap[k]?
theorem Touch.refl (lo hi : Nat) (w : World) : Touch lo hi w w := ⟨rfl, rfl, rfl, Nat.le_refl _, fun _ _ _ => rfl⟩
theorem Touch.trans {lo hi : Nat} {a b c : World} (h : Touch lo hi a b) (k : Touch lo hi b c) : Touch lo hi a c :=
  ⟨k.os.trans h.os, k.tape.trans h.tape, k.output.trans h.output, Nat.le_trans h.size k.size, fun i hi1 hi2 => (k.block i (Nat.lt_of_lt_of_le hi1 h.size) hi2).trans (h.block i hi1 hi2)⟩
theorem Touch.wide {lo hi lo' hi' : Nat} {a b : World} (h : Touch lo hi a b) (h1 : lo' ≤ lo) (h2 : hi ≤ hi') : Touch lo' hi' a b := ⟨h.os, h.tape, h.output, h.size, fun i hi1 hi2 => h.block i hi1 (by omega)⟩
theorem Touch.of_grown {lo hi : Nat} {w w' : World} {row : Option Nat} (h : w.grownBy w' row) (hr : ∀ g, row = some g → lo ≤ g ∧ g < hi) : Touch lo hi w w' :=
  ⟨h.os, h.tape, h.output, h.size, fun k h1 h2 => h.block k h1 (fun e => by have := hr k e.symm; omega)⟩
theorem Touch.of_below {lo hi B : Nat} {w w' : World} (h : Below B w w') (hB : w.heap.size ≤ B) : Touch lo hi w w' := ⟨h.os, h.tape, h.output, h.size, fun k h1 _ => h.block k (by omega)⟩
theorem Touch.below {lo hi B : Nat} {w w' : World} (h : Touch lo hi w w') (hB : B ≤ lo) (hs : B ≤ w.heap.size) : Below B w w' := ⟨h.os, h.tape, h.output, h.size, fun k hk => h.block k (by omega) (.inl (by omega))⟩
theorem Touch.drewN {lo hi : Nat} {a w : World} (h : Touch lo hi a w) (n : Nat) : Touch lo hi a (w.drewN n) := ⟨h.os, h.tape, h.output, h.size, h.block⟩
theorem Touch.setCell {lo hi : Nat} {a w : World} (h : Touch lo hi a w) {p : Addr} (h1 : lo ≤ p.block) (h2 : p.block < hi) (u : Value) : Touch lo hi a (w.setCell p u) :=
  h.trans ⟨rfl, rfl, rfl, by simp [World.setCell], fun k _ hk => Below.heap_setCell _ _ _ _ (by omega)⟩
theorem Touch.cell {lo hi : Nat} {w w' : World} (h : Touch lo hi w w') {p : Addr} (hp : p.block < w.heap.size) (ho : p.block < lo ∨ hi ≤ p.block) : w'.cell? p = w.cell? p := World.cell?_of_block (w := w) (h.block p.block hp ho)
theorem Touch.own {lo hi : Nat} {w w' : World} (h : Touch lo hi w w') {base : Nat} {e : TypeId} {size : Nat} {v : Value} {n : Nat} {xs : List Value} (ho : w.ownsRow base e size v n xs)
    (hd : ∀ g, v.ownBlock = some g → g < lo ∨ hi ≤ g) : w'.ownsRow base e size v n xs := by
  refine ⟨ho.1, ?_⟩
  rcases ho.2 with h2 | ⟨g, cap, cur, hv, hg, hh, r⟩
  · exact Or.inl h2
  · exact Or.inr ⟨g, cap, cur, hv, hg, by rw [h.block g (Array.getElem?_eq_some_iff.1 hh).1 (hd g (by rw [hv]; rfl))]; exact hh, r⟩
/-- what is owned stays owned behind a call of which 'Below' is known -/
theorem own_below {w w' : World} {B base : Nat} {e : TypeId} {size : Nat} {v : Value} {n : Nat} {xs : List Value} (h : Below B w w') (hB : w.heap.size ≤ B) (ho : w.ownsRow base e size v n xs) : w'.ownsRow base e size v n xs :=
  (Touch.of_below (lo := 0) (hi := 0) h hB).own ho (fun _ _ => .inr (Nat.zero_le _))

/-- THE WORD for a slice of one's own: n elements xs at the head of a block from lo on and below hi, not frozen. (Of an empty one nothing is said.) -/
def Fr (w : World) (lo hi : Nat) (e : TypeId) (size : Nat) (A : Option Addr) (n : Nat) (xs : List Value) : Prop :=
  xs.length = n * size ∧ (0 < n → ∃ g cur, A = some ⟨g, 0, none⟩ ∧ lo ≤ g ∧ g < hi ∧ w.heap[g]? = some (.cells cur e (0, 0)) ∧ n * size ≤ cur.size ∧ cur.toList.take (n * size) = xs)

section
variable {w w' : World} {lo hi : Nat} {e : TypeId} {size : Nat} {A : Option Addr} {n : Nat} {xs : List Value}
theorem Fr.nil_ : Fr w lo hi e size A 0 [] := ⟨by simp, fun h => absurd h (by omega)⟩
theorem Fr.of_own {base c : Nat} (h : w.ownsRow base e size (.slice A n c) n xs) : Fr w base w.heap.size e size A n xs := by
  refine ⟨h.1, fun hn => ?_⟩
  rcases h.2 with ⟨_, h0⟩ | ⟨g, cap, cur, hv, hb, hg, hnc, hcm, hcs, htake⟩
  · omega
  · injection hv with hA
    exact ⟨g, cur, hA, hb, (Array.getElem?_eq_some_iff.1 hg).1, hg, by rw [hcs]; exact Nat.mul_le_mul_right _ hnc, htake⟩
theorem Fr.wide {lo' hi' : Nat} (h : Fr w lo hi e size A n xs) (h1 : lo' ≤ lo) (h2 : hi ≤ hi') : Fr w lo' hi' e size A n xs :=
  ⟨h.1, fun hn => by
    obtain ⟨g, cur, hA, hlo, hhi, r⟩ := h.2 hn
    exact ⟨g, cur, hA, by omega, by omega, r⟩⟩
theorem Fr.rd (h : Fr w lo hi e size A n xs) : Rd w size A n xs := by
  refine ⟨h.1, fun hn => ?_⟩
  obtain ⟨g, cur, hA, hlo, hhi, hg, hs, htake⟩ := h.2 hn
  refine ⟨g, 0, hA, (Array.getElem?_eq_some_iff.1 hg).1, fun j u hu => ?_⟩
  rw [Nat.zero_add, cell_of_row w g j cur e (0, 0) hg]
  rw [← htake, List.getElem?_take] at hu
  split at hu
  · simpa using hu
  · cases hu
theorem Fr.use (h : Fr w lo hi e size A n xs) (hn : 0 < n) : ∃ g, A = some ⟨g, 0, none⟩ ∧ lo ≤ g ∧ g < hi ∧ (∀ j u, xs[j]? = some u → w.cell? ⟨g, j, none⟩ = some u) ∧ (∀ j, w.frozen? ⟨g, j, none⟩ = false) ∧
    (∀ j u, Fr (w.setCell ⟨g, j, none⟩ u) lo hi e size A n (xs.set j u)) := by
  obtain ⟨g, cur, hA, hlo, hhi, hg, hs, htake⟩ := h.2 hn
  refine ⟨g, hA, hlo, hhi, fun j u hu => ?_, fun j => frozen_of_row w g j cur e hg, fun j u => ⟨by simpa using h.1, fun _ => ⟨g, cur.setIfInBounds j u, hA, hlo, hhi, heap_setCell_same w g j cur e u hg, by simpa using hs, ?_⟩⟩⟩
  · rw [cell_of_row w g j cur e (0, 0) hg]
    rw [← htake, List.getElem?_take] at hu
    split at hu
    · simpa using hu
    · cases hu
  · rw [Array.toList_setIfInBounds, ← htake, List.take_set]
theorem Fr.keep (h : Fr w lo hi e size A n xs) (hk : ∀ g, lo ≤ g → g < hi → g < w.heap.size → w'.heap[g]? = w.heap[g]?) : Fr w' lo hi e size A n xs :=
  ⟨h.1, fun hn => by
    obtain ⟨g, cur, hA, hlo, hhi, hg, r⟩ := h.2 hn
    exact ⟨g, cur, hA, hlo, hhi, by rw [hk g hlo hhi (Array.getElem?_eq_some_iff.1 hg).1]; exact hg, r⟩⟩
theorem Fr.below {B : Nat} (h : Fr w lo hi e size A n xs) (hB : w.heap.size ≤ B) (hb : Below B w w') : Fr w' lo hi e size A n xs := h.keep fun g _ _ hg => hb.block g (by omega)
theorem Fr.touch {lo' hi' : Nat} (h : Fr w lo hi e size A n xs) (ht : Touch lo' hi' w w') (hd : hi ≤ lo' ∨ hi' ≤ lo) : Fr w' lo hi e size A n xs := h.keep fun g h1 h2 hg => ht.block g hg (by omega)
end

theorem Fr.setFar {w : World} {lo hi : Nat} {e : TypeId} {size : Nat} {A : Option Addr} {n : Nat} {xs : List Value} (h : Fr w lo hi e size A n xs) {p : Addr} (hp : p.block < lo ∨ hi ≤ p.block) (u : Value) : Fr (w.setCell p u) lo hi e size A n xs :=
  h.keep fun g h1 h2 _ => Below.heap_setCell w p u g (by omega)
theorem Fr.alloc {w : World} {lo hi : Nat} {e : TypeId} {size : Nat} {A : Option Addr} {n : Nat} {xs : List Value} (h : Fr w lo hi e size A n xs) (o : Obj) : Fr (w.alloc o) lo hi e size A n xs :=
  h.keep fun g _ _ hg => Below.heap_alloc w o g hg
theorem Fr.drewN {w : World} {lo hi : Nat} {e : TypeId} {size : Nat} {A : Option Addr} {n : Nat} {xs : List Value} (h : Fr w lo hi e size A n xs) (k : Nat) : Fr (w.drewN k) lo hi e size A n xs := h
theorem Fr.drew {w : World} {lo hi : Nat} {e : TypeId} {size : Nat} {A : Option Addr} {n : Nat} {xs : List Value} (h : Fr w lo hi e size A n xs) : Fr w.drew lo hi e size A n xs := h
theorem Blk.touch {w w' : World} {g : Nat} {t : TypeId} {cs : Array Value} {lo hi : Nat} (h : Blk w g t cs) (ht : Touch lo hi w w') (hd : g < lo ∨ hi ≤ g) : Blk w' g t cs := (ht.block g h.lt hd).trans h
theorem Rd.setFar {w : World} {size : Nat} {A : Option Addr} {n : Nat} {xs : List Value} (h : Rd w size A n xs) {B : Nat} (hA : ∀ a, A = some a → a.block < B) {p : Addr} (hp : B ≤ p.block) (u : Value) : Rd (w.setCell p u) size A n xs :=
  ⟨h.1, fun hn => by
    obtain ⟨b, o, e, hb, hc⟩ := h.2 hn
    have := hA _ e
    exact ⟨b, o, e, by simpa [World.setCell] using hb, fun j u' hu => (World.cell?_of_block (Below.heap_setCell w p u b (by simp at this; omega))).trans (hc j u' hu)⟩⟩

theorem made_ints2 (n : Nat) : (madeCells #[Value.int IntKind.i64 0] n).toList = ints (List.replicate n 0) := by
  rw [toList_madeCells_one]; simp [ints]
theorem made_ints (n : Nat) : (madeCells (Value.int IntKind.i64 0).cells (n * 1)).toList = ints (List.replicate n 0) := by
  rw [Nat.mul_one]; exact made_ints2 n
/-- what a function gives back that makes a slice of numbers -/
def RetI (w : World) (zs : List Int) (e : Ending) (w' : World) : Prop := ∃ A c, e = .returned (.slice A zs.length c) ∧ Fr w' w.heap.size w'.heap.size 3 1 A zs.length (ints zs) ∧ Below w.heap.size w w'

/-- k, k + 1, .., n of them -/
def marks : Int → Nat → List Int
  | _, 0 => []
  | k, n + 1 => k :: marks (k + 1) n
theorem marks_len : ∀ (n : Nat) (k : Int), (marks k n).length = n
  | 0, _ => rfl
  | n + 1, k => by simp [marks, marks_len n]
theorem marks_at : ∀ (n : Nat) (k : Int) (i : Nat), i < n → (marks k n)[i]? = some (k + i)
  | 0, _, _, h => absurd h (by omega)
  | n + 1, k, 0, _ => by simp [marks]
  | n + 1, k, i + 1, h => by
    rw [marks, List.getElem?_cons_succ, marks_at n (k + 1) i (by omega)]
    congr 1; omega

set_option maxRecDepth 100000 in
set_option maxHeartbeats 400000 in
theorem markIntS_any (A : Option Addr) (n c : Nat) (zs : List Int) (k : Int) (lo hi : Nat) (w : World) (hm : n ≤ 1048577) (h0 : 0 ≤ k) (h1 : k ≤ 1099511627776) (hf : Fr w lo hi 3 1 A n (ints zs)) :
    Calls Try.prog 11 #[.slice A n c, .int .i64 k] w fun e w' => e = .returned (.int .i64 (k + n)) ∧ Fr w' lo hi 3 1 A n (ints (marks k n)) ∧ Touch lo hi w w' := by
  have hlz := Lib.hid (show zs.length = n by have := hf.1; simpa [ints] using this)
  go_enter Try.func11, Try.ntmps11
  go_wp2
  go_loopw [1, 5] (fun kk i wr => ∃ (j : Nat) (ys : List Int), j ≤ n ∧ i = .int .i64 j ∧ kk = .int .i64 (k + j) ∧ ys.length = n ∧ ys.take j = (marks k n).take j ∧ Fr wr lo hi 3 1 A n (ints ys) ∧ Touch lo hi w wr)
    (fun _ i _ => n - (intOf i).toNat)
  case atStart => exact ⟨0, zs, Nat.zero_le _, rfl, by simp, hlz.out, by simp, hf, Touch.refl _ _ _⟩
  case round =>
    obtain ⟨j, ys, hj, rfl, rfl, hyl, hyt, hown, hb⟩ := hrel
    have HY := Lib.hid hyl
    have HT := Lib.hid hyt
    clear hyl hyt
    by_cases hlt : j < n
    · obtain ⟨g, rfl, hlo, hhi, hcells, hfroz, hst⟩ := hown.use (by omega)
      have hyk : j < ys.length := by rw [HY.out]; exact hlt
      have hc2 : wr.cell? ⟨g, j, none⟩ = some (.int .i64 ys[j]) := hcells j _ (by rw [ints_at, List.getElem?_eq_getElem hyk]; rfl)
      have hf2 := hfroz j
      have HS := Lib.hid (hst j (.int .i64 (k + j)))
      have HG := Lib.hid hb
      clear hb hst hcells hfroz
      go_wp2
      go_roundw
      case rel =>
        refine ⟨j + 1, ys.set j (k + j), by omega, by go_num, by go_num, by rw [List.length_set]; exact HY.out, set_take (marks_at n k j hlt) hyk HT.out, ?_, HG.out.setCell hlo hhi _⟩
        have := HS.out
        rwa [ints_set] at this
      case measure => simp [intOf]; omega
    · have hjn : j = n := by omega
      have e : ys = marks k n := take_all HY.out (marks_len n k) (by have ht := HT.out; rw [hjn] at ht; exact ht)
      subst e
      go_wp2
      go_ret
      exact ⟨ret_int (by first | rfl | rw [hjn]), hown, hb⟩
set_option maxRecDepth 100000 in
set_option maxHeartbeats 400000 in
theorem heldIntS_any (A : Option Addr) (n c : Nat) (k : Int) (w : World) (hm : n ≤ 1048577) (h0 : 0 ≤ k) (h1 : k ≤ 1099511627776) (hr : Rd w 1 A n (ints (marks k n))) :
    Calls Try.prog 12 #[.slice A n c, .int .i64 k] w fun e w' => e = .returned (.int .i64 (k + n)) ∧ Below w.heap.size w w' := by
  go_enter Try.func12, Try.ntmps12
  go_wp2
  go_loopw [1, 5] (fun kk i wr => ∃ (j : Nat), j ≤ n ∧ i = .int .i64 j ∧ kk = .int .i64 (k + j) ∧ Below w.heap.size w wr) (fun _ i _ => n - (intOf i).toNat)
  case atStart => exact ⟨0, Nat.zero_le _, rfl, by simp, Below.refl _ _⟩
  case round =>
    obtain ⟨j, hj, rfl, rfl, hb⟩ := hrel
    by_cases hlt : j < n
    · obtain ⟨b, o, x, rfl, hbl, hx, hc⟩ := hr.int_ hlt
      rw [marks_at n k j hlt] at hx
      injection hx with hx
      subst hx
      have hc1 := (hb.cell (p := ⟨b, o + j, none⟩) hbl).trans hc
      clear hc
      go_wp2
      go_roundw
      case rel => exact ⟨j + 1, by omega, by go_num, by go_num, hb⟩
      case measure => simp [intOf]; omega
    · have hjn : j = n := by omega
      go_wp2
      go_ret
      exact ⟨ret_int (by first | rfl | rw [hjn]), hb⟩
end Go.Proofs.Ytpaknpjdamoibaa
