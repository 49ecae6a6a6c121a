/-
  CONTRACTS: math/bits.Mul64, Mul; slices.Repeat of one element.
  Conditions: none beyond those that each states.
-/
import Derived.Test.YtdccgflkhgnflaaSlices
import Derived.Test.YtdccgflkhgnflaaKeep
import Derived.Deep.RegionHeld3
import Derived.Shelf.Bits.Mul64
import Derived.Laws.CopyOwn
namespace Go.Proofs.Ytdccgflkhgnflaa
open Go.ChangeShapes Go.WideShapes Go.ChangeAt Go.RowKit Go.Joins
set_option linter.unusedVariables false

set_option maxRecDepth 100000 in
set_option maxHeartbeats 1000000 in
theorem mul64_any (x y : Nat) (hx : x < 18446744073709551616) (hy : y < 18446744073709551616) (w : World) :
    Calls Try.prog 49 #[.int .u64 x, .int .u64 y] w fun e w' => e = .returned (.tuple #[.int .u64 ((x * y / 18446744073709551616 : Nat) : Int), .int .u64 ((x * y % 18446744073709551616 : Nat) : Int)]) ∧ w' = w := by
  obtain ⟨bd, bt, bw, hhi⟩ := Lib.mul64_hi x y hx hy
  have ba := Lib.half_mul_le (a := x / 4294967296) (b := y / 4294967296) (by omega) (by omega)
  have bb := Lib.half_mul_le (a := x / 4294967296) (b := y % 4294967296) (by omega) (by omega)
  have bc := Lib.half_mul_le (a := x % 4294967296) (b := y / 4294967296) (by omega) (by omega)
  have ba' : x / 4294967296 * (y / 4294967296) < 18446744073709551616 := by omega
  have bb' : x / 4294967296 * (y % 4294967296) < 18446744073709551616 := by omega
  have bc' : x % 4294967296 * (y / 4294967296) < 18446744073709551616 := by omega
  have bh1 : x / 4294967296 * (y / 4294967296) + (x / 4294967296 * (y % 4294967296) + x % 4294967296 * (y % 4294967296) / 4294967296) / 4294967296 < 18446744073709551616 := by omega
  have bh : x / 4294967296 * (y / 4294967296) + (x / 4294967296 * (y % 4294967296) + x % 4294967296 * (y % 4294967296) / 4294967296) / 4294967296 + ((x / 4294967296 * (y % 4294967296) + x % 4294967296 * (y % 4294967296) / 4294967296) % 4294967296 + x % 4294967296 * (y / 4294967296)) / 4294967296 < 18446744073709551616 := by omega
  go_enter Try.func49, Try.ntmps49
  go_wp2
  simp only [Mul64.maskN x hx, Mul64.maskN y hy, Mul64.divN, Mul64.mulN, Mul64.addN, Mul64.wrapN _ bd, Mul64.wrapN _ bb', Mul64.wrapN _ bt, Mul64.maskN _ bt, Mul64.wrapN _ bc', Mul64.wrapN _ bw, Mul64.wrapN _ ba', Mul64.wrapN _ bh1, Mul64.wrapN _ bh, Mul64.wrapM (x * y)]
  rw [hhi]
  go_returns
  exact ⟨rfl, rfl⟩
set_option maxRecDepth 100000 in
set_option maxHeartbeats 1000000 in
theorem mul_one (n : Nat) (hn : n ≤ 20) (w : World) :
    Calls Try.prog 45 #[.int .u64 1, .int .u64 (n : Int)] w fun e w' => e = .returned (.tuple #[.int .u64 0, .int .u64 (n : Int)]) ∧ w = w' := by
  have h := Lib.hid (mul64_any 1 n (by omega) (by omega) w)
  have e1 : 1 * n / 18446744073709551616 = 0 := by omega
  have e2 : 1 * n % 18446744073709551616 = n := by omega
  go_enter Try.func45, Try.ntmps45
  go_wp2_with (go_at_call 49; refine h.out.mono ?_; rw [e1, e2]; rintro e w1 ⟨rfl, rfl⟩)
  go_returns
  exact ⟨rfl, rfl⟩

theorem splice_fill {x : Int} {ys : List Int} {n bp q : Nat} (hl : ys.length = n) (ht : ys.take bp = List.replicate bp x) (hq : bp + q ≤ n) :
    splice (ints ys) bp (ints (List.replicate q x)) = ints (ys.take bp ++ (List.replicate q x ++ ys.drop (bp + q))) := by
  simp [splice, ints]
theorem fill_len {x : Int} {ys : List Int} {n bp q : Nat} (hl : ys.length = n) (hq : bp + q ≤ n) : (ys.take bp ++ (List.replicate q x ++ ys.drop (bp + q))).length = n := by
  simp; omega
theorem fill_take {x : Int} {ys : List Int} {n bp q : Nat} (hl : ys.length = n) (ht : ys.take bp = List.replicate bp x) (hq : bp + q ≤ n) :
    (ys.take bp ++ (List.replicate q x ++ ys.drop (bp + q))).take (bp + q) = List.replicate (bp + q) x := by
  rw [ht, ← List.append_assoc, List.replicate_append_replicate, List.take_append_of_le_length (by simp), List.take_of_length_le (by simp)]
set_option maxRecDepth 100000 in
set_option maxHeartbeats 2000000 in
theorem repeat_any (x : Int) (n b : Nat) (h1 : 1 ≤ n) (h20 : n ≤ 20) (w : World) (hb : b < w.heap.size) (hc : w.cell? ⟨b, 0, none⟩ = some (.int .i64 x)) :
    Calls Try.prog 38 #[.slice (some ⟨b, 0, none⟩) 1 1, .int .i64 (n : Int)] w fun e w' => ∃ g, e = .returned (.slice (some ⟨g, 0, none⟩) n n) ∧
      w'.ownsRow w.heap.size 3 1 (.slice (some ⟨g, 0, none⟩) n n) n (ints (List.replicate n x)) ∧ Below w.heap.size w w' := by
  obtain ⟨i0, hi, hz0, hz1, hz2⟩ := info_parts Try.infoInt
  have hn0 : ¬ (n : Int) < 0 := by omega
  have hd9 : decide (9223372036854775807 < (n : Int)) = false := by simp; omega
  have hsz : (Try.prog.info? 3).map (·.size) = some 1 := by rw [hi]; simp [hz1]
  have hcs : (ints (List.replicate 1 x)).length = 1 := by simp [ints]
  have hnt : Nat.min 1 n = 1 := Nat.min_eq_left h1
  go_enter Try.func38, Try.ntmps38
  go_wp2_with (first
    | (go_at_call 45; refine (mul_one n h20 _).mono ?_; rintro e w1 ⟨rfl, rfl⟩)
    | (at_make; refine wpList_make_full _ rfl _ _ 25 rfl w.heap.size 3 i0 (.int .i64 0) 1 Try.underlying25 hi hz0 hz1 _ _ _ _ n rfl rfl rfl rfl (by rw [hz2]; omega) (by unfold maxLen; omega) (Nat.le_refl _) ?_; intro w0 hown0 hgrow0)
    | (show wpList _ _ _ (Oper.mk (some 33) _ _ _ _ _ :: _) _ _; skip
       have hown1 : w0.ownsRow w.heap.size 3 1 (.slice (some ⟨w.heap.size, 0, none⟩) n n) n (ints (List.replicate n 0)) := (by first | rwa [made_ints] at hown0 | rwa [made_ints2] at hown0)
       have hb0 : Below w.heap.size w w0 := (Below.refl _ _).grown hgrow0 (Nat.le_refl _) (fun k h => by cases h)
       obtain ⟨cur, hg0, hcur⟩ : ∃ cur : Array Value, w0.heap[w.heap.size]? = some (.cells cur 3 (0, 0)) ∧ cur.toList = ints (List.replicate n 0) := (by
         rcases hown1.2 with ⟨h, _⟩ | ⟨g, cap, cur, hv, hbg, hg, hnc, hcm, hcs', htake⟩
         · cases h
         · injection hv with hA hN hC
           injection hA with hA
           injection hA with hA
           subst hA
           subst hC
           refine ⟨cur, hg, ?_⟩
           rw [← htake, List.take_of_length_le]
           simp [hcs'])
       have hg1 : w0.heap[w.heap.size]? = some (.cells (ints (List.replicate n 0)).toArray 3 (0, 0)) := (by rw [hg0, ← hcur])
       refine wpList_copy_splice rfl _ _ _ _ rfl 3 Try.underlying25 hsz _ _ _ _ _ _ rfl rfl w.heap.size 0 (ints (List.replicate n 0)) 3 hg1 (ints (List.replicate 1 x)) (by rw [hcs, hnt]) (fun _ => ⟨rfl, _, rfl, fun j v hj => ?_⟩) (by simp [ints]; omega) (ints_one _) w.heap.size w hb0 (Nat.le_refl _) ?_
       · match j, hj with
         | 0, hj => simp [ints] at hj; subst hj; exact (hb0.cell (p := ⟨b, 0, none⟩) hb).trans hc
         | j + 1, hj => simp [ints] at hj
       intro w2 hg2 hb2
       rw [hcs]
       clear hg1 hcur hg0 hb0 hown1 hown0 hgrow0))
  clear hc
  go_loopw [8] (fun i wr => ∃ (bp : Nat) (ys : List Int), 1 ≤ bp ∧ bp ≤ n ∧ i = .int .i64 bp ∧ Hid (ys.length = n) ∧ Hid (ys.take bp = List.replicate bp x) ∧ Hid (wr.heap[w.heap.size]? = some (.cells (ints ys).toArray 3 (0, 0))) ∧ Below w.heap.size w wr) (fun i _ => n - (intOf i).toNat)
  case atStart =>
    have hg3 := hg2.out
    rw [splice_fill (n := n) (by simp) (by simp) (by omega)] at hg3
    exact ⟨1, _, Nat.le_refl _, h1, rfl, fill_len (n := n) (by simp) (by omega), by show _ = _; have h := fill_take (x := x) (ys := List.replicate n 0) (n := n) (bp := 0) (q := 1) (by simp) (by simp) (by omega); rwa [Nat.zero_add] at h, hg3, hb2⟩
  case round =>
    obtain ⟨bp, ys, hb1, hbn, rfl, HL, HT, HG, hb⟩ := hrel
    clear hg2 hb2
    have hs := hb.size
    by_cases hlt : bp < n
    · obtain ⟨q, hq⟩ : ∃ q, q = Nat.min bp (n - bp) := ⟨_, rfl⟩
      have hq1 : 1 ≤ q := by rw [hq]; exact Nat.le_min.2 ⟨hb1, by omega⟩
      have hq2 : bp + q ≤ n := by have := Nat.min_le_right bp (n - bp); rw [← show q = min bp (n - bp) from hq] at this; omega
      have hq3 : q ≤ bp := by rw [hq]; exact Nat.min_le_left _ _
      have HQ := Lib.hid hq
      have hcq : (ints (List.replicate q x)).length = q := by simp [ints]
      have HW : Hid (∀ j v, (ints (List.replicate q x))[j]? = some v → wr.cell? ((⟨w.heap.size, 0, none⟩ : Addr).add j) = some v) := by
        intro j v hj
        rw [Addr.add_lit, Nat.zero_add, cell_of_row wr w.heap.size j _ _ _ HG.out]
        have hjq : j < q := by have := (List.getElem?_eq_some_iff.1 hj).1; rwa [hcq] at this
        have e : ys[j]? = some x := by
          have h := congrArg (fun l => l[j]?) HT.out
          simp only [List.getElem?_take] at h
          rw [if_pos (by omega), List.getElem?_replicate, if_pos (by omega)] at h
          exact h
        simp [ints, hjq] at hj
        simp [ints, e, hj]
      clear hq
      have hne : ¬ n = bp := by omega
      have hwr : IntKind.i64.wrap ((bp : Int) + (q : Int)) = ((bp + q : Nat) : Int) := by rw [IntKind.wrap_i64]; omega
      go_wp2
      go_region_held3 (fun _ => True) (trivial) ((refine step_copy_splice (by rfl) (.tmp 41) (.tmp 44) 25 25 (by rfl) 3 Try.underlying25 hsz (some ⟨w.heap.size, bp, none⟩) (some ⟨w.heap.size, 0, none⟩) (n - bp) (n - bp) bp n (by rfl) (by rfl) w.heap.size bp (ints ys) 3 (HG.out) (ints (List.replicate q x)) (by rw [hcq]; exact HQ.out) (fun _ => ⟨rfl, ⟨w.heap.size, 0, none⟩, rfl, HW.out⟩) (by rw [hcq, show (ints ys).length = n by simp [ints, HL.out]]; omega) (ints_one _) w.heap.size w (hb.drew) (Nat.le_refl _) ?_; intro w3 hg3 hb3; rw [hcq]))
      have hg4 := hg3.out
      rw [splice_fill HL.out HT.out hq2] at hg4
      clear hg3
      go_wp2
      go_roundw
      case rel => exact ⟨bp + q, _, by omega, hq2, by go_num, fill_len HL.out hq2, fill_take HL.out HT.out hq2, hg4, hb3⟩
      case measure => simp [intOf]; omega
    · have hkn : bp = n := by omega
      subst hkn
      go_wp2
      go_ret
      have ht := HT.out
      rw [List.take_of_length_le (by have := HL.out; omega)] at ht
      refine ⟨_, rfl, ⟨by simp [ints], .inr ⟨w.heap.size, bp, _, rfl, Nat.le_refl _, HG.out, Nat.le_refl _, by unfold maxLen; omega, by rw [ht]; simp [ints], by rw [ht]; simp [ints]⟩⟩, hb⟩
end Go.Proofs.Ytdccgflkhgnflaa
