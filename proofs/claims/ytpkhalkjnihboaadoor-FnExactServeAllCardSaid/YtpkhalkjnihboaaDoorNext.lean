/-
  PLAIN LAWS of interrupt lines: which is served next.
  Conditions: none.
-/
import Derived.Test.YtpkhalkjnihboaaDoorLines
import Derived.Test.YtpkhalkjnihboaaDoorSlices
import Derived.Deep.RegionHeld3
import Derived.Shelf.Spec.TrailingZeros
namespace Go.Proofs.YtpkhalkjnihboaaDoor
open Go.ChangeShapes Go.WideShapes Go.ChangeAt Go.RowKit Go.Joins
set_option linter.unusedVariables false

/-- a without the bits of b -/
def an (a b : Nat) : Nat := (BitVec.ofNat 64 a &&& ~~~BitVec.ofNat 64 b).toNat
theorem an_bit (a b i : Nat) : (an a b).testBit i = (decide (i < 64) && (a.testBit i && !b.testBit i)) := by
  unfold an
  rw [BitVec.testBit_toNat]
  simp only [BitVec.getLsbD_and, BitVec.getLsbD_not, BitVec.getLsbD_ofNat]
  by_cases h : i < 64 <;> simp [h]
theorem an_le {a : Nat} (b : Nat) (ha : a < 18446744073709551616) : an a b ≤ a := by
  unfold an
  rw [BitVec.toNat_and, BitVec.toNat_ofNat, Nat.mod_eq_of_lt (by omega)]
  exact Nat.and_le_left
theorem an_an (a b c : Nat) : an (an a b) c = an (an a c) b := by
  apply Nat.eq_of_testBit_eq
  intro i
  rw [an_bit, an_bit, an_bit, an_bit]
  cases decide (i < 64) <;> cases a.testBit i <;> cases b.testBit i <;> cases c.testBit i <;> rfl
theorem bits_an {a b : Nat} (ha : a < 9223372036854775808) (hb : b < 18446744073709551616) : bits BinOp.andNot IntKind.i64 (a : Int) (b : Int) = (an a b : Int) := by
  have h1 : BitVec.ofInt 64 (a : Int) = BitVec.ofNat 64 a := BitVec.ofInt_natCast ..
  have h2 : BitVec.ofInt 64 (b : Int) = BitVec.ofNat 64 b := BitVec.ofInt_natCast ..
  have h3 := an_le (a := a) b (by omega)
  show IntKind.i64.wrap ((BitVec.ofInt 64 (a : Int) &&& ~~~BitVec.ofInt 64 (b : Int)).toNat : Int) = _
  rw [h1, h2]
  exact IntWalk.i64_in _ (by unfold an at h3; omega)
def pc (o : Nat) : Nat := ((List.range 8).filter o.testBit).length
theorem ctz_hitB : ((List.range 256).all fun o => (List.range 8).all fun n => !(o.testBit n && (List.range n).all fun i => !o.testBit i) || (o != 0 && Lib.ctz 64 o == n)) = true := by decide +kernel
theorem ctz_hit {o n : Nat} (ho : o < 256) (hn : n < 8) (h1 : o.testBit n = true) (h2 : ∀ i < n, o.testBit i = false) : o ≠ 0 ∧ Lib.ctz 64 o = n := by
  have h := List.all_eq_true.1 (List.all_eq_true.1 ctz_hitB o (List.mem_range.2 ho)) n (List.mem_range.2 hn)
  have h3 : ((List.range n).all fun i => !o.testBit i) = true := List.all_eq_true.2 fun i hi => by rw [h2 i (List.mem_range.1 hi)]; rfl
  rw [h1, h3] at h
  simpa using h
theorem none_hitB : ((List.range 256).all fun o => !((List.range 8).all fun i => !o.testBit i) || o == 0) = true := by decide +kernel
theorem none_hit {o : Nat} (ho : o < 256) (h2 : ∀ i < 8, o.testBit i = false) : o = 0 := by
  have h := List.all_eq_true.1 none_hitB o (List.mem_range.2 ho)
  have h3 : ((List.range 8).all fun i => !o.testBit i) = true := List.all_eq_true.2 fun i hi => by rw [h2 i (List.mem_range.1 hi)]; rfl
  rw [h3] at h
  simpa using h
theorem pc_next : ∀ o < 256, o ≠ 0 → pc (an o (2 ^ Lib.ctz 64 o)) + 1 = pc o ∧ Lib.ctz 64 o < 8 := by decide +kernel
theorem pc_le : ∀ o < 256, pc o ≤ 8 := by decide +kernel
theorem pc_zero : pc 0 = 0 := by decide
theorem bitT (a k : Nat) : ((a : Int) / 2 ^ k).tmod 2 = 1 ↔ a.testBit k = true := by
  have e : ((a : Int) / 2 ^ k) = ((a / 2 ^ k : Nat) : Int) := by norm_cast
  rw [e, Nat.testBit_eq_decide_div_mod_eq]
  generalize a / 2 ^ k = q
  rw [Int.tmod_eq_emod_of_nonneg (by omega)]
  simp only [decide_eq_true_eq]
  omega
theorem bitF (a k : Nat) : (((a : Int) / 2 ^ k).tmod 2 == 0) = !a.testBit k := by
  have e : ((a : Int) / 2 ^ k) = ((a / 2 ^ k : Nat) : Int) := by norm_cast
  rw [e, Nat.testBit_eq_decide_div_mod_eq]
  generalize a / 2 ^ k = q
  rw [Int.tmod_eq_emod_of_nonneg (by omega), Bool.eq_iff_iff]
  simp only [beq_iff_eq, Bool.not_eq_true', decide_eq_false_iff_not]
  omega
/-- the lines that are raised and not masked -/
def opn (r m : Int) : Nat := an r.toNat m.toNat
def nlV (r m : Int) : Int := if linesValid r m = true then (if opn r m = 0 then -1 else (Lib.ctz 64 (opn r m) : Int)) else -1
def svR (r m : Int) : Int := if linesValid r m = true then (if 0 ≤ nlV r m then bits BinOp.andNot IntKind.i64 r (wrap64 (2 ^ (nlV r m).toNat)) else r) else 0
def svM (r m : Int) : Int := if linesValid r m = true then m else 0
theorem valid_nat {r m : Int} (h : linesValid r m = true) : ∃ a b : Nat, r = (a : Int) ∧ m = (b : Int) ∧ a < 256 ∧ b < 256 := by
  unfold linesValid at h
  rw [Bool.and_eq_true] at h
  have h1 := inB_true.1 h.1
  have h2 := inB_true.1 h.2
  exact ⟨r.toNat, m.toNat, by omega, by omega, by omega, by omega⟩
theorem valid_mk {a b : Nat} (ha : a < 256) (hb : b < 256) : linesValid (a : Int) (b : Int) = true := by
  unfold linesValid
  rw [inB_true.2 ⟨by omega, by omega⟩, inB_true.2 ⟨by omega, by omega⟩]; rfl
theorem opn_nat (a b : Nat) : opn (a : Int) (b : Int) = an a b := by unfold opn; rw [Int.toNat_natCast, Int.toNat_natCast]
theorem opn_lt {r m : Int} (h : linesValid r m = true) : opn r m < 256 := by
  obtain ⟨a, b, rfl, rfl, ha, hb⟩ := valid_nat h
  rw [opn_nat]
  have := an_le (a := a) b (by omega)
  omega
theorem nlV_no {r m : Int} (h : linesValid r m = false) : nlV r m = -1 := by unfold nlV; rw [if_neg (by rw [h]; simp)]
theorem nlV_zero {r m : Int} (h : opn r m = 0) : nlV r m = -1 := by unfold nlV; rw [if_pos h, ite_self]
theorem nlV_some {r m : Int} (h : linesValid r m = true) (ho : opn r m ≠ 0) : nlV r m = (Lib.ctz 64 (opn r m) : Int) := by unfold nlV; rw [if_pos h, if_neg ho]
theorem nlV_bd {r m : Int} : -1 ≤ nlV r m ∧ nlV r m ≤ 7 := by
  unfold nlV
  split
  · rename_i h
    split
    · omega
    · rename_i ho
      have := (pc_next _ (opn_lt h) ho).2
      omega
  · omega
/-- behind one line that is served -/
theorem serve_next {r m : Int} (h : linesValid r m = true) (hn : 0 ≤ nlV r m) : linesValid (svR r m) m = true ∧ pc (opn (svR r m) m) + 1 = pc (opn r m) := by
  have ho : opn r m ≠ 0 := by intro e; rw [nlV_zero e] at hn; omega
  have hv := nlV_some h ho
  obtain ⟨hp, hc⟩ := pc_next _ (opn_lt h) ho
  have e1 : svR r m = bits BinOp.andNot IntKind.i64 r (wrap64 (2 ^ Lib.ctz 64 (opn r m))) := by unfold svR; rw [if_pos h, if_pos hn, hv, Int.toNat_natCast]
  have e2 : wrap64 (2 ^ Lib.ctz 64 (opn r m)) = ((2 ^ Lib.ctz 64 (opn r m) : Nat) : Int) := by
    have h2 : 2 ^ Lib.ctz 64 (opn r m) ≤ 2 ^ 7 := Nat.pow_le_pow_right (by decide) (by omega)
    have h3 : ((2 : Int) ^ Lib.ctz 64 (opn r m)) = ((2 ^ Lib.ctz 64 (opn r m) : Nat) : Int) := by norm_cast
    rw [h3]
    obtain ⟨P, hP⟩ : ∃ P, P = 2 ^ Lib.ctz 64 (opn r m) := ⟨_, rfl⟩
    rw [← hP] at h2 ⊢
    have h4 : (2 : Nat) ^ 7 = 128 := rfl
    exact IntWalk.wrap64_in _ ⟨by omega, by omega⟩
  obtain ⟨a, b, rfl, rfl, ha, hb⟩ := valid_nat h
  have h2 : 2 ^ Lib.ctz 64 (opn (a : Int) (b : Int)) ≤ 2 ^ 7 := Nat.pow_le_pow_right (by decide) (by omega)
  rw [e1, e2, bits_an (by omega) (by omega)]
  have h4 := an_le (a := a) (2 ^ Lib.ctz 64 (opn (a : Int) (b : Int))) (by omega)
  refine ⟨valid_mk (by omega) hb, ?_⟩
  rw [opn_nat, an_an, ← opn_nat]
  exact hp
/-- the lines that are served, one after the other -/
def sL : Nat → Int → Int → List Int
  | 0, _, _ => []
  | f + 1, r, m => nlV r m :: sL f (svR r m) m
theorem sL_len : ∀ (f : Nat) (r m : Int), (sL f r m).length = f
  | 0, _, _ => rfl
  | f + 1, r, m => by rw [sL, List.length_cons, sL_len f]
def serveL (r m : Int) : List Int := if linesValid r m = true then sL (pc (opn r m)) r m else []
theorem serveL_len (r m : Int) : (serveL r m).length ≤ 8 := by
  unfold serveL
  split
  · rename_i h
    rw [sL_len]
    exact pc_le _ (opn_lt h)
  · simp
theorem sL_step {r m : Int} (h : linesValid r m = true) (hn : 0 ≤ nlV r m) : sL (pc (opn r m)) r m = nlV r m :: sL (pc (opn (svR r m) m)) (svR r m) m := by
  rw [← (serve_next h hn).2, sL]
theorem sL_stop {r m : Int} (h : linesValid r m = true) (hn : nlV r m < 0) : pc (opn r m) = 0 := by
  have ho : opn r m = 0 := by
    apply Classical.byContradiction
    intro ho
    rw [nlV_some h ho] at hn
    omega
  rw [ho]; exact pc_zero
end Go.Proofs.YtpkhalkjnihboaaDoor
