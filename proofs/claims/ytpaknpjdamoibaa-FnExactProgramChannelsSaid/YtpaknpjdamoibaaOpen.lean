/-
  HOW an argument that reads as data stands in memory: slices as lists of rows ('Rd').
  Conditions: none.
-/
import Derived.Test.YtpaknpjdamoibaaBase
namespace Go.Proofs.Ytpaknpjdamoibaa
open Go.ChangeShapes Go.WideShapes Go.ChangeAt Go.RowKit Go.Joins Go.Deep
set_option linter.unusedVariables false

theorem flatten_at {α : Type} {s : Nat} : ∀ (rows : List (List α)), (∀ r ∈ rows, r.length = s) → ∀ (i k : Nat), k < s → rows.flatten[i * s + k]? = (rows[i]?).bind (fun r => r[k]?)
  | [], _, i, k, _ => by simp
  | r :: rows, h, 0, k, hk => by
    have hr := h r (List.mem_cons_self ..)
    simp only [List.flatten_cons, Nat.zero_mul, Nat.zero_add, List.getElem?_cons_zero, Option.bind_some]
    rw [List.getElem?_append_left (by omega)]
  | r :: rows, h, i + 1, k, hk => by
    have hr := h r (List.mem_cons_self ..)
    have ih := flatten_at rows (fun x hx => h x (List.mem_cons_of_mem _ hx)) i k hk
    have e : (i + 1) * s + k = r.length + (i * s + k) := by rw [hr, Nat.add_mul]; omega
    rw [List.flatten_cons, e, List.getElem?_append_right (by omega), List.getElem?_cons_succ, Nat.add_sub_cancel_left, ih]

theorem flatten_length {α : Type} {s : Nat} : ∀ (rows : List (List α)), (∀ r ∈ rows, r.length = s) → rows.flatten.length = rows.length * s
  | [], _ => by simp
  | r :: rows, h => by
    have hr := h r (List.mem_cons_self ..)
    have ih := flatten_length rows (fun x hx => h x (List.mem_cons_of_mem _ hx))
    rw [List.flatten_cons, List.length_append, hr, ih, List.length_cons, Nat.add_mul]; omega

theorem rows_enc {α β : Type} (f : α → β) : ∀ (rows : List β), (∀ r ∈ rows, ∃ x, r = f x) → ∃ xs : List α, rows = xs.map f
  | [], _ => ⟨[], rfl⟩
  | r :: rows, h => by
    obtain ⟨x, hx⟩ := h r (List.mem_cons_self ..)
    obtain ⟨xs, hxs⟩ := rows_enc f rows (fun y hy => h y (List.mem_cons_of_mem _ hy))
    exact ⟨x :: xs, by rw [hx, hxs, List.map_cons]⟩

/-- rows that stand for xs, each by R -/
def Each {α β : Type} (R : β → α → Prop) : List β → List α → Prop
  | [], [] => True
  | r :: rs, x :: xs => R r x ∧ Each R rs xs
  | _, _ => False
theorem rows_each {α β : Type} (R : β → α → Prop) : ∀ (rows : List β), (∀ r ∈ rows, ∃ x, R r x) → ∃ xs : List α, Each R rows xs
  | [], _ => ⟨[], trivial⟩
  | r :: rows, h => by
    obtain ⟨x, hx⟩ := h r (List.mem_cons_self ..)
    obtain ⟨xs, hxs⟩ := rows_each R rows (fun y hy => h y (List.mem_cons_of_mem _ hy))
    exact ⟨x :: xs, hx, hxs⟩

section
variable {H : Type} {enc : TypeId × Value → H} {P : Program} {w : World} {base : Nat} {spare : Nat → Bool} {held : Bool}

theorem rd_rows {t e : TypeId} {fuel : Nat} {v : Value} {x : DataW H × List MemPlace} (ht : P.underlying t = some (.slice e)) (hpos : 0 < P.cellsOf e) (h : DataW.trod enc P w base spare held fuel t [v] = some x) :
    ∃ (A : Option Addr) (n c : Nat) (rows : List (List Value)), v = .slice A n c ∧ rows.length = n ∧ n ≤ maxLen ∧ (∀ r ∈ rows, r.length = P.cellsOf e ∧ ∃ m d, DataW.trod enc P w base spare held m e r = some d) ∧ Rd w (P.cellsOf e) A n rows.flatten := by
  rcases open_slice ht h with ⟨hcs, _⟩ | ⟨a, len, cap, m, n, D, Pl, hcs, hb, hl, hm, hmm, hx, hi⟩
  · simp only [List.cons.injEq, and_true] at hcs
    subst hcs
    exact ⟨none, 0, 0, [], rfl, rfl, Nat.zero_le _, (by intro r hr; cases hr), Rd.nil_⟩
  · simp only [List.cons.injEq, and_true] at hcs
    subst hcs
    have hlm : len ≤ m := by rw [hmm]; split <;> omega
    have key : ∀ i, ∃ cs', i < len → w.cells? base (a.add (i * P.cellsOf e)) (P.cellsOf e) = some cs' ∧ DataW.trod enc P w base spare held n e cs' = some (D i, Pl i) := fun i => by
      by_cases hil : i < len
      · obtain ⟨cs', h1⟩ := hi i (by omega)
        exact ⟨cs', fun _ => h1⟩
      · exact ⟨[], fun h => absurd h hil⟩
    obtain ⟨f, hf⟩ := Classical.axiomOfChoice key
    have hrow : ∀ r ∈ (List.range len).map f, r.length = P.cellsOf e ∧ ∃ m d, DataW.trod enc P w base spare held m e r = some d := by
      intro r hr
      obtain ⟨i, hi1, rfl⟩ := List.mem_map.1 hr
      have hi2 := List.mem_range.1 hi1
      obtain ⟨h1, h2⟩ := hf i hi2
      obtain ⟨_, hcl, _⟩ := World.cells?_some h1
      exact ⟨hcl, n, _, h2⟩
    have hcell : ∀ i k u, i < len → k < P.cellsOf e → (f i)[k]? = some u → w.cell? (a.add (i * P.cellsOf e + k)) = some u := by
      intro i k u hil hk hu
      obtain ⟨h1, _⟩ := hf i hil
      obtain ⟨_, _, hat⟩ := World.cells?_some h1
      rw [← Go.Deep.add_add, hat k hk, hu]
    refine ⟨some a, len, cap, (List.range len).map f, rfl, by simp, by omega, hrow, ?_, ?_⟩
    · rw [flatten_length _ (fun r hr => (hrow r hr).1)]; simp
    · intro hlen
      obtain ⟨h1, _⟩ := hf 0 hlen
      obtain ⟨_, hcl, _⟩ := World.cells?_some h1
      have hu0 : (f 0)[0]? = some ((f 0)[0]'(by omega)) := List.getElem?_eq_getElem (by omega)
      have hc0 := hcell 0 0 _ hlen hpos hu0
      have hblk := World.block_lt_of_cell? w _ hc0
      rw [Nat.zero_mul, Nat.zero_add] at hc0 hblk
      have ha0 : a.add 0 = a := by simp [Addr.add]
      rw [ha0] at hc0 hblk
      obtain ⟨b, o, s⟩ := a
      have hs : s = none := by
        cases s with
        | none => rfl
        | some q =>
          unfold World.cell? at hc0
          split at hc0 <;> simp at hc0
      subst hs
      refine ⟨b, o, rfl, hblk, fun j u hu => ?_⟩
      have hj : j = j / P.cellsOf e * P.cellsOf e + j % P.cellsOf e := by have := Nat.div_add_mod j (P.cellsOf e); rw [Nat.mul_comm] at this; omega
      have hk := Nat.mod_lt j hpos
      rw [hj, flatten_at _ (fun r hr => (hrow r hr).1) _ _ hk] at hu
      have hjl : j / P.cellsOf e < len := by
        rcases Nat.lt_or_ge (j / P.cellsOf e) len with h | h
        · exact h
        · rw [List.getElem?_eq_none (by simpa using h)] at hu; cases hu
      rw [List.getElem?_map, List.getElem?_range hjl] at hu
      have := hcell _ _ u hjl hk (by simpa using hu)
      rw [← hj] at this
      rwa [Addr.add_lit] at this

/-- A slice whose elements are each 'f x'. -/
theorem rd_enc {α : Type} (f : α → List Value) {t e : TypeId} {fuel : Nat} {v : Value} {x : DataW H × List MemPlace} (ht : P.underlying t = some (.slice e)) {size : Nat} (hC : P.cellsOf e = size) (hpos : 0 < size)
    (hel : ∀ (m : Nat) (r : List Value) (d : DataW H × List MemPlace), DataW.trod enc P w base spare held m e r = some d → ∃ x, r = f x) (h : DataW.trod enc P w base spare held fuel t [v] = some x) :
    ∃ (A : Option Addr) (n c : Nat) (xs : List α), v = .slice A n c ∧ xs.length = n ∧ n ≤ maxLen ∧ Rd w size A n (xs.flatMap f) := by
  subst hC
  obtain ⟨A, n, c, rows, hv, hn, hm, hr, hrd⟩ := rd_rows ht hpos h
  obtain ⟨xs, rfl⟩ := rows_enc f rows (fun r hr' => by
    obtain ⟨_, m, d, hd⟩ := hr r hr'
    exact hel m r d hd)
  refine ⟨A, n, c, xs, hv, by simpa using hn, hm, ?_⟩
  rwa [List.flatMap_def]

theorem flatMap_one (f : Int → Value) (zs : List Int) : zs.flatMap (fun z => [f z]) = zs.map f := by
  induction zs with
  | nil => rfl
  | cons z zs ih => rw [List.flatMap_cons, ih, List.map_cons]; rfl

theorem open_rdI {t e : TypeId} {fuel : Nat} {v : Value} {x : DataW H × List MemPlace} (ht : P.underlying t = some (.slice e)) (he : P.underlying e = some (.int .i64)) (hC : P.cellsOf e = 1)
    (h : DataW.trod enc P w base spare held fuel t [v] = some x) :
    ∃ (A : Option Addr) (n c : Nat) (zs : List Int), [v] = [.slice A n c] ∧ zs.length = n ∧ n ≤ maxLen ∧ Rd w 1 A n (zs.map (Value.int .i64)) := by
  obtain ⟨A, n, c, zs, hv, hn, hm, hr⟩ := rd_enc (fun z => [Value.int .i64 z]) ht hC (by omega) (fun m r d hd => by
    obtain ⟨z, hz, _⟩ := DataW.trod_int he hd
    exact ⟨z, hz⟩) h
  rw [flatMap_one] at hr
  exact ⟨A, n, c, zs, by rw [hv], hn, hm, hr⟩

theorem open_rdIv {r : Reach} {b0 : Nat} {t e : TypeId} {v : Value} {d : DataW H} {ps : List MemPlace} (ht : P.underlying t = some (.slice e)) (he : P.underlying e = some (.int .i64)) (hC : P.cellsOf e = 1)
    (hv : Value.okWide P w r b0 t v) (h : DataW.Trod enc P w base spare held t v d ps) :
    ∃ (A : Option Addr) (n c : Nat) (zs : List Int), v = .slice A n c ∧ zs.length = n ∧ n ≤ maxLen ∧ Rd w 1 A n (zs.map (Value.int .i64)) := by
  obtain ⟨a0, len, cap, rfl⟩ := okWide_slice ht hv
  obtain ⟨fuel, hf⟩ := h
  obtain ⟨A, n, c, zs, hv, hn, hm, hr⟩ := open_rdI ht he hC (by simpa [Value.cells] using hf)
  simp only [List.cons.injEq, and_true] at hv
  exact ⟨A, n, c, zs, hv, hn, hm, hr⟩
end
end Go.Proofs.Ytpaknpjdamoibaa
