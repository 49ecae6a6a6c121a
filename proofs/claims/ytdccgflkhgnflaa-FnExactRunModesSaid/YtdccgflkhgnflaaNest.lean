/-
  NESTED ROWS: a slice whose elements hold a slice each.
  Conditions: none.
-/
import Derived.Test.YtdccgflkhgnflaaRows2
namespace Go.Proofs.Ytdccgflkhgnflaa
open Go.ChangeShapes Go.WideShapes Go.ChangeAt Go.RowKit Go.Joins
set_option linter.unusedVariables false

/-- a slice's header: address, length, room -/
abbrev Hdr := Option Addr × Nat × Nat
def hdrV (h : Hdr) : Value := .slice h.1 h.2.1 h.2.2
section
variable {α β : Type} {s m : Nat} {f : α → List Value} {hc : Hdr → β → List Value} {inn : β → List α}
/-- '.slice A n _' holds elements of s cells, 'hc h x'; the slice of header h reads as 'inn x', m cells an element -/
def RdN (s m : Nat) (f : α → List Value) (hc : Hdr → β → List Value) (inn : β → List α) (w : World) (A : Option Addr) (n : Nat) (xs : List β) : Prop :=
  ∃ hx : List (Hdr × β), hx.map Prod.snd = xs ∧ Rd w s A n (hx.flatMap fun p => hc p.1 p.2) ∧ ∀ p ∈ hx, (inn p.2).length = p.1.2.1 ∧ p.1.2.1 ≤ maxLen ∧ Rd w m p.1.1 p.1.2.1 ((inn p.2).flatMap f)
variable {w w' : World} {A : Option Addr} {n k : Nat} {xs : List β}
theorem RdN.len (h : RdN s m f hc inn w A n xs) (hl : ∀ h x, (hc h x).length = s) (hs : 0 < s) : xs.length = n := by
  obtain ⟨hx, rfl, hr, _⟩ := h
  rw [List.length_map]
  exact hr.rowsLen (f := fun p : Hdr × β => hc p.1 p.2) (fun p => hl p.1 p.2) hs
theorem RdN.below (h : RdN s m f hc inn w A n xs) {B : Nat} (hB : w.heap.size ≤ B) (hb : Below B w w') : RdN s m f hc inn w' A n xs := by
  obtain ⟨hx, e, hr, hi⟩ := h
  exact ⟨hx, e, hr.below hB hb, fun p hp => ⟨(hi p hp).1, (hi p hp).2.1, (hi p hp).2.2.below hB hb⟩⟩
theorem RdN.alloc (h : RdN s m f hc inn w A n xs) (o : Obj) : RdN s m f hc inn (w.alloc o) A n xs := h.below (Nat.le_refl _) ((Below.refl _ _).alloc (Nat.le_refl _) o)
theorem RdN.drew (h : RdN s m f hc inn w A n xs) : RdN s m f hc inn w.drew A n xs := h
theorem RdN.at_ (h : RdN s m f hc inn w A n xs) (hl : ∀ h x, (hc h x).length = s) (hs : 0 < s) (hk : k < n) :
    ∃ b o Ai ni ci x, A = some ⟨b, o, none⟩ ∧ b < w.heap.size ∧ xs[k]? = some x ∧ (∀ j u, (hc (Ai, ni, ci) x)[j]? = some u → w.cell? ⟨b, o + (k * s + j), none⟩ = some u) ∧
      (inn x).length = ni ∧ ni ≤ maxLen ∧ Rd w m Ai ni ((inn x).flatMap f) := by
  obtain ⟨hx, rfl, hr, hi⟩ := h
  obtain ⟨b, o, p, hA, hb, hp, hcell⟩ := hr.row (f := fun p : Hdr × β => hc p.1 p.2) (fun p => hl p.1 p.2) hs hk
  obtain ⟨⟨Ai, ni, ci⟩, x⟩ := p
  obtain ⟨h1, h2, h3⟩ := hi _ (List.mem_of_getElem? hp)
  exact ⟨b, o, Ai, ni, ci, x, hA, hb, by rw [List.getElem?_map, hp]; rfl, hcell, h1, h2, h3⟩
/-- how many elements there are, the inner ones too -/
def totN (inn : β → List α) (xs : List β) : Nat := (xs.map fun x => (inn x).length).sum
theorem totN_snoc {x : β} (h : xs[k]? = some x) : totN inn (xs.take (k + 1)) = totN inn (xs.take k) + (inn x).length := by
  unfold totN; rw [take_snoc h]; simp
theorem totN_take (inn : β → List α) (xs : List β) (k : Nat) : totN inn (xs.take k) ≤ totN inn xs := by
  unfold totN
  conv => rhs; rw [← List.take_append_drop k xs]
  rw [List.map_append, List.sum_append]; omega
theorem totN_at {x : β} (h : xs[k]? = some x) : (inn x).length ≤ totN inn xs := by
  have h1 := totN_snoc (inn := inn) h
  have h2 := totN_take inn xs (k + 1)
  omega
end

section
variable {H : Type} {enc : TypeId × Value → H} {P : Program} {w : World} {base : Nat} {spare : Nat → Bool} {held : Bool}
variable {α β : Type} {s m : Nat} {f : α → List Value} {hc : Hdr → β → List Value} {inn : β → List α}
theorem each_pairs {γ : Type} {R : List Value → γ → Prop} {g : γ → List Value} (hR : ∀ r x, R r x → r = g x) : ∀ {rows : List (List Value)} {xs : List γ}, Each R rows xs → rows = xs.map g ∧ ∀ x ∈ xs, ∃ r, R r x
  | [], [], _ => ⟨rfl, fun _ h => by cases h⟩
  | r :: rs, x :: xs, h => by
    obtain ⟨h1, h2⟩ := h
    obtain ⟨e, h3⟩ := each_pairs hR h2
    refine ⟨by rw [List.map_cons, hR r x h1, e], fun y hy => ?_⟩
    rcases List.mem_cons.1 hy with rfl | hy
    · exact ⟨r, h1⟩
    · exact h3 y hy
  | [], _ :: _, h => h.elim
  | _ :: _, [], h => h.elim
/-- A slice whose elements are each 'hc h x', read. -/
theorem rdN_of {t e : TypeId} {fuel : Nat} {v : Value} {x : DataW H × List MemPlace} (ht : P.underlying t = some (.slice e)) (hC : P.cellsOf e = s) (hpos : 0 < s)
    (hel : ∀ (q : Nat) (r : List Value) (d : DataW H × List MemPlace), DataW.trod enc P w base spare held q e r = some d →
      ∃ p : Hdr × β, r = hc p.1 p.2 ∧ (inn p.2).length = p.1.2.1 ∧ p.1.2.1 ≤ maxLen ∧ Rd w m p.1.1 p.1.2.1 ((inn p.2).flatMap f))
    (h : DataW.trod enc P w base spare held fuel t [v] = some x) :
    ∃ (A : Option Addr) (n c : Nat) (xs : List β), v = .slice A n c ∧ xs.length = n ∧ n ≤ maxLen ∧ RdN s m f hc inn w A n xs := by
  subst hC
  obtain ⟨A, n, c, rows, hv, hn, hm, hr, hrd⟩ := rd_rows ht hpos h
  obtain ⟨hx, hE⟩ := rows_each (fun (r : List Value) (p : Hdr × β) => r = hc p.1 p.2 ∧ (inn p.2).length = p.1.2.1 ∧ p.1.2.1 ≤ maxLen ∧ Rd w m p.1.1 p.1.2.1 ((inn p.2).flatMap f)) rows (fun r hr' => by
    obtain ⟨_, q, d, hd⟩ := hr r hr'
    exact hel q r d hd)
  obtain ⟨e1, h1⟩ := each_pairs (g := fun p : Hdr × β => hc p.1 p.2) (fun r x hR => hR.1) hE
  refine ⟨A, n, c, hx.map Prod.snd, hv, by rw [List.length_map]; rw [e1, List.length_map] at hn; exact hn, hm, hx, rfl, ?_, fun p hp => ?_⟩
  · rw [e1] at hrd
    rwa [List.flatMap_def]
  · obtain ⟨r, _, h2⟩ := h1 p hp
    exact h2
end
end Go.Proofs.Ytdccgflkhgnflaa
