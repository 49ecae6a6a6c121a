/-
  NESTED ROWS of one's own: each inner slice in a block of its own.
  Conditions: none.
-/
import Derived.Test.YtdccgflkhgnflaaNest
namespace Go.Proofs.Ytdccgflkhgnflaa
open Go.ChangeShapes Go.WideShapes Go.ChangeAt Go.RowKit Go.Joins
set_option linter.unusedVariables false

section
variable {α β : Type} {s m : Nat} {e : TypeId} {f : α → List Value} {hc : Hdr → β → List Value} {inn : β → List α} {w w' : World} {lo hi : Nat}
/-- an inner slice in a block of its own from lo on and below hi -/
def FrI (m : Nat) (e : TypeId) (f : α → List Value) (inn : β → List α) (w : World) (lo hi : Nat) (p : Hdr × β) : Prop :=
  ∃ g, p.1.1 = some ⟨g, 0, none⟩ ∧ lo ≤ g ∧ g < hi ∧ (inn p.2).length = p.1.2.1 ∧ p.1.2.1 ≤ maxLen ∧ g < w.heap.size ∧ Fr w g (g + 1) e m p.1.1 p.1.2.1 ((inn p.2).flatMap f)
theorem FrI.keep {p : Hdr × β} (h : FrI m e f inn w lo hi p) (hs : w.heap.size ≤ w'.heap.size) (hk : ∀ g, lo ≤ g → g < hi → g < w.heap.size → w'.heap[g]? = w.heap[g]?) : FrI m e f inn w' lo hi p := by
  obtain ⟨g, h1, h2, h3, h4, h5, h6, h7⟩ := h
  exact ⟨g, h1, h2, h3, h4, h5, by omega, h7.keep fun g' h8 h9 h10 => by
    have : g' = g := by omega
    subst this
    exact hk g' h2 h3 h10⟩
theorem FrI.below {p : Hdr × β} (h : FrI m e f inn w lo hi p) {B : Nat} (hB : w.heap.size ≤ B) (hb : Below B w w') : FrI m e f inn w' lo hi p := h.keep hb.size fun g _ _ hg => hb.block g (by omega)
theorem FrI.touch {lo' hi' : Nat} {p : Hdr × β} (h : FrI m e f inn w lo hi p) (ht : Touch lo' hi' w w') (hd : hi ≤ lo' ∨ hi' ≤ lo) : FrI m e f inn w' lo hi p := h.keep ht.size fun g h1 h2 hg => ht.block g hg (by omega)
theorem FrI.setFar {p : Hdr × β} (h : FrI m e f inn w lo hi p) {a : Addr} (ha : a.block < lo ∨ hi ≤ a.block) (u : Value) : FrI m e f inn (w.setCell a u) lo hi p :=
  h.keep (by simp [World.setCell]) fun g h1 h2 _ => Below.heap_setCell w a u g (by omega)
theorem FrI.wide {lo' hi' : Nat} {p : Hdr × β} (h : FrI m e f inn w lo hi p) (h1 : lo' ≤ lo) (h2 : hi ≤ hi') : FrI m e f inn w lo' hi' p := by
  obtain ⟨g, r1, r2, r3, r⟩ := h
  exact ⟨g, r1, by omega, by omega, r⟩
theorem FrI.rd {p : Hdr × β} (h : FrI m e f inn w lo hi p) : (inn p.2).length = p.1.2.1 ∧ p.1.2.1 ≤ maxLen ∧ Rd w m p.1.1 p.1.2.1 ((inn p.2).flatMap f) := by
  obtain ⟨g, _, _, _, h4, h5, _, h7⟩ := h
  exact ⟨h4, h5, h7.rd⟩
/-- blocks of their own, each another -/
def Apart (hx : List (Hdr × β)) : Prop := hx.Pairwise fun p q => p.1.1 ≠ q.1.1
/-- THE WORD for a nested slice of one's own: the outer block below lo, the inner ones from lo on and below hi -/
def FrN (s m : Nat) (e : TypeId) (f : α → List Value) (hc : Hdr → β → List Value) (inn : β → List α) (w : World) (lo hi : Nat) (A : Option Addr) (n : Nat) (xs : List β) : Prop :=
  ∃ hx : List (Hdr × β), hx.map Prod.snd = xs ∧ Rd w s A n (hx.flatMap fun p => hc p.1 p.2) ∧ (∀ a, A = some a → a.block < lo) ∧ Apart hx ∧ ∀ p ∈ hx, FrI m e f inn w lo hi p
variable {A : Option Addr} {n : Nat} {xs : List β}
theorem FrN.rd (h : FrN s m e f hc inn w lo hi A n xs) : RdN s m f hc inn w A n xs := by
  obtain ⟨hx, h1, h2, _, _, h5⟩ := h
  exact ⟨hx, h1, h2, fun p hp => (h5 p hp).rd⟩
theorem FrN.below (h : FrN s m e f hc inn w lo hi A n xs) {B : Nat} (hB : w.heap.size ≤ B) (hb : Below B w w') : FrN s m e f hc inn w' lo hi A n xs := by
  obtain ⟨hx, h1, h2, h3, h4, h5⟩ := h
  exact ⟨hx, h1, h2.below hB hb, h3, h4, fun p hp => (h5 p hp).below hB hb⟩
theorem FrN.alloc (h : FrN s m e f hc inn w lo hi A n xs) (o : Obj) : FrN s m e f hc inn (w.alloc o) lo hi A n xs := h.below (Nat.le_refl _) ((Below.refl _ _).alloc (Nat.le_refl _) o)
theorem FrN.drew (h : FrN s m e f hc inn w lo hi A n xs) : FrN s m e f hc inn w.drew lo hi A n xs := h
theorem FrN.wide {hi' : Nat} (h : FrN s m e f hc inn w lo hi A n xs) (h2 : hi ≤ hi') : FrN s m e f hc inn w lo hi' A n xs := by
  obtain ⟨hx, r1, r2, r3, r4, r5⟩ := h
  exact ⟨hx, r1, r2, r3, r4, fun p hp => (r5 p hp).wide (Nat.le_refl _) h2⟩
theorem Rd.keep_ {xs : List Value} (h : Rd w s A n xs) (hs : w.heap.size ≤ w'.heap.size) (hk : ∀ a, A = some a → w'.heap[a.block]? = w.heap[a.block]?) : Rd w' s A n xs :=
  ⟨h.1, fun hn => by
    obtain ⟨b, o, e, hlt, hc⟩ := h.2 hn
    exact ⟨b, o, e, by omega, fun j u hu => (World.cell?_of_block (a := ⟨b, o + j, none⟩) (show w'.heap[b]? = w.heap[b]? from hk _ e)).trans (hc j u hu)⟩⟩
/-- what lies in blocks from b0 on and below hi stays, if only other blocks turn -/
theorem FrN.touch {lo' hi' b0 : Nat} (h : FrN s m e f hc inn w lo hi A n xs) (hA : ∀ a, A = some a → b0 ≤ a.block ∧ a.block < w.heap.size) (ht : Touch lo' hi' w w') (hb0 : b0 ≤ lo) (hd : (hi ≤ lo' ∧ lo ≤ lo') ∨ hi' ≤ b0) : FrN s m e f hc inn w' lo hi A n xs := by
  obtain ⟨hx, h1, h2, h3, h4, h5⟩ := h
  refine ⟨hx, h1, h2.keep_ ht.size fun a ha => ht.block a.block (hA a ha).2 ?_, h3, h4, fun p hp => (h5 p hp).touch ht (by omega)⟩
  have := h3 a ha
  have := (hA a ha).1
  omega
theorem FrN.setFar (h : FrN s m e f hc inn w lo hi A n xs) {a : Addr} (hA : ∀ x, A = some x → x.block ≠ a.block) (ha : a.block < lo ∨ hi ≤ a.block) (u : Value) : FrN s m e f hc inn (w.setCell a u) lo hi A n xs := by
  obtain ⟨hx, h1, h2, h3, h4, h5⟩ := h
  exact ⟨hx, h1, h2.keep_ (by simp [World.setCell]) fun x hx => Below.heap_setCell w a u x.block (hA x hx), h3, h4, fun p hp => (h5 p hp).setFar ha u⟩
end
/-- THE WORD for a nested slice of one's own, the outer row in block g and owned, the inner ones behind it -/
def FrNO {α β : Type} (s m : Nat) (eo e : TypeId) (f : α → List Value) (hc : Hdr → β → List Value) (inn : β → List α) (w : World) (g hi n : Nat) (xs : List β) : Prop :=
  ∃ hx : List (Hdr × β), hx.map Prod.snd = xs ∧ w.ownsRow g eo s (.slice (some ⟨g, 0, none⟩) n n) n (hx.flatMap fun p => hc p.1 p.2) ∧ Apart hx ∧ ∀ p ∈ hx, FrI m e f inn w (g + 1) hi p
section
variable {α β : Type} {s m : Nat} {eo e : TypeId} {f : α → List Value} {hc : Hdr → β → List Value} {inn : β → List α} {w w' : World} {g hi n : Nat} {xs : List β}
theorem FrNO.fr (h : FrNO s m eo e f hc inn w g hi n xs) : FrN s m e f hc inn w (g + 1) hi (some ⟨g, 0, none⟩) n xs := by
  obtain ⟨hx, h1, h2, h4, h5⟩ := h
  exact ⟨hx, h1, Rd.of_own h2, (fun a ha => by injection ha with ha; subst ha; simp), h4, h5⟩
theorem FrNO.rd (h : FrNO s m eo e f hc inn w g hi n xs) : RdN s m f hc inn w (some ⟨g, 0, none⟩) n xs := h.fr.rd
theorem FrNO.below (h : FrNO s m eo e f hc inn w g hi n xs) {B : Nat} (hB : w.heap.size ≤ B) (hb : Below B w w') : FrNO s m eo e f hc inn w' g hi n xs := by
  obtain ⟨hx, h1, h2, h4, h5⟩ := h
  exact ⟨hx, h1, own_below hb hB h2, h4, fun p hp => (h5 p hp).below hB hb⟩
theorem FrNO.touch {lo' hi' : Nat} (h : FrNO s m eo e f hc inn w g hi n xs) (ht : Touch lo' hi' w w') (hd : (hi ≤ lo' ∧ g < lo') ∨ hi' ≤ g) : FrNO s m eo e f hc inn w' g hi n xs := by
  obtain ⟨hx, h1, h2, h4, h5⟩ := h
  refine ⟨hx, h1, ht.own h2 (fun k hk => ?_), h4, fun p hp => (h5 p hp).touch ht (by omega)⟩
  have : k = g := by injection hk with hk; exact hk.symm
  omega
theorem FrNO.wide {hi' : Nat} (h : FrNO s m eo e f hc inn w g hi n xs) (h2 : hi ≤ hi') : FrNO s m eo e f hc inn w g hi' n xs := by
  obtain ⟨hx, r1, r2, r4, r5⟩ := h
  exact ⟨hx, r1, r2, r4, fun p hp => (r5 p hp).wide (Nat.le_refl _) h2⟩
end
theorem put_next : ∀ (c z X R : List Value), z.length = c.length → putAt (X ++ (z ++ R)) X.length c = X ++ (c ++ R)
  | [], z, X, R, h => by
    have : z = [] := List.eq_nil_of_length_eq_zero (by simpa using h)
    subst this
    rfl
  | x :: c, [], X, R, h => by simp at h
  | x :: c, y :: z, X, R, h => by
    have e : (X ++ (y :: z ++ R)).set X.length x = (X ++ [x]) ++ (z ++ R) := by
      simp
    rw [putAt, e]
    have := put_next c z (X ++ [x]) R (by simpa using h)
    rw [List.length_append, List.length_singleton] at this
    rw [this]
    simp
theorem apart_snoc {β : Type} {hx : List (Hdr × β)} {p : Hdr × β} (h : Apart hx) (hp : ∀ q ∈ hx, q.1.1 ≠ p.1.1) : Apart (hx ++ [p]) := by
  unfold Apart at *
  rw [List.pairwise_append]
  refine ⟨h, by simp, fun a ha b hb => ?_⟩
  rw [List.mem_singleton.1 hb]
  exact hp a ha
theorem own_one {w : World} {base m n c g : Nat} {e : TypeId} {xs : List Value} (h : w.ownsRow base e m (.slice (some ⟨g, 0, none⟩) n c) n xs) : Fr w g (g + 1) e m (some ⟨g, 0, none⟩) n xs ∧ g < w.heap.size ∧ base ≤ g := by
  rcases h.2 with ⟨h1, _⟩ | ⟨g', cap, cur, hv, hb, hg, hnc, hcm, hcs, htake⟩
  · cases h1
  · injection hv with hA hN hC
    injection hA with hA
    injection hA with hA
    subst hA
    have hlt := (Array.getElem?_eq_some_iff.1 hg).1
    refine ⟨⟨h.1, fun hn => ⟨g, cur, rfl, Nat.le_refl _, by omega, hg, by rw [hcs]; exact Nat.mul_le_mul_right _ hnc, htake⟩⟩, hlt, hb⟩
theorem nest_step {β : Type} {s n k : Nat} {hc : Hdr → β → List Value} {zrow : List Value} {hx : List (Hdr × β)} (hl : ∀ h x, (hc h x).length = s) (hz : zrow.length = s) (hk : hx.length = k) (hn : k < n) (h : Hdr) (x : β) :
    putAt (hx.flatMap (fun p => hc p.1 p.2) ++ (List.replicate (n - k) ()).flatMap (fun _ => zrow)) (k * s) (hc h x) =
      (hx ++ [(h, x)]).flatMap (fun p => hc p.1 p.2) ++ (List.replicate (n - (k + 1)) ()).flatMap (fun _ => zrow) := by
  have e : n - k = (n - (k + 1)) + 1 := by omega
  have hX : (hx.flatMap (fun p => hc p.1 p.2)).length = k * s := by rw [rows_len (f := fun p : Hdr × β => hc p.1 p.2) (fun p => hl p.1 p.2), hk]
  rw [e, List.replicate_succ, List.flatMap_cons, ← hX, put_next _ _ _ _ (by rw [hz, hl]), List.flatMap_append]
  simp
end Go.Proofs.Ytdccgflkhgnflaa
