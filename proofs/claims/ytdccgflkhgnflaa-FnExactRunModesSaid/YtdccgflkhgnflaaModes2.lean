/-
  CONTRACTS of the steps of Modes: a copy, to ask for a table, the end of a frame.
  Conditions: none beyond those that each states.
-/
import Derived.Test.YtdccgflkhgnflaaModeTick
import Derived.Deep.RegionHeld3
namespace Go.Proofs.Ytdccgflkhgnflaa
open Go.ChangeShapes Go.WideShapes Go.ChangeAt Go.RowKit Go.Joins
set_option linter.unusedVariables false

theorem own_ints {w : World} {base n : Nat} {v : Value} {ys zs : List Int} (h : w.ownsRow base 3 1 v n (ints ys ++ ints zs)) : w.ownsRow base 3 1 v (ys ++ zs).length (ints (ys ++ zs)) := by
  have e : ints (ys ++ zs) = ints ys ++ ints zs := by simp [ints]
  have hl : (ys ++ zs).length = n := by have := h.1; rw [← e] at this; simpa [ints] using this
  rw [hl, e]; exact h
theorem Blk.grown {w w' : World} {g : Nat} {t : TypeId} {cs : Array Value} {row : Option Nat} (h : Blk w g t cs) (hg : w.grownBy w' row) (hne : ∀ k, row = some k → k ≠ g) : Blk w' g t cs := (hg.block g h.lt (fun e => hne g e.symm rfl)).trans h
theorem retI_own {w w' : World} {base : Nat} {v : Value} {zs : List Int} (h : w'.ownsRow base 3 1 v zs.length (ints zs)) (hb : w.heap.size ≤ base) (hB : Below w.heap.size w w') : RetI w zs (.returned v) w' := by
  rcases h.2 with ⟨rfl, h0⟩ | ⟨g, cap, cur, rfl, r⟩
  · have e : zs = [] := List.eq_nil_of_length_eq_zero h0
    subst e
    exact ⟨none, 0, rfl, Fr.nil_, hB⟩
  · exact ⟨_, _, rfl, (Fr.of_own h).wide hb (Nat.le_refl _), hB⟩
theorem ownD {w : World} {base : Nat} {e : TypeId} {size n : Nat} {v : Value} {xs : List Value} (h : w.ownsRow base e size v n xs) : w.drew.ownsRow base e size v n xs := h
theorem step_append_rd {P : Program} {w : World} {ops : Array Oper} {o : Oper} {a : Act} {K : Act → World → Prop} {Q : Exit → Act → World → Prop} {E : Prop} (hgd : o.guard = none) (s x : Operand) (t : TypeId)
    (ho : o.op = .call { callee := .builtin .append, args := #[s, x], argTypes := #[t, t] })
    (base : Nat) (e : TypeId) (i : TypeInfo) (z : Value) (size bytes : Nat) (ht : P.underlying t = some (.slice e)) (hi : P.info? e = some i) (hz : i.zero = some z)
    (hsize : i.size = size) (hby : i.bytes = bytes) (hzs : z.cells.size = size) (hsz : 0 < size)
    (v : Value) (n : Nat) (xs : List Value) (hs : a.eval s = v) (hown : w.ownsRow base e size v n xs)
    (A : Option Addr) (m c : Nat) (news : List Value) (hx : a.eval x = .slice A m c) (hr : Rd w size A m news) (h1 : ∀ u ∈ news, u.oneCell' = true)
    (h63 : n + m ≤ maxLen) (hbytes : (n + m) * bytes ≤ 140737488355328) (hbase : base ≤ w.heap.size)
    (h : ∀ v' w', w'.ownsRow base e size v' (n + m) (xs ++ news) → w.grownBy w' v.ownBlock → (v'.ownBlock = v.ownBlock ∨ v'.ownBlock = some w.heap.size) → K (a.put o.dst v') w') :
    if Region.wanted o (yielded ops a.tmps) = true then Oper.wp P o a w K Q else E := by
  have hw : Region.wanted o (yielded ops a.tmps) = true := by simp [Region.wanted, hgd]
  rw [if_pos hw]
  obtain ⟨v', w', hrun, h2, h3, h4⟩ := run_append_rd (P := P) w base t o.type e i z size bytes ht hi hz hsize hby hzs hsz v n xs hown A m c news hr h1 h63 hbytes hbase
  unfold Oper.wp execOp
  simp only [ho, resolve, invoke, builtin, Sem.run_bind, Sem.run_pure, Result.andThen_ok, List.map_toArray, List.map_cons, List.map_nil, hs, hx, hrun]
  exact h v' w' h2 h3 h4

/-- what is asked for behind a question -/
def askN (n : Nat) (asked a : Int) : Int := if inB a 0 ((n : Int) - 1) = true then a else asked
def endN (now asked : Int) : Int := if 0 ≤ asked then asked else now
set_option maxRecDepth 100000 in
set_option maxHeartbeats 1000000 in
theorem ask_any (A : Option Addr) (n c : Nat) (now asked a : Int) (w : World) (hn : n ≤ 1048577) :
    Calls Try.prog 23 #[.agg #[.slice A n c, .int .i64 now, .int .i64 asked], .int .i64 a] w fun e w' => (∃ b, e = .returned (.tuple #[.agg #[.slice A n c, .int .i64 now, .int .i64 (askN n asked a)], .bool b])) ∧ Below w.heap.size w w' := by
  cases hi : inB a 0 ((n : Int) - 1)
  · rw [show askN n asked a = asked by unfold askN; rw [if_neg (by rw [hi]; simp)]]
    go_enter Try.func23, Try.ntmps23
    go_wp2_with (go_at_call 34; refine (in_is hi _).mono ?_; rintro e w1 ⟨rfl, rfl⟩)
    refine bodyPost_ret (v := .tuple #[.agg #[.slice A n c, .int .i64 now, .int .i64 asked], .bool false]) (by simp [results, Try.results23, go_sem]) rfl ?_
    exact ⟨⟨_, rfl⟩, by go_grown⟩
  · rw [show askN n asked a = a by unfold askN; rw [if_pos hi]]
    go_enter Try.func23, Try.ntmps23
    go_wp2_with (go_at_call 34; refine (in_is hi _).mono ?_; rintro e w1 ⟨rfl, rfl⟩)
    refine bodyPost_ret (v := .tuple #[.agg #[.slice A n c, .int .i64 now, .int .i64 a], .bool true]) (by simp [results, Try.results23, go_sem]) rfl ?_
    exact ⟨⟨_, rfl⟩, by go_grown⟩
set_option maxRecDepth 100000 in
set_option maxHeartbeats 1000000 in
theorem end_any (A : Option Addr) (n c : Nat) (now asked : Int) (w : World) (hn : n ≤ 1048577) :
    Calls Try.prog 24 #[.agg #[.slice A n c, .int .i64 now, .int .i64 asked]] w fun e w' => e = .returned (.agg #[.slice A n c, .int .i64 (endN now asked), .int .i64 (if 0 ≤ asked then -1 else asked)]) ∧ Below w.heap.size w w' := by
  by_cases hi : 0 ≤ asked
  · rw [show endN now asked = asked by unfold endN; rw [if_pos hi], if_pos hi]
    go_enter Try.func24, Try.ntmps24
    go_wp2
    refine bodyPost_ret (v := .agg #[.slice A n c, .int .i64 asked, .int .i64 (-1)]) (by simp [results, Try.results24, go_sem]) rfl ?_
    exact ⟨rfl, by go_grown⟩
  · rw [show endN now asked = now by unfold endN; rw [if_neg hi], if_neg hi]
    go_enter Try.func24, Try.ntmps24
    go_wp2
    refine bodyPost_ret (v := .agg #[.slice A n c, .int .i64 now, .int .i64 asked]) (by simp [results, Try.results24, go_sem]) rfl ?_
    exact ⟨rfl, by go_grown⟩
/-- the copies so far: each in a block of its own, none of them in v's -/
def InnOk (w : World) (base : Nat) (v : Value) (hx : List (Hdr × Slots)) : Prop :=
  ∀ p ∈ hx, (tabI p.2).length = p.1.2.1 ∧ p.1.2.1 ≤ maxLen ∧ Rd w 2 p.1.1 p.1.2.1 (slots (tabI p.2)) ∧ ∀ a, p.1.1 = some a → base ≤ a.block ∧ a.block < w.heap.size ∧ v.ownBlock ≠ some a.block
theorem InnOk.keep {w w' : World} {base : Nat} {v v' : Value} {hx : List (Hdr × Slots)} (h : InnOk w base v hx) (hs : w.heap.size ≤ w'.heap.size) (hk : ∀ g, base ≤ g → g < w.heap.size → v.ownBlock ≠ some g → w'.heap[g]? = w.heap[g]?)
    (hv : ∀ g, g < w.heap.size → v.ownBlock ≠ some g → v'.ownBlock ≠ some g) : InnOk w' base v' hx := fun p hp => by
  obtain ⟨h1, h2, h3, h4⟩ := h p hp
  exact ⟨h1, h2, h3.keep_ hs (fun a ha => hk a.block (h4 a ha).1 (h4 a ha).2.1 (h4 a ha).2.2), fun a ha => ⟨(h4 a ha).1, Nat.lt_of_lt_of_le (h4 a ha).2.1 hs, hv _ (h4 a ha).2.1 (h4 a ha).2.2⟩⟩
theorem InnOk.alloc {w : World} {base : Nat} {v : Value} {hx : List (Hdr × Slots)} (h : InnOk w base v hx) (o : Obj) : InnOk (w.alloc o) base v hx := h.keep (by simp) (fun g _ hg _ => Below.heap_alloc w o g hg) (fun _ _ h => h)
theorem InnOk.far {w : World} {base : Nat} {v : Value} {hx : List (Hdr × Slots)} (h : InnOk w base v hx) {a : Addr} (ha : a.block < base) (u : Value) : InnOk (w.setCell a u) base v hx := h.keep (by simp [World.setCell]) (fun g hg _ _ => Below.heap_setCell w a u g (by omega)) (fun _ _ h => h)
theorem InnOk.snoc {w : World} {base : Nat} {v : Value} {hx : List (Hdr × Slots)} (h : InnOk w base v hx) {A : Option Addr} {n c : Nat} {x : Slots} (h1 : x.length = n) (h2 : n ≤ maxLen) (h3 : Rd w 2 A n (slots x)) (h4 : ∀ a, A = some a → base ≤ a.block ∧ a.block < w.heap.size ∧ v.ownBlock ≠ some a.block) : InnOk w base v (hx ++ [((A, n, c), x)]) := by
  intro p hp
  rcases List.mem_append.1 hp with hp | hp
  · exact h p hp
  · rw [List.mem_singleton.1 hp]; exact ⟨h1, h2, h3, h4⟩
/-- THE WORD for a nested slice of one's own: all of it in blocks from base on -/
def Own_tab (w : World) (base : Nat) (A : Option Addr) (n c : Nat) (ts : List Slots) : Prop :=
  ∃ hx : List (Hdr × Slots), hx.map Prod.snd = ts ∧ w.ownsRow base 43 1 (.slice A n c) n (hx.flatMap fun p => tabC p.1 p.2) ∧ InnOk w base (.slice A n c) hx
theorem Own_tab.rd {w : World} {base n c : Nat} {A : Option Addr} {ts : List Slots} (h : Own_tab w base A n c ts) : Rd_tab w A n ts := by
  obtain ⟨hx, hs, ho, hi⟩ := h
  exact ⟨hx, hs, Rd.of_own ho, fun p hp => ⟨(hi p hp).1, (hi p hp).2.1, (hi p hp).2.2.1⟩⟩
theorem Own_tab.lower {w : World} {base base' n c : Nat} {A : Option Addr} {ts : List Slots} (h : Own_tab w base A n c ts) (hb : base' ≤ base) : Own_tab w base' A n c ts := by
  obtain ⟨hx, hs, ho, hi⟩ := h
  refine ⟨hx, hs, ⟨ho.1, ?_⟩, fun p hp => ⟨(hi p hp).1, (hi p hp).2.1, (hi p hp).2.2.1, fun a ha => ⟨Nat.le_trans hb ((hi p hp).2.2.2 a ha).1, ((hi p hp).2.2.2 a ha).2⟩⟩⟩
  rcases ho.2 with h2 | ⟨g, cap, cur, hv, hbg, r⟩
  · exact Or.inl h2
  · exact Or.inr ⟨g, cap, cur, hv, Nat.le_trans hb hbg, r⟩
theorem Own_tab.keep {w w' : World} {base n c : Nat} {A : Option Addr} {ts : List Slots} (h : Own_tab w base A n c ts) (hs : w.heap.size ≤ w'.heap.size) (hk : ∀ g, base ≤ g → g < w.heap.size → w'.heap[g]? = w.heap[g]?) : Own_tab w' base A n c ts := by
  obtain ⟨hx, he, ho, hi⟩ := h
  refine ⟨hx, he, ⟨ho.1, ?_⟩, hi.keep hs (fun g h1 h2 _ => hk g h1 h2) (fun _ _ h => h)⟩
  rcases ho.2 with h2 | ⟨g, cap, cur, hv, hbg, hg, r⟩
  · exact Or.inl h2
  · exact Or.inr ⟨g, cap, cur, hv, hbg, (hk g hbg (Array.getElem?_eq_some_iff.1 hg).1).trans hg, r⟩
theorem Own_tab.far {w : World} {base n c : Nat} {A : Option Addr} {ts : List Slots} (h : Own_tab w base A n c ts) {a : Addr} (ha : a.block < base) (u : Value) : Own_tab (w.setCell a u) base A n c ts := h.keep (by simp [World.setCell]) (fun g hg _ => Below.heap_setCell w a u g (by omega))
theorem Own_tab.alloc {w : World} {base n c : Nat} {A : Option Addr} {ts : List Slots} (h : Own_tab w base A n c ts) (o : Obj) : Own_tab (w.alloc o) base A n c ts := h.keep (by simp) (fun g _ hg => Below.heap_alloc w o g hg)
theorem Own_tab.below {w w' : World} {base n c B : Nat} {A : Option Addr} {ts : List Slots} (h : Own_tab w base A n c ts) (hB : w.heap.size ≤ B) (hb : Below B w w') : Own_tab w' base A n c ts := h.keep hb.size (fun g _ hg => hb.block g (by omega))
theorem own_sliceG {w : World} {base n size : Nat} {e : TypeId} {v : Value} {xs : List Value} (h : w.ownsRow base e size v n xs) : ∃ A c, v = .slice A n c ∧ w.ownsRow base e size (.slice A n c) n xs := by
  rcases h.2 with ⟨rfl, h0⟩ | ⟨g, cap, cur, rfl, r⟩
  · exact ⟨none, 0, by rw [h0], by rw [h0]; rw [h0] at h; exact h⟩
  · exact ⟨_, _, rfl, h⟩
theorem slots_one (zs : List (Int × Int)) : ∀ u ∈ slots zs, u.oneCell' = true := by
  intro u hu
  obtain ⟨x, _, hu⟩ := List.mem_flatMap.1 hu
  simp only [slotC, List.mem_cons, List.mem_nil_iff, or_false] at hu
  rcases hu with rfl | rfl <;> rfl
theorem ownFar {w : World} {base : Nat} {e : TypeId} {size n : Nat} {v : Value} {xs : List Value} (h : w.ownsRow base e size v n xs) {p : Addr} (hp : p.block < base) (u : Value) : (w.setCell p u).ownsRow base e size v n xs :=
  (Touch.setCell (lo := p.block) (hi := p.block + 1) (Touch.refl _ _ w) (Nat.le_refl _) (Nat.lt_succ_self _) u).own h (fun k hk => by have := (h.lt k hk).1; right; omega)
theorem litG (w : World) {base g size : Nat} {e : TypeId} (hg : w.heap.size = g) (h : base ≤ g) : (w.alloc (.cells #[] e)).ownsRow base e size (.slice (some ⟨g, 0, none⟩) 0 0) 0 [] := by
  subst hg
  exact World.ownsRow_lit w #[] 0 h (Nat.zero_le _) (by simp)
def nthO : List Oper → Nat → Option Oper
  | [], _ => none
  | o :: _, 0 => some o
  | _ :: l, n + 1 => nthO l n
theorem nthO_eq : ∀ (l : List Oper) (i : Nat), l.toArray[i]? = nthO l i
  | [], i => by simp [nthO]
  | o :: l, 0 => by simp [nthO]
  | o :: l, n + 1 => by have := nthO_eq l n; simp at this; simp [nthO, this]
theorem takeO {P : Program} {md : Region.Mode} {l : List Oper} {Q : Exit → Act → World → Prop} {S : World → Prop} {i : Nat} {oi : Oper} {v : Value} {fuel : Nat} {listed : Array Bool} {a : Act} {w : World} (hi : nthO l i = some oi)
    (hs : Region.noSelect l.toArray = true) (hf : Region.free md l.toArray listed i = true) (hr : (Region.ready md l.toArray listed).contains i = true)
    (hQ : ∀ c a w, Q (.panic c) (a.put oi.dst v) w → Q (.panic c) a w) (hy : YieldsIf P l.toArray S oi v a) (hS : S w)
    (h : wpAnyH P md l.toArray Q S fuel (listed.setIfInBounds i true) (a.put oi.dst v) w) : wpAnyH P md l.toArray Q S (fuel + 1) listed a w :=
  wpAnyH_take ((nthO_eq l i).trans hi) hs hf hr hQ hy hS h
theorem own_keepB {w w' : World} {base n size : Nat} {e : TypeId} {v : Value} {xs : List Value} (h : w.ownsRow base e size v n xs) (hk : ∀ g, g < w.heap.size → w'.heap[g]? = w.heap[g]?) : w'.ownsRow base e size v n xs := by
  refine ⟨h.1, ?_⟩
  rcases h.2 with h2 | ⟨g, cap, cur, hv, hb, hg, r⟩
  · exact Or.inl h2
  · exact Or.inr ⟨g, cap, cur, hv, hb, (hk g (Array.getElem?_eq_some_iff.1 hg).1).trans hg, r⟩
theorem Blk.keepB {w w' : World} {g : Nat} {t : TypeId} {cs : Array Value} (h : Blk w g t cs) (hk : ∀ g, g < w.heap.size → w'.heap[g]? = w.heap[g]?) : Blk w' g t cs := (hk g h.lt).trans h
set_option maxRecDepth 100000 in
set_option maxHeartbeats 8000000 in
theorem l11Copy_any (A : Option Addr) (n c : Nat) (ts : List Slots) (now asked : Int) (w : World) (hn : n ≤ 4) (ht : ∀ x ∈ ts, x.length ≤ 12) (hr : Rd_tab w A n ts) :
    Calls Try.prog 31 #[.agg #[.slice A n c, .int .i64 now, .int .i64 asked]] w fun e w' => (∃ A' c', e = .returned (.agg #[.slice A' n c', .int .i64 now, .int .i64 asked]) ∧ Own_tab w' w.heap.size A' n c' ts) ∧ Below w.heap.size w w' := by
  obtain ⟨iS, hiS, hzS0, hzS1, hzS2⟩ := info_parts Try.infoSlot
  obtain ⟨iT, hiT, hzT0, hzT1, hzT2⟩ := info_parts Try.infoSlotSS
  have hlz := Lib.hid hr.len
  have HR := Lib.hid hr
  have HT := Lib.hid ht
  clear hr ht
  go_enter Try.func31, Try.ntmps31
  go_wp2_with fail
  go_loopw [4] (fun i wr => ∃ (k : Nat) (v : Value) (hx : List (Hdr × Slots)), k ≤ n ∧ i = .int .i64 k ∧ w.heap.size + 1 + 1 + 1 ≤ wr.heap.size ∧ Hid (hx.map Prod.snd = ts.take k) ∧ Hid (wr.ownsRow (w.heap.size + 1 + 1 + 1) 43 1 v k (hx.flatMap fun p => tabC p.1 p.2)) ∧ Hid (InnOk wr (w.heap.size + 1 + 1 + 1) v hx) ∧ Hid (Blk wr w.heap.size 30 #[.slice A n c, .int .i64 now, .int .i64 asked]) ∧ Hid (Blk wr (w.heap.size + 1) 30 #[.slice none 0 0, .int .i64 0, .int .i64 0]) ∧ Hid (Blk wr (w.heap.size + 1 + 1) 30 #[v, .int .i64 now, .int .i64 asked]) ∧ Hid (Below w.heap.size w wr)) (fun i _ => n - (intOf i).toNat)
  case atStart => exact ⟨0, .slice none 0 0, [], Nat.zero_le _, rfl, by simp, rfl, World.ownsRow_nil _ _ _ _, (by intro p hp; cases hp), ((Blk.at_ _ _ _ rfl).alloc _).alloc _, (Blk.at_ _ _ _ (by simp)).alloc _, Blk.at_ _ _ _ (by simp), by show Below _ _ _; go_grown⟩
  case round =>
    obtain ⟨k, v, hx, hk, rfl, hsz, HXS, HO, HI, qb, qr, qx, HB⟩ := hrel
    obtain ⟨wo, rfl⟩ : ∃ wo : World, wo = wr := ⟨_, rfl⟩
    by_cases hlt : k < n
    · obtain ⟨b, o, Ai, ni, ci, x, rfl, hbl, hxx, hcx, hni, hnm, hrx⟩ := HR.out.at_ hlt
      have hni12 : ni ≤ 12 := by have := HT.out x (List.mem_of_getElem? hxx); omega
      have HNI : Hid (x.length = ni) := hni
      have HXX := Lib.hid hxx
      have HRX := Lib.hid hrx
      have HCX := Lib.hid hcx
      have j0 := (HB.out.cell (p := ⟨b, o + k, none⟩) hbl).trans hcx
      have kb_0 : wo.cell? ⟨w.heap.size, 0, none⟩ = some (.slice (some ⟨b, o, none⟩) n c) := qb.out.cell 0 rfl
      have fb_0 := qb.out.frozen 0
      have kb_1 : wo.cell? ⟨w.heap.size, 1, none⟩ = some (.int .i64 now) := qb.out.cell 1 rfl
      have fb_1 := qb.out.frozen 1
      have kb_2 : wo.cell? ⟨w.heap.size, 2, none⟩ = some (.int .i64 asked) := qb.out.cell 2 rfl
      have fb_2 := qb.out.frozen 2
      have lb := qb.out.lt
      have kx_0 : wo.cell? ⟨w.heap.size + 1 + 1, 0, none⟩ = some (v) := qx.out.cell 0 rfl
      have fx_0 := qx.out.frozen 0
      have kx_1 : wo.cell? ⟨w.heap.size + 1 + 1, 1, none⟩ = some (.int .i64 now) := qx.out.cell 1 rfl
      have fx_1 := qx.out.frozen 1
      have kx_2 : wo.cell? ⟨w.heap.size + 1 + 1, 2, none⟩ = some (.int .i64 asked) := qx.out.cell 2 rfl
      have fx_2 := qx.out.frozen 2
      have lx := qx.out.lt
      have hk0 : (0 : Int) ≤ (k : Int) := by omega
      have hk1 : (k : Int) < (n : Int) := by omega
      clear hxx hcx hni hnm hrx
      go_wp2
      refine wp_region_held_drew (S := fun w' => w'.cell? ⟨w.heap.size, 0, none⟩ = some (.slice (some ⟨b, o, none⟩) n c) ∧ w'.cell? ⟨b, o + k, none⟩ = some (.slice Ai ni ci)) (by kernel_rfl) ?_ (fun hHeld => ?_)
      · (refine ⟨?_, ?_⟩ <;> (repeat' (first | with_reducible exact kb_0 | with_reducible exact j0 | (with_reducible refine keepS ?_ (by dsimp only; first | exact Nat.ne_of_lt (by assumption) | omega) _) | with_reducible refine keepA ?_ _ | with_reducible refine keepD ?_)))
      refine takeO (i := 0) (v := ?v1) rfl (by kernel_rfl) (by kernel_rfl) (by kernel_rfl) (fun _ _ _ h => h) (Or.inl ⟨by rfl, ?y1⟩) (by assumption) ?r1
      case y1 => (intro wz hSw; (try dsimp only at hSw); go_simp; first | done | with_reducible rfl)
      try simp only [Act.put, List.setIfInBounds_toArray, List.set_cons_zero, List.set_cons_succ]
      refine takeO (i := 3) (v := ?v2) rfl (by kernel_rfl) (by kernel_rfl) (by kernel_rfl) (fun _ _ _ h => h) (Or.inl ⟨by rfl, ?y2⟩) (by assumption) ?r2
      case y2 => (intro wz hSw; (try dsimp only at hSw); go_simp; first | done | with_reducible rfl)
      try simp only [Act.put, List.setIfInBounds_toArray, List.set_cons_zero, List.set_cons_succ]
      refine takeO (i := 5) (v := ?v3) rfl (by kernel_rfl) (by kernel_rfl) (by kernel_rfl) (fun _ _ _ h => h) (Or.inl ⟨by rfl, ?y3⟩) (by assumption) ?r3
      case y3 => (intro wz hSw; (try dsimp only at hSw); go_simp; first | done | with_reducible rfl)
      try simp only [Act.put, List.setIfInBounds_toArray, List.set_cons_zero, List.set_cons_succ]
      refine takeO (i := 4) (v := ?v4) rfl (by kernel_rfl) (by kernel_rfl) (by kernel_rfl) (fun _ _ _ h => h) (Or.inl ⟨by rfl, ?y4⟩) (by assumption) ?r4
      case y4 => (intro wz hSw; (try dsimp only at hSw); go_simp; first | done | with_reducible rfl)
      try simp only [Act.put, List.setIfInBounds_toArray, List.set_cons_zero, List.set_cons_succ]
      refine takeO (i := 6) (v := ?v5) rfl (by kernel_rfl) (by kernel_rfl) (by kernel_rfl) (fun _ _ _ h => h) (Or.inl ⟨by rfl, ?y5⟩) (by assumption) ?r5
      case y5 => (intro wz hSw; (try dsimp only at hSw); go_simp; first | done | with_reducible rfl)
      try simp only [Act.put, List.setIfInBounds_toArray, List.set_cons_zero, List.set_cons_succ]
      refine takeO (i := 7) (v := ?v6) rfl (by kernel_rfl) (by kernel_rfl) (by kernel_rfl) (fun _ _ _ h => h) (Or.inl ⟨by rfl, ?y6⟩) (by assumption) ?r6
      case y6 => (intro wz hSw; (try dsimp only at hSw); go_simp; first | done | with_reducible rfl)
      try simp only [Act.put, List.setIfInBounds_toArray, List.set_cons_zero, List.set_cons_succ]
      refine wpAnyH_ready (rs := [1, 2]) (by kernel_rfl) (by simp) ?_
      refine AllReadyH.cons (o := _) rfl (fun K hK => ?_) (AllReadyH.cons (o := _) rfl (fun K hK => ?_) AllReadyH.nil)
      · go_simp
        refine hK.out _ _ ?_ (fun hHeld2 => ?_)
        · (try dsimp only); (refine ⟨?_, ?_⟩ <;> (repeat' (first | with_reducible exact kb_0 | with_reducible exact j0 | (with_reducible refine keepS ?_ (by dsimp only; first | exact Nat.ne_of_lt (by assumption) | omega) _) | with_reducible refine keepA ?_ _ | with_reducible refine keepD ?_)))
        clear hK K hHeld
        have hHeld := hHeld2
        clear hHeld2
        try simp only [Act.put, List.setIfInBounds_toArray]
        refine wpAnyH_ready (rs := [2]) (by kernel_rfl) (by simp) ?_
        refine AllReadyH.cons (o := _) rfl (fun K hK => ?_) AllReadyH.nil
        go_simp
        refine hK.out _ _ ?_ (fun hHeld2 => ?_)
        · (try dsimp only); (refine ⟨?_, ?_⟩ <;> (repeat' (first | with_reducible exact kb_0 | with_reducible exact j0 | (with_reducible refine keepS ?_ (by dsimp only; first | exact Nat.ne_of_lt (by assumption) | omega) _) | with_reducible refine keepA ?_ _ | with_reducible refine keepD ?_)))
        clear hK K hHeld
        have hHeld := hHeld2
        clear hHeld2
        try simp only [Act.put, List.setIfInBounds_toArray]
        refine wpAnyH_ready (rs := [8]) (by kernel_rfl) (by simp) ?_
        refine AllReadyH.cons (o := _) rfl (fun K hK => ?_) AllReadyH.nil
        refine step_append_rd (by rfl) _ _ _ (by rfl) (w.heap.size + 1 + 1 + 1) 58 iS _ 2 16 Try.underlying43 hiS hzS0 hzS1 hzS2 rfl (by omega) (.slice (some ⟨wo.heap.size, 0, none⟩) 0 0) 0 [] (by rfl) (by first | exact litG _ (by rfl) hsz | exact ownD (litG _ (by rfl) hsz)) Ai ni ci (slots x) (by rfl) (by first | exact (HRX.out.below (Nat.le_refl _) HB.out).alloc _ | exact ((HRX.out.below (Nat.le_refl _) HB.out).alloc _).drew) (slots_one x) (by unfold maxLen; omega) (by omega) (by first | (simp; omega) | omega) ?_
        intro vI wI hoI hgI hatI
        have hsI : wo.heap.size + 1 ≤ wI.heap.size := (by have := hgI.size; simpa using this)
        have HKI : Hid (∀ g, g < wo.heap.size → wI.heap[g]? = wo.heap[g]?) := (fun g hg => (hgI.block g (by simp; omega) (fun e => by have e2 : some g = some wo.heap.size := e; have := Option.some.inj e2; omega)).trans (Below.heap_alloc wo _ g hg))
        have hoI1 : wI.ownsRow (w.heap.size + 1 + 1 + 1) 58 2 vI ni (slots x) := (by have h := hoI; rw [Nat.zero_add, List.nil_append] at h; exact h)
        obtain ⟨A1, c1, rfl, hoI2⟩ := own_sliceG hoI1
        have HI1 : Hid (InnOk wI (w.heap.size + 1 + 1 + 1) v (hx ++ [((A1, ni, c1), x)])) := ((HI.out.keep (by omega) (fun g _ hg _ => HKI.out g hg) (fun _ _ h => h)).snoc HNI.out (by unfold maxLen; omega) (Rd.of_own hoI2) (fun a ha => by subst ha; refine ⟨(hoI2.lt a.block rfl).1, (hoI2.lt a.block rfl).2, fun e => ?_⟩; have h9 := (HO.out.lt _ e).2; rcases hatI with h | h; (have e3 : some a.block = some wo.heap.size := h; have := Option.some.inj e3; omega); (have := Option.some.inj h; simp at this; omega)))
        have HOv : Hid (wI.ownsRow (w.heap.size + 1 + 1 + 1) 43 1 v k (hx.flatMap fun p => tabC p.1 p.2)) := own_keepB HO.out HKI.out
        have HBI : Hid (Below w.heap.size w wI) := below_own (size := 2) (base := (w.heap.size + 1 + 1 + 1)) (by first | exact HB.out.alloc (by omega) _ | exact Below.drew (HB.out.alloc (by omega) _)) (by first | exact litG _ (by rfl) hsz | exact ownD (litG _ (by rfl) hsz)) (by omega) (by first | (simp; omega) | omega) hgI
        have qb : Hid (Blk wI (w.heap.size) 30 #[.slice (some ⟨b, o, none⟩) n c, .int .i64 now, .int .i64 asked]) := qb.out.keepB HKI.out
        have qr : Hid (Blk wI (w.heap.size + 1) 30 #[.slice none 0 0, .int .i64 0, .int .i64 0]) := qr.out.keepB HKI.out
        have qx : Hid (Blk wI (w.heap.size + 1 + 1) 30 #[v, .int .i64 now, .int .i64 asked]) := qx.out.keepB HKI.out
        clear lb kb_0 fb_0 kb_1 fb_1 kb_2 fb_2 lx kx_0 fx_0 kx_1 fx_1 kx_2 fx_2 j0
        clear hoI hgI hatI hoI1 hoI2
        have kb_0 : wI.cell? ⟨w.heap.size, 0, none⟩ = some (.slice (some ⟨b, o, none⟩) n c) := qb.out.cell 0 rfl
        have fb_0 := qb.out.frozen 0
        have kb_1 : wI.cell? ⟨w.heap.size, 1, none⟩ = some (.int .i64 now) := qb.out.cell 1 rfl
        have fb_1 := qb.out.frozen 1
        have kb_2 : wI.cell? ⟨w.heap.size, 2, none⟩ = some (.int .i64 asked) := qb.out.cell 2 rfl
        have fb_2 := qb.out.frozen 2
        have lb := qb.out.lt
        have kx_0 : wI.cell? ⟨w.heap.size + 1 + 1, 0, none⟩ = some (v) := qx.out.cell 0 rfl
        have fx_0 := qx.out.frozen 0
        have kx_1 : wI.cell? ⟨w.heap.size + 1 + 1, 1, none⟩ = some (.int .i64 now) := qx.out.cell 1 rfl
        have fx_1 := qx.out.frozen 1
        have kx_2 : wI.cell? ⟨w.heap.size + 1 + 1, 2, none⟩ = some (.int .i64 asked) := qx.out.cell 2 rfl
        have fx_2 := qx.out.frozen 2
        have lx := qx.out.lt
        have j0 := (HBI.out.cell (p := ⟨b, o + k, none⟩) hbl).trans HCX.out
        refine hK.out _ _ ?_ (fun hHeld2 => ?_)
        · (try dsimp only); (refine ⟨?_, ?_⟩ <;> (repeat' (first | with_reducible exact kb_0 | with_reducible exact j0 | (with_reducible refine keepS ?_ (by dsimp only; first | exact Nat.ne_of_lt (by assumption) | omega) _) | with_reducible refine keepA ?_ _ | with_reducible refine keepD ?_)))
        clear hK K hHeld
        have hHeld := hHeld2
        clear hHeld2
        try simp only [Act.put, List.setIfInBounds_toArray]
        refine wpAnyH_ready (rs := [9]) (by kernel_rfl) (by simp) ?_
        refine AllReadyH.cons (o := _) rfl (fun K hK => ?_) AllReadyH.nil
        go_simp
        refine hK.out _ _ ?_ (fun hHeld2 => ?_)
        · (try dsimp only); (refine ⟨?_, ?_⟩ <;> (repeat' (first | with_reducible exact kb_0 | with_reducible exact j0 | (with_reducible refine keepS ?_ (by dsimp only; first | exact Nat.ne_of_lt (by assumption) | omega) _) | with_reducible refine keepA ?_ _ | with_reducible refine keepD ?_)))
        clear hK K hHeld
        have hHeld := hHeld2
        clear hHeld2
        try simp only [Act.put, List.setIfInBounds_toArray]
        refine wpAnyH_ready (rs := [10]) (by kernel_rfl) (by simp) ?_
        refine AllReadyH.cons (o := _) rfl (fun K hK => ?_) AllReadyH.nil
        refine step_append_rd (by rfl) _ _ _ (by rfl) (w.heap.size + 1 + 1 + 1) 43 iT _ 1 24 Try.underlying28 hiT hzT0 hzT1 hzT2 rfl (by omega) v k (hx.flatMap fun p => tabC p.1 p.2) (by rfl) (HOv.out.alloc _) (some ⟨wI.heap.size, 0, none⟩) 1 1 [.slice A1 ni c1] (by rfl) (rd_new rfl rfl) (by intro u hu; rw [List.mem_singleton.1 hu]; rfl) (by unfold maxLen; omega) (by omega) (by first | (simp; omega) | omega) ?_
        intro vO wO hoO hgO hatO
        obtain ⟨AO, cO, rfl, _⟩ := own_sliceG hoO
        have hsO : wI.heap.size + 1 ≤ wO.heap.size := (by have := hgO.size; simpa using this)
        have HOO : Hid (wO.ownsRow (w.heap.size + 1 + 1 + 1) 43 1 (.slice AO (k + 1) cO) (k + 1) ((hx ++ [((A1, ni, c1), x)]).flatMap fun p => tabC p.1 p.2)) := (by show World.ownsRow _ _ _ _ _ _ _; rw [List.flatMap_append]; exact hoO)
        have HIO : Hid (InnOk wO (w.heap.size + 1 + 1 + 1) (.slice AO (k + 1) cO) (hx ++ [((A1, ni, c1), x)])) := HI1.out.keep (by omega) (fun g _ hg2 hg3 => (hgO.block g (by simp; omega) (fun e => hg3 e.symm)).trans (Below.heap_alloc wI _ g hg2)) (fun g hg h9 e => by rcases hatO with h | h; (exact h9 (h.symm.trans e)); (have := Option.some.inj (h.symm.trans e); simp at this; omega))
        have HBO : Hid (Below w.heap.size w wO) := below_own (size := 1) (base := (w.heap.size + 1 + 1 + 1)) (HBI.out.alloc (by omega) _) (HOv.out.alloc _) (by omega) (by first | (simp; omega) | omega) hgO
        have qb : Hid (Blk wO (w.heap.size) 30 #[.slice (some ⟨b, o, none⟩) n c, .int .i64 now, .int .i64 asked]) := Blk.grown (qb.out.alloc _) hgO (fun k9 hk9 => by have := (HOv.out.lt k9 hk9).1; omega)
        have qr : Hid (Blk wO (w.heap.size + 1) 30 #[.slice none 0 0, .int .i64 0, .int .i64 0]) := Blk.grown (qr.out.alloc _) hgO (fun k9 hk9 => by have := (HOv.out.lt k9 hk9).1; omega)
        have qx : Hid (Blk wO (w.heap.size + 1 + 1) 30 #[v, .int .i64 now, .int .i64 asked]) := Blk.grown (qx.out.alloc _) hgO (fun k9 hk9 => by have := (HOv.out.lt k9 hk9).1; omega)
        clear lb kb_0 fb_0 kb_1 fb_1 kb_2 fb_2 lx kx_0 fx_0 kx_1 fx_1 kx_2 fx_2 j0
        clear hoO hgO hatO
        have kb_0 : wO.cell? ⟨w.heap.size, 0, none⟩ = some (.slice (some ⟨b, o, none⟩) n c) := qb.out.cell 0 rfl
        have fb_0 := qb.out.frozen 0
        have kb_1 : wO.cell? ⟨w.heap.size, 1, none⟩ = some (.int .i64 now) := qb.out.cell 1 rfl
        have fb_1 := qb.out.frozen 1
        have kb_2 : wO.cell? ⟨w.heap.size, 2, none⟩ = some (.int .i64 asked) := qb.out.cell 2 rfl
        have fb_2 := qb.out.frozen 2
        have lb := qb.out.lt
        have kx_0 : wO.cell? ⟨w.heap.size + 1 + 1, 0, none⟩ = some (v) := qx.out.cell 0 rfl
        have fx_0 := qx.out.frozen 0
        have kx_1 : wO.cell? ⟨w.heap.size + 1 + 1, 1, none⟩ = some (.int .i64 now) := qx.out.cell 1 rfl
        have fx_1 := qx.out.frozen 1
        have kx_2 : wO.cell? ⟨w.heap.size + 1 + 1, 2, none⟩ = some (.int .i64 asked) := qx.out.cell 2 rfl
        have fx_2 := qx.out.frozen 2
        have lx := qx.out.lt
        have j0 := (HBO.out.cell (p := ⟨b, o + k, none⟩) hbl).trans HCX.out
        refine hK.out _ _ ?_ (fun hHeld2 => ?_)
        · (try dsimp only); (refine ⟨?_, ?_⟩ <;> (repeat' (first | with_reducible exact kb_0 | with_reducible exact j0 | (with_reducible refine keepS ?_ (by dsimp only; first | exact Nat.ne_of_lt (by assumption) | omega) _) | with_reducible refine keepA ?_ _ | with_reducible refine keepD ?_)))
        clear hK K hHeld
        have hHeld := hHeld2
        clear hHeld2
        try simp only [Act.put, List.setIfInBounds_toArray]
        refine wpAnyH_ready (rs := [11]) (by kernel_rfl) (by simp) ?_
        refine AllReadyH.cons (o := _) rfl (fun K hK => ?_) AllReadyH.nil
        go_simp
        refine hK.out _ _ ?_ (fun hHeld2 => ?_)
        · (try dsimp only); (refine ⟨?_, ?_⟩ <;> (repeat' (first | with_reducible exact kb_0 | with_reducible exact j0 | (with_reducible refine keepS ?_ (by dsimp only; first | exact Nat.ne_of_lt (by assumption) | omega) _) | with_reducible refine keepA ?_ _ | with_reducible refine keepD ?_)))
        clear hK K hHeld
        have hHeld := hHeld2
        clear hHeld2
        try simp only [Act.put, List.setIfInBounds_toArray]
        refine wpAnyH_ready (rs := [12]) (by kernel_rfl) (by simp) ?_
        refine AllReadyH.cons (o := _) rfl (fun K hK => ?_) AllReadyH.nil
        go_simp
        refine hK.out _ _ ?_ (fun hHeld2 => ?_)
        · (try dsimp only); (refine ⟨?_, ?_⟩ <;> (repeat' (first | with_reducible exact kb_0 | with_reducible exact j0 | (with_reducible refine keepS ?_ (by dsimp only; first | exact Nat.ne_of_lt (by assumption) | omega) _) | with_reducible refine keepA ?_ _ | with_reducible refine keepD ?_)))
        clear hK K hHeld
        have hHeld := hHeld2
        clear hHeld2
        try simp only [Act.put]
        refine wpAnyH_done (by kernel_rfl) ?_ _
        go_wp2
        go_roundw
        case rel => exact ⟨k + 1, .slice AO (k + 1) cO, hx ++ [((A1, ni, c1), x)], by omega, by go_num, by simp [World.setCell]; omega, (by show _ = _; rw [List.map_append, HXS.out, take_snoc HXX.out]; rfl), ownFar HOO.out (by dsimp only; omega) _, HIO.out.far (by dsimp only; omega) _, qb.out.far (by dsimp only; omega) _, qr.out.far (by dsimp only; omega) _, qx.out.set_ 0 _, HBO.out.setCell (by dsimp only; omega) _⟩
        case measure => simp [intOf]; omega
      · go_simp
        refine hK.out _ _ ?_ (fun hHeld2 => ?_)
        · (try dsimp only); (refine ⟨?_, ?_⟩ <;> (repeat' (first | with_reducible exact kb_0 | with_reducible exact j0 | (with_reducible refine keepS ?_ (by dsimp only; first | exact Nat.ne_of_lt (by assumption) | omega) _) | with_reducible refine keepA ?_ _ | with_reducible refine keepD ?_)))
        clear hK K hHeld
        have hHeld := hHeld2
        clear hHeld2
        try simp only [Act.put, List.setIfInBounds_toArray]
        refine wpAnyH_ready (rs := [1, 8]) (by kernel_rfl) (by simp) ?_
        refine AllReadyH.cons (o := _) rfl (fun K hK => ?_) (AllReadyH.cons (o := _) rfl (fun K hK => ?_) AllReadyH.nil)
        · go_simp
          refine hK.out _ _ ?_ (fun hHeld2 => ?_)
          · (try dsimp only); (refine ⟨?_, ?_⟩ <;> (repeat' (first | with_reducible exact kb_0 | with_reducible exact j0 | (with_reducible refine keepS ?_ (by dsimp only; first | exact Nat.ne_of_lt (by assumption) | omega) _) | with_reducible refine keepA ?_ _ | with_reducible refine keepD ?_)))
          clear hK K hHeld
          have hHeld := hHeld2
          clear hHeld2
          try simp only [Act.put, List.setIfInBounds_toArray]
          refine wpAnyH_ready (rs := [8]) (by kernel_rfl) (by simp) ?_
          refine AllReadyH.cons (o := _) rfl (fun K hK => ?_) AllReadyH.nil
          refine step_append_rd (by rfl) _ _ _ (by rfl) (w.heap.size + 1 + 1 + 1) 58 iS _ 2 16 Try.underlying43 hiS hzS0 hzS1 hzS2 rfl (by omega) (.slice (some ⟨wo.heap.size, 0, none⟩) 0 0) 0 [] (by rfl) (by first | exact litG _ (by rfl) hsz | exact ownD (litG _ (by rfl) hsz)) Ai ni ci (slots x) (by rfl) (by first | exact (HRX.out.below (Nat.le_refl _) HB.out).alloc _ | exact ((HRX.out.below (Nat.le_refl _) HB.out).alloc _).drew) (slots_one x) (by unfold maxLen; omega) (by omega) (by first | (simp; omega) | omega) ?_
          intro vI wI hoI hgI hatI
          have hsI : wo.heap.size + 1 ≤ wI.heap.size := (by have := hgI.size; simpa using this)
          have HKI : Hid (∀ g, g < wo.heap.size → wI.heap[g]? = wo.heap[g]?) := (fun g hg => (hgI.block g (by simp; omega) (fun e => by have e2 : some g = some wo.heap.size := e; have := Option.some.inj e2; omega)).trans (Below.heap_alloc wo _ g hg))
          have hoI1 : wI.ownsRow (w.heap.size + 1 + 1 + 1) 58 2 vI ni (slots x) := (by have h := hoI; rw [Nat.zero_add, List.nil_append] at h; exact h)
          obtain ⟨A1, c1, rfl, hoI2⟩ := own_sliceG hoI1
          have HI1 : Hid (InnOk wI (w.heap.size + 1 + 1 + 1) v (hx ++ [((A1, ni, c1), x)])) := ((HI.out.keep (by omega) (fun g _ hg _ => HKI.out g hg) (fun _ _ h => h)).snoc HNI.out (by unfold maxLen; omega) (Rd.of_own hoI2) (fun a ha => by subst ha; refine ⟨(hoI2.lt a.block rfl).1, (hoI2.lt a.block rfl).2, fun e => ?_⟩; have h9 := (HO.out.lt _ e).2; rcases hatI with h | h; (have e3 : some a.block = some wo.heap.size := h; have := Option.some.inj e3; omega); (have := Option.some.inj h; simp at this; omega)))
          have HOv : Hid (wI.ownsRow (w.heap.size + 1 + 1 + 1) 43 1 v k (hx.flatMap fun p => tabC p.1 p.2)) := own_keepB HO.out HKI.out
          have HBI : Hid (Below w.heap.size w wI) := below_own (size := 2) (base := (w.heap.size + 1 + 1 + 1)) (by first | exact HB.out.alloc (by omega) _ | exact Below.drew (HB.out.alloc (by omega) _)) (by first | exact litG _ (by rfl) hsz | exact ownD (litG _ (by rfl) hsz)) (by omega) (by first | (simp; omega) | omega) hgI
          have qb : Hid (Blk wI (w.heap.size) 30 #[.slice (some ⟨b, o, none⟩) n c, .int .i64 now, .int .i64 asked]) := qb.out.keepB HKI.out
          have qr : Hid (Blk wI (w.heap.size + 1) 30 #[.slice none 0 0, .int .i64 0, .int .i64 0]) := qr.out.keepB HKI.out
          have qx : Hid (Blk wI (w.heap.size + 1 + 1) 30 #[v, .int .i64 now, .int .i64 asked]) := qx.out.keepB HKI.out
          clear lb kb_0 fb_0 kb_1 fb_1 kb_2 fb_2 lx kx_0 fx_0 kx_1 fx_1 kx_2 fx_2 j0
          clear hoI hgI hatI hoI1 hoI2
          have kb_0 : wI.cell? ⟨w.heap.size, 0, none⟩ = some (.slice (some ⟨b, o, none⟩) n c) := qb.out.cell 0 rfl
          have fb_0 := qb.out.frozen 0
          have kb_1 : wI.cell? ⟨w.heap.size, 1, none⟩ = some (.int .i64 now) := qb.out.cell 1 rfl
          have fb_1 := qb.out.frozen 1
          have kb_2 : wI.cell? ⟨w.heap.size, 2, none⟩ = some (.int .i64 asked) := qb.out.cell 2 rfl
          have fb_2 := qb.out.frozen 2
          have lb := qb.out.lt
          have kx_0 : wI.cell? ⟨w.heap.size + 1 + 1, 0, none⟩ = some (v) := qx.out.cell 0 rfl
          have fx_0 := qx.out.frozen 0
          have kx_1 : wI.cell? ⟨w.heap.size + 1 + 1, 1, none⟩ = some (.int .i64 now) := qx.out.cell 1 rfl
          have fx_1 := qx.out.frozen 1
          have kx_2 : wI.cell? ⟨w.heap.size + 1 + 1, 2, none⟩ = some (.int .i64 asked) := qx.out.cell 2 rfl
          have fx_2 := qx.out.frozen 2
          have lx := qx.out.lt
          have j0 := (HBI.out.cell (p := ⟨b, o + k, none⟩) hbl).trans HCX.out
          refine hK.out _ _ ?_ (fun hHeld2 => ?_)
          · (try dsimp only); (refine ⟨?_, ?_⟩ <;> (repeat' (first | with_reducible exact kb_0 | with_reducible exact j0 | (with_reducible refine keepS ?_ (by dsimp only; first | exact Nat.ne_of_lt (by assumption) | omega) _) | with_reducible refine keepA ?_ _ | with_reducible refine keepD ?_)))
          clear hK K hHeld
          have hHeld := hHeld2
          clear hHeld2
          try simp only [Act.put, List.setIfInBounds_toArray]
          refine wpAnyH_ready (rs := [9]) (by kernel_rfl) (by simp) ?_
          refine AllReadyH.cons (o := _) rfl (fun K hK => ?_) AllReadyH.nil
          go_simp
          refine hK.out _ _ ?_ (fun hHeld2 => ?_)
          · (try dsimp only); (refine ⟨?_, ?_⟩ <;> (repeat' (first | with_reducible exact kb_0 | with_reducible exact j0 | (with_reducible refine keepS ?_ (by dsimp only; first | exact Nat.ne_of_lt (by assumption) | omega) _) | with_reducible refine keepA ?_ _ | with_reducible refine keepD ?_)))
          clear hK K hHeld
          have hHeld := hHeld2
          clear hHeld2
          try simp only [Act.put, List.setIfInBounds_toArray]
          refine wpAnyH_ready (rs := [10]) (by kernel_rfl) (by simp) ?_
          refine AllReadyH.cons (o := _) rfl (fun K hK => ?_) AllReadyH.nil
          refine step_append_rd (by rfl) _ _ _ (by rfl) (w.heap.size + 1 + 1 + 1) 43 iT _ 1 24 Try.underlying28 hiT hzT0 hzT1 hzT2 rfl (by omega) v k (hx.flatMap fun p => tabC p.1 p.2) (by rfl) (HOv.out.alloc _) (some ⟨wI.heap.size, 0, none⟩) 1 1 [.slice A1 ni c1] (by rfl) (rd_new rfl rfl) (by intro u hu; rw [List.mem_singleton.1 hu]; rfl) (by unfold maxLen; omega) (by omega) (by first | (simp; omega) | omega) ?_
          intro vO wO hoO hgO hatO
          obtain ⟨AO, cO, rfl, _⟩ := own_sliceG hoO
          have hsO : wI.heap.size + 1 ≤ wO.heap.size := (by have := hgO.size; simpa using this)
          have HOO : Hid (wO.ownsRow (w.heap.size + 1 + 1 + 1) 43 1 (.slice AO (k + 1) cO) (k + 1) ((hx ++ [((A1, ni, c1), x)]).flatMap fun p => tabC p.1 p.2)) := (by show World.ownsRow _ _ _ _ _ _ _; rw [List.flatMap_append]; exact hoO)
          have HIO : Hid (InnOk wO (w.heap.size + 1 + 1 + 1) (.slice AO (k + 1) cO) (hx ++ [((A1, ni, c1), x)])) := HI1.out.keep (by omega) (fun g _ hg2 hg3 => (hgO.block g (by simp; omega) (fun e => hg3 e.symm)).trans (Below.heap_alloc wI _ g hg2)) (fun g hg h9 e => by rcases hatO with h | h; (exact h9 (h.symm.trans e)); (have := Option.some.inj (h.symm.trans e); simp at this; omega))
          have HBO : Hid (Below w.heap.size w wO) := below_own (size := 1) (base := (w.heap.size + 1 + 1 + 1)) (HBI.out.alloc (by omega) _) (HOv.out.alloc _) (by omega) (by first | (simp; omega) | omega) hgO
          have qb : Hid (Blk wO (w.heap.size) 30 #[.slice (some ⟨b, o, none⟩) n c, .int .i64 now, .int .i64 asked]) := Blk.grown (qb.out.alloc _) hgO (fun k9 hk9 => by have := (HOv.out.lt k9 hk9).1; omega)
          have qr : Hid (Blk wO (w.heap.size + 1) 30 #[.slice none 0 0, .int .i64 0, .int .i64 0]) := Blk.grown (qr.out.alloc _) hgO (fun k9 hk9 => by have := (HOv.out.lt k9 hk9).1; omega)
          have qx : Hid (Blk wO (w.heap.size + 1 + 1) 30 #[v, .int .i64 now, .int .i64 asked]) := Blk.grown (qx.out.alloc _) hgO (fun k9 hk9 => by have := (HOv.out.lt k9 hk9).1; omega)
          clear lb kb_0 fb_0 kb_1 fb_1 kb_2 fb_2 lx kx_0 fx_0 kx_1 fx_1 kx_2 fx_2 j0
          clear hoO hgO hatO
          have kb_0 : wO.cell? ⟨w.heap.size, 0, none⟩ = some (.slice (some ⟨b, o, none⟩) n c) := qb.out.cell 0 rfl
          have fb_0 := qb.out.frozen 0
          have kb_1 : wO.cell? ⟨w.heap.size, 1, none⟩ = some (.int .i64 now) := qb.out.cell 1 rfl
          have fb_1 := qb.out.frozen 1
          have kb_2 : wO.cell? ⟨w.heap.size, 2, none⟩ = some (.int .i64 asked) := qb.out.cell 2 rfl
          have fb_2 := qb.out.frozen 2
          have lb := qb.out.lt
          have kx_0 : wO.cell? ⟨w.heap.size + 1 + 1, 0, none⟩ = some (v) := qx.out.cell 0 rfl
          have fx_0 := qx.out.frozen 0
          have kx_1 : wO.cell? ⟨w.heap.size + 1 + 1, 1, none⟩ = some (.int .i64 now) := qx.out.cell 1 rfl
          have fx_1 := qx.out.frozen 1
          have kx_2 : wO.cell? ⟨w.heap.size + 1 + 1, 2, none⟩ = some (.int .i64 asked) := qx.out.cell 2 rfl
          have fx_2 := qx.out.frozen 2
          have lx := qx.out.lt
          have j0 := (HBO.out.cell (p := ⟨b, o + k, none⟩) hbl).trans HCX.out
          refine hK.out _ _ ?_ (fun hHeld2 => ?_)
          · (try dsimp only); (refine ⟨?_, ?_⟩ <;> (repeat' (first | with_reducible exact kb_0 | with_reducible exact j0 | (with_reducible refine keepS ?_ (by dsimp only; first | exact Nat.ne_of_lt (by assumption) | omega) _) | with_reducible refine keepA ?_ _ | with_reducible refine keepD ?_)))
          clear hK K hHeld
          have hHeld := hHeld2
          clear hHeld2
          try simp only [Act.put, List.setIfInBounds_toArray]
          refine wpAnyH_ready (rs := [11]) (by kernel_rfl) (by simp) ?_
          refine AllReadyH.cons (o := _) rfl (fun K hK => ?_) AllReadyH.nil
          go_simp
          refine hK.out _ _ ?_ (fun hHeld2 => ?_)
          · (try dsimp only); (refine ⟨?_, ?_⟩ <;> (repeat' (first | with_reducible exact kb_0 | with_reducible exact j0 | (with_reducible refine keepS ?_ (by dsimp only; first | exact Nat.ne_of_lt (by assumption) | omega) _) | with_reducible refine keepA ?_ _ | with_reducible refine keepD ?_)))
          clear hK K hHeld
          have hHeld := hHeld2
          clear hHeld2
          try simp only [Act.put, List.setIfInBounds_toArray]
          refine wpAnyH_ready (rs := [12]) (by kernel_rfl) (by simp) ?_
          refine AllReadyH.cons (o := _) rfl (fun K hK => ?_) AllReadyH.nil
          go_simp
          refine hK.out _ _ ?_ (fun hHeld2 => ?_)
          · (try dsimp only); (refine ⟨?_, ?_⟩ <;> (repeat' (first | with_reducible exact kb_0 | with_reducible exact j0 | (with_reducible refine keepS ?_ (by dsimp only; first | exact Nat.ne_of_lt (by assumption) | omega) _) | with_reducible refine keepA ?_ _ | with_reducible refine keepD ?_)))
          clear hK K hHeld
          have hHeld := hHeld2
          clear hHeld2
          try simp only [Act.put]
          refine wpAnyH_done (by kernel_rfl) ?_ _
          go_wp2
          go_roundw
          case rel => exact ⟨k + 1, .slice AO (k + 1) cO, hx ++ [((A1, ni, c1), x)], by omega, by go_num, by simp [World.setCell]; omega, (by show _ = _; rw [List.map_append, HXS.out, take_snoc HXX.out]; rfl), ownFar HOO.out (by dsimp only; omega) _, HIO.out.far (by dsimp only; omega) _, qb.out.far (by dsimp only; omega) _, qr.out.far (by dsimp only; omega) _, qx.out.set_ 0 _, HBO.out.setCell (by dsimp only; omega) _⟩
          case measure => simp [intOf]; omega
        · refine step_append_rd (by rfl) _ _ _ (by rfl) (w.heap.size + 1 + 1 + 1) 58 iS _ 2 16 Try.underlying43 hiS hzS0 hzS1 hzS2 rfl (by omega) (.slice (some ⟨wo.heap.size, 0, none⟩) 0 0) 0 [] (by rfl) (by first | exact litG _ (by rfl) hsz | exact ownD (litG _ (by rfl) hsz)) Ai ni ci (slots x) (by rfl) (by first | exact (HRX.out.below (Nat.le_refl _) HB.out).alloc _ | exact ((HRX.out.below (Nat.le_refl _) HB.out).alloc _).drew) (slots_one x) (by unfold maxLen; omega) (by omega) (by first | (simp; omega) | omega) ?_
          intro vI wI hoI hgI hatI
          have hsI : wo.heap.size + 1 ≤ wI.heap.size := (by have := hgI.size; simpa using this)
          have HKI : Hid (∀ g, g < wo.heap.size → wI.heap[g]? = wo.heap[g]?) := (fun g hg => (hgI.block g (by simp; omega) (fun e => by have e2 : some g = some wo.heap.size := e; have := Option.some.inj e2; omega)).trans (Below.heap_alloc wo _ g hg))
          have hoI1 : wI.ownsRow (w.heap.size + 1 + 1 + 1) 58 2 vI ni (slots x) := (by have h := hoI; rw [Nat.zero_add, List.nil_append] at h; exact h)
          obtain ⟨A1, c1, rfl, hoI2⟩ := own_sliceG hoI1
          have HI1 : Hid (InnOk wI (w.heap.size + 1 + 1 + 1) v (hx ++ [((A1, ni, c1), x)])) := ((HI.out.keep (by omega) (fun g _ hg _ => HKI.out g hg) (fun _ _ h => h)).snoc HNI.out (by unfold maxLen; omega) (Rd.of_own hoI2) (fun a ha => by subst ha; refine ⟨(hoI2.lt a.block rfl).1, (hoI2.lt a.block rfl).2, fun e => ?_⟩; have h9 := (HO.out.lt _ e).2; rcases hatI with h | h; (have e3 : some a.block = some wo.heap.size := h; have := Option.some.inj e3; omega); (have := Option.some.inj h; simp at this; omega)))
          have HOv : Hid (wI.ownsRow (w.heap.size + 1 + 1 + 1) 43 1 v k (hx.flatMap fun p => tabC p.1 p.2)) := own_keepB HO.out HKI.out
          have HBI : Hid (Below w.heap.size w wI) := below_own (size := 2) (base := (w.heap.size + 1 + 1 + 1)) (by first | exact HB.out.alloc (by omega) _ | exact Below.drew (HB.out.alloc (by omega) _)) (by first | exact litG _ (by rfl) hsz | exact ownD (litG _ (by rfl) hsz)) (by omega) (by first | (simp; omega) | omega) hgI
          have qb : Hid (Blk wI (w.heap.size) 30 #[.slice (some ⟨b, o, none⟩) n c, .int .i64 now, .int .i64 asked]) := qb.out.keepB HKI.out
          have qr : Hid (Blk wI (w.heap.size + 1) 30 #[.slice none 0 0, .int .i64 0, .int .i64 0]) := qr.out.keepB HKI.out
          have qx : Hid (Blk wI (w.heap.size + 1 + 1) 30 #[v, .int .i64 now, .int .i64 asked]) := qx.out.keepB HKI.out
          clear lb kb_0 fb_0 kb_1 fb_1 kb_2 fb_2 lx kx_0 fx_0 kx_1 fx_1 kx_2 fx_2 j0
          clear hoI hgI hatI hoI1 hoI2
          have kb_0 : wI.cell? ⟨w.heap.size, 0, none⟩ = some (.slice (some ⟨b, o, none⟩) n c) := qb.out.cell 0 rfl
          have fb_0 := qb.out.frozen 0
          have kb_1 : wI.cell? ⟨w.heap.size, 1, none⟩ = some (.int .i64 now) := qb.out.cell 1 rfl
          have fb_1 := qb.out.frozen 1
          have kb_2 : wI.cell? ⟨w.heap.size, 2, none⟩ = some (.int .i64 asked) := qb.out.cell 2 rfl
          have fb_2 := qb.out.frozen 2
          have lb := qb.out.lt
          have kx_0 : wI.cell? ⟨w.heap.size + 1 + 1, 0, none⟩ = some (v) := qx.out.cell 0 rfl
          have fx_0 := qx.out.frozen 0
          have kx_1 : wI.cell? ⟨w.heap.size + 1 + 1, 1, none⟩ = some (.int .i64 now) := qx.out.cell 1 rfl
          have fx_1 := qx.out.frozen 1
          have kx_2 : wI.cell? ⟨w.heap.size + 1 + 1, 2, none⟩ = some (.int .i64 asked) := qx.out.cell 2 rfl
          have fx_2 := qx.out.frozen 2
          have lx := qx.out.lt
          have j0 := (HBI.out.cell (p := ⟨b, o + k, none⟩) hbl).trans HCX.out
          refine hK.out _ _ ?_ (fun hHeld2 => ?_)
          · (try dsimp only); (refine ⟨?_, ?_⟩ <;> (repeat' (first | with_reducible exact kb_0 | with_reducible exact j0 | (with_reducible refine keepS ?_ (by dsimp only; first | exact Nat.ne_of_lt (by assumption) | omega) _) | with_reducible refine keepA ?_ _ | with_reducible refine keepD ?_)))
          clear hK K hHeld
          have hHeld := hHeld2
          clear hHeld2
          try simp only [Act.put, List.setIfInBounds_toArray]
          refine wpAnyH_ready (rs := [1, 9]) (by kernel_rfl) (by simp) ?_
          refine AllReadyH.cons (o := _) rfl (fun K hK => ?_) (AllReadyH.cons (o := _) rfl (fun K hK => ?_) AllReadyH.nil)
          · go_simp
            refine hK.out _ _ ?_ (fun hHeld2 => ?_)
            · (try dsimp only); (refine ⟨?_, ?_⟩ <;> (repeat' (first | with_reducible exact kb_0 | with_reducible exact j0 | (with_reducible refine keepS ?_ (by dsimp only; first | exact Nat.ne_of_lt (by assumption) | omega) _) | with_reducible refine keepA ?_ _ | with_reducible refine keepD ?_)))
            clear hK K hHeld
            have hHeld := hHeld2
            clear hHeld2
            try simp only [Act.put, List.setIfInBounds_toArray]
            refine wpAnyH_ready (rs := [9]) (by kernel_rfl) (by simp) ?_
            refine AllReadyH.cons (o := _) rfl (fun K hK => ?_) AllReadyH.nil
            go_simp
            refine hK.out _ _ ?_ (fun hHeld2 => ?_)
            · (try dsimp only); (refine ⟨?_, ?_⟩ <;> (repeat' (first | with_reducible exact kb_0 | with_reducible exact j0 | (with_reducible refine keepS ?_ (by dsimp only; first | exact Nat.ne_of_lt (by assumption) | omega) _) | with_reducible refine keepA ?_ _ | with_reducible refine keepD ?_)))
            clear hK K hHeld
            have hHeld := hHeld2
            clear hHeld2
            try simp only [Act.put, List.setIfInBounds_toArray]
            refine wpAnyH_ready (rs := [10]) (by kernel_rfl) (by simp) ?_
            refine AllReadyH.cons (o := _) rfl (fun K hK => ?_) AllReadyH.nil
            refine step_append_rd (by rfl) _ _ _ (by rfl) (w.heap.size + 1 + 1 + 1) 43 iT _ 1 24 Try.underlying28 hiT hzT0 hzT1 hzT2 rfl (by omega) v k (hx.flatMap fun p => tabC p.1 p.2) (by rfl) (HOv.out.alloc _) (some ⟨wI.heap.size, 0, none⟩) 1 1 [.slice A1 ni c1] (by rfl) (rd_new rfl rfl) (by intro u hu; rw [List.mem_singleton.1 hu]; rfl) (by unfold maxLen; omega) (by omega) (by first | (simp; omega) | omega) ?_
            intro vO wO hoO hgO hatO
            obtain ⟨AO, cO, rfl, _⟩ := own_sliceG hoO
            have hsO : wI.heap.size + 1 ≤ wO.heap.size := (by have := hgO.size; simpa using this)
            have HOO : Hid (wO.ownsRow (w.heap.size + 1 + 1 + 1) 43 1 (.slice AO (k + 1) cO) (k + 1) ((hx ++ [((A1, ni, c1), x)]).flatMap fun p => tabC p.1 p.2)) := (by show World.ownsRow _ _ _ _ _ _ _; rw [List.flatMap_append]; exact hoO)
            have HIO : Hid (InnOk wO (w.heap.size + 1 + 1 + 1) (.slice AO (k + 1) cO) (hx ++ [((A1, ni, c1), x)])) := HI1.out.keep (by omega) (fun g _ hg2 hg3 => (hgO.block g (by simp; omega) (fun e => hg3 e.symm)).trans (Below.heap_alloc wI _ g hg2)) (fun g hg h9 e => by rcases hatO with h | h; (exact h9 (h.symm.trans e)); (have := Option.some.inj (h.symm.trans e); simp at this; omega))
            have HBO : Hid (Below w.heap.size w wO) := below_own (size := 1) (base := (w.heap.size + 1 + 1 + 1)) (HBI.out.alloc (by omega) _) (HOv.out.alloc _) (by omega) (by first | (simp; omega) | omega) hgO
            have qb : Hid (Blk wO (w.heap.size) 30 #[.slice (some ⟨b, o, none⟩) n c, .int .i64 now, .int .i64 asked]) := Blk.grown (qb.out.alloc _) hgO (fun k9 hk9 => by have := (HOv.out.lt k9 hk9).1; omega)
            have qr : Hid (Blk wO (w.heap.size + 1) 30 #[.slice none 0 0, .int .i64 0, .int .i64 0]) := Blk.grown (qr.out.alloc _) hgO (fun k9 hk9 => by have := (HOv.out.lt k9 hk9).1; omega)
            have qx : Hid (Blk wO (w.heap.size + 1 + 1) 30 #[v, .int .i64 now, .int .i64 asked]) := Blk.grown (qx.out.alloc _) hgO (fun k9 hk9 => by have := (HOv.out.lt k9 hk9).1; omega)
            clear lb kb_0 fb_0 kb_1 fb_1 kb_2 fb_2 lx kx_0 fx_0 kx_1 fx_1 kx_2 fx_2 j0
            clear hoO hgO hatO
            have kb_0 : wO.cell? ⟨w.heap.size, 0, none⟩ = some (.slice (some ⟨b, o, none⟩) n c) := qb.out.cell 0 rfl
            have fb_0 := qb.out.frozen 0
            have kb_1 : wO.cell? ⟨w.heap.size, 1, none⟩ = some (.int .i64 now) := qb.out.cell 1 rfl
            have fb_1 := qb.out.frozen 1
            have kb_2 : wO.cell? ⟨w.heap.size, 2, none⟩ = some (.int .i64 asked) := qb.out.cell 2 rfl
            have fb_2 := qb.out.frozen 2
            have lb := qb.out.lt
            have kx_0 : wO.cell? ⟨w.heap.size + 1 + 1, 0, none⟩ = some (v) := qx.out.cell 0 rfl
            have fx_0 := qx.out.frozen 0
            have kx_1 : wO.cell? ⟨w.heap.size + 1 + 1, 1, none⟩ = some (.int .i64 now) := qx.out.cell 1 rfl
            have fx_1 := qx.out.frozen 1
            have kx_2 : wO.cell? ⟨w.heap.size + 1 + 1, 2, none⟩ = some (.int .i64 asked) := qx.out.cell 2 rfl
            have fx_2 := qx.out.frozen 2
            have lx := qx.out.lt
            have j0 := (HBO.out.cell (p := ⟨b, o + k, none⟩) hbl).trans HCX.out
            refine hK.out _ _ ?_ (fun hHeld2 => ?_)
            · (try dsimp only); (refine ⟨?_, ?_⟩ <;> (repeat' (first | with_reducible exact kb_0 | with_reducible exact j0 | (with_reducible refine keepS ?_ (by dsimp only; first | exact Nat.ne_of_lt (by assumption) | omega) _) | with_reducible refine keepA ?_ _ | with_reducible refine keepD ?_)))
            clear hK K hHeld
            have hHeld := hHeld2
            clear hHeld2
            try simp only [Act.put, List.setIfInBounds_toArray]
            refine wpAnyH_ready (rs := [11]) (by kernel_rfl) (by simp) ?_
            refine AllReadyH.cons (o := _) rfl (fun K hK => ?_) AllReadyH.nil
            go_simp
            refine hK.out _ _ ?_ (fun hHeld2 => ?_)
            · (try dsimp only); (refine ⟨?_, ?_⟩ <;> (repeat' (first | with_reducible exact kb_0 | with_reducible exact j0 | (with_reducible refine keepS ?_ (by dsimp only; first | exact Nat.ne_of_lt (by assumption) | omega) _) | with_reducible refine keepA ?_ _ | with_reducible refine keepD ?_)))
            clear hK K hHeld
            have hHeld := hHeld2
            clear hHeld2
            try simp only [Act.put, List.setIfInBounds_toArray]
            refine wpAnyH_ready (rs := [12]) (by kernel_rfl) (by simp) ?_
            refine AllReadyH.cons (o := _) rfl (fun K hK => ?_) AllReadyH.nil
            go_simp
            refine hK.out _ _ ?_ (fun hHeld2 => ?_)
            · (try dsimp only); (refine ⟨?_, ?_⟩ <;> (repeat' (first | with_reducible exact kb_0 | with_reducible exact j0 | (with_reducible refine keepS ?_ (by dsimp only; first | exact Nat.ne_of_lt (by assumption) | omega) _) | with_reducible refine keepA ?_ _ | with_reducible refine keepD ?_)))
            clear hK K hHeld
            have hHeld := hHeld2
            clear hHeld2
            try simp only [Act.put]
            refine wpAnyH_done (by kernel_rfl) ?_ _
            go_wp2
            go_roundw
            case rel => exact ⟨k + 1, .slice AO (k + 1) cO, hx ++ [((A1, ni, c1), x)], by omega, by go_num, by simp [World.setCell]; omega, (by show _ = _; rw [List.map_append, HXS.out, take_snoc HXX.out]; rfl), ownFar HOO.out (by dsimp only; omega) _, HIO.out.far (by dsimp only; omega) _, qb.out.far (by dsimp only; omega) _, qr.out.far (by dsimp only; omega) _, qx.out.set_ 0 _, HBO.out.setCell (by dsimp only; omega) _⟩
            case measure => simp [intOf]; omega
          · go_simp
            refine hK.out _ _ ?_ (fun hHeld2 => ?_)
            · (try dsimp only); (refine ⟨?_, ?_⟩ <;> (repeat' (first | with_reducible exact kb_0 | with_reducible exact j0 | (with_reducible refine keepS ?_ (by dsimp only; first | exact Nat.ne_of_lt (by assumption) | omega) _) | with_reducible refine keepA ?_ _ | with_reducible refine keepD ?_)))
            clear hK K hHeld
            have hHeld := hHeld2
            clear hHeld2
            try simp only [Act.put, List.setIfInBounds_toArray]
            refine wpAnyH_ready (rs := [1]) (by kernel_rfl) (by simp) ?_
            refine AllReadyH.cons (o := _) rfl (fun K hK => ?_) AllReadyH.nil
            go_simp
            refine hK.out _ _ ?_ (fun hHeld2 => ?_)
            · (try dsimp only); (refine ⟨?_, ?_⟩ <;> (repeat' (first | with_reducible exact kb_0 | with_reducible exact j0 | (with_reducible refine keepS ?_ (by dsimp only; first | exact Nat.ne_of_lt (by assumption) | omega) _) | with_reducible refine keepA ?_ _ | with_reducible refine keepD ?_)))
            clear hK K hHeld
            have hHeld := hHeld2
            clear hHeld2
            try simp only [Act.put, List.setIfInBounds_toArray]
            refine wpAnyH_ready (rs := [10]) (by kernel_rfl) (by simp) ?_
            refine AllReadyH.cons (o := _) rfl (fun K hK => ?_) AllReadyH.nil
            refine step_append_rd (by rfl) _ _ _ (by rfl) (w.heap.size + 1 + 1 + 1) 43 iT _ 1 24 Try.underlying28 hiT hzT0 hzT1 hzT2 rfl (by omega) v k (hx.flatMap fun p => tabC p.1 p.2) (by rfl) (HOv.out.alloc _) (some ⟨wI.heap.size, 0, none⟩) 1 1 [.slice A1 ni c1] (by rfl) (rd_new rfl rfl) (by intro u hu; rw [List.mem_singleton.1 hu]; rfl) (by unfold maxLen; omega) (by omega) (by first | (simp; omega) | omega) ?_
            intro vO wO hoO hgO hatO
            obtain ⟨AO, cO, rfl, _⟩ := own_sliceG hoO
            have hsO : wI.heap.size + 1 ≤ wO.heap.size := (by have := hgO.size; simpa using this)
            have HOO : Hid (wO.ownsRow (w.heap.size + 1 + 1 + 1) 43 1 (.slice AO (k + 1) cO) (k + 1) ((hx ++ [((A1, ni, c1), x)]).flatMap fun p => tabC p.1 p.2)) := (by show World.ownsRow _ _ _ _ _ _ _; rw [List.flatMap_append]; exact hoO)
            have HIO : Hid (InnOk wO (w.heap.size + 1 + 1 + 1) (.slice AO (k + 1) cO) (hx ++ [((A1, ni, c1), x)])) := HI1.out.keep (by omega) (fun g _ hg2 hg3 => (hgO.block g (by simp; omega) (fun e => hg3 e.symm)).trans (Below.heap_alloc wI _ g hg2)) (fun g hg h9 e => by rcases hatO with h | h; (exact h9 (h.symm.trans e)); (have := Option.some.inj (h.symm.trans e); simp at this; omega))
            have HBO : Hid (Below w.heap.size w wO) := below_own (size := 1) (base := (w.heap.size + 1 + 1 + 1)) (HBI.out.alloc (by omega) _) (HOv.out.alloc _) (by omega) (by first | (simp; omega) | omega) hgO
            have qb : Hid (Blk wO (w.heap.size) 30 #[.slice (some ⟨b, o, none⟩) n c, .int .i64 now, .int .i64 asked]) := Blk.grown (qb.out.alloc _) hgO (fun k9 hk9 => by have := (HOv.out.lt k9 hk9).1; omega)
            have qr : Hid (Blk wO (w.heap.size + 1) 30 #[.slice none 0 0, .int .i64 0, .int .i64 0]) := Blk.grown (qr.out.alloc _) hgO (fun k9 hk9 => by have := (HOv.out.lt k9 hk9).1; omega)
            have qx : Hid (Blk wO (w.heap.size + 1 + 1) 30 #[v, .int .i64 now, .int .i64 asked]) := Blk.grown (qx.out.alloc _) hgO (fun k9 hk9 => by have := (HOv.out.lt k9 hk9).1; omega)
            clear lb kb_0 fb_0 kb_1 fb_1 kb_2 fb_2 lx kx_0 fx_0 kx_1 fx_1 kx_2 fx_2 j0
            clear hoO hgO hatO
            have kb_0 : wO.cell? ⟨w.heap.size, 0, none⟩ = some (.slice (some ⟨b, o, none⟩) n c) := qb.out.cell 0 rfl
            have fb_0 := qb.out.frozen 0
            have kb_1 : wO.cell? ⟨w.heap.size, 1, none⟩ = some (.int .i64 now) := qb.out.cell 1 rfl
            have fb_1 := qb.out.frozen 1
            have kb_2 : wO.cell? ⟨w.heap.size, 2, none⟩ = some (.int .i64 asked) := qb.out.cell 2 rfl
            have fb_2 := qb.out.frozen 2
            have lb := qb.out.lt
            have kx_0 : wO.cell? ⟨w.heap.size + 1 + 1, 0, none⟩ = some (v) := qx.out.cell 0 rfl
            have fx_0 := qx.out.frozen 0
            have kx_1 : wO.cell? ⟨w.heap.size + 1 + 1, 1, none⟩ = some (.int .i64 now) := qx.out.cell 1 rfl
            have fx_1 := qx.out.frozen 1
            have kx_2 : wO.cell? ⟨w.heap.size + 1 + 1, 2, none⟩ = some (.int .i64 asked) := qx.out.cell 2 rfl
            have fx_2 := qx.out.frozen 2
            have lx := qx.out.lt
            have j0 := (HBO.out.cell (p := ⟨b, o + k, none⟩) hbl).trans HCX.out
            refine hK.out _ _ ?_ (fun hHeld2 => ?_)
            · (try dsimp only); (refine ⟨?_, ?_⟩ <;> (repeat' (first | with_reducible exact kb_0 | with_reducible exact j0 | (with_reducible refine keepS ?_ (by dsimp only; first | exact Nat.ne_of_lt (by assumption) | omega) _) | with_reducible refine keepA ?_ _ | with_reducible refine keepD ?_)))
            clear hK K hHeld
            have hHeld := hHeld2
            clear hHeld2
            try simp only [Act.put, List.setIfInBounds_toArray]
            refine wpAnyH_ready (rs := [11]) (by kernel_rfl) (by simp) ?_
            refine AllReadyH.cons (o := _) rfl (fun K hK => ?_) AllReadyH.nil
            go_simp
            refine hK.out _ _ ?_ (fun hHeld2 => ?_)
            · (try dsimp only); (refine ⟨?_, ?_⟩ <;> (repeat' (first | with_reducible exact kb_0 | with_reducible exact j0 | (with_reducible refine keepS ?_ (by dsimp only; first | exact Nat.ne_of_lt (by assumption) | omega) _) | with_reducible refine keepA ?_ _ | with_reducible refine keepD ?_)))
            clear hK K hHeld
            have hHeld := hHeld2
            clear hHeld2
            try simp only [Act.put, List.setIfInBounds_toArray]
            refine wpAnyH_ready (rs := [12]) (by kernel_rfl) (by simp) ?_
            refine AllReadyH.cons (o := _) rfl (fun K hK => ?_) AllReadyH.nil
            go_simp
            refine hK.out _ _ ?_ (fun hHeld2 => ?_)
            · (try dsimp only); (refine ⟨?_, ?_⟩ <;> (repeat' (first | with_reducible exact kb_0 | with_reducible exact j0 | (with_reducible refine keepS ?_ (by dsimp only; first | exact Nat.ne_of_lt (by assumption) | omega) _) | with_reducible refine keepA ?_ _ | with_reducible refine keepD ?_)))
            clear hK K hHeld
            have hHeld := hHeld2
            clear hHeld2
            try simp only [Act.put]
            refine wpAnyH_done (by kernel_rfl) ?_ _
            go_wp2
            go_roundw
            case rel => exact ⟨k + 1, .slice AO (k + 1) cO, hx ++ [((A1, ni, c1), x)], by omega, by go_num, by simp [World.setCell]; omega, (by show _ = _; rw [List.map_append, HXS.out, take_snoc HXX.out]; rfl), ownFar HOO.out (by dsimp only; omega) _, HIO.out.far (by dsimp only; omega) _, qb.out.far (by dsimp only; omega) _, qr.out.far (by dsimp only; omega) _, qx.out.set_ 0 _, HBO.out.setCell (by dsimp only; omega) _⟩
            case measure => simp [intOf]; omega
    · obtain rfl : k = n := by omega
      have HTS : Hid (hx.map Prod.snd = ts) := by have h := HXS.out; rw [← hlz.out, List.take_length] at h; exact h
      obtain ⟨A', c', rfl, ho⟩ := own_sliceG HO.out
      have HO2 := Lib.hid ho
      clear ho
      have kx_0 : wo.cell? ⟨w.heap.size + 1 + 1, 0, none⟩ = some (.slice A' k c') := qx.out.cell 0 rfl
      have fx_0 := qx.out.frozen 0
      have kx_1 : wo.cell? ⟨w.heap.size + 1 + 1, 1, none⟩ = some (.int .i64 now) := qx.out.cell 1 rfl
      have fx_1 := qx.out.frozen 1
      have kx_2 : wo.cell? ⟨w.heap.size + 1 + 1, 2, none⟩ = some (.int .i64 asked) := qx.out.cell 2 rfl
      have fx_2 := qx.out.frozen 2
      have lx := qx.out.lt
      have kr_0 : wo.cell? ⟨w.heap.size + 1, 0, none⟩ = some (.slice none 0 0) := qr.out.cell 0 rfl
      have fr_0 := qr.out.frozen 0
      have kr_1 : wo.cell? ⟨w.heap.size + 1, 1, none⟩ = some (.int .i64 0) := qr.out.cell 1 rfl
      have fr_1 := qr.out.frozen 1
      have kr_2 : wo.cell? ⟨w.heap.size + 1, 2, none⟩ = some (.int .i64 0) := qr.out.cell 2 rfl
      have fr_2 := qr.out.frozen 2
      have lr := qr.out.lt
      have kb_0 : wo.cell? ⟨w.heap.size, 0, none⟩ = some (.slice A k c) := qb.out.cell 0 rfl
      have lb := qb.out.lt
      go_wp2
      refine bodyPost_ret (v := .agg #[.slice A' k c', .int .i64 now, .int .i64 asked]) (by simp [results, Try.results31, go_sem, *]) rfl ?_
      refine ⟨⟨A', c', rfl, ?_⟩, ?_⟩
      · exact Own_tab.lower ⟨hx, HTS.out, ownFar (ownFar (ownFar HO2.out (by dsimp only; omega) _) (by dsimp only; omega) _) (by dsimp only; omega) _, ((HI.out.far (by dsimp only; omega) _).far (by dsimp only; omega) _).far (by dsimp only; omega) _⟩ (by omega)
      · exact ((HB.out.setCell (by dsimp only; omega) _).setCell (by dsimp only; omega) _).setCell (by dsimp only; omega) _
end Go.Proofs.Ytdccgflkhgnflaa
