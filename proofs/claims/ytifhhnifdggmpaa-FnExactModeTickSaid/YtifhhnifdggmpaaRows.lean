/-
  No cell of these rows narrows 'for every input' (looked for: loops, veiled, ifaces, maps, wideKeys, modest, calm, conditions, laid).
  DERIVED. THE GIVEN ROWS OF THIS SEAT. 12 by the template 'for every input the law returns true; each argument reads behind the call as it read before'; 0 by the template 'total and deterministic' (their statements: YtifhhnifdggmpaaTotals.lean).
  GIVEN WITH THE SEED: the statements are not yours to turn. If you find one false, say at which input.
  Laid BY PROGRAM, IN A SANDBOX (cutbox-rows.mjs): the forced cells as the released guide's own fill.sh prints them over the translation 350da3daba8f30ec… (all of the seat's roots in one cut). By AI agents, Wed Nov 11 2026. No macro, syntax, notation, axiom, sorry.
-/
import Derived.Test.YtifhhnifdggmpaaChecked
import GoSem.Claim
import GoSem.ClaimJoined
import GoSem.ClaimMapViews
import Derived.JoinedTies
import Derived.KernelRfl
namespace Go.Proofs.Ytifhhnifdggmpaa
/- THE CELL 'sum', in the pinned program and in every row, IS THE sha256 OF THE DUMP (.gsa) THAT YtifhhnifdggmpaaProg.lean LOADS. Nothing in Lean hashes anything: it is a label: what it is worth is what the hold of that sum in a sandbox is worth. -/
noncomputable def Try.pinned : Pinned := { name := "ytifhhnifdggmpaa", sum := "350da3daba8f30ec9e880a83cb635411160f0aade6b69000ba914fcf6983ea37", checked := Try.checked }
namespace Rows
def none {H : Type} : Left H := { results := [], args := [] }

/-- 'laws.FnExactSlotsValid': WHATEVER THE INPUT: true; the input reads as it did. -/
def fnExactSlotsValidSpec : ChangeSpec := { name := "fnExactSlotsValid", fn := fun _ => fun
  | [d1, d2] => { results := [.lit (.bool true)], args := [d1, d2] }
  | _ => none }
def fnExactSlotsValidRow : OpenClaim := { program := "ytifhhnifdggmpaa", sum := "350da3daba8f30ec9e880a83cb635411160f0aade6b69000ba914fcf6983ea37", func := "loop.example/sepkernel/laws.FnExactSlotsValid", spec := "fnExactSlotsValid", unfollowed := true, recurses := true, apart := false }
def FnExactSlotsValidSaid : Prop := fnExactSlotsValidRow.holds Try.pinned (OpenSpec.ofChange fnExactSlotsValidSpec)

/-- ITS FALSE NEIGHBOUR: 'it returns false'. Refute it at one input. -/
def fnExactSlotsValidWrong : ChangeSpec := { name := "fnExactSlotsValid", fn := fun _ => fun
  | [d1, d2] => { results := [.lit (.bool false)], args := [d1, d2] }
  | _ => none }
def FnExactSlotsValidWrongFalsely : Prop := fnExactSlotsValidRow.holds Try.pinned (OpenSpec.ofChange fnExactSlotsValidWrong)

/-- 'laws.FnExactFrameTicks': WHATEVER THE INPUT: true; the input reads as it did. -/
def fnExactFrameTicksSpec : ChangeSpec := { name := "fnExactFrameTicks", fn := fun _ => fun
  | [d1, d2] => { results := [.lit (.bool true)], args := [d1, d2] }
  | _ => none }
def fnExactFrameTicksRow : OpenClaim := { program := "ytifhhnifdggmpaa", sum := "350da3daba8f30ec9e880a83cb635411160f0aade6b69000ba914fcf6983ea37", func := "loop.example/sepkernel/laws.FnExactFrameTicks", spec := "fnExactFrameTicks", unfollowed := true, recurses := true, apart := false }
def FnExactFrameTicksSaid : Prop := fnExactFrameTicksRow.holds Try.pinned (OpenSpec.ofChange fnExactFrameTicksSpec)

/-- ITS FALSE NEIGHBOUR: 'it returns false'. Refute it at one input. -/
def fnExactFrameTicksWrong : ChangeSpec := { name := "fnExactFrameTicks", fn := fun _ => fun
  | [d1, d2] => { results := [.lit (.bool false)], args := [d1, d2] }
  | _ => none }
def FnExactFrameTicksWrongFalsely : Prop := fnExactFrameTicksRow.holds Try.pinned (OpenSpec.ofChange fnExactFrameTicksWrong)

/-- 'laws.FnExactWhoRuns': WHATEVER THE INPUT: true; the input reads as it did. -/
def fnExactWhoRunsSpec : ChangeSpec := { name := "fnExactWhoRuns", fn := fun _ => fun
  | [d1, d2, d3] => { results := [.lit (.bool true)], args := [d1, d2, d3] }
  | _ => none }
def fnExactWhoRunsRow : OpenClaim := { program := "ytifhhnifdggmpaa", sum := "350da3daba8f30ec9e880a83cb635411160f0aade6b69000ba914fcf6983ea37", func := "loop.example/sepkernel/laws.FnExactWhoRuns", spec := "fnExactWhoRuns", unfollowed := true, recurses := true, apart := false }
def FnExactWhoRunsSaid : Prop := fnExactWhoRunsRow.holds Try.pinned (OpenSpec.ofChange fnExactWhoRunsSpec)

/-- ITS FALSE NEIGHBOUR: 'it returns false'. Refute it at one input. -/
def fnExactWhoRunsWrong : ChangeSpec := { name := "fnExactWhoRuns", fn := fun _ => fun
  | [d1, d2, d3] => { results := [.lit (.bool false)], args := [d1, d2, d3] }
  | _ => none }
def FnExactWhoRunsWrongFalsely : Prop := fnExactWhoRunsRow.holds Try.pinned (OpenSpec.ofChange fnExactWhoRunsWrong)

/-- 'laws.FnExactOwnTicks': WHATEVER THE INPUT: true; the input reads as it did. -/
def fnExactOwnTicksSpec : ChangeSpec := { name := "fnExactOwnTicks", fn := fun _ => fun
  | [d1, d2, d3, d4] => { results := [.lit (.bool true)], args := [d1, d2, d3, d4] }
  | _ => none }
def fnExactOwnTicksRow : OpenClaim := { program := "ytifhhnifdggmpaa", sum := "350da3daba8f30ec9e880a83cb635411160f0aade6b69000ba914fcf6983ea37", func := "loop.example/sepkernel/laws.FnExactOwnTicks", spec := "fnExactOwnTicks", unfollowed := true, recurses := true, apart := false }
def FnExactOwnTicksSaid : Prop := fnExactOwnTicksRow.holds Try.pinned (OpenSpec.ofChange fnExactOwnTicksSpec)

/-- ITS FALSE NEIGHBOUR: 'it returns false'. Refute it at one input. -/
def fnExactOwnTicksWrong : ChangeSpec := { name := "fnExactOwnTicks", fn := fun _ => fun
  | [d1, d2, d3, d4] => { results := [.lit (.bool false)], args := [d1, d2, d3, d4] }
  | _ => none }
def FnExactOwnTicksWrongFalsely : Prop := fnExactOwnTicksRow.holds Try.pinned (OpenSpec.ofChange fnExactOwnTicksWrong)

/-- 'laws.FnExactNextOwn': WHATEVER THE INPUT: true; the input reads as it did. -/
def fnExactNextOwnSpec : ChangeSpec := { name := "fnExactNextOwn", fn := fun _ => fun
  | [d1, d2, d3, d4] => { results := [.lit (.bool true)], args := [d1, d2, d3, d4] }
  | _ => none }
def fnExactNextOwnRow : OpenClaim := { program := "ytifhhnifdggmpaa", sum := "350da3daba8f30ec9e880a83cb635411160f0aade6b69000ba914fcf6983ea37", func := "loop.example/sepkernel/laws.FnExactNextOwn", spec := "fnExactNextOwn", unfollowed := true, recurses := true, apart := false }
def FnExactNextOwnSaid : Prop := fnExactNextOwnRow.holds Try.pinned (OpenSpec.ofChange fnExactNextOwnSpec)

/-- ITS FALSE NEIGHBOUR: 'it returns false'. Refute it at one input. -/
def fnExactNextOwnWrong : ChangeSpec := { name := "fnExactNextOwn", fn := fun _ => fun
  | [d1, d2, d3, d4] => { results := [.lit (.bool false)], args := [d1, d2, d3, d4] }
  | _ => none }
def FnExactNextOwnWrongFalsely : Prop := fnExactNextOwnRow.holds Try.pinned (OpenSpec.ofChange fnExactNextOwnWrong)

/-- 'laws.FnExactFrameOf': WHATEVER THE INPUT: true; the input reads as it did. -/
def fnExactFrameOfSpec : ChangeSpec := { name := "fnExactFrameOf", fn := fun _ => fun
  | [d1, d2, d3] => { results := [.lit (.bool true)], args := [d1, d2, d3] }
  | _ => none }
def fnExactFrameOfRow : OpenClaim := { program := "ytifhhnifdggmpaa", sum := "350da3daba8f30ec9e880a83cb635411160f0aade6b69000ba914fcf6983ea37", func := "loop.example/sepkernel/laws.FnExactFrameOf", spec := "fnExactFrameOf", unfollowed := true, recurses := true, apart := false }
def FnExactFrameOfSaid : Prop := fnExactFrameOfRow.holds Try.pinned (OpenSpec.ofChange fnExactFrameOfSpec)

/-- ITS FALSE NEIGHBOUR: 'it returns false'. Refute it at one input. -/
def fnExactFrameOfWrong : ChangeSpec := { name := "fnExactFrameOf", fn := fun _ => fun
  | [d1, d2, d3] => { results := [.lit (.bool false)], args := [d1, d2, d3] }
  | _ => none }
def FnExactFrameOfWrongFalsely : Prop := fnExactFrameOfRow.holds Try.pinned (OpenSpec.ofChange fnExactFrameOfWrong)

/-- 'laws.FnExactSlotOf': WHATEVER THE INPUT: true; the input reads as it did. -/
def fnExactSlotOfSpec : ChangeSpec := { name := "fnExactSlotOf", fn := fun _ => fun
  | [d1, d2, d3] => { results := [.lit (.bool true)], args := [d1, d2, d3] }
  | _ => none }
def fnExactSlotOfRow : OpenClaim := { program := "ytifhhnifdggmpaa", sum := "350da3daba8f30ec9e880a83cb635411160f0aade6b69000ba914fcf6983ea37", func := "loop.example/sepkernel/laws.FnExactSlotOf", spec := "fnExactSlotOf", unfollowed := true, recurses := true, apart := false }
def FnExactSlotOfSaid : Prop := fnExactSlotOfRow.holds Try.pinned (OpenSpec.ofChange fnExactSlotOfSpec)

/-- ITS FALSE NEIGHBOUR: 'it returns false'. Refute it at one input. -/
def fnExactSlotOfWrong : ChangeSpec := { name := "fnExactSlotOf", fn := fun _ => fun
  | [d1, d2, d3] => { results := [.lit (.bool false)], args := [d1, d2, d3] }
  | _ => none }
def FnExactSlotOfWrongFalsely : Prop := fnExactSlotOfRow.holds Try.pinned (OpenSpec.ofChange fnExactSlotOfWrong)

/-- 'laws.FnExactShareOf': WHATEVER THE INPUT: true; the input reads as it did. -/
def fnExactShareOfSpec : ChangeSpec := { name := "fnExactShareOf", fn := fun _ => fun
  | [d1, d2, d3] => { results := [.lit (.bool true)], args := [d1, d2, d3] }
  | _ => none }
def fnExactShareOfRow : OpenClaim := { program := "ytifhhnifdggmpaa", sum := "350da3daba8f30ec9e880a83cb635411160f0aade6b69000ba914fcf6983ea37", func := "loop.example/sepkernel/laws.FnExactShareOf", spec := "fnExactShareOf", unfollowed := true, recurses := true, apart := false }
def FnExactShareOfSaid : Prop := fnExactShareOfRow.holds Try.pinned (OpenSpec.ofChange fnExactShareOfSpec)

/-- ITS FALSE NEIGHBOUR: 'it returns false'. Refute it at one input. -/
def fnExactShareOfWrong : ChangeSpec := { name := "fnExactShareOf", fn := fun _ => fun
  | [d1, d2, d3] => { results := [.lit (.bool false)], args := [d1, d2, d3] }
  | _ => none }
def FnExactShareOfWrongFalsely : Prop := fnExactShareOfRow.holds Try.pinned (OpenSpec.ofChange fnExactShareOfWrong)

/-- 'laws.FnExactLongestGap': WHATEVER THE INPUT: true; the input reads as it did. -/
def fnExactLongestGapSpec : ChangeSpec := { name := "fnExactLongestGap", fn := fun _ => fun
  | [d1, d2, d3] => { results := [.lit (.bool true)], args := [d1, d2, d3] }
  | _ => none }
def fnExactLongestGapRow : OpenClaim := { program := "ytifhhnifdggmpaa", sum := "350da3daba8f30ec9e880a83cb635411160f0aade6b69000ba914fcf6983ea37", func := "loop.example/sepkernel/laws.FnExactLongestGap", spec := "fnExactLongestGap", unfollowed := true, recurses := true, apart := false }
def FnExactLongestGapSaid : Prop := fnExactLongestGapRow.holds Try.pinned (OpenSpec.ofChange fnExactLongestGapSpec)

/-- ITS FALSE NEIGHBOUR: 'it returns false'. Refute it at one input. -/
def fnExactLongestGapWrong : ChangeSpec := { name := "fnExactLongestGap", fn := fun _ => fun
  | [d1, d2, d3] => { results := [.lit (.bool false)], args := [d1, d2, d3] }
  | _ => none }
def FnExactLongestGapWrongFalsely : Prop := fnExactLongestGapRow.holds Try.pinned (OpenSpec.ofChange fnExactLongestGapWrong)

/-- 'laws.FnExactModesValid': WHATEVER THE INPUT: true; the input reads as it did. -/
def fnExactModesValidSpec : ChangeSpec := { name := "fnExactModesValid", fn := fun _ => fun
  | [d1, d2] => { results := [.lit (.bool true)], args := [d1, d2] }
  | _ => none }
def fnExactModesValidRow : OpenClaim := { program := "ytifhhnifdggmpaa", sum := "350da3daba8f30ec9e880a83cb635411160f0aade6b69000ba914fcf6983ea37", func := "loop.example/sepkernel/laws.FnExactModesValid", spec := "fnExactModesValid", unfollowed := true, recurses := true, apart := false }
def FnExactModesValidSaid : Prop := fnExactModesValidRow.holds Try.pinned (OpenSpec.ofChange fnExactModesValidSpec)

/-- ITS FALSE NEIGHBOUR: 'it returns false'. Refute it at one input. -/
def fnExactModesValidWrong : ChangeSpec := { name := "fnExactModesValid", fn := fun _ => fun
  | [d1, d2] => { results := [.lit (.bool false)], args := [d1, d2] }
  | _ => none }
def FnExactModesValidWrongFalsely : Prop := fnExactModesValidRow.holds Try.pinned (OpenSpec.ofChange fnExactModesValidWrong)

/-- 'laws.FnExactModeTick': WHATEVER THE INPUT: true; the input reads as it did. -/
def fnExactModeTickSpec : ChangeSpec := { name := "fnExactModeTick", fn := fun _ => fun
  | [d1, d2, d3] => { results := [.lit (.bool true)], args := [d1, d2, d3] }
  | _ => none }
def fnExactModeTickRow : OpenClaim := { program := "ytifhhnifdggmpaa", sum := "350da3daba8f30ec9e880a83cb635411160f0aade6b69000ba914fcf6983ea37", func := "loop.example/sepkernel/laws.FnExactModeTick", spec := "fnExactModeTick", unfollowed := true, recurses := true, apart := false }
def FnExactModeTickSaid : Prop := fnExactModeTickRow.holds Try.pinned (OpenSpec.ofChange fnExactModeTickSpec)

/-- ITS FALSE NEIGHBOUR: 'it returns false'. Refute it at one input. -/
def fnExactModeTickWrong : ChangeSpec := { name := "fnExactModeTick", fn := fun _ => fun
  | [d1, d2, d3] => { results := [.lit (.bool false)], args := [d1, d2, d3] }
  | _ => none }
def FnExactModeTickWrongFalsely : Prop := fnExactModeTickRow.holds Try.pinned (OpenSpec.ofChange fnExactModeTickWrong)

/-- 'laws.FnExactRunModes': WHATEVER THE INPUT: true; the input reads as it did. -/
def fnExactRunModesSpec : ChangeSpec := { name := "fnExactRunModes", fn := fun _ => fun
  | [d1, d2, d3] => { results := [.lit (.bool true)], args := [d1, d2, d3] }
  | _ => none }
def fnExactRunModesRow : OpenClaim := { program := "ytifhhnifdggmpaa", sum := "350da3daba8f30ec9e880a83cb635411160f0aade6b69000ba914fcf6983ea37", func := "loop.example/sepkernel/laws.FnExactRunModes", spec := "fnExactRunModes", unfollowed := true, recurses := true, apart := false }
def FnExactRunModesSaid : Prop := fnExactRunModesRow.holds Try.pinned (OpenSpec.ofChange fnExactRunModesSpec)

/-- ITS FALSE NEIGHBOUR: 'it returns false'. Refute it at one input. -/
def fnExactRunModesWrong : ChangeSpec := { name := "fnExactRunModes", fn := fun _ => fun
  | [d1, d2, d3] => { results := [.lit (.bool false)], args := [d1, d2, d3] }
  | _ => none }
def FnExactRunModesWrongFalsely : Prop := fnExactRunModesRow.holds Try.pinned (OpenSpec.ofChange fnExactRunModesWrong)

/- THE SECOND FORM. 'bulk': how many values and letters a reading holds, each counted each time it is reached (what is shared counts as often as it is met; a slice's spare places count too). A statement '..UptoSaid' is the law's where the arguments, and the package variables that the reading takes, are together of bulk at most 1048576: NARROWER than '..Said'. Prove '..Said' where nothing that the law and all that it calls make is longer than what came in: it says more and counts as full. Else prove '..UptoSaid'. A law counts once. -/
mutual
def uptoBulk {H : Type} : DataW H → Nat
  | .lit (.string bytes) => bytes.length + 1
  | .lit _ => 1
  | .nil => 1
  | .ptr d => uptoBulk d + 1
  | .slice elems spare => uptoBulkAll elems + uptoBulkAll spare + 1
  | .agg parts => uptoBulkAll parts + 1
  | .iface _ d => uptoBulk d + 1
  | .map entries => uptoBulkEntries entries + 1
  | .held _ => 1
def uptoBulkAll {H : Type} : List (DataW H) → Nat
  | [] => 0
  | d :: r => uptoBulk d + uptoBulkAll r
def uptoBulkEntries {H : Type} : List (Lit × DataW H) → Nat
  | [] => 0
  | x :: r => uptoBulkEntry x + uptoBulkEntries r
def uptoBulkEntry {H : Type} : Lit × DataW H → Nat
  | (.string bytes, d) => bytes.length + uptoBulk d + 1
  | (_, d) => uptoBulk d + 1
 end
def uptoSmall : (H : Type) → List (DataW H) → Bool := fun _ ds => decide (uptoBulkAll ds ≤ 1048576)
def OpenSpec.upto (s : _root_.Go.ChangeSpec) : _root_.Go.OpenSpec := { _root_.Go.OpenSpec.ofChange s with cond := some uptoSmall }

/-- 'laws.FnExactSlotsValid', WHERE WHAT IT READS IS OF BULK AT MOST 1048576: true; the input reads as it did. -/
def fnExactSlotsValidUptoRow : OpenClaim := { program := "ytifhhnifdggmpaa", sum := "350da3daba8f30ec9e880a83cb635411160f0aade6b69000ba914fcf6983ea37", func := "loop.example/sepkernel/laws.FnExactSlotsValid", spec := "fnExactSlotsValid", unfollowed := true, recurses := true, apart := false, narrowed := true }
def FnExactSlotsValidUptoSaid : Prop := fnExactSlotsValidUptoRow.holds Try.pinned (OpenSpec.upto fnExactSlotsValidSpec)

/-- 'laws.FnExactFrameTicks', WHERE WHAT IT READS IS OF BULK AT MOST 1048576: true; the input reads as it did. -/
def fnExactFrameTicksUptoRow : OpenClaim := { program := "ytifhhnifdggmpaa", sum := "350da3daba8f30ec9e880a83cb635411160f0aade6b69000ba914fcf6983ea37", func := "loop.example/sepkernel/laws.FnExactFrameTicks", spec := "fnExactFrameTicks", unfollowed := true, recurses := true, apart := false, narrowed := true }
def FnExactFrameTicksUptoSaid : Prop := fnExactFrameTicksUptoRow.holds Try.pinned (OpenSpec.upto fnExactFrameTicksSpec)

/-- 'laws.FnExactWhoRuns', WHERE WHAT IT READS IS OF BULK AT MOST 1048576: true; the input reads as it did. -/
def fnExactWhoRunsUptoRow : OpenClaim := { program := "ytifhhnifdggmpaa", sum := "350da3daba8f30ec9e880a83cb635411160f0aade6b69000ba914fcf6983ea37", func := "loop.example/sepkernel/laws.FnExactWhoRuns", spec := "fnExactWhoRuns", unfollowed := true, recurses := true, apart := false, narrowed := true }
def FnExactWhoRunsUptoSaid : Prop := fnExactWhoRunsUptoRow.holds Try.pinned (OpenSpec.upto fnExactWhoRunsSpec)

/-- 'laws.FnExactOwnTicks', WHERE WHAT IT READS IS OF BULK AT MOST 1048576: true; the input reads as it did. -/
def fnExactOwnTicksUptoRow : OpenClaim := { program := "ytifhhnifdggmpaa", sum := "350da3daba8f30ec9e880a83cb635411160f0aade6b69000ba914fcf6983ea37", func := "loop.example/sepkernel/laws.FnExactOwnTicks", spec := "fnExactOwnTicks", unfollowed := true, recurses := true, apart := false, narrowed := true }
def FnExactOwnTicksUptoSaid : Prop := fnExactOwnTicksUptoRow.holds Try.pinned (OpenSpec.upto fnExactOwnTicksSpec)

/-- 'laws.FnExactNextOwn', WHERE WHAT IT READS IS OF BULK AT MOST 1048576: true; the input reads as it did. -/
def fnExactNextOwnUptoRow : OpenClaim := { program := "ytifhhnifdggmpaa", sum := "350da3daba8f30ec9e880a83cb635411160f0aade6b69000ba914fcf6983ea37", func := "loop.example/sepkernel/laws.FnExactNextOwn", spec := "fnExactNextOwn", unfollowed := true, recurses := true, apart := false, narrowed := true }
def FnExactNextOwnUptoSaid : Prop := fnExactNextOwnUptoRow.holds Try.pinned (OpenSpec.upto fnExactNextOwnSpec)

/-- 'laws.FnExactFrameOf', WHERE WHAT IT READS IS OF BULK AT MOST 1048576: true; the input reads as it did. -/
def fnExactFrameOfUptoRow : OpenClaim := { program := "ytifhhnifdggmpaa", sum := "350da3daba8f30ec9e880a83cb635411160f0aade6b69000ba914fcf6983ea37", func := "loop.example/sepkernel/laws.FnExactFrameOf", spec := "fnExactFrameOf", unfollowed := true, recurses := true, apart := false, narrowed := true }
def FnExactFrameOfUptoSaid : Prop := fnExactFrameOfUptoRow.holds Try.pinned (OpenSpec.upto fnExactFrameOfSpec)

/-- 'laws.FnExactSlotOf', WHERE WHAT IT READS IS OF BULK AT MOST 1048576: true; the input reads as it did. -/
def fnExactSlotOfUptoRow : OpenClaim := { program := "ytifhhnifdggmpaa", sum := "350da3daba8f30ec9e880a83cb635411160f0aade6b69000ba914fcf6983ea37", func := "loop.example/sepkernel/laws.FnExactSlotOf", spec := "fnExactSlotOf", unfollowed := true, recurses := true, apart := false, narrowed := true }
def FnExactSlotOfUptoSaid : Prop := fnExactSlotOfUptoRow.holds Try.pinned (OpenSpec.upto fnExactSlotOfSpec)

/-- 'laws.FnExactShareOf', WHERE WHAT IT READS IS OF BULK AT MOST 1048576: true; the input reads as it did. -/
def fnExactShareOfUptoRow : OpenClaim := { program := "ytifhhnifdggmpaa", sum := "350da3daba8f30ec9e880a83cb635411160f0aade6b69000ba914fcf6983ea37", func := "loop.example/sepkernel/laws.FnExactShareOf", spec := "fnExactShareOf", unfollowed := true, recurses := true, apart := false, narrowed := true }
def FnExactShareOfUptoSaid : Prop := fnExactShareOfUptoRow.holds Try.pinned (OpenSpec.upto fnExactShareOfSpec)

/-- 'laws.FnExactLongestGap', WHERE WHAT IT READS IS OF BULK AT MOST 1048576: true; the input reads as it did. -/
def fnExactLongestGapUptoRow : OpenClaim := { program := "ytifhhnifdggmpaa", sum := "350da3daba8f30ec9e880a83cb635411160f0aade6b69000ba914fcf6983ea37", func := "loop.example/sepkernel/laws.FnExactLongestGap", spec := "fnExactLongestGap", unfollowed := true, recurses := true, apart := false, narrowed := true }
def FnExactLongestGapUptoSaid : Prop := fnExactLongestGapUptoRow.holds Try.pinned (OpenSpec.upto fnExactLongestGapSpec)

/-- 'laws.FnExactModesValid', WHERE WHAT IT READS IS OF BULK AT MOST 1048576: true; the input reads as it did. -/
def fnExactModesValidUptoRow : OpenClaim := { program := "ytifhhnifdggmpaa", sum := "350da3daba8f30ec9e880a83cb635411160f0aade6b69000ba914fcf6983ea37", func := "loop.example/sepkernel/laws.FnExactModesValid", spec := "fnExactModesValid", unfollowed := true, recurses := true, apart := false, narrowed := true }
def FnExactModesValidUptoSaid : Prop := fnExactModesValidUptoRow.holds Try.pinned (OpenSpec.upto fnExactModesValidSpec)

/-- 'laws.FnExactModeTick', WHERE WHAT IT READS IS OF BULK AT MOST 1048576: true; the input reads as it did. -/
def fnExactModeTickUptoRow : OpenClaim := { program := "ytifhhnifdggmpaa", sum := "350da3daba8f30ec9e880a83cb635411160f0aade6b69000ba914fcf6983ea37", func := "loop.example/sepkernel/laws.FnExactModeTick", spec := "fnExactModeTick", unfollowed := true, recurses := true, apart := false, narrowed := true }
def FnExactModeTickUptoSaid : Prop := fnExactModeTickUptoRow.holds Try.pinned (OpenSpec.upto fnExactModeTickSpec)

/-- 'laws.FnExactRunModes', WHERE WHAT IT READS IS OF BULK AT MOST 1048576: true; the input reads as it did. -/
def fnExactRunModesUptoRow : OpenClaim := { program := "ytifhhnifdggmpaa", sum := "350da3daba8f30ec9e880a83cb635411160f0aade6b69000ba914fcf6983ea37", func := "loop.example/sepkernel/laws.FnExactRunModes", spec := "fnExactRunModes", unfollowed := true, recurses := true, apart := false, narrowed := true }
def FnExactRunModesUptoSaid : Prop := fnExactRunModesUptoRow.holds Try.pinned (OpenSpec.upto fnExactRunModesSpec)

end Rows
end Go.Proofs.Ytifhhnifdggmpaa
