/-
  No cell of these rows narrows 'for every input' (looked for: loops, veiled, ifaces, maps, wideKeys, modest, calm, conditions, laid).
  DERIVED. THE GIVEN ROWS OF THIS SEAT. 12 by the template 'for every input the law returns true; each argument reads behind the call as it read before'; 0 by the template 'total and deterministic' (their statements: YtjdhfehffgccmaaTotals.lean).
  GIVEN WITH THE SEED: the statements are not yours to turn. If you find one false, say at which input.
  Laid BY PROGRAM, IN A SANDBOX (cutbox-rows.mjs): the forced cells as the released guide's own fill.sh prints them over the translation d888fc7ff08af478… (all of the seat's roots in one cut). By AI agents, Wed Nov 11 2026. No macro, syntax, notation, axiom, sorry.
-/
import Derived.Test.YtjdhfehffgccmaaChecked
import GoSem.Claim
import GoSem.ClaimJoined
import GoSem.ClaimMapViews
import Derived.JoinedTies
import Derived.KernelRfl
namespace Go.Proofs.Ytjdhfehffgccmaa
/- THE CELL 'sum', in the pinned program and in every row, IS THE sha256 OF THE DUMP (.gsa) THAT YtjdhfehffgccmaaProg.lean LOADS. Nothing in Lean hashes anything: it is a label: what it is worth is what the hold of that sum in a sandbox is worth. -/
noncomputable def Try.pinned : Pinned := { name := "ytjdhfehffgccmaa", sum := "d888fc7ff08af4781465cf2fe5d05fcae57208d75a2a573477f6ef796ce855fb", checked := Try.checked }
namespace Rows
def none {H : Type} : Left H := { results := [], args := [] }

/-- 'laws.FnExactFaultsLeft': WHATEVER THE INPUT: true; the input reads as it did. -/
def fnExactFaultsLeftSpec : ChangeSpec := { name := "fnExactFaultsLeft", fn := fun _ => fun
  | [d1, d2, d3] => { results := [.lit (.bool true)], args := [d1, d2, d3] }
  | _ => none }
def fnExactFaultsLeftRow : OpenClaim := { program := "ytjdhfehffgccmaa", sum := "d888fc7ff08af4781465cf2fe5d05fcae57208d75a2a573477f6ef796ce855fb", func := "loop.example/sepkernel/laws.FnExactFaultsLeft", spec := "fnExactFaultsLeft", unfollowed := true, recurses := true, apart := false }
def FnExactFaultsLeftSaid : Prop := fnExactFaultsLeftRow.holds Try.pinned (OpenSpec.ofChange fnExactFaultsLeftSpec)

/-- ITS FALSE NEIGHBOUR: 'it returns false'. Refute it at one input. -/
def fnExactFaultsLeftWrong : ChangeSpec := { name := "fnExactFaultsLeft", fn := fun _ => fun
  | [d1, d2, d3] => { results := [.lit (.bool false)], args := [d1, d2, d3] }
  | _ => none }
def FnExactFaultsLeftWrongFalsely : Prop := fnExactFaultsLeftRow.holds Try.pinned (OpenSpec.ofChange fnExactFaultsLeftWrong)

/-- 'laws.FnExactHealthStep': WHATEVER THE INPUT: true; the input reads as it did. -/
def fnExactHealthStepSpec : ChangeSpec := { name := "fnExactHealthStep", fn := fun _ => fun
  | [d1, d2, d3] => { results := [.lit (.bool true)], args := [d1, d2, d3] }
  | _ => none }
def fnExactHealthStepRow : OpenClaim := { program := "ytjdhfehffgccmaa", sum := "d888fc7ff08af4781465cf2fe5d05fcae57208d75a2a573477f6ef796ce855fb", func := "loop.example/sepkernel/laws.FnExactHealthStep", spec := "fnExactHealthStep", unfollowed := true, recurses := true, apart := false }
def FnExactHealthStepSaid : Prop := fnExactHealthStepRow.holds Try.pinned (OpenSpec.ofChange fnExactHealthStepSpec)

/-- ITS FALSE NEIGHBOUR: 'it returns false'. Refute it at one input. -/
def fnExactHealthStepWrong : ChangeSpec := { name := "fnExactHealthStep", fn := fun _ => fun
  | [d1, d2, d3] => { results := [.lit (.bool false)], args := [d1, d2, d3] }
  | _ => none }
def FnExactHealthStepWrongFalsely : Prop := fnExactHealthStepRow.holds Try.pinned (OpenSpec.ofChange fnExactHealthStepWrong)

/-- 'laws.FnExactHealthRun': WHATEVER THE INPUT: true; the input reads as it did. -/
def fnExactHealthRunSpec : ChangeSpec := { name := "fnExactHealthRun", fn := fun _ => fun
  | [d1, d2, d3] => { results := [.lit (.bool true)], args := [d1, d2, d3] }
  | _ => none }
def fnExactHealthRunRow : OpenClaim := { program := "ytjdhfehffgccmaa", sum := "d888fc7ff08af4781465cf2fe5d05fcae57208d75a2a573477f6ef796ce855fb", func := "loop.example/sepkernel/laws.FnExactHealthRun", spec := "fnExactHealthRun", unfollowed := true, recurses := true, apart := false }
def FnExactHealthRunSaid : Prop := fnExactHealthRunRow.holds Try.pinned (OpenSpec.ofChange fnExactHealthRunSpec)

/-- ITS FALSE NEIGHBOUR: 'it returns false'. Refute it at one input. -/
def fnExactHealthRunWrong : ChangeSpec := { name := "fnExactHealthRun", fn := fun _ => fun
  | [d1, d2, d3] => { results := [.lit (.bool false)], args := [d1, d2, d3] }
  | _ => none }
def FnExactHealthRunWrongFalsely : Prop := fnExactHealthRunRow.holds Try.pinned (OpenSpec.ofChange fnExactHealthRunWrong)

/-- 'laws.FnExactPadStarts': WHATEVER THE INPUT: true; the input reads as it did. -/
def fnExactPadStartsSpec : ChangeSpec := { name := "fnExactPadStarts", fn := fun _ => fun
  | [d] => { results := [.lit (.bool true)], args := [d] }
  | _ => none }
def fnExactPadStartsRow : OpenClaim := { program := "ytjdhfehffgccmaa", sum := "d888fc7ff08af4781465cf2fe5d05fcae57208d75a2a573477f6ef796ce855fb", func := "loop.example/sepkernel/laws.FnExactPadStarts", spec := "fnExactPadStarts", unfollowed := true, recurses := true, apart := false }
def FnExactPadStartsSaid : Prop := fnExactPadStartsRow.holds Try.pinned (OpenSpec.ofChange fnExactPadStartsSpec)

/-- ITS FALSE NEIGHBOUR: 'it returns false'. Refute it at one input. -/
def fnExactPadStartsWrong : ChangeSpec := { name := "fnExactPadStarts", fn := fun _ => fun
  | [d] => { results := [.lit (.bool false)], args := [d] }
  | _ => none }
def FnExactPadStartsWrongFalsely : Prop := fnExactPadStartsRow.holds Try.pinned (OpenSpec.ofChange fnExactPadStartsWrong)

/-- 'laws.FnExactPadRuns': WHATEVER THE INPUT: true; the input reads as it did. -/
def fnExactPadRunsSpec : ChangeSpec := { name := "fnExactPadRuns", fn := fun _ => fun
  | [d1, d2] => { results := [.lit (.bool true)], args := [d1, d2] }
  | _ => none }
def fnExactPadRunsRow : OpenClaim := { program := "ytjdhfehffgccmaa", sum := "d888fc7ff08af4781465cf2fe5d05fcae57208d75a2a573477f6ef796ce855fb", func := "loop.example/sepkernel/laws.FnExactPadRuns", spec := "fnExactPadRuns", unfollowed := true, recurses := true, apart := false }
def FnExactPadRunsSaid : Prop := fnExactPadRunsRow.holds Try.pinned (OpenSpec.ofChange fnExactPadRunsSpec)

/-- ITS FALSE NEIGHBOUR: 'it returns false'. Refute it at one input. -/
def fnExactPadRunsWrong : ChangeSpec := { name := "fnExactPadRuns", fn := fun _ => fun
  | [d1, d2] => { results := [.lit (.bool false)], args := [d1, d2] }
  | _ => none }
def FnExactPadRunsWrongFalsely : Prop := fnExactPadRunsRow.holds Try.pinned (OpenSpec.ofChange fnExactPadRunsWrong)

/-- 'laws.FnExactPadWaste': WHATEVER THE INPUT: true; the input reads as it did. -/
def fnExactPadWasteSpec : ChangeSpec := { name := "fnExactPadWaste", fn := fun _ => fun
  | [d1, d2] => { results := [.lit (.bool true)], args := [d1, d2] }
  | _ => none }
def fnExactPadWasteRow : OpenClaim := { program := "ytjdhfehffgccmaa", sum := "d888fc7ff08af4781465cf2fe5d05fcae57208d75a2a573477f6ef796ce855fb", func := "loop.example/sepkernel/laws.FnExactPadWaste", spec := "fnExactPadWaste", unfollowed := true, recurses := true, apart := false }
def FnExactPadWasteSaid : Prop := fnExactPadWasteRow.holds Try.pinned (OpenSpec.ofChange fnExactPadWasteSpec)

/-- ITS FALSE NEIGHBOUR: 'it returns false'. Refute it at one input. -/
def fnExactPadWasteWrong : ChangeSpec := { name := "fnExactPadWaste", fn := fun _ => fun
  | [d1, d2] => { results := [.lit (.bool false)], args := [d1, d2] }
  | _ => none }
def FnExactPadWasteWrongFalsely : Prop := fnExactPadWasteRow.holds Try.pinned (OpenSpec.ofChange fnExactPadWasteWrong)

/-- 'laws.FnExactPlainStarts': WHATEVER THE INPUT: true; the input reads as it did. -/
def fnExactPlainStartsSpec : ChangeSpec := { name := "fnExactPlainStarts", fn := fun _ => fun
  | [d1, d2] => { results := [.lit (.bool true)], args := [d1, d2] }
  | _ => none }
def fnExactPlainStartsRow : OpenClaim := { program := "ytjdhfehffgccmaa", sum := "d888fc7ff08af4781465cf2fe5d05fcae57208d75a2a573477f6ef796ce855fb", func := "loop.example/sepkernel/laws.FnExactPlainStarts", spec := "fnExactPlainStarts", unfollowed := true, recurses := true, apart := false }
def FnExactPlainStartsSaid : Prop := fnExactPlainStartsRow.holds Try.pinned (OpenSpec.ofChange fnExactPlainStartsSpec)

/-- ITS FALSE NEIGHBOUR: 'it returns false'. Refute it at one input. -/
def fnExactPlainStartsWrong : ChangeSpec := { name := "fnExactPlainStarts", fn := fun _ => fun
  | [d1, d2] => { results := [.lit (.bool false)], args := [d1, d2] }
  | _ => none }
def FnExactPlainStartsWrongFalsely : Prop := fnExactPlainStartsRow.holds Try.pinned (OpenSpec.ofChange fnExactPlainStartsWrong)

/-- 'laws.FnExactSplitTransfer': WHATEVER THE INPUT: true; the input reads as it did. -/
def fnExactSplitTransferSpec : ChangeSpec := { name := "fnExactSplitTransfer", fn := fun _ => fun
  | [d1, d2] => { results := [.lit (.bool true)], args := [d1, d2] }
  | _ => none }
def fnExactSplitTransferRow : OpenClaim := { program := "ytjdhfehffgccmaa", sum := "d888fc7ff08af4781465cf2fe5d05fcae57208d75a2a573477f6ef796ce855fb", func := "loop.example/sepkernel/laws.FnExactSplitTransfer", spec := "fnExactSplitTransfer", apart := false }
def FnExactSplitTransferSaid : Prop := fnExactSplitTransferRow.holds Try.pinned (OpenSpec.ofChange fnExactSplitTransferSpec)

/-- ITS FALSE NEIGHBOUR: 'it returns false'. Refute it at one input. -/
def fnExactSplitTransferWrong : ChangeSpec := { name := "fnExactSplitTransfer", fn := fun _ => fun
  | [d1, d2] => { results := [.lit (.bool false)], args := [d1, d2] }
  | _ => none }
def FnExactSplitTransferWrongFalsely : Prop := fnExactSplitTransferRow.holds Try.pinned (OpenSpec.ofChange fnExactSplitTransferWrong)

/-- 'laws.FnExactHoldValid': WHATEVER THE INPUT: true; the input reads as it did. -/
def fnExactHoldValidSpec : ChangeSpec := { name := "fnExactHoldValid", fn := fun _ => fun
  | [d1, d2, d3] => { results := [.lit (.bool true)], args := [d1, d2, d3] }
  | _ => none }
def fnExactHoldValidRow : OpenClaim := { program := "ytjdhfehffgccmaa", sum := "d888fc7ff08af4781465cf2fe5d05fcae57208d75a2a573477f6ef796ce855fb", func := "loop.example/sepkernel/laws.FnExactHoldValid", spec := "fnExactHoldValid", unfollowed := true, recurses := true, apart := false }
def FnExactHoldValidSaid : Prop := fnExactHoldValidRow.holds Try.pinned (OpenSpec.ofChange fnExactHoldValidSpec)

/-- ITS FALSE NEIGHBOUR: 'it returns false'. Refute it at one input. -/
def fnExactHoldValidWrong : ChangeSpec := { name := "fnExactHoldValid", fn := fun _ => fun
  | [d1, d2, d3] => { results := [.lit (.bool false)], args := [d1, d2, d3] }
  | _ => none }
def FnExactHoldValidWrongFalsely : Prop := fnExactHoldValidRow.holds Try.pinned (OpenSpec.ofChange fnExactHoldValidWrong)

/-- 'laws.FnExactProgramValid': WHATEVER THE INPUT: true; the input reads as it did. -/
def fnExactProgramValidSpec : ChangeSpec := { name := "fnExactProgramValid", fn := fun _ => fun
  | [d1, d2] => { results := [.lit (.bool true)], args := [d1, d2] }
  | _ => none }
def fnExactProgramValidRow : OpenClaim := { program := "ytjdhfehffgccmaa", sum := "d888fc7ff08af4781465cf2fe5d05fcae57208d75a2a573477f6ef796ce855fb", func := "loop.example/sepkernel/laws.FnExactProgramValid", spec := "fnExactProgramValid", unfollowed := true, recurses := true, apart := false }
def FnExactProgramValidSaid : Prop := fnExactProgramValidRow.holds Try.pinned (OpenSpec.ofChange fnExactProgramValidSpec)

/-- ITS FALSE NEIGHBOUR: 'it returns false'. Refute it at one input. -/
def fnExactProgramValidWrong : ChangeSpec := { name := "fnExactProgramValid", fn := fun _ => fun
  | [d1, d2] => { results := [.lit (.bool false)], args := [d1, d2] }
  | _ => none }
def FnExactProgramValidWrongFalsely : Prop := fnExactProgramValidRow.holds Try.pinned (OpenSpec.ofChange fnExactProgramValidWrong)

/-- 'laws.FnExactCoreValid': WHATEVER THE INPUT: true; the input reads as it did. -/
def fnExactCoreValidSpec : ChangeSpec := { name := "fnExactCoreValid", fn := fun _ => fun
  | [d1, d2, d3] => { results := [.lit (.bool true)], args := [d1, d2, d3] }
  | _ => none }
def fnExactCoreValidRow : OpenClaim := { program := "ytjdhfehffgccmaa", sum := "d888fc7ff08af4781465cf2fe5d05fcae57208d75a2a573477f6ef796ce855fb", func := "loop.example/sepkernel/laws.FnExactCoreValid", spec := "fnExactCoreValid", unfollowed := true, recurses := true, apart := false }
def FnExactCoreValidSaid : Prop := fnExactCoreValidRow.holds Try.pinned (OpenSpec.ofChange fnExactCoreValidSpec)

/-- ITS FALSE NEIGHBOUR: 'it returns false'. Refute it at one input. -/
def fnExactCoreValidWrong : ChangeSpec := { name := "fnExactCoreValid", fn := fun _ => fun
  | [d1, d2, d3] => { results := [.lit (.bool false)], args := [d1, d2, d3] }
  | _ => none }
def FnExactCoreValidWrongFalsely : Prop := fnExactCoreValidRow.holds Try.pinned (OpenSpec.ofChange fnExactCoreValidWrong)

/-- 'laws.FnExactNewCore': WHATEVER THE INPUT: true; the input reads as it did. -/
def fnExactNewCoreSpec : ChangeSpec := { name := "fnExactNewCore", fn := fun _ => fun
  | [d] => { results := [.lit (.bool true)], args := [d] }
  | _ => none }
def fnExactNewCoreRow : OpenClaim := { program := "ytjdhfehffgccmaa", sum := "d888fc7ff08af4781465cf2fe5d05fcae57208d75a2a573477f6ef796ce855fb", func := "loop.example/sepkernel/laws.FnExactNewCore", spec := "fnExactNewCore", apart := false }
def FnExactNewCoreSaid : Prop := fnExactNewCoreRow.holds Try.pinned (OpenSpec.ofChange fnExactNewCoreSpec)

/-- ITS FALSE NEIGHBOUR: 'it returns false'. Refute it at one input. -/
def fnExactNewCoreWrong : ChangeSpec := { name := "fnExactNewCore", fn := fun _ => fun
  | [d] => { results := [.lit (.bool false)], args := [d] }
  | _ => none }
def FnExactNewCoreWrongFalsely : Prop := fnExactNewCoreRow.holds Try.pinned (OpenSpec.ofChange fnExactNewCoreWrong)

/- THE SECOND FORM. 'bulk': how many values and letters a reading holds, each counted each time it is reached (what is shared counts as often as it is met; a slice's spare places count too). A statement '..UptoSaid' is the law's where the arguments, and the package variables that the reading takes, are together of bulk at most 1048576: NARROWER than '..Said'. Prove '..Said' where nothing that the law and all that it calls make is longer than what came in: it says more and counts as full. Else prove '..UptoSaid'. A law counts once. -/
mutual
def uptoBulk {H : Type} : DataW H → Nat
  | .lit (.string bytes) => bytes.length + 1
  | .lit _ => 1
  | .nil => 1
  | .ptr d => uptoBulk d + 1
  | .slice elems spare => uptoBulkAll elems + uptoBulkAll spare + 1
  | .agg parts => uptoBulkAll parts + 1
  | .iface _ d => uptoBulk d + 1
  | .map entries => uptoBulkEntries entries + 1
  | .held _ => 1
def uptoBulkAll {H : Type} : List (DataW H) → Nat
  | [] => 0
  | d :: r => uptoBulk d + uptoBulkAll r
def uptoBulkEntries {H : Type} : List (Lit × DataW H) → Nat
  | [] => 0
  | x :: r => uptoBulkEntry x + uptoBulkEntries r
def uptoBulkEntry {H : Type} : Lit × DataW H → Nat
  | (.string bytes, d) => bytes.length + uptoBulk d + 1
  | (_, d) => uptoBulk d + 1
 end
def uptoSmall : (H : Type) → List (DataW H) → Bool := fun _ ds => decide (uptoBulkAll ds ≤ 1048576)
def OpenSpec.upto (s : _root_.Go.ChangeSpec) : _root_.Go.OpenSpec := { _root_.Go.OpenSpec.ofChange s with cond := some uptoSmall }

/-- 'laws.FnExactFaultsLeft', WHERE WHAT IT READS IS OF BULK AT MOST 1048576: true; the input reads as it did. -/
def fnExactFaultsLeftUptoRow : OpenClaim := { program := "ytjdhfehffgccmaa", sum := "d888fc7ff08af4781465cf2fe5d05fcae57208d75a2a573477f6ef796ce855fb", func := "loop.example/sepkernel/laws.FnExactFaultsLeft", spec := "fnExactFaultsLeft", unfollowed := true, recurses := true, apart := false, narrowed := true }
def FnExactFaultsLeftUptoSaid : Prop := fnExactFaultsLeftUptoRow.holds Try.pinned (OpenSpec.upto fnExactFaultsLeftSpec)

/-- 'laws.FnExactHealthStep', WHERE WHAT IT READS IS OF BULK AT MOST 1048576: true; the input reads as it did. -/
def fnExactHealthStepUptoRow : OpenClaim := { program := "ytjdhfehffgccmaa", sum := "d888fc7ff08af4781465cf2fe5d05fcae57208d75a2a573477f6ef796ce855fb", func := "loop.example/sepkernel/laws.FnExactHealthStep", spec := "fnExactHealthStep", unfollowed := true, recurses := true, apart := false, narrowed := true }
def FnExactHealthStepUptoSaid : Prop := fnExactHealthStepUptoRow.holds Try.pinned (OpenSpec.upto fnExactHealthStepSpec)

/-- 'laws.FnExactHealthRun', WHERE WHAT IT READS IS OF BULK AT MOST 1048576: true; the input reads as it did. -/
def fnExactHealthRunUptoRow : OpenClaim := { program := "ytjdhfehffgccmaa", sum := "d888fc7ff08af4781465cf2fe5d05fcae57208d75a2a573477f6ef796ce855fb", func := "loop.example/sepkernel/laws.FnExactHealthRun", spec := "fnExactHealthRun", unfollowed := true, recurses := true, apart := false, narrowed := true }
def FnExactHealthRunUptoSaid : Prop := fnExactHealthRunUptoRow.holds Try.pinned (OpenSpec.upto fnExactHealthRunSpec)

/-- 'laws.FnExactPadStarts', WHERE WHAT IT READS IS OF BULK AT MOST 1048576: true; the input reads as it did. -/
def fnExactPadStartsUptoRow : OpenClaim := { program := "ytjdhfehffgccmaa", sum := "d888fc7ff08af4781465cf2fe5d05fcae57208d75a2a573477f6ef796ce855fb", func := "loop.example/sepkernel/laws.FnExactPadStarts", spec := "fnExactPadStarts", unfollowed := true, recurses := true, apart := false, narrowed := true }
def FnExactPadStartsUptoSaid : Prop := fnExactPadStartsUptoRow.holds Try.pinned (OpenSpec.upto fnExactPadStartsSpec)

/-- 'laws.FnExactPadRuns', WHERE WHAT IT READS IS OF BULK AT MOST 1048576: true; the input reads as it did. -/
def fnExactPadRunsUptoRow : OpenClaim := { program := "ytjdhfehffgccmaa", sum := "d888fc7ff08af4781465cf2fe5d05fcae57208d75a2a573477f6ef796ce855fb", func := "loop.example/sepkernel/laws.FnExactPadRuns", spec := "fnExactPadRuns", unfollowed := true, recurses := true, apart := false, narrowed := true }
def FnExactPadRunsUptoSaid : Prop := fnExactPadRunsUptoRow.holds Try.pinned (OpenSpec.upto fnExactPadRunsSpec)

/-- 'laws.FnExactPadWaste', WHERE WHAT IT READS IS OF BULK AT MOST 1048576: true; the input reads as it did. -/
def fnExactPadWasteUptoRow : OpenClaim := { program := "ytjdhfehffgccmaa", sum := "d888fc7ff08af4781465cf2fe5d05fcae57208d75a2a573477f6ef796ce855fb", func := "loop.example/sepkernel/laws.FnExactPadWaste", spec := "fnExactPadWaste", unfollowed := true, recurses := true, apart := false, narrowed := true }
def FnExactPadWasteUptoSaid : Prop := fnExactPadWasteUptoRow.holds Try.pinned (OpenSpec.upto fnExactPadWasteSpec)

/-- 'laws.FnExactPlainStarts', WHERE WHAT IT READS IS OF BULK AT MOST 1048576: true; the input reads as it did. -/
def fnExactPlainStartsUptoRow : OpenClaim := { program := "ytjdhfehffgccmaa", sum := "d888fc7ff08af4781465cf2fe5d05fcae57208d75a2a573477f6ef796ce855fb", func := "loop.example/sepkernel/laws.FnExactPlainStarts", spec := "fnExactPlainStarts", unfollowed := true, recurses := true, apart := false, narrowed := true }
def FnExactPlainStartsUptoSaid : Prop := fnExactPlainStartsUptoRow.holds Try.pinned (OpenSpec.upto fnExactPlainStartsSpec)

/-- 'laws.FnExactSplitTransfer', WHERE WHAT IT READS IS OF BULK AT MOST 1048576: true; the input reads as it did. -/
def fnExactSplitTransferUptoRow : OpenClaim := { program := "ytjdhfehffgccmaa", sum := "d888fc7ff08af4781465cf2fe5d05fcae57208d75a2a573477f6ef796ce855fb", func := "loop.example/sepkernel/laws.FnExactSplitTransfer", spec := "fnExactSplitTransfer", apart := false, narrowed := true }
def FnExactSplitTransferUptoSaid : Prop := fnExactSplitTransferUptoRow.holds Try.pinned (OpenSpec.upto fnExactSplitTransferSpec)

/-- 'laws.FnExactHoldValid', WHERE WHAT IT READS IS OF BULK AT MOST 1048576: true; the input reads as it did. -/
def fnExactHoldValidUptoRow : OpenClaim := { program := "ytjdhfehffgccmaa", sum := "d888fc7ff08af4781465cf2fe5d05fcae57208d75a2a573477f6ef796ce855fb", func := "loop.example/sepkernel/laws.FnExactHoldValid", spec := "fnExactHoldValid", unfollowed := true, recurses := true, apart := false, narrowed := true }
def FnExactHoldValidUptoSaid : Prop := fnExactHoldValidUptoRow.holds Try.pinned (OpenSpec.upto fnExactHoldValidSpec)

/-- 'laws.FnExactProgramValid', WHERE WHAT IT READS IS OF BULK AT MOST 1048576: true; the input reads as it did. -/
def fnExactProgramValidUptoRow : OpenClaim := { program := "ytjdhfehffgccmaa", sum := "d888fc7ff08af4781465cf2fe5d05fcae57208d75a2a573477f6ef796ce855fb", func := "loop.example/sepkernel/laws.FnExactProgramValid", spec := "fnExactProgramValid", unfollowed := true, recurses := true, apart := false, narrowed := true }
def FnExactProgramValidUptoSaid : Prop := fnExactProgramValidUptoRow.holds Try.pinned (OpenSpec.upto fnExactProgramValidSpec)

/-- 'laws.FnExactCoreValid', WHERE WHAT IT READS IS OF BULK AT MOST 1048576: true; the input reads as it did. -/
def fnExactCoreValidUptoRow : OpenClaim := { program := "ytjdhfehffgccmaa", sum := "d888fc7ff08af4781465cf2fe5d05fcae57208d75a2a573477f6ef796ce855fb", func := "loop.example/sepkernel/laws.FnExactCoreValid", spec := "fnExactCoreValid", unfollowed := true, recurses := true, apart := false, narrowed := true }
def FnExactCoreValidUptoSaid : Prop := fnExactCoreValidUptoRow.holds Try.pinned (OpenSpec.upto fnExactCoreValidSpec)

/-- 'laws.FnExactNewCore', WHERE WHAT IT READS IS OF BULK AT MOST 1048576: true; the input reads as it did. -/
def fnExactNewCoreUptoRow : OpenClaim := { program := "ytjdhfehffgccmaa", sum := "d888fc7ff08af4781465cf2fe5d05fcae57208d75a2a573477f6ef796ce855fb", func := "loop.example/sepkernel/laws.FnExactNewCore", spec := "fnExactNewCore", apart := false, narrowed := true }
def FnExactNewCoreUptoSaid : Prop := fnExactNewCoreUptoRow.holds Try.pinned (OpenSpec.upto fnExactNewCoreSpec)

end Rows
end Go.Proofs.Ytjdhfehffgccmaa
