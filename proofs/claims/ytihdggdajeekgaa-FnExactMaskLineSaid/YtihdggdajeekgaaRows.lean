/-
  No cell of these rows narrows 'for every input' (looked for: loops, veiled, ifaces, maps, wideKeys, modest, calm, conditions, laid).
  DERIVED. THE GIVEN ROWS OF THIS SEAT. 9 by the template 'for every input the law returns true; each argument reads behind the call as it read before'; 0 by the template 'total and deterministic' (their statements: YtihdggdajeekgaaTotals.lean).
  GIVEN WITH THE SEED: the statements are not yours to turn. If you find one false, say at which input.
  Laid BY PROGRAM, IN A SANDBOX (cutbox-rows.mjs): the forced cells as the released guide's own fill.sh prints them over the translation 41ffbff2e9e9add8… (all of the seat's roots in one cut). By AI agents, Wed Nov 11 2026. No macro, syntax, notation, axiom, sorry.
-/
import Derived.Test.YtihdggdajeekgaaChecked
import GoSem.Claim
import GoSem.ClaimJoined
import GoSem.ClaimMapViews
import Derived.JoinedTies
import Derived.KernelRfl
namespace Go.Proofs.Ytihdggdajeekgaa
/- THE CELL 'sum', in the pinned program and in every row, IS THE sha256 OF THE DUMP (.gsa) THAT YtihdggdajeekgaaProg.lean LOADS. Nothing in Lean hashes anything: it is a label: what it is worth is what the hold of that sum in a sandbox is worth. -/
noncomputable def Try.pinned : Pinned := { name := "ytihdggdajeekgaa", sum := "41ffbff2e9e9add800707377aaf75d377f252a0c81559fe1ad9bbd5799072372", checked := Try.checked }
namespace Rows
def none {H : Type} : Left H := { results := [], args := [] }

/-- 'laws.FnExactConstants': WHATEVER THE INPUT: true; the input reads as it did. -/
def fnExactConstantsSpec : ChangeSpec := { name := "fnExactConstants", fn := fun _ => fun
  | [] => { results := [.lit (.bool true)], args := [] }
  | _ => none }
def fnExactConstantsRow : OpenClaim := { program := "ytihdggdajeekgaa", sum := "41ffbff2e9e9add800707377aaf75d377f252a0c81559fe1ad9bbd5799072372", func := "loop.example/sepkernel/laws.FnExactConstants", spec := "fnExactConstants", apart := false }
def FnExactConstantsSaid : Prop := fnExactConstantsRow.holds Try.pinned (OpenSpec.ofChange fnExactConstantsSpec)

/-- ITS FALSE NEIGHBOUR: 'it returns false'. Refute it at one input. -/
def fnExactConstantsWrong : ChangeSpec := { name := "fnExactConstants", fn := fun _ => fun
  | [] => { results := [.lit (.bool false)], args := [] }
  | _ => none }
def FnExactConstantsWrongFalsely : Prop := fnExactConstantsRow.holds Try.pinned (OpenSpec.ofChange fnExactConstantsWrong)

/-- 'laws.FnExactHealthValid': WHATEVER THE INPUT: true; the input reads as it did. -/
def fnExactHealthValidSpec : ChangeSpec := { name := "fnExactHealthValid", fn := fun _ => fun
  | [d] => { results := [.lit (.bool true)], args := [d] }
  | _ => none }
def fnExactHealthValidRow : OpenClaim := { program := "ytihdggdajeekgaa", sum := "41ffbff2e9e9add800707377aaf75d377f252a0c81559fe1ad9bbd5799072372", func := "loop.example/sepkernel/laws.FnExactHealthValid", spec := "fnExactHealthValid", apart := false }
def FnExactHealthValidSaid : Prop := fnExactHealthValidRow.holds Try.pinned (OpenSpec.ofChange fnExactHealthValidSpec)

/-- ITS FALSE NEIGHBOUR: 'it returns false'. Refute it at one input. -/
def fnExactHealthValidWrong : ChangeSpec := { name := "fnExactHealthValid", fn := fun _ => fun
  | [d] => { results := [.lit (.bool false)], args := [d] }
  | _ => none }
def FnExactHealthValidWrongFalsely : Prop := fnExactHealthValidRow.holds Try.pinned (OpenSpec.ofChange fnExactHealthValidWrong)

/-- 'laws.FnExactLinesValid': WHATEVER THE INPUT: true; the input reads as it did. -/
def fnExactLinesValidSpec : ChangeSpec := { name := "fnExactLinesValid", fn := fun _ => fun
  | [d] => { results := [.lit (.bool true)], args := [d] }
  | _ => none }
def fnExactLinesValidRow : OpenClaim := { program := "ytihdggdajeekgaa", sum := "41ffbff2e9e9add800707377aaf75d377f252a0c81559fe1ad9bbd5799072372", func := "loop.example/sepkernel/laws.FnExactLinesValid", spec := "fnExactLinesValid", apart := false }
def FnExactLinesValidSaid : Prop := fnExactLinesValidRow.holds Try.pinned (OpenSpec.ofChange fnExactLinesValidSpec)

/-- ITS FALSE NEIGHBOUR: 'it returns false'. Refute it at one input. -/
def fnExactLinesValidWrong : ChangeSpec := { name := "fnExactLinesValid", fn := fun _ => fun
  | [d] => { results := [.lit (.bool false)], args := [d] }
  | _ => none }
def FnExactLinesValidWrongFalsely : Prop := fnExactLinesValidRow.holds Try.pinned (OpenSpec.ofChange fnExactLinesValidWrong)

/-- 'laws.FnExactTransferValid': WHATEVER THE INPUT: true; the input reads as it did. -/
def fnExactTransferValidSpec : ChangeSpec := { name := "fnExactTransferValid", fn := fun _ => fun
  | [d] => { results := [.lit (.bool true)], args := [d] }
  | _ => none }
def fnExactTransferValidRow : OpenClaim := { program := "ytihdggdajeekgaa", sum := "41ffbff2e9e9add800707377aaf75d377f252a0c81559fe1ad9bbd5799072372", func := "loop.example/sepkernel/laws.FnExactTransferValid", spec := "fnExactTransferValid", apart := false }
def FnExactTransferValidSaid : Prop := fnExactTransferValidRow.holds Try.pinned (OpenSpec.ofChange fnExactTransferValidSpec)

/-- ITS FALSE NEIGHBOUR: 'it returns false'. Refute it at one input. -/
def fnExactTransferValidWrong : ChangeSpec := { name := "fnExactTransferValid", fn := fun _ => fun
  | [d] => { results := [.lit (.bool false)], args := [d] }
  | _ => none }
def FnExactTransferValidWrongFalsely : Prop := fnExactTransferValidRow.holds Try.pinned (OpenSpec.ofChange fnExactTransferValidWrong)

/-- 'laws.FnExactOrderNumber': WHATEVER THE INPUT: true; the input reads as it did. -/
def fnExactOrderNumberSpec : ChangeSpec := { name := "fnExactOrderNumber", fn := fun _ => fun
  | [d] => { results := [.lit (.bool true)], args := [d] }
  | _ => none }
def fnExactOrderNumberRow : OpenClaim := { program := "ytihdggdajeekgaa", sum := "41ffbff2e9e9add800707377aaf75d377f252a0c81559fe1ad9bbd5799072372", func := "loop.example/sepkernel/laws.FnExactOrderNumber", spec := "fnExactOrderNumber", apart := false }
def FnExactOrderNumberSaid : Prop := fnExactOrderNumberRow.holds Try.pinned (OpenSpec.ofChange fnExactOrderNumberSpec)

/-- ITS FALSE NEIGHBOUR: 'it returns false'. Refute it at one input. -/
def fnExactOrderNumberWrong : ChangeSpec := { name := "fnExactOrderNumber", fn := fun _ => fun
  | [d] => { results := [.lit (.bool false)], args := [d] }
  | _ => none }
def FnExactOrderNumberWrongFalsely : Prop := fnExactOrderNumberRow.holds Try.pinned (OpenSpec.ofChange fnExactOrderNumberWrong)

/-- 'laws.FnExactOrderFrom': WHATEVER THE INPUT: true; the input reads as it did. -/
def fnExactOrderFromSpec : ChangeSpec := { name := "fnExactOrderFrom", fn := fun _ => fun
  | [d] => { results := [.lit (.bool true)], args := [d] }
  | _ => none }
def fnExactOrderFromRow : OpenClaim := { program := "ytihdggdajeekgaa", sum := "41ffbff2e9e9add800707377aaf75d377f252a0c81559fe1ad9bbd5799072372", func := "loop.example/sepkernel/laws.FnExactOrderFrom", spec := "fnExactOrderFrom", apart := false }
def FnExactOrderFromSaid : Prop := fnExactOrderFromRow.holds Try.pinned (OpenSpec.ofChange fnExactOrderFromSpec)

/-- ITS FALSE NEIGHBOUR: 'it returns false'. Refute it at one input. -/
def fnExactOrderFromWrong : ChangeSpec := { name := "fnExactOrderFrom", fn := fun _ => fun
  | [d] => { results := [.lit (.bool false)], args := [d] }
  | _ => none }
def FnExactOrderFromWrongFalsely : Prop := fnExactOrderFromRow.holds Try.pinned (OpenSpec.ofChange fnExactOrderFromWrong)

/-- 'laws.FnExactRaiseLine': WHATEVER THE INPUT: true; the input reads as it did. -/
def fnExactRaiseLineSpec : ChangeSpec := { name := "fnExactRaiseLine", fn := fun _ => fun
  | [d1, d2] => { results := [.lit (.bool true)], args := [d1, d2] }
  | _ => none }
def fnExactRaiseLineRow : OpenClaim := { program := "ytihdggdajeekgaa", sum := "41ffbff2e9e9add800707377aaf75d377f252a0c81559fe1ad9bbd5799072372", func := "loop.example/sepkernel/laws.FnExactRaiseLine", spec := "fnExactRaiseLine", apart := false }
def FnExactRaiseLineSaid : Prop := fnExactRaiseLineRow.holds Try.pinned (OpenSpec.ofChange fnExactRaiseLineSpec)

/-- ITS FALSE NEIGHBOUR: 'it returns false'. Refute it at one input. -/
def fnExactRaiseLineWrong : ChangeSpec := { name := "fnExactRaiseLine", fn := fun _ => fun
  | [d1, d2] => { results := [.lit (.bool false)], args := [d1, d2] }
  | _ => none }
def FnExactRaiseLineWrongFalsely : Prop := fnExactRaiseLineRow.holds Try.pinned (OpenSpec.ofChange fnExactRaiseLineWrong)

/-- 'laws.FnExactHealthTable': WHATEVER THE INPUT: true; the input reads as it did. -/
def fnExactHealthTableSpec : ChangeSpec := { name := "fnExactHealthTable", fn := fun _ => fun
  | [d] => { results := [.lit (.bool true)], args := [d] }
  | _ => none }
def fnExactHealthTableRow : OpenClaim := { program := "ytihdggdajeekgaa", sum := "41ffbff2e9e9add800707377aaf75d377f252a0c81559fe1ad9bbd5799072372", func := "loop.example/sepkernel/laws.FnExactHealthTable", spec := "fnExactHealthTable", unfollowed := true, recurses := true, apart := false }
def FnExactHealthTableSaid : Prop := fnExactHealthTableRow.holds Try.pinned (OpenSpec.ofChange fnExactHealthTableSpec)

/-- ITS FALSE NEIGHBOUR: 'it returns false'. Refute it at one input. -/
def fnExactHealthTableWrong : ChangeSpec := { name := "fnExactHealthTable", fn := fun _ => fun
  | [d] => { results := [.lit (.bool false)], args := [d] }
  | _ => none }
def FnExactHealthTableWrongFalsely : Prop := fnExactHealthTableRow.holds Try.pinned (OpenSpec.ofChange fnExactHealthTableWrong)

/-- 'laws.FnExactMaskLine': WHATEVER THE INPUT: true; the input reads as it did. -/
def fnExactMaskLineSpec : ChangeSpec := { name := "fnExactMaskLine", fn := fun _ => fun
  | [d1, d2, d3] => { results := [.lit (.bool true)], args := [d1, d2, d3] }
  | _ => none }
def fnExactMaskLineRow : OpenClaim := { program := "ytihdggdajeekgaa", sum := "41ffbff2e9e9add800707377aaf75d377f252a0c81559fe1ad9bbd5799072372", func := "loop.example/sepkernel/laws.FnExactMaskLine", spec := "fnExactMaskLine", apart := false }
def FnExactMaskLineSaid : Prop := fnExactMaskLineRow.holds Try.pinned (OpenSpec.ofChange fnExactMaskLineSpec)

/-- ITS FALSE NEIGHBOUR: 'it returns false'. Refute it at one input. -/
def fnExactMaskLineWrong : ChangeSpec := { name := "fnExactMaskLine", fn := fun _ => fun
  | [d1, d2, d3] => { results := [.lit (.bool false)], args := [d1, d2, d3] }
  | _ => none }
def FnExactMaskLineWrongFalsely : Prop := fnExactMaskLineRow.holds Try.pinned (OpenSpec.ofChange fnExactMaskLineWrong)

/- THE SECOND FORM. 'bulk': how many values and letters a reading holds, each counted each time it is reached (what is shared counts as often as it is met; a slice's spare places count too). A statement '..UptoSaid' is the law's where the arguments, and the package variables that the reading takes, are together of bulk at most 1048576: NARROWER than '..Said'. Prove '..Said' where nothing that the law and all that it calls make is longer than what came in: it says more and counts as full. Else prove '..UptoSaid'. A law counts once. -/
mutual
def uptoBulk {H : Type} : DataW H → Nat
  | .lit (.string bytes) => bytes.length + 1
  | .lit _ => 1
  | .nil => 1
  | .ptr d => uptoBulk d + 1
  | .slice elems spare => uptoBulkAll elems + uptoBulkAll spare + 1
  | .agg parts => uptoBulkAll parts + 1
  | .iface _ d => uptoBulk d + 1
  | .map entries => uptoBulkEntries entries + 1
  | .held _ => 1
def uptoBulkAll {H : Type} : List (DataW H) → Nat
  | [] => 0
  | d :: r => uptoBulk d + uptoBulkAll r
def uptoBulkEntries {H : Type} : List (Lit × DataW H) → Nat
  | [] => 0
  | x :: r => uptoBulkEntry x + uptoBulkEntries r
def uptoBulkEntry {H : Type} : Lit × DataW H → Nat
  | (.string bytes, d) => bytes.length + uptoBulk d + 1
  | (_, d) => uptoBulk d + 1
 end
def uptoSmall : (H : Type) → List (DataW H) → Bool := fun _ ds => decide (uptoBulkAll ds ≤ 1048576)
def OpenSpec.upto (s : _root_.Go.ChangeSpec) : _root_.Go.OpenSpec := { _root_.Go.OpenSpec.ofChange s with cond := some uptoSmall }

/-- 'laws.FnExactConstants', WHERE WHAT IT READS IS OF BULK AT MOST 1048576: true; the input reads as it did. -/
def fnExactConstantsUptoRow : OpenClaim := { program := "ytihdggdajeekgaa", sum := "41ffbff2e9e9add800707377aaf75d377f252a0c81559fe1ad9bbd5799072372", func := "loop.example/sepkernel/laws.FnExactConstants", spec := "fnExactConstants", apart := false, narrowed := true }
def FnExactConstantsUptoSaid : Prop := fnExactConstantsUptoRow.holds Try.pinned (OpenSpec.upto fnExactConstantsSpec)

/-- 'laws.FnExactHealthValid', WHERE WHAT IT READS IS OF BULK AT MOST 1048576: true; the input reads as it did. -/
def fnExactHealthValidUptoRow : OpenClaim := { program := "ytihdggdajeekgaa", sum := "41ffbff2e9e9add800707377aaf75d377f252a0c81559fe1ad9bbd5799072372", func := "loop.example/sepkernel/laws.FnExactHealthValid", spec := "fnExactHealthValid", apart := false, narrowed := true }
def FnExactHealthValidUptoSaid : Prop := fnExactHealthValidUptoRow.holds Try.pinned (OpenSpec.upto fnExactHealthValidSpec)

/-- 'laws.FnExactLinesValid', WHERE WHAT IT READS IS OF BULK AT MOST 1048576: true; the input reads as it did. -/
def fnExactLinesValidUptoRow : OpenClaim := { program := "ytihdggdajeekgaa", sum := "41ffbff2e9e9add800707377aaf75d377f252a0c81559fe1ad9bbd5799072372", func := "loop.example/sepkernel/laws.FnExactLinesValid", spec := "fnExactLinesValid", apart := false, narrowed := true }
def FnExactLinesValidUptoSaid : Prop := fnExactLinesValidUptoRow.holds Try.pinned (OpenSpec.upto fnExactLinesValidSpec)

/-- 'laws.FnExactTransferValid', WHERE WHAT IT READS IS OF BULK AT MOST 1048576: true; the input reads as it did. -/
def fnExactTransferValidUptoRow : OpenClaim := { program := "ytihdggdajeekgaa", sum := "41ffbff2e9e9add800707377aaf75d377f252a0c81559fe1ad9bbd5799072372", func := "loop.example/sepkernel/laws.FnExactTransferValid", spec := "fnExactTransferValid", apart := false, narrowed := true }
def FnExactTransferValidUptoSaid : Prop := fnExactTransferValidUptoRow.holds Try.pinned (OpenSpec.upto fnExactTransferValidSpec)

/-- 'laws.FnExactOrderNumber', WHERE WHAT IT READS IS OF BULK AT MOST 1048576: true; the input reads as it did. -/
def fnExactOrderNumberUptoRow : OpenClaim := { program := "ytihdggdajeekgaa", sum := "41ffbff2e9e9add800707377aaf75d377f252a0c81559fe1ad9bbd5799072372", func := "loop.example/sepkernel/laws.FnExactOrderNumber", spec := "fnExactOrderNumber", apart := false, narrowed := true }
def FnExactOrderNumberUptoSaid : Prop := fnExactOrderNumberUptoRow.holds Try.pinned (OpenSpec.upto fnExactOrderNumberSpec)

/-- 'laws.FnExactOrderFrom', WHERE WHAT IT READS IS OF BULK AT MOST 1048576: true; the input reads as it did. -/
def fnExactOrderFromUptoRow : OpenClaim := { program := "ytihdggdajeekgaa", sum := "41ffbff2e9e9add800707377aaf75d377f252a0c81559fe1ad9bbd5799072372", func := "loop.example/sepkernel/laws.FnExactOrderFrom", spec := "fnExactOrderFrom", apart := false, narrowed := true }
def FnExactOrderFromUptoSaid : Prop := fnExactOrderFromUptoRow.holds Try.pinned (OpenSpec.upto fnExactOrderFromSpec)

/-- 'laws.FnExactRaiseLine', WHERE WHAT IT READS IS OF BULK AT MOST 1048576: true; the input reads as it did. -/
def fnExactRaiseLineUptoRow : OpenClaim := { program := "ytihdggdajeekgaa", sum := "41ffbff2e9e9add800707377aaf75d377f252a0c81559fe1ad9bbd5799072372", func := "loop.example/sepkernel/laws.FnExactRaiseLine", spec := "fnExactRaiseLine", apart := false, narrowed := true }
def FnExactRaiseLineUptoSaid : Prop := fnExactRaiseLineUptoRow.holds Try.pinned (OpenSpec.upto fnExactRaiseLineSpec)

/-- 'laws.FnExactHealthTable', WHERE WHAT IT READS IS OF BULK AT MOST 1048576: true; the input reads as it did. -/
def fnExactHealthTableUptoRow : OpenClaim := { program := "ytihdggdajeekgaa", sum := "41ffbff2e9e9add800707377aaf75d377f252a0c81559fe1ad9bbd5799072372", func := "loop.example/sepkernel/laws.FnExactHealthTable", spec := "fnExactHealthTable", unfollowed := true, recurses := true, apart := false, narrowed := true }
def FnExactHealthTableUptoSaid : Prop := fnExactHealthTableUptoRow.holds Try.pinned (OpenSpec.upto fnExactHealthTableSpec)

/-- 'laws.FnExactMaskLine', WHERE WHAT IT READS IS OF BULK AT MOST 1048576: true; the input reads as it did. -/
def fnExactMaskLineUptoRow : OpenClaim := { program := "ytihdggdajeekgaa", sum := "41ffbff2e9e9add800707377aaf75d377f252a0c81559fe1ad9bbd5799072372", func := "loop.example/sepkernel/laws.FnExactMaskLine", spec := "fnExactMaskLine", apart := false, narrowed := true }
def FnExactMaskLineUptoSaid : Prop := fnExactMaskLineUptoRow.holds Try.pinned (OpenSpec.upto fnExactMaskLineSpec)

end Rows
end Go.Proofs.Ytihdggdajeekgaa
