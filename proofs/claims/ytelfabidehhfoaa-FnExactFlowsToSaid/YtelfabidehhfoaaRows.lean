/-
  No cell of these rows narrows 'for every input' (looked for: loops, veiled, ifaces, maps, wideKeys, modest, calm, conditions, laid).
  DERIVED. THE GIVEN ROWS OF THIS SEAT. 9 by the template 'for every input the law returns true; each argument reads behind the call as it read before'; 0 by the template 'total and deterministic' (their statements: YtelfabidehhfoaaTotals.lean).
  GIVEN WITH THE SEED: the statements are not yours to turn. If you find one false, say at which input.
  Laid BY PROGRAM, IN A SANDBOX (cutbox-rows.mjs): the forced cells as the released guide's own fill.sh prints them over the translation 07b03cdd7428e49e… (all of the seat's roots in one cut). By AI agents, Wed Nov 11 2026. No macro, syntax, notation, axiom, sorry.
-/
import Derived.Test.YtelfabidehhfoaaChecked
import GoSem.Claim
import GoSem.ClaimJoined
import GoSem.ClaimMapViews
import Derived.JoinedTies
import Derived.KernelRfl
namespace Go.Proofs.Ytelfabidehhfoaa
/- THE CELL 'sum', in the pinned program and in every row, IS THE sha256 OF THE DUMP (.gsa) THAT YtelfabidehhfoaaProg.lean LOADS. Nothing in Lean hashes anything: it is a label: what it is worth is what the hold of that sum in a sandbox is worth. -/
noncomputable def Try.pinned : Pinned := { name := "ytelfabidehhfoaa", sum := "07b03cdd7428e49e3d9e0a009faa0bcc6b1151fbe932f0c29d3de7b45535597f", checked := Try.checked }
namespace Rows
def none {H : Type} : Left H := { results := [], args := [] }

/-- 'laws.FnExactWindowsValid': WHATEVER THE INPUT: true; the input reads as it did. -/
def fnExactWindowsValidSpec : ChangeSpec := { name := "fnExactWindowsValid", fn := fun _ => fun
  | [d] => { results := [.lit (.bool true)], args := [d] }
  | _ => none }
def fnExactWindowsValidRow : OpenClaim := { program := "ytelfabidehhfoaa", sum := "07b03cdd7428e49e3d9e0a009faa0bcc6b1151fbe932f0c29d3de7b45535597f", func := "loop.example/sepkernel/laws.FnExactWindowsValid", spec := "fnExactWindowsValid", unfollowed := true, recurses := true, apart := false }
def FnExactWindowsValidSaid : Prop := fnExactWindowsValidRow.holds Try.pinned (OpenSpec.ofChange fnExactWindowsValidSpec)

/-- ITS FALSE NEIGHBOUR: 'it returns false'. Refute it at one input. -/
def fnExactWindowsValidWrong : ChangeSpec := { name := "fnExactWindowsValid", fn := fun _ => fun
  | [d] => { results := [.lit (.bool false)], args := [d] }
  | _ => none }
def FnExactWindowsValidWrongFalsely : Prop := fnExactWindowsValidRow.holds Try.pinned (OpenSpec.ofChange fnExactWindowsValidWrong)

/-- 'laws.FnExactWindowsMeet': WHATEVER THE INPUT: true; the input reads as it did. -/
def fnExactWindowsMeetSpec : ChangeSpec := { name := "fnExactWindowsMeet", fn := fun _ => fun
  | [d1, d2] => { results := [.lit (.bool true)], args := [d1, d2] }
  | _ => none }
def fnExactWindowsMeetRow : OpenClaim := { program := "ytelfabidehhfoaa", sum := "07b03cdd7428e49e3d9e0a009faa0bcc6b1151fbe932f0c29d3de7b45535597f", func := "loop.example/sepkernel/laws.FnExactWindowsMeet", spec := "fnExactWindowsMeet", apart := false }
def FnExactWindowsMeetSaid : Prop := fnExactWindowsMeetRow.holds Try.pinned (OpenSpec.ofChange fnExactWindowsMeetSpec)

/-- ITS FALSE NEIGHBOUR: 'it returns false'. Refute it at one input. -/
def fnExactWindowsMeetWrong : ChangeSpec := { name := "fnExactWindowsMeet", fn := fun _ => fun
  | [d1, d2] => { results := [.lit (.bool false)], args := [d1, d2] }
  | _ => none }
def FnExactWindowsMeetWrongFalsely : Prop := fnExactWindowsMeetRow.holds Try.pinned (OpenSpec.ofChange fnExactWindowsMeetWrong)

/-- 'laws.FnExactWindowsClash': WHATEVER THE INPUT: true; the input reads as it did. -/
def fnExactWindowsClashSpec : ChangeSpec := { name := "fnExactWindowsClash", fn := fun _ => fun
  | [d1, d2] => { results := [.lit (.bool true)], args := [d1, d2] }
  | _ => none }
def fnExactWindowsClashRow : OpenClaim := { program := "ytelfabidehhfoaa", sum := "07b03cdd7428e49e3d9e0a009faa0bcc6b1151fbe932f0c29d3de7b45535597f", func := "loop.example/sepkernel/laws.FnExactWindowsClash", spec := "fnExactWindowsClash", unfollowed := true, recurses := true, apart := false }
def FnExactWindowsClashSaid : Prop := fnExactWindowsClashRow.holds Try.pinned (OpenSpec.ofChange fnExactWindowsClashSpec)

/-- ITS FALSE NEIGHBOUR: 'it returns false'. Refute it at one input. -/
def fnExactWindowsClashWrong : ChangeSpec := { name := "fnExactWindowsClash", fn := fun _ => fun
  | [d1, d2] => { results := [.lit (.bool false)], args := [d1, d2] }
  | _ => none }
def FnExactWindowsClashWrongFalsely : Prop := fnExactWindowsClashRow.holds Try.pinned (OpenSpec.ofChange fnExactWindowsClashWrong)

/-- 'laws.FnExactPartsValid': WHATEVER THE INPUT: true; the input reads as it did. -/
def fnExactPartsValidSpec : ChangeSpec := { name := "fnExactPartsValid", fn := fun _ => fun
  | [d] => { results := [.lit (.bool true)], args := [d] }
  | _ => none }
def fnExactPartsValidRow : OpenClaim := { program := "ytelfabidehhfoaa", sum := "07b03cdd7428e49e3d9e0a009faa0bcc6b1151fbe932f0c29d3de7b45535597f", func := "loop.example/sepkernel/laws.FnExactPartsValid", spec := "fnExactPartsValid", unfollowed := true, recurses := true, apart := false }
def FnExactPartsValidSaid : Prop := fnExactPartsValidRow.holds Try.pinned (OpenSpec.ofChange fnExactPartsValidSpec)

/-- ITS FALSE NEIGHBOUR: 'it returns false'. Refute it at one input. -/
def fnExactPartsValidWrong : ChangeSpec := { name := "fnExactPartsValid", fn := fun _ => fun
  | [d] => { results := [.lit (.bool false)], args := [d] }
  | _ => none }
def FnExactPartsValidWrongFalsely : Prop := fnExactPartsValidRow.holds Try.pinned (OpenSpec.ofChange fnExactPartsValidWrong)

/-- 'laws.FnExactPartsApart': WHATEVER THE INPUT: true; the input reads as it did. -/
def fnExactPartsApartSpec : ChangeSpec := { name := "fnExactPartsApart", fn := fun _ => fun
  | [d] => { results := [.lit (.bool true)], args := [d] }
  | _ => none }
def fnExactPartsApartRow : OpenClaim := { program := "ytelfabidehhfoaa", sum := "07b03cdd7428e49e3d9e0a009faa0bcc6b1151fbe932f0c29d3de7b45535597f", func := "loop.example/sepkernel/laws.FnExactPartsApart", spec := "fnExactPartsApart", unfollowed := true, recurses := true, apart := false }
def FnExactPartsApartSaid : Prop := fnExactPartsApartRow.holds Try.pinned (OpenSpec.ofChange fnExactPartsApartSpec)

/-- ITS FALSE NEIGHBOUR: 'it returns false'. Refute it at one input. -/
def fnExactPartsApartWrong : ChangeSpec := { name := "fnExactPartsApart", fn := fun _ => fun
  | [d] => { results := [.lit (.bool false)], args := [d] }
  | _ => none }
def FnExactPartsApartWrongFalsely : Prop := fnExactPartsApartRow.holds Try.pinned (OpenSpec.ofChange fnExactPartsApartWrong)

/-- 'laws.FnExactChannelsValid': WHATEVER THE INPUT: true; the input reads as it did. -/
def fnExactChannelsValidSpec : ChangeSpec := { name := "fnExactChannelsValid", fn := fun _ => fun
  | [d1, d2] => { results := [.lit (.bool true)], args := [d1, d2] }
  | _ => none }
def fnExactChannelsValidRow : OpenClaim := { program := "ytelfabidehhfoaa", sum := "07b03cdd7428e49e3d9e0a009faa0bcc6b1151fbe932f0c29d3de7b45535597f", func := "loop.example/sepkernel/laws.FnExactChannelsValid", spec := "fnExactChannelsValid", unfollowed := true, recurses := true, apart := false }
def FnExactChannelsValidSaid : Prop := fnExactChannelsValidRow.holds Try.pinned (OpenSpec.ofChange fnExactChannelsValidSpec)

/-- ITS FALSE NEIGHBOUR: 'it returns false'. Refute it at one input. -/
def fnExactChannelsValidWrong : ChangeSpec := { name := "fnExactChannelsValid", fn := fun _ => fun
  | [d1, d2] => { results := [.lit (.bool false)], args := [d1, d2] }
  | _ => none }
def FnExactChannelsValidWrongFalsely : Prop := fnExactChannelsValidRow.holds Try.pinned (OpenSpec.ofChange fnExactChannelsValidWrong)

/-- 'laws.FnExactChannelsOf': WHATEVER THE INPUT: true; the input reads as it did. -/
def fnExactChannelsOfSpec : ChangeSpec := { name := "fnExactChannelsOf", fn := fun _ => fun
  | [d1, d2, d3, d4] => { results := [.lit (.bool true)], args := [d1, d2, d3, d4] }
  | _ => none }
def fnExactChannelsOfRow : OpenClaim := { program := "ytelfabidehhfoaa", sum := "07b03cdd7428e49e3d9e0a009faa0bcc6b1151fbe932f0c29d3de7b45535597f", func := "loop.example/sepkernel/laws.FnExactChannelsOf", spec := "fnExactChannelsOf", unfollowed := true, recurses := true, apart := false }
def FnExactChannelsOfSaid : Prop := fnExactChannelsOfRow.holds Try.pinned (OpenSpec.ofChange fnExactChannelsOfSpec)

/-- ITS FALSE NEIGHBOUR: 'it returns false'. Refute it at one input. -/
def fnExactChannelsOfWrong : ChangeSpec := { name := "fnExactChannelsOf", fn := fun _ => fun
  | [d1, d2, d3, d4] => { results := [.lit (.bool false)], args := [d1, d2, d3, d4] }
  | _ => none }
def FnExactChannelsOfWrongFalsely : Prop := fnExactChannelsOfRow.holds Try.pinned (OpenSpec.ofChange fnExactChannelsOfWrong)

/-- 'laws.FnExactFlowDirect': WHATEVER THE INPUT: true; the input reads as it did. -/
def fnExactFlowDirectSpec : ChangeSpec := { name := "fnExactFlowDirect", fn := fun _ => fun
  | [d1, d2, d3, d4] => { results := [.lit (.bool true)], args := [d1, d2, d3, d4] }
  | _ => none }
def fnExactFlowDirectRow : OpenClaim := { program := "ytelfabidehhfoaa", sum := "07b03cdd7428e49e3d9e0a009faa0bcc6b1151fbe932f0c29d3de7b45535597f", func := "loop.example/sepkernel/laws.FnExactFlowDirect", spec := "fnExactFlowDirect", unfollowed := true, recurses := true, apart := false }
def FnExactFlowDirectSaid : Prop := fnExactFlowDirectRow.holds Try.pinned (OpenSpec.ofChange fnExactFlowDirectSpec)

/-- ITS FALSE NEIGHBOUR: 'it returns false'. Refute it at one input. -/
def fnExactFlowDirectWrong : ChangeSpec := { name := "fnExactFlowDirect", fn := fun _ => fun
  | [d1, d2, d3, d4] => { results := [.lit (.bool false)], args := [d1, d2, d3, d4] }
  | _ => none }
def FnExactFlowDirectWrongFalsely : Prop := fnExactFlowDirectRow.holds Try.pinned (OpenSpec.ofChange fnExactFlowDirectWrong)

/-- 'laws.FnExactFlowsTo': WHATEVER THE INPUT: true; the input reads as it did. -/
def fnExactFlowsToSpec : ChangeSpec := { name := "fnExactFlowsTo", fn := fun _ => fun
  | [d1, d2, d3] => { results := [.lit (.bool true)], args := [d1, d2, d3] }
  | _ => none }
def fnExactFlowsToRow : OpenClaim := { program := "ytelfabidehhfoaa", sum := "07b03cdd7428e49e3d9e0a009faa0bcc6b1151fbe932f0c29d3de7b45535597f", func := "loop.example/sepkernel/laws.FnExactFlowsTo", spec := "fnExactFlowsTo", unfollowed := true, recurses := true, apart := false }
def FnExactFlowsToSaid : Prop := fnExactFlowsToRow.holds Try.pinned (OpenSpec.ofChange fnExactFlowsToSpec)

/-- ITS FALSE NEIGHBOUR: 'it returns false'. Refute it at one input. -/
def fnExactFlowsToWrong : ChangeSpec := { name := "fnExactFlowsTo", fn := fun _ => fun
  | [d1, d2, d3] => { results := [.lit (.bool false)], args := [d1, d2, d3] }
  | _ => none }
def FnExactFlowsToWrongFalsely : Prop := fnExactFlowsToRow.holds Try.pinned (OpenSpec.ofChange fnExactFlowsToWrong)

/- THE SECOND FORM. 'bulk': how many values and letters a reading holds, each counted each time it is reached (what is shared counts as often as it is met; a slice's spare places count too). A statement '..UptoSaid' is the law's where the arguments, and the package variables that the reading takes, are together of bulk at most 1048576: NARROWER than '..Said'. Prove '..Said' where nothing that the law and all that it calls make is longer than what came in: it says more and counts as full. Else prove '..UptoSaid'. A law counts once. -/
mutual
def uptoBulk {H : Type} : DataW H → Nat
  | .lit (.string bytes) => bytes.length + 1
  | .lit _ => 1
  | .nil => 1
  | .ptr d => uptoBulk d + 1
  | .slice elems spare => uptoBulkAll elems + uptoBulkAll spare + 1
  | .agg parts => uptoBulkAll parts + 1
  | .iface _ d => uptoBulk d + 1
  | .map entries => uptoBulkEntries entries + 1
  | .held _ => 1
def uptoBulkAll {H : Type} : List (DataW H) → Nat
  | [] => 0
  | d :: r => uptoBulk d + uptoBulkAll r
def uptoBulkEntries {H : Type} : List (Lit × DataW H) → Nat
  | [] => 0
  | x :: r => uptoBulkEntry x + uptoBulkEntries r
def uptoBulkEntry {H : Type} : Lit × DataW H → Nat
  | (.string bytes, d) => bytes.length + uptoBulk d + 1
  | (_, d) => uptoBulk d + 1
 end
def uptoSmall : (H : Type) → List (DataW H) → Bool := fun _ ds => decide (uptoBulkAll ds ≤ 1048576)
def OpenSpec.upto (s : _root_.Go.ChangeSpec) : _root_.Go.OpenSpec := { _root_.Go.OpenSpec.ofChange s with cond := some uptoSmall }

/-- 'laws.FnExactWindowsValid', WHERE WHAT IT READS IS OF BULK AT MOST 1048576: true; the input reads as it did. -/
def fnExactWindowsValidUptoRow : OpenClaim := { program := "ytelfabidehhfoaa", sum := "07b03cdd7428e49e3d9e0a009faa0bcc6b1151fbe932f0c29d3de7b45535597f", func := "loop.example/sepkernel/laws.FnExactWindowsValid", spec := "fnExactWindowsValid", unfollowed := true, recurses := true, apart := false, narrowed := true }
def FnExactWindowsValidUptoSaid : Prop := fnExactWindowsValidUptoRow.holds Try.pinned (OpenSpec.upto fnExactWindowsValidSpec)

/-- 'laws.FnExactWindowsMeet', WHERE WHAT IT READS IS OF BULK AT MOST 1048576: true; the input reads as it did. -/
def fnExactWindowsMeetUptoRow : OpenClaim := { program := "ytelfabidehhfoaa", sum := "07b03cdd7428e49e3d9e0a009faa0bcc6b1151fbe932f0c29d3de7b45535597f", func := "loop.example/sepkernel/laws.FnExactWindowsMeet", spec := "fnExactWindowsMeet", apart := false, narrowed := true }
def FnExactWindowsMeetUptoSaid : Prop := fnExactWindowsMeetUptoRow.holds Try.pinned (OpenSpec.upto fnExactWindowsMeetSpec)

/-- 'laws.FnExactWindowsClash', WHERE WHAT IT READS IS OF BULK AT MOST 1048576: true; the input reads as it did. -/
def fnExactWindowsClashUptoRow : OpenClaim := { program := "ytelfabidehhfoaa", sum := "07b03cdd7428e49e3d9e0a009faa0bcc6b1151fbe932f0c29d3de7b45535597f", func := "loop.example/sepkernel/laws.FnExactWindowsClash", spec := "fnExactWindowsClash", unfollowed := true, recurses := true, apart := false, narrowed := true }
def FnExactWindowsClashUptoSaid : Prop := fnExactWindowsClashUptoRow.holds Try.pinned (OpenSpec.upto fnExactWindowsClashSpec)

/-- 'laws.FnExactPartsValid', WHERE WHAT IT READS IS OF BULK AT MOST 1048576: true; the input reads as it did. -/
def fnExactPartsValidUptoRow : OpenClaim := { program := "ytelfabidehhfoaa", sum := "07b03cdd7428e49e3d9e0a009faa0bcc6b1151fbe932f0c29d3de7b45535597f", func := "loop.example/sepkernel/laws.FnExactPartsValid", spec := "fnExactPartsValid", unfollowed := true, recurses := true, apart := false, narrowed := true }
def FnExactPartsValidUptoSaid : Prop := fnExactPartsValidUptoRow.holds Try.pinned (OpenSpec.upto fnExactPartsValidSpec)

/-- 'laws.FnExactPartsApart', WHERE WHAT IT READS IS OF BULK AT MOST 1048576: true; the input reads as it did. -/
def fnExactPartsApartUptoRow : OpenClaim := { program := "ytelfabidehhfoaa", sum := "07b03cdd7428e49e3d9e0a009faa0bcc6b1151fbe932f0c29d3de7b45535597f", func := "loop.example/sepkernel/laws.FnExactPartsApart", spec := "fnExactPartsApart", unfollowed := true, recurses := true, apart := false, narrowed := true }
def FnExactPartsApartUptoSaid : Prop := fnExactPartsApartUptoRow.holds Try.pinned (OpenSpec.upto fnExactPartsApartSpec)

/-- 'laws.FnExactChannelsValid', WHERE WHAT IT READS IS OF BULK AT MOST 1048576: true; the input reads as it did. -/
def fnExactChannelsValidUptoRow : OpenClaim := { program := "ytelfabidehhfoaa", sum := "07b03cdd7428e49e3d9e0a009faa0bcc6b1151fbe932f0c29d3de7b45535597f", func := "loop.example/sepkernel/laws.FnExactChannelsValid", spec := "fnExactChannelsValid", unfollowed := true, recurses := true, apart := false, narrowed := true }
def FnExactChannelsValidUptoSaid : Prop := fnExactChannelsValidUptoRow.holds Try.pinned (OpenSpec.upto fnExactChannelsValidSpec)

/-- 'laws.FnExactChannelsOf', WHERE WHAT IT READS IS OF BULK AT MOST 1048576: true; the input reads as it did. -/
def fnExactChannelsOfUptoRow : OpenClaim := { program := "ytelfabidehhfoaa", sum := "07b03cdd7428e49e3d9e0a009faa0bcc6b1151fbe932f0c29d3de7b45535597f", func := "loop.example/sepkernel/laws.FnExactChannelsOf", spec := "fnExactChannelsOf", unfollowed := true, recurses := true, apart := false, narrowed := true }
def FnExactChannelsOfUptoSaid : Prop := fnExactChannelsOfUptoRow.holds Try.pinned (OpenSpec.upto fnExactChannelsOfSpec)

/-- 'laws.FnExactFlowDirect', WHERE WHAT IT READS IS OF BULK AT MOST 1048576: true; the input reads as it did. -/
def fnExactFlowDirectUptoRow : OpenClaim := { program := "ytelfabidehhfoaa", sum := "07b03cdd7428e49e3d9e0a009faa0bcc6b1151fbe932f0c29d3de7b45535597f", func := "loop.example/sepkernel/laws.FnExactFlowDirect", spec := "fnExactFlowDirect", unfollowed := true, recurses := true, apart := false, narrowed := true }
def FnExactFlowDirectUptoSaid : Prop := fnExactFlowDirectUptoRow.holds Try.pinned (OpenSpec.upto fnExactFlowDirectSpec)

/-- 'laws.FnExactFlowsTo', WHERE WHAT IT READS IS OF BULK AT MOST 1048576: true; the input reads as it did. -/
def fnExactFlowsToUptoRow : OpenClaim := { program := "ytelfabidehhfoaa", sum := "07b03cdd7428e49e3d9e0a009faa0bcc6b1151fbe932f0c29d3de7b45535597f", func := "loop.example/sepkernel/laws.FnExactFlowsTo", spec := "fnExactFlowsTo", unfollowed := true, recurses := true, apart := false, narrowed := true }
def FnExactFlowsToUptoSaid : Prop := fnExactFlowsToUptoRow.holds Try.pinned (OpenSpec.upto fnExactFlowsToSpec)

end Rows
end Go.Proofs.Ytelfabidehhfoaa
