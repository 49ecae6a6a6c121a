/-
  No cell of these rows narrows 'for every input' (looked for: loops, veiled, ifaces, maps, wideKeys, modest, calm, conditions, laid).
  DERIVED. THE GIVEN ROWS OF THIS SEAT. 4 by the template 'for every input the law returns true; each argument reads behind the call as it read before'; 0 by the template 'total and deterministic' (their statements: YtlckjhbgdbhdmaaTotals.lean).
  GIVEN WITH THE SEED: the statements are not yours to turn. If you find one false, say at which input.
  Laid BY PROGRAM, IN A SANDBOX (cutbox-rows.mjs): the forced cells as the released guide's own fill.sh prints them over the translation 33c1f05fece8f6aa… (all of the seat's roots in one cut). By AI agents, Wed Nov 11 2026. No macro, syntax, notation, axiom, sorry.
-/
import Derived.Test.YtlckjhbgdbhdmaaChecked
import GoSem.Claim
import GoSem.ClaimJoined
import GoSem.ClaimMapViews
import Derived.JoinedTies
import Derived.KernelRfl
namespace Go.Proofs.Ytlckjhbgdbhdmaa
/- THE CELL 'sum', in the pinned program and in every row, IS THE sha256 OF THE DUMP (.gsa) THAT YtlckjhbgdbhdmaaProg.lean LOADS. Nothing in Lean hashes anything: it is a label: what it is worth is what the hold of that sum in a sandbox is worth. -/
noncomputable def Try.pinned : Pinned := { name := "ytlckjhbgdbhdmaa", sum := "33c1f05fece8f6aab5fcc1f765894641818971a01fcba5daf28533029187b554", checked := Try.checked }
namespace Rows
def none {H : Type} : Left H := { results := [], args := [] }

/-- 'laws.FnExactSetupValid': WHATEVER THE INPUT: true; the input reads as it did. -/
def fnExactSetupValidSpec : ChangeSpec := { name := "fnExactSetupValid", fn := fun _ => fun
  | [d] => { results := [.lit (.bool true)], args := [d] }
  | _ => none }
def fnExactSetupValidRow : OpenClaim := { program := "ytlckjhbgdbhdmaa", sum := "33c1f05fece8f6aab5fcc1f765894641818971a01fcba5daf28533029187b554", func := "loop.example/sepkernel/laws.FnExactSetupValid", spec := "fnExactSetupValid", unfollowed := true, recurses := true, apart := false }
def FnExactSetupValidSaid : Prop := fnExactSetupValidRow.holds Try.pinned (OpenSpec.ofChange fnExactSetupValidSpec)

/-- ITS FALSE NEIGHBOUR: 'it returns false'. Refute it at one input. -/
def fnExactSetupValidWrong : ChangeSpec := { name := "fnExactSetupValid", fn := fun _ => fun
  | [d] => { results := [.lit (.bool false)], args := [d] }
  | _ => none }
def FnExactSetupValidWrongFalsely : Prop := fnExactSetupValidRow.holds Try.pinned (OpenSpec.ofChange fnExactSetupValidWrong)

/-- 'laws.FnExactSetupFaults': WHATEVER THE INPUT: true; the input reads as it did. -/
def fnExactSetupFaultsSpec : ChangeSpec := { name := "fnExactSetupFaults", fn := fun _ => fun
  | [d] => { results := [.lit (.bool true)], args := [d] }
  | _ => none }
def fnExactSetupFaultsRow : OpenClaim := { program := "ytlckjhbgdbhdmaa", sum := "33c1f05fece8f6aab5fcc1f765894641818971a01fcba5daf28533029187b554", func := "loop.example/sepkernel/laws.FnExactSetupFaults", spec := "fnExactSetupFaults", unfollowed := true, recurses := true, apart := false }
def FnExactSetupFaultsSaid : Prop := fnExactSetupFaultsRow.holds Try.pinned (OpenSpec.ofChange fnExactSetupFaultsSpec)

/-- ITS FALSE NEIGHBOUR: 'it returns false'. Refute it at one input. -/
def fnExactSetupFaultsWrong : ChangeSpec := { name := "fnExactSetupFaults", fn := fun _ => fun
  | [d] => { results := [.lit (.bool false)], args := [d] }
  | _ => none }
def FnExactSetupFaultsWrongFalsely : Prop := fnExactSetupFaultsRow.holds Try.pinned (OpenSpec.ofChange fnExactSetupFaultsWrong)

/-- 'laws.FnExactSetupNumbers': WHATEVER THE INPUT: true; the input reads as it did. -/
def fnExactSetupNumbersSpec : ChangeSpec := { name := "fnExactSetupNumbers", fn := fun _ => fun
  | [d] => { results := [.lit (.bool true)], args := [d] }
  | _ => none }
def fnExactSetupNumbersRow : OpenClaim := { program := "ytlckjhbgdbhdmaa", sum := "33c1f05fece8f6aab5fcc1f765894641818971a01fcba5daf28533029187b554", func := "loop.example/sepkernel/laws.FnExactSetupNumbers", spec := "fnExactSetupNumbers", unfollowed := true, recurses := true, apart := false }
def FnExactSetupNumbersSaid : Prop := fnExactSetupNumbersRow.holds Try.pinned (OpenSpec.ofChange fnExactSetupNumbersSpec)

/-- ITS FALSE NEIGHBOUR: 'it returns false'. Refute it at one input. -/
def fnExactSetupNumbersWrong : ChangeSpec := { name := "fnExactSetupNumbers", fn := fun _ => fun
  | [d] => { results := [.lit (.bool false)], args := [d] }
  | _ => none }
def FnExactSetupNumbersWrongFalsely : Prop := fnExactSetupNumbersRow.holds Try.pinned (OpenSpec.ofChange fnExactSetupNumbersWrong)

/-- 'laws.FnExactSealSetup': WHATEVER THE INPUT: true; the input reads as it did. -/
def fnExactSealSetupSpec : ChangeSpec := { name := "fnExactSealSetup", fn := fun _ => fun
  | [d1, d2] => { results := [.lit (.bool true)], args := [d1, d2] }
  | _ => none }
def fnExactSealSetupRow : OpenClaim := { program := "ytlckjhbgdbhdmaa", sum := "33c1f05fece8f6aab5fcc1f765894641818971a01fcba5daf28533029187b554", func := "loop.example/sepkernel/laws.FnExactSealSetup", spec := "fnExactSealSetup", unfollowed := true, recurses := true, apart := false }
def FnExactSealSetupSaid : Prop := fnExactSealSetupRow.holds Try.pinned (OpenSpec.ofChange fnExactSealSetupSpec)

/-- ITS FALSE NEIGHBOUR: 'it returns false'. Refute it at one input. -/
def fnExactSealSetupWrong : ChangeSpec := { name := "fnExactSealSetup", fn := fun _ => fun
  | [d1, d2] => { results := [.lit (.bool false)], args := [d1, d2] }
  | _ => none }
def FnExactSealSetupWrongFalsely : Prop := fnExactSealSetupRow.holds Try.pinned (OpenSpec.ofChange fnExactSealSetupWrong)

/- THE SECOND FORM. 'bulk': how many values and letters a reading holds, each counted each time it is reached (what is shared counts as often as it is met; a slice's spare places count too). A statement '..UptoSaid' is the law's where the arguments, and the package variables that the reading takes, are together of bulk at most 1048576: NARROWER than '..Said'. Prove '..Said' where nothing that the law and all that it calls make is longer than what came in: it says more and counts as full. Else prove '..UptoSaid'. A law counts once. -/
mutual
def uptoBulk {H : Type} : DataW H → Nat
  | .lit (.string bytes) => bytes.length + 1
  | .lit _ => 1
  | .nil => 1
  | .ptr d => uptoBulk d + 1
  | .slice elems spare => uptoBulkAll elems + uptoBulkAll spare + 1
  | .agg parts => uptoBulkAll parts + 1
  | .iface _ d => uptoBulk d + 1
  | .map entries => uptoBulkEntries entries + 1
  | .held _ => 1
def uptoBulkAll {H : Type} : List (DataW H) → Nat
  | [] => 0
  | d :: r => uptoBulk d + uptoBulkAll r
def uptoBulkEntries {H : Type} : List (Lit × DataW H) → Nat
  | [] => 0
  | x :: r => uptoBulkEntry x + uptoBulkEntries r
def uptoBulkEntry {H : Type} : Lit × DataW H → Nat
  | (.string bytes, d) => bytes.length + uptoBulk d + 1
  | (_, d) => uptoBulk d + 1
 end
def uptoSmall : (H : Type) → List (DataW H) → Bool := fun _ ds => decide (uptoBulkAll ds ≤ 1048576)
def OpenSpec.upto (s : _root_.Go.ChangeSpec) : _root_.Go.OpenSpec := { _root_.Go.OpenSpec.ofChange s with cond := some uptoSmall }

/-- 'laws.FnExactSetupValid', WHERE WHAT IT READS IS OF BULK AT MOST 1048576: true; the input reads as it did. -/
def fnExactSetupValidUptoRow : OpenClaim := { program := "ytlckjhbgdbhdmaa", sum := "33c1f05fece8f6aab5fcc1f765894641818971a01fcba5daf28533029187b554", func := "loop.example/sepkernel/laws.FnExactSetupValid", spec := "fnExactSetupValid", unfollowed := true, recurses := true, apart := false, narrowed := true }
def FnExactSetupValidUptoSaid : Prop := fnExactSetupValidUptoRow.holds Try.pinned (OpenSpec.upto fnExactSetupValidSpec)

/-- 'laws.FnExactSetupFaults', WHERE WHAT IT READS IS OF BULK AT MOST 1048576: true; the input reads as it did. -/
def fnExactSetupFaultsUptoRow : OpenClaim := { program := "ytlckjhbgdbhdmaa", sum := "33c1f05fece8f6aab5fcc1f765894641818971a01fcba5daf28533029187b554", func := "loop.example/sepkernel/laws.FnExactSetupFaults", spec := "fnExactSetupFaults", unfollowed := true, recurses := true, apart := false, narrowed := true }
def FnExactSetupFaultsUptoSaid : Prop := fnExactSetupFaultsUptoRow.holds Try.pinned (OpenSpec.upto fnExactSetupFaultsSpec)

/-- 'laws.FnExactSetupNumbers', WHERE WHAT IT READS IS OF BULK AT MOST 1048576: true; the input reads as it did. -/
def fnExactSetupNumbersUptoRow : OpenClaim := { program := "ytlckjhbgdbhdmaa", sum := "33c1f05fece8f6aab5fcc1f765894641818971a01fcba5daf28533029187b554", func := "loop.example/sepkernel/laws.FnExactSetupNumbers", spec := "fnExactSetupNumbers", unfollowed := true, recurses := true, apart := false, narrowed := true }
def FnExactSetupNumbersUptoSaid : Prop := fnExactSetupNumbersUptoRow.holds Try.pinned (OpenSpec.upto fnExactSetupNumbersSpec)

/-- 'laws.FnExactSealSetup', WHERE WHAT IT READS IS OF BULK AT MOST 1048576: true; the input reads as it did. -/
def fnExactSealSetupUptoRow : OpenClaim := { program := "ytlckjhbgdbhdmaa", sum := "33c1f05fece8f6aab5fcc1f765894641818971a01fcba5daf28533029187b554", func := "loop.example/sepkernel/laws.FnExactSealSetup", spec := "fnExactSealSetup", unfollowed := true, recurses := true, apart := false, narrowed := true }
def FnExactSealSetupUptoSaid : Prop := fnExactSealSetupUptoRow.holds Try.pinned (OpenSpec.upto fnExactSealSetupSpec)

end Rows
end Go.Proofs.Ytlckjhbgdbhdmaa
