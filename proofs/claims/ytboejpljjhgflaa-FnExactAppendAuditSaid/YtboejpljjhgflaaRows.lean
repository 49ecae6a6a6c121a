/-
  No cell of these rows narrows 'for every input' (looked for: loops, veiled, ifaces, maps, wideKeys, modest, calm, conditions, laid).
  DERIVED. THE GIVEN ROWS OF THIS SEAT. 3 by the template 'for every input the law returns true; each argument reads behind the call as it read before'; 0 by the template 'total and deterministic' (their statements: YtboejpljjhgflaaTotals.lean).
  GIVEN WITH THE SEED: the statements are not yours to turn. If you find one false, say at which input.
  Laid BY PROGRAM, IN A SANDBOX (cutbox-rows.mjs): the forced cells as the released guide's own fill.sh prints them over the translation dd83dc08bd5d145f… (all of the seat's roots in one cut). By AI agents, Wed Nov 11 2026. No macro, syntax, notation, axiom, sorry.
-/
import Derived.Test.YtboejpljjhgflaaChecked
import GoSem.Claim
import GoSem.ClaimJoined
import GoSem.ClaimMapViews
import Derived.JoinedTies
import Derived.KernelRfl
namespace Go.Proofs.Ytboejpljjhgflaa
/- THE CELL 'sum', in the pinned program and in every row, IS THE sha256 OF THE DUMP (.gsa) THAT YtboejpljjhgflaaProg.lean LOADS. Nothing in Lean hashes anything: it is a label: what it is worth is what the hold of that sum in a sandbox is worth. -/
noncomputable def Try.pinned : Pinned := { name := "ytboejpljjhgflaa", sum := "dd83dc08bd5d145f46c0224d281ef6cb6bab745bcaa56ccc7b1cc56bf99bc14c", checked := Try.checked }
namespace Rows
def none {H : Type} : Left H := { results := [], args := [] }

/-- 'laws.FnExactAuditBegins': WHATEVER THE INPUT: true; the input reads as it did. -/
def fnExactAuditBeginsSpec : ChangeSpec := { name := "fnExactAuditBegins", fn := fun _ => fun
  | [d1, d2] => { results := [.lit (.bool true)], args := [d1, d2] }
  | _ => none }
def fnExactAuditBeginsRow : OpenClaim := { program := "ytboejpljjhgflaa", sum := "dd83dc08bd5d145f46c0224d281ef6cb6bab745bcaa56ccc7b1cc56bf99bc14c", func := "loop.example/sepkernel/laws.FnExactAuditBegins", spec := "fnExactAuditBegins", apart := false }
def FnExactAuditBeginsSaid : Prop := fnExactAuditBeginsRow.holds Try.pinned (OpenSpec.ofChange fnExactAuditBeginsSpec)

/-- ITS FALSE NEIGHBOUR: 'it returns false'. Refute it at one input. -/
def fnExactAuditBeginsWrong : ChangeSpec := { name := "fnExactAuditBegins", fn := fun _ => fun
  | [d1, d2] => { results := [.lit (.bool false)], args := [d1, d2] }
  | _ => none }
def FnExactAuditBeginsWrongFalsely : Prop := fnExactAuditBeginsRow.holds Try.pinned (OpenSpec.ofChange fnExactAuditBeginsWrong)

/-- 'laws.FnExactAuditSince': WHATEVER THE INPUT: true; the input reads as it did. -/
def fnExactAuditSinceSpec : ChangeSpec := { name := "fnExactAuditSince", fn := fun _ => fun
  | [d1, d2] => { results := [.lit (.bool true)], args := [d1, d2] }
  | _ => none }
def fnExactAuditSinceRow : OpenClaim := { program := "ytboejpljjhgflaa", sum := "dd83dc08bd5d145f46c0224d281ef6cb6bab745bcaa56ccc7b1cc56bf99bc14c", func := "loop.example/sepkernel/laws.FnExactAuditSince", spec := "fnExactAuditSince", apart := false }
def FnExactAuditSinceSaid : Prop := fnExactAuditSinceRow.holds Try.pinned (OpenSpec.ofChange fnExactAuditSinceSpec)

/-- ITS FALSE NEIGHBOUR: 'it returns false'. Refute it at one input. -/
def fnExactAuditSinceWrong : ChangeSpec := { name := "fnExactAuditSince", fn := fun _ => fun
  | [d1, d2] => { results := [.lit (.bool false)], args := [d1, d2] }
  | _ => none }
def FnExactAuditSinceWrongFalsely : Prop := fnExactAuditSinceRow.holds Try.pinned (OpenSpec.ofChange fnExactAuditSinceWrong)

/-- 'laws.FnExactAppendAudit': WHATEVER THE INPUT: true; the input reads as it did. -/
def fnExactAppendAuditSpec : ChangeSpec := { name := "fnExactAppendAudit", fn := fun _ => fun
  | [d1, d2] => { results := [.lit (.bool true)], args := [d1, d2] }
  | _ => none }
def fnExactAppendAuditRow : OpenClaim := { program := "ytboejpljjhgflaa", sum := "dd83dc08bd5d145f46c0224d281ef6cb6bab745bcaa56ccc7b1cc56bf99bc14c", func := "loop.example/sepkernel/laws.FnExactAppendAudit", spec := "fnExactAppendAudit", apart := false }
def FnExactAppendAuditSaid : Prop := fnExactAppendAuditRow.holds Try.pinned (OpenSpec.ofChange fnExactAppendAuditSpec)

/-- ITS FALSE NEIGHBOUR: 'it returns false'. Refute it at one input. -/
def fnExactAppendAuditWrong : ChangeSpec := { name := "fnExactAppendAudit", fn := fun _ => fun
  | [d1, d2] => { results := [.lit (.bool false)], args := [d1, d2] }
  | _ => none }
def FnExactAppendAuditWrongFalsely : Prop := fnExactAppendAuditRow.holds Try.pinned (OpenSpec.ofChange fnExactAppendAuditWrong)

/- THE SECOND FORM. 'bulk': how many values and letters a reading holds, each counted each time it is reached (what is shared counts as often as it is met; a slice's spare places count too). A statement '..UptoSaid' is the law's where the arguments, and the package variables that the reading takes, are together of bulk at most 1048576: NARROWER than '..Said'. Prove '..Said' where nothing that the law and all that it calls make is longer than what came in: it says more and counts as full. Else prove '..UptoSaid'. A law counts once. -/
mutual
def uptoBulk {H : Type} : DataW H → Nat
  | .lit (.string bytes) => bytes.length + 1
  | .lit _ => 1
  | .nil => 1
  | .ptr d => uptoBulk d + 1
  | .slice elems spare => uptoBulkAll elems + uptoBulkAll spare + 1
  | .agg parts => uptoBulkAll parts + 1
  | .iface _ d => uptoBulk d + 1
  | .map entries => uptoBulkEntries entries + 1
  | .held _ => 1
def uptoBulkAll {H : Type} : List (DataW H) → Nat
  | [] => 0
  | d :: r => uptoBulk d + uptoBulkAll r
def uptoBulkEntries {H : Type} : List (Lit × DataW H) → Nat
  | [] => 0
  | x :: r => uptoBulkEntry x + uptoBulkEntries r
def uptoBulkEntry {H : Type} : Lit × DataW H → Nat
  | (.string bytes, d) => bytes.length + uptoBulk d + 1
  | (_, d) => uptoBulk d + 1
 end
def uptoSmall : (H : Type) → List (DataW H) → Bool := fun _ ds => decide (uptoBulkAll ds ≤ 1048576)
def OpenSpec.upto (s : _root_.Go.ChangeSpec) : _root_.Go.OpenSpec := { _root_.Go.OpenSpec.ofChange s with cond := some uptoSmall }

/-- 'laws.FnExactAuditBegins', WHERE WHAT IT READS IS OF BULK AT MOST 1048576: true; the input reads as it did. -/
def fnExactAuditBeginsUptoRow : OpenClaim := { program := "ytboejpljjhgflaa", sum := "dd83dc08bd5d145f46c0224d281ef6cb6bab745bcaa56ccc7b1cc56bf99bc14c", func := "loop.example/sepkernel/laws.FnExactAuditBegins", spec := "fnExactAuditBegins", apart := false, narrowed := true }
def FnExactAuditBeginsUptoSaid : Prop := fnExactAuditBeginsUptoRow.holds Try.pinned (OpenSpec.upto fnExactAuditBeginsSpec)

/-- 'laws.FnExactAuditSince', WHERE WHAT IT READS IS OF BULK AT MOST 1048576: true; the input reads as it did. -/
def fnExactAuditSinceUptoRow : OpenClaim := { program := "ytboejpljjhgflaa", sum := "dd83dc08bd5d145f46c0224d281ef6cb6bab745bcaa56ccc7b1cc56bf99bc14c", func := "loop.example/sepkernel/laws.FnExactAuditSince", spec := "fnExactAuditSince", apart := false, narrowed := true }
def FnExactAuditSinceUptoSaid : Prop := fnExactAuditSinceUptoRow.holds Try.pinned (OpenSpec.upto fnExactAuditSinceSpec)

/-- 'laws.FnExactAppendAudit', WHERE WHAT IT READS IS OF BULK AT MOST 1048576: true; the input reads as it did. -/
def fnExactAppendAuditUptoRow : OpenClaim := { program := "ytboejpljjhgflaa", sum := "dd83dc08bd5d145f46c0224d281ef6cb6bab745bcaa56ccc7b1cc56bf99bc14c", func := "loop.example/sepkernel/laws.FnExactAppendAudit", spec := "fnExactAppendAudit", apart := false, narrowed := true }
def FnExactAppendAuditUptoSaid : Prop := fnExactAppendAuditUptoRow.holds Try.pinned (OpenSpec.upto fnExactAppendAuditSpec)

end Rows
end Go.Proofs.Ytboejpljjhgflaa
