/-
  No cell of these rows narrows 'for every input' (looked for: loops, veiled, ifaces, maps, wideKeys, modest, calm, conditions, laid).
  DERIVED. THE GIVEN ROWS OF THIS SEAT. 12 by the template 'for every input the law returns true; each argument reads behind the call as it read before'; 0 by the template 'total and deterministic' (their statements: YtfdcneijcckolaaTotals.lean).
  GIVEN WITH THE SEED: the statements are not yours to turn. If you find one false, say at which input.
  Laid BY PROGRAM, IN A SANDBOX (cutbox-rows.mjs): the forced cells as the released guide's own fill.sh prints them over the translation ad35be49209a85b5… (all of the seat's roots in one cut). By AI agents, Wed Nov 11 2026. No macro, syntax, notation, axiom, sorry.
-/
import Derived.Test.YtfdcneijcckolaaChecked
import GoSem.Claim
import GoSem.ClaimJoined
import GoSem.ClaimMapViews
import Derived.JoinedTies
import Derived.KernelRfl
namespace Go.Proofs.Ytfdcneijcckolaa
/- THE CELL 'sum', in the pinned program and in every row, IS THE sha256 OF THE DUMP (.gsa) THAT YtfdcneijcckolaaProg.lean LOADS. Nothing in Lean hashes anything: it is a label: what it is worth is what the hold of that sum in a sandbox is worth. -/
noncomputable def Try.pinned : Pinned := { name := "ytfdcneijcckolaa", sum := "ad35be49209a85b554cbd31d1e0ee6894d91fe3a5a297d144f0904bcc46dbb99", checked := Try.checked }
namespace Rows
def none {H : Type} : Left H := { results := [], args := [] }

/-- 'laws.FnExactMixNumbers': WHATEVER THE INPUT: true; the input reads as it did. -/
def fnExactMixNumbersSpec : ChangeSpec := { name := "fnExactMixNumbers", fn := fun _ => fun
  | [d1, d2] => { results := [.lit (.bool true)], args := [d1, d2] }
  | _ => none }
def fnExactMixNumbersRow : OpenClaim := { program := "ytfdcneijcckolaa", sum := "ad35be49209a85b554cbd31d1e0ee6894d91fe3a5a297d144f0904bcc46dbb99", func := "loop.example/sepkernel/laws.FnExactMixNumbers", spec := "fnExactMixNumbers", apart := false }
def FnExactMixNumbersSaid : Prop := fnExactMixNumbersRow.holds Try.pinned (OpenSpec.ofChange fnExactMixNumbersSpec)

/-- ITS FALSE NEIGHBOUR: 'it returns false'. Refute it at one input. -/
def fnExactMixNumbersWrong : ChangeSpec := { name := "fnExactMixNumbers", fn := fun _ => fun
  | [d1, d2] => { results := [.lit (.bool false)], args := [d1, d2] }
  | _ => none }
def FnExactMixNumbersWrongFalsely : Prop := fnExactMixNumbersRow.holds Try.pinned (OpenSpec.ofChange fnExactMixNumbersWrong)

/-- 'laws.FnExactChainSums': WHATEVER THE INPUT: true; the input reads as it did. -/
def fnExactChainSumsSpec : ChangeSpec := { name := "fnExactChainSums", fn := fun _ => fun
  | [d1, d2] => { results := [.lit (.bool true)], args := [d1, d2] }
  | _ => none }
def fnExactChainSumsRow : OpenClaim := { program := "ytfdcneijcckolaa", sum := "ad35be49209a85b554cbd31d1e0ee6894d91fe3a5a297d144f0904bcc46dbb99", func := "loop.example/sepkernel/laws.FnExactChainSums", spec := "fnExactChainSums", apart := false }
def FnExactChainSumsSaid : Prop := fnExactChainSumsRow.holds Try.pinned (OpenSpec.ofChange fnExactChainSumsSpec)

/-- ITS FALSE NEIGHBOUR: 'it returns false'. Refute it at one input. -/
def fnExactChainSumsWrong : ChangeSpec := { name := "fnExactChainSums", fn := fun _ => fun
  | [d1, d2] => { results := [.lit (.bool false)], args := [d1, d2] }
  | _ => none }
def FnExactChainSumsWrongFalsely : Prop := fnExactChainSumsRow.holds Try.pinned (OpenSpec.ofChange fnExactChainSumsWrong)

/-- 'laws.FnExactNewAudit': WHATEVER THE INPUT: true; the input reads as it did. -/
def fnExactNewAuditSpec : ChangeSpec := { name := "fnExactNewAudit", fn := fun _ => fun
  | [d] => { results := [.lit (.bool true)], args := [d] }
  | _ => none }
def fnExactNewAuditRow : OpenClaim := { program := "ytfdcneijcckolaa", sum := "ad35be49209a85b554cbd31d1e0ee6894d91fe3a5a297d144f0904bcc46dbb99", func := "loop.example/sepkernel/laws.FnExactNewAudit", spec := "fnExactNewAudit", apart := false }
def FnExactNewAuditSaid : Prop := fnExactNewAuditRow.holds Try.pinned (OpenSpec.ofChange fnExactNewAuditSpec)

/-- ITS FALSE NEIGHBOUR: 'it returns false'. Refute it at one input. -/
def fnExactNewAuditWrong : ChangeSpec := { name := "fnExactNewAudit", fn := fun _ => fun
  | [d] => { results := [.lit (.bool false)], args := [d] }
  | _ => none }
def FnExactNewAuditWrongFalsely : Prop := fnExactNewAuditRow.holds Try.pinned (OpenSpec.ofChange fnExactNewAuditWrong)

/-- 'laws.FnExactAuditValid': WHATEVER THE INPUT: true; the input reads as it did. -/
def fnExactAuditValidSpec : ChangeSpec := { name := "fnExactAuditValid", fn := fun _ => fun
  | [d] => { results := [.lit (.bool true)], args := [d] }
  | _ => none }
def fnExactAuditValidRow : OpenClaim := { program := "ytfdcneijcckolaa", sum := "ad35be49209a85b554cbd31d1e0ee6894d91fe3a5a297d144f0904bcc46dbb99", func := "loop.example/sepkernel/laws.FnExactAuditValid", spec := "fnExactAuditValid", apart := false }
def FnExactAuditValidSaid : Prop := fnExactAuditValidRow.holds Try.pinned (OpenSpec.ofChange fnExactAuditValidSpec)

/-- ITS FALSE NEIGHBOUR: 'it returns false'. Refute it at one input. -/
def fnExactAuditValidWrong : ChangeSpec := { name := "fnExactAuditValid", fn := fun _ => fun
  | [d] => { results := [.lit (.bool false)], args := [d] }
  | _ => none }
def FnExactAuditValidWrongFalsely : Prop := fnExactAuditValidRow.holds Try.pinned (OpenSpec.ofChange fnExactAuditValidWrong)

/-- 'laws.FnExactAuditBegins': WHATEVER THE INPUT: true; the input reads as it did. -/
def fnExactAuditBeginsSpec : ChangeSpec := { name := "fnExactAuditBegins", fn := fun _ => fun
  | [d1, d2] => { results := [.lit (.bool true)], args := [d1, d2] }
  | _ => none }
def fnExactAuditBeginsRow : OpenClaim := { program := "ytfdcneijcckolaa", sum := "ad35be49209a85b554cbd31d1e0ee6894d91fe3a5a297d144f0904bcc46dbb99", func := "loop.example/sepkernel/laws.FnExactAuditBegins", spec := "fnExactAuditBegins", apart := false }
def FnExactAuditBeginsSaid : Prop := fnExactAuditBeginsRow.holds Try.pinned (OpenSpec.ofChange fnExactAuditBeginsSpec)

/-- ITS FALSE NEIGHBOUR: 'it returns false'. Refute it at one input. -/
def fnExactAuditBeginsWrong : ChangeSpec := { name := "fnExactAuditBegins", fn := fun _ => fun
  | [d1, d2] => { results := [.lit (.bool false)], args := [d1, d2] }
  | _ => none }
def FnExactAuditBeginsWrongFalsely : Prop := fnExactAuditBeginsRow.holds Try.pinned (OpenSpec.ofChange fnExactAuditBeginsWrong)

/-- 'laws.FnExactAuditSince': WHATEVER THE INPUT: true; the input reads as it did. -/
def fnExactAuditSinceSpec : ChangeSpec := { name := "fnExactAuditSince", fn := fun _ => fun
  | [d1, d2] => { results := [.lit (.bool true)], args := [d1, d2] }
  | _ => none }
def fnExactAuditSinceRow : OpenClaim := { program := "ytfdcneijcckolaa", sum := "ad35be49209a85b554cbd31d1e0ee6894d91fe3a5a297d144f0904bcc46dbb99", func := "loop.example/sepkernel/laws.FnExactAuditSince", spec := "fnExactAuditSince", apart := false }
def FnExactAuditSinceSaid : Prop := fnExactAuditSinceRow.holds Try.pinned (OpenSpec.ofChange fnExactAuditSinceSpec)

/-- ITS FALSE NEIGHBOUR: 'it returns false'. Refute it at one input. -/
def fnExactAuditSinceWrong : ChangeSpec := { name := "fnExactAuditSince", fn := fun _ => fun
  | [d1, d2] => { results := [.lit (.bool false)], args := [d1, d2] }
  | _ => none }
def FnExactAuditSinceWrongFalsely : Prop := fnExactAuditSinceRow.holds Try.pinned (OpenSpec.ofChange fnExactAuditSinceWrong)

/-- 'laws.FnExactAppendAudit': WHATEVER THE INPUT: true; the input reads as it did. -/
def fnExactAppendAuditSpec : ChangeSpec := { name := "fnExactAppendAudit", fn := fun _ => fun
  | [d1, d2] => { results := [.lit (.bool true)], args := [d1, d2] }
  | _ => none }
def fnExactAppendAuditRow : OpenClaim := { program := "ytfdcneijcckolaa", sum := "ad35be49209a85b554cbd31d1e0ee6894d91fe3a5a297d144f0904bcc46dbb99", func := "loop.example/sepkernel/laws.FnExactAppendAudit", spec := "fnExactAppendAudit", apart := false }
def FnExactAppendAuditSaid : Prop := fnExactAppendAuditRow.holds Try.pinned (OpenSpec.ofChange fnExactAppendAuditSpec)

/-- ITS FALSE NEIGHBOUR: 'it returns false'. Refute it at one input. -/
def fnExactAppendAuditWrong : ChangeSpec := { name := "fnExactAppendAudit", fn := fun _ => fun
  | [d1, d2] => { results := [.lit (.bool false)], args := [d1, d2] }
  | _ => none }
def FnExactAppendAuditWrongFalsely : Prop := fnExactAppendAuditRow.holds Try.pinned (OpenSpec.ofChange fnExactAppendAuditWrong)

/-- 'laws.FnExactCacheValid': WHATEVER THE INPUT: true; the input reads as it did. -/
def fnExactCacheValidSpec : ChangeSpec := { name := "fnExactCacheValid", fn := fun _ => fun
  | [d] => { results := [.lit (.bool true)], args := [d] }
  | _ => none }
def fnExactCacheValidRow : OpenClaim := { program := "ytfdcneijcckolaa", sum := "ad35be49209a85b554cbd31d1e0ee6894d91fe3a5a297d144f0904bcc46dbb99", func := "loop.example/sepkernel/laws.FnExactCacheValid", spec := "fnExactCacheValid", apart := false }
def FnExactCacheValidSaid : Prop := fnExactCacheValidRow.holds Try.pinned (OpenSpec.ofChange fnExactCacheValidSpec)

/-- ITS FALSE NEIGHBOUR: 'it returns false'. Refute it at one input. -/
def fnExactCacheValidWrong : ChangeSpec := { name := "fnExactCacheValid", fn := fun _ => fun
  | [d] => { results := [.lit (.bool false)], args := [d] }
  | _ => none }
def FnExactCacheValidWrongFalsely : Prop := fnExactCacheValidRow.holds Try.pinned (OpenSpec.ofChange fnExactCacheValidWrong)

/-- 'laws.FnExactEmptyCache': WHATEVER THE INPUT: true; the input reads as it did. -/
def fnExactEmptyCacheSpec : ChangeSpec := { name := "fnExactEmptyCache", fn := fun _ => fun
  | [d] => { results := [.lit (.bool true)], args := [d] }
  | _ => none }
def fnExactEmptyCacheRow : OpenClaim := { program := "ytfdcneijcckolaa", sum := "ad35be49209a85b554cbd31d1e0ee6894d91fe3a5a297d144f0904bcc46dbb99", func := "loop.example/sepkernel/laws.FnExactEmptyCache", spec := "fnExactEmptyCache", apart := false }
def FnExactEmptyCacheSaid : Prop := fnExactEmptyCacheRow.holds Try.pinned (OpenSpec.ofChange fnExactEmptyCacheSpec)

/-- ITS FALSE NEIGHBOUR: 'it returns false'. Refute it at one input. -/
def fnExactEmptyCacheWrong : ChangeSpec := { name := "fnExactEmptyCache", fn := fun _ => fun
  | [d] => { results := [.lit (.bool false)], args := [d] }
  | _ => none }
def FnExactEmptyCacheWrongFalsely : Prop := fnExactEmptyCacheRow.holds Try.pinned (OpenSpec.ofChange fnExactEmptyCacheWrong)

/-- 'laws.FnExactTouchCache': WHATEVER THE INPUT: true; the input reads as it did. -/
def fnExactTouchCacheSpec : ChangeSpec := { name := "fnExactTouchCache", fn := fun _ => fun
  | [d1, d2] => { results := [.lit (.bool true)], args := [d1, d2] }
  | _ => none }
def fnExactTouchCacheRow : OpenClaim := { program := "ytfdcneijcckolaa", sum := "ad35be49209a85b554cbd31d1e0ee6894d91fe3a5a297d144f0904bcc46dbb99", func := "loop.example/sepkernel/laws.FnExactTouchCache", spec := "fnExactTouchCache", apart := false }
def FnExactTouchCacheSaid : Prop := fnExactTouchCacheRow.holds Try.pinned (OpenSpec.ofChange fnExactTouchCacheSpec)

/-- ITS FALSE NEIGHBOUR: 'it returns false'. Refute it at one input. -/
def fnExactTouchCacheWrong : ChangeSpec := { name := "fnExactTouchCache", fn := fun _ => fun
  | [d1, d2] => { results := [.lit (.bool false)], args := [d1, d2] }
  | _ => none }
def FnExactTouchCacheWrongFalsely : Prop := fnExactTouchCacheRow.holds Try.pinned (OpenSpec.ofChange fnExactTouchCacheWrong)

/-- 'laws.FnExactTouchTime': WHATEVER THE INPUT: true; the input reads as it did. -/
def fnExactTouchTimeSpec : ChangeSpec := { name := "fnExactTouchTime", fn := fun _ => fun
  | [d1, d2] => { results := [.lit (.bool true)], args := [d1, d2] }
  | _ => none }
def fnExactTouchTimeRow : OpenClaim := { program := "ytfdcneijcckolaa", sum := "ad35be49209a85b554cbd31d1e0ee6894d91fe3a5a297d144f0904bcc46dbb99", func := "loop.example/sepkernel/laws.FnExactTouchTime", spec := "fnExactTouchTime", unfollowed := true, recurses := true, apart := false }
def FnExactTouchTimeSaid : Prop := fnExactTouchTimeRow.holds Try.pinned (OpenSpec.ofChange fnExactTouchTimeSpec)

/-- ITS FALSE NEIGHBOUR: 'it returns false'. Refute it at one input. -/
def fnExactTouchTimeWrong : ChangeSpec := { name := "fnExactTouchTime", fn := fun _ => fun
  | [d1, d2] => { results := [.lit (.bool false)], args := [d1, d2] }
  | _ => none }
def FnExactTouchTimeWrongFalsely : Prop := fnExactTouchTimeRow.holds Try.pinned (OpenSpec.ofChange fnExactTouchTimeWrong)

/-- 'laws.FnExactLeakTime': WHATEVER THE INPUT: true; the input reads as it did. -/
def fnExactLeakTimeSpec : ChangeSpec := { name := "fnExactLeakTime", fn := fun _ => fun
  | [d1, d2, d3] => { results := [.lit (.bool true)], args := [d1, d2, d3] }
  | _ => none }
def fnExactLeakTimeRow : OpenClaim := { program := "ytfdcneijcckolaa", sum := "ad35be49209a85b554cbd31d1e0ee6894d91fe3a5a297d144f0904bcc46dbb99", func := "loop.example/sepkernel/laws.FnExactLeakTime", spec := "fnExactLeakTime", unfollowed := true, recurses := true, apart := false }
def FnExactLeakTimeSaid : Prop := fnExactLeakTimeRow.holds Try.pinned (OpenSpec.ofChange fnExactLeakTimeSpec)

/-- ITS FALSE NEIGHBOUR: 'it returns false'. Refute it at one input. -/
def fnExactLeakTimeWrong : ChangeSpec := { name := "fnExactLeakTime", fn := fun _ => fun
  | [d1, d2, d3] => { results := [.lit (.bool false)], args := [d1, d2, d3] }
  | _ => none }
def FnExactLeakTimeWrongFalsely : Prop := fnExactLeakTimeRow.holds Try.pinned (OpenSpec.ofChange fnExactLeakTimeWrong)

/- THE SECOND FORM. 'bulk': how many values and letters a reading holds, each counted each time it is reached (what is shared counts as often as it is met; a slice's spare places count too). A statement '..UptoSaid' is the law's where the arguments, and the package variables that the reading takes, are together of bulk at most 1048576: NARROWER than '..Said'. Prove '..Said' where nothing that the law and all that it calls make is longer than what came in: it says more and counts as full. Else prove '..UptoSaid'. A law counts once. -/
mutual
def uptoBulk {H : Type} : DataW H → Nat
  | .lit (.string bytes) => bytes.length + 1
  | .lit _ => 1
  | .nil => 1
  | .ptr d => uptoBulk d + 1
  | .slice elems spare => uptoBulkAll elems + uptoBulkAll spare + 1
  | .agg parts => uptoBulkAll parts + 1
  | .iface _ d => uptoBulk d + 1
  | .map entries => uptoBulkEntries entries + 1
  | .held _ => 1
def uptoBulkAll {H : Type} : List (DataW H) → Nat
  | [] => 0
  | d :: r => uptoBulk d + uptoBulkAll r
def uptoBulkEntries {H : Type} : List (Lit × DataW H) → Nat
  | [] => 0
  | x :: r => uptoBulkEntry x + uptoBulkEntries r
def uptoBulkEntry {H : Type} : Lit × DataW H → Nat
  | (.string bytes, d) => bytes.length + uptoBulk d + 1
  | (_, d) => uptoBulk d + 1
 end
def uptoSmall : (H : Type) → List (DataW H) → Bool := fun _ ds => decide (uptoBulkAll ds ≤ 1048576)
def OpenSpec.upto (s : _root_.Go.ChangeSpec) : _root_.Go.OpenSpec := { _root_.Go.OpenSpec.ofChange s with cond := some uptoSmall }

/-- 'laws.FnExactMixNumbers', WHERE WHAT IT READS IS OF BULK AT MOST 1048576: true; the input reads as it did. -/
def fnExactMixNumbersUptoRow : OpenClaim := { program := "ytfdcneijcckolaa", sum := "ad35be49209a85b554cbd31d1e0ee6894d91fe3a5a297d144f0904bcc46dbb99", func := "loop.example/sepkernel/laws.FnExactMixNumbers", spec := "fnExactMixNumbers", apart := false, narrowed := true }
def FnExactMixNumbersUptoSaid : Prop := fnExactMixNumbersUptoRow.holds Try.pinned (OpenSpec.upto fnExactMixNumbersSpec)

/-- 'laws.FnExactChainSums', WHERE WHAT IT READS IS OF BULK AT MOST 1048576: true; the input reads as it did. -/
def fnExactChainSumsUptoRow : OpenClaim := { program := "ytfdcneijcckolaa", sum := "ad35be49209a85b554cbd31d1e0ee6894d91fe3a5a297d144f0904bcc46dbb99", func := "loop.example/sepkernel/laws.FnExactChainSums", spec := "fnExactChainSums", apart := false, narrowed := true }
def FnExactChainSumsUptoSaid : Prop := fnExactChainSumsUptoRow.holds Try.pinned (OpenSpec.upto fnExactChainSumsSpec)

/-- 'laws.FnExactNewAudit', WHERE WHAT IT READS IS OF BULK AT MOST 1048576: true; the input reads as it did. -/
def fnExactNewAuditUptoRow : OpenClaim := { program := "ytfdcneijcckolaa", sum := "ad35be49209a85b554cbd31d1e0ee6894d91fe3a5a297d144f0904bcc46dbb99", func := "loop.example/sepkernel/laws.FnExactNewAudit", spec := "fnExactNewAudit", apart := false, narrowed := true }
def FnExactNewAuditUptoSaid : Prop := fnExactNewAuditUptoRow.holds Try.pinned (OpenSpec.upto fnExactNewAuditSpec)

/-- 'laws.FnExactAuditValid', WHERE WHAT IT READS IS OF BULK AT MOST 1048576: true; the input reads as it did. -/
def fnExactAuditValidUptoRow : OpenClaim := { program := "ytfdcneijcckolaa", sum := "ad35be49209a85b554cbd31d1e0ee6894d91fe3a5a297d144f0904bcc46dbb99", func := "loop.example/sepkernel/laws.FnExactAuditValid", spec := "fnExactAuditValid", apart := false, narrowed := true }
def FnExactAuditValidUptoSaid : Prop := fnExactAuditValidUptoRow.holds Try.pinned (OpenSpec.upto fnExactAuditValidSpec)

/-- 'laws.FnExactAuditBegins', WHERE WHAT IT READS IS OF BULK AT MOST 1048576: true; the input reads as it did. -/
def fnExactAuditBeginsUptoRow : OpenClaim := { program := "ytfdcneijcckolaa", sum := "ad35be49209a85b554cbd31d1e0ee6894d91fe3a5a297d144f0904bcc46dbb99", func := "loop.example/sepkernel/laws.FnExactAuditBegins", spec := "fnExactAuditBegins", apart := false, narrowed := true }
def FnExactAuditBeginsUptoSaid : Prop := fnExactAuditBeginsUptoRow.holds Try.pinned (OpenSpec.upto fnExactAuditBeginsSpec)

/-- 'laws.FnExactAuditSince', WHERE WHAT IT READS IS OF BULK AT MOST 1048576: true; the input reads as it did. -/
def fnExactAuditSinceUptoRow : OpenClaim := { program := "ytfdcneijcckolaa", sum := "ad35be49209a85b554cbd31d1e0ee6894d91fe3a5a297d144f0904bcc46dbb99", func := "loop.example/sepkernel/laws.FnExactAuditSince", spec := "fnExactAuditSince", apart := false, narrowed := true }
def FnExactAuditSinceUptoSaid : Prop := fnExactAuditSinceUptoRow.holds Try.pinned (OpenSpec.upto fnExactAuditSinceSpec)

/-- 'laws.FnExactAppendAudit', WHERE WHAT IT READS IS OF BULK AT MOST 1048576: true; the input reads as it did. -/
def fnExactAppendAuditUptoRow : OpenClaim := { program := "ytfdcneijcckolaa", sum := "ad35be49209a85b554cbd31d1e0ee6894d91fe3a5a297d144f0904bcc46dbb99", func := "loop.example/sepkernel/laws.FnExactAppendAudit", spec := "fnExactAppendAudit", apart := false, narrowed := true }
def FnExactAppendAuditUptoSaid : Prop := fnExactAppendAuditUptoRow.holds Try.pinned (OpenSpec.upto fnExactAppendAuditSpec)

/-- 'laws.FnExactCacheValid', WHERE WHAT IT READS IS OF BULK AT MOST 1048576: true; the input reads as it did. -/
def fnExactCacheValidUptoRow : OpenClaim := { program := "ytfdcneijcckolaa", sum := "ad35be49209a85b554cbd31d1e0ee6894d91fe3a5a297d144f0904bcc46dbb99", func := "loop.example/sepkernel/laws.FnExactCacheValid", spec := "fnExactCacheValid", apart := false, narrowed := true }
def FnExactCacheValidUptoSaid : Prop := fnExactCacheValidUptoRow.holds Try.pinned (OpenSpec.upto fnExactCacheValidSpec)

/-- 'laws.FnExactEmptyCache', WHERE WHAT IT READS IS OF BULK AT MOST 1048576: true; the input reads as it did. -/
def fnExactEmptyCacheUptoRow : OpenClaim := { program := "ytfdcneijcckolaa", sum := "ad35be49209a85b554cbd31d1e0ee6894d91fe3a5a297d144f0904bcc46dbb99", func := "loop.example/sepkernel/laws.FnExactEmptyCache", spec := "fnExactEmptyCache", apart := false, narrowed := true }
def FnExactEmptyCacheUptoSaid : Prop := fnExactEmptyCacheUptoRow.holds Try.pinned (OpenSpec.upto fnExactEmptyCacheSpec)

/-- 'laws.FnExactTouchCache', WHERE WHAT IT READS IS OF BULK AT MOST 1048576: true; the input reads as it did. -/
def fnExactTouchCacheUptoRow : OpenClaim := { program := "ytfdcneijcckolaa", sum := "ad35be49209a85b554cbd31d1e0ee6894d91fe3a5a297d144f0904bcc46dbb99", func := "loop.example/sepkernel/laws.FnExactTouchCache", spec := "fnExactTouchCache", apart := false, narrowed := true }
def FnExactTouchCacheUptoSaid : Prop := fnExactTouchCacheUptoRow.holds Try.pinned (OpenSpec.upto fnExactTouchCacheSpec)

/-- 'laws.FnExactTouchTime', WHERE WHAT IT READS IS OF BULK AT MOST 1048576: true; the input reads as it did. -/
def fnExactTouchTimeUptoRow : OpenClaim := { program := "ytfdcneijcckolaa", sum := "ad35be49209a85b554cbd31d1e0ee6894d91fe3a5a297d144f0904bcc46dbb99", func := "loop.example/sepkernel/laws.FnExactTouchTime", spec := "fnExactTouchTime", unfollowed := true, recurses := true, apart := false, narrowed := true }
def FnExactTouchTimeUptoSaid : Prop := fnExactTouchTimeUptoRow.holds Try.pinned (OpenSpec.upto fnExactTouchTimeSpec)

/-- 'laws.FnExactLeakTime', WHERE WHAT IT READS IS OF BULK AT MOST 1048576: true; the input reads as it did. -/
def fnExactLeakTimeUptoRow : OpenClaim := { program := "ytfdcneijcckolaa", sum := "ad35be49209a85b554cbd31d1e0ee6894d91fe3a5a297d144f0904bcc46dbb99", func := "loop.example/sepkernel/laws.FnExactLeakTime", spec := "fnExactLeakTime", unfollowed := true, recurses := true, apart := false, narrowed := true }
def FnExactLeakTimeUptoSaid : Prop := fnExactLeakTimeUptoRow.holds Try.pinned (OpenSpec.upto fnExactLeakTimeSpec)

end Rows
end Go.Proofs.Ytfdcneijcckolaa
