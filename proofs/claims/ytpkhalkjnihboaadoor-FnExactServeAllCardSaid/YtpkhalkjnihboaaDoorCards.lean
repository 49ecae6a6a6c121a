/-
  DERIVED. GIVEN WITH THE SEED: THE CARDS: each row of YtpkhalkjnihboaaDoorRows.lean that lists a variable, with what it lists TIED to the program's text (the seventh form; the later family's looks); each row that meets fmt, with fmt's text TOLD by the authors' own Lean function (tested against real Go, not proved from fmt's source: count such statements apart). THE CARD IS WHAT COUNTS. Prove the row's statement (the work); the ties are given (YtpkhalkjnihboaaDoorTie.lean); close each card by the builder's one call (the guide's Derived/Test/ToyasCard.lean, 'card_holds'). Laid BY PROGRAM, IN A SANDBOX (cutbox-door.mjs). By AI agents, Wed Nov 11 2026. No macro, syntax, notation, axiom, sorry.
-/
import Derived.Test.YtpkhalkjnihboaaDoorRows
import GoSem.ClaimSeven
namespace Go.Proofs.YtpkhalkjnihboaaDoor
namespace Rows

/-- THE TIED CARD OF 'laws.FnExactNextLine'. -/
def fnExactNextLineCard : Claim7 := { stood := { row := fnExactNextLineRow, standIns := [], harness := (true, "fb83c96e09defefab7fc5d128822343970d591c7fe5103995407ec45fe79cfce"), looks := false }, kinds := [], alts := [], laidByText := true, laidKinds := [.data, .data], laidTests := true, laidLooks := .later }
def FnExactNextLineCardSaid : Prop := Claim7.holds Tryd.pinned (.plain (OpenSpec.ofChange fnExactNextLineSpec)) fnExactNextLineCard

/-- THE TIED CARD OF 'laws.FnExactServeLine'. -/
def fnExactServeLineCard : Claim7 := { stood := { row := fnExactServeLineRow, standIns := [], harness := (true, "fb83c96e09defefab7fc5d128822343970d591c7fe5103995407ec45fe79cfce"), looks := false }, kinds := [], alts := [], laidByText := true, laidKinds := [.data, .data], laidTests := true, laidLooks := .later }
def FnExactServeLineCardSaid : Prop := Claim7.holds Tryd.pinned (.plain (OpenSpec.ofChange fnExactServeLineSpec)) fnExactServeLineCard

/-- THE TIED CARD OF 'laws.FnExactServeAll'. -/
def fnExactServeAllCard : Claim7 := { stood := { row := fnExactServeAllRow, standIns := [], harness := (true, "fb83c96e09defefab7fc5d128822343970d591c7fe5103995407ec45fe79cfce"), looks := false }, kinds := [], alts := [], laidByText := true, laidKinds := [.data, .data], laidTests := true, laidLooks := .later }
def FnExactServeAllCardSaid : Prop := Claim7.holds Tryd.pinned (.plain (OpenSpec.ofChange fnExactServeAllSpec)) fnExactServeAllCard

/-- THE SECOND FORM's CARD OF 'laws.FnExactNextLine'. -/
def fnExactNextLineUptoCard : Claim7 := { stood := { row := fnExactNextLineUptoRow, standIns := [], harness := (true, "fb83c96e09defefab7fc5d128822343970d591c7fe5103995407ec45fe79cfce"), looks := false }, kinds := [], alts := [], laidByText := true, laidKinds := [.data, .data], laidTests := true, laidLooks := .later }
def FnExactNextLineUptoCardSaid : Prop := Claim7.holds Tryd.pinned (.plain (OpenSpec.upto fnExactNextLineSpec)) fnExactNextLineUptoCard

/-- THE SECOND FORM's CARD OF 'laws.FnExactServeLine'. -/
def fnExactServeLineUptoCard : Claim7 := { stood := { row := fnExactServeLineUptoRow, standIns := [], harness := (true, "fb83c96e09defefab7fc5d128822343970d591c7fe5103995407ec45fe79cfce"), looks := false }, kinds := [], alts := [], laidByText := true, laidKinds := [.data, .data], laidTests := true, laidLooks := .later }
def FnExactServeLineUptoCardSaid : Prop := Claim7.holds Tryd.pinned (.plain (OpenSpec.upto fnExactServeLineSpec)) fnExactServeLineUptoCard

/-- THE SECOND FORM's CARD OF 'laws.FnExactServeAll'. -/
def fnExactServeAllUptoCard : Claim7 := { stood := { row := fnExactServeAllUptoRow, standIns := [], harness := (true, "fb83c96e09defefab7fc5d128822343970d591c7fe5103995407ec45fe79cfce"), looks := false }, kinds := [], alts := [], laidByText := true, laidKinds := [.data, .data], laidTests := true, laidLooks := .later }
def FnExactServeAllUptoCardSaid : Prop := Claim7.holds Tryd.pinned (.plain (OpenSpec.upto fnExactServeAllSpec)) fnExactServeAllUptoCard
end Rows
end Go.Proofs.YtpkhalkjnihboaaDoor
