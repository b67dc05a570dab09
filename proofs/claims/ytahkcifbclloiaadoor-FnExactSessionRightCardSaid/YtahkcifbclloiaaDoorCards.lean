/-
  DERIVED. GIVEN WITH THE SEED: THE CARDS: each row of YtahkcifbclloiaaDoorRows.lean that lists a variable, with what it lists TIED to the program's text (the seventh form; the later family's looks); each row that meets fmt, with fmt's text TOLD by the authors' own Lean function (tested against real Go, not proved from fmt's source: count such statements apart). THE CARD IS WHAT COUNTS. Prove the row's statement (the work); the ties are given (YtahkcifbclloiaaDoorTie.lean); close each card by the builder's one call (the guide's Derived/Test/ToyasCard.lean, 'card_holds'). Laid BY PROGRAM, IN A SANDBOX (cutbox-door.mjs). By AI agents, Wed Nov 11 2026. No macro, syntax, notation, axiom, sorry.
-/
import Derived.Test.YtahkcifbclloiaaDoorRows
import GoSem.ClaimSeven
namespace Go.Proofs.YtahkcifbclloiaaDoor
namespace Rows

/-- THE TIED CARD OF 'laws.FnExactSessionRight'. -/
def fnExactSessionRightCard : Claim7 := { stood := { row := fnExactSessionRightRow, standIns := [], harness := (true, "8f9e0190a671372f7cae2ecae7a46abb56ed94b7b927e0d5a19b5aeaf035bca1"), looks := true }, kinds := [], alts := [], laidByText := true, laidKinds := [.data, .data, .data, .sentinel, .sentinel], laidTests := true, laidLooks := .later }
def FnExactSessionRightCardSaid : Prop := Claim7.holds Tryd.pinned (.plain (OpenSpec.ofChange fnExactSessionRightSpec)) fnExactSessionRightCard

/-- THE SECOND FORM's CARD OF 'laws.FnExactSessionRight'. -/
def fnExactSessionRightUptoCard : Claim7 := { stood := { row := fnExactSessionRightUptoRow, standIns := [], harness := (true, "8f9e0190a671372f7cae2ecae7a46abb56ed94b7b927e0d5a19b5aeaf035bca1"), looks := true }, kinds := [], alts := [], laidByText := true, laidKinds := [.data, .data, .data, .sentinel, .sentinel], laidTests := true, laidLooks := .later }
def FnExactSessionRightUptoCardSaid : Prop := Claim7.holds Tryd.pinned (.plain (OpenSpec.upto fnExactSessionRightSpec)) fnExactSessionRightUptoCard
end Rows
end Go.Proofs.YtahkcifbclloiaaDoor
