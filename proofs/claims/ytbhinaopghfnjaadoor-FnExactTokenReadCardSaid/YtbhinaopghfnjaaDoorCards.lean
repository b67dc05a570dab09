/-
  DERIVED. GIVEN WITH THE SEED: THE CARDS: each row of YtbhinaopghfnjaaDoorRows.lean that lists a variable, with what it lists TIED to the program's text (the seventh form; the later family's looks); each row that meets fmt, with fmt's text TOLD by the authors' own Lean function (tested against real Go, not proved from fmt's source: count such statements apart). THE CARD IS WHAT COUNTS. Prove the row's statement (the work); the ties are given (YtbhinaopghfnjaaDoorTie.lean); close each card by the builder's one call (the guide's Derived/Test/ToyasCard.lean, 'card_holds'). Laid BY PROGRAM, IN A SANDBOX (cutbox-door.mjs). By AI agents, Wed Nov 11 2026. No macro, syntax, notation, axiom, sorry.
-/
import Derived.Test.YtbhinaopghfnjaaDoorRows
import GoSem.ClaimSeven
namespace Go.Proofs.YtbhinaopghfnjaaDoor
namespace Rows

/-- THE TIED CARD OF 'laws.FnExactTokenText'. -/
def fnExactTokenTextCard : Claim7 := { stood := { row := fnExactTokenTextRow, standIns := [], harness := (true, "a870580bcc161f2d832689a6a7bcb88f8e76887a4aa5828f1b20991d12686f8e"), looks := true }, kinds := [], alts := [], laidByText := true, laidKinds := [.data, .data, .data], laidTests := true, laidLooks := .later }
def FnExactTokenTextCardSaid : Prop := Claim7.holds Tryd.pinned (.plain (OpenSpec.ofChange fnExactTokenTextSpec)) fnExactTokenTextCard

/-- THE TIED CARD OF 'laws.FnExactTokenRead'. -/
def fnExactTokenReadCard : Claim7 := { stood := { row := fnExactTokenReadRow, standIns := [], harness := (true, "a870580bcc161f2d832689a6a7bcb88f8e76887a4aa5828f1b20991d12686f8e"), looks := true }, kinds := [], alts := [], laidByText := true, laidKinds := [.data, .data, .data, .sentinel, .sentinel], laidTests := true, laidLooks := .later }
def FnExactTokenReadCardSaid : Prop := Claim7.holds Tryd.pinned (.plain (OpenSpec.ofChange fnExactTokenReadSpec)) fnExactTokenReadCard

/-- THE SECOND FORM's CARD OF 'laws.FnExactTokenText'. -/
def fnExactTokenTextUptoCard : Claim7 := { stood := { row := fnExactTokenTextUptoRow, standIns := [], harness := (true, "a870580bcc161f2d832689a6a7bcb88f8e76887a4aa5828f1b20991d12686f8e"), looks := true }, kinds := [], alts := [], laidByText := true, laidKinds := [.data, .data, .data], laidTests := true, laidLooks := .later }
def FnExactTokenTextUptoCardSaid : Prop := Claim7.holds Tryd.pinned (.plain (OpenSpec.upto fnExactTokenTextSpec)) fnExactTokenTextUptoCard

/-- THE SECOND FORM's CARD OF 'laws.FnExactTokenRead'. -/
def fnExactTokenReadUptoCard : Claim7 := { stood := { row := fnExactTokenReadUptoRow, standIns := [], harness := (true, "a870580bcc161f2d832689a6a7bcb88f8e76887a4aa5828f1b20991d12686f8e"), looks := true }, kinds := [], alts := [], laidByText := true, laidKinds := [.data, .data, .data, .sentinel, .sentinel], laidTests := true, laidLooks := .later }
def FnExactTokenReadUptoCardSaid : Prop := Claim7.holds Tryd.pinned (.plain (OpenSpec.upto fnExactTokenReadSpec)) fnExactTokenReadUptoCard
end Rows
end Go.Proofs.YtbhinaopghfnjaaDoor
