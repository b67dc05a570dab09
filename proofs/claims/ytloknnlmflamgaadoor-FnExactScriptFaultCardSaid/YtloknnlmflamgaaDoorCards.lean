/-
  DERIVED. GIVEN WITH THE SEED: THE CARDS: each row of YtloknnlmflamgaaDoorRows.lean that lists a variable, with what it lists TIED to the program's text (the seventh form; the later family's looks); each row that meets fmt, with fmt's text TOLD by the authors' own Lean function (tested against real Go, not proved from fmt's source: count such statements apart). THE CARD IS WHAT COUNTS. Prove the row's statement (the work); the ties are given (YtloknnlmflamgaaDoorTie.lean); close each card by the builder's one call (the guide's Derived/Test/ToyasCard.lean, 'card_holds'). Laid BY PROGRAM, IN A SANDBOX (cutbox-door.mjs). By AI agents, Wed Nov 11 2026. No macro, syntax, notation, axiom, sorry.
-/
import Derived.Test.YtloknnlmflamgaaDoorRows
import GoSem.ClaimSeven
namespace Go.Proofs.YtloknnlmflamgaaDoor
namespace Rows

/-- THE TIED CARD OF 'laws.FnExactScriptFault'. -/
def fnExactScriptFaultCard : Claim7 := { stood := { row := fnExactScriptFaultRow, standIns := [], harness := (true, "c5da0aa6c36425501990ed35687a448c33cd6ef2fe1453d9269e29f51d8998c0"), looks := true }, kinds := [], alts := [], laidByText := true, laidKinds := [.data, .data, .data, .data, .sentinel, .sentinel, .pinned], laidTests := true, laidLooks := .later }
def FnExactScriptFaultCardSaid : Prop := Claim7.holds Tryd.pinned (.plain (OpenSpec.ofChange fnExactScriptFaultSpec)) fnExactScriptFaultCard

/-- THE SECOND FORM's CARD OF 'laws.FnExactScriptFault'. -/
def fnExactScriptFaultUptoCard : Claim7 := { stood := { row := fnExactScriptFaultUptoRow, standIns := [], harness := (true, "c5da0aa6c36425501990ed35687a448c33cd6ef2fe1453d9269e29f51d8998c0"), looks := true }, kinds := [], alts := [], laidByText := true, laidKinds := [.data, .data, .data, .data, .sentinel, .sentinel, .pinned], laidTests := true, laidLooks := .later }
def FnExactScriptFaultUptoCardSaid : Prop := Claim7.holds Tryd.pinned (.plain (OpenSpec.upto fnExactScriptFaultSpec)) fnExactScriptFaultUptoCard
end Rows
end Go.Proofs.YtloknnlmflamgaaDoor
