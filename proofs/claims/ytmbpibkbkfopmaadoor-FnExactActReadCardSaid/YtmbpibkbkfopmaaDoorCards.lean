/-
  DERIVED. GIVEN WITH THE SEED: THE CARDS: each row of YtmbpibkbkfopmaaDoorRows.lean that lists a variable, with what it lists TIED to the program's text (the seventh form; the later family's looks); each row that meets fmt, with fmt's text TOLD by the authors' own Lean function (tested against real Go, not proved from fmt's source: count such statements apart). THE CARD IS WHAT COUNTS. Prove the row's statement (the work); the ties are given (YtmbpibkbkfopmaaDoorTie.lean); close each card by the builder's one call (the guide's Derived/Test/ToyasCard.lean, 'card_holds'). Laid BY PROGRAM, IN A SANDBOX (cutbox-door.mjs). By AI agents, Wed Nov 11 2026. No macro, syntax, notation, axiom, sorry.
-/
import Derived.Test.YtmbpibkbkfopmaaDoorRows
import GoSem.ClaimSeven
namespace Go.Proofs.YtmbpibkbkfopmaaDoor
namespace Rows

/-- THE TIED CARD OF 'laws.FnExactActRead'. -/
def fnExactActReadCard : Claim7 := { stood := { row := fnExactActReadRow, standIns := [], harness := (true, "a8800c2a8051817c36777f2441dce207840553babe70483a179bb82d2ac08500"), looks := true }, kinds := [], alts := [], laidByText := true, laidKinds := [.data, .data, .data, .data, .sentinel, .sentinel, .pinned], laidTests := true, laidLooks := .later }
def FnExactActReadCardSaid : Prop := Claim7.holds Tryd.pinned (.plain (OpenSpec.ofChange fnExactActReadSpec)) fnExactActReadCard

/-- THE TIED CARD OF 'laws.FnExactActText'. -/
def fnExactActTextCard : Claim7 := { stood := { row := fnExactActTextRow, standIns := [], harness := (true, "a8800c2a8051817c36777f2441dce207840553babe70483a179bb82d2ac08500"), looks := true }, kinds := [], alts := [], laidByText := true, laidKinds := [.data, .data, .data], laidTests := true, laidLooks := .later }
def FnExactActTextCardSaid : Prop := Claim7.holds Tryd.pinned (.plain (OpenSpec.ofChange fnExactActTextSpec)) fnExactActTextCard

/-- THE SECOND FORM's CARD OF 'laws.FnExactActRead'. -/
def fnExactActReadUptoCard : Claim7 := { stood := { row := fnExactActReadUptoRow, standIns := [], harness := (true, "a8800c2a8051817c36777f2441dce207840553babe70483a179bb82d2ac08500"), looks := true }, kinds := [], alts := [], laidByText := true, laidKinds := [.data, .data, .data, .data, .sentinel, .sentinel, .pinned], laidTests := true, laidLooks := .later }
def FnExactActReadUptoCardSaid : Prop := Claim7.holds Tryd.pinned (.plain (OpenSpec.upto fnExactActReadSpec)) fnExactActReadUptoCard

/-- THE SECOND FORM's CARD OF 'laws.FnExactActText'. -/
def fnExactActTextUptoCard : Claim7 := { stood := { row := fnExactActTextUptoRow, standIns := [], harness := (true, "a8800c2a8051817c36777f2441dce207840553babe70483a179bb82d2ac08500"), looks := true }, kinds := [], alts := [], laidByText := true, laidKinds := [.data, .data, .data], laidTests := true, laidLooks := .later }
def FnExactActTextUptoCardSaid : Prop := Claim7.holds Tryd.pinned (.plain (OpenSpec.upto fnExactActTextSpec)) fnExactActTextUptoCard
end Rows
end Go.Proofs.YtmbpibkbkfopmaaDoor
