/-
  DERIVED. GIVEN WITH THE SEED: THE CARDS: each row of YtbdnbfacalfciaaGreatDoorRows.lean that lists a variable, with what it lists TIED to the program's text (the seventh form; the later family's looks); each row that meets fmt, with fmt's text TOLD by the authors' own Lean function (tested against real Go, not proved from fmt's source: count such statements apart). THE CARD IS WHAT COUNTS. Prove the row's statement (the work); the ties are given (YtbdnbfacalfciaaGreatDoorTie.lean); close each card by the builder's one call (the guide's Derived/Test/ToyasCard.lean, 'card_holds'). Laid BY PROGRAM, IN A SANDBOX (cutbox-door.mjs). By AI agents, Wed Nov 11 2026. No macro, syntax, notation, axiom, sorry.
-/
import Derived.Test.YtbdnbfacalfciaaGreatDoorRows
import GoSem.ClaimSeven
namespace Go.Proofs.YtbdnbfacalfciaaGreatDoor
namespace Rows

/-- THE TIED CARD OF 'pidginlaw20.XlatePolicy'. -/
def xlatePolicyCard : Claim7 := { stood := { row := xlatePolicyRow, standIns := [], harness := (true, "bbf5175e0b490ea248490c07ece2252239d5fe7e91c4b65f3635c895bc700fa2"), looks := false }, kinds := [], alts := [], laidByText := true, laidKinds := [.data, .listed, .data, .pinned], laidTests := true, laidLooks := .later }
def XlatePolicyCardSaid : Prop := Claim7.holds Tryz.pinned (.plain (OpenSpec.ofChange xlatePolicySpec)) xlatePolicyCard

/-- THE SECOND FORM's CARD OF 'pidginlaw20.XlatePolicy'. -/
def xlatePolicyUptoCard : Claim7 := { stood := { row := xlatePolicyUptoRow, standIns := [], harness := (true, "bbf5175e0b490ea248490c07ece2252239d5fe7e91c4b65f3635c895bc700fa2"), looks := false }, kinds := [], alts := [], laidByText := true, laidKinds := [.data, .listed, .data, .pinned], laidTests := true, laidLooks := .later }
def XlatePolicyUptoCardSaid : Prop := Claim7.holds Tryz.pinned (.plain (OpenSpec.upto xlatePolicySpec)) xlatePolicyUptoCard
end Rows
end Go.Proofs.YtbdnbfacalfciaaGreatDoor
