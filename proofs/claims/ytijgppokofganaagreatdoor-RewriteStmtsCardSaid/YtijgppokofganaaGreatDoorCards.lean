/-
  DERIVED. GIVEN WITH THE SEED: THE CARDS: each row of YtijgppokofganaaGreatDoorRows.lean that lists a variable, with what it lists TIED to the program's text (the seventh form; the later family's looks); each row that meets fmt, with fmt's text TOLD by the authors' own Lean function (tested against real Go, not proved from fmt's source: count such statements apart). THE CARD IS WHAT COUNTS. Prove the row's statement (the work); the ties are given (YtijgppokofganaaGreatDoorTie.lean); close each card by the builder's one call (the guide's Derived/Test/ToyasCard.lean, 'card_holds'). Laid BY PROGRAM, IN A SANDBOX (cutbox-door.mjs). By AI agents, Wed Nov 11 2026. No macro, syntax, notation, axiom, sorry.
-/
import Derived.Test.YtijgppokofganaaGreatDoorRows
import GoSem.ClaimSeven
namespace Go.Proofs.YtijgppokofganaaGreatDoor
namespace Rows

/-- THE TIED CARD OF 'pidginlaw19.RewriteStmts'. -/
def rewriteStmtsCard : Claim7 := { stood := { row := rewriteStmtsRow, standIns := [], harness := (true, "cb5899e891646d739a3c0e08277b8f4f0030413772b711b9eaf34b1465d80b55"), looks := false }, kinds := [], alts := [], laidByText := true, laidKinds := [.data, .listed, .data, .pinned], laidTests := true, laidLooks := .later }
def RewriteStmtsCardSaid : Prop := Claim7.holds Tryz.pinned (.plain (OpenSpec.ofChange rewriteStmtsSpec)) rewriteStmtsCard

/-- THE SECOND FORM's CARD OF 'pidginlaw19.RewriteStmts'. -/
def rewriteStmtsUptoCard : Claim7 := { stood := { row := rewriteStmtsUptoRow, standIns := [], harness := (true, "cb5899e891646d739a3c0e08277b8f4f0030413772b711b9eaf34b1465d80b55"), looks := false }, kinds := [], alts := [], laidByText := true, laidKinds := [.data, .listed, .data, .pinned], laidTests := true, laidLooks := .later }
def RewriteStmtsUptoCardSaid : Prop := Claim7.holds Tryz.pinned (.plain (OpenSpec.upto rewriteStmtsSpec)) rewriteStmtsUptoCard
end Rows
end Go.Proofs.YtijgppokofganaaGreatDoor
