/-
  DERIVED. GIVEN WITH THE SEED: THE CARDS: each row of YtfdcigbompkeoaaGreatDoorRows.lean that lists a variable, with what it lists TIED to the program's text (the seventh form; the later family's looks); each row that meets fmt, with fmt's text TOLD by the authors' own Lean function (tested against real Go, not proved from fmt's source: count such statements apart). THE CARD IS WHAT COUNTS. Prove the row's statement (the work); the ties are given (YtfdcigbompkeoaaGreatDoorTie.lean); close each card by the builder's one call (the guide's Derived/Test/ToyasCard.lean, 'card_holds'). Laid BY PROGRAM, IN A SANDBOX (cutbox-door.mjs). By AI agents, Wed Nov 11 2026. No macro, syntax, notation, axiom, sorry.
-/
import Derived.Test.YtfdcigbompkeoaaGreatDoorRows
import GoSem.ClaimSeven
namespace Go.Proofs.YtfdcigbompkeoaaGreatDoor
namespace Rows

/-- THE TIED CARD OF 'pidginlaw19.RewriteStmts'. -/
def rewriteStmtsCard : Claim7 := { stood := { row := rewriteStmtsRow, standIns := [], harness := (true, "85a2bc71e67572788087e6865b59b0e2337008cf3ae42b7a050a09c9877afd5c"), looks := false }, kinds := [], alts := [], laidByText := true, laidKinds := [.data, .listed, .data, .pinned], laidTests := true, laidLooks := .later }
def RewriteStmtsCardSaid : Prop := Claim7.holds Tryz.pinned (.plain (OpenSpec.ofChange rewriteStmtsSpec)) rewriteStmtsCard

/-- THE TIED CARD OF 'pidginlaw19.RewriteLabels'. -/
def rewriteLabelsCard : Claim7 := { stood := { row := rewriteLabelsRow, standIns := [], harness := (true, "85a2bc71e67572788087e6865b59b0e2337008cf3ae42b7a050a09c9877afd5c"), looks := false }, kinds := [], alts := [], laidByText := true, laidKinds := [.data, .listed, .data, .pinned], laidTests := true, laidLooks := .later }
def RewriteLabelsCardSaid : Prop := Claim7.holds Tryz.pinned (.plain (OpenSpec.ofChange rewriteLabelsSpec)) rewriteLabelsCard

/-- THE SECOND FORM's CARD OF 'pidginlaw19.RewriteStmts'. -/
def rewriteStmtsUptoCard : Claim7 := { stood := { row := rewriteStmtsUptoRow, standIns := [], harness := (true, "85a2bc71e67572788087e6865b59b0e2337008cf3ae42b7a050a09c9877afd5c"), looks := false }, kinds := [], alts := [], laidByText := true, laidKinds := [.data, .listed, .data, .pinned], laidTests := true, laidLooks := .later }
def RewriteStmtsUptoCardSaid : Prop := Claim7.holds Tryz.pinned (.plain (OpenSpec.upto rewriteStmtsSpec)) rewriteStmtsUptoCard

/-- THE SECOND FORM's CARD OF 'pidginlaw19.RewriteLabels'. -/
def rewriteLabelsUptoCard : Claim7 := { stood := { row := rewriteLabelsUptoRow, standIns := [], harness := (true, "85a2bc71e67572788087e6865b59b0e2337008cf3ae42b7a050a09c9877afd5c"), looks := false }, kinds := [], alts := [], laidByText := true, laidKinds := [.data, .listed, .data, .pinned], laidTests := true, laidLooks := .later }
def RewriteLabelsUptoCardSaid : Prop := Claim7.holds Tryz.pinned (.plain (OpenSpec.upto rewriteLabelsSpec)) rewriteLabelsUptoCard
end Rows
end Go.Proofs.YtfdcigbompkeoaaGreatDoor
