/-
  DERIVED. GIVEN WITH THE SEED: THE CARDS: each row of YtcbkglpanchhiaaGreatDoorRows.lean that lists a variable, with what it lists TIED to the program's text (the seventh form; the later family's looks); each row that meets fmt, with fmt's text TOLD by the authors' own Lean function (tested against real Go, not proved from fmt's source: count such statements apart). THE CARD IS WHAT COUNTS. Prove the row's statement (the work); the ties are given (YtcbkglpanchhiaaGreatDoorTie.lean); close each card by the builder's one call (the guide's Derived/Test/ToyasCard.lean, 'card_holds'). Laid BY PROGRAM, IN A SANDBOX (cutbox-door.mjs). By AI agents, Wed Nov 11 2026. No macro, syntax, notation, axiom, sorry.
-/
import Derived.Test.YtcbkglpanchhiaaGreatDoorRows
import GoSem.ClaimSeven
namespace Go.Proofs.YtcbkglpanchhiaaGreatDoor
namespace Rows

/-- THE TIED CARD OF 'pidginlaw19.RewriteStmts'. -/
def rewriteStmtsCard : Claim7 := { stood := { row := rewriteStmtsRow, standIns := [], harness := (true, "0ddbef89f0d7acf05e834247e1c86b164826f10f1b1bebd849add630eee06e15"), looks := false }, kinds := [], alts := [], laidByText := true, laidKinds := [.data, .listed, .data, .pinned], laidTests := true, laidLooks := .later }
def RewriteStmtsCardSaid : Prop := Claim7.holds Tryz.pinned (.plain (OpenSpec.ofChange rewriteStmtsSpec)) rewriteStmtsCard

/-- THE TIED CARD OF 'pidginlaw19.RewriteRight'. -/
def rewriteRightCard : Claim7 := { stood := { row := rewriteRightRow, standIns := [], harness := (true, "0ddbef89f0d7acf05e834247e1c86b164826f10f1b1bebd849add630eee06e15"), looks := false }, kinds := [], alts := [], laidByText := true, laidKinds := [.data, .listed, .data, .pinned], laidTests := true, laidLooks := .later }
def RewriteRightCardSaid : Prop := Claim7.holds Tryz.pinned (.plain (OpenSpec.ofChange rewriteRightSpec)) rewriteRightCard

/-- THE TIED CARD OF 'pidginlaw19.RewriteNames'. -/
def rewriteNamesCard : Claim7 := { stood := { row := rewriteNamesRow, standIns := [], harness := (true, "0ddbef89f0d7acf05e834247e1c86b164826f10f1b1bebd849add630eee06e15"), looks := false }, kinds := [], alts := [], laidByText := true, laidKinds := [.data, .listed, .data, .pinned], laidTests := true, laidLooks := .later }
def RewriteNamesCardSaid : Prop := Claim7.holds Tryz.pinned (.plain (OpenSpec.ofChange rewriteNamesSpec)) rewriteNamesCard

/-- THE SECOND FORM's CARD OF 'pidginlaw19.RewriteStmts'. -/
def rewriteStmtsUptoCard : Claim7 := { stood := { row := rewriteStmtsUptoRow, standIns := [], harness := (true, "0ddbef89f0d7acf05e834247e1c86b164826f10f1b1bebd849add630eee06e15"), looks := false }, kinds := [], alts := [], laidByText := true, laidKinds := [.data, .listed, .data, .pinned], laidTests := true, laidLooks := .later }
def RewriteStmtsUptoCardSaid : Prop := Claim7.holds Tryz.pinned (.plain (OpenSpec.upto rewriteStmtsSpec)) rewriteStmtsUptoCard

/-- THE SECOND FORM's CARD OF 'pidginlaw19.RewriteRight'. -/
def rewriteRightUptoCard : Claim7 := { stood := { row := rewriteRightUptoRow, standIns := [], harness := (true, "0ddbef89f0d7acf05e834247e1c86b164826f10f1b1bebd849add630eee06e15"), looks := false }, kinds := [], alts := [], laidByText := true, laidKinds := [.data, .listed, .data, .pinned], laidTests := true, laidLooks := .later }
def RewriteRightUptoCardSaid : Prop := Claim7.holds Tryz.pinned (.plain (OpenSpec.upto rewriteRightSpec)) rewriteRightUptoCard

/-- THE SECOND FORM's CARD OF 'pidginlaw19.RewriteNames'. -/
def rewriteNamesUptoCard : Claim7 := { stood := { row := rewriteNamesUptoRow, standIns := [], harness := (true, "0ddbef89f0d7acf05e834247e1c86b164826f10f1b1bebd849add630eee06e15"), looks := false }, kinds := [], alts := [], laidByText := true, laidKinds := [.data, .listed, .data, .pinned], laidTests := true, laidLooks := .later }
def RewriteNamesUptoCardSaid : Prop := Claim7.holds Tryz.pinned (.plain (OpenSpec.upto rewriteNamesSpec)) rewriteNamesUptoCard
end Rows
end Go.Proofs.YtcbkglpanchhiaaGreatDoor
