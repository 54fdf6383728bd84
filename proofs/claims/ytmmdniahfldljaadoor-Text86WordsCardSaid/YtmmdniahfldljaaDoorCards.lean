/-
  DERIVED. GIVEN WITH THE SEED: THE CARDS: each row of YtmmdniahfldljaaDoorRows.lean that lists a variable, with what it lists TIED to the program's text (the seventh form; the later family's looks); each row that meets fmt, with fmt's text TOLD by the authors' own Lean function (tested against real Go, not proved from fmt's source: count such statements apart). THE CARD IS WHAT COUNTS. Prove the row's statement (the work); the ties are given (YtmmdniahfldljaaDoorTie.lean); close each card by the builder's one call (the guide's Derived/Test/ToyasCard.lean, 'card_holds'). Laid BY PROGRAM, IN A SANDBOX (cutbox-door.mjs). By AI agents, Wed Nov 11 2026. No macro, syntax, notation, axiom, sorry.
-/
import Derived.Test.YtmmdniahfldljaaDoorRows
import GoSem.ClaimSeven
namespace Go.Proofs.YtmmdniahfldljaaDoor
namespace Rows

/-- THE TIED CARD OF 'pidginlaw09.Text86Words'. -/
def text86WordsCard : Claim7 := { stood := { row := text86WordsRow, standIns := [], harness := (true, "88ce7d422d31c76ed9ffb5778035ee024e63eeef6f52d4635479de6528135dc0"), looks := false }, kinds := [], alts := [], laidByText := true, laidKinds := [.data, .data, .data, .data, .listed, .data, .pinned], laidTests := true, laidLooks := .later }
def Text86WordsCardSaid : Prop := Claim7.holds Tryd.pinned (.plain (OpenSpec.ofChange text86WordsSpec)) text86WordsCard

/-- THE SECOND FORM's CARD OF 'pidginlaw09.Text86Words'. -/
def text86WordsUptoCard : Claim7 := { stood := { row := text86WordsUptoRow, standIns := [], harness := (true, "88ce7d422d31c76ed9ffb5778035ee024e63eeef6f52d4635479de6528135dc0"), looks := false }, kinds := [], alts := [], laidByText := true, laidKinds := [.data, .data, .data, .data, .listed, .data, .pinned], laidTests := true, laidLooks := .later }
def Text86WordsUptoCardSaid : Prop := Claim7.holds Tryd.pinned (.plain (OpenSpec.upto text86WordsSpec)) text86WordsUptoCard
end Rows
end Go.Proofs.YtmmdniahfldljaaDoor
