/-
  DERIVED. GIVEN WITH THE SEED: THE CARDS: each row of YtagplldaooipmaaGreatDoorRows.lean that lists a variable, with what it lists TIED to the program's text (the seventh form; the later family's looks); each row that meets fmt, with fmt's text TOLD by the authors' own Lean function (tested against real Go, not proved from fmt's source: count such statements apart). THE CARD IS WHAT COUNTS. Prove the row's statement (the work); the ties are given (YtagplldaooipmaaGreatDoorTie.lean); close each card by the builder's one call (the guide's Derived/Test/ToyasCard.lean, 'card_holds'). Laid BY PROGRAM, IN A SANDBOX (cutbox-door.mjs). By AI agents, Wed Nov 11 2026. No macro, syntax, notation, axiom, sorry.
-/
import Derived.Test.YtagplldaooipmaaGreatDoorRows
import GoSem.ClaimSeven
namespace Go.Proofs.YtagplldaooipmaaGreatDoor
namespace Rows

/-- THE TIED CARD OF 'pidginlaw17.DisasmStmts'. -/
def disasmStmtsCard : Claim7 := { stood := { row := disasmStmtsRow, standIns := [], harness := (true, "b884c83f8daa78baa3776cb782a92ed838c26e31dbac70bc9e42ebc5632e6a70"), looks := false }, kinds := [], alts := [], laidByText := true, laidKinds := [.data, .listed, .data, .pinned], laidTests := true, laidLooks := .later }
def DisasmStmtsCardSaid : Prop := Claim7.holds Tryz.pinned (.plain (OpenSpec.ofChange disasmStmtsSpec)) disasmStmtsCard

/-- THE TIED CARD OF 'pidginlaw17.DisasmTexts'. -/
def disasmTextsCard : Claim7 := { stood := { row := disasmTextsRow, standIns := [], harness := (true, "b884c83f8daa78baa3776cb782a92ed838c26e31dbac70bc9e42ebc5632e6a70"), looks := false }, kinds := [], alts := [], laidByText := true, laidKinds := [.data, .listed, .data, .pinned], laidTests := true, laidLooks := .later }
def DisasmTextsCardSaid : Prop := Claim7.holds Tryz.pinned (.plain (OpenSpec.ofChange disasmTextsSpec)) disasmTextsCard

/-- THE TIED CARD OF 'pidginlaw17.DisasmRight'. -/
def disasmRightCard : Claim7 := { stood := { row := disasmRightRow, standIns := [], harness := (true, "b884c83f8daa78baa3776cb782a92ed838c26e31dbac70bc9e42ebc5632e6a70"), looks := false }, kinds := [], alts := [], laidByText := true, laidKinds := [.data, .listed, .data, .pinned], laidTests := true, laidLooks := .later }
def DisasmRightCardSaid : Prop := Claim7.holds Tryz.pinned (.plain (OpenSpec.ofChange disasmRightSpec)) disasmRightCard

/-- THE SECOND FORM's CARD OF 'pidginlaw17.DisasmStmts'. -/
def disasmStmtsUptoCard : Claim7 := { stood := { row := disasmStmtsUptoRow, standIns := [], harness := (true, "b884c83f8daa78baa3776cb782a92ed838c26e31dbac70bc9e42ebc5632e6a70"), looks := false }, kinds := [], alts := [], laidByText := true, laidKinds := [.data, .listed, .data, .pinned], laidTests := true, laidLooks := .later }
def DisasmStmtsUptoCardSaid : Prop := Claim7.holds Tryz.pinned (.plain (OpenSpec.upto disasmStmtsSpec)) disasmStmtsUptoCard

/-- THE SECOND FORM's CARD OF 'pidginlaw17.DisasmTexts'. -/
def disasmTextsUptoCard : Claim7 := { stood := { row := disasmTextsUptoRow, standIns := [], harness := (true, "b884c83f8daa78baa3776cb782a92ed838c26e31dbac70bc9e42ebc5632e6a70"), looks := false }, kinds := [], alts := [], laidByText := true, laidKinds := [.data, .listed, .data, .pinned], laidTests := true, laidLooks := .later }
def DisasmTextsUptoCardSaid : Prop := Claim7.holds Tryz.pinned (.plain (OpenSpec.upto disasmTextsSpec)) disasmTextsUptoCard

/-- THE SECOND FORM's CARD OF 'pidginlaw17.DisasmRight'. -/
def disasmRightUptoCard : Claim7 := { stood := { row := disasmRightUptoRow, standIns := [], harness := (true, "b884c83f8daa78baa3776cb782a92ed838c26e31dbac70bc9e42ebc5632e6a70"), looks := false }, kinds := [], alts := [], laidByText := true, laidKinds := [.data, .listed, .data, .pinned], laidTests := true, laidLooks := .later }
def DisasmRightUptoCardSaid : Prop := Claim7.holds Tryz.pinned (.plain (OpenSpec.upto disasmRightSpec)) disasmRightUptoCard
end Rows
end Go.Proofs.YtagplldaooipmaaGreatDoor
