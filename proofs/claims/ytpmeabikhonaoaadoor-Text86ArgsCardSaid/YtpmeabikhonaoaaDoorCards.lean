/-
  DERIVED. GIVEN WITH THE SEED: THE CARDS: each row of YtpmeabikhonaoaaDoorRows.lean that lists a variable, with what it lists TIED to the program's text (the seventh form; the later family's looks); each row that meets fmt, with fmt's text TOLD by the authors' own Lean function (tested against real Go, not proved from fmt's source: count such statements apart). THE CARD IS WHAT COUNTS. Prove the row's statement (the work); the ties are given (YtpmeabikhonaoaaDoorTie.lean); close each card by the builder's one call (the guide's Derived/Test/ToyasCard.lean, 'card_holds'). Laid BY PROGRAM, IN A SANDBOX (cutbox-door.mjs). By AI agents, Wed Nov 11 2026. No macro, syntax, notation, axiom, sorry.
-/
import Derived.Test.YtpmeabikhonaoaaDoorRows
import GoSem.ClaimSeven
namespace Go.Proofs.YtpmeabikhonaoaaDoor
namespace Rows

/-- THE TIED CARD OF 'pidginlaw05.ExprEvals'. -/
def exprEvalsCard : Claim7 := { stood := { row := exprEvalsRow, standIns := [], harness := (true, "0f365ec38e237ab9bdf9fae98725f7ec3cd81280bab9898b91064449258eff75"), looks := false }, kinds := [], alts := [], laidByText := true, laidKinds := [.data, .pinned], laidTests := true, laidLooks := .later }
def ExprEvalsCardSaid : Prop := Claim7.holds Tryd.pinned (.plain (OpenSpec.ofChange exprEvalsSpec)) exprEvalsCard

/-- THE TIED CARD OF 'pidginlaw05.ExprBack'. -/
def exprBackCard : Claim7 := { stood := { row := exprBackRow, standIns := [], harness := (true, "0f365ec38e237ab9bdf9fae98725f7ec3cd81280bab9898b91064449258eff75"), looks := false }, kinds := [], alts := [], laidByText := true, laidKinds := [.data, .pinned], laidTests := true, laidLooks := .later }
def ExprBackCardSaid : Prop := Claim7.holds Tryd.pinned (.plain (OpenSpec.ofChange exprBackSpec)) exprBackCard

/-- THE TIED CARD OF 'pidginlaw05.ExprSums'. -/
def exprSumsCard : Claim7 := { stood := { row := exprSumsRow, standIns := [], harness := (true, "0f365ec38e237ab9bdf9fae98725f7ec3cd81280bab9898b91064449258eff75"), looks := false }, kinds := [], alts := [], laidByText := true, laidKinds := [.data, .pinned], laidTests := true, laidLooks := .later }
def ExprSumsCardSaid : Prop := Claim7.holds Tryd.pinned (.plain (OpenSpec.ofChange exprSumsSpec)) exprSumsCard

/-- THE TIED CARD OF 'pidginlaw05.ExprParts'. -/
def exprPartsCard : Claim7 := { stood := { row := exprPartsRow, standIns := [], harness := (true, "0f365ec38e237ab9bdf9fae98725f7ec3cd81280bab9898b91064449258eff75"), looks := false }, kinds := [], alts := [], laidByText := true, laidKinds := [.data, .pinned], laidTests := true, laidLooks := .later }
def ExprPartsCardSaid : Prop := Claim7.holds Tryd.pinned (.plain (OpenSpec.ofChange exprPartsSpec)) exprPartsCard

/-- THE TIED CARD OF 'pidginlaw05.ExprAlike'. -/
def exprAlikeCard : Claim7 := { stood := { row := exprAlikeRow, standIns := [], harness := (true, "0f365ec38e237ab9bdf9fae98725f7ec3cd81280bab9898b91064449258eff75"), looks := false }, kinds := [], alts := [], laidByText := true, laidKinds := [.data, .pinned], laidTests := true, laidLooks := .later }
def ExprAlikeCardSaid : Prop := Claim7.holds Tryd.pinned (.plain (OpenSpec.ofChange exprAlikeSpec)) exprAlikeCard

/-- THE TIED CARD OF 'pidginlaw09.Text86Words'. -/
def text86WordsCard : Claim7 := { stood := { row := text86WordsRow, standIns := [], harness := (true, "0f365ec38e237ab9bdf9fae98725f7ec3cd81280bab9898b91064449258eff75"), looks := false }, kinds := [], alts := [], laidByText := true, laidKinds := [.data, .data, .data, .data, .listed, .data, .pinned], laidTests := true, laidLooks := .later }
def Text86WordsCardSaid : Prop := Claim7.holds Tryd.pinned (.plain (OpenSpec.ofChange text86WordsSpec)) text86WordsCard

/-- THE TIED CARD OF 'pidginlaw09.Text86Against'. -/
def text86AgainstCard : Claim7 := { stood := { row := text86AgainstRow, standIns := [], harness := (true, "0f365ec38e237ab9bdf9fae98725f7ec3cd81280bab9898b91064449258eff75"), looks := false }, kinds := [], alts := [], laidByText := true, laidKinds := [.data, .data, .data, .data, .listed, .data, .pinned], laidTests := true, laidLooks := .later }
def Text86AgainstCardSaid : Prop := Claim7.holds Tryd.pinned (.plain (OpenSpec.ofChange text86AgainstSpec)) text86AgainstCard

/-- THE TIED CARD OF 'pidginlaw09.Text86Args'. -/
def text86ArgsCard : Claim7 := { stood := { row := text86ArgsRow, standIns := [], harness := (true, "0f365ec38e237ab9bdf9fae98725f7ec3cd81280bab9898b91064449258eff75"), looks := false }, kinds := [], alts := [], laidByText := true, laidKinds := [.data, .data, .data, .data, .listed, .data, .pinned], laidTests := true, laidLooks := .later }
def Text86ArgsCardSaid : Prop := Claim7.holds Tryd.pinned (.plain (OpenSpec.ofChange text86ArgsSpec)) text86ArgsCard

/-- THE TIED CARD OF 'pidginlaw09.Text86Names'. -/
def text86NamesCard : Claim7 := { stood := { row := text86NamesRow, standIns := [], harness := (true, "0f365ec38e237ab9bdf9fae98725f7ec3cd81280bab9898b91064449258eff75"), looks := false }, kinds := [], alts := [], laidByText := true, laidKinds := [.data, .data, .data, .data, .listed, .data, .pinned], laidTests := true, laidLooks := .later }
def Text86NamesCardSaid : Prop := Claim7.holds Tryd.pinned (.plain (OpenSpec.ofChange text86NamesSpec)) text86NamesCard

/-- THE TIED CARD OF 'pidginlaw09.Text86Back'. -/
def text86BackCard : Claim7 := { stood := { row := text86BackRow, standIns := [], harness := (true, "0f365ec38e237ab9bdf9fae98725f7ec3cd81280bab9898b91064449258eff75"), looks := false }, kinds := [], alts := [], laidByText := true, laidKinds := [.data, .data, .data, .data, .listed, .data, .pinned], laidTests := true, laidLooks := .later }
def Text86BackCardSaid : Prop := Claim7.holds Tryd.pinned (.plain (OpenSpec.ofChange text86BackSpec)) text86BackCard

/-- THE SECOND FORM's CARD OF 'pidginlaw05.ExprEvals'. -/
def exprEvalsUptoCard : Claim7 := { stood := { row := exprEvalsUptoRow, standIns := [], harness := (true, "0f365ec38e237ab9bdf9fae98725f7ec3cd81280bab9898b91064449258eff75"), looks := false }, kinds := [], alts := [], laidByText := true, laidKinds := [.data, .pinned], laidTests := true, laidLooks := .later }
def ExprEvalsUptoCardSaid : Prop := Claim7.holds Tryd.pinned (.plain (OpenSpec.upto exprEvalsSpec)) exprEvalsUptoCard

/-- THE SECOND FORM's CARD OF 'pidginlaw05.ExprBack'. -/
def exprBackUptoCard : Claim7 := { stood := { row := exprBackUptoRow, standIns := [], harness := (true, "0f365ec38e237ab9bdf9fae98725f7ec3cd81280bab9898b91064449258eff75"), looks := false }, kinds := [], alts := [], laidByText := true, laidKinds := [.data, .pinned], laidTests := true, laidLooks := .later }
def ExprBackUptoCardSaid : Prop := Claim7.holds Tryd.pinned (.plain (OpenSpec.upto exprBackSpec)) exprBackUptoCard

/-- THE SECOND FORM's CARD OF 'pidginlaw05.ExprSums'. -/
def exprSumsUptoCard : Claim7 := { stood := { row := exprSumsUptoRow, standIns := [], harness := (true, "0f365ec38e237ab9bdf9fae98725f7ec3cd81280bab9898b91064449258eff75"), looks := false }, kinds := [], alts := [], laidByText := true, laidKinds := [.data, .pinned], laidTests := true, laidLooks := .later }
def ExprSumsUptoCardSaid : Prop := Claim7.holds Tryd.pinned (.plain (OpenSpec.upto exprSumsSpec)) exprSumsUptoCard

/-- THE SECOND FORM's CARD OF 'pidginlaw05.ExprParts'. -/
def exprPartsUptoCard : Claim7 := { stood := { row := exprPartsUptoRow, standIns := [], harness := (true, "0f365ec38e237ab9bdf9fae98725f7ec3cd81280bab9898b91064449258eff75"), looks := false }, kinds := [], alts := [], laidByText := true, laidKinds := [.data, .pinned], laidTests := true, laidLooks := .later }
def ExprPartsUptoCardSaid : Prop := Claim7.holds Tryd.pinned (.plain (OpenSpec.upto exprPartsSpec)) exprPartsUptoCard

/-- THE SECOND FORM's CARD OF 'pidginlaw05.ExprAlike'. -/
def exprAlikeUptoCard : Claim7 := { stood := { row := exprAlikeUptoRow, standIns := [], harness := (true, "0f365ec38e237ab9bdf9fae98725f7ec3cd81280bab9898b91064449258eff75"), looks := false }, kinds := [], alts := [], laidByText := true, laidKinds := [.data, .pinned], laidTests := true, laidLooks := .later }
def ExprAlikeUptoCardSaid : Prop := Claim7.holds Tryd.pinned (.plain (OpenSpec.upto exprAlikeSpec)) exprAlikeUptoCard

/-- THE SECOND FORM's CARD OF 'pidginlaw09.Text86Words'. -/
def text86WordsUptoCard : Claim7 := { stood := { row := text86WordsUptoRow, standIns := [], harness := (true, "0f365ec38e237ab9bdf9fae98725f7ec3cd81280bab9898b91064449258eff75"), looks := false }, kinds := [], alts := [], laidByText := true, laidKinds := [.data, .data, .data, .data, .listed, .data, .pinned], laidTests := true, laidLooks := .later }
def Text86WordsUptoCardSaid : Prop := Claim7.holds Tryd.pinned (.plain (OpenSpec.upto text86WordsSpec)) text86WordsUptoCard

/-- THE SECOND FORM's CARD OF 'pidginlaw09.Text86Against'. -/
def text86AgainstUptoCard : Claim7 := { stood := { row := text86AgainstUptoRow, standIns := [], harness := (true, "0f365ec38e237ab9bdf9fae98725f7ec3cd81280bab9898b91064449258eff75"), looks := false }, kinds := [], alts := [], laidByText := true, laidKinds := [.data, .data, .data, .data, .listed, .data, .pinned], laidTests := true, laidLooks := .later }
def Text86AgainstUptoCardSaid : Prop := Claim7.holds Tryd.pinned (.plain (OpenSpec.upto text86AgainstSpec)) text86AgainstUptoCard

/-- THE SECOND FORM's CARD OF 'pidginlaw09.Text86Args'. -/
def text86ArgsUptoCard : Claim7 := { stood := { row := text86ArgsUptoRow, standIns := [], harness := (true, "0f365ec38e237ab9bdf9fae98725f7ec3cd81280bab9898b91064449258eff75"), looks := false }, kinds := [], alts := [], laidByText := true, laidKinds := [.data, .data, .data, .data, .listed, .data, .pinned], laidTests := true, laidLooks := .later }
def Text86ArgsUptoCardSaid : Prop := Claim7.holds Tryd.pinned (.plain (OpenSpec.upto text86ArgsSpec)) text86ArgsUptoCard

/-- THE SECOND FORM's CARD OF 'pidginlaw09.Text86Names'. -/
def text86NamesUptoCard : Claim7 := { stood := { row := text86NamesUptoRow, standIns := [], harness := (true, "0f365ec38e237ab9bdf9fae98725f7ec3cd81280bab9898b91064449258eff75"), looks := false }, kinds := [], alts := [], laidByText := true, laidKinds := [.data, .data, .data, .data, .listed, .data, .pinned], laidTests := true, laidLooks := .later }
def Text86NamesUptoCardSaid : Prop := Claim7.holds Tryd.pinned (.plain (OpenSpec.upto text86NamesSpec)) text86NamesUptoCard

/-- THE SECOND FORM's CARD OF 'pidginlaw09.Text86Back'. -/
def text86BackUptoCard : Claim7 := { stood := { row := text86BackUptoRow, standIns := [], harness := (true, "0f365ec38e237ab9bdf9fae98725f7ec3cd81280bab9898b91064449258eff75"), looks := false }, kinds := [], alts := [], laidByText := true, laidKinds := [.data, .data, .data, .data, .listed, .data, .pinned], laidTests := true, laidLooks := .later }
def Text86BackUptoCardSaid : Prop := Claim7.holds Tryd.pinned (.plain (OpenSpec.upto text86BackSpec)) text86BackUptoCard
end Rows
end Go.Proofs.YtpmeabikhonaoaaDoor
