/- Ln20. -/
import Derived.Test.YtagplldaooipmaaGreatDoorKq
namespace Go.Proofs.YtagplldaooipmaaGreatDoor
open Go.RowKit
theorem tokRow_app (a b : List Tok) : tokRow (a ++ b) = tokRow a ++ tokRow b := by simp [tokRow]
end Go.Proofs.YtagplldaooipmaaGreatDoor
