/- Ln35. -/
import Derived.Test.YtagplldaooipmaaGreatDoorLn34
namespace Go.Proofs.YtagplldaooipmaaGreatDoor
open Go.RowKit
theorem stCells_one (a : St) (v : Value) (h : v.oneCell' = true) : ∀ u ∈ stCells a v, u.oneCell' = true := by
  intro u hu
  simp [stCells] at hu
  rcases hu with rfl | rfl | rfl | rfl <;> first | rfl | exact h
end Go.Proofs.YtagplldaooipmaaGreatDoor
