/- The chapter's example of layer 4. -/
import Derived.Test.YtnpphfhjpflgiaaDoorSame
namespace Go.Proofs.YtnpphfhjpflgiaaDoor
open Go.RowKit

theorem alive4_line : lineL [76, 49, 58, 32, 109, 118, 105, 32, 97, 44, 48, 102, 102, 104, 32, 59, 32, 120] = ([(1, [76, 49], 0), (4, [58], 0), (1, [77, 86, 73], 0), (1, [65], 0), (4, [44], 0), (2, [], 255)], 0) := by decide +kernel

set_option maxHeartbeats 1000000 in
theorem alive4_any (w : World) (hg : GW w) : Calls Tryd.prog 17 #[] w fun e w' => e = .returned (.bool true) ∧ Below w.heap.size w w' := by
  have HL := Lib.hid alive4_line
  go_enter Tryd.func17, Tryd.ntmps17
  go_wp2_with fail
  refine (line_any [76, 49, 58, 32, 109, 118, 105, 32, 97, 44, 48, 102, 102, 104, 32, 59, 32, 120] _ hg (by simp)).mono ?_
  rintro e w1 ⟨v, rfl, hown, hb⟩
  rw [HL.out] at hown ⊢
  obtain ⟨g, cap, rfl⟩ := Joins.ownsRow_form hown (by simp)
  have c1 := hown.cellAt 1 (by simp)
  have c7 := hown.cellAt 7 (by simp)
  have c15 := hown.cellAt 15 (by simp)
  have c17 := hown.cellAt 17 (by simp)
  simp [tokRow, tokCells] at c1 c7 c15 c17
  clear hown
  go_wp2_with fail
  go_ret
  exact ⟨rfl, hb⟩
end Go.Proofs.YtnpphfhjpflgiaaDoor
