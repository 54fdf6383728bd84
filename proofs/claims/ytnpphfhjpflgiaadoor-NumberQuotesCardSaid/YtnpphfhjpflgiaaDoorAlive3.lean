/- The chapter's example. -/
import Derived.Test.YtnpphfhjpflgiaaDoorShow
import Derived.Test.YtnpphfhjpflgiaaDoorParse
namespace Go.Proofs.YtnpphfhjpflgiaaDoor
open Go.RowKit

set_option maxHeartbeats 400000 in
theorem alive_any (w : World) : Calls Tryd.prog 10 #[] w fun e w' => e = .returned (.bool true) ∧ Below w.heap.size w w' := by
  have p1 := Lib.hid (show parse [48, 102, 102, 104] = (255, 0) by decide)
  have p2 := Lib.hid (show parse [51, 55, 55, 81] = (255, 0) by decide)
  have p3 := Lib.hid (show parse [49, 49, 49, 49, 49, 49, 49, 49, 98] = (255, 0) by decide)
  have p4 := Lib.hid (show showN 255 = [48, 70, 70, 72] by decide)
  go_enter Tryd.func10, Tryd.ntmps10
  go_wp2_with fail
  refine (parse_any [48, 102, 102, 104] _ (by simp)).mono ?_
  rintro e w1 ⟨rfl, hb1⟩
  rw [p1.out]
  go_wp2_with fail
  refine (parse_any [51, 55, 55, 81] _ (by simp)).mono ?_
  rintro e w2 ⟨rfl, hb2⟩
  rw [p2.out]
  go_wp2_with fail
  refine (parse_any [49, 49, 49, 49, 49, 49, 49, 49, 98] _ (by simp)).mono ?_
  rintro e w3 ⟨rfl, hb3⟩
  rw [p3.out]
  go_wp2_with fail
  refine (show_any 255 _ (by omega)).mono ?_
  rintro e w4 ⟨rfl, hb4⟩
  rw [p4.out]
  go_wp2_with fail
  go_ret
  exact ⟨rfl, ((hb1.trans (hb2.mono hb1.size)).trans (hb3.mono (Nat.le_trans hb1.size hb2.size))).trans (hb4.mono (Nat.le_trans hb1.size (Nat.le_trans hb2.size hb3.size)))⟩
end Go.Proofs.YtnpphfhjpflgiaaDoor
