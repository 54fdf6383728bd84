/- ref05: rank, Word. -/
import Derived.Test.YtpmeabikhonaoaaDoorExpr1
namespace Go.Proofs.YtpmeabikhonaoaaDoor
open Go.RowKit

set_option maxHeartbeats 4000000 in
theorem rank_any (o : List UInt8) (w : World) : Calls Tryd.prog 103 #[.string ⟨o.toArray⟩] w fun e w' => e = .returned (.tuple #[.int .i64 (bindsE o).1, .int .i64 (bindsE o).2]) ∧ w = w' := by
  by_cases h : o = sNum ∨ o = sN ∨ o = sHere ∨ o = sNEG ∨ o = [42] ∨ o = [47] ∨ o = sMOD ∨ o = sSHL ∨ o = sSHR ∨ o = [43] ∨ o = [45] ∨ o = sNOT ∨ o = sAND ∨ o = sOR ∨ o = sXOR
  · rcases h with rfl | rfl | rfl | rfl | rfl | rfl | rfl | rfl | rfl | rfl | rfl | rfl | rfl | rfl | rfl
    all_goals (
      go_enter Tryd.func103, Tryd.ntmps103
      go_wp2_with fail
      go_ret2
      exact ⟨rfl, rfl⟩)
  · have HB := Lib.hid (binds_no o h)
    simp only [not_or] at h
    obtain ⟨h1, h2, h3, h4, h5, h6, h7, h8, h9, h10, h11, h12, h13, h14, h15⟩ := h
    replace h1 : (o == [35]) = false := by simpa using h1
    replace h2 : (o == [110]) = false := by simpa using h2
    replace h3 : (o == [36]) = false := by simpa using h3
    replace h4 : (o == [78, 69, 71]) = false := by simpa using h4
    replace h5 : (o == [42]) = false := by simpa using h5
    replace h6 : (o == [47]) = false := by simpa using h6
    replace h7 : (o == [77, 79, 68]) = false := by simpa using h7
    replace h8 : (o == [83, 72, 76]) = false := by simpa using h8
    replace h9 : (o == [83, 72, 82]) = false := by simpa using h9
    replace h10 : (o == [43]) = false := by simpa using h10
    replace h11 : (o == [45]) = false := by simpa using h11
    replace h12 : (o == [78, 79, 84]) = false := by simpa using h12
    replace h13 : (o == [65, 78, 68]) = false := by simpa using h13
    replace h14 : (o == [79, 82]) = false := by simpa using h14
    replace h15 : (o == [88, 79, 82]) = false := by simpa using h15
    go_enter Tryd.func103, Tryd.ntmps103
    go_wp2_with fail
    go_ret2
    rw [HB.out]
    exact ⟨rfl, rfl⟩
set_option maxHeartbeats 4000000 in
theorem refWord_any (o : List UInt8) (w : World) : Calls Tryd.prog 106 #[.string ⟨o.toArray⟩] w fun e w' => e = .returned (.bool (wordE o)) ∧ w = w' := by
  by_cases h : o = sOR ∨ o = sXOR ∨ o = sAND ∨ o = sNOT ∨ o = sMOD ∨ o = sSHL ∨ o = sSHR
  · rcases h with rfl | rfl | rfl | rfl | rfl | rfl | rfl
    all_goals (
      go_enter Tryd.func106, Tryd.ntmps106
      go_wp2_with fail
      go_ret
      exact ⟨rfl, rfl⟩)
  · have HB := Lib.hid (show wordE o = false from decide_eq_false h)
    simp only [not_or] at h
    obtain ⟨h1, h2, h3, h4, h5, h6, h7⟩ := h
    replace h1 : (o == [79, 82]) = false := by simpa using h1
    replace h2 : (o == [88, 79, 82]) = false := by simpa using h2
    replace h3 : (o == [65, 78, 68]) = false := by simpa using h3
    replace h4 : (o == [78, 79, 84]) = false := by simpa using h4
    replace h5 : (o == [77, 79, 68]) = false := by simpa using h5
    replace h6 : (o == [83, 72, 76]) = false := by simpa using h6
    replace h7 : (o == [83, 72, 82]) = false := by simpa using h7
    go_enter Tryd.func106, Tryd.ntmps106
    go_wp2_with fail
    go_ret
    rw [HB.out]
    exact ⟨rfl, rfl⟩
end Go.Proofs.YtpmeabikhonaoaaDoor
