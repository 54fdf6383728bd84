/- number.based, and the reference's digit. -/
import Derived.Test.YtnpphfhjpflgiaaDoorRows
import Derived.Test.YtnpphfhjpflgiaaDoorBase
import Derived.Test.YtnpphfhjpflgiaaDoorPureNum
import Derived.Deep.QuietTactic
import Derived.BigQuiet
namespace Go.Proofs.YtnpphfhjpflgiaaDoor
open Go.RowKit

set_option maxHeartbeats 400000 in
theorem based_any (l : List UInt8) (w : World) (hne : 1 ≤ l.length) (hl : l.length ≤ 1000000) :
    Calls Tryd.prog 38 #[.string ⟨l.toArray⟩] w fun e w' => e = .returned (.tuple #[.string ⟨(baseD l).toArray⟩, .int .i64 (baseN (l.getLastD 0))]) ∧ Below w.heap.size w w' := by
  have h1 : (1 : Int) ≤ (l.length : Int) := by omega
  have h2 : (0 : Int) ≤ (l.length : Int) - 1 := by omega
  have h3 : (l.length : Int) - 1 ≤ (l.length : Int) := by omega
  have h4 : (l.length : Int) - 1 < (l.length : Int) := by omega
  have h5 : ((l.length : Int) - 1).toNat = l.length - 1 := by omega
  have h6 : IntKind.i64.wrap ((l.length : Int) - 1) = (l.length : Int) - 1 := IntWalk.i64_in _ (by omega)
  go_enter Tryd.func38, Tryd.ntmps38
  go_wp2
  go_quiet (fail)
  have HL := Lib.hid (last_get l hne)
  have HD := Lib.hid (List.dropLast_eq_take (l := l))
  go_wp2
  all_goals
    go_ret2
    refine ⟨?_, below_drewN (Below.refl _ _) _⟩
    rw [HL.out]
    unfold baseD
    rw [HL.out, HD.out]
    simp [baseN, baseC, *]
set_option maxHeartbeats 400000 in
theorem digit_any (c : UInt8) (w : World) :
    Calls Tryd.prog 67 #[.int .u8 (c.toNat : Int)] w fun e w' => e = .returned (.int .i64 (digI c)) ∧ w = w' := by
  have h0 := c.toNat_lt
  go_enter Tryd.func67, Tryd.ntmps67
  go_wp2
  all_goals
    go_ret
    refine ⟨ret_int ?_, rfl⟩
    unfold digI digV
    (repeat' split) <;> omega
end Go.Proofs.YtnpphfhjpflgiaaDoor
