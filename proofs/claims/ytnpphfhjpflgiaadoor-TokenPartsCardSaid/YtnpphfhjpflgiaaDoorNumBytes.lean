/- The byte tests of layer 3: number.begins, and the reference's Letter. -/
import Derived.Test.YtnpphfhjpflgiaaDoorRows
import Derived.Test.YtnpphfhjpflgiaaDoorBase
import Derived.Test.YtnpphfhjpflgiaaDoorPureNum
namespace Go.Proofs.YtnpphfhjpflgiaaDoor
open Go.RowKit

set_option maxHeartbeats 400000 in
theorem letter_any (c : UInt8) (w : World) :
    Calls Tryd.prog 51 #[.int .u8 (c.toNat : Int)] w fun e w' => e = .returned (.bool (letB c)) ∧ w = w' := by
  have h0 := c.toNat_lt
  have hl : Hid (letB c = (decide (97 ≤ c.toNat) && decide (c.toNat ≤ 122) || decide (65 ≤ c.toNat) && decide (c.toNat ≤ 90) || c.toNat == 63 || c.toNat == 64 || c.toNat == 95)) := Lib.hid rfl
  generalize letB c = lc at *
  generalize c.toNat = n at *
  go_enter Tryd.func51, Tryd.ntmps51
  go_wp2
  all_goals
    go_ret
    refine ⟨?_, rfl⟩
    rw [hl.out]
    apply ret_bool
    rw [Bool.eq_iff_iff]
    simp <;> omega
theorem begin_bits : ∀ n : Fin 256, (decide (97 ≤ bits .or .u8 (n.val : Int) 32) && decide (bits .or .u8 (n.val : Int) 32 ≤ 122)) = (decide (97 ≤ n.val) && decide (n.val ≤ 122) || decide (65 ≤ n.val) && decide (n.val ≤ 90)) := by decide +kernel
set_option maxHeartbeats 400000 in
theorem begins_any (c : UInt8) (w : World) :
    Calls Tryd.prog 35 #[.int .u8 (c.toNat : Int)] w fun e w' => e = .returned (.bool (alphaB c)) ∧ w = w' := by
  have hl : Hid (alphaB c = (decide (97 ≤ bits .or .u8 (c.toNat : Int) 32) && decide (bits .or .u8 (c.toNat : Int) 32 ≤ 122))) := Lib.hid (begin_bits ⟨c.toNat, c.toNat_lt⟩).symm
  generalize alphaB c = lc at *
  go_enter Tryd.func35, Tryd.ntmps35
  go_wp2
  all_goals
    go_ret
    refine ⟨?_, rfl⟩
    rw [hl.out]
    apply ret_bool
    rw [Bool.eq_iff_iff]
    simp <;> omega
end Go.Proofs.YtnpphfhjpflgiaaDoor
