/- expr: two. -/
import Derived.Test.YtpmeabikhonaoaaDoorKb
import Derived.Test.YtpmeabikhonaoaaDoorKa
import Derived.WalkKit
import Derived.IntWalk
namespace Go.Proofs.YtpmeabikhonaoaaDoor
open Go.RowKit

theorem ofInt16 (a : Nat) (ha : a ≤ 65535) : (BitVec.ofInt 16 (a : Int)).toNat = a := by
  rw [BitVec.ofInt_natCast, BitVec.toNat_ofNat]; exact Nat.mod_eq_of_lt (by omega)
theorem or16 (a b : Nat) (ha : a ≤ 65535) (hb : b ≤ 65535) : bits .or .u16 (a : Int) (b : Int) = ((a ||| b : Nat) : Int) := by
  show IntKind.u16.wrap ((BitVec.ofInt 16 (a : Int) ||| BitVec.ofInt 16 (b : Int)).toNat : Int) = _
  rw [BitVec.toNat_or, ofInt16 a ha, ofInt16 b hb]
  have : a ||| b < 2 ^ 16 := Nat.or_lt_two_pow (by omega) (by omega)
  exact IntWalk.u16_in _ (by omega)
theorem xor16 (a b : Nat) (ha : a ≤ 65535) (hb : b ≤ 65535) : bits .xor .u16 (a : Int) (b : Int) = ((a ^^^ b : Nat) : Int) := by
  show IntKind.u16.wrap ((BitVec.ofInt 16 (a : Int) ^^^ BitVec.ofInt 16 (b : Int)).toNat : Int) = _
  rw [BitVec.toNat_xor, ofInt16 a ha, ofInt16 b hb]
  have : a ^^^ b < 2 ^ 16 := Nat.xor_lt_two_pow (by omega) (by omega)
  exact IntWalk.u16_in _ (by omega)
theorem and16 (a b : Nat) (ha : a ≤ 65535) (hb : b ≤ 65535) : bits .and .u16 (a : Int) (b : Int) = ((a &&& b : Nat) : Int) := by
  show IntKind.u16.wrap ((BitVec.ofInt 16 (a : Int) &&& BitVec.ofInt 16 (b : Int)).toNat : Int) = _
  rw [BitVec.toNat_and, ofInt16 a ha, ofInt16 b hb]
  have : a &&& b < 2 ^ 16 := Nat.and_lt_two_pow _ (by omega)
  exact IntWalk.u16_in _ (by omega)
theorem two_ok (o : List UInt8) (a b : Nat) (ha : a ≤ 65535) (hb : b ≤ 65535) : (twoE o a b).1 ≤ 65535 ∧ (twoE o a b).2 ≤ 11 := by
  have h1 : a ||| b < 2 ^ 16 := Nat.or_lt_two_pow (by omega) (by omega)
  have h2 : a ^^^ b < 2 ^ 16 := Nat.xor_lt_two_pow (by omega) (by omega)
  have h3 : a &&& b < 2 ^ 16 := Nat.and_lt_two_pow _ (by omega)
  have h4 : a / 2 ^ b ≤ a := Nat.div_le_self _ _
  have h5 : a / b ≤ a := Nat.div_le_self _ _
  have h6 : a % b ≤ a := Nat.mod_le _ _
  unfold twoE
  repeat' split
  all_goals (refine ⟨?_, ?_⟩ <;> (try dsimp only) <;> omega)
theorem wrap16 (z : Int) : IntKind.u16.wrap z = z % 65536 := by
  simp [IntKind.wrap, IntKind.signed, IntKind.bits]
theorem shl16 (a b : Nat) : IntKind.u16.wrap ((a : Int) * 2 ^ min b 16) = (((a * 2 ^ b) % 65536 : Nat) : Int) := by
  rw [wrap16]
  by_cases h : b ≤ 16
  · rw [Nat.min_eq_left h]; simp
  · rw [Nat.min_eq_right (by omega)]
    have e : a * 2 ^ b = 65536 * (a * 2 ^ (b - 16)) := by
      rw [show (65536 : Nat) = 2 ^ 16 from rfl, Nat.mul_left_comm, ← Nat.pow_add, show 16 + (b - 16) = b by omega]
    rw [e, Nat.mul_mod_right]
    simp
theorem shr16 (a b : Nat) (ha : a ≤ 65535) : (a : Int) / 2 ^ min b 16 = ((a / 2 ^ b : Nat) : Int) := by
  by_cases h : b ≤ 16
  · rw [Nat.min_eq_left h]; simp
  · rw [Nat.min_eq_right (by omega)]
    have h1 : a / 2 ^ b = 0 := Nat.div_eq_of_lt (Nat.lt_of_lt_of_le (show a < 2 ^ 16 by omega) (Nat.pow_le_pow_right (by omega) (by omega)))
    rw [h1]
    have : (2 : Int) ^ 16 = 65536 := by decide
    rw [this]; omega
set_option maxHeartbeats 4000000 in
theorem two_any (o : List UInt8) (a b : Nat) (ha : a ≤ 65535) (hb : b ≤ 65535) (w : World) :
    Calls Tryd.prog 45 #[.string ⟨o.toArray⟩, .int .u16 a, .int .u16 b] w fun e w' => e = .returned (.tuple #[.int .u16 (twoE o a b).1, .int .i64 (twoE o a b).2]) ∧ w = w' := by
  by_cases c0 : o = sOR
  · subst c0
    have HT : Hid (twoE sOR a b = (a ||| b, 0)) := Lib.hid rfl
    have hx := or16 a b ha hb
    generalize twoE sOR a b = r at *
    go_enter Tryd.func45, Tryd.ntmps45
    go_wp2_with fail
    go_ret2
    rw [HT.out]
    exact ⟨ret_2int (rfl) rfl, rfl⟩
  by_cases c1 : o = sXOR
  · subst c1
    have HT : Hid (twoE sXOR a b = (a ^^^ b, 0)) := Lib.hid rfl
    have hx := xor16 a b ha hb
    generalize twoE sXOR a b = r at *
    go_enter Tryd.func45, Tryd.ntmps45
    go_wp2_with fail
    go_ret2
    rw [HT.out]
    exact ⟨ret_2int (rfl) rfl, rfl⟩
  by_cases c2 : o = sAND
  · subst c2
    have HT : Hid (twoE sAND a b = (a &&& b, 0)) := Lib.hid rfl
    have hx := and16 a b ha hb
    generalize twoE sAND a b = r at *
    go_enter Tryd.func45, Tryd.ntmps45
    go_wp2_with fail
    go_ret2
    rw [HT.out]
    exact ⟨ret_2int (rfl) rfl, rfl⟩
  by_cases c3 : o = [43]
  · subst c3
    have HT : Hid (twoE [43] a b = ((a + b) % 65536, 0)) := Lib.hid rfl
    generalize twoE [43] a b = r at *
    go_enter Tryd.func45, Tryd.ntmps45
    go_wp2_with fail
    go_ret2
    rw [HT.out]
    exact ⟨ret_2int (by rw [wrap16]; omega) rfl, rfl⟩
  by_cases c4 : o = [45]
  · subst c4
    have HT : Hid (twoE [45] a b = ((a + 65536 - b) % 65536, 0)) := Lib.hid rfl
    generalize twoE [45] a b = r at *
    go_enter Tryd.func45, Tryd.ntmps45
    go_wp2_with fail
    go_ret2
    rw [HT.out]
    exact ⟨ret_2int (by rw [wrap16]; omega) rfl, rfl⟩
  by_cases c5 : o = [42]
  · subst c5
    have HT : Hid (twoE [42] a b = ((a * b) % 65536, 0)) := Lib.hid rfl
    generalize twoE [42] a b = r at *
    go_enter Tryd.func45, Tryd.ntmps45
    go_wp2_with fail
    go_ret2
    rw [HT.out]
    exact ⟨ret_2int (by rw [wrap16, ← Int.natCast_mul]; omega) rfl, rfl⟩
  by_cases c6 : o = sSHL
  · subst c6
    have HT : Hid (twoE sSHL a b = ((a * 2 ^ b) % 65536, 0)) := Lib.hid rfl
    generalize twoE sSHL a b = r at *
    go_enter Tryd.func45, Tryd.ntmps45
    go_wp2_with fail
    go_ret2
    rw [HT.out]
    exact ⟨ret_2int (shl16 a b) rfl, rfl⟩
  by_cases c7 : o = sSHR
  · subst c7
    have HT : Hid (twoE sSHR a b = (a / 2 ^ b, 0)) := Lib.hid rfl
    generalize twoE sSHR a b = r at *
    go_enter Tryd.func45, Tryd.ntmps45
    go_wp2_with fail
    go_ret2
    rw [HT.out]
    exact ⟨ret_2int (shr16 a b ha) rfl, rfl⟩
  have d0 : (o == [79, 82]) = false := by simpa using c0
  have d1 : (o == [88, 79, 82]) = false := by simpa using c1
  have d2 : (o == [65, 78, 68]) = false := by simpa using c2
  have d3 : (o == [43]) = false := by simpa using c3
  have d4 : (o == [45]) = false := by simpa using c4
  have d5 : (o == [42]) = false := by simpa using c5
  have d6 : (o == [83, 72, 76]) = false := by simpa using c6
  have d7 : (o == [83, 72, 82]) = false := by simpa using c7
  have HT0 : Hid (twoE o a b = if b = 0 then (0, 5) else if o = [47] then (a / b, 0) else (a % b, 0)) := Lib.hid (by unfold twoE; rw [if_neg c0, if_neg c1, if_neg c2, if_neg c3, if_neg c4, if_neg c5, if_neg c6, if_neg c7])
  generalize twoE o a b = r at *
  clear c0 c1 c2 c3 c4 c5 c6 c7
  by_cases h0 : b = 0
  · have HT := Lib.hid (HT0.out.trans (if_pos h0))
    subst h0
    go_enter Tryd.func45, Tryd.ntmps45
    go_wp2_with fail
    go_ret2
    rw [HT.out]
    exact ⟨rfl, rfl⟩
  have HT1 := Lib.hid (HT0.out.trans (if_neg h0))
  have hb0 : ((b : Int) == 0) = false := by rw [beq_eq_false_iff_ne]; omega
  have hb1 : (1 : Int) ≤ (b : Int) := by omega
  have hb2 : (b : Int) ≤ 65535 := by omega
  have ha2 : (a : Int) ≤ 65535 := by omega
  clear h0 HT0
  by_cases c9 : o = [47]
  · have HT := Lib.hid (HT1.out.trans (if_pos c9))
    subst c9
    go_enter Tryd.func45, Tryd.ntmps45
    go_wp2_with fail
    go_ret2
    rw [HT.out]
    exact ⟨ret_2int (by rw [wrap16, ← Int.natCast_ediv]; have hq := Nat.div_le_self a b; generalize a / b = q at *; omega) rfl, rfl⟩
  · have HT := Lib.hid (HT1.out.trans (if_neg c9))
    have d9 : (o == [47]) = false := by simpa using c9
    clear c9
    go_enter Tryd.func45, Tryd.ntmps45
    go_wp2_with fail
    go_ret2
    rw [HT.out]
    exact ⟨ret_2int (by first | rfl | (rw [Int.natCast_emod])) rfl, rfl⟩
end Go.Proofs.YtpmeabikhonaoaaDoor
