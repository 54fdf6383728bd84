/- ref05: two. -/
import Derived.Test.YtpmeabikhonaoaaDoorRef5b
namespace Go.Proofs.YtpmeabikhonaoaaDoor
open Go.RowKit

theorem mask16 (z : Int) : bits .and .i64 z 65535 = z % 65536 := by
  show IntKind.i64.wrap ((BitVec.ofInt 64 z &&& BitVec.ofInt 64 65535).toNat : Int) = _
  rw [BitVec.toNat_and, show (BitVec.ofInt 64 65535).toNat = 2 ^ 16 - 1 from rfl, Nat.and_two_pow_sub_one_eq_mod, BitVec.toNat_ofInt]
  rw [IntWalk.i64_in _ (by omega)]
  omega
theorem mask16u (z : Int) : bits .and .u64 z 65535 = z % 65536 := by
  show IntKind.u64.wrap ((BitVec.ofInt 64 z &&& BitVec.ofInt 64 65535).toNat : Int) = _
  rw [BitVec.toNat_and, show (BitVec.ofInt 64 65535).toNat = 2 ^ 16 - 1 from rfl, Nat.and_two_pow_sub_one_eq_mod, BitVec.toNat_ofInt]
  rw [IntWalk.u64_in _ (by omega)]
  omega
set_option maxHeartbeats 4000000 in
theorem refTwo_any (o : List UInt8) (a b : Nat) (ha : a ≤ 65535) (hb : b ≤ 65535) (w : World) :
    Calls Tryd.prog 70 #[.string ⟨o.toArray⟩, .int .u16 a, .int .u16 b] w fun e w' => e = .returned (.tuple #[.int .u16 (twoE o a b).1, .int .i64 (twoE o a b).2]) ∧ w = w' := by
  by_cases c0 : o = sOR
  · subst c0
    have HT : Hid (twoE sOR a b = (a ||| b, 0)) := Lib.hid rfl
    have hx := or16 a b ha hb
    generalize twoE sOR a b = r at *
    go_enter Tryd.func70, Tryd.ntmps70
    go_wp2_with fail
    go_ret2
    rw [HT.out]
    exact ⟨ret_2int (rfl) rfl, rfl⟩
  by_cases c1 : o = sXOR
  · subst c1
    have HT : Hid (twoE sXOR a b = (a ^^^ b, 0)) := Lib.hid rfl
    have hx := xor16 a b ha hb
    generalize twoE sXOR a b = r at *
    go_enter Tryd.func70, Tryd.ntmps70
    go_wp2_with fail
    go_ret2
    rw [HT.out]
    exact ⟨ret_2int (rfl) rfl, rfl⟩
  by_cases c2 : o = sAND
  · subst c2
    have HT : Hid (twoE sAND a b = (a &&& b, 0)) := Lib.hid rfl
    have hx := and16 a b ha hb
    generalize twoE sAND a b = r at *
    go_enter Tryd.func70, Tryd.ntmps70
    go_wp2_with fail
    go_ret2
    rw [HT.out]
    exact ⟨ret_2int (rfl) rfl, rfl⟩
  by_cases c3 : o = [43]
  · subst c3
    have HT : Hid (twoE [43] a b = ((a + b) % 65536, 0)) := Lib.hid rfl
    generalize twoE [43] a b = r at *
    have hk := mask16 ((a : Int) + (b : Int))
    go_enter Tryd.func70, Tryd.ntmps70
    go_wp2_with fail
    go_ret2
    rw [HT.out]
    exact ⟨ret_2int (by (try rw [wrap16]); (try dsimp only); omega) rfl, rfl⟩
  by_cases c4 : o = [45]
  · subst c4
    have HT : Hid (twoE [45] a b = ((a + 65536 - b) % 65536, 0)) := Lib.hid rfl
    generalize twoE [45] a b = r at *
    have hk := mask16 ((a : Int) - (b : Int))
    go_enter Tryd.func70, Tryd.ntmps70
    go_wp2_with fail
    go_ret2
    rw [HT.out]
    exact ⟨ret_2int (by (try rw [wrap16]); (try dsimp only); omega) rfl, rfl⟩
  by_cases c5 : o = [42]
  · subst c5
    have HT : Hid (twoE [42] a b = ((a * b) % 65536, 0)) := Lib.hid rfl
    generalize twoE [42] a b = r at *
    have hab : a * b ≤ 65535 * 65535 := Nat.mul_le_mul ha hb
    have hk := mask16u ((a : Int) * (b : Int))
    have hwr : IntKind.u64.wrap ((a : Int) * (b : Int)) = (a : Int) * (b : Int) := IntWalk.u64_in _ (by rw [← Int.natCast_mul]; omega)
    go_enter Tryd.func70, Tryd.ntmps70
    go_wp2_with fail
    go_ret2
    rw [HT.out]
    exact ⟨ret_2int (by (try rw [wrap16]); rw [← Int.natCast_mul]; dsimp only; omega) rfl, rfl⟩
  by_cases c6 : o = sSHL
  · subst c6
    have HT : Hid (twoE sSHL a b = ((a * 2 ^ b) % 65536, 0)) := Lib.hid rfl
    generalize twoE sSHL a b = r at *
    have HP := Lib.hid (fun W => power_any a b ha hb W)
    generalize (a * 2 ^ b) % 65536 = z at *
    go_enter Tryd.func70, Tryd.ntmps70
    go_wp2_with fail
    refine (HP.out _).mono ?_
    rintro e w1 ⟨rfl, rfl⟩
    go_wp2_with fail
    go_ret2
    rw [HT.out]
    exact ⟨rfl, rfl⟩
  by_cases c7 : o = sSHR
  · subst c7
    have HT : Hid (twoE sSHR a b = (a / 2 ^ b, 0)) := Lib.hid rfl
    generalize twoE sSHR a b = r at *
    have HP := Lib.hid (fun W => half_any a b ha hb W)
    generalize a / 2 ^ b = z at *
    go_enter Tryd.func70, Tryd.ntmps70
    go_wp2_with fail
    refine (HP.out _).mono ?_
    rintro e w1 ⟨rfl, rfl⟩
    go_wp2_with fail
    go_ret2
    rw [HT.out]
    exact ⟨rfl, rfl⟩
  have d0 : (o == [79, 82]) = false := by simpa using c0
  have d1 : (o == [88, 79, 82]) = false := by simpa using c1
  have d2 : (o == [65, 78, 68]) = false := by simpa using c2
  have d3 : (o == [43]) = false := by simpa using c3
  have d4 : (o == [45]) = false := by simpa using c4
  have d5 : (o == [42]) = false := by simpa using c5
  have d6 : (o == [83, 72, 76]) = false := by simpa using c6
  have d7 : (o == [83, 72, 82]) = false := by simpa using c7
  have HT0 : Hid (twoE o a b = if b = 0 then (0, 5) else if o = [47] then (a / b, 0) else (a % b, 0)) := Lib.hid (by unfold twoE; rw [if_neg c0, if_neg c1, if_neg c2, if_neg c3, if_neg c4, if_neg c5, if_neg c6, if_neg c7])
  generalize twoE o a b = r at *
  clear c0 c1 c2 c3 c4 c5 c6 c7
  by_cases h0 : b = 0
  · have HT := Lib.hid (HT0.out.trans (if_pos h0))
    subst h0
    go_enter Tryd.func70, Tryd.ntmps70
    go_wp2_with fail
    go_ret2
    rw [HT.out]
    exact ⟨rfl, rfl⟩
  have HT1 := Lib.hid (HT0.out.trans (if_neg h0))
  have hb0 : ((b : Int) == 0) = false := by rw [beq_eq_false_iff_ne]; omega
  have hb1 : (1 : Int) ≤ (b : Int) := by omega
  have hb2 : (b : Int) ≤ 65535 := by omega
  have ha2 : (a : Int) ≤ 65535 := by omega
  clear h0 HT0
  by_cases c9 : o = [47]
  · have HT := Lib.hid (HT1.out.trans (if_pos c9))
    subst c9
    go_enter Tryd.func70, Tryd.ntmps70
    go_wp2_with fail
    go_ret2
    rw [HT.out]
    exact ⟨ret_2int (by rw [wrap16, ← Int.natCast_ediv]; have hq := Nat.div_le_self a b; generalize a / b = q at *; omega) rfl, rfl⟩
  · have HT := Lib.hid (HT1.out.trans (if_neg c9))
    have d9 : (o == [47]) = false := by simpa using c9
    clear c9
    go_enter Tryd.func70, Tryd.ntmps70
    go_wp2_with fail
    go_ret2
    rw [HT.out]
    exact ⟨ret_2int (by first | rfl | (rw [Int.natCast_emod])) rfl, rfl⟩
end Go.Proofs.YtpmeabikhonaoaaDoor
