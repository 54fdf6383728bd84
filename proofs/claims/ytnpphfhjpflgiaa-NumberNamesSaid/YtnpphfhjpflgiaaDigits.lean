/- The law's own digits. -/
import Derived.Test.YtnpphfhjpflgiaaRefShow
namespace Go.Proofs.Ytnpphfhjpflgiaa
open Go.RowKit

theorem lows_get (i : Nat) (h : i < [(48 : UInt8), 49, 50, 51, 52, 53, 54, 55, 56, 57, 97, 98, 99, 100, 101, 102].length) : [(48 : UInt8), 49, 50, 51, 52, 53, 54, 55, 56, 57, 97, 98, 99, 100, 101, 102][i]'h = lowD i := by
  have : ∀ i : Fin 16, [(48 : UInt8), 49, 50, 51, 52, 53, 54, 55, 56, 57, 97, 98, 99, 100, 101, 102][i.val]'(by simp) = lowD i.val := by decide +kernel
  exact this ⟨i, by simpa using h⟩

set_option maxHeartbeats 400000 in
theorem digits_any (n b : Nat) (w : World) (hn : n ≤ 65535) (hb2 : 2 ≤ b) (hb16 : b ≤ 16) :
    Calls Try.prog 13 #[.int .u16 (n : Int), .int .u16 (b : Int)] w fun e w' => e = .returned (.string ⟨(digitsN n b).toArray⟩) ∧ Below w.heap.size w w' := by
  have hcv := conv_one
  have hf : Hid (digitsN n b = (digR b 17 n).reverse) := Lib.hid rfl
  have hfl : Hid ((digR b 17 n).length ≤ 17) := Lib.hid (digR_length _ _ _)
  have hp : n < b ^ 17 := Nat.lt_of_lt_of_le (by omega) (Nat.pow_le_pow_left hb2 17)
  generalize digitsN n b = sn at *
  have b2 : (2 : Int) ≤ (b : Int) := by omega
  have b16 : (b : Int) ≤ 16 := by omega
  have HP := Lib.hid hp
  clear hp
  go_enter Try.func13, Try.ntmps13
  go_wp2_with fail
  go_loopw [0, 5] (fun m s wr => ∃ (m' f : Nat) (xs : List UInt8), m = .int .u16 m' ∧ m' ≤ n ∧ m' < b ^ (f + 1) ∧ xs ++ digR b (f + 1) m' = digR b 17 n ∧ s = .string ⟨xs.reverse.toArray⟩ ∧ Below w.heap.size w wr) (fun m _ _ => (intOf m).toNat)
  case atStart => exact ⟨n, 16, [], rfl, Nat.le_refl _, HP.out, rfl, rfl, Below.refl _ _⟩
  case round =>
    obtain ⟨m', f, xs, rfl, hm1, hm2, hx, rfl, hb⟩ := hrel
    have hsz := hb.size
    have hxl : xs.length ≤ 17 := by have h1 := congrArg List.length hx; have h2 := hfl.out; simp only [List.length_append] at h1; omega
    have HX := Lib.hid hx
    have HM := Lib.hid hm2
    clear hx hm2
    have e1 : (m' : Int) % (b : Int) = ((m' % b : Nat) : Int) := by simp
    have e2 : (m' : Int) / (b : Int) = ((m' / b : Nat) : Int) := by simp
    have l1 : m' % b < b := Nat.mod_lt _ (by omega)
    have l2 : m' / b ≤ m' := Nat.div_le_self _ _
    have c1 : (0 : Int) ≤ (m' : Int) % (b : Int) := by omega
    have c2 : (m' : Int) % (b : Int) < 16 := by omega
    have c3 : (0 : Int) ≤ (m' : Int) / (b : Int) := by rw [e2]; exact Int.natCast_nonneg _
    have c4 : (m' : Int) / (b : Int) ≤ 65535 := by rw [e2]; omega
    have HD : Hid (digR b (f + 1) m' = lowD (m' % b) :: (if m' / b = 0 then [] else digR b f (m' / b))) := Lib.hid rfl
    have HM2 : Hid (m' / b < b ^ f) := Lib.hid (by have := HM.out; rw [Nat.pow_succ] at this; exact Nat.div_lt_of_lt_mul (by rw [Nat.mul_comm]; exact this))
    have E2 := Lib.hid e2
    by_cases hz : m' / b = 0
    · have hz' : ((m' : Int) / (b : Int) == 0) = true := by rw [e2, hz]; rfl
      have hfin : Hid (sn = lowD (m' % b) :: xs.reverse) := by
        have := hf.out
        rw [← HX.out, HD.out, if_pos hz] at this
        rw [this]; exact Lib.hid (by simp)
      have HZ := Lib.hid hz
      clear e1 e2 hz
      go_wp2_with fail
      go_ret
      refine ⟨?_, hb.alloc hsz _⟩
      rw [hfin.out, lows_get (m' % b) (by simp; omega), byteOf_toNat]
      rfl
    · have hz' : ((m' : Int) / (b : Int) == 0) = false := by rw [e2]; simp only [beq_eq_false_iff_ne]; omega
      have hfin : Hid ((xs ++ [lowD (m' % b)]) ++ digR b f (m' / b) = digR b 17 n) := by
        have := HX.out
        rw [HD.out, if_neg hz] at this
        rw [← this]; exact Lib.hid (by simp)
      have hlt : m' / b < m' := Nat.div_lt_self (by rcases Nat.eq_zero_or_pos m' with h | h; (rw [h] at hz; simp at hz); exact h) (by omega)
      have HF : Hid (∃ f', f = f' + 1) := by
        cases f with
        | zero => have := HM2.out; rw [Nat.pow_zero] at this; exact absurd (Nat.lt_one_iff.1 this) hz
        | succ f => exact Lib.hid ⟨f, rfl⟩
      clear e1 e2 hz
      go_wp2_with fail
      go_roundw
      case rel =>
        obtain ⟨f', rfl⟩ := HF.out
        refine ⟨m' / b, f', xs ++ [lowD (m' % b)], by rw [E2.out], by omega, HM2.out, hfin.out, ?_, hb.alloc hsz _⟩
        rw [lows_get (m' % b) (by simp; omega), byteOf_toNat, List.reverse_append]; rfl
      case measure => simp only [intOf]; rw [E2.out]; omega
end Go.Proofs.Ytnpphfhjpflgiaa
