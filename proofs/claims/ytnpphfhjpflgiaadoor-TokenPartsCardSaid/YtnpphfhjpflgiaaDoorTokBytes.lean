/- The byte tests of layer 4, and of its reference. -/
import Derived.Test.YtnpphfhjpflgiaaDoorNumBytes
import Derived.Test.YtnpphfhjpflgiaaDoorPureTok
namespace Go.Proofs.YtnpphfhjpflgiaaDoor
open Go.RowKit

set_option maxHeartbeats 400000 in
theorem tletter_any (c : UInt8) (w : World) :
    Calls Tryd.prog 49 #[.int .u8 (c.toNat : Int)] w fun e w' => e = .returned (.bool (alphaB c)) ∧ w = w' := by
  have h0 := c.toNat_lt
  have hl : Hid (alphaB c = (decide (97 ≤ c.toNat) && decide (c.toNat ≤ 122) || decide (65 ≤ c.toNat) && decide (c.toNat ≤ 90))) := Lib.hid rfl
  generalize alphaB c = lc at *
  generalize c.toNat = n at *
  go_enter Tryd.func49, Tryd.ntmps49
  go_wp2
  all_goals
    go_ret
    refine ⟨?_, rfl⟩
    rw [hl.out]
    apply ret_bool
    rw [Bool.eq_iff_iff]
    simp <;> omega
set_option maxHeartbeats 400000 in
theorem tdigit_any (c : UInt8) (w : World) :
    Calls Tryd.prog 47 #[.int .u8 (c.toNat : Int)] w fun e w' => e = .returned (.bool (numB c)) ∧ w = w' := by
  have h0 := c.toNat_lt
  have hl : Hid (numB c = (decide (48 ≤ c.toNat) && decide (c.toNat ≤ 57))) := Lib.hid rfl
  generalize numB c = lc at *
  generalize c.toNat = n at *
  go_enter Tryd.func47, Tryd.ntmps47
  go_wp2
  all_goals
    go_ret
    refine ⟨?_, rfl⟩
    rw [hl.out]
    apply ret_bool
    rw [Bool.eq_iff_iff]
    simp <;> omega
set_option maxHeartbeats 400000 in
theorem tbegin_any (c : UInt8) (w : World) :
    Calls Tryd.prog 44 #[.int .u8 (c.toNat : Int)] w fun e w' => e = .returned (.bool (letB c)) ∧ w = w' := by
  have h0 := c.toNat_lt
  have hl : Hid (letB c = (alphaB c || c.toNat == 63 || c.toNat == 64 || c.toNat == 95)) := Lib.hid rfl
  generalize letB c = lc at *
  go_enter Tryd.func44, Tryd.ntmps44
  go_wp2_with fail
  refine (tletter_any c _).mono ?_
  rintro e w' ⟨rfl, rfl⟩
  generalize alphaB c = b at *
  generalize c.toNat = n at *
  cases b
  all_goals
    go_wp2_with fail
    all_goals
      go_ret
      refine ⟨?_, rfl⟩
      rw [hl.out]
      apply ret_bool
      rw [Bool.eq_iff_iff]
      simp <;> omega
set_option maxHeartbeats 400000 in
theorem isTail_any (c : UInt8) (w : World) :
    Calls Tryd.prog 46 #[.int .u8 (c.toNat : Int)] w fun e w' => e = .returned (.bool (tailB c)) ∧ w = w' := by
  have hl : Hid (tailB c = (letB c || numB c)) := Lib.hid rfl
  generalize tailB c = lc at *
  go_enter Tryd.func46, Tryd.ntmps46
  go_wp2_with fail
  refine (tbegin_any c _).mono ?_
  rintro e w' ⟨rfl, rfl⟩
  cases h : letB c
  · rw [h, Bool.false_or] at hl
    clear h
    go_wp2_with fail
    refine (tdigit_any c _).mono ?_
    rintro e w' ⟨rfl, rfl⟩
    go_wp2_with fail
    go_ret
    rw [hl.out]
    exact ⟨rfl, rfl⟩
  · rw [h, Bool.true_or] at hl
    clear h
    go_wp2_with fail
    go_ret
    rw [hl.out]
    exact ⟨rfl, rfl⟩
set_option maxHeartbeats 400000 in
theorem isAlnum_any (c : UInt8) (w : World) :
    Calls Tryd.prog 48 #[.int .u8 (c.toNat : Int)] w fun e w' => e = .returned (.bool (alnumB c)) ∧ w = w' := by
  have hl : Hid (alnumB c = (alphaB c || numB c)) := Lib.hid rfl
  generalize alnumB c = lc at *
  go_enter Tryd.func48, Tryd.ntmps48
  go_wp2_with fail
  refine (tletter_any c _).mono ?_
  rintro e w' ⟨rfl, rfl⟩
  cases h : alphaB c
  · rw [h, Bool.false_or] at hl
    clear h
    go_wp2_with fail
    refine (tdigit_any c _).mono ?_
    rintro e w' ⟨rfl, rfl⟩
    go_wp2_with fail
    go_ret
    rw [hl.out]
    exact ⟨rfl, rfl⟩
  · rw [h, Bool.true_or] at hl
    clear h
    go_wp2_with fail
    go_ret
    rw [hl.out]
    exact ⟨rfl, rfl⟩
set_option maxHeartbeats 400000 in
theorem rtail_any (c : UInt8) (w : World) :
    Calls Tryd.prog 52 #[.int .u8 (c.toNat : Int)] w fun e w' => e = .returned (.bool (tailB c)) ∧ w = w' := by
  have h0 := c.toNat_lt
  have hl : Hid (tailB c = (letB c || (decide (48 ≤ c.toNat) && decide (c.toNat ≤ 57)))) := Lib.hid rfl
  generalize tailB c = lc at *
  go_enter Tryd.func52, Tryd.ntmps52
  go_wp2_with fail
  refine (letter_any c _).mono ?_
  rintro e w' ⟨rfl, rfl⟩
  generalize letB c = b at *
  generalize c.toNat = n at *
  cases b
  all_goals
    go_wp2_with fail
    all_goals
      go_ret
      refine ⟨?_, rfl⟩
      rw [hl.out]
      apply ret_bool
      rw [Bool.eq_iff_iff]
      simp <;> omega
theorem alnum_tail : ∀ n : Fin 256, alnumB (UInt8.ofNat n.val) = (tailB (UInt8.ofNat n.val) && (n.val != 63) && (n.val != 64) && (n.val != 95)) := by decide +kernel
set_option maxHeartbeats 400000 in
theorem ralnum_any (c : UInt8) (w : World) :
    Calls Tryd.prog 54 #[.int .u8 (c.toNat : Int)] w fun e w' => e = .returned (.bool (alnumB c)) ∧ w = w' := by
  have h0 := c.toNat_lt
  have hl : Hid (alnumB c = (tailB c && (c.toNat != 63) && (c.toNat != 64) && (c.toNat != 95))) := Lib.hid (by have := alnum_tail ⟨c.toNat, c.toNat_lt⟩; simpa using this)
  generalize alnumB c = lc at *
  go_enter Tryd.func54, Tryd.ntmps54
  go_wp2_with fail
  refine (rtail_any c _).mono ?_
  rintro e w' ⟨rfl, rfl⟩
  generalize tailB c = b at *
  generalize c.toNat = n at *
  cases b
  all_goals
    go_wp2_with fail
    all_goals
      go_ret
      refine ⟨?_, rfl⟩
      rw [hl.out]
      apply ret_bool
      rw [Bool.eq_iff_iff]
      simp <;> omega
end Go.Proofs.YtnpphfhjpflgiaaDoor
