/- The reference's Name. -/
import Derived.Test.YtpmeabikhonaoaaDoorKa
namespace Go.Proofs.YtpmeabikhonaoaaDoor
open Go.RowKit

theorem refByte_ways (c : UInt8) :
    letB c = true ∨
    (letB c = false ∧ decide ((c.toNat : Int) < 48) = true ∧ numB c = false) ∨
    (letB c = false ∧ decide ((c.toNat : Int) < 48) = false ∧ decide ((57 : Int) < (c.toNat : Int)) = true ∧ numB c = false) ∨
    (letB c = false ∧ decide ((c.toNat : Int) < 48) = false ∧ decide ((57 : Int) < (c.toNat : Int)) = false ∧ numB c = true) := by
  have : ∀ n : Fin 256, letB (UInt8.ofNat n.val) = true ∨
    (letB (UInt8.ofNat n.val) = false ∧ decide ((n.val : Int) < 48) = true ∧ numB (UInt8.ofNat n.val) = false) ∨
    (letB (UInt8.ofNat n.val) = false ∧ decide ((n.val : Int) < 48) = false ∧ decide ((57 : Int) < (n.val : Int)) = true ∧ numB (UInt8.ofNat n.val) = false) ∨
    (letB (UInt8.ofNat n.val) = false ∧ decide ((n.val : Int) < 48) = false ∧ decide ((57 : Int) < (n.val : Int)) = false ∧ numB (UInt8.ofNat n.val) = true) := by decide +kernel
  have h := this ⟨c.toNat, c.toNat_lt⟩
  simpa only [UInt8.ofNat_toNat] using h

set_option maxHeartbeats 1000000 in
theorem refName_any (l : List UInt8) (w : World) (hl : l.length ≤ 1000000) :
    Calls Tryd.prog 104 #[.string ⟨l.toArray⟩] w fun e w' => e = .returned (.bool (nameB l)) ∧ w = w' := by
  by_cases h0 : l = []
  · subst h0
    go_enter Tryd.func104, Tryd.ntmps104
    go_wp2_with fail
    go_ret
    exact ⟨rfl, rfl⟩
  have h1 : 1 ≤ l.length := by cases l with | nil => simp at h0 | cons c r => simp
  have h1' : (1 : Int) ≤ (l.length : Int) := by omega
  have d1 : decide ((l.length : Int) < 1) = false := by simp; omega
  by_cases h16 : 16 < l.length
  · have h16' : (16 : Int) < (l.length : Int) := by omega
    have hf : Hid (nameB l = false) := Lib.hid (by unfold nameB; rw [show decide (l.length ≤ 16) = false by simp; omega]; simp)
    clear h0
    generalize nameB l = r at *
    go_enter Tryd.func104, Tryd.ntmps104
    go_wp2_with fail
    go_ret
    rw [hf.out]
    exact ⟨rfl, rfl⟩
  have h16' : (l.length : Int) ≤ 16 := by omega
  have d16 : decide ((16 : Int) < (l.length : Int)) = false := by simp; omega
  have hE := fun h => Lib.hid (nameTo_end l h1 (by omega) h)
  have hE' := Lib.hid hE
  have hN := Lib.hid (nameTo_no l)
  clear hE h0
  generalize nameB l = r at *
  go_enter Tryd.func104, Tryd.ntmps104
  go_wp2_with fail
  refine (letter_any _ _).mono ?_
  rintro e w' ⟨rfl, rfl⟩
  rcases Bool.eq_false_or_eq_true (letB l[0]) with hc | hc
  · have HT := Lib.hid (nameTo_step l 0 h1 rfl (.inl hc))
    generalize letB l[0] = b0 at *
    subst hc
    go_wp2_with fail
    go_loop [3] (fun i => ∃ k : Nat, 1 ≤ k ∧ k ≤ l.length ∧ i = .int .i64 k ∧ nameTo l k = true) (fun i => l.length - (intOf i).toNat)
    case atStart => exact ⟨1, Nat.le_refl _, h1, rfl, HT.out⟩
    case round =>
      clear HT
      obtain ⟨k, hk1, hk, rfl, hnt⟩ := hrel
      have HT := Lib.hid hnt
      clear hnt
      by_cases hlt : k < l.length
      · go_wp2_with fail
        refine (letter_any _ _).mono ?_
        rintro e w' ⟨rfl, rfl⟩
        rcases refByte_ways l[k] with b1 | ⟨b1, e2, b2⟩ | ⟨b1, e2, e3, b2⟩ | ⟨b1, e2, e3, b2⟩
        · have HS := Lib.hid (nameTo_step l k hlt HT.out (.inl b1))
          go_wp2_with fail
          go_round
          case rel => exact ⟨k + 1, by omega, by omega, by go_num, HS.out⟩
          case measure => simp [intOf]; omega
        · have HS := Lib.hid (hN.out k hlt b1 (.inr b2))
          go_wp2_with fail
          go_ret
          rw [HS.out]
          exact ⟨rfl, rfl⟩
        · have HS := Lib.hid (hN.out k hlt b1 (.inr b2))
          go_wp2_with fail
          go_ret
          rw [HS.out]
          exact ⟨rfl, rfl⟩
        · have HS := Lib.hid (nameTo_step l k hlt HT.out (.inr ⟨by omega, b2⟩))
          go_wp2_with fail
          go_round
          case rel => exact ⟨k + 1, by omega, by omega, by go_num, HS.out⟩
          case measure => simp [intOf]; omega
      · obtain rfl : k = l.length := by omega
        have HS := Lib.hid (hE'.out HT.out).out
        go_wp2_with fail
        go_ret
        rw [HS.out]
        exact ⟨rfl, rfl⟩
  · have HS := Lib.hid (hN.out 0 (by omega) hc (.inl rfl))
    generalize letB l[0] = b0 at *
    subst hc
    go_wp2_with fail
    go_ret
    rw [HS.out]
    exact ⟨rfl, rfl⟩
end Go.Proofs.YtpmeabikhonaoaaDoor
