/- number.Parse. -/
import Derived.Test.YtnpphfhjpflgiaaDoorUpper
import Derived.Test.YtnpphfhjpflgiaaDoorNumBased
import Derived.Test.YtnpphfhjpflgiaaDoorShelf
namespace Go.Proofs.YtnpphfhjpflgiaaDoor
open Go.RowKit

def digs : List UInt8 := [48, 49, 50, 51, 52, 53, 54, 55, 56, 57, 65, 66, 67, 68, 69, 70]
theorem index_digs_all : ∀ n : Fin 256, ∀ b ∈ [16, 8, 2, 10], Lib.indexByte (digs.take b) (UInt8.ofNat n.val) = if digV (UInt8.ofNat n.val) < b then (digV (UInt8.ofNat n.val) : Int) else -1 := by decide +kernel
theorem index_digs (c : UInt8) (b : Nat) (hb : b = 16 ∨ b = 8 ∨ b = 2 ∨ b = 10) : Lib.indexByte (digs.take b) c = if digV c < b then (digV c : Int) else -1 := by
  have := index_digs_all ⟨c.toNat, c.toNat_lt⟩ b (by simpa using hb)
  simpa using this
theorem min_cast (m b d : Nat) : min ((m : Int) * (b : Int) + (d : Int)) 65536 = ((min (m * b + d) 65536 : Nat) : Int) := by
  rw [← Int.natCast_mul]; omega
theorem index_call (c : UInt8) (b : Nat) (w : World) (hb : b = 16 ∨ b = 8 ∨ b = 2 ∨ b = 10) (v : Int) (hv : (if digV c < b then (digV c : Int) else -1) = v) :
    Calls Tryd.prog 39 #[.string ⟨(List.take b [48, 49, 50, 51, 52, 53, 54, 55, 56, 57, 65, 66, 67, 68, 69, 70]).toArray⟩, .int .u8 (c.toNat : Int)] w fun e w' => e = .returned (.int .i64 v) ∧ w' = w := by
  refine (Tryd.strings_IndexByte _ _ w).mono ?_
  rintro e w' ⟨rfl, rfl⟩
  refine ⟨ret_int ?_, rfl⟩
  rw [← hv, ← index_digs c b hb]
  simp [digs]

set_option maxHeartbeats 400000 in
theorem parse_any (l : List UInt8) (w : World) (hl : l.length ≤ 1000000) :
    Calls Tryd.prog 28 #[.string ⟨l.toArray⟩] w fun e w' => e = .returned (.tuple #[.int .u16 (parse l).1, .int .i64 (parse l).2]) ∧ Below w.heap.size w w' := by
  have HP : Hid (parse l = if upper l = [] ∨ ((upper l).headD 0).toNat < 48 ∨ 57 < ((upper l).headD 0).toNat then (0, 2) else parseEnd (parseL (baseN ((upper l).getLastD 0)) (baseD (upper l)))) := rfl
  have hlen : (upper l).length ≤ 1000000 := by rw [upper_length]; exact hl
  generalize parse l = pl at *
  go_enter Tryd.func28, Tryd.ntmps28
  go_wp2_with fail
  refine (upper_any _ _ hl).mono ?_
  rintro e w1 ⟨rfl, hb1⟩
  generalize upper l = t at *
  by_cases ht : t = []
  · have hp := Lib.hid (HP.out.trans (if_pos (.inl ht)))
    clear HP
    subst ht
    go_wp2_with fail
    go_ret2
    rw [hp.out]
    exact ⟨rfl, hb1⟩
  obtain ⟨c, r, rfl⟩ := List.exists_cons_of_ne_nil ht
  have he : ((c :: r).toArray.toList.isEmpty) = false := rfl
  by_cases h1 : (c.toNat : Int) < 48
  · have hp := Lib.hid (HP.out.trans (if_pos (.inr (.inl (by simp; omega)))))
    clear HP
    go_wp2_with fail
    go_ret2
    rw [hp.out]
    exact ⟨rfl, hb1⟩
  by_cases h2 : (57 : Int) < (c.toNat : Int)
  · have hp := Lib.hid (HP.out.trans (if_pos (.inr (.inr (by simp; omega)))))
    clear HP
    go_wp2_with fail
    go_ret2
    rw [hp.out]
    exact ⟨rfl, hb1⟩
  have HQ := Lib.hid (HP.out.trans (if_neg (by simp; omega)))
  clear HP
  have d1 : decide ((c.toNat : Int) < 48) = false := by simp; omega
  have d2 : decide ((57 : Int) < (c.toNat : Int)) = false := by simp; omega
  clear h1 h2
  go_wp2_with fail
  refine (based_any _ _ (by simp) hlen).mono ?_
  rintro e w2 ⟨rfl, hb2⟩
  have hb : Below w.heap.size w w2 := hb1.trans (hb2.mono hb1.size)
  have hdl : (baseD (c :: r)).length ≤ 1000000 := by
    unfold baseD; split
    · simp at hlen ⊢; omega
    · exact hlen
  have HB := Lib.hid (baseN_cases ((c :: r).getLastD 0))
  generalize baseD (c :: r) = s at *
  generalize baseN ((c :: r).getLastD 0) = b at *
  clear hb1 hb2
  have b0 : (0 : Int) ≤ (b : Int) := by omega
  have b1 : (b : Int) ≤ 16 := by have := HB.out; omega
  go_wp2_with fail
  go_loopw [5, 29] (fun n i wr => ∃ k m : Nat, k ≤ s.length ∧ i = .int .i64 k ∧ n = .int .i64 m ∧ parseL b (s.take k) = some m ∧ Below w.heap.size w wr) (fun _ i _ => s.length - (intOf i).toNat)
  case atStart => exact ⟨0, 0, Nat.zero_le _, rfl, rfl, rfl, hb⟩
  case round =>
    clear hb
    obtain ⟨k, m, hk, rfl, rfl, hm0, hb⟩ := hrel
    have hm1 := parseL_le _ _ _ hm0
    have hm := Lib.hid hm0
    clear hm0
    by_cases hlt : k < s.length
    · have hsn := parseL_snoc b (s.take k) s[k]
      rw [← List.take_succ_eq_append_getElem hlt, hm.out] at hsn
      by_cases hd : digV s[k] < b
      · have hst : parseStep b (some m) s[k] = some (min (m * b + digV s[k]) 65536) := by simp [parseStep, hd]
        have HS := Lib.hid (hsn.trans hst)
        clear hsn hst
        have hmul : m * b ≤ 65536 * 16 := Nat.mul_le_mul hm1 (by omega)
        have hm2 : (0 : Int) ≤ (m : Int) * (b : Int) := by rw [← Int.natCast_mul]; omega
        have hm3 : (m : Int) * (b : Int) ≤ 1048576 := by rw [← Int.natCast_mul]; omega
        have hic := fun w => index_call s[k] b w HB.out (digV s[k] : Int) (if_pos hd)
        have HI := Lib.hid hic
        clear hic
        have hd0 : (0 : Int) ≤ (digV s[k] : Int) := by omega
        have hd1 : (digV s[k] : Int) ≤ 16 := by omega
        have hd2 : decide ((digV s[k] : Int) < 0) = false := by simp
        generalize digV s[k] = d at *
        go_wp2_with fail
        go_quiet ((go_at_call 39; exact Calls.quiet_of_same (HI.out _)))
        go_wp2_with fail
        go_roundw
        case rel => exact ⟨k + 1, min (m * b + d) 65536, by omega, by go_num, by rw [min_cast], HS.out, below_drewN hb _⟩
        case measure => simp [intOf]; omega
      · have hst : parseStep b (some m) s[k] = none := by simp [parseStep, hd]
        have HS := Lib.hid (hsn.trans hst)
        clear hsn hst
        have HI := Lib.hid (fun w => index_call s[k] b w HB.out (-1) (if_neg hd))
        go_wp2_with fail
        go_quiet ((go_at_call 39; exact Calls.quiet_of_same (HI.out _)))
        go_wp2_with fail
        go_ret2
        have hfin : pl = (0, 2) := by
          have := parseL_none b _ (s.drop (k + 1)) HS.out
          rw [List.take_append_drop] at this
          rw [HQ.out, this]; rfl
        rw [hfin]
        exact ⟨rfl, below_drewN hb _⟩
    · obtain rfl : k = s.length := by omega
      have hq : Hid (pl = parseEnd (some m)) := by rw [HQ.out, ← hm.out, List.take_length]; exact Lib.hid rfl
      by_cases h6 : 65535 < m
      · have h6' : (65535 : Int) < (m : Int) := by omega
        go_wp2_with fail
        go_ret2
        rw [hq.out]; simp only [parseEnd]; rw [if_pos h6]
        exact ⟨rfl, hb⟩
      · have h6' : (m : Int) ≤ 65535 := by omega
        go_wp2_with fail
        go_ret2
        rw [hq.out]; simp only [parseEnd]; rw [if_neg h6]
        exact ⟨rfl, hb⟩
end Go.Proofs.YtnpphfhjpflgiaaDoor
