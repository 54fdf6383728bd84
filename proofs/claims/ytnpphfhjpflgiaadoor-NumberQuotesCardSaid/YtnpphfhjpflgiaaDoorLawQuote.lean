/- The walks of NumberBack and NumberQuotes. -/
import Derived.Test.YtnpphfhjpflgiaaDoorAlive3
import Derived.Test.YtnpphfhjpflgiaaDoorQuote
import Derived.Test.YtnpphfhjpflgiaaDoorRefUnquote
namespace Go.Proofs.YtnpphfhjpflgiaaDoor
open Go.RowKit

theorem any_snoc (s : List UInt8) (k : Nat) (hk : k < s.length) : (s.take (k + 1)).any oddB = ((s.take k).any oddB || oddB s[k]) := by
  rw [List.take_succ_eq_append_getElem hk, List.any_append]; simp

set_option maxHeartbeats 1000000 in
theorem numberBack_walk (l : List UInt8) (hl : l.length ≤ maxLen) (w : World) (hg : GW w) :
    Calls Tryd.prog 3 #[.string ⟨l.toArray⟩] w fun e w' => e = .returned (.bool true) ∧ Below w.heap.size w w' := by
  unfold maxLen at hl
  by_cases h : 1000 < l.length
  · have h' : (1000 : Int) < (l.length : Int) := by omega
    go_enter Tryd.func3, Tryd.ntmps3
    go_wp2_with fail
    refine (alive_any _).mono ?_
    rintro e w1 ⟨rfl, hb⟩
    go_wp2_with fail
    go_ret
    exact ⟨rfl, hb⟩
  have h' : (l.length : Int) ≤ 1000 := by omega
  have hd' : decide ((1000 : Int) < (l.length : Int)) = false := by simp; omega
  have HQ := Lib.hid (quote_back l)
  have hql : (quoteL l).length ≤ 1000000 := by have := (dbl_length l).2; unfold quoteL; simp; omega
  go_enter Tryd.func3, Tryd.ntmps3
  go_wp2_with fail
  go_loop [3, 4] (fun r i => ∃ k : Nat, k ≤ l.length ∧ i = .int .i64 k ∧ r = .bool (!(l.take k).any oddB)) (fun _ i => l.length - (intOf i).toNat)
  case atStart => exact ⟨0, Nat.zero_le _, rfl, rfl⟩
  case round =>
    obtain ⟨k, hk, rfl, rfl⟩ := hrel
    by_cases hlt : k < l.length
    · have hsn := any_snoc l k hlt
      have hov : oddB l[k] = (decide (l[k].toNat < 32) || decide (126 < l[k].toNat)) := rfl
      cases hpre : (l.take k).any oddB with
      | true =>
        rw [hpre, Bool.true_or] at hsn
        have HS := Lib.hid hsn
        clear hsn hov hpre
        go_wp2_with fail
        go_round
        case rel => exact ⟨k + 1, by omega, by go_num, by rw [HS.out]; rfl⟩
        case measure => simp [intOf]; omega
      | false =>
        rw [hpre, Bool.false_or] at hsn
        by_cases h32 : (l[k].toNat : Int) < 32
        · rw [show decide (l[k].toNat < 32) = true by simp; omega, Bool.true_or] at hov
          have HS := Lib.hid (hsn.trans hov)
          clear hsn hov hpre
          go_wp2_with fail
          go_round
          case rel => exact ⟨k + 1, by omega, by go_num, by rw [HS.out]; rfl⟩
          case measure => simp [intOf]; omega
        · have h32' : (32 : Int) ≤ (l[k].toNat : Int) := by omega
          rw [show decide (l[k].toNat < 32) = false by simp; omega, Bool.false_or] at hov
          have HS := Lib.hid (hsn.trans hov)
          have hcast : decide ((l[k].toNat : Int) ≤ 126) = !decide (126 < l[k].toNat) := by rw [Bool.eq_iff_iff]; simp; omega
          have HC := Lib.hid hcast
          clear hsn hov hpre hcast h32
          go_wp2_with fail
          go_round
          case rel => exact ⟨k + 1, by omega, by go_num, by rw [HS.out, HC.out]⟩
          case measure => simp [intOf]; omega
    · obtain rfl : k = l.length := by omega
      rw [List.take_length]
      go_wp2_with fail
      refine (quote_any l _ hg (by omega)).mono ?_
      rintro e w1 ⟨rfl, hb1⟩
      have hg1 := hg.below hb1
      go_wp2_with fail
      refine (unquote_any (quoteL l) _ hg1 hql).mono ?_
      rintro e w2 ⟨rfl, hb2⟩
      rw [HQ.out]
      cases ho : l.any oddB with
      | true =>
        rw [if_pos rfl]
        clear ho
        go_wp2_with fail
        refine (alive_any _).mono ?_
        rintro e w3 ⟨rfl, hb3⟩
        go_wp2_with fail
        go_ret
        exact ⟨rfl, bthen (bthen hb1 hb2) hb3⟩
      | false =>
        rw [if_neg (by simp)]
        clear ho
        go_wp2_with fail
        refine (alive_any _).mono ?_
        rintro e w3 ⟨rfl, hb3⟩
        go_wp2_with fail
        go_ret
        exact ⟨rfl, bthen (bthen hb1 hb2) hb3⟩

set_option maxHeartbeats 1000000 in
theorem numberQuotes_walk (l : List UInt8) (hl : l.length ≤ maxLen) (w : World) (hg : GW w) :
    Calls Tryd.prog 4 #[.string ⟨l.toArray⟩] w fun e w' => e = .returned (.bool true) ∧ Below w.heap.size w w' := by
  unfold maxLen at hl
  by_cases h : 1000 < l.length
  · have h' : (1000 : Int) < (l.length : Int) := by omega
    go_enter Tryd.func4, Tryd.ntmps4
    go_wp2_with fail
    refine (alive_any _).mono ?_
    rintro e w1 ⟨rfl, hb⟩
    go_wp2_with fail
    go_ret
    exact ⟨rfl, hb⟩
  have h' : (l.length : Int) ≤ 1000 := by omega
  go_enter Tryd.func4, Tryd.ntmps4
  go_wp2_with fail
  refine (unquote_any l _ hg (by omega)).mono ?_
  rintro e w1 ⟨rfl, hb1⟩
  go_wp2_with fail
  refine (refUnquote_any l _ (by omega)).mono ?_
  rintro e w2 ⟨rfl, hb2⟩
  go_wp2_with fail
  refine (value_any l _ (by omega)).mono ?_
  rintro e w3 ⟨rfl, hb3⟩
  go_wp2_with fail
  refine (refValue_any l _ (by omega)).mono ?_
  rintro e w4 ⟨rfl, hb4⟩
  have B := bthen (bthen (bthen hb1 hb2) hb3) hb4
  have hg4 := hg.below B
  clear hb1 hb2 hb3 hb4
  go_wp2_with fail
  refine (quote_any l _ hg4 (by omega)).mono ?_
  rintro e w5 ⟨rfl, hb5⟩
  go_wp2_with fail
  refine (refQuote_any l _ (by omega)).mono ?_
  rintro e w6 ⟨rfl, hb6⟩
  go_wp2_with fail
  refine (alive_any _).mono ?_
  rintro e w7 ⟨rfl, hb7⟩
  go_wp2_with fail
  go_ret
  exact ⟨rfl, bthen (bthen (bthen B hb5) hb6) hb7⟩
end Go.Proofs.YtnpphfhjpflgiaaDoor
