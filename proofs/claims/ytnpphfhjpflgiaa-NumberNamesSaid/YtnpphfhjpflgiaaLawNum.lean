/- The walks of NumberShows, NumberBases, NumberDigits, NumberNames. -/
import Derived.Test.YtnpphfhjpflgiaaAlive3
import Derived.Test.YtnpphfhjpflgiaaRefShow
import Derived.Test.YtnpphfhjpflgiaaDigits
import Derived.Test.YtnpphfhjpflgiaaRefName
import Derived.Test.YtnpphfhjpflgiaaPureNum2
namespace Go.Proofs.Ytnpphfhjpflgiaa
open Go.RowKit

theorem nat_of_u16 {n : Int} (h : (Lit.int .u16 n).wf = true) : ∃ m : Nat, n = (m : Int) ∧ m ≤ 65535 := by
  simp [Lit.wf, IntKind.min, IntKind.max, IntKind.signed, IntKind.bits] at h
  exact ⟨n.toNat, by omega, by omega⟩

set_option maxHeartbeats 400000 in
theorem numberShows_walk (n : Int) (hn : (Lit.int .u16 n).wf = true) (w : World) :
    Calls Try.prog 4 #[.int .u16 n] w fun e w' => e = .returned (.bool true) ∧ Below w.heap.size w w' := by
  obtain ⟨m, rfl, hm⟩ := nat_of_u16 hn
  have hp := Lib.hid (show_back m hm)
  have hl : (showN m).length ≤ 1000000 := by
    by_cases h10 : m < 10
    · unfold showN; rw [if_pos h10]; simp
    · obtain ⟨c, r, h1, h2, _⟩ := show_short m h10 hm
      rw [h1]; simp; omega
  clear hn
  go_enter Try.func4, Try.ntmps4
  go_wp2_with fail
  refine (show_any m _ hm).mono ?_
  rintro e w1 ⟨rfl, hb1⟩
  go_wp2_with fail
  refine (parse_any _ _ hl).mono ?_
  rintro e w2 ⟨rfl, hb2⟩
  rw [hp.out]
  go_wp2_with fail
  refine (refShow_any m _ hm).mono ?_
  rintro e w3 ⟨rfl, hb3⟩
  go_wp2_with fail
  refine (alive_any _).mono ?_
  rintro e w4 ⟨rfl, hb4⟩
  go_wp2_with fail
  go_ret
  exact ⟨rfl, bthen (bthen (bthen hb1 hb2) hb3) hb4⟩

set_option maxHeartbeats 1000000 in
set_option maxRecDepth 100000 in
theorem numberBases_walk (n : Int) (hn : (Lit.int .u16 n).wf = true) (w : World) :
    Calls Try.prog 5 #[.int .u16 n] w fun e w' => e = .returned (.bool true) ∧ Below w.heap.size w w' := by
  obtain ⟨m, rfl, hm⟩ := nat_of_u16 hn
  have p1 := Lib.hid (bases_hex m hm)
  have p2 := Lib.hid (bases_letter m 8 79 (by omega) (by omega) hm (by decide) (by decide))
  have p3 := Lib.hid (bases_letter m 8 113 (by omega) (by omega) hm (by decide) (by decide))
  have p4 := Lib.hid (bases_letter m 2 66 (by omega) (by omega) hm (by decide) (by decide))
  have p5 := Lib.hid (bases_letter m 10 100 (by omega) (by omega) hm (by decide) (by decide))
  have p6 := Lib.hid (bases_ten m hm)
  have l16 := digits_len m 16
  have l8 := digits_len m 8
  have l2 := digits_len m 2
  have l10 := digits_len m 10
  clear hn
  go_enter Try.func5, Try.ntmps5
  go_wp2_with fail
  refine (digits_any m 16 _ hm (by omega) (by omega)).mono ?_
  rintro e w1 ⟨rfl, hb1⟩
  go_wp2_with fail
  refine (parse_any (48 :: (digitsN m 16 ++ [72])) _ (by simp; omega)).mono ?_
  rintro e w2 ⟨rfl, hb2⟩
  rw [p1.out]
  have B := bthen hb1 hb2
  clear hb1 hb2
  go_wp2_with fail
  refine (digits_any m 8 _ hm (by omega) (by omega)).mono ?_
  rintro e w3 ⟨rfl, hb1⟩
  go_wp2_with fail
  refine (parse_any (digitsN m 8 ++ [79]) _ (by simp; omega)).mono ?_
  rintro e w4 ⟨rfl, hb2⟩
  rw [p2.out]
  replace B := bthen (bthen B hb1) hb2
  clear hb1 hb2
  go_wp2_with fail
  refine (digits_any m 8 _ hm (by omega) (by omega)).mono ?_
  rintro e w5 ⟨rfl, hb1⟩
  go_wp2_with fail
  refine (parse_any (digitsN m 8 ++ [113]) _ (by simp; omega)).mono ?_
  rintro e w6 ⟨rfl, hb2⟩
  rw [p3.out]
  replace B := bthen (bthen B hb1) hb2
  clear hb1 hb2
  go_wp2_with fail
  refine (digits_any m 2 _ hm (by omega) (by omega)).mono ?_
  rintro e w7 ⟨rfl, hb1⟩
  go_wp2_with fail
  refine (parse_any (digitsN m 2 ++ [66]) _ (by simp; omega)).mono ?_
  rintro e w8 ⟨rfl, hb2⟩
  rw [p4.out]
  replace B := bthen (bthen B hb1) hb2
  clear hb1 hb2
  go_wp2_with fail
  refine (digits_any m 10 _ hm (by omega) (by omega)).mono ?_
  rintro e w9 ⟨rfl, hb1⟩
  go_wp2_with fail
  refine (parse_any (digitsN m 10 ++ [100]) _ (by simp; omega)).mono ?_
  rintro e w10 ⟨rfl, hb2⟩
  rw [p5.out]
  replace B := bthen (bthen B hb1) hb2
  clear hb1 hb2
  go_wp2_with fail
  refine (digits_any m 10 _ hm (by omega) (by omega)).mono ?_
  rintro e w11 ⟨rfl, hb1⟩
  go_wp2_with fail
  refine (parse_any (digitsN m 10) _ (by omega)).mono ?_
  rintro e w12 ⟨rfl, hb2⟩
  rw [p6.out]
  replace B := bthen (bthen B hb1) hb2
  clear hb1 hb2
  go_wp2_with fail
  refine (alive_any _).mono ?_
  rintro e w13 ⟨rfl, hb3⟩
  go_wp2_with fail
  go_ret
  exact ⟨rfl, bthen B hb3⟩

set_option maxHeartbeats 1000000 in
theorem numberDigits_walk (n : Int) (hn : (Lit.int .u16 n).wf = true) (w : World) :
    Calls Try.prog 6 #[.int .u16 n] w fun e w' => e = .returned (.bool true) ∧ Below w.heap.size w w' := by
  obtain ⟨m, rfl, hm⟩ := nat_of_u16 hn
  clear hn
  by_cases h10 : m < 10
  · have hs : ∃ c, showN m = [c] ∧ 48 ≤ c.toNat ∧ c.toNat ≤ 57 := by
      unfold showN; rw [if_pos h10]
      exact ⟨_, rfl, by rw [UInt8.toNat_ofNat']; omega, by rw [UInt8.toNat_ofNat']; omega⟩
    obtain ⟨c, hc, c1, c2⟩ := hs
    have HC := Lib.hid hc
    have h10' : (m : Int) < 10 := by omega
    have d1 : (48 : Int) ≤ (c.toNat : Int) := by omega
    have d2 : (c.toNat : Int) ≤ 57 := by omega
    clear hc
    go_enter Try.func6, Try.ntmps6
    go_wp2_with fail
    refine (show_any m _ hm).mono ?_
    rintro e w1 ⟨rfl, hb1⟩
    rw [HC.out]
    go_wp2_with fail
    refine (alive_any _).mono ?_
    rintro e w2 ⟨rfl, hb2⟩
    go_wp2_with fail
    go_ret
    exact ⟨rfl, bthen hb1 hb2⟩
  · obtain ⟨c, r, hc, hl, c1, c2, hw⟩ := show_short m h10 hm
    have HC := Lib.hid hc
    have h10' : (10 : Int) ≤ (m : Int) := by omega
    have d1 : (48 : Int) ≤ (c.toNat : Int) := by omega
    have d2 : (c.toNat : Int) ≤ 57 := by omega
    have d3 : (r.length : Int) + 1 ≤ 6 := by omega
    clear hc
    rcases hw with ⟨h48, hp⟩ | ⟨h48, hp⟩
    · have e48 : ((c.toNat : Int) == 48) = true := by rw [h48]; rfl
      have HP := Lib.hid hp
      clear h48 hp
      go_enter Try.func6, Try.ntmps6
      go_wp2_with fail
      refine (show_any m _ hm).mono ?_
      rintro e w1 ⟨rfl, hb1⟩
      rw [HC.out]
      go_wp2_with fail
      refine (parse_any r _ (by omega)).mono ?_
      rintro e w2 ⟨rfl, hb2⟩
      rw [HP.out]
      go_wp2_with fail
      refine (alive_any _).mono ?_
      rintro e w3 ⟨rfl, hb3⟩
      go_wp2_with fail
      go_ret
      exact ⟨rfl, bthen (bthen hb1 hb2) hb3⟩
    · have e48 : ((c.toNat : Int) == 48) = false := by rw [beq_eq_false_iff_ne]; omega
      have HP : (((parse (48 :: r)).1 : Int) != (m : Int)) = true := by rw [bne_iff_ne]; omega
      clear h48 hp
      go_enter Try.func6, Try.ntmps6
      go_wp2_with fail
      refine (show_any m _ hm).mono ?_
      rintro e w1 ⟨rfl, hb1⟩
      rw [HC.out]
      go_wp2_with fail
      refine (parse_any (48 :: r) _ (by simp; omega)).mono ?_
      rintro e w2 ⟨rfl, hb2⟩
      go_wp2_with fail
      refine (alive_any _).mono ?_
      rintro e w3 ⟨rfl, hb3⟩
      go_wp2_with fail
      go_ret
      exact ⟨rfl, bthen (bthen hb1 hb2) hb3⟩

theorem upper_upper (l : List UInt8) : upper (upper l) = upper l := by
  have h : ∀ n : Fin 256, upB (upB (UInt8.ofNat n.val)) = upB (UInt8.ofNat n.val) := by decide +kernel
  unfold upper
  rw [List.map_map]
  apply List.map_congr_left
  intro c _
  have := h ⟨c.toNat, c.toNat_lt⟩
  simpa using this

set_option maxHeartbeats 400000 in
theorem numberNames_walk (l : List UInt8) (hl : l.length ≤ maxLen) (w : World) :
    Calls Try.prog 7 #[.string ⟨l.toArray⟩] w fun e w' => e = .returned (.bool true) ∧ Below w.heap.size w w' := by
  unfold maxLen at hl
  have hu := Lib.hid (upper_upper l)
  have hul := Lib.hid (upper_length l)
  by_cases h : 1000 < l.length
  · have h' : (1000 : Int) < (l.length : Int) := by omega
    go_enter Try.func7, Try.ntmps7
    go_wp2_with fail
    refine (alive_any _).mono ?_
    rintro e w1 ⟨rfl, hb⟩
    go_wp2_with fail
    go_ret
    exact ⟨rfl, hb⟩
  · have h' : (l.length : Int) ≤ 1000 := by omega
    go_enter Try.func7, Try.ntmps7
    go_wp2_with fail
    refine (name_any l _ (by omega)).mono ?_
    rintro e w1 ⟨rfl, rfl⟩
    go_wp2_with fail
    refine (refName_any l _ (by omega)).mono ?_
    rintro e w1 ⟨rfl, rfl⟩
    go_wp2_with fail
    refine (upper_any l _ (by omega)).mono ?_
    rintro e w1 ⟨rfl, hb1⟩
    go_wp2_with fail
    refine (refUpper_any l _ (by omega)).mono ?_
    rintro e w2 ⟨rfl, hb2⟩
    go_wp2_with fail
    refine (upper_any l _ (by omega)).mono ?_
    rintro e w3 ⟨rfl, hb3⟩
    go_wp2_with fail
    refine (upper_any (upper l) _ (by rw [hul.out]; omega)).mono ?_
    rintro e w4 ⟨rfl, hb4⟩
    rw [hu.out]
    go_wp2_with fail
    refine (upper_any l _ (by omega)).mono ?_
    rintro e w5 ⟨rfl, hb5⟩
    go_wp2_with fail
    refine (alive_any _).mono ?_
    rintro e w6 ⟨rfl, hb6⟩
    go_wp2_with fail
    go_ret
    exact ⟨rfl, bthen (bthen (bthen (bthen (bthen hb1 hb2) hb3) hb4) hb5) hb6⟩
end Go.Proofs.Ytnpphfhjpflgiaa
